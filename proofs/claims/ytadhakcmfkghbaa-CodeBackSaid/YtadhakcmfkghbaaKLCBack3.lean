/- Parts of a proof: The reader: rows of atoms.; code.within, of, ends, checker.atom, places, number, fix, ins; A logic of trees, part 33: regions whose order is drawn, that write, and in which calls may panic.; The reader: an instruction.; code.checker.number, fix, ins; small functions of layers 5 and 8: Has, HasInt, Index, Contains, IsFun, fun, Fun, Con, Clone, kids; Args, Answer, All, Vars, Metas of the document; Args of the program; cognatelaw08.count, Small; All, Vars, Metas of the document; Args of the program; smalls; walk, and what goes along with it: Vars, Metas, Size; prelude.rows, prelude.Prims (printed by wip/gen19.py).; prelude.Prims; When an instruction is right, as the document says it.; cognateref29.Has, in, rightAtom, rightAtoms; cognateref19.Takes; cognateref29.ins; code.Right, cognateref29.Right; The reader: a code.; Decode's closure.; Decode.; code.writer: an instruction.; A logic of trees, part 34: a text's bytes appended.; What a right code makes sure of; its bytes.; Encode. -/
import Derived.Test.YtadhakcmfkghbaaKLCBack2
import Derived.Lib.AppendStr
set_option maxRecDepth 100000
set_option maxHeartbeats 4000000
namespace Go.Proofs.Ytadhakcmfkghbaa
open Go.RowKit
theorem manyR_step {α:Type} {R:List Int→Option (α × List Int)} {n k:Nat} {l l1:List Int} {acc:List α} (h:manyR R n l=(manyR R (n - k) l1).map fun q=>(acc++q.1,q.2)) (hk:k<n) :
    (R l1=none→manyR R n l=none)∧∀ x l2,R l1=some (x,l2)→manyR R n l=(manyR R (n - (k+1)) l2).map fun q=>(acc++[x]++q.1,q.2):=by
 rw [show n - k=(n - (k+1))+1 by omega] at h
 constructor
 ·intro e;rw [h,manyR,e];rfl
 intro x l2 e
 rw [h,manyR,e]
 simp only [Option.bind_some,Option.map_map]
 congr 1
 funext q
 simp
def ReadsN {α:Type} (f:FuncId) (R:Nat→List Int→Option (α × List Int)) (val:α→AV):Prop:=∀ (n b p:Nat) (bs:List Int),Byt bs→p≤bs.length→bs.length≤100000000→n≤100000000 →
 ACallX Try.prog f [.ptr b 0,.val (.int .i64 n)] [.loc b (rdC bs p)] (fun v M'=>∃ x p',R n (bs.drop p)=some (x,bs.drop p')∧p≤p'∧p'≤bs.length∧v=val x∧M'=[.loc b (rdC bs p')]) (Gives bs (R n (bs.drop p)=none))
theorem atoms_r:ReadsN 73 (manyR atoR) (fun l=>.seq 2 (Ato.cellss l)):=by
 intro n b p bs hb hp hl hn
 refine ACallX.enter Try.func73 V (by kernel_rfl) V (Yj V) ?_
 refine Qj ?_
 refine Qau ?_
 refine Qat ?_
 refine QG ?_
 refine c_ownNew 41 2 ?_
 apply c_loopk (rg [(1,3),(5,1),(7,8)]) (σ:=Nat × List Ato × Nat × Value) (fun zz=>match zz with|(k,acc,q,u)=>[(5,.own u 2 (Ato.cellss acc)),(7,.val (.int .i64 k))]) (fun zz=>match zz with|(k,acc,q,u)=>[.loc b (rdC bs q),.own 41 2 u]) (fun zz=>match zz with|(k,acc,q,u)=>k≤n∧acc.length=k∧p≤q∧q≤bs.length∧manyR atoR n (bs.drop p)=(manyR atoR (n - k) (bs.drop q)).map fun x=>(acc++x.1,x.2)) (fun zz=>match zz with|(k,acc,q,u)=>n - k) ((0,[],p,.slice none 0 0))
 ·repeat' (first|exact Ym|apply Yk rfl|apply Yl rfl)
 ·exact ⟨Nat.zero_le _,V,Nat.le_refl _,hp,by simp⟩
 ·exact SLe.cons V (Le.nilOwn 2) (SLe.cons V (Yf _) (SLe.nil _))
 ·exact (Ye V)
 rintro ⟨k,acc,q,u⟩ hI
 try dsimp only [List.cons_append,List.nil_append] at hI ⊢
 obtain ⟨h1,h2,h3,h4,h5⟩:=hI
 have hle:(Ato.cellss acc).length≤100000000:=by rw [Ato.cellss_len];omega
 refine Qy ?_;intro c8 h8
 refine Qf ?_
 obtain ⟨rfl,g8⟩|⟨rfl,g8⟩:=Za h8
 ·refine QZ ?_
  refine QaT ?_
  refine Qi ?_
  have e:n - k=0:=by omega
  rw [e] at h5
  exact Zd (R:=fun v M'=>_) V V (Le.own _ _ _) by1 ⟨acc,q,by rw [h5];simp [manyR],h3,h4,V,V⟩
 refine QaN ?_
 refine QE ?_
 refine QK ?_
 have H:=atom_r b q bs hb h4 hl
 obtain ⟨hs1,hs2⟩:=manyR_step h5 by10
 refine QO ?_
 refine Qck ?_
 refine AOpsX.st 10 V V V (Zg V V ?_)
 refine AOpsX.cl 11 [0] (xs:=[.tmp 10]) V V V V V V (H) by0 (fun c h=>Ze c ⟨hs1 h.1,h.2⟩) ?_
 rintro v9 M9 ⟨⟨xk,xn⟩,q',hr,hq1,hq2,rfl,rfl⟩
 refine AOpsX.st 12 V V V (Zp (xs:=[.tmp 11]) el_42 V V V V V V (Yj V) (AOpsX.st 13 V V V (op_append (i:=1) el_42 V V V V (.seq _ _) by4 ?_)))
 intro u13
 refine AOpsX.st 5 V V V (op_assign V V ?_)
 refine Qaa ?_
 refine Q0 ?_
 exact ⟨(k+1,acc++[Ato.mk xk xn],q',u13),⟨by show k+1≤n;omega,by simp [h2],by show p≤q';omega,hq2,hs2 _ _ hr⟩,by show n - (k+1)<n - k;omega,SLe.cons V (Le.own_eq (by simp [Ato.cellss];rfl)) by2,by1⟩
abbrev ckCells (c:Cd) (f:Cf) (fr to:Int) (ps:List Pm):List AV:=c.cells++(f.cells++[.val (.int .i64 fr),.val (.int .i64 to),.seq 9 (Pm.cellss ps)])
theorem within_c (n top:Int):BCall Try.prog 13 [.val (.int .i64 n),.val (.int .i64 top)] (0≤n∧n<top):=by
 refine Zc Try.func13 V (by kernel_rfl) V (Yj V) ?_
 refine Qj ?_
 refine Qp ?_
 refine Zu 4 (0≤n∧n<top) ?_ _ _ V ?_
 ·skip
  refine Qa ?_
  refine Qac ?_;intro c6 h6
  refine Qa ?_
  obtain ⟨rfl,g6⟩|⟨rfl,g6⟩:=Za h6
  ·skip
   refine QaK ?_
   refine Yi V ?_ by3 by1
   simp_all;omega
  skip
  refine Qm ?_
  refine Qm ?_
  refine Qbi ?_;intro c10 h10
  refine Qq ?_
  refine Yi V ?_ by3 by1
  simp_all;done
 intro c4 h4
 refine QI ?_
 exact Zd V V (Yf _) by1 ⟨⟨_,h4,V⟩,V⟩
theorem short_c (s:ByteArray):BCall Try.prog 15 ([]++[.val (.string s)]++[]) (s.size≤1048576):=by
 refine Zc Try.func15 V (by kernel_rfl) V (Yj V) ?_
 refine Qj ?_
 refine Q1 ?_
 refine QbW ?_
 refine Qch ?_;intro c5 h5
 refine Qi ?_
 exact Zd V V (Yf _) by1 ⟨⟨_,h5.trans by10,V⟩,V⟩
theorem ends_c (i:Is):BCall Try.prog 19 [.agg i.cells] (i.op=6∨i.op=7∨i.op=14∨i.op=15):=by
 obtain ⟨op,a,b,n,ar,fs,cp⟩:=i
 show BCall _ _ _ (op=6∨op=7∨op=14∨op=15)
 refine Zc Try.func19 V (by kernel_rfl) V (Yj V) ?_
 refine Qj ?_
 refine Qbr ?_
 refine Qp ?_
 refine Zu 2 (op=6∨op=7∨op=14∨op=15) ?_ _ _ V ?_
 ·skip
  refine Qn ?_
  refine QA ?_;intro c5 h5
  refine Qa ?_
  obtain ⟨rfl,g5⟩|⟨rfl,g5⟩:=Za h5
  ·skip
   refine QaW ?_;intro c9 h9
   refine Qc ?_
   obtain ⟨rfl,g9⟩|⟨rfl,g9⟩:=Za h9
   ·skip
    refine QaW ?_;intro c14 h14
    refine Qc ?_
    obtain ⟨rfl,g14⟩|⟨rfl,g14⟩:=Za h14
    ·skip
     refine QaW ?_;intro c19 h19
     refine Qq ?_
     refine Yi V ?_ by3 by1
     simp_all;done
    skip
    refine QaK ?_
    refine Yi V ?_ by3 by1
    simp_all;done
   skip
   refine Qa8 ?_
   refine QaK ?_
   refine Yi V ?_ by3 by1
   simp_all;done
  skip
  refine Qa8 ?_
  refine Qa8 ?_
  refine QaK ?_
  refine Yi V ?_ by3 by1
  simp_all;done
 intro c2 h2
 refine QI ?_
 exact Zd V V (Yf _) by1 ⟨⟨_,h2,V⟩,V⟩
theorem of_c (op:Int):PCall Try.prog 41 [.val (.int .i64 op)] (.tup [.agg [.val (.bool (opA op)),.val (.bool (opB op)),.val (.bool (opN op)),.val (.bool (opS op)),.val (.int .i64 (opG op))],.val (.bool (opOk op))]):=by
 refine Zc Try.func41 V (by kernel_rfl) V (Yj V) ?_
 refine Qj ?_
 refine QbC ?_;intro b2
 refine Qau ?_
 refine QbC ?_;intro b4
 refine Qf ?_
 refine QM ?_
 refine Qb ?_
 refine QY ?_
 refine QY ?_
 refine QY ?_
 refine QY ?_
 refine QY ?_
 refine QY ?_
 refine QY ?_
 refine QY ?_
 refine QY ?_
 refine QY ?_
 refine QY ?_
 refine QY ?_
 refine QY ?_
 refine QY ?_
 refine Ql ?_
 refine Q3 ?_;intro c7 h7
 refine Qk ?_
 obtain ⟨rfl,g7⟩|⟨rfl,g7⟩:=Za h7
 ·refine Qaw ?_
  refine Q3 ?_;intro c9 h9
  refine Qk ?_
  obtain ⟨rfl,g9⟩|⟨rfl,g9⟩:=Za h9
  ·refine QR ?_
   refine Qg ?_
   refine QA ?_;intro c10 h10
   refine Qk ?_
   obtain ⟨rfl,g10⟩|⟨rfl,g10⟩:=Za h10
   ·refine QF ?_
    refine Q3 ?_;intro c12 h12
    refine Qk ?_
    obtain ⟨rfl,g12⟩|⟨rfl,g12⟩:=Za h12
    ·refine Qaw ?_
     refine Q3 ?_;intro c14 h14
     refine Qk ?_
     obtain ⟨rfl,g14⟩|⟨rfl,g14⟩:=Za h14
     ·refine QR ?_
      refine Qg ?_
      refine QA ?_;intro c15 h15
      refine Qk ?_
      obtain ⟨rfl,g15⟩|⟨rfl,g15⟩:=Za h15
      ·refine QF ?_
       refine Q3 ?_;intro c17 h17
       refine Qk ?_
       obtain ⟨rfl,g17⟩|⟨rfl,g17⟩:=Za h17
       ·refine Qaw ?_
        refine Q3 ?_;intro c19 h19
        refine Qk ?_
        obtain ⟨rfl,g19⟩|⟨rfl,g19⟩:=Za h19
        ·refine QR ?_
         refine Qg ?_
         refine QA ?_;intro c20 h20
         refine Qk ?_
         obtain ⟨rfl,g20⟩|⟨rfl,g20⟩:=Za h20
         ·refine QF ?_
          refine Q3 ?_;intro c22 h22
          refine Qk ?_
          obtain ⟨rfl,g22⟩|⟨rfl,g22⟩:=Za h22
          ·refine QF ?_
           refine Q3 ?_;intro c24 h24
           refine Qk ?_
           obtain ⟨rfl,g24⟩|⟨rfl,g24⟩:=Za h24
           ·refine QF ?_
            refine Q3 ?_;intro c26 h26
            refine Qk ?_
            obtain ⟨rfl,g26⟩|⟨rfl,g26⟩:=Za h26
            ·refine QF ?_
             refine Q3 ?_;intro c28 h28
             refine Qk ?_
             obtain ⟨rfl,g28⟩|⟨rfl,g28⟩:=Za h28
             ·refine QF ?_
              refine Q3 ?_;intro c30 h30
              refine Qk ?_
              obtain ⟨rfl,g30⟩|⟨rfl,g30⟩:=Za h30
              ·refine Qr ?_
               refine QU ?_
               refine QA ?_;intro c32 h32
               refine Qk ?_
               obtain ⟨rfl,g32⟩|⟨rfl,g32⟩:=Za h32
               ·refine Qr ?_
                refine Qd ?_
                refine c_exit ?_
                refine QaD ?_
                refine Qas ?_
                refine x_here ?_
                refine QE ?_
                refine Qh ?_
                refine Qbx ?_
                refine Qby ?_
                refine Qi ?_
                refine out_ct (i:=1) V V V V ta_91 V (Le.tup (Yh (Le.agg (Yh (Le.beq ?_) (Yh (Le.beq ?_) (Yh (Le.beq ?_) (Yh (Le.beq ?_) (Yh (Le.ieq ?_) (Yg _))))))) (Yh (Le.beq ?_) (Yg _)))) by1 ⟨V,V⟩
                all_goals first|(subst_vars;rfl)|(simp only [opA,opB,opN,opS,opG,opOk];first|(symm;rw [decide_eq_false_iff_not];omega)|(symm;rw [decide_eq_true_iff];omega)|(repeat' split) <;> omega)
               refine Qz ?_
               refine c_exit (x_code ?_)
               refine QaD ?_
               refine Q4 ?_
               refine QaB ?_
               refine x_here ?_
               refine Qd ?_
               refine c_exit ?_
               refine QaL ?_
               refine out_ct (i:=1) V V V V ta_91 V (Le.tup (Yh (Le.agg (Yh (Le.beq ?_) (Yh (Le.beq ?_) (Yh (Le.beq ?_) (Yh (Le.beq ?_) (Yh (Le.ieq ?_) (Yg _))))))) (Yh (Le.beq ?_) (Yg _)))) by1 ⟨V,V⟩
               all_goals first|(subst_vars;rfl)|(simp only [opA,opB,opN,opS,opG,opOk];first|(symm;rw [decide_eq_false_iff_not];omega)|(symm;rw [decide_eq_true_iff];omega)|(repeat' split) <;> omega)
              refine Qap ?_
              refine QaD ?_
              refine Q4 ?_
              refine Qae ?_
              refine Q7 ?_
              refine Qb ?_
              refine c_exit ?_
              refine Q4 ?_
              refine Qae ?_
              refine Qbx ?_
              refine Qby ?_
              refine Qi ?_
              refine out_ct (i:=1) V V V V ta_91 V (Le.tup (Yh (Le.agg (Yh (Le.beq ?_) (Yh (Le.beq ?_) (Yh (Le.beq ?_) (Yh (Le.beq ?_) (Yh (Le.ieq ?_) (Yg _))))))) (Yh (Le.beq ?_) (Yg _)))) by1 ⟨V,V⟩
              all_goals first|(subst_vars;rfl)|(simp only [opA,opB,opN,opS,opG,opOk];first|(symm;rw [decide_eq_false_iff_not];omega)|(symm;rw [decide_eq_true_iff];omega)|(repeat' split) <;> omega)
             refine Qap ?_
             refine QaD ?_
             refine QaB ?_
             refine Qae ?_
             refine Q7 ?_
             refine Q7 ?_
             refine Q7 ?_
             refine Qb ?_
             refine c_exit ?_
             refine Q4 ?_
             refine QaL ?_
             refine out_ct (i:=1) V V V V ta_91 V (Le.tup (Yh (Le.agg (Yh (Le.beq ?_) (Yh (Le.beq ?_) (Yh (Le.beq ?_) (Yh (Le.beq ?_) (Yh (Le.ieq ?_) (Yg _))))))) (Yh (Le.beq ?_) (Yg _)))) by1 ⟨V,V⟩
             all_goals first|(subst_vars;rfl)|(simp only [opA,opB,opN,opS,opG,opOk];first|(symm;rw [decide_eq_false_iff_not];omega)|(symm;rw [decide_eq_true_iff];omega)|(repeat' split) <;> omega)
            refine Qap ?_
            refine QaD ?_
            refine Qae ?_
            refine Q7 ?_
            refine Qb ?_
            refine c_exit ?_
            refine Qas ?_
            refine Qae ?_
            refine Qbx ?_
            refine Qby ?_
            refine Qi ?_
            refine out_ct (i:=1) V V V V ta_91 V (Le.tup (Yh (Le.agg (Yh (Le.beq ?_) (Yh (Le.beq ?_) (Yh (Le.beq ?_) (Yh (Le.beq ?_) (Yh (Le.ieq ?_) (Yg _))))))) (Yh (Le.beq ?_) (Yg _)))) by1 ⟨V,V⟩
            all_goals first|(subst_vars;rfl)|(simp only [opA,opB,opN,opS,opG,opOk];first|(symm;rw [decide_eq_false_iff_not];omega)|(symm;rw [decide_eq_true_iff];omega)|(repeat' split) <;> omega)
           refine Qap ?_
           refine Qas ?_
           refine Q4 ?_
           refine QaB ?_
           refine Qae ?_
           refine Q7 ?_
           refine Qb ?_
           refine c_exit ?_
           refine Qas ?_
           refine QaL ?_
           refine out_ct (i:=1) V V V V ta_91 V (Le.tup (Yh (Le.agg (Yh (Le.beq ?_) (Yh (Le.beq ?_) (Yh (Le.beq ?_) (Yh (Le.beq ?_) (Yh (Le.ieq ?_) (Yg _))))))) (Yh (Le.beq ?_) (Yg _)))) by1 ⟨V,V⟩
           all_goals first|(subst_vars;rfl)|(simp only [opA,opB,opN,opS,opG,opOk];first|(symm;rw [decide_eq_false_iff_not];omega)|(symm;rw [decide_eq_true_iff];omega)|(repeat' split) <;> omega)
          refine Qap ?_
          refine Qas ?_
          refine Q4 ?_
          refine Qae ?_
          refine Q7 ?_
          refine Q7 ?_
          refine Qa9 ?_
          refine Qas ?_
          refine Q4 ?_
          refine Qae ?_
          refine Qbx ?_
          refine Qby ?_
          refine Qi ?_
          refine out_ct (i:=1) V V V V ta_91 V (Le.tup (Yh (Le.agg (Yh (Le.beq ?_) (Yh (Le.beq ?_) (Yh (Le.beq ?_) (Yh (Le.beq ?_) (Yh (Le.ieq ?_) (Yg _))))))) (Yh (Le.beq ?_) (Yg _)))) by1 ⟨V,V⟩
          all_goals first|(subst_vars;rfl)|(simp only [opA,opB,opN,opS,opG,opOk];first|(symm;rw [decide_eq_false_iff_not];omega)|(symm;rw [decide_eq_true_iff];omega)|(repeat' split) <;> omega)
         refine Qap ?_
         refine Qas ?_
         refine QaB ?_
         refine Qae ?_
         refine Q7 ?_
         refine Q7 ?_
         refine Qa9 ?_
         refine Qas ?_
         refine Q4 ?_
         refine QaL ?_
         refine out_ct (i:=1) V V V V ta_91 V (Le.tup (Yh (Le.agg (Yh (Le.beq ?_) (Yh (Le.beq ?_) (Yh (Le.beq ?_) (Yh (Le.beq ?_) (Yh (Le.ieq ?_) (Yg _))))))) (Yh (Le.beq ?_) (Yg _)))) by1 ⟨V,V⟩
         all_goals first|(subst_vars;rfl)|(simp only [opA,opB,opN,opS,opG,opOk];first|(symm;rw [decide_eq_false_iff_not];omega)|(symm;rw [decide_eq_true_iff];omega)|(repeat' split) <;> omega)
        refine QaN ?_
        refine Qd ?_
        refine Qap ?_
        refine Qas ?_
        refine QaB ?_
        refine Qae ?_
        refine Q7 ?_
        refine Q7 ?_
        refine Qa9 ?_
        refine Qas ?_
        refine Q4 ?_
        refine QaL ?_
        refine out_ct (i:=1) V V V V ta_91 V (Le.tup (Yh (Le.agg (Yh (Le.beq ?_) (Yh (Le.beq ?_) (Yh (Le.beq ?_) (Yh (Le.beq ?_) (Yh (Le.ieq ?_) (Yg _))))))) (Yh (Le.beq ?_) (Yg _)))) by1 ⟨V,V⟩
        all_goals first|(subst_vars;rfl)|(simp only [opA,opB,opN,opS,opG,opOk];first|(symm;rw [decide_eq_false_iff_not];omega)|(symm;rw [decide_eq_true_iff];omega)|(repeat' split) <;> omega)
       refine Qap ?_
       refine Qas ?_
       refine Qae ?_
       refine Q7 ?_
       refine Q7 ?_
       refine Qb ?_
       refine c_exit ?_
       refine QaD ?_
       refine Qae ?_
       refine Qbx ?_
       refine Qby ?_
       refine Qi ?_
       refine out_ct (i:=1) V V V V ta_91 V (Le.tup (Yh (Le.agg (Yh (Le.beq ?_) (Yh (Le.beq ?_) (Yh (Le.beq ?_) (Yh (Le.beq ?_) (Yh (Le.ieq ?_) (Yg _))))))) (Yh (Le.beq ?_) (Yg _)))) by1 ⟨V,V⟩
       all_goals first|(subst_vars;rfl)|(simp only [opA,opB,opN,opS,opG,opOk];first|(symm;rw [decide_eq_false_iff_not];omega)|(symm;rw [decide_eq_true_iff];omega)|(repeat' split) <;> omega)
      refine Qap ?_
      refine Q4 ?_
      refine QaB ?_
      refine Qae ?_
      refine Qs ?_
      refine QS ?_
      refine Qa9 ?_
      refine QaD ?_
      refine QaL ?_
      refine out_ct (i:=1) V V V V ta_91 V (Le.tup (Yh (Le.agg (Yh (Le.beq ?_) (Yh (Le.beq ?_) (Yh (Le.beq ?_) (Yh (Le.beq ?_) (Yh (Le.ieq ?_) (Yg _))))))) (Yh (Le.beq ?_) (Yg _)))) by1 ⟨V,V⟩
      all_goals first|(subst_vars;rfl)|(simp only [opA,opB,opN,opS,opG,opOk];first|(symm;rw [decide_eq_false_iff_not];omega)|(symm;rw [decide_eq_true_iff];omega)|(repeat' split) <;> omega)
     refine QaN ?_
     refine Qd ?_
     refine Qap ?_
     refine Q4 ?_
     refine QaB ?_
     refine Qae ?_
     refine Qs ?_
     refine QS ?_
     refine Qa9 ?_
     refine QaD ?_
     refine QaL ?_
     refine out_ct (i:=1) V V V V ta_91 V (Le.tup (Yh (Le.agg (Yh (Le.beq ?_) (Yh (Le.beq ?_) (Yh (Le.beq ?_) (Yh (Le.beq ?_) (Yh (Le.ieq ?_) (Yg _))))))) (Yh (Le.beq ?_) (Yg _)))) by1 ⟨V,V⟩
     all_goals first|(subst_vars;rfl)|(simp only [opA,opB,opN,opS,opG,opOk];first|(symm;rw [decide_eq_false_iff_not];omega)|(symm;rw [decide_eq_true_iff];omega)|(repeat' split) <;> omega)
    refine Qap ?_
    refine Q4 ?_
    refine x_here ?_
    refine Qd ?_
    refine QaV ?_
    refine QS ?_
    refine QN ?_
    refine Qb9 ?_
    refine Qx ?_
    refine QW ?_
    refine QU ?_
    refine Qs ?_
    refine QS ?_
    refine Qa9 ?_
    refine QaD ?_
    refine QaL ?_
    refine out_ct (i:=1) V V V V ta_91 V (Le.tup (Yh (Le.agg (Yh (Le.beq ?_) (Yh (Le.beq ?_) (Yh (Le.beq ?_) (Yh (Le.beq ?_) (Yh (Le.ieq ?_) (Yg _))))))) (Yh (Le.beq ?_) (Yg _)))) by1 ⟨V,V⟩
    all_goals first|(subst_vars;rfl)|(simp only [opA,opB,opN,opS,opG,opOk];first|(symm;rw [decide_eq_false_iff_not];omega)|(symm;rw [decide_eq_true_iff];omega)|(repeat' split) <;> omega)
   refine Qap ?_
   refine QaB ?_
   refine x_here ?_
   refine QE ?_
   refine Qh ?_
   refine Q7 ?_
   refine Qb ?_
   refine QaV ?_
   refine QS ?_
   refine Qa9 ?_
   refine QaD ?_
   refine Q4 ?_
   refine QaL ?_
   refine out_ct (i:=1) V V V V ta_91 V (Le.tup (Yh (Le.agg (Yh (Le.beq ?_) (Yh (Le.beq ?_) (Yh (Le.beq ?_) (Yh (Le.beq ?_) (Yh (Le.ieq ?_) (Yg _))))))) (Yh (Le.beq ?_) (Yg _)))) by1 ⟨V,V⟩
   all_goals first|(subst_vars;rfl)|(simp only [opA,opB,opN,opS,opG,opOk];first|(symm;rw [decide_eq_false_iff_not];omega)|(symm;rw [decide_eq_true_iff];omega)|(repeat' split) <;> omega)
  refine QaN ?_
  refine Qd ?_
  refine Qap ?_
  refine QaB ?_
  refine x_here ?_
  refine QE ?_
  refine Qh ?_
  refine Q7 ?_
  refine Qb ?_
  refine QaV ?_
  refine QS ?_
  refine Qa9 ?_
  refine QaD ?_
  refine Q4 ?_
  refine QaL ?_
  refine out_ct (i:=1) V V V V ta_91 V (Le.tup (Yh (Le.agg (Yh (Le.beq ?_) (Yh (Le.beq ?_) (Yh (Le.beq ?_) (Yh (Le.beq ?_) (Yh (Le.ieq ?_) (Yg _))))))) (Yh (Le.beq ?_) (Yg _)))) by1 ⟨V,V⟩
  all_goals first|(subst_vars;rfl)|(simp only [opA,opB,opN,opS,opG,opOk];first|(symm;rw [decide_eq_false_iff_not];omega)|(symm;rw [decide_eq_true_iff];omega)|(repeat' split) <;> omega)
 refine Qap ?_
 refine x_here ?_
 refine Qd ?_
 refine QaV ?_
 refine QS ?_
 refine QN ?_
 refine Qb9 ?_
 refine Qx ?_
 refine QW ?_
 refine QE ?_
 refine Qh ?_
 refine Q7 ?_
 refine Qb ?_
 refine QaV ?_
 refine QS ?_
 refine Qa9 ?_
 refine QaD ?_
 refine Q4 ?_
 refine QaL ?_
 refine out_ct (i:=1) V V V V ta_91 V (Le.tup (Yh (Le.agg (Yh (Le.beq ?_) (Yh (Le.beq ?_) (Yh (Le.beq ?_) (Yh (Le.beq ?_) (Yh (Le.ieq ?_) (Yg _))))))) (Yh (Le.beq ?_) (Yg _)))) by1 ⟨V,V⟩
 all_goals first|(subst_vars;rfl)|(simp only [opA,opB,opN,opS,opG,opOk];first|(symm;rw [decide_eq_false_iff_not];omega)|(symm;rw [decide_eq_true_iff];omega)|(repeat' split) <;> omega)
theorem atom_c (c:Cd) (f:Cf) (fr to:Int) (ps:List Pm) (a:Ato):BCall Try.prog 45 ([.agg (ckCells c f fr to ps)]++[.agg a.cells]++[]) (AtomP f c.gl a):=by
 obtain ⟨is,fu,tx,gl,ys,no⟩:=c
 obtain ⟨fl,sl,cp⟩:=f
 obtain ⟨k,n⟩:=a
 show BCall _ _ _ (k=1∨(0≤n∧((k=2∧n<sl)∨(k=3∧n<cp)∨(k=4∧n<gl))))
 refine Zc Try.func45 V (by kernel_rfl) V (Yj V) ?_
 refine Qj ?_
 refine QbJ ?_
 refine Zb 3 V V V (op_boxc (cs':=[_,_]) V V V V ?_)
 refine Qau ?_
 refine Qp ?_
 refine QV ?_
 refine Qb ?_
 refine QK ?_
 refine Q3 ?_;intro c9 h9
 refine Qk ?_
 obtain ⟨rfl,g9⟩|⟨rfl,g9⟩:=Za h9
 ·refine QR ?_
  refine Q3 ?_;intro c11 h11
  refine Qk ?_
  obtain ⟨rfl,g11⟩|⟨rfl,g11⟩:=Za h11
  ·refine QR ?_
   refine Q3 ?_;intro c16 h16
   refine Qk ?_
   obtain ⟨rfl,g16⟩|⟨rfl,g16⟩:=Za h16
   ·refine QR ?_
    refine Q3 ?_;intro c21 h21
    refine Qk ?_
    obtain ⟨rfl,g21⟩|⟨rfl,g21⟩:=Za h21
    ·refine Qr ?_
     refine QW ?_
     refine QE ?_
     refine Zu 4 (k=1∨(0≤n∧((k=2∧n<sl)∨(k=3∧n<cp)∨(k=4∧n<gl)))) ?_ _ _ V ?_
     ·skip
      refine Qn ?_
      refine Qac ?_;intro c27 h27
      refine Qa ?_
      obtain ⟨rfl,g27⟩|⟨rfl,g27⟩:=Za h27
      ·skip
       refine Qo ?_
       refine Qq ?_
       refine Yi V ?_ by3 by1
       simp_all;done
      skip
      refine Qe ?_
      refine Qm ?_
      refine Qbi ?_;intro c32 h32
      refine Qq ?_
      refine Yi V ?_ by3 by1
      simp_all;done
     intro c4 h4
     refine QI ?_
     exact Zd V V (Yf _) by1 ⟨⟨_,h4,V⟩,V⟩
    refine Qz ?_
    refine Qg ?_
    refine QbF ?_
    refine Qn ?_
    refine QaZ ?_
    refine QW ?_
    refine QE ?_
    refine Zu 4 (k=1∨(0≤n∧((k=2∧n<sl)∨(k=3∧n<cp)∨(k=4∧n<gl)))) ?_ _ _ V ?_
    ·skip
     refine Qn ?_
     refine Qac ?_;intro c27 h27
     refine Qa ?_
     obtain ⟨rfl,g27⟩|⟨rfl,g27⟩:=Za h27
     ·skip
      refine Qo ?_
      refine Qq ?_
      refine Yi V ?_ by3 by1
      simp_all;omega
     skip
     refine Qe ?_
     refine Qm ?_
     refine Qbi ?_;intro c32 h32
     refine Qq ?_
     refine Yi V ?_ by3 by1
     simp_all;done
    intro c4 h4
    refine QI ?_
    exact Zd V V (Yf _) by1 ⟨⟨_,h4,V⟩,V⟩
   refine Qz ?_
   refine Qg ?_
   refine QbF ?_
   refine Qn ?_
   refine QaZ ?_
   refine QW ?_
   refine QE ?_
   refine Zu 4 (k=1∨(0≤n∧((k=2∧n<sl)∨(k=3∧n<cp)∨(k=4∧n<gl)))) ?_ _ _ V ?_
   ·skip
    refine Qn ?_
    refine Qac ?_;intro c27 h27
    refine Qa ?_
    obtain ⟨rfl,g27⟩|⟨rfl,g27⟩:=Za h27
    ·skip
     refine Qo ?_
     refine Qq ?_
     refine Yi V ?_ by3 by1
     simp_all;omega
    skip
    refine Qe ?_
    refine Qm ?_
    refine Qbi ?_;intro c32 h32
    refine Qq ?_
    refine Yi V ?_ by3 by1
    simp_all;done
   intro c4 h4
   refine QI ?_
   exact Zd V V (Yf _) by1 ⟨⟨_,h4,V⟩,V⟩
  refine Qz ?_
  refine Qg ?_
  refine QbF ?_
  refine Qn ?_
  refine QaZ ?_
  refine QW ?_
  refine QE ?_
  refine Zu 4 (k=1∨(0≤n∧((k=2∧n<sl)∨(k=3∧n<cp)∨(k=4∧n<gl)))) ?_ _ _ V ?_
  ·skip
   refine Qn ?_
   refine Qac ?_;intro c27 h27
   refine Qa ?_
   obtain ⟨rfl,g27⟩|⟨rfl,g27⟩:=Za h27
   ·skip
    refine Qo ?_
    refine Qq ?_
    refine Yi V ?_ by3 by1
    simp_all;omega
   skip
   refine Qe ?_
   refine Qm ?_
   refine Qbi ?_;intro c32 h32
   refine Qq ?_
   refine Yi V ?_ by3 by1
   simp_all;done
  intro c4 h4
  refine QI ?_
  exact Zd V V (Yf _) by1 ⟨⟨_,h4,V⟩,V⟩
 refine QB ?_
 exact Zd V V (Yf _) by1 ⟨⟨_,iff_t (.inl g9),V⟩,V⟩
theorem places_c (c:Cd) (f:Cf) (fr to:Int) (ps:List Pm) (i:Is) (fa fb fn fg:Bool) (ag:Int):BCall Try.prog 42 [.agg (ckCells c f fr to ps),.agg i.cells,.agg [.val (.bool fa),.val (.bool fb),.val (.bool fn),.val (.bool fg),.val (.int .i64 ag)]] (PlaP c f fr to i fa fb):=by
 obtain ⟨is,fu,tx,gl,ys,no⟩:=c
 obtain ⟨fl,sl,cp⟩:=f
 obtain ⟨op,a,b,n,ar,fs,ca⟩:=i
 have hlt:=strs_len tx
 show BCall _ _ _ ((fa=false→a=0)∧(fb=false→b=0)∧(fa=true→0≤a∧((op=10→a<gl)∧(op≠10→a<sl)))∧(fb=true→(op=2→0≤b∧b<tx.length)∧(op≠2→fr≤b∧b<to)))
 refine Zc Try.func42 V (by kernel_rfl) V (Yj V) ?_
 refine Qj ?_
 refine QbJ ?_
 refine Qbr ?_
 refine Zb 5 V V V (op_boxc (cs':=[_,_,_,_,_]) V V V V ?_)
 refine Qp ?_
 refine QY ?_
 refine Zu 7 (¬ ((fa=false→a=0)∧(fb=false→b=0))) ?_ _ _ V ?_
 ·skip
  refine Qn ?_
  have h9:(fa=true↔fa=true):=Iff.rfl
  refine Qak ?_;intro c10 h10
  try replace h10:=nott h10 h9
  refine Qa ?_
  obtain ⟨rfl,g10⟩|⟨rfl,g10⟩:=Za h10
  ·skip
   refine Qa8 ?_
   refine Qe ?_
   have h18:(fb=true↔fb=true):=Iff.rfl
   refine Qaz ?_;intro c19 h19
   try replace h19:=nott h19 h18
   refine Qm ?_
   obtain ⟨rfl,g19⟩|⟨rfl,g19⟩:=Za h19
   ·skip
    refine Q5 ?_
    refine Qba ?_
    refine Yi V ?_ by3 by1
    simp_all;done
   skip
   refine Qe ?_
   refine QP ?_;intro c23 h23
   refine Qba ?_
   refine Yi V ?_ by3 by1
   simp_all;done
  skip
  refine Qe ?_
  refine QP ?_;intro c14 h14
  refine Qc ?_
  obtain ⟨rfl,g14⟩|⟨rfl,g14⟩:=Za h14
  ·skip
   refine Qe ?_
   have h18:(fb=true↔fb=true):=Iff.rfl
   refine Qaz ?_;intro c19 h19
   try replace h19:=nott h19 h18
   refine Qm ?_
   obtain ⟨rfl,g19⟩|⟨rfl,g19⟩:=Za h19
   ·skip
    refine Q5 ?_
    refine Qba ?_
    refine Yi V ?_ by3 by1
    simp_all;done
   skip
   refine Qe ?_
   refine QP ?_;intro c23 h23
   refine Qba ?_
   refine Yi V ?_ by3 by1
   simp_all;done
  skip
  refine Qo ?_
  refine Qar ?_
  refine Qar ?_
  refine Qar ?_
  refine Qbc ?_
  refine Qq ?_
  refine Yi V ?_ by3 by1
  simp_all;done
 intro c7 h7
 refine Qd ?_
 obtain ⟨rfl,g7⟩|⟨rfl,g7⟩:=Za h7
 ·refine QR ?_
  refine Ql ?_
  obtain ⟨e1,e2⟩:=Classical.not_not.1 g7
  refine Zu 26 (¬ (fa=true→0≤a∧((op=10→a<gl)∧(op≠10→a<sl)))) ?_ _ _ V ?_
  ·skip
   refine Qn ?_
   have h28:(fa=true↔fa=true):=Iff.rfl
   refine Qa ?_
   obtain ⟨rfl,g28⟩|⟨rfl,g28⟩:=Za h28
   ·skip
    refine Q5 ?_
    refine Qaf ?_
    refine Qc ?_
    refine Qe ?_
    refine Qm ?_
    refine Q5 ?_
    refine QbP ?_
    refine Qm ?_
    refine Qav ?_
    refine Qba ?_
    refine Yi V ?_ by3 by1
    simp_all;done
   skip
   refine QaW ?_;intro c32 h32
   refine Qc ?_
   obtain ⟨rfl,g32⟩|⟨rfl,g32⟩:=Za h32
   ·skip
    refine Qav ?_
    refine Qc ?_
    refine Qe ?_
    refine Qm ?_
    refine Qe ?_
    refine QP ?_;intro c49 h49
    refine QbP ?_
    refine Qm ?_
    obtain ⟨rfl,g49⟩|⟨rfl,g49⟩:=Za h49
    ·skip
     refine Qav ?_
     refine Qba ?_
     refine Yi V ?_ by3 by1
     simp_all;done
    skip
    refine Qe ?_
    refine QbG ?_
    refine Qe ?_
    refine Zh 57 rfl rfl rfl rfl rfl (Zs (xs:=[.tmp 53,.tmp 56]) rfl rfl (within_c a sl) by0 ?_);intro c57 h57
    refine Qaz ?_;intro c58 h58
    try replace h58:=nott h58 h57
    refine Qba ?_
    refine Yi V ?_ by3 by1
    simp_all;done
   skip
   refine Qe ?_
   refine QbG ?_
   refine Qe ?_
   refine Zh 40 rfl rfl rfl rfl rfl (Zs (xs:=[.tmp 36,.tmp 39]) rfl rfl (within_c a gl) by0 ?_);intro c40 h40
   refine Qaz ?_;intro c41 h41
   try replace h41:=nott h41 h40
   refine Qc ?_
   obtain ⟨rfl,g41⟩|⟨rfl,g41⟩:=Za h41
   ·skip
    refine Qe ?_
    refine Qm ?_
    refine Qe ?_
    refine QP ?_;intro c49 h49
    refine QbP ?_
    refine Qm ?_
    obtain ⟨rfl,g49⟩|⟨rfl,g49⟩:=Za h49
    ·skip
     refine Qav ?_
     refine Qba ?_
     refine Yi V ?_ by3 by1
     simp_all;done
    skip
    refine Qe ?_
    refine QbG ?_
    refine Qe ?_
    refine Zh 57 rfl rfl rfl rfl rfl (Zs (xs:=[.tmp 53,.tmp 56]) rfl rfl (within_c a sl) by0 ?_);intro c57 h57
    refine Qaz ?_;intro c58 h58
    try replace h58:=nott h58 h57
    refine Qba ?_
    refine Yi V ?_ by3 by1
    simp_all;done
   skip
   refine Q5 ?_
   refine Qar ?_
   refine Qar ?_
   refine Qar ?_
   refine QT ?_
   refine Qar ?_
   refine Qar ?_
   refine Qar ?_
   refine Qar ?_
   refine Qar ?_
   refine Qar ?_
   refine Qar ?_
   refine Qbc ?_
   refine Qq ?_
   refine Yi V ?_ by3 by1
   simp_all;done
  intro c26 h26
  refine Qd ?_
  obtain ⟨rfl,g26⟩|⟨rfl,g26⟩:=Za h26
  ·refine QR ?_
   refine Ql ?_
   have e3:=Classical.not_not.1 g26
   refine Zu 61 (fb=true∧op=2) ?_ _ _ V ?_
   ·skip
    refine Qn ?_
    have h63:(fb=true↔fb=true):=Iff.rfl
    refine Qa ?_
    obtain ⟨rfl,g63⟩|⟨rfl,g63⟩:=Za h63
    ·skip
     refine QaK ?_
     refine Yi V ?_ by3 by1
     simp_all;done
    skip
    refine QaW ?_;intro c67 h67
    refine Qq ?_
    refine Yi V ?_ by3 by1
    simp_all;done
   intro c61 h61
   refine Qd ?_
   obtain ⟨rfl,g61⟩|⟨rfl,g61⟩:=Za h61
   ·refine QR ?_
    refine QV ?_
    have h78:(fb=true↔fb=true):=Iff.rfl
    refine Qk ?_
    obtain ⟨rfl,g78⟩|⟨rfl,g78⟩:=Za h78
    ·refine Qr ?_
     refine QW ?_
     refine QU ?_
     refine Qi ?_
     exact Zd V V (Yf _) by1 ⟨⟨_,iff_t ⟨e1,e2,e3,fun q=>by cases q⟩,V⟩,V⟩
    refine Qao ?_
    refine Zu 6 (fr≤b∧b<to) ?_ _ _ V ?_
    ·skip
     refine Qn ?_
     refine Qn ?_
     refine Qac ?_;intro c83 h83
     refine Qa ?_
     obtain ⟨rfl,g83⟩|⟨rfl,g83⟩:=Za h83
     ·skip
      refine QaI ?_
      refine Qq ?_
      refine Yi V ?_ by3 by1
      simp_all;omega
     skip
     refine Qe ?_
     refine Qe ?_
     refine Qbi ?_;intro c89 h89
     refine Qq ?_
     refine Yi V ?_ by3 by1
     simp_all;done
    intro c6 h6
    refine QI ?_
    exact Zd V V (Yf _) by1 ⟨⟨_,h6.trans ⟨fun q=>⟨e1,e2,e3,fun _=>⟨fun q'=>absurd ⟨V,q'⟩ g61,fun _=>q⟩⟩,fun q=>(q.2.2.2 V).2 (fun q'=>g61 ⟨V,q'⟩)⟩,V⟩,V⟩
   refine Qz ?_
   refine Qh ?_
   refine Qn ?_
   refine QbF ?_
   refine Qn ?_
   refine Qax ?_;intro n74
   refine Zb 75 rfl rfl rfl (Zs (xs:=[.tmp 70,.tmp 74]) rfl rfl (within_c b (strs tx).length) by0 ?_);intro c75 h75
   refine Qi ?_
   exact Zd rfl rfl (Yf _) by1 ⟨⟨_,h75.trans (by rw [hlt];obtain ⟨q1,q2⟩:=g61;exact ⟨fun q=>⟨e1,e2,e3,fun _=>⟨fun _=>q,fun q'=>absurd q2 q'⟩⟩,fun q=>(q.2.2.2 q1).1 q2⟩),rfl⟩,rfl⟩
  refine QB ?_
  exact Zd V V (Yf _) by1 ⟨⟨_,iff_f (fun e=>g26 e.2.2.1),V⟩,V⟩
 refine QB ?_
 exact Zd V V (Yf _) by1 ⟨⟨_,iff_f (fun e=>g7 ⟨e.1,e.2.1⟩),V⟩,V⟩
def OpTX (P:Program) (o:Oper) (al:Sl) (M:Mem) (W:List PanicEntry→Prop) (K:AV→Mem→Prop):Prop :=
 ∀ (n B:Nat) (F:EH) (Mf:Mem) (a:Act) (w:World),Inv B F (M++Mf) w→Slots n F al a.tmps→∀ ro:Option Nat,
  o.wpIn (RF ro) 0 P a w (fun a' w'=>∃ u v M' F',a'=a.put o.dst u∧K v M'∧Rel F' v u∧Ext F F'∧Inv B F' (M'++Mf) w'∧Below B w w') (fun e a' w'=>∃ chain F',e=.panic chain∧W chain∧a'=a∧Ext F F'∧Inv B F' Mf w'∧Below B w w')
theorem wp_exitsX {ro:Option Nat} {P:Program} {o:Oper} {a:Act} {w:World} {K:Act→World→Prop} {E Q:Exit→Act→World→Prop} (hq:∀ e a w,E e a w→Q e a w) (h:o.wpIn (RF ro) 0 P a w K E):o.wpIn (RF ro) 0 P a w K Q:=by
 unfold Oper.wpIn at *
 refine ⟨h.1,?_⟩
 have h2:=h.2
 generalize (o.semAt (RF ro).round a.eval).run P w=r at *
 cases r with
 | ok nx w2 =>
  cases nx <;> simp only [Oper.uponIn] at h2 ⊢ <;> first
   | exact h2
   | exact ⟨h2.1,CallsIn.mono h2.2 (fun e w'' he=>by
       cases e with
       | returned v=>exact he
       | panicked c=>exact hq _ _ _ he
       | outgrown=>obtain ⟨_,_,hf⟩:=he;exact ⟨_,_,hq _ _ _ hf⟩)⟩
   | exact ⟨h2.1,RoundIn.mono h2.2 (fun e w'' he=>by
       cases e with
       | returned v=>exact he
       | panicked c=>exact hq _ _ _ he
       | outgrown=>obtain ⟨_,_,hf⟩:=he;exact ⟨_,_,hq _ _ _ hf⟩)⟩
 | halt x w2=>cases x <;> simp only [Oper.uponIn] at h2 ⊢ <;> first
  | exact h2
  | exact hq _ _ _ h2
theorem OpT.toX {P:Program} {o:Oper} {al:Sl} {M:Mem} {W:List PanicEntry→Prop} {K:AV→Mem→Prop} (h:OpT P o al M K):OpTX P o al M W K:=fun n B F Mf a w hi hs ro=>wp_exits (h n B F Mf a w hi hs ro)
theorem op_callpx {P:Program} {o:Oper} {al:Sl} {M:Mem} {K:AV→Mem→Prop} {f:FuncId} {xs:List Operand} {ts:Array TypeId} {vs vs':List AV} {R:AV→Mem→Prop} {W:List PanicEntry→Prop} (ho:o.op=.call { callee:=.value (.func f),args:=xs.toArray,argTypes:=ts }) (hx:xs.mapM al.ev=some vs) (hc:ACallX P f vs' M R W) (hl:Les vs vs')
    (q:∀ v M',R v M'→K v M'):OpTX P o al M W K:=by
 intro n B F Mf a w hi hs ro
 have e:(execOp a.eval o).run P w=.ok (.enter f (xs.map a.eval).toArray) w:=by
  simp only [execOp,ho,resolve,Act.eval,Deferred.ofValue,Sem.run_bind,Sem.run_pure,Result.andThen_ok,invoke]
  simpa using hc.ent _ _
 refine ⟨fun _ _=>trivial,?_⟩
 rw [Oper.semAt_eq _ _ _ (not_defer e by11),e]
 simp only [Oper.uponIn]
 refine ⟨fun h=>absurd h by9,callsIn_RF.2 ((hc.run B F Mf w _ hi (hl _ _ (Rels.map_ev hs hx))).mono ?_)⟩
 rintro e w' (⟨u,v,M',F',rfl,h2,h3,h4,h5,h6⟩|⟨chain,F',rfl,h2,h4,h5,h6⟩)
 ·exact ⟨u,v,M',F',V,q v M' h2,h3,h4,h5,h6⟩
 exact ⟨chain,F',by first|rfl|trivial,h2,by first|rfl|trivial,h4,h5,h6⟩
def EOpsX (P:Program) (ops:List Oper) (ws:List Nat) (anc:List (List Nat)) (W:List PanicEntry→Prop) (Q:Sl→Mem→Prop):List Nat→Sl→Mem→List (Nat × Nat)→Prop
 | [],al,M,_=>Q al M
 | i::ord,al,M,L=>∃ o,ops[i]?=some o ∧
     if ws.contains i then o.guard=none ∧
      ((∃ k r,M[k]?=some r∧(L.all fun x=>x.2 != k ||(anc.getD i []).contains x.1)=true∧OpTX P o (al.only (Oper.tmps o)) [r] W (fun v M'=>∃ r',M'=[r']∧EOpsX P ops ws anc W Q ord (al.put o.dst v) (M.set k r') L)) ∨
       OpT P o (al.only (Oper.tmps o)) [] (fun v M'=>EOpsX P ops ws anc W Q ord (al.put o.dst v) (M++M') L) ∨
       ((L.all fun x=>(anc.getD i []).contains x.1)=true∧OpT P o (al.only (Oper.tmps o)) M (fun v M'=>EOpsX P ops ws anc W Q ord (al.put o.dst v) M' [])))
     else ∃ (fp:Option Nat) (v:AV),fp.all (fun k=>Nat.blt k M.length)=true∧DStep P ops o al (fpm M fp) v∧EOpsX P ops ws anc W Q ord (al.put o.dst v) M ((fp.toList.map fun k=>(i,k))++L)
section
variable {P:Program} {n:Nat} {l:List Oper} {ord ws:List Nat} {anc:List (List Nat)} {W:List PanicEntry→Prop} {QQ:Sl→Mem→Prop} {al:Sl}
structure AtX (P:Program) (n B:Nat) (F:EH) (Mf:Mem) (w0:World) (ds:List Deferred) (l:List Oper) (ord ws:List Nat) (anc:List (List Nat)) (W:List PanicEntry→Prop) (QQ:Sl→Mem→Prop) (al:Sl) (lis:Array Bool) (a:Act) (w:World) (pr rest:List Nat) (pv:Nat→AV) (M:Mem) (L:List (Nat × Nat)):Prop where
 size:lis.size=l.length
 closed:∀ (k:Nat) (o:Oper),l[k]?=some o→lis[k]?=some true→∀ j∈bindsOn o,lis[j]?=some true
 defers:a.defers=ds
 tmps:a.tmps.size=n
 ord:ord=pr++rest
 done:∀ k,lis[k]?=some true→k∈pr
 wild:∀ k∈pr,k∈ws→lis[k]?=some true
 next:rest=[]∨∃ j rest',rest=j::rest'∧j∈ws
 eops:EOpsX P l ws anc W QQ rest (putsI l pv pr al) M L
 lenL:∀ x∈L,x.2<M.length
 steps:∀ p1 i p2,pr=p1++i::p2→i∉ws→lis[i]?=some false→∃ o fp,l[i]?=some o∧(∀ p,fp=some p→(i,p)∈L)∧DStep P l o (putsI l pv p1 al) (fpm M fp) (pv i)
 mem:∃ F',Ext F F'∧Inv B F' (M++Mf) w∧Below B w0 w ∧
  (∀ t v,al.lookup t=some v→(∀ (j:Nat) (o:Oper),l[j]?=some o→o.dst=some t→lis[j]?=some false)→t<n∧Rel F' v (a.tmps.getD t undef)) ∧
  (∀ (j:Nat) (o:Oper) (t:Tmp),l[j]?=some o→o.dst=some t→lis[j]?=some true→t<n∧Rel F' (pv j) (a.tmps.getD t undef))
theorem advanceX (hnd:ord.Nodup) (M:Mem) (lis:Array Bool):∀ (rest pr:List Nat) (pv:Nat→AV) (L:List (Nat × Nat)),ord=pr++rest→EOpsX P l ws anc W QQ rest (putsI l pv pr al) M L→(∀ x∈L,x.2<M.length) →
    (∀ p1 i p2,pr=p1++i::p2→i∉ws→lis[i]?=some false→∃ o fp,l[i]?=some o∧(∀ p,fp=some p→(i,p)∈L)∧DStep P l o (putsI l pv p1 al) (fpm M fp) (pv i)) →
    ∃ pr' rest' pv' L',ord=pr'++rest'∧(rest'=[]∨∃ j r,rest'=j::r∧j∈ws)∧EOpsX P l ws anc W QQ rest' (putsI l pv' pr' al) M L'∧(∀ x∈L',x.2<M.length)∧(∀ k∈pr,k∈pr')∧(∀ k∈pr',k∈ws→k∈pr)∧(∀ k∈pr,pv' k=pv k) ∧
     (∀ p1 i p2,pr'=p1++i::p2→i∉ws→lis[i]?=some false→∃ o fp,l[i]?=some o∧(∀ p,fp=some p→(i,p)∈L')∧DStep P l o (putsI l pv' p1 al) (fpm M fp) (pv' i)):=by
 intro rest
 induction rest with
 | nil=>intro pr pv L ho he hlL hs;exact ⟨pr,[],pv,L,ho,Or.inl rfl,he,hlL,fun k h=>h,fun k h _=>h,fun _ _=>rfl,hs⟩
 | cons i rest ih =>
  intro pr pv L ho he hlL hs
  by_cases hw:i∈ws
  ·exact ⟨pr,i::rest,pv,L,ho,Or.inr ⟨i,rest,V,hw⟩,he,hlL,fun k h=>h,fun k h _=>h,fun _ _=>V,hs⟩
  obtain ⟨o,ho',he⟩:=he
  rw [if_neg (by simpa using hw)] at he
  obtain ⟨fp,v,h0,h1,h2⟩:=he
  have hip:i∉pr:=by
   intro h
   rw [ho,List.nodup_append] at hnd
   exact hnd.2.2 i h i by11 V
  let pv':Nat→AV:=fun x=>if x=i then v else pv x
  have hpv:∀ k∈pr,pv' k=pv k:=fun k hk=>if_neg (fun e=>hip (by rw [← e];exact hk))
  have hpi:pv' i=v:=if_pos rfl
  have heq:putsI l pv' pr al=putsI l pv pr al:=putsI_congr l pv' pv pr al hpv
  obtain ⟨pr2,rest2,pv2,L2,q1,q2,q3,q0,q4,q5,q6,q7⟩:=ih (pr++[i]) pv' ((fp.toList.map fun k=>(i,k))++L) (by rw [ho];simp) (by
   rw [putsI_app,heq]
   simp only [putsI,ho',Option.bind_some,hpi]
   exact h2) (by
   intro x hx
   rcases List.mem_append.1 hx with hx|hx
   ·cases fp with
    | none=>simp at hx
    | some k =>
     simp at hx
     subst hx
     simpa [Nat.blt_eq] using h0
   ·exact hlL x hx) (by
   intro p1 j p2 hsp hj hl
   rcases List.eq_nil_or_concat p2 with rfl|⟨p2',y,rfl⟩
   ·have e2:pr=p1∧i=j:=by
     have:=List.append_inj' hsp rfl
     exact ⟨this.1,by simpa using this.2⟩
    obtain ⟨rfl,rfl⟩:=e2
    exact ⟨o,fp,ho',fun p hp=>by subst hp;simp,by rw [heq,hpi];exact h1⟩
   have e2:pr=p1++j::p2'∧i=y:=by
    rw [List.concat_eq_append,show p1++j::(p2'++[y])=(p1++j::p2')++[y] from by simp] at hsp
    have:=List.append_inj' hsp rfl
    exact ⟨this.1,by simpa using this.2⟩
   obtain ⟨e3,_⟩:=e2
   obtain ⟨o',fp',k1,k2,k3⟩:=hs p1 j p2' e3 hj hl
   refine ⟨o',fp',k1,fun p hp=>List.mem_append_right _ (k2 p hp),?_⟩
   rw [putsI_congr l pv' pv p1 al (fun k hk=>hpv k (by rw [e3];simp [hk])),hpv j (by rw [e3];simp)]
   exact k3)
  exact ⟨pr2,rest2,pv2,L2,q1,q2,q3,q0,fun k hk=>q4 k (by simp [hk]),fun k hk hkw=>by
   rcases List.mem_append.1 (q5 k hk hkw) with h|h
   ·exact h
   simp at h;subst h;exact absurd hkw hw,fun k hk=>(q6 k (by simp [hk])).trans (hpv k hk),q7⟩
theorem AtX.sees {ds:List Deferred} {B:Nat} {F:EH} {Mf:Mem} {w0:World} {lis:Array Bool} {a:Act} {w:World} {pr rest:List Nat} {pv:Nat→AV} {M:Mem} {L:List (Nat × Nat)} (hfl:FlowE n l ord ws anc) (h:AtX P n B F Mf w0 ds l ord ws anc W QQ al lis a w pr rest pv M L) {F':EH}
    (h4:∀ t v,al.lookup t=some v→(∀ (j:Nat) (o:Oper),l[j]?=some o→o.dst=some t→lis[j]?=some false)→t<n∧Rel F' v (a.tmps.getD t undef))
    (h5:∀ (j:Nat) (o:Oper) (t:Tmp),l[j]?=some o→o.dst=some t→lis[j]?=some true→t<n∧Rel F' (pv j) (a.tmps.getD t undef))
    {i:Nat} {o:Oper} (ho:l[i]?=some o) (hni:lis[i]?=some false) (hrd:∀ j∈bindsOn o,lis[j]?=some true) {p1 p2:List Nat} (hsp:ord=p1++i::p2) :
    ∀ t∈Oper.sees l o,∀ v,(putsI l pv p1 al).lookup t=some v→t<n∧Rel F' v (a.tmps.getD t undef):=by
 intro t ht v hv
 have hanc:=closed_anc hfl h.closed i o ho hrd
 obtain ⟨j,p,k1,k2,k3,k4⟩|⟨k1,k2⟩:=putsI_lookup l pv p1 al t
 ·rw [k4] at hv
  simp at hv
  subst hv
  have hb:=(befo_split hfl.nodup hsp (k:=j)).1 k1
  rcases hfl.see i o j p t ho k2 k3 ht with q|q|q
  ·subst q;exfalso
   have:=hfl.nodup
   rw [hsp,List.nodup_append] at this
   exact this.2.2 j k1 j by11 V
  ·exact h5 j p t k2 k3 (hanc j q.2)
  rw [hb] at q;simp at q
 rw [k2] at hv
 refine h4 t v hv (fun j p hj hd=>?_)
 have hjl:j<lis.size:=by
  rw [h.size]
  rcases Nat.lt_or_ge j l.length with q|q
  ·exact q
  rw [List.getElem?_eq_none q] at hj;simp at hj
 rcases hfl.see i o j p t ho hj hd ht with q|q|q
 ·subst q;exact hni
 ·exfalso
  have hjo:=hfl.mem j (by rw [← h.size];exact hjl)
  rw [hsp] at hjo
  rcases List.mem_append.1 hjo with r|r
  ·exact k1 j p r hj hd
  rcases List.mem_cons.1 r with r|r
  ·subst r;rw [befo] at q;simp at q
  have:=(befo_split hfl.nodup hsp (k:=j)).2 r
  rw [this] at q;simp at q
 rcases lis_ft hjl with r|r
 ·have:=closed_anc hfl h.closed j p hj (h.closed j p hj r) i q.2
  rw [hni] at this;simp at this
 exact r
theorem region_flowX {ro:Option Nat} {ds:List Deferred} {B:Nat} {F:EH} {Mf:Mem} {w0:World} {Q:Exit→Act→World→Prop} (hfl:FlowE n l ord ws anc)
    (hW:∀ chain F' a' w',W chain→a'.tmps.size=n→a'.defers=ds→Ext F F'→Inv B F' Mf w'→Below B w0 w'→Q (.panic chain) a' w')
    (hend:∀ a w pr pv M L,AtX P n B F Mf w0 ds l ord ws anc W QQ al (Array.replicate l.length true) a w pr [] pv M L→Q .normal a w) :
    ∀ (fuel:Nat) (lis:Array Bool) (a:Act) (w:World) (pr rest:List Nat) (pv:Nat→AV) (M:Mem) (L:List (Nat × Nat)),((List.range l.length).filter (fun j => !(lis[j]? == some true))).length≤fuel→AtX P n B F Mf w0 ds l ord ws anc W QQ al lis a w pr rest pv M L→wpAnyIn (RF ro) 0 P .any l.toArray Q fuel lis a w:=by
 have alltrue:∀ (lis:Array Bool) (a:Act) (w:World) (pr rest:List Nat) (pv:Nat→AV) (M:Mem) (L:List (Nat × Nat)),AtX P n B F Mf w0 ds l ord ws anc W QQ al lis a w pr rest pv M L→Region.ready .any l.toArray lis=[]→Q .normal a w:=by
  intro lis a w pr rest pv M L h hrd
  have hall:∀ i,i<l.length→lis[i]?=some true:=by
   intro i
   induction i using Nat.strongRecOn with
   | _ i ih =>
    intro hil
    rcases lis_ft (lis:=lis) (j:=i) (by rw [h.size];exact hil) with q|q
    ·exact q
    exfalso
    have:i∈Region.ready .any l.toArray lis:=(ready_iff h.size).2 ⟨l[i],List.getElem?_eq_getElem hil,q,fun j hj=>by
     have:=hfl.back i l[i] (List.getElem?_eq_getElem hil) j hj
     exact ih j this by10⟩
    rw [hrd] at this;simp at this
  have e:lis=Array.replicate l.length true:=by
   apply Array.ext (by simpa using h.size)
   intro i h1 h2
   have:=hall i (by rw [← h.size];exact h1)
   rw [Array.getElem?_eq_getElem h1] at this
   simpa using this
  have hre:rest=[]:=by
   rcases h.next with q|⟨j,r,q,_⟩
   ·exact q
   exfalso
   have hj:j∈ord:=by rw [h.ord,q];simp
   have hjp:=h.done j (hall j (hfl.lt j hj))
   have:=hfl.nodup
   rw [h.ord,q,List.nodup_append] at this
   exact this.2.2 j hjp j by11 V
  subst hre
  rw [e] at h
  exact hend a w pr pv M L h
 intro fuel
 induction fuel with
 | zero =>
  intro lis a w pr rest pv M L hf h
  have hr:Region.ready .any l.toArray lis=[]:=by
   cases hr:Region.ready .any l.toArray lis with
   | nil=>rfl
   | cons i r =>
    exfalso
    obtain ⟨o,ho,h1,_⟩:=(ready_iff h.size).1 (by rw [hr];simp:i∈Region.ready .any l.toArray lis)
    have hil:i<l.length:=by
     rcases Nat.lt_or_ge i l.length with q|q
     ·exact q
     rw [List.getElem?_eq_none q] at ho;simp at ho
    have:i∈(List.range l.length).filter (fun j => !(lis[j]? == some true)):=List.mem_filter.2 ⟨by simpa using hil,by simp [h1]⟩
    have:=List.length_pos_of_mem this
    omega
  exact ⟨hr,alltrue lis a w pr rest pv M L h hr⟩
 | succ fuel ih =>
  intro lis a w pr rest pv M L hf h
  refine ⟨alltrue lis a w pr rest pv M L h,fun i hi=>?_⟩
  obtain ⟨o,ho,hni,hrd⟩:=(ready_iff h.size).1 hi
  have hil:i<l.length:=by
   rcases Nat.lt_or_ge i l.length with q|q
   ·exact q
   rw [List.getElem?_eq_none q] at ho;simp at ho
  have hcount:((List.range l.length).filter (fun j => !((lis.setIfInBounds i true)[j]? == some true))).length≤fuel:=by
   have h1:=count_set l.length (fun j=>lis[j]? == some true) i hil (by simp [hni])
   have h2:(List.range l.length).filter (fun j => !((lis.setIfInBounds i true)[j]? == some true))=(List.range l.length).filter (fun j => !((lis[j]? == some true) || j == i)):=by
    apply List.filter_congr
    intro j hj
    rw [set_lis hni]
    by_cases e:i=j
    ·subst e
     rw [if_pos rfl];simp
    rw [if_neg e]
    have:(j == i)=false:=by simp;omega
    simp [this]
   rw [h2]
   omega
  have hanc:=closed_anc hfl h.closed i o ho hrd
  obtain ⟨F0,m1,m2,m3,m4,m5⟩:=h.mem
  have hclosed:∀ (k:Nat) (o':Oper),l[k]?=some o'→(lis.setIfInBounds i true)[k]?=some true→∀ j∈bindsOn o',(lis.setIfInBounds i true)[j]?=some true:=by
   intro k p hk hlk j hj
   rw [set_lis hni] at hlk ⊢
   by_cases e:i=k
   ·subst e
    rw [ho] at hk;simp at hk;subst hk
    rw [hrd j hj];split <;> rfl
   rw [if_neg e] at hlk
   rw [h.closed k p hk hlk j hj];split <;> rfl
  have hone:∀ k:Nat,(lis.setIfInBounds i true)[k]?=some false→lis[k]?=some false:=by
   intro k hk
   rw [set_lis hni] at hk
   split at hk
   ·simp at hk
   exact hk
  have hio:i∈ord:=hfl.mem i hil
  by_cases hiw:i∈ws
  ·-- an operation that writes: it is the next
   have hrest:∃ rest',rest=i::rest':=by
    rcases h.next with q|⟨j,r,q,hjw⟩
    ·exfalso
     subst q
     have:i∈pr:=by have:=h.ord;simp at this;rw [← this];exact hio
     have:=h.wild i this hiw
     rw [hni] at this;simp at this
    by_cases e:j=i
    ·subst e;exact ⟨r,q⟩
    exfalso
    have hjl:j<l.length:=hfl.lt j (by rw [h.ord,q];simp)
    have hsp:ord=pr++j::r:=by rw [h.ord,q]
    have hir:i∈r:=by
     have:=hio
     rw [hsp] at this
     rcases List.mem_append.1 this with k|k
     ·have:=h.wild i k hiw
      rw [hni] at this;simp at this
     rcases List.mem_cons.1 k with k|k
     ·exact absurd k.symm e
     exact k
    have hb:=(befo_split hfl.nodup hsp (k:=i)).2 hir
    rcases hfl.wild j hjw i hil with k|k|k
    ·exact e k.symm
    ·rw [hb] at k;simp at k
    have:=hanc j k
    have:=h.done j this
    have hnd:=hfl.nodup
    rw [hsp,List.nodup_append] at hnd
    exact hnd.2.2 j this j by11 V
   obtain ⟨rest',rfl⟩:=hrest
   obtain ⟨o',ho',he⟩:=h.eops
   rw [ho] at ho';simp at ho';subst ho'
   rw [if_pos (by simpa using hiw)] at he
   obtain ⟨hg,he⟩:=he
   have hsp:ord=pr++i::rest':=h.ord
   have hsees:=h.sees hfl m4 m5 ho hni hrd hsp
   have hslots:Slots n F0 ((putsI l pv pr al).only (Oper.tmps o)) a.tmps:=by
    refine ⟨h.tmps,fun t v' e=>?_⟩
    rw [only_lookup] at e
    split at e
    ·rename_i hc
     exact hsees t (by unfold Oper.sees;exact List.mem_append_left _ (by simpa using hc)) v' e
    simp at e
   have hip:i∉pr:=by
    intro hh
    have:=hfl.nodup
    rw [hsp,List.nodup_append] at this
    exact this.2.2 i hh i by11 V
   have fin:∀ (u:Value) (v:AV) (F2:EH) (w':World) (M2:Mem),Rel F2 v u→Ext F0 F2→Inv B F2 (M2++Mf) w'→Below B w w'→∀ L':List (Nat × Nat),EOpsX P l ws anc W QQ rest' ((putsI l pv pr al).put o.dst v) M2 L'→(∀ x∈L',x.2<M2.length) →
       (∀ i' fp,lis[i']?=some false→(∀ p,fp=some p→(i',p)∈L)→(fpm M2 fp=fpm M fp∧∀ p,fp=some p→(i',p)∈L')∨i'∈anc.getD i []) →
       wpAnyIn (RF ro) 0 P .any l.toArray Q fuel (lis.setIfInBounds i true) (a.put o.dst u) w':=by
    intro u v F2 w' M2 hr hF2 hi2 hb2 L' heo hml hkeep
    let pv':Nat→AV:=fun x=>if x=i then v else pv x
    have hpv:∀ k∈pr,pv' k=pv k:=fun k hk=>if_neg (fun e=>hip (by rw [← e];exact hk))
    have hpi:pv' i=v:=if_pos rfl
    have heq:putsI l pv' pr al=putsI l pv pr al:=putsI_congr l pv' pv pr al hpv
    obtain ⟨pr2,rest2,pv2,L2,q1,q2,q3,q0,q4,q5,q6,q7⟩:=advanceX (P:=P) (QQ:=QQ) (al:=al) (anc:=anc) hfl.nodup M2 (lis.setIfInBounds i true) rest' (pr++[i]) pv' L' (by rw [hsp];simp) (by
     rw [putsI_app,heq]
     simp only [putsI,ho,Option.bind_some,hpi]
     exact heo) hml (by
     intro p1 j p2 hspj hj hl
     have hl':=hone j hl
     rcases List.eq_nil_or_concat p2 with rfl|⟨p2',y,rfl⟩
     ·have e2:pr=p1∧i=j:=by
       have:=List.append_inj' hspj rfl
       exact ⟨this.1,by simpa using this.2⟩
      obtain ⟨rfl,rfl⟩:=e2
      exact absurd hiw hj
     have e3:pr=p1++j::p2':=by
      rw [List.concat_eq_append,show p1++j::(p2'++[y])=(p1++j::p2')++[y] from by simp] at hspj
      exact (List.append_inj' hspj V).1
     obtain ⟨oj,fp,k1,k2,k3⟩:=h.steps p1 j p2' e3 hj hl'
     rcases hkeep j fp hl' k2 with r|r
     ·refine ⟨oj,fp,k1,r.2,?_⟩
      rw [putsI_congr l pv' pv p1 al (fun k hk=>hpv k (by rw [e3];simp [hk])),hpv j (by rw [e3];simp)]
      rw [r.1];exact k3
     have:=hanc j r
     rw [hl'] at this;simp at this)
    have hpvl:∀ k,lis[k]?=some true→pv2 k=pv k:=fun k hk=>by
     have:=h.done k hk
     rw [q6 k (by simp [this]),hpv k this]
    have hpv2i:pv2 i=v:=by rw [q6 i by11,hpi]
    obtain ⟨s1,s2⟩:=slots_next (al:=al) hfl ho hni h.tmps hF2 (pv:=pv) (pv':=pv2) (by rw [hpv2i];exact hr) hpvl m4 m5
    refine ih _ _ _ pr2 rest2 pv2 M2 L2 hcount ⟨by simpa using h.size,hclosed,by cases o.dst <;> exact h.defers,by cases o.dst <;> simp [Act.put,h.tmps],q1,fun k hk=>?_,fun k hk hkw=>?_,q2,q3,q0,q7,F2,m1.trans hF2,hi2,m3.trans hb2,s1,s2⟩
    ·rw [set_lis hni] at hk
     split at hk
     ·rename_i e;subst e;exact q4 _ by11
     exact q4 k (by simp [h.done k hk])
    rw [set_lis hni]
    have:=q5 k hk hkw
    rcases List.mem_append.1 this with r|r
    ·rw [h.wild k r hkw];split <;> rfl
    simp at r;rw [if_pos r.symm]
   unfold wpOpIn
   simp only [List.getElem?_toArray,ho]
   rw [if_pos (by simp [Region.wanted,hg])]
   rcases he with ⟨k,r,hk,hL,hop⟩|hop|⟨hL,hop⟩
   ·have hperm:(M++Mf).Perm ([r]++(M.eraseIdx k++Mf)):=by
     have:=(perm_at hk).append_right Mf
     simpa using this
    have hkl:k<M.length:=by
     rcases Nat.lt_or_ge k M.length with q|q
     ·exact q
     rw [List.getElem?_eq_none q] at hk;simp at hk
    refine wp_exitsX ?_ (Oper.wpIn_mono ?_ (hop n B F0 (M.eraseIdx k++Mf) a w (m2.perm hperm) hslots ro))
    ·rintro e a' w' ⟨chain,F2,rfl,hc,rfl,hF2,hi2,hb2⟩
     exact hW chain F2 _ w' hc h.tmps h.defers (m1.trans hF2) (hi2.sub (List.sublist_append_right _ _)) (m3.trans hb2)
    rintro a' w' ⟨u,v,M',F2,rfl,⟨r',rfl,heo⟩,hr,hF2,hi2,hb2⟩
    refine fin u v F2 w' (M.set k r') hr hF2 (hi2.perm ?_) hb2 L heo (by simpa using h.lenL) (fun i' fp hl' hfp=>?_)
    ·have:=((perm_set r' hkl).append_right Mf).symm
     simpa using this
    cases fp with
    | none=>exact Or.inl ⟨rfl,hfp⟩
    | some p =>
     by_cases e:p=k
     ·right
      have:=List.all_eq_true.1 hL (i',p) (hfp p rfl)
      simpa [e] using this
     left
     refine ⟨?_,hfp⟩
     simp only [fpm]
     rw [List.getElem?_set_ne (fun q=>e q.symm)]
   ·refine wp_exits (Oper.wpIn_mono ?_ (hop n B F0 (M++Mf) a w (by simpa using m2) hslots ro))
    rintro a' w' ⟨u,v,M',F2,rfl,heo,hr,hF2,hi2,hb2⟩
    refine fin u v F2 w' (M++M') hr hF2 (hi2.perm ?_) hb2 L heo (fun x hx=>by have:=h.lenL x hx;simp;omega) (fun i' fp hl' hfp=>?_)
    ·rw [List.append_assoc]
     exact (List.perm_append_comm_assoc _ _ _)
    left
    refine ⟨?_,hfp⟩
    cases fp with
    | none=>rfl
    | some p =>
     simp only [fpm]
     rw [List.getElem?_append_left (h.lenL (i',p) (hfp p rfl))]
   refine wp_exits (Oper.wpIn_mono ?_ (hop n B F0 Mf a w m2 hslots ro))
   rintro a' w' ⟨u,v,M',F2,rfl,heo,hr,hF2,hi2,hb2⟩
   refine fin u v F2 w' M' hr hF2 hi2 hb2 [] heo by11 (fun i' fp hl' hfp=>?_)
   cases fp with
   | none=>exact Or.inl ⟨rfl,by simp⟩
   | some p =>
    right
    have:=List.all_eq_true.1 hL (i',p) (hfp p rfl)
    simpa using this
  -- an operation that does not write: it has been gone through
  have hipr:i∈pr:=by
   have:=hio
   rw [h.ord] at this
   rcases List.mem_append.1 this with k|k
   ·exact k
   exfalso
   rcases h.next with q|⟨j,r,q,hjw⟩
   ·rw [q] at k;simp at k
   have hsp:ord=pr++j::r:=by rw [h.ord,q]
   rw [q] at k
   rcases List.mem_cons.1 k with e|e
   ·subst e;exact hiw hjw
   have hb:=(befo_split hfl.nodup hsp (k:=i)).2 e
   rcases hfl.wild j hjw i hil with k|k|k
   ·subst k;exact hiw hjw
   ·rw [hb] at k;simp at k
   have:=h.done j (hanc j k)
   have hnd:=hfl.nodup
   rw [hsp,List.nodup_append] at hnd
   exact hnd.2.2 j this j by11 V
  obtain ⟨p1,p2,hp⟩:=List.append_of_mem hipr
  obtain ⟨o',fp,ho',hfp,hst⟩:=h.steps p1 i p2 hp hiw hni
  rw [ho] at ho';simp at ho';subst ho'
  have hsp:ord=p1++i::(p2++rest):=by rw [h.ord,hp];simp
  have hsees:=h.sees hfl m4 m5 ho hni hrd hsp
  have hslots:Slots n F0 ((putsI l pv p1 al).only (Oper.tmps o)) a.tmps:=by
   refine ⟨h.tmps,fun t v' e=>?_⟩
   rw [only_lookup] at e
   split at e
   ·rename_i hc
    exact hsees t (by unfold Oper.sees;exact List.mem_append_left _ (by simpa using hc)) v' e
   simp at e
  have hperm:∃ Mr,(M++Mf).Perm (fpm M fp++(Mr++Mf))∧M.Perm (fpm M fp++Mr):=by
   cases fp with
   | none=>exact ⟨M,by simp [fpm],by simp [fpm]⟩
   | some k =>
    cases hk:M[k]? with
    | none=>exact ⟨M,by simp [fpm,hk],by simp [fpm,hk]⟩
    | some r =>
     have:=perm_at hk
     refine ⟨M.eraseIdx k,?_,by simpa [fpm,hk] using this⟩
     have:=this.append_right Mf
     simpa [fpm,hk] using this
  obtain ⟨Mr,hp1,hp2⟩:=hperm
  have next:∀ (u:Value) (F2:EH) (w':World),Rel F2 (pv i) u→Ext F0 F2→Inv B F2 (M++Mf) w'→Below B w w'→wpAnyIn (RF ro) 0 P .any l.toArray Q fuel (lis.setIfInBounds i true) (a.put o.dst u) w':=by
   intro u F2 w' hr hF2 hi2 hb2
   obtain ⟨s1,s2⟩:=slots_next (al:=al) hfl ho hni h.tmps hF2 (pv:=pv) (pv':=pv) hr (fun _ _=>rfl) m4 m5
   refine ih _ _ _ pr rest pv M L hcount ⟨by simpa using h.size,hclosed,by cases o.dst <;> exact h.defers,by cases o.dst <;> simp [Act.put,h.tmps],h.ord,fun k hk=>?_,fun k hk hkw=>?_,h.next,h.eops,h.lenL,fun q1 j q2 hq hj hl=>h.steps q1 j q2 hq hj (hone j hl),F2,m1.trans hF2,hi2,m3.trans hb2,s1,s2⟩
   ·rw [set_lis hni] at hk
    split at hk
    ·rename_i e;subst e;exact hipr
    exact h.done k hk
   rw [set_lis hni,h.wild k hk hkw];split <;> rfl
  have done:∀ (o':Oper),o'.dst=o.dst→OpT P o' ((putsI l pv p1 al).only (Oper.tmps o)) (fpm M fp) (fun v' M'=>v'=pv i∧M'=fpm M fp)→o'.wpIn (RF ro) 0 P a w (wpAnyIn (RF ro) 0 P .any l.toArray Q fuel (lis.setIfInBounds i true)) Q:=by
   intro o' hd' hop
   refine wp_exits (Oper.wpIn_mono ?_ (hop n B F0 (Mr++Mf) a w (m2.perm hp1) hslots ro))
   rintro a' w' ⟨u,v',M',F2,rfl,⟨rfl,rfl⟩,hr,hF2,hi2,hb2⟩
   rw [hd']
   exact next u F2 w' hr hF2 (hi2.perm hp1.symm) hb2
  have skip:pv i=.val undef→wpAnyIn (RF ro) 0 P .any l.toArray Q fuel (lis.setIfInBounds i true) (a.put o.dst undef) w:=by
   intro e
   exact next undef F0 w (by rw [e];exact .val _) (Ext.refl _) m2 (Below.refl _ _)
  unfold wpOpIn
  simp only [List.getElem?_toArray,ho]
  unfold DStep at hst
  cases hg:o.guard with
  | none =>
   rw [hg] at hst
   rw [if_pos (by simp [Region.wanted,hg])]
   exact done o V hst
  | some gb =>
   obtain ⟨g,b⟩:=gb
   rw [hg] at hst
   obtain ⟨t,ht,hst⟩:=hst
   have htin:t∈Oper.sees l o:=by
    unfold Oper.sees
    rw [hg]
    exact List.mem_append_right _ (by simp [ht])
   have slot:∀ x,(putsI l pv p1 al).lookup t=some (.val x)→a.tmps[t]?=some x:=by
    intro x hx
    obtain ⟨q1,q2⟩:=hsees t htin _ hx
    have h4:t<a.tmps.size:=by rw [h.tmps];exact q1
    generalize hy:a.tmps.getD t undef=y at q2
    cases q2
    rw [Array.getElem?_eq_getElem h4]
    simpa [Array.getD,h4] using hy
   have want:∀ x,a.tmps[t]?=some x→Region.wanted o (yielded l.toArray a.tmps)=((match some x with|some (.bool b)=>some b|_=>none) == some b):=by
    intro x hx
    simp only [Region.wanted,hg,yielded,List.getElem?_toArray,ht,Option.bind_some,hx]
    cases x <;> rfl
   obtain ⟨h1,h2⟩|⟨h1,h2⟩:=hst
   ·rw [if_pos (by rw [want _ (slot _ h1)];simp)]
    exact done { o with guard:=none } rfl h2
   rcases h1 with h1|h1
   ·rw [if_neg (by rw [want _ (slot _ h1)];cases b <;> simp)]
    exact ⟨fun _ _=>trivial,skip h2⟩
   rw [if_neg (by rw [want _ (slot _ h1)];simp [undef])]
   exact ⟨fun _ _=>trivial,skip h2⟩
theorem ACode.drawnX {ro:Option Nat} {Q:Exit→Sl→Mem→Prop} {id:Nat} {M:Mem} (ord ws:List Nat) (anc:List (List Nat)) (hmix:P.follows .mixedOrders=true) (hfl:flowE n l ord ws anc=true) (hQ:∀ chain,W chain→Q (.panic chain) [] []) (h:EOpsX P l ws anc W (Q .normal) ord al M []):ACode ro P n (.region id l.toArray true) Q al M:=by
 intro B F Mf a w hi hs
 have hF:=FlowE.of hfl
 obtain ⟨pr,rest,pv,L,q1,q2,q3,q0,_,q5,_,q7⟩:=advanceX (P:=P) (QQ:=Q .normal) (al:=al) (anc:=anc) (l:=l) (ws:=ws) hF.nodup M (Array.replicate l.length false) ord [] (fun _=>.val undef) [] rfl h by11 (by intro p1 i p2 e;simp at e)
 refine wpIn_region_any hmix (region_flowX (ds:=a.defers) (P:=P) (QQ:=Q .normal) (al:=al) (B:=B) (F:=F) (Mf:=Mf) (w0:=w) hF (fun chain F' a' w' h1 h2 h3 h4 h5 h6=>⟨[],F',[],[],hQ chain h1,h4,h5,⟨h2,fun t v e=>by simp at e⟩,h3,h6⟩) ?_ _ _ _ _ pr rest pv M L ?_ ?_)
 ·intro a' w' pr pv M L hat
  obtain ⟨F',m1,m2,m3,m4,m5⟩:=hat.mem
  have he:=hat.eops
  refine ⟨[],F',_,M,he,m1,m2,⟨hat.tmps,fun t v e=>?_⟩,hat.defers,m3⟩
  have hall:∀ j,j<l.length→(Array.replicate l.length true)[j]?=some true:=fun j hj=>by simp [hj]
  obtain ⟨j,o,k0,k1,k3,k4⟩|⟨k1,k2⟩:=putsI_lookup l pv pr al t
  ·rw [k4] at e
   simp at e;subst e
   have:j<l.length:=by
    rcases Nat.lt_or_ge j l.length with q|q
    ·exact q
    rw [List.getElem?_eq_none q] at k1;simp at k1
   exact m5 j o t k1 k3 (hall j this)
  rw [k2] at e
  refine m4 t v e (fun j o hj hdj=>?_)
  have:j<l.length:=by
   rcases Nat.lt_or_ge j l.length with q|q
   ·exact q
   rw [List.getElem?_eq_none q] at hj;simp at hj
  exact absurd hdj (k1 j o (hat.done j (hall j this)) hj)
 ·have:=List.length_filter_le (fun j => !((Array.replicate l.length false)[j]? == some true)) (List.range l.length)
  simpa using this
 have hno:∀ k:Nat,(Array.replicate l.length false)[k]?≠some true:=by
  intro k hk
  rw [Array.getElem?_replicate] at hk;split at hk <;> simp at hk
 refine ⟨by simp,fun k o hk hlk=>absurd hlk (hno k),V,hs.1,q1,fun k hk=>absurd hk (hno k),fun k hk hkw=>?_,q2,q3,q0,q7,F,Ext.refl F,hi.drew,(Below.refl _ _).drew,fun t v e _=>hs.2 t v e,fun j o t hj _ hlj=>absurd hlj (hno j)⟩
 have:=q5 k hk hkw
 simp at this
theorem c_drawnX {ro:Option Nat} {ks:List Kont} {Q:Exit→Sl→Mem→Prop} {id:Nat} {M:Mem} (ord ws:List Nat) (anc:List (List Nat)) (hmix:P.follows .mixedOrders=true) (hfl:flowE n l ord ws anc=true) (hQ:∀ chain,W chain→after ro P n ks Q (.panic chain) [] []) (h:EOpsX P l ws anc W (AGo ro P n ks Q) ord al M []):ACode ro P n (.region id l.toArray true) (after ro P n ks Q) al M:=ACode.drawnX ord ws anc hmix hfl hQ h
variable {M:Mem} {L:List (Nat × Nat)} {o:Oper}
theorem EOpsX.d {v:AV} {i:Nat} (d:Nat) (fp:Option Nat) (hi:l[i]?=some o) (hw:ws.contains i=false) (hg:o.guard=none) (hd:o.dst=some d) (hfp:fp.all (fun k=>Nat.blt k M.length)=true) (h:OpT P o (al.only (Oper.tmps o)) (fpm M fp) (fun v' M'=>v'=v∧M'=fpm M fp)) (q:EOpsX P l ws anc W QQ ord ((d,v)::al) M ((fp.toList.map fun k=>(i,k))++L)):EOpsX P l ws anc W QQ (i::ord) al M L :=
 ⟨o,hi,by rw [if_neg (by rw [hw];simp)];exact ⟨fp,v,hfp,by unfold DStep;rw [hg];exact h,by rw [hd];exact q⟩⟩
theorem EOpsX.cm {i:Nat} {p:Prop} (d:Nat) (hi:l[i]?=some o) (hw:ws.contains i=false) (hg:o.guard=none) (hd:o.dst=some d) (h:∀ K:AV→Mem→Prop,(∀ c:Bool,(c=true↔p)→K (.val (.bool c)) [])→OpT P o (al.only (Oper.tmps o)) [] K) (q:∀ c:Bool,(c=true↔p)→EOpsX P l ws anc W QQ ord ((d,.val (.bool c))::al) M L):EOpsX P l ws anc W QQ (i::ord) al M L:=by
 have:∃ c:Bool,c=true↔p:=by
  by_cases hp:p
  ·exact ⟨true,by simp [hp]⟩
  exact ⟨false,by simp [hp]⟩
 obtain ⟨c,hc⟩:=this
 refine EOpsX.d d none hi hw hg hd V (h _ (fun c' hc'=>⟨?_,V⟩)) (q c hc)
 have:c'=c:=by cases c <;> cases c' <;> simp_all
 rw [this]
theorem EOpsX.w {i:Nat} {r:Res} (k:Nat) (hi:l[i]?=some o) (hw:ws.contains i=true) (hg:o.guard=none) (hr:M[k]?=some r) (hL:(L.all fun x=>x.2 != k ||(anc.getD i []).contains x.1)=true) (h:OpT P o (al.only (Oper.tmps o)) [r] (fun v M'=>∃ r',M'=[r']∧EOpsX P l ws anc W QQ ord (al.put o.dst v) (M.set k r') L)):EOpsX P l ws anc W QQ (i::ord) al M L :=
 ⟨o,hi,by rw [if_pos hw];exact ⟨hg,.inl ⟨k,r,hr,hL,h.toX⟩⟩⟩
theorem EOpsX.x {i:Nat} {r:Res} {d:Nat} {f:FuncId} {xs:List Operand} {ts:Array TypeId} {vs vs':List AV} {R:AV→Mem→Prop} (k:Nat) (hi:l[i]?=some o) (hw:ws.contains i=true) (hg:o.guard=none) (hd:o.dst=some d) (hr:M[k]?=some r) (hL:(L.all fun x=>x.2 != k ||(anc.getD i []).contains x.1)=true) (ho:o.op=.call { callee:=.value (.func f),args:=xs.toArray,argTypes:=ts }) (hx:xs.mapM (al.only (Oper.tmps o)).ev=some vs) (hc:ACallX P f vs' [r] R W) (hl:Les vs vs')
    (q:∀ v M',R v M'→∃ r',M'=[r']∧EOpsX P l ws anc W QQ ord ((d,v)::al) (M.set k r') L):EOpsX P l ws anc W QQ (i::ord) al M L :=
 ⟨o,hi,by rw [if_pos hw];exact ⟨hg,.inl ⟨k,r,hr,hL,by rw [hd];exact op_callpx ho hx hc hl q⟩⟩⟩
end
section
variable {α β γ:Type}
theorem pair_none {x:Rd α} {y:Rd β} {l:List Int} (h:x.R l=none):(x.pair y).R l=none:=by
 show ((x.R l).bind _)=none
 rw [h];rfl
theorem pair_some {x:Rd α} {y:Rd β} {l l2:List Int} {a:α} (h:x.R l=some (a,l2)):(x.pair y).R l=(y.R l2).map fun q=>((a,q.1),q.2):=by
 show ((x.R l).bind _)=_
 rw [h];rfl
theorem Zv {x:Rd α} {y:Rd β} {l l2:List Int} {a:α} {r:Option (γ × List Int)} {f:α × β→γ} (h:r=((x.pair y).R l).map fun q=>(f q.1,q.2)) (k:x.R l=some (a,l2)):r=(y.R l2).map fun q=>(f (a,q.1),q.2):=by
 rw [h,pair_some k,Option.map_map];rfl
theorem pair_stop {x:Rd α} {y:Rd β} {l:List Int} {r:Option (γ × List Int)} {f:α × β→γ} (h:r=((x.pair y).R l).map fun q=>(f q.1,q.2)) (k:x.R l=none):r=none:=by
 rw [h,pair_none k];rfl
theorem maybe_t (x:Rd α) {b:Bool} (d:α) (l:List Int) (h:b=true):(x.maybe b d).R l=x.R l:=by subst h;rfl
theorem maybe_f (x:Rd α) {b:Bool} (d:α) (l:List Int) (h:b=false):(x.maybe b d).R l=some (d,l):=by subst h;rfl
end
theorem ins_op {l l2:List Int} {op:Int} (h:numR l=some (op,l2)) (k:opOk op=true):insD.R l=(((numD.maybe (opA op) 0).pair ((nD op).pair ((numD.maybe (opB op) 0).pair ((argD (opG op)).pair (fixD op))))).R l2).map fun q=>((fun y=>(op,y)) q.1,q.2):=by
 show ((Option.bind (numR l) fun p=>if opOk p.1=true then some p else none).bind _)=_
 rw [h]
 simp only [Option.bind_some]
 rw [if_pos k]
 rfl
theorem ins_bad {l l2:List Int} {op:Int} (h:numR l=some (op,l2)) (k:opOk op≠true):insD.R l=none:=by
 show ((Option.bind (numR l) fun p=>if opOk p.1=true then some p else none).bind _)=_
 rw [h]
 simp only [Option.bind_some]
 rw [if_neg k]
 rfl
theorem ins_none {l:List Int} (h:numR l=none):insD.R l=none:=by
 show ((Option.bind (numR l) fun p=>if opOk p.1=true then some p else none).bind _)=_
 rw [h];rfl
theorem nR_s {op:Int} (l:List Int) (h:opN op=true∧opS op=true):(nD op).R l=sgnR l:=by
 show (if opN op then (if opS op then sgnR l else numR l) else some (0,l))=_
 rw [h.1,h.2];rfl
theorem nR_n {op:Int} (l:List Int) (h:opN op=true) (k:¬ (opN op=true∧opS op=true)):(nD op).R l=numR l:=by
 show (if opN op then (if opS op then sgnR l else numR l) else some (0,l))=_
 rw [if_pos h,if_neg (fun e=>k ⟨h,e⟩)]
theorem nR_0 {op:Int} (l:List Int) (h:opN op=false):(nD op).R l=some (0,l):=by
 show (if opN op then (if opS op then sgnR l else numR l) else some (0,l))=_
 rw [h];rfl
theorem arg_list {g:Int} {l:List Int} (h:g<0):(argD g).R l=(lenR l).bind fun p=>(manyR atoR p.1 p.2).map fun q=>(q.1,q.2):=by
 show argR g l=_
 unfold argR
 rw [if_pos h];rfl
theorem arg_many {g:Int} {l:List Int} (h:¬ g<0):(argD g).R l=manyR atoR g.toNat l:=by
 show argR g l=_
 unfold argR
 rw [if_neg h]
theorem lenR_le {l l2:List Int} {m:Nat} (h:lenR l=some (m,l2)):m≤l2.length:=by
 unfold lenR at h
 cases hr:numR l with
 | none=>rw [hr] at h;simp at h
 | some p =>
  rw [hr] at h
  simp only [Option.bind_some] at h
  split at h
  ·simp only [Option.some.injEq,Prod.mk.injEq] at h
   obtain ⟨rfl,rfl⟩:=h
   obtain ⟨k,hk⟩:=numR_nn hr
   omega
  simp at h
section
variable {γ:Type} {g:Int} {op:Int} {l l2:List Int} {r:Option (γ × List Int)}
theorem args_stop {f:List Ato × List Mkd→γ} (h:r=(((argD g).pair (fixD op)).R l).map fun q=>(f q.1,q.2)) (hg:g<0) (k:lenR l=none):r=none :=
 pair_stop h (by rw [arg_list hg,k];rfl)
theorem args_read {f:List Ato × List Mkd→γ} {m:Nat} (h:r=(((argD g).pair (fixD op)).R l).map fun q=>(f q.1,q.2)) (hg:g<0) (k:lenR l=some (m,l2)):r=(manyR atoR m l2).bind fun z=>((fixD op).R z.2).map fun y=>(f (z.1,y.1),y.2):=by
 rw [h]
 show Option.map _ (((argD g).R l).bind _)=_
 rw [arg_list hg,k]
 simp only [Option.bind_some]
 cases manyR atoR m l2 with
 | none=>rfl
 | some z=>simp only [Option.map_some,Option.bind_some,Option.map_map];rfl
theorem args_fix {f:List Ato × List Mkd→γ} {m:Nat} (h:r=(((argD g).pair (fixD op)).R l).map fun q=>(f q.1,q.2)) (hg:g=m):r=(manyR atoR m l).bind fun z=>((fixD op).R z.2).map fun y=>(f (z.1,y.1),y.2):=by
 rw [h]
 show Option.map _ (((argD g).R l).bind _)=_
 rw [arg_many by10,hg,Int.toNat_natCast]
 cases manyR atoR m l with
 | none=>rfl
 | some z=>simp only [Option.bind_some,Option.map_map];rfl
theorem fix_stop {f:List Mkd→γ} (h:r=((fixD op).R l).map fun q=>(f q.1,q.2)) (ho:op=4) (k:lenR l=none):r=none:=by
 rw [h,show (fixD op).R l=mkdD.list.R l from maybe_t _ _ _ (by simpa using ho)]
 show Option.map _ ((lenR l).bind _)=_
 rw [k];rfl
theorem fix_read {f:List Mkd→γ} {m:Nat} (h:r=((fixD op).R l).map fun q=>(f q.1,q.2)) (ho:op=4) (k:lenR l=some (m,l2)):r=(manyR mkdR (m - 0) l2).map fun q=>(f ([]++q.1),q.2):=by
 rw [h,show (fixD op).R l=mkdD.list.R l from maybe_t _ _ _ (by simpa using ho)]
 show Option.map _ ((lenR l).bind _)=_
 rw [k]
 simp only [Option.bind_some,Option.map_map]
 rfl
theorem fix_not {f:List Mkd→γ} (h:r=((fixD op).R l).map fun q=>(f q.1,q.2)) (ho:¬ op=4):r=some (f [],l):=by
 rw [h,show (fixD op).R l=some ([],l) from maybe_f _ _ _ (by simpa using ho)]
 rfl
theorem many_step {α:Type} {R:List Int→Option (α × List Int)} {n k:Nat} {acc:List α} {f:List α→γ} (h:r=(manyR R (n - k) l).map fun q=>(f (acc++q.1),q.2)) (hk:k<n) :
    (R l=none→r=none)∧∀ x l2,R l=some (x,l2)→r=(manyR R (n - (k+1)) l2).map fun q=>(f ((acc++[x])++q.1),q.2):=by
 rw [show n - k=(n - (k+1))+1 by omega] at h
 constructor
 ·intro e;rw [h,manyR,e];rfl
 intro x l2 e
 rw [h,manyR,e]
 simp only [Option.bind_some,Option.map_map]
 congr 1
 funext q
 simp
end
theorem mkd_stop1 {l:List Int} (h:numR l=none):mkdR l=none:=by unfold mkdR;rw [h];rfl
theorem mkd_stop2 {l l1:List Int} {n:Int} (h:numR l=some (n,l1)) (k:lenR l1=none):mkdR l=none:=by unfold mkdR;rw [h];show Option.map _ (listR atoR l1)=_;unfold listR;rw [k];rfl
theorem mkd_stop3 {l l1 l2:List Int} {n:Int} {m:Nat} (h:numR l=some (n,l1)) (k:lenR l1=some (m,l2)) (j:manyR atoR m l2=none):mkdR l=none:=by unfold mkdR;rw [h];show Option.map _ (listR atoR l1)=_;unfold listR;rw [k];show Option.map _ (Option.map _ (manyR atoR m l2))=_;rw [j];rfl
theorem mkd_read {l l1 l2 l3:List Int} {n:Int} {m:Nat} {a:List Ato} (h:numR l=some (n,l1)) (k:lenR l1=some (m,l2)) (j:manyR atoR m l2=some (a,l3)):mkdR l=some ((n,a),l3):=by unfold mkdR;rw [h];show Option.map _ (listR atoR l1)=_;unfold listR;rw [k];show Option.map _ (Option.map _ (manyR atoR m l2))=_;rw [j];rfl
def riI (i:RI):Is:=.mk i.1 i.2.1 i.2.2.2.1 i.2.2.1 i.2.2.2.2.1 (i.2.2.2.2.2.map Prod.fst) (i.2.2.2.2.2.map Prod.snd)
theorem opG_nat (op:Int):opG op<0∨∃ m:Nat,opG op=m∧m≤2:=by
 unfold opG
 split
 ·exact .inr ⟨2,V,by decide⟩
 split
 ·exact .inr ⟨1,V,by decide⟩
 split
 ·exact .inl by9
 exact .inr ⟨0,V,by decide⟩
theorem ins_r:Reads 57 insD.R (fun i _=>.agg (riI i).cells):=by
 intro b p bs hb hp hl
 have H:=number_r raw_r b p bs hb hp hl
 have HF:=fun (v:AV) (k:Int)=>fail_c v k
 obtain ⟨r,hr0⟩:∃ r,insD.R (bs.drop p)=r:=⟨_,rfl⟩
 rw [hr0]
 refine ACallX.enter Try.func57 V (by kernel_rfl) V (Yj V) ?_
 refine Qj ?_
 refine Qbo ?_;intro b2
 refine Qa5 ?_
 refine QaF ?_
 refine QaJ ?_
 refine Qp ?_
 refine QO ?_
 refine AOpsX.st 12 V V V (Zg V V ?_)
 refine AOpsX.cl 13 [1] (xs:=[.tmp 12]) V V V V V V (H) by0 (fun c h=>Ze c ⟨by rw [← hr0];exact ins_none h.1,h.2⟩) ?_
 rintro v9 M9 ⟨op,p1,hr,hp1,hp2,rfl,rfl⟩
 refine AOpsX.st 14 V V V (Zn (ns:=[0]) (xs:=[.tmp 13]) V tz_46 V tfl_46 V V V V (AOpsX.st 4 V V V (Zx (cs':=[_,_,_,_,_,_,_]) V tz_46 V V ?_)));intro b4
 refine AOpsX.st0 V V (Zi (cs':=[_,_,_,_,_,_,_]) (i:=0) V ts_46 V V V V V (Yj V) V ?_)
 refine QaU ?_
 have HO:=of_c op
 obtain ⟨fa,hfa⟩:∃ x,opA op=x:=⟨_,rfl⟩
 obtain ⟨fb,hfb⟩:∃ x,opB op=x:=⟨_,rfl⟩
 obtain ⟨fn,hfn⟩:∃ x,opN op=x:=⟨_,rfl⟩
 obtain ⟨fs,hfs⟩:∃ x,opS op=x:=⟨_,rfl⟩
 obtain ⟨fo,hfo⟩:∃ x,opOk op=x:=⟨_,rfl⟩
 obtain ⟨g,hg⟩:∃ x,opG op=x:=⟨_,rfl⟩
 rw [hfa,hfb,hfn,hfs,hfo,hg] at HO
 refine QaV ?_
 refine Zb 18 V V V (Zl (xs:=[.tmp 17]) V V (HO) by0 ?_)
 refine Qai ?_
 refine QbC ?_;intro b5
 refine QbZ ?_
 refine Qat ?_
 refine Qak ?_;intro c22 h22
 try replace h22:=nott h22 h20
 refine Qb ?_
 obtain ⟨rfl,g22⟩|⟨rfl,g22⟩:=Za h22
 ·refine Qaw ?_
  refine ACode.perm (pick_perm (is:=[2]) V) ?_
  have hok:opOk op=true:=by rw [hfo];simpa using g22
  have I0:=ins_op hr hok
  rw [hr0] at I0
  refine Qg ?_
  refine QaJ ?_
  have h27:(fa=true↔fa=true):=Iff.rfl
  refine Qb ?_
  apply c_joink (rg [(1,1),(3,1),(6,1),(8,23)]) (σ:=Int × Nat) (fun zz=>match zz with|(xa,q)=>[]) (fun zz=>match zz with|(xa,q)=>[.loc b (rdC bs q),.loc b5 [.val (.bool fa),.val (.bool fb),.val (.bool fn),.val (.bool fs),.val (.int .i64 g)],.loc b4 [.val (.int .i64 op),.val (.int .i64 xa),.val (.int .i64 0),.val (.int .i64 0),.val (.slice none 0 0),.val (.slice none 0 0),.val (.slice none 0 0)],.loc b2 [.val (.int .i64 0),.val (.int .i64 0),.val (.int .i64 0),.val (.int .i64 0),.val (.slice none 0 0),.val (.slice none 0 0),.val (.slice none 0 0)]]) (fun zz=>match zz with|(xa,q)=>p1≤q∧q≤bs.length∧r=(((nD op).pair ((numD.maybe (opB op) 0).pair ((argD (opG op)).pair (fixD op)))).R (bs.drop q)).map fun y=>((fun y=>(op,xa,y)) y.1,y.2))
  ·repeat' (first|exact Ym|apply Yk rfl|apply Yl rfl)
  ·skip
   obtain ⟨rfl,g27⟩|⟨rfl,g27⟩:=Za h27
   ·refine Qbb ?_
    first
    | exact ⟨(xa,q),⟨hq1,hq2,Zv (f:=fun y=>(op,y)) I0 ((maybe_t _ _ _ (hfa.trans by6)).trans hra)⟩,by2,Ye rfl⟩
    | exact ⟨(0,p1),⟨Nat.le_refl _,hp2,Zv (f:=fun y=>(op,y)) I0 (maybe_f _ _ _ (hfa.trans (by first|rfl|(simpa using g27))))⟩,by2,Ye rfl⟩
   refine Q6 ?_
   refine AOpsX.st 28 V V V (Zg V V ?_)
   refine AOpsX.cl 29 [0] (xs:=[.tmp 28]) V V V V V V (number_r raw_r b p1 bs hb hp2 hl) by0 (fun c h=>Ze c ⟨pair_stop (f:=fun y=>(op,y)) I0 ((maybe_t _ _ _ (hfa.trans by6)).trans h.1),h.2⟩) ?_
   rintro v9 M9 ⟨xa,q,hra,hq1,hq2,rfl,rfl⟩
   refine AOpsX.st 30 V V V (Zf V tf_46_1 V ?_)
   refine QcT ?_
   refine Qaa ?_
   refine QJ ?_
   first
   | exact ⟨(xa,q),⟨hq1,hq2,Zv (f:=fun y=>(op,y)) I0 ((maybe_t _ _ _ (hfa.trans by6)).trans hra)⟩,by2,Ye rfl⟩
   | exact ⟨(0,p1),⟨Nat.le_refl _,hp2,Zv (f:=fun y=>(op,y)) I0 (maybe_f _ _ _ (hfa.trans (by first|rfl|(simpa using g27))))⟩,by2,Ye rfl⟩
  rintro ⟨xa,q⟩ hI
  try dsimp only [List.cons_append,List.nil_append] at hI ⊢
  refine QE ?_
  refine Ql ?_
  obtain ⟨hq1,hq2,I1⟩:=hI
  refine Zu 36 (fn=true∧fs=true) ?_ _ _ V ?_
  ·skip
   refine QaJ ?_
   have h32:(fn=true↔fn=true):=Iff.rfl
   refine Qa ?_
   obtain ⟨rfl,g32⟩|⟨rfl,g32⟩:=Za h32
   ·skip
    refine Qan ?_
    refine Yi V ?_ by3 by1
    simp_all;done
   skip
   refine QaX ?_
   refine Qbf ?_
   have h35:(fs=true↔fs=true):=Iff.rfl
   refine Qu ?_
   refine Yi V ?_ by3 by1
   simp_all;done
  intro c36 h36
  refine Qd ?_
  apply c_joink (rg [(1,1),(3,1),(6,1),(8,37)]) (σ:=Int × Nat) (fun zz=>match zz with|(xn,q2)=>[]) (fun zz=>match zz with|(xn,q2)=>[.loc b (rdC bs q2),.loc b5 [.val (.bool fa),.val (.bool fb),.val (.bool fn),.val (.bool fs),.val (.int .i64 g)],.loc b4 [.val (.int .i64 op),.val (.int .i64 xa),.val (.int .i64 0),.val (.int .i64 xn),.val (.slice none 0 0),.val (.slice none 0 0),.val (.slice none 0 0)],.loc b2 [.val (.int .i64 0),.val (.int .i64 0),.val (.int .i64 0),.val (.int .i64 0),.val (.slice none 0 0),.val (.slice none 0 0),.val (.slice none 0 0)]]) (fun zz=>match zz with|(xn,q2)=>q≤q2∧q2≤bs.length∧r=(((numD.maybe (opB op) 0).pair ((argD (opG op)).pair (fixD op))).R (bs.drop q2)).map fun y=>((fun y=>(op,xa,xn,y)) y.1,y.2))
  ·repeat' (first|exact Ym|apply Yk rfl|apply Yl rfl)
  ·skip
   obtain ⟨rfl,g36⟩|⟨rfl,g36⟩:=Za h36
   ·refine QR ?_
    refine Qh ?_
    refine QaJ ?_
    have h41:(fn=true↔fn=true):=Iff.rfl
    refine Qb ?_
    obtain ⟨rfl,g41⟩|⟨rfl,g41⟩:=Za h41
    ·refine Qbb ?_
     first
     | exact ⟨(xn,q2),⟨hq3,hq4,Zv (f:=fun y=>(op,xa,y)) I1 ((nR_s _ (by rw [hfn,hfs];first|assumption|simp_all)).trans hrn)⟩,by2,Ye rfl⟩
     | exact ⟨(xn,q2),⟨hq3,hq4,Zv (f:=fun y=>(op,xa,y)) I1 ((nR_n _ (hfn.trans by6) (by rw [hfn,hfs];first|assumption|simp_all)).trans hrn)⟩,by2,Ye rfl⟩
     | exact ⟨(0,q),⟨Nat.le_refl _,hq2,Zv (f:=fun y=>(op,xa,y)) I1 (nR_0 _ (hfn.trans (by first|rfl|simpa using g41)))⟩,by2,Ye rfl⟩
    refine Q6 ?_
    refine AOpsX.st 42 V V V (Zg V V ?_)
    refine AOpsX.cl 43 [0] (xs:=[.tmp 42]) V V V V V V (number_r raw_r b q bs hb hq2 hl) by0 (fun c h=>Ze c ⟨pair_stop (f:=fun y=>(op,xa,y)) I1 ((nR_n _ (hfn.trans by6) (by rw [hfn,hfs];first|assumption|simp_all)).trans h.1),h.2⟩) ?_
    rintro v9 M9 ⟨xn,q2,hrn,hq3,hq4,rfl,rfl⟩
    refine AOpsX.st 44 V V V (Zf V tf_46_3 V ?_)
    refine QcU ?_
    refine Qaa ?_
    refine QJ ?_
    first
    | exact ⟨(xn,q2),⟨hq3,hq4,Zv (f:=fun y=>(op,xa,y)) I1 ((nR_s _ (by rw [hfn,hfs];first|assumption|simp_all)).trans hrn)⟩,by2,Ye rfl⟩
    | exact ⟨(xn,q2),⟨hq3,hq4,Zv (f:=fun y=>(op,xa,y)) I1 ((nR_n _ (hfn.trans by6) (by rw [hfn,hfs];first|assumption|simp_all)).trans hrn)⟩,by2,Ye rfl⟩
    | exact ⟨(0,q),⟨Nat.le_refl _,hq2,Zv (f:=fun y=>(op,xa,y)) I1 (nR_0 _ (hfn.trans (by first|rfl|simpa using g41)))⟩,by2,Ye rfl⟩
   refine Q6 ?_
   refine AOpsX.st 37 V V V (Zg V V ?_)
   refine AOpsX.cl 38 [0] (xs:=[.tmp 37]) V V V V V V (signed_r b q bs hb hq2 hl) by0 (fun c h=>Ze c ⟨pair_stop (f:=fun y=>(op,xa,y)) I1 ((nR_s _ (by rw [hfn,hfs];first|assumption|simp_all)).trans h.1),h.2⟩) ?_
   rintro v9 M9 ⟨xn,q2,hrn,hq3,hq4,rfl,rfl⟩
   refine AOpsX.st 39 V V V (Zf V tf_46_3 V ?_)
   refine QcU ?_
   refine Qaa ?_
   refine QJ ?_
   first
   | exact ⟨(xn,q2),⟨hq3,hq4,Zv (f:=fun y=>(op,xa,y)) I1 ((nR_s _ (by rw [hfn,hfs];first|assumption|simp_all)).trans hrn)⟩,by2,Ye rfl⟩
   | exact ⟨(xn,q2),⟨hq3,hq4,Zv (f:=fun y=>(op,xa,y)) I1 ((nR_n _ (hfn.trans by6) (by rw [hfn,hfs];first|assumption|simp_all)).trans hrn)⟩,by2,Ye rfl⟩
   | exact ⟨(0,q),⟨Nat.le_refl _,hq2,Zv (f:=fun y=>(op,xa,y)) I1 (nR_0 _ (hfn.trans (by first|rfl|simpa using g41)))⟩,by2,Ye rfl⟩
  rintro ⟨xn,q2⟩ hI
  try dsimp only [List.cons_append,List.nil_append] at hI ⊢
  refine QE ?_
  refine Ql ?_
  obtain ⟨hq3,hq4,I2⟩:=hI
  refine Qg ?_
  refine QaJ ?_
  have h46:(fb=true↔fb=true):=Iff.rfl
  refine Qb ?_
  apply c_joink (rg [(1,1),(3,1),(6,1),(8,38),(47,3)]) (σ:=Int × Nat) (fun zz=>match zz with|(xb,q3)=>[]) (fun zz=>match zz with|(xb,q3)=>[.loc b (rdC bs q3),.loc b5 [.val (.bool fa),.val (.bool fb),.val (.bool fn),.val (.bool fs),.val (.int .i64 g)],.loc b4 [.val (.int .i64 op),.val (.int .i64 xa),.val (.int .i64 xb),.val (.int .i64 xn),.val (.slice none 0 0),.val (.slice none 0 0),.val (.slice none 0 0)],.loc b2 [.val (.int .i64 0),.val (.int .i64 0),.val (.int .i64 0),.val (.int .i64 0),.val (.slice none 0 0),.val (.slice none 0 0),.val (.slice none 0 0)]]) (fun zz=>match zz with|(xb,q3)=>q2≤q3∧q3≤bs.length∧r=(((argD (opG op)).pair (fixD op)).R (bs.drop q3)).map fun y=>((fun y=>(op,xa,xn,xb,y)) y.1,y.2))
  ·repeat' (first|exact Ym|apply Yk rfl|apply Yl rfl)
  ·skip
   obtain ⟨rfl,g46⟩|⟨rfl,g46⟩:=Za h46
   ·refine Qbb ?_
    first
    | exact ⟨(xb,q3),⟨hq5,hq6,Zv (f:=fun y=>(op,xa,xn,y)) I2 ((maybe_t _ _ _ (hfb.trans by6)).trans hrb)⟩,by2,Ye rfl⟩
    | exact ⟨(0,q2),⟨Nat.le_refl _,hq4,Zv (f:=fun y=>(op,xa,xn,y)) I2 (maybe_f _ _ _ (hfb.trans (by first|rfl|(simpa using g46))))⟩,by2,Ye rfl⟩
   refine Q6 ?_
   refine AOpsX.st 47 V V V (Zg V V ?_)
   refine AOpsX.cl 48 [0] (xs:=[.tmp 47]) V V V V V V (number_r raw_r b q2 bs hb hq4 hl) by0 (fun c h=>Ze c ⟨pair_stop (f:=fun y=>(op,xa,xn,y)) I2 ((maybe_t _ _ _ (hfb.trans by6)).trans h.1),h.2⟩) ?_
   rintro v9 M9 ⟨xb,q3,hrb,hq5,hq6,rfl,rfl⟩
   refine AOpsX.st 49 V V V (Zf V tf_46_2 V ?_)
   refine QcT ?_
   refine Qaa ?_
   refine QJ ?_
   first
   | exact ⟨(xb,q3),⟨hq5,hq6,Zv (f:=fun y=>(op,xa,xn,y)) I2 ((maybe_t _ _ _ (hfb.trans by6)).trans hrb)⟩,by2,Ye rfl⟩
   | exact ⟨(0,q2),⟨Nat.le_refl _,hq4,Zv (f:=fun y=>(op,xa,xn,y)) I2 (maybe_f _ _ _ (hfb.trans (by first|rfl|(simpa using g46))))⟩,by2,Ye rfl⟩
  rintro ⟨xb,q3⟩ hI
  try dsimp only [List.cons_append,List.nil_append] at hI ⊢
  refine QE ?_
  obtain ⟨hq5,hq6,I3⟩:=hI
  refine Qg ?_
  refine QaJ ?_
  refine Qat ?_
  refine Qaq ?_;intro c53 h53
  refine Qb ?_
  apply c_joink (rg [(1,1),(3,1),(5,41),(47,9)]) (σ:=Nat × Nat) (fun zz=>match zz with|(m,q4)=>[(7,.val (.int .i64 m))]) (fun zz=>match zz with|(m,q4)=>[.loc b (rdC bs q4),.loc b5 [.val (.bool fa),.val (.bool fb),.val (.bool fn),.val (.bool fs),.val (.int .i64 g)],.loc b4 [.val (.int .i64 op),.val (.int .i64 xa),.val (.int .i64 xb),.val (.int .i64 xn),.val (.slice none 0 0),.val (.slice none 0 0),.val (.slice none 0 0)],.loc b2 [.val (.int .i64 0),.val (.int .i64 0),.val (.int .i64 0),.val (.int .i64 0),.val (.slice none 0 0),.val (.slice none 0 0),.val (.slice none 0 0)]]) (fun zz=>match zz with|(m,q4)=>q3≤q4∧q4≤bs.length∧m≤100000000∧r=(manyR atoR m (bs.drop q4)).bind fun z=>((fixD op).R z.2).map fun y=>((op,xa,xn,xb,z.1,y.1),y.2))
  ·repeat' (first|exact Ym|apply Yk rfl|apply Yl rfl)
  ·skip
   obtain ⟨rfl,g53⟩|⟨rfl,g53⟩:=Za h53
   ·refine Qbb ?_
    first
    | exact ⟨(m,q4),⟨hq7,hq8,by have:=lenR_le hrm;simp at this;show m≤100000000;omega,args_read (f:=fun y=>(op,xa,xn,xb,y)) I3 (hg.symm ▸ by8) hrm⟩,by2,Ye rfl⟩
    | (rcases opG_nat op with k|⟨m,k,k2⟩
       ·omega
       exact ⟨(m,q3),⟨Nat.le_refl _,hq6,by show m≤100000000;omega,args_fix (f:=fun y=>(op,xa,xn,xb,y)) I3 k⟩,SLe.cons V (Le.ieq (by rw [← hg,k])) by2,Ye V⟩)
   refine Q6 ?_
   refine AOpsX.st 54 V V V (Zg V V ?_)
   refine AOpsX.cl 55 [0] (xs:=[.tmp 54]) V V V V V V (length_r (number_r raw_r) b q3 bs hb hq6 hl) by0 (fun c h=>Ze c ⟨args_stop (f:=fun y=>(op,xa,xn,xb,y)) I3 (hg.symm ▸ by8) h.1,h.2⟩) ?_
   rintro v9 M9 ⟨m,q4,hrm,hq7,hq8,rfl,rfl⟩
   refine AOpsX.st 7 V V V (op_assign V V ?_)
   refine Qaa ?_
   refine QJ ?_
   first
   | exact ⟨(m,q4),⟨hq7,hq8,by have:=lenR_le hrm;simp at this;show m≤100000000;omega,args_read (f:=fun y=>(op,xa,xn,xb,y)) I3 (hg.symm ▸ by8) hrm⟩,by2,Ye rfl⟩
   | (rcases opG_nat op with k|⟨m,k,k2⟩
      ·omega
      exact ⟨(m,q3),⟨Nat.le_refl _,hq6,by show m≤100000000;omega,args_fix (f:=fun y=>(op,xa,xn,xb,y)) I3 k⟩,SLe.cons V (Le.ieq (by rw [← hg,k])) by2,Ye V⟩)
  rintro ⟨m,q4⟩ hI
  try dsimp only [List.cons_append,List.nil_append] at hI ⊢
  refine QE ?_
  obtain ⟨hq7,hq8,hm,I4⟩:=hI
  refine QO ?_
  refine AOpsX.st 56 V V V (Zg V V (AOpsX.st 57 V V V (Zg V V ?_)))
  refine AOpsX.cl 58 [0] (xs:=[.tmp 56,.tmp 57]) V V V V V V (atoms_r m b q4 bs hb hq8 hl hm) by0 (fun c h=>Ze c ⟨by rw [I4,h.1];rfl,h.2⟩) ?_
  rintro v9 M9 ⟨ar,q5,hrs,hq9,hq10,rfl,rfl⟩;rw [hrs] at I4;replace I4:r=((fixD op).R (bs.drop q5)).map fun y=>((op,xa,xn,xb,ar,y.1),y.2):=I4
  refine AOpsX.st 59 V V V (Zf V tf_46_4 V (AOpsX.st0 V V (Zi (cs':=[_,_,_,_,_,_,_]) (i:=2) V ts_42 V V V V V (Yj V) V ?_)))
  refine QaU ?_
  refine Qh ?_
  refine QN ?_
  refine QbD ?_
  refine QA ?_;intro c62 h62
  refine Qb ?_
  apply c_joink (rg [(0,2),(3,1),(5,41),(47,37)]) (σ:=List Mkd × Nat) (fun zz=>match zz with|(mk,q9)=>[]) (fun zz=>match zz with|(mk,q9)=>[.loc b (rdC bs q9),.loc b5 [.val (.bool fa),.val (.bool fb),.val (.bool fn),.val (.bool fs),.val (.int .i64 g)],.loc b4 [.val (.int .i64 op),.val (.int .i64 xa),.val (.int .i64 xb),.val (.int .i64 xn),.seq 2 (Ato.cellss ar),.seq 1 (nums (mk.map Prod.fst)),.seq 1 (Ato.cellsss (mk.map Prod.snd))],.loc b2 [.val (.int .i64 0),.val (.int .i64 0),.val (.int .i64 0),.val (.int .i64 0),.val (.slice none 0 0),.val (.slice none 0 0),.val (.slice none 0 0)]]) (fun zz=>match zz with|(mk,q9)=>q5≤q9∧q9≤bs.length∧r=some ((op,xa,xn,xb,ar,mk),bs.drop q9))
  ·repeat' (first|exact Ym|apply Yk rfl|apply Yl rfl)
  ·skip
   obtain ⟨rfl,g62⟩|⟨rfl,g62⟩:=Za h62
   ·refine Qbb ?_
    first
    | (have e:m2 - k=0:=by omega
       rw [e] at h5
       exact ⟨(acc,q7),⟨by show q5≤q7;omega,h4,by rw [h5];simp [manyR]⟩,by2,MLe.cons _ (MLe.cons _ (MLe.loc _ (Yh (Yf _) (Yh (Yf _) (Yh (Yf _) (Yh (Yf _) (Yh (Yf _) (Yh (Le.own _ _ _) (Yh (Le.own _ _ _) (Yg _)))))))) (MLe.cons _ (MLe.none _))))⟩)
    | exact ⟨([],q5),⟨Nat.le_refl _,hq10,fix_not (f:=fun y=>(op,xa,xn,xb,ar,y)) I4 by8⟩,by2,MLe.cons _ (MLe.cons _ (MLe.loc _ (Yh (Yf _) (Yh (Yf _) (Yh (Yf _) (Yh (Yf _) (Yh (Yf _) (Yh (Le.nil _) (Yh (Le.nil _) (Yg _)))))))) (Ye rfl)))⟩
   refine Qao ?_
   refine QO ?_
   refine AOpsX.st 63 V V V (Zg V V ?_)
   refine AOpsX.cl 64 [0] (xs:=[.tmp 63]) V V V V V V (length_r (number_r raw_r) b q5 bs hb hq10 hl) by0 (fun c h=>Ze c ⟨fix_stop (f:=fun y=>(op,xa,xn,xb,ar,y)) I4 by8 h.1,h.2⟩) ?_
   rintro v9 M9 ⟨m2,q6,hrl,hq11,hq12,rfl,rfl⟩;have hm2:m2≤100000000:=(by have:=lenR_le hrl;simp at this;omega);replace I4:=fix_read (f:=fun y=>(op,xa,xn,xb,ar,y)) I4 by8 hrl
   refine AOpsX.st 65 V V V (Zg V V ?_)
   refine Qaa ?_
   refine Qd ?_
   refine QK ?_
   refine c_ownNew 3 1 (c_ownNew 42 1 ?_)
   apply c_loopk (rg [(1,1),(3,1),(5,41),(47,17),(65,19)]) (σ:=Nat × List Mkd × Nat × Value × Value) (fun zz=>match zz with|(k,acc,q7,u,w)=>[(65,.val (.int .i64 k))]) (fun zz=>match zz with|(k,acc,q7,u,w)=>[.loc b (rdC bs q7),.loc b5 [.val (.bool fa),.val (.bool fb),.val (.bool fn),.val (.bool fs),.val (.int .i64 g)],.loc b4 [.val (.int .i64 op),.val (.int .i64 xa),.val (.int .i64 xb),.val (.int .i64 xn),.seq 2 (Ato.cellss ar),.own u 1 (nums (acc.map Prod.fst)),.own w 1 (Ato.cellsss (acc.map Prod.snd))],.loc b2 [.val (.int .i64 0),.val (.int .i64 0),.val (.int .i64 0),.val (.int .i64 0),.val (.slice none 0 0),.val (.slice none 0 0),.val (.slice none 0 0)],.own 3 1 u,.own 42 1 w]) (fun zz=>match zz with|(k,acc,q7,u,w)=>k≤m2∧acc.length=k∧q6≤q7∧q7≤bs.length∧r=(manyR mkdR (m2 - k) (bs.drop q7)).map fun y=>((op,xa,xn,xb,ar,acc++y.1),y.2)) (fun zz=>match zz with|(k,acc,q7,u,w)=>m2 - k) ((0,[],q6,.slice none 0 0,.slice none 0 0))
   ·repeat' (first|exact Ym|apply Yk rfl|apply Yl rfl)
   ·exact ⟨Nat.zero_le _,V,Nat.le_refl _,hq12,I4⟩
   ·exact by2
   ·exact MLe.cons _ (MLe.cons _ (MLe.loc _ (Yh (Yf _) (Yh (Yf _) (Yh (Yf _) (Yh (Yf _) (Yh (Yf _) (Yh (Le.nilOwn 1) (Yh (Le.nilOwn 1) (Yg _)))))))) (Ye V)))
   rintro ⟨k,acc,q7,u,w⟩ hI
   try dsimp only [List.cons_append,List.nil_append] at hI ⊢
   obtain ⟨h1,h2,h3,h4,h5⟩:=hI
   have hle:(nums (acc.map Prod.fst)).length≤100000000:=by simp [nums];omega
   have hle2:(Ato.cellsss (acc.map Prod.snd)).length≤100000000:=by rw [Ato.cellsss_len];simp;omega
   refine Qy ?_;intro c66 h66
   refine Qf ?_
   obtain ⟨rfl,g66⟩|⟨rfl,g66⟩:=Za h66
   ·refine QZ ?_
    refine QJ ?_
    first
    | (have e:m2 - k=0:=by omega
       rw [e] at h5
       exact ⟨(acc,q7),⟨by show q5≤q7;omega,h4,by rw [h5];simp [manyR]⟩,by2,MLe.cons _ (MLe.cons _ (MLe.loc _ (Yh (Yf _) (Yh (Yf _) (Yh (Yf _) (Yh (Yf _) (Yh (Yf _) (Yh (Le.own _ _ _) (Yh (Le.own _ _ _) (Yg _)))))))) (MLe.cons _ (MLe.none _))))⟩)
    | exact ⟨([],q5),⟨Nat.le_refl _,hq10,fix_not (f:=fun y=>(op,xa,xn,xb,ar,y)) I4 by8⟩,by2,MLe.cons _ (MLe.cons _ (MLe.loc _ (Yh (Yf _) (Yh (Yf _) (Yh (Yf _) (Yh (Yf _) (Yh (Yf _) (Yh (Le.nil _) (Yh (Le.nil _) (Yg _)))))))) (Ye rfl)))⟩
   refine Qw ?_
   obtain ⟨hs1,hs2⟩:=many_step (f:=fun y=>(op,xa,xn,xb,ar,y)) h5 by10
   refine QcV ?_
   refine EOpsX.d 67 (none) (i:=0) V V V V V (Zf V tf_46_5 V ⟨V,V⟩) ?_
   refine EOpsX.d 68 (some 2) (i:=1) V V V V V (op_load_m1 (i:=0) V ta_43 V V V ⟨V,V⟩) ?_
   refine EOpsX.d 69 (none) (i:=2) V V V V V (Zg V V ⟨V,V⟩) ?_
   refine EOpsX.x 0 (xs:=[.tmp 69]) (i:=3) V V V V V V V V (ACallX.mono (number_r raw_r b q7 bs hb h4 hl) (fun _ _ h=>h) (fun c h=>⟨hs1 (mkd_stop1 h.1),h.2⟩)) by0 ?_
   rintro v9 M9 ⟨fnn,q8,hrf,hq13,hq14,rfl,rfl⟩
   refine ⟨_,V,?_⟩
   refine EOpsX.d 71 (none) (i:=4) V V V V V (Zp (xs:=[.tmp 70]) el_43 V V V V V V (Yj V) ⟨V,V⟩) ?_
   refine EOpsX.w 4 (i:=5) V V V V V (op_append (i:=0) el_43 V V V V (.seq _ _) by4 (fun u72=>⟨_,V,?_⟩))
   refine EOpsX.d 73 (none) (i:=6) V V V V V (Zf V tf_46_5 V ⟨V,V⟩) ?_
   refine EOpsX.w 2 (i:=7) V V V V V (Zi (cs':=[_,_,_,_,_,_,_]) (i:=0) V ts_43 V V V V V (Yj V) V ⟨_,V,?_⟩)
   show AGo _ _ _ _ _ _ _
   refine Qd ?_
   refine c_drawnX [0,1,2,3,4,5,6,7,8,9] [4,5,7,9] [[],[0],[],[],[3],[2,3,4],[2,3,4,5],[0,1,2,3,4,5,6],[0,1,2,3,4,5,6,7],[0,1,2,3,4,5,6,7,8]] tmix V (fun c h=>Ze c h) ?_
   refine EOpsX.d 74 (none) (i:=0) V V V V V (Zf V tf_46_6 V ⟨V,V⟩) ?_
   refine EOpsX.d 75 (some 2) (i:=1) V V V V V (op_load_m1 (i:=0) V ta_44 V V V ⟨V,V⟩) ?_
   refine EOpsX.d 76 (none) (i:=2) V V V V V (Zg V V ⟨V,V⟩) ?_
   refine EOpsX.d 77 (none) (i:=3) V V V V V (Zg V V ⟨V,V⟩) ?_
   refine EOpsX.x 0 (xs:=[.tmp 77]) (i:=4) V V V V V V V V (ACallX.mono (length_r (number_r raw_r) b q8 bs hb hq14 hl) (fun _ _ h=>h) (fun c h=>⟨hs1 (mkd_stop2 hrf h.1),h.2⟩)) by0 ?_
   rintro v9 M9 ⟨m3,q9,hrg,hq15,hq16,rfl,rfl⟩;have hm3:m3≤100000000:=(by have:=lenR_le hrg;simp at this;omega)
   refine ⟨_,V,?_⟩
   refine EOpsX.x 0 (xs:=[.tmp 76,.tmp 78]) (i:=5) V V V V V V V V (ACallX.mono (atoms_r m3 b q9 bs hb hq16 hl hm3) (fun _ _ h=>h) (fun c h=>⟨hs1 (mkd_stop3 hrf hrg h.1),h.2⟩)) by0 ?_
   rintro v9 M9 ⟨cal,q10,hrh,hq17,hq18,rfl,rfl⟩
   refine ⟨_,V,?_⟩
   refine EOpsX.d 80 (none) (i:=6) V V V V V (Zp (xs:=[.tmp 79]) el_44 V V V V V V (Yj V) ⟨V,V⟩) ?_
   refine EOpsX.w 5 (i:=7) V V V V V (op_append (i:=0) el_44 V V V V (.seq _ _) by4 (fun u81=>⟨_,V,?_⟩))
   refine EOpsX.d 82 (none) (i:=8) V V V V V (Zf V tf_46_6 V ⟨V,V⟩) ?_
   refine EOpsX.w 2 (i:=9) V V V V V (Zi (cs':=[_,_,_,_,_,_,_]) (i:=0) V ts_44 V V V V V (Yj V) V ⟨_,V,?_⟩)
   show AGo _ _ _ _ _ _ _
   refine Q0 ?_
   exact ⟨(k+1,acc++[(fnn,cal)],q10,u72,u81),⟨by show k+1≤m2;omega,by simp [h2],by show q6≤q10;omega,hq18,hs2 _ _ (mkd_read hrf hrg hrh)⟩,by show m2 - (k+1)<m2 - k;omega,by2,MLe.cons _ (MLe.cons _ (MLe.loc _ (Yh (Yf _) (Yh (Yf _) (Yh (Yf _) (Yh (Yf _) (Yh (Yf _) (Yh (Le.own_eq (by simp [nums];rfl)) (Yh (Le.own_eq (by simp [Ato.cellsss];rfl)) (Yg _)))))))) (Ye V)))⟩
  rintro ⟨mk,q9⟩ hI
  try dsimp only [List.cons_append,List.nil_append] at hI ⊢
  refine QU ?_
  refine Zb 84 V V V (Zr (cs':=[_,_,_,_,_,_,_]) (i:=2) V ta_46 V V V V (Zt V V (Zi (cs':=[_,_,_,_,_,_,_]) (i:=3) V ts_46 V V V V V (Yj V) V ?_)))
  refine Qb ?_
  refine c_ret ?_
  obtain ⟨hq11,hq12,I5⟩:=hI
  exact out_cell (R:=fun v M'=>_) (i:=3) V V V ta_46 V (Yf _) by1 ⟨(op,xa,xn,xb,ar,mk),q9,I5,by omega,hq12,V,V⟩
 refine Q6 ?_
 refine AOpsX.st 23 V V V (Zg V V ?_)
 refine Qcm ?_
 exact AOpsX.never 25 (xs:=[.tmp 23,.tmp 24]) V V V V V (HF _ _) by0 (fun c h=>Ze c ⟨by rw [← hr0];exact ins_bad hr (by simp_all),_,by omega,by omega,h⟩)
theorem number_c (c:Cd) (f:Cf) (fr to:Int) (ps:List Pm) (i:Is) (fa fb fn fg:Bool) (ag:Int) (hps:ps.length≤1000):BCall Try.prog 43 [.agg (ckCells c f fr to ps),.agg i.cells,.agg [.val (.bool fa),.val (.bool fb),.val (.bool fn),.val (.bool fg),.val (.int .i64 ag)]] (NumP ps i fn ag):=by
 obtain ⟨is,fu,tx,gl,ys,no⟩:=c
 obtain ⟨fl,sl,cp⟩:=f
 obtain ⟨op,a,b,n,ar,fs,ca⟩:=i
 have hla:=Ato.cellss_len ar
 have hlp:=Pm.cellss_len ps
 obtain ⟨⟨ws,wo,wn,⟨wv,wp,⟨wk,wt,wm,wl⟩⟩⟩,hw⟩:∃ p:Pm,1≤n→n≤ps.length→ps[(n - 1).toNat]?=some p:=by
  by_cases q:1≤n∧n≤ps.length
  ·exact ⟨ps[(n - 1).toNat]'by10,fun _ _=>List.getElem?_eq_getElem by10⟩
  exact ⟨⟨⟨#[]⟩,0,0,⟨[],[],⟨0,⟨#[]⟩,0,[]⟩⟩⟩,fun h1 h2=>absurd ⟨h1,h2⟩ q⟩
 show BCall _ _ _ ((op=3→0<ar.length∧0≤n∧n≤65535)∧(op=8→1≤n∧n≤ps.length∧∀ p,ps[(n - 1).toNat]?=some p→(ar.length:Int)=p.n)∧(op=9∨op=12→0≤n∧n≤1048576∧(ar.length:Int)=ag)∧(op≠3∧op≠8∧op≠9∧op≠12→(fn=true∨n=0)∧(ar.length:Int)=ag))
 refine Zc Try.func43 V (by kernel_rfl) V (Yj V) ?_
 refine Qj ?_
 refine QbJ ?_
 refine Qbr ?_
 refine Zb 5 V V V (op_boxc (cs':=[_,_,_,_,_]) V V V V ?_)
 refine Qp ?_
 refine QV ?_
 refine Qb ?_
 refine QK ?_
 refine Q3 ?_;intro c10 h10
 refine Qk ?_
 obtain ⟨rfl,g10⟩|⟨rfl,g10⟩:=Za h10
 ·refine QR ?_
  refine Q3 ?_;intro c26 h26
  refine Qk ?_
  obtain ⟨rfl,g26⟩|⟨rfl,g26⟩:=Za h26
  ·refine QR ?_
   refine Ql ?_
   refine Q3 ?_;intro c53 h53
   refine Qk ?_
   obtain ⟨rfl,g53⟩|⟨rfl,g53⟩:=Za h53
   ·refine QR ?_
    refine Qg ?_
    refine QA ?_;intro c54 h54
    refine Qk ?_
    obtain ⟨rfl,g54⟩|⟨rfl,g54⟩:=Za h54
    ·refine Qr ?_
     refine QW ?_
     refine QE ?_
     refine Zu 6 ((fn=true∨n=0)∧(ar.length:Int)=ag) ?_ _ _ V ?_
     ·skip
      refine Qn ?_
      have h72:(fn=true↔fn=true):=Iff.rfl
      refine Qa ?_
      obtain ⟨rfl,g72⟩|⟨rfl,g72⟩:=Za h72
      ·skip
       refine QaW ?_;intro c76 h76
       refine Qc ?_
       obtain ⟨rfl,g76⟩|⟨rfl,g76⟩:=Za h76
       ·skip
        refine Qo ?_
        refine Qaj ?_
        refine Yi V ?_ by3 by1
        simp_all;done
       skip
       refine Qe ?_
       refine Qb0 ?_;intro n81
       refine QaW ?_;intro c84 h84
       refine Qq ?_
       refine Yi V ?_ by3 by1
       simp_all;done
      skip
      refine Qa8 ?_
      refine Qe ?_
      refine Qb0 ?_;intro n81
      refine QaW ?_;intro c84 h84
      refine Qq ?_
      refine Yi V ?_ by3 by1
      simp_all;done
     intro c6 h6
     refine QI ?_
     exact Zd V V (Yf _) by1 ⟨⟨_,h6.trans ⟨fun q=>⟨by omega,by omega,by omega,fun _=>q⟩,fun q=>q.2.2.2 by10⟩,V⟩,V⟩
    refine Qao ?_
    refine Zu 6 (0≤n∧n≤1048576∧(ar.length:Int)=ag) ?_ _ _ V ?_
    ·skip
     refine Qn ?_
     refine Qac ?_;intro c57 h57
     refine Qa ?_
     obtain ⟨rfl,g57⟩|⟨rfl,g57⟩:=Za h57
     ·skip
      refine Q5 ?_
      refine QL ?_
      refine Qaj ?_
      refine Yi V ?_ by3 by1
      simp_all;omega
     skip
     refine Qe ?_
     refine QbK ?_;intro c61 h61
     refine Qc ?_
     obtain ⟨rfl,g61⟩|⟨rfl,g61⟩:=Za h61
     ·skip
      refine Qo ?_
      refine Qaj ?_
      refine Yi V ?_ by3 by1
      simp_all;omega
     skip
     refine Qe ?_
     refine Qb0 ?_;intro n66
     refine QaW ?_;intro c69 h69
     refine Qq ?_
     refine Yi V ?_ by3 by1
     simp_all;done
    intro c6 h6
    refine QI ?_
    exact Zd V V (Yf _) by1 ⟨⟨_,h6.trans ⟨fun q=>⟨by omega,by omega,fun _=>q,by omega⟩,fun q=>q.2.2.1 by10⟩,V⟩,V⟩
   refine QaN ?_
   refine Qd ?_
   refine Qao ?_
   refine Zu 6 (0≤n∧n≤1048576∧(ar.length:Int)=ag) ?_ _ _ V ?_
   ·skip
    refine Qn ?_
    refine Qac ?_;intro c57 h57
    refine Qa ?_
    obtain ⟨rfl,g57⟩|⟨rfl,g57⟩:=Za h57
    ·skip
     refine Q5 ?_
     refine QL ?_
     refine Qaj ?_
     refine Yi V ?_ by3 by1
     simp_all;omega
    skip
    refine Qe ?_
    refine QbK ?_;intro c61 h61
    refine Qc ?_
    obtain ⟨rfl,g61⟩|⟨rfl,g61⟩:=Za h61
    ·skip
     refine Qo ?_
     refine Qaj ?_
     refine Yi V ?_ by3 by1
     simp_all;omega
    skip
    refine Qe ?_
    refine Qb0 ?_;intro n66
    refine QaW ?_;intro c69 h69
    refine Qq ?_
    refine Yi V ?_ by3 by1
    simp_all;done
   intro c6 h6
   refine QI ?_
   exact Zd V V (Yf _) by1 ⟨⟨_,h6.trans ⟨fun q=>⟨by omega,by omega,fun _=>q,by omega⟩,fun q=>q.2.2.1 by10⟩,V⟩,V⟩
  refine Qao ?_
  refine c_boold 6 (1≤n∧n≤ps.length∧(ar.length:Int)=wn) tmix V ?_ _ _ V ?_
  ·skip
   refine QaO ?_
   refine DOps.cm 29 V V (fun _ q=>op_geq V V V q) ?_;intro c29 h29
   refine Qv ?_
   obtain ⟨rfl,g29⟩|⟨rfl,g29⟩:=Za h29
   ·skip
    refine QaH ?_
    refine QD ?_
    refine QD ?_
    refine Qa4 ?_
    refine QaC ?_
    refine QaH ?_
    refine Qab ?_
    refine QbY ?_
    show BoolQ _ _ _ _ _ _
    refine Yi V ?_ by3 by1
    simp_all;omega
   skip
   refine Qam ?_
   refine Qam ?_
   refine Yc 35 V V V V (op_len V tu_50 V (.seq _ _) (fun _=>⟨V,V⟩)) ?_
   refine DOps.gtc 36 V V V V (fun _ q=>op_leq V V V q) ?_;intro c36 h36
   refine Qa4 ?_
   obtain ⟨rfl,g36⟩|⟨rfl,g36⟩:=Za h36
   ·skip
    refine QaC ?_
    refine QaH ?_
    refine Qab ?_
    refine QbY ?_
    show BoolQ _ _ _ _ _ _
    refine Yi V ?_ by3 by1
    simp_all;omega
   skip
   refine Qam ?_
   refine QcW ?_
   refine Qam ?_
   refine Qam ?_
   refine QcX ?_
   refine Yc 47 V V V V (Zo (i:=(n - 1).toNat) V te_50 V (.seq _ _) V (by first|rfl|omega) (Pm.cellss_get (hw by10 by10)) ⟨V,V⟩) ?_
   refine Qam ?_
   refine DOps.gtc 50 V V V V (fun _ q=>op_eql V V V q) ?_;intro c50 h50
   refine Qab ?_
   refine QbY ?_
   show BoolQ _ _ _ _ _ _
   refine Yi V ?_ by3 by1
   simp_all;done
  intro c6 h6
  refine QI ?_
  exact Zd V V (Yf _) by1 ⟨⟨_,h6.trans ⟨fun q=>⟨by omega,fun _=>⟨q.1,q.2.1,fun p hp=>by rw [hw q.1 q.2.1] at hp;cases hp;exact q.2.2⟩,by omega,by omega⟩,fun q=>⟨(q.2.1 g26).1,(q.2.1 g26).2.1,(q.2.1 g26).2.2 _ (hw (q.2.1 g26).1 (q.2.1 g26).2.1)⟩⟩,V⟩,V⟩
 refine Qao ?_
 refine Zu 6 (0<ar.length∧0≤n∧n≤65535) ?_ _ _ V ?_
 ·skip
  refine Qn ?_
  refine Qay ?_;intro n13
  refine QbB ?_;intro c14 h14
  refine Qa ?_
  obtain ⟨rfl,g14⟩|⟨rfl,g14⟩:=Za h14
  ·skip
   refine Qa8 ?_
   refine QaK ?_
   refine Yi V ?_ by3 by1
   simp_all;done
  skip
  refine Qe ?_
  refine Zh 18 V V V V V (op_geq V V V ?_);intro c18 h18
  refine Qc ?_
  obtain ⟨rfl,g18⟩|⟨rfl,g18⟩:=Za h18
  ·skip
   refine QaK ?_
   refine Yi V ?_ by3 by1
   simp_all;omega
  skip
  refine Qe ?_
  refine QbK ?_;intro c23 h23
  refine Qq ?_
  refine Yi V ?_ by3 by1
  simp_all;done
 intro c6 h6
 refine QI ?_
 exact Zd V V (Yf _) by1 ⟨⟨_,h6.trans ⟨fun q=>⟨fun _=>q,by omega,by omega,by omega⟩,fun q=>q.1 g10⟩,V⟩,V⟩
theorem fix_c (c:Cd) (f:Cf) (fr to:Int) (ps:List Pm) (i:Is) (h1:1≤f.sl) (h2:f.sl≤1048576) (hli:i.Lim):BCall Try.prog 46 [.agg (ckCells c f fr to ps),.agg i.cells] (FixP c f i):=by
 have HA:=fun l=>Ev_Ato (AtomP f c.gl) 45 [.agg (ckCells c f fr to ps)] [] l (fun x _=>atom_c c f fr to ps x)
 obtain ⟨_,_,_,_,_,⟨hlf,_⟩,hlc,_⟩:=hli
 obtain ⟨op,a,b,n,ar,fs,ca⟩:=i
 dsimp only at hlf hlc
 have hl1:=nums_len fs
 have hl2:=Ato.cellsss_len ca
 show BCall _ _ _ ((op≠4→fs=[]∧ca=[])∧(op=4→fs≠[]∧ca.length=fs.length∧a≤f.sl - fs.length∧∀ (k:Nat) n l,fs[k]?=some n→ca[k]?=some l→CapP c f n l))
 unfold CapP
 generalize hAP:AtomP f c.gl=AP at *
 obtain ⟨is,fu,tx,gl,ys,no⟩:=c
 obtain ⟨fl,sl,cp⟩:=f
 have hl3:=Cf.cellss_len fu
 simp only [Cf.sl] at h1 h2 ⊢
 simp only [Cd.fu]
 refine Zc Try.func46 V (by kernel_rfl) V (Yj V) ?_
 refine Qj ?_
 refine QbJ ?_
 refine Qbr ?_
 refine Qp ?_
 refine QV ?_
 refine Qbn ?_;intro c9 h9
 refine Qb ?_
 obtain ⟨rfl,g9⟩|⟨rfl,g9⟩:=Za h9
 ·refine Qaw ?_
  refine Zu 42 (¬ (fs≠[]∧ca.length=fs.length∧a≤sl - fs.length)) ?_ _ _ V ?_
  ·skip
   refine Qn ?_
   refine Qbg ?_;intro n20
   refine QA ?_;intro c21 h21
   refine Qa ?_
   obtain ⟨rfl,g21⟩|⟨rfl,g21⟩:=Za h21
   ·skip
    refine Qe ?_
    refine Qcf ?_;intro n25
    refine Qe ?_
    refine QbT ?_;intro n28
    refine QP ?_;intro c29 h29
    refine Qc ?_
    obtain ⟨rfl,g29⟩|⟨rfl,g29⟩:=Za h29
    ·skip
     refine Qe ?_
     refine QbG ?_
     refine Qe ?_
     refine Qe ?_
     refine QbT ?_;intro n39
     refine Qcp ?_
     refine Qad ?_;intro c41 h41
     refine Qu ?_
     refine Yi V ?_ by3 by1
     rw [h41,ne_nil_iff];omega
    skip
    refine Qo ?_
    refine Qo ?_
    refine Qan ?_
    refine Yi V ?_ by3 by1
    rw [ne_nil_iff];simp only [true_iff];omega
   skip
   refine Qav ?_
   refine QL ?_
   refine Qo ?_
   refine Qan ?_
   refine Yi V ?_ by3 by1
   rw [ne_nil_iff];simp only [true_iff];omega
  intro c42 h42
  refine Qd ?_
  obtain ⟨rfl,g42⟩|⟨rfl,g42⟩:=Za h42
  ·refine Qaw ?_
   obtain ⟨e1,e2,e3⟩:=Classical.not_not.1 g42
   refine Qa3 ?_
   refine Qbg ?_;intro n45
   refine QG ?_
   apply Ya (rg [(0,2),(4,40),(46,43)]) (σ:=Nat) (fun zz=>match zz with|k=>[(46,.val (.int .i64 k))]) (fun zz=>match zz with|k=>k≤fs.length∧∀ j n l,j<k→fs[j]?=some n→ca[j]?=some l→1≤n∧n<fu.length∧(∀ g,fu[n.toNat]?=some g→(l.length:Int)=g.cp)∧∀ a∈l,AP a) (fun zz=>match zz with|k=>fs.length - k) (0)
   ·repeat' (first|exact Ym|apply Yk rfl|apply Yl rfl)
   ·exact ⟨by omega,by omega⟩
   ·exact by2
   rintro k hI
   try dsimp only [List.cons_append,List.nil_append] at hI ⊢
   obtain ⟨hk,hu⟩:=hI
   refine Qy ?_;intro c47 h47
   refine Qf ?_
   obtain ⟨rfl,g47⟩|⟨rfl,g47⟩:=Za h47
   ·refine QZ ?_
    refine QU ?_
    refine Qi ?_
    exact Zd V V (Yf _) by1 ⟨⟨_,iff_t ⟨by omega,fun _=>⟨e1,e2,e3,fun k' n' l' hn hl=>hu k' n' l' (by have:=(List.getElem?_eq_some_iff.1 hn).1;omega) hn hl⟩⟩,V⟩,V⟩
   refine Qw ?_
   obtain ⟨m,hxm⟩:=Zm (l:=fs) (i:=k) by5
   have hcm:=nums_get hxm
   have hmm:=Yn hxm
   refine Qt ?_
   refine Zb 49 V V V (Zo V te_43 V (.seq _ _) V V by8 ?_)
   refine Q9 ?_
   refine QC ?_
   refine Qp ?_
   obtain ⟨l,hxl⟩:=Zm (l:=ca) (i:=k) by10
   have hcl:=Ato.cellsss_get hxl
   have hll:=Ato.cellss_len l
   obtain ⟨⟨wl,wsl,wcp⟩,hw⟩:∃ p:Cf,1≤m→m<fu.length→fu[m.toNat]?=some p:=by
    by_cases q:1≤m∧m<fu.length
    ·exact ⟨fu[m.toNat]'by10,fun _ _=>List.getElem?_eq_getElem by10⟩
    exact ⟨⟨0,0,0⟩,fun h1 h2=>absurd ⟨h1,h2⟩ q⟩
   refine c_boold 87 (¬ (1≤m∧m<fu.length∧(l.length:Int)=wcp∧∀ a∈l,AP a)) tmix V ?_ _ _ V ?_
   ·skip
    refine Qv ?_
    refine DOps.cm 52 V V (fun _ q=>op_lss V V V q) ?_;intro c52 h52
    refine Qv ?_
    obtain ⟨rfl,g52⟩|⟨rfl,g52⟩:=Za h52
    ·skip
     refine QbH ?_
     refine Qb6 ?_
     refine Qam ?_
     refine Yc 58 V V V V (op_len V tu_23 V (.seq _ _) (fun _=>⟨V,V⟩)) ?_
     refine DOps.gtc 59 V V V V (fun _ q=>op_geq V V V q) ?_;intro c59 h59
     refine Qa4 ?_
     obtain ⟨rfl,g59⟩|⟨rfl,g59⟩:=Za h59
     ·skip
      refine Qa0 ?_
      refine QcY ?_
      refine Qb7 ?_
      refine QcW ?_
      refine Qb6 ?_
      refine Qa0 ?_
      refine Yc 72 V V V V (Zo (i:=m.toNat) V te_23 V (.seq _ _) V (by first|rfl|omega) ((by first|exact hcl|exact Cf.cellss_get (hw by10 by10))) ⟨V,V⟩) ?_
      refine Qam ?_
      refine DOps.gtc 75 V V V V (fun _ q=>op_neq V V V q) ?_;intro c75 h75
      refine Qa4 ?_
      obtain ⟨rfl,g75⟩|⟨rfl,g75⟩:=Za h75
      ·skip
       refine Qa0 ?_
       refine QcY ?_
       refine Qb7 ?_
       refine Yc 83 V V V V (op_load_c (cs':=[_,_,_,_,_,_,_,_,_,_,_,_]) V ta_53 V V V ⟨V,V⟩) ?_
       refine Yc 84 V V V V (op_makeFunc (fs:=[.tmp 83]) (cs:=[]) V V V ⟨V,V⟩) ?_
       refine DOps.gtc 85 V V V V (fun _ q=>Zs (xs:=[.tmp 82,.tmp 84]) V V (HA l) by0 q) ?_;intro c85 h85
       refine DOps.gtc 86 V V V V (fun _ q=>op_notc V V q) ?_;intro c86 h86
       try replace h86:=nott h86 h85
       refine Qab ?_
       show BoolQ _ _ _ _ _ _
       refine Yi V ?_ by3 by1
       rw [h86];simp only [not_and];constructor <;> intro q;(intro _ _ _;exact q);exact q by10 by10 by10
      skip
      refine QaC ?_
      refine QD ?_
      refine Qab ?_
      show BoolQ _ _ _ _ _ _
      refine Yi V ?_ by3 by1
      simp only [true_iff];omega
     skip
     refine QaC ?_
     refine QaH ?_
     refine QD ?_
     refine QD ?_
     refine Qa4 ?_
     refine QaC ?_
     refine QD ?_
     refine Qab ?_
     show BoolQ _ _ _ _ _ _
     refine Yi V ?_ by3 by1
     simp only [true_iff];omega
    skip
    refine QaH ?_
    refine QD ?_
    refine QD ?_
    refine Qa4 ?_
    refine QaC ?_
    refine QaH ?_
    refine QD ?_
    refine QD ?_
    refine Qa4 ?_
    refine QaC ?_
    refine QD ?_
    refine Qab ?_
    show BoolQ _ _ _ _ _ _
    refine Yi V ?_ by3 by1
    simp only [true_iff];omega
   intro c87 h87
   refine Qd ?_
   obtain ⟨rfl,g87⟩|⟨rfl,g87⟩:=Za h87
   ·refine Qr ?_
    refine Q0 ?_
    refine ⟨k+1,⟨by omega,fun j n' l' hj hn hl=>?_⟩,by simp;omega,by2,by1⟩
    rcases Nat.lt_or_ge j k with q|q
    ·exact hu j n' l' q hn hl
    have:j=k:=by omega
    subst this
    rw [hxm] at hn;cases hn
    rw [hxl] at hl;cases hl
    obtain ⟨q1,q2,q3,q4⟩:=Classical.not_not.1 g87
    exact ⟨q1,q2,fun g hg=>by rw [hw q1 q2] at hg;cases hg;exact q3,q4⟩
   refine QB ?_
   exact Zd V V (Yf _) by1 ⟨⟨_,iff_f (fun q=>g87 (by have q':=(q.2 by10).2.2.2 k m l hxm hxl;exact ⟨q'.1,q'.2.1,q'.2.2.1 _ (hw q'.1 q'.2.1),q'.2.2.2⟩)),V⟩,V⟩
  refine QB ?_
  exact Zd V V (Yf _) by1 ⟨⟨_,iff_f (fun q=>g42 ⟨(q.2 by10).1,(q.2 by10).2.1,(q.2 by10).2.2.1⟩),V⟩,V⟩
 refine Qz ?_
 refine Qh ?_
 refine Qn ?_
 refine Qbg ?_;intro n12
 refine Qn ?_
 refine QbU ?_;intro n15
 refine QS ?_
 refine QA ?_;intro c17 h17
 refine Qi ?_
 exact Zd rfl rfl (Yf _) by1 ⟨⟨_,h17.trans ⟨fun q=>⟨fun _=>⟨List.eq_nil_of_length_eq_zero by10,List.eq_nil_of_length_eq_zero by10⟩,by omega⟩,fun q=>by obtain ⟨e1,e2⟩:=q.1 g9;subst e1 e2;rfl⟩,rfl⟩,rfl⟩
theorem ins_c (c:Cd) (f:Cf) (fr to:Int) (ps:List Pm) (i:Is) (h1:1≤f.sl) (h2:f.sl≤1048576) (hli:i.Lim) (hps:ps.length≤1000):BCall Try.prog 18 ([.agg (ckCells c f fr to ps)]++[.agg i.cells]++[]) (InsP ps c f fr to i):=by
 have HA:=Ev_Ato (AtomP f c.gl) 45 [.agg (ckCells c f fr to ps)] [] i.ar (fun x _=>atom_c c f fr to ps x)
 have HO:=of_c i.op
 have HP:=places_c c f fr to ps i (opA i.op) (opB i.op) (opN i.op) (opS i.op) (opG i.op)
 have HN:=number_c c f fr to ps i (opA i.op) (opB i.op) (opN i.op) (opS i.op) (opG i.op) hps
 have HF:=fix_c c f fr to ps i h1 h2 hli
 unfold InsP
 generalize PlaP c f fr to i (opA i.op) (opB i.op)=pP at *
 generalize NumP ps i (opN i.op) (opG i.op)=pN at *
 generalize FixP c f i=pF at *
 generalize AtomP f c.gl=AP at *
 obtain ⟨is,fu,tx,gl,ys,no⟩:=c
 obtain ⟨fl,sl,cp⟩:=f
 obtain ⟨op,a,b,n,ar,fs,ca⟩:=i
 simp only [Is.op,Is.ar] at *
 generalize opA op=oa at *
 generalize opB op=ob at *
 generalize opN op=on at *
 generalize opS op=os at *
 generalize opG op=og at *
 generalize opOk op=ok at *
 generalize hAA:(∀ a∈ar,AP a)=pA at *
 refine Zc Try.func18 V (by kernel_rfl) V (Yj V) ?_
 refine Qj ?_
 refine QbJ ?_
 refine Qbr ?_
 refine Qk ?_
 refine QV ?_
 refine Zb 10 V V V (Zl (xs:=[.tmp 9]) V V (HO) by0 ?_)
 refine Qai ?_
 refine QbC ?_;intro b5
 refine QbZ ?_
 refine Qp ?_
 refine Zu 4 (ok=true∧pP∧pN∧pA∧pF) ?_ _ _ V ?_
 ·skip
  refine Qa ?_
  have h13:(ok=true↔ok=true):=Iff.rfl
  refine Qa ?_
  obtain ⟨rfl,g13⟩|⟨rfl,g13⟩:=Za h13
  ·skip
   refine Qo ?_
   refine QaE ?_
   refine Qbc ?_
   refine Qc ?_
   refine QaK ?_
   refine Yi V ?_ by3 by1
   simp_all;done
  skip
  refine Qb1 ?_
  refine Qcq ?_
  refine QcZ ?_
  refine Zh 18 V V V V V (Zs (xs:=[.tmp 15,.tmp 16,.tmp 17]) V V (HP) by0 ?_);intro c18 h18
  refine Qc ?_
  obtain ⟨rfl,g18⟩|⟨rfl,g18⟩:=Za h18
  ·skip
   refine Qo ?_
   refine Qa2 ?_
   refine Qc ?_
   refine QaK ?_
   refine Yi V ?_ by3 by1
   simp_all;done
  skip
  refine Qb1 ?_
  refine Qcq ?_
  refine QcZ ?_
  refine Zh 24 V V V V V (Zs (xs:=[.tmp 21,.tmp 22,.tmp 23]) V V (HN) by0 ?_);intro c24 h24
  refine Qc ?_
  obtain ⟨rfl,g24⟩|⟨rfl,g24⟩:=Za h24
  ·skip
   refine QaI ?_
   refine Qc ?_
   refine QaK ?_
   refine Yi V ?_ by3 by1
   simp_all;done
  skip
  refine Qe ?_
  refine Qb1 ?_
  refine Zh 30 V V V V V (op_makeFunc (fs:=[.tmp 29]) (cs:=[]) V V V (Zh 31 V V V V V (Zs (xs:=[.tmp 28,.tmp 30]) V V (HA) by0 ?_)));intro c31 h31
  refine Qc ?_
  obtain ⟨rfl,g31⟩|⟨rfl,g31⟩:=Za h31
  ·skip
   refine QaK ?_
   refine Yi V ?_ by3 by1
   simp_all;done
  skip
  refine Qb1 ?_
  refine Qcq ?_
  refine Zh 36 V V V V V (Zs (xs:=[.tmp 34,.tmp 35]) V V (HF) by0 ?_);intro c36 h36
  refine Qq ?_
  refine Yi V ?_ by3 by1
  simp_all;done
 intro c4 h4
 refine QI ?_
 exact Zd V V (Yf _) by1 ⟨⟨_,h4,V⟩,V⟩
theorem IndexS_c (xs:List ByteArray) (x:ByteArray):PCall Try.prog 75 [.seq 1 (strs xs),.val (.string x)] (.val (.int .i64 (firstAt x xs 0))):=by
 have hlx:=strs_len xs
 refine Zc Try.func75 V (by kernel_rfl) V (Yj V) ?_
 refine Q8 ?_
 refine c_lens (t:=0) V (.seq _ _) (fun hmax=>?_)
 refine Qh ?_
 refine Qat ?_
 refine Qax ?_;intro n7
 refine QG ?_
 refine c_loop (σ:=Nat) (fun zz=>match zz with|i=>[(0,.seq 1 (strs xs)),(1,.val (.string x)),(7,.val (.int .i64 (strs xs).length)),(8,.val (.int .i64 i))]) (fun zz=>match zz with|i=>[]) (fun zz=>match zz with|i=>i≤xs.length∧x∉xs.take i) (fun zz=>match zz with|i=>xs.length - i) (0) ?_ ?_ ?_ ?_
 ·exact ⟨by omega,by simp⟩
 ·exact by2
 ·exact by1
 rintro i hI
 try dsimp only [List.cons_append,List.nil_append] at hI ⊢
 obtain ⟨hi,hu⟩:=hI
 refine Qy ?_;intro c9 h9
 refine Qf ?_
 obtain ⟨rfl,g9⟩|⟨rfl,g9⟩:=Za h9
 ·refine QZ ?_
  refine QU ?_
  refine Qi ?_
  refine Zd V V (Yf _) by1 ⟨?_,V⟩
  rw [← firstAt_drop x xs i hu,List.drop_eq_nil_of_le by10,firstAt]
 refine QaN ?_
 refine QE ?_
 refine QK ?_
 refine QM ?_
 refine Qp ?_
 obtain ⟨y,hy⟩:=Zm (l:=xs) (i:=i) by10
 have hcy:=strs_get hy
 refine Qag ?_
 refine Qa ?_
 refine Qca ?_
 refine Q9 ?_
 refine Zb 16 V V V (op_seql V V V ?_);intro c16 h16
 refine Qb ?_
 obtain ⟨rfl,g16⟩|⟨rfl,g16⟩:=Za h16
 ·refine Qr ?_
  refine Q0 ?_
  exact ⟨i+1,⟨by omega,not_mem_take hu hy (fun e=>g16 e.symm)⟩,by simp;omega,by2,by1⟩
 refine Qz ?_
 refine QM ?_
 refine Qi ?_
 refine Zd V V (Yf _) by1 ⟨?_,V⟩
 rw [← firstAt_drop x xs i hu,drop_at hy,firstAt,if_pos g16]
theorem ContainsS_c (xs:List ByteArray) (x:ByteArray):BCall Try.prog 65 [.seq 1 (strs xs),.val (.string x)] (x∈xs):=by
 refine Zc Try.func65 V (by kernel_rfl) V (Yj V) ?_
 refine Qj ?_
 refine Q1 ?_
 refine Qa ?_
 refine Zb 7 V V V (Zl (xs:=[.tmp 5,.tmp 6]) V V (IndexS_c xs x) by0 ?_)
 refine Qac ?_;intro c8 h8
 refine Qi ?_
 exact Zd V V (Yf _) by1 ⟨⟨_,h8.trans (firstAt_nonneg x xs 0),V⟩,V⟩
theorem fun_c (t:Ty):BCall Try.prog 62 [.agg t.cells] t.isFun:=by
 obtain ⟨k,s,n,ks⟩:=t
 have hl:=Ty.cellss_len ks
 refine Zc Try.func62 V (by kernel_rfl) V (Yj V) ?_
 refine Qj ?_
 refine Qbs ?_;intro b1
 refine Qp ?_
 refine Zu 2 (k=3∧s=arrow∧ks.length=2) ?_ _ _ V ?_
 ·skip
  refine Qs ?_
  refine QA ?_;intro c5 h5
  refine Qa ?_
  obtain ⟨rfl,g5⟩|⟨rfl,g5⟩:=Za h5
  ·skip
   refine Q5 ?_
   refine QL ?_
   refine Qq ?_
   refine Yi V ?_ by3 by1
   first|(simp_all;omega)|simp_all
  skip
  refine Qah ?_
  refine Qcr ?_;intro c9 h9
  refine Qc ?_
  obtain ⟨rfl,g9⟩|⟨rfl,g9⟩:=Za h9
  ·skip
   refine Qo ?_
   refine Qq ?_
   refine Yi V ?_ by3 by1
   first|(simp_all;omega)|simp_all
  skip
  refine Qah ?_
  refine Zh 14 V V V V V (op_len V tu_75 V (.seq _ _) (fun n14=>?_))
  refine Qbz ?_;intro c15 h15
  refine Qq ?_
  refine Yi V ?_ by3 by1
  first|(simp_all;omega)|simp_all
 intro c2 h2
 refine QI ?_
 exact Zd V V (Yf _) by1 ⟨⟨_,h2,V⟩,V⟩
theorem CloneT_c (ks:List Ty) (hb:ks.length≤100000000):PCall Try.prog 74 [.seq 4 (Ty.cellss ks)] (.seq 4 (Ty.cellss ks)):=by
 have hl:=Ty.cellss_len ks
 refine Zc Try.func74 V (by kernel_rfl) V (Yj V) ?_
 refine Qj ?_
 refine Qat ?_
 refine Zb 4 V V V (op_isnil V tu_75 V (.seq _ _) ?_)
 intro c4 h4
 refine Qb ?_
 rcases c4 with _|_
 ·refine Qr ?_
  refine QU ?_
  refine Zb 5 V V V (op_buildSlice_own (xs:=[]) el_75 V V V V V V (Yj V) ?_);intro u5
  refine Qa ?_
  refine Zb 7 V V V (op_append (i:=0) el_75 V V V V (.seq _ _) by4 ?_)
  intro u7
  refine Qi ?_
  exact Zd V V (Le.own _ _ _) by1 ⟨V,V⟩
 refine QB ?_
 exact Zd V V (by rw [h4 rfl];exact Le.nil 4) by1 ⟨V,V⟩
theorem Con_c (s:ByteArray) (ks:List Ty) (hb:ks.length≤100000000):PCall Try.prog 59 [.val (.string s),.seq 4 (Ty.cellss ks)] (.agg (Ty.mk 3 s 0 ks).cells):=by
 refine Zc Try.func59 V (by kernel_rfl) V (Yj V) ?_
 refine Qj ?_
 refine QaA ?_;intro b4
 refine Qa5 ?_
 refine Qa ?_
 refine Zb 7 V V V (Zl (xs:=[.tmp 6]) V V (CloneT_c ks hb) by0 ?_)
 refine Zb 8 V V V (Zn (ns:=[0,1,3]) (xs:=[.const (.int .i64 3),.tmp 5,.tmp 7]) V tz_77 V tfl_77 V V V V ?_)
 refine Qbt ?_
 refine Qb ?_
 refine c_ret ?_
 exact out_cell (i:=0) V V V ta_77 V (by repeat' (first|exact Yf _|exact Le.own _ _ _|exact Le.nil _|refine Le.agg ?_|refine Le.tup ?_|exact Yg _|refine Yh ?_ ?_)) by1 ⟨V,V⟩
theorem Fun_c (a b:Ty):PCall Try.prog 61 [.agg a.cells,.agg b.cells] (.agg (Ty.mk 3 arrow 0 [a,b]).cells):=by
 obtain ⟨k1,s1,n1,ks1⟩:=a
 obtain ⟨k2,s2,n2,ks2⟩:=b
 refine Zc Try.func61 V (by kernel_rfl) V (Yj V) ?_
 refine Qj ?_
 refine Qbs ?_;intro b2
 refine Qbs ?_;intro b3
 refine QaA ?_;intro b4
 refine Qb ?_
 refine Qh ?_
 refine Qc0 ?_
 refine Zb 6 V V V (Zr (cs':=[_,_,_,_]) (i:=1) V ta_77 V V V V (Zb 7 V V V (Zp (xs:=[.tmp 5,.tmp 6]) el_75 V V V V V V (Yj V) (Zb 8 V V V (Zl (xs:=[.const (.string ⟨#[45,62]⟩),.tmp 7]) V V (Con_c arrow [.mk k1 s1 n1 ks1,.mk k2 s2 n2 ks2] by11) by0 ?_)))))
 refine Qbt ?_
 refine Qb ?_
 refine c_ret ?_
 exact out_cell (i:=0) V V V ta_77 V (by repeat' (first|exact Yf _|exact Le.own _ _ _|exact Le.nil _|refine Le.agg ?_|refine Le.tup ?_|exact Yg _|refine Yh ?_ ?_)) by1 ⟨V,V⟩
end Go.Proofs.Ytadhakcmfkghbaa
namespace Go.Proofs.Ytadhakcmfkghbaa
open Go.RowKit
theorem Args_c (t:Ty) (hmx:t.size≤1000000):PCall Try.prog 37 [.agg t.cells] (.tup [.seq 4 (Ty.cellss t.args),.agg t.ans.cells]):=by
 have has:=Ty.args_size t
 obtain ⟨k,s,n,ks⟩:=t
 refine Zc Try.func37 V (by kernel_rfl) V (Yj V) ?_
 refine Qj ?_
 refine Qbs ?_;intro b1
 refine QC ?_
 refine QaA ?_;intro b3
 refine Qb ?_
 refine Qh ?_
 refine Qp ?_
 refine QK ?_
 refine ACode.ownNil (t:=4) 77 4 V ?_
 refine c_loop (σ:=Ty × List Ty × Value) (fun zz=>match zz with|(c,dn,u)=>[(1,.ptr b1 0),(3,.ptr b3 0),(4,.own u 4 (Ty.cellss dn))]) (fun zz=>match zz with|(c,dn,u)=>[.own 77 4 u,.loc b3 [.val (.int .i64 0),.val (.string ⟨#[]⟩),.val (.int .i64 0),.val (.slice none 0 0)],.loc b1 c.cells]) (fun zz=>match zz with|(c,dn,u)=>dn++c.args=Ty.args (.mk k s n ks)∧c.ans=Ty.ans (.mk k s n ks)) (fun zz=>match zz with|(c,dn,u)=>c.size) ((.mk k s n ks,[],.slice none 0 0)) ?_ ?_ ?_ ?_
 ·exact ⟨V,V⟩
 ·exact by2
 ·exact by1
 rintro ⟨⟨ck,cs,cn,cks⟩,dn,u⟩ hI
 try dsimp only [List.cons_append,List.nil_append] at hI ⊢
 obtain ⟨ha,hb⟩:=hI
 refine Ql ?_
 refine Qh ?_
 refine Qc0 ?_
 refine Zb 6 V V V (Zs (xs:=[.tmp 5]) V V (fun_c (.mk ck cs cn cks)) by0 ?_);intro c6 h6
 refine Qb ?_
 obtain ⟨rfl,g6⟩|⟨rfl,g6⟩:=Za h6
 ·refine Q2 ?_
  rw [Ty.args_not g6] at ha
  rw [Ty.ans_not g6] at hb
  refine c_drawnE [0,1,2,3] [3] [[],[],[0],[0,1,2]] tmix V ?_
  refine QX ?_
  refine Qb2 ?_
  refine Zk 2 (none) (i:=2) V V V V V (op_assign V V ⟨V,V⟩) ?_
  refine EOps.w 1 (i:=3) V V V V V (Zi (cs':=[_,_,_,_]) (i:=0) V ts_77 V V V V V (Yj V) V ⟨_,V,?_⟩)
  show AGo _ _ _ _ _ _ _
  refine QI ?_
  rw [← ha,← hb]
  exact out_tc (i:=1) V V V V ta_77 V (by repeat' (first|exact Yf _|exact Le.own _ _ _|exact Le.nil _|refine Le.agg ?_|refine Le.tup ?_|exact Yg _|refine Yh ?_ ?_|(refine Le.own_eq ?_;simp)|(refine Le.own_seq ?_;simp)|(refine Le.seq_eq ?_;simp))) by1 ⟨V,V⟩
 refine QaN ?_
 refine Qd ?_
 refine QY ?_
 obtain ⟨n',⟨ka,sa,na,kas⟩,⟨kb,sb,nb,kks⟩,e⟩:=Ty.fun_kids g6
 cases e
 rw [Ty.args_fun] at ha
 rw [Ty.ans_fun] at hb
 have hln:=congrArg List.length ha
 simp only [List.length_append,List.length_cons] at hln
 refine Qt ?_
 refine QN ?_
 refine QbD ?_
 refine Zb 10 V V V (Zo (i:=0) V te_75 V (.seq _ _) V V by6 ?_)
 refine Qcs ?_
 refine Zb 12 V V V (Zp (xs:=[.tmp 11]) el_75 V V V V V V (Yj V) ?_)
 refine Zb 13 V V V (op_append (i:=0) el_75 V V V V (.seq _ _) (by simp [Ty.cellss_len];omega) ?_)
 intro u13
 refine Qk ?_
 refine Qg ?_
 refine QN ?_
 refine QbD ?_
 refine Zb 16 V V V (Zo (i:=1) V te_75 V (.seq _ _) V V by6 ?_)
 refine Qcs ?_
 refine Qc1 ?_
 refine Qx ?_
 refine QW ?_
 refine QJ ?_
 exact ⟨(.mk kb sb nb kks,dn++[.mk ka sa na kas],u13),⟨by rw [← ha];simp,hb⟩,by simp [Ty.size,Ty.sizes];omega,(by repeat' (first|exact SLe.nil _|refine SLe.cons V ?_ ?_|exact Yf _|exact Le.own _ _ _|exact Le.nil _|(refine Le.own_eq ?_;(rw [Ty.cellss_app];rfl))|(refine Le.own_seq ?_;(rw [Ty.cellss_app];rfl))|(refine Le.seq_eq ?_;(rw [Ty.cellss_app];rfl)))),by1⟩
theorem C_fold {A:Type} {C:Nat→A→Prop} {step:A→Ty→A} (hC:∀ k acc x,C (k+1) acc→C k (step acc x)):∀ (l:List Ty) (k:Nat) (acc:A),C (l.length+k) acc→C k (l.foldl step acc)
 | [],k,acc,h=>by simpa using h
 | x::l,k,acc,h=>by
  rw [List.foldl_cons]
  exact C_fold hC l k _ (hC _ _ _ (by rw [List.length_cons] at h;rwa [show l.length+k+1=l.length+1+k from by omega]))
theorem walk_c {A:Type} (G:A→Mem→Prop) (C:Nat→A→Prop) (step:A→Ty→A) (f:FuncId) (fs cs:List AV)
    (hf:∀ k acc x M,C (k+1) acc→G acc M→ACall Try.prog f (fs++[.agg (Ty.cells x)]++cs) M (fun v M'=>v=.tup []∧G (step acc x) M'))
    (hC:∀ k acc x,C (k+1) acc→C k (step acc x)) (d:Nat):∀ (t:Ty) (acc:A) (k:Nat) (M:Mem),t.size≤d→C (t.size+k) acc→G acc M →
     ACall Try.prog 63 [.agg t.cells,.clo (.func f) fs cs] M (fun v M'=>v=.tup []∧G (t.all.foldl step acc) M'):=by
 induction d with
 | zero=>intro t acc k M hd;have:=Ty.size_pos t;omega
 | succ d ih =>
  rintro ⟨tk,ts,tn,ks⟩ acc k M hd hc hG
  have hl:=Ty.cellss_len ks
  rw [Ty.size] at hd hc
  have hc1:C (Ty.sizes ks+k) (step acc (.mk tk ts tn ks)):=hC _ _ _ (by rwa [show Ty.sizes ks+k+1=1+Ty.sizes ks+k from by omega])
  refine Zc Try.func63 V (by kernel_rfl) V (Yj V) ?_
  refine Q8 ?_
  refine c_lena (t:=0) (j:=3) V V (.seq _ _) (fun hmax=>?_)
  refine Qh ?_
  refine Qbs ?_;intro b2
  refine Qa5 ?_
  refine QbL ?_
  refine Zb 8 V V V (op_callvm (xs:=[.tmp 7])  [.loc b2 _] V V V V (hf (Ty.sizes ks+k) acc (.mk tk ts tn ks) M (by rwa [show Ty.sizes ks+k+1=1+Ty.sizes ks+k from by omega]) hG) (Yg _) (fun v8 M8 h8=>?_))
  refine Qx ?_
  obtain ⟨rfl,hG8⟩:=h8
  refine QU ?_
  refine Qs ?_
  refine Zb 11 V V V (op_len V tu_75 V (.seq _ _) (fun n11=>?_))
  refine QG ?_
  refine c_loop (σ:=Nat × Mem) (fun zz=>match zz with|(i,Ms)=>[(1,.clo (.func f) fs cs),(10,.seq 4 (Ty.cellss ks)),(11,.val (.int .i64 (Ty.cellss ks).length)),(12,.val (.int .i64 i))]) (fun zz=>match zz with|(i,Ms)=>.loc b2 (Ty.cells (.mk tk ts tn ks))::Ms) (fun zz=>match zz with|(i,Ms)=>i≤ks.length∧G ((Ty.alls (ks.take i)).foldl step (step acc (.mk tk ts tn ks))) Ms) (fun zz=>match zz with|(i,Ms)=>ks.length - i) ((0,M8)) ?_ ?_ ?_ ?_
  ·exact ⟨by omega,by simpa [Ty.alls] using hG8⟩
  ·exact by2
  ·exact by1
  rintro ⟨i,Ms⟩ hI
  try dsimp only [List.cons_append,List.nil_append] at hI ⊢
  obtain ⟨hi,hGi⟩:=hI
  refine Qy ?_;intro c13 h13
  refine Qf ?_
  obtain ⟨rfl,g13⟩|⟨rfl,g13⟩:=Za h13
  ·refine QZ ?_
   refine go_end (Yb V (MLe.drop _ (Yd _)) ⟨V,?_⟩)
   rw [Ty.all,List.foldl_cons]
   rwa [List.take_of_length_le by10] at hGi
  refine Qw ?_
  obtain ⟨⟨k',s',n',ks'⟩,hx⟩:=Zm (l:=ks) (i:=i) by10
  have hcx:=Ty.cellss_get hx
  have hsz:=Ty.size_at hx
  have hsp:Ty.sizes (ks.take i)+Ty.size (.mk k' s' n' ks')≤Ty.sizes ks:=by
   have h1:=Ty.sizes_take ks (i+1)
   rw [take_snoc hx,Ty.sizes_app] at h1
   simpa [Ty.sizes] using h1
  have hCi:C (Ty.size (.mk k' s' n' ks')+(Ty.sizes ks - Ty.sizes (ks.take i) - Ty.size (.mk k' s' n' ks')+k)) ((Ty.alls (ks.take i)).foldl step (step acc (.mk tk ts tn ks))):=by
   refine C_fold hC _ _ _ ?_
   rw [Ty.alls_len]
   rwa [show Ty.sizes (ks.take i)+(Ty.size (.mk k' s' n' ks')+(Ty.sizes ks - Ty.sizes (ks.take i) - Ty.size (.mk k' s' n' ks')+k))=Ty.sizes ks+k from by omega]
  refine Qg ?_
  refine Zb 14 V V V (Zo V te_75 V (.seq _ _) V V by8 ?_)
  refine Qcs ?_
  refine QaA ?_;intro b5
  refine Qbt ?_
  refine Qb ?_
  refine Qg ?_
  refine QbL ?_
  refine Qa ?_
  refine Zb 18 V V V (Zj (xs:=[.tmp 16,.tmp 17])  [.loc b5 _,.loc b2 _] V V V (ih (.mk k' s' n' ks') _ _ Ms by10 hCi hGi) (Yg _) (fun v18 M18 h18=>?_))
  refine Qx ?_
  obtain ⟨rfl,hG18⟩:=h18
  refine Q0 ?_
  refine ⟨(i+1,M18),⟨by omega,?_⟩,by simp;omega,by2,?_⟩
  ·rw [Ty.alls_take ks hx,List.foldl_append];exact hG18
  exact MLe.drop _ (MLe.cons _ (Yd _))
def GV (b:Nat) (acc:List ByteArray) (M:Mem):Prop:=∃ u,M=[.loc b [.own u 1 (strs acc)],.own 9 1 u]
theorem VarsF_c (b k:Nat) (acc:List ByteArray) (x:Ty) (M:Mem) (hk:acc.length+(k+1)≤2000000) (hG:GV b acc M):ACall Try.prog 64 [.agg x.cells,.ptr b 0] M (fun v M'=>v=.tup []∧GV b (addVar acc x) M'):=by
 obtain ⟨xk,xs,xn,xks⟩:=x
 obtain ⟨u,rfl⟩:=hG
 have hl:=strs_len acc
 refine Zc Try.func64 V (by kernel_rfl) V (Yj V) ?_
 refine Qj ?_
 refine Qbs ?_;intro b2
 refine Qf ?_
 refine Zu 12 (xk=1∧xs∉acc) ?_ _ _ V ?_
 ·skip
  refine Qs ?_
  refine QA ?_;intro c5 h5
  refine Qa ?_
  obtain ⟨rfl,g5⟩|⟨rfl,g5⟩:=Za h5
  ·skip
   refine QaI ?_
   refine Qu ?_
   refine Yi V ?_ by3 by1
   simp_all
  skip
  refine Qbf ?_
  refine Qah ?_
  refine Zh 10 V V V V V (Zs (xs:=[.tmp 7,.tmp 9]) V V (ContainsS_c acc xs) by0 ?_);intro c10 h10
  refine Qaz ?_;intro c11 h11
  try replace h11:=nott h11 h10
  refine Qu ?_
  refine Yi V ?_ by3 by1
  simp_all
 intro c12 h12
 refine Qd ?_
 obtain ⟨rfl,g12⟩|⟨rfl,g12⟩:=Za h12
 ·refine Qr ?_
  refine go_end ?_
  rw [addVar_no g12];exact Yb rfl (MLe.drop _ (Yd _)) ⟨rfl,u,rfl⟩
 refine Qz ?_
 refine Qg ?_
 refine Qb8 ?_
 refine Qs ?_
 refine Zb 16 V V V (Zp (xs:=[.tmp 15]) el_24 V V V V V V (Yj V) (Zb 17 V V V (op_append (i:=2) el_24 V V V V (.seq _ _) by7 ?_)))
 intro u17
 refine Zt V V (Zi (i:=1) V ts_24 V V V V V (Yj V) V ?_)
 refine Qx ?_
 refine go_end ?_
 rw [addVar_yes g12];exact Yb rfl (M':=[.loc b [.own u17 1 (strs (acc++[xs]))],.own 9 1 u17]) (MLe.drop _ (MLe.loc _ (Yh (Le.own_eq (strs_snoc _ _)) (Yg _)) (Yd _))) ⟨rfl,u17,rfl⟩
theorem Vars_c (t:Ty) (hmx:t.size≤1000000):OCall Try.prog 38 [.agg t.cells] 9 1 (strs t.vars):=by
 have W:=fun (b:Nat) (M:Mem) (hG:GV b [] M)=>walk_c (GV b) (fun k acc=>acc.length+k≤2000000) addVar 64 [] [.ptr b 0] (fun k acc x M h1 h2=>VarsF_c b k acc x M h1 h2) (fun k acc x h=>by have:=addVar_len acc x;omega) t.size t [] 0 M (Nat.le_refl _) by7 hG
 obtain ⟨k,s,n,ks⟩:=t
 refine Zc Try.func38 V (by kernel_rfl) V (Yj V) ?_
 refine Qj ?_
 refine Qbs ?_;intro b1
 refine Qau ?_
 refine Zb 3 V V V (Zx (cs':=[_]) V tz_24 V V ?_);intro b3
 refine Qf ?_
 refine c_mem ((MImp.ownNil b3 9 1 _).trans (MImp.perm (by simpa using List.perm_append_comm (l₁:=[_,_]) (l₂:=[_])))) ?_
 refine Qg ?_
 refine QbL ?_
 refine QbR ?_
 refine Zb 6 V V V (Zj (xs:=[.tmp 4,.tmp 5])  [.loc b1 _] V V V (W b3 _ ⟨.slice none 0 0,V⟩) by0 (fun v6 M6 h6=>?_))
 refine Qx ?_
 obtain ⟨rfl,u,rfl⟩:=h6
 refine QU ?_
 refine Qb8 ?_
 refine Qi ?_
 exact Zd V V (Yf _) by1 ⟨_,V,V⟩
abbrev tyN:Ty:=.mk 3 ⟨#[73,110,116]⟩ 0 []
abbrev tyS:Ty:=.mk 3 ⟨#[83,116,114,105,110,103]⟩ 0 []
abbrev tyB:Ty:=.mk 3 ⟨#[66,111,111,108]⟩ 0 []
abbrev tyU:Ty:=.mk 3 ⟨#[85,110,105,116]⟩ 0 []
abbrev tyA:Ty:=.mk 1 ⟨#[97]⟩ 0 []
abbrev tyR:Ty:=.mk 3 ⟨#[82,101,102]⟩ 0 [tyA]
abbrev tfn (a b:Ty):Ty:=.mk 3 arrow 0 [a,b]
abbrev primRows:List (ByteArray × Ty):=[(⟨#[112,114,105,109,65,100,100]⟩,(tfn tyN (tfn tyN tyN))),(⟨#[112,114,105,109,83,117,98]⟩,(tfn tyN (tfn tyN tyN))),(⟨#[112,114,105,109,77,117,108]⟩,(tfn tyN (tfn tyN tyN))),(⟨#[112,114,105,109,68,105,118]⟩,(tfn tyN (tfn tyN tyN))),(⟨#[112,114,105,109,77,111,100]⟩,(tfn tyN (tfn tyN tyN))),(⟨#[112,114,105,109,69,113]⟩,(tfn tyN (tfn tyN tyB))),(⟨#[112,114,105,109,76,101,115,115]⟩,(tfn tyN (tfn tyN tyB))),(⟨#[112,114,105,109,67,97,116]⟩,(tfn tyS (tfn tyS tyS))),(⟨#[112,114,105,109,83,97,109,101]⟩,(tfn tyS (tfn tyS tyB))),(⟨#[112,114,105,109,66,101,102,111,114,101]⟩,(tfn tyS (tfn tyS tyB))),(⟨#[112,114,105,109,76,101,110]⟩,(tfn tyS tyN)),(⟨#[112,114,105,109,83,104,111,119]⟩,(tfn tyN tyS)),(⟨#[112,114,105,109,80,117,116]⟩,(tfn tyS tyU)),(⟨#[112,114,105,109,71,101,116]⟩,(tfn tyU tyS)),(⟨#[112,114,105,109,78,101,119]⟩,(tfn tyA tyR)),(⟨#[112,114,105,109,82,101,97,100]⟩,(tfn tyR tyA)),(⟨#[112,114,105,109,87,114,105,116,101]⟩,(tfn tyR (tfn tyA tyU)))]
abbrev rowCells (l:List (ByteArray × Ty)):List AV:=(l.map fun r=>.val (.string r.1)::r.2.cells).flatten
theorem two_c (x y:Ty):PCall Try.prog 60 [.agg x.cells,.agg y.cells] (.agg (tfn x (tfn x y)).cells):=by
 have H1:=Fun_c x y
 have H2:=Fun_c x (tfn x y)
 obtain ⟨k1,s1,n1,l1⟩:=x
 obtain ⟨k2,s2,n2,l2⟩:=y
 refine Zc Try.func60 V (by kernel_rfl) V (Yj V) ?_
 refine Qj ?_
 refine Zb 2 V V V (op_boxc (cs':=[_,_,_,_]) V V V V (Zb 3 V V V (op_boxc (cs':=[_,_,_,_]) V V V V ?_)))
 refine QaA ?_;intro b4
 refine Qf ?_
 refine c_drawnE [0,1,2,3,4,5] [5] [[],[],[],[1,2],[0,1,2,3],[0,1,2,3,4]] tmix V ?_
 refine Qct ?_
 refine Qct ?_
 refine Qct ?_
 refine Zk 8 (none) (i:=3) V V V V V (Zl (xs:=[.tmp 6,.tmp 7]) V V (H1) by0 ⟨V,V⟩) ?_
 refine Zk 9 (none) (i:=4) V V V V V (Zl (xs:=[.tmp 5,.tmp 8]) V V (H2) by0 ⟨V,V⟩) ?_
 refine EOps.w 0 (i:=5) V V V V V (Zi (cs':=[_,_,_,_]) (i:=0) V ts_77 V V V V V (Yj V) V ⟨_,V,?_⟩)
 show AGo _ _ _ _ _ _ _
 refine QI ?_
 exact out_cell (i:=0) V V V ta_77 V (by repeat' (first|exact Yf _|exact Le.own _ _ _|exact Le.nil _|refine Le.agg ?_|refine Le.tup ?_|exact Yg _|refine Yh ?_ ?_)) by1 ⟨V,V⟩
theorem rows_c:PCall Try.prog 36 [] (.agg (rowCells primRows)):=by
 refine Zc Try.func36 V (by kernel_rfl) V (Yj V) ?_
 refine Qj ?_
 refine Zb 0 V V V (Zx (cs':=[_,_,_,_,_,_,_,_,_,_,_,_,_,_,_,_,_,_,_,_,_,_,_,_,_,_,_,_,_,_,_,_,_,_,_,_,_,_,_,_,_,_,_,_,_,_,_,_,_,_,_,_,_,_,_,_,_,_,_,_,_,_,_,_,_,_,_,_,_,_,_,_,_,_,_,_,_,_,_,_,_,_,_,_,_]) V tz_80 V V ?_);intro b0
 refine Qb ?_
 refine Qh ?_
 refine Zb 8 V V V (Zl (xs:=[.const (.string ⟨#[73,110,116]⟩),.const (.slice none 0 0)]) V V (Con_c ⟨#[73,110,116]⟩ [] by11) by0 ?_)
 refine Zb 9 V V V (Zl (xs:=[.const (.string ⟨#[83,116,114,105,110,103]⟩),.const (.slice none 0 0)]) V V (Con_c ⟨#[83,116,114,105,110,103]⟩ [] by11) by0 ?_)
 refine Zb 10 V V V (Zl (xs:=[.const (.string ⟨#[66,111,111,108]⟩),.const (.slice none 0 0)]) V V (Con_c ⟨#[66,111,111,108]⟩ [] by11) by0 ?_)
 refine Zb 11 V V V (Zl (xs:=[.const (.string ⟨#[85,110,105,116]⟩),.const (.slice none 0 0)]) V V (Con_c ⟨#[85,110,105,116]⟩ [] by11) by0 ?_)
 refine QaA ?_;intro b1
 refine QaA ?_;intro b2
 refine QaA ?_;intro b3
 refine QaA ?_;intro b4
 refine Zt V V (Zi (cs':=[_,_,_,_]) (i:=3) V ts_77 V V V V V (Yj V) V ?_)
 refine Qc1 ?_
 refine Zt V V (Zi (cs':=[_,_,_,_]) (i:=1) V ts_77 V V V V V (Yj V) V ?_)
 refine Qbt ?_
 refine Qb ?_
 refine Qh ?_
 refine Zb 12 V V V (Zn (ns:=[0,1]) (xs:=[.const (.int .i64 1),.const (.string ⟨#[97]⟩)]) V tz_77 V tfl_77 V V V V ?_)
 refine QaA ?_;intro b5
 refine Qbt ?_
 refine Qf ?_
 refine c_le (SLe.refl _) (MLe.loc _ (cs':=tyA.cells) (by repeat' (first|exact Yf _|exact Le.nil _|exact Yg _|refine Yh ?_ ?_)) (Yd _)) ?_
 refine Qg ?_
 refine QbL ?_
 refine Zb 14 V V V (Zp (xs:=[.tmp 13]) el_75 V V V V V V (Yj V) (Zb 15 V V V (Zl (xs:=[.const (.string ⟨#[82,101,102]⟩),.tmp 14]) V V (Con_c ⟨#[82,101,102]⟩ [tyA] by11) by0 ?_)))
 refine QaA ?_;intro b6
 refine Qbt ?_
 refine Qb ?_
 refine Qh ?_
 refine Qp ?_
 refine c_drawnE [0,1,2,3,4,5,6,7,8,9,10,11,12,13,14,15,16,17,18,19,20,21,22,23,24,25,26,27,28,29,30,31,32,33,34,35,36,37,38,39,40,41,42,43,44,45,46,47,48,49,50,51,52,53,54,55,56,57,58,59,60,61,62,63,64,65,66,67,68,69,70,71,72,73,74,75,76,77,78,79,80,81] [81] [[],[],[],[0,1,2],[0,1,2,3],[],[],[],[0,1,2,3,5,6,7],[0,1,2,3,5,6,7,8],[],[],[],[0,1,2,3,5,6,7,8,10,11,12],[0,1,2,3,5,6,7,8,10,11,12,13],[],[],[],[0,1,2,3,5,6,7,8,10,11,12,13,15,16,17],[0,1,2,3,5,6,7,8,10,11,12,13,15,16,17,18],[],[],[],[0,1,2,3,5,6,7,8,10,11,12,13,15,16,17,18,20,21,22],[0,1,2,3,5,6,7,8,10,11,12,13,15,16,17,18,20,21,22,23],[],[],[],[0,1,2,3,5,6,7,8,10,11,12,13,15,16,17,18,20,21,22,23,25,26,27],[0,1,2,3,5,6,7,8,10,11,12,13,15,16,17,18,20,21,22,23,25,26,27,28],[],[],[],[0,1,2,3,5,6,7,8,10,11,12,13,15,16,17,18,20,21,22,23,25,26,27,28,30,31,32],[0,1,2,3,5,6,7,8,10,11,12,13,15,16,17,18,20,21,22,23,25,26,27,28,30,31,32,33],[],[],[],[0,1,2,3,5,6,7,8,10,11,12,13,15,16,17,18,20,21,22,23,25,26,27,28,30,31,32,33,35,36,37],[0,1,2,3,5,6,7,8,10,11,12,13,15,16,17,18,20,21,22,23,25,26,27,28,30,31,32,33,35,36,37,38],[],[],[],[0,1,2,3,5,6,7,8,10,11,12,13,15,16,17,18,20,21,22,23,25,26,27,28,30,31,32,33,35,36,37,38,40,41,42],[0,1,2,3,5,6,7,8,10,11,12,13,15,16,17,18,20,21,22,23,25,26,27,28,30,31,32,33,35,36,37,38,40,41,42,43],[],[],[],[0,1,2,3,5,6,7,8,10,11,12,13,15,16,17,18,20,21,22,23,25,26,27,28,30,31,32,33,35,36,37,38,40,41,42,43,45,46,47],[0,1,2,3,5,6,7,8,10,11,12,13,15,16,17,18,20,21,22,23,25,26,27,28,30,31,32,33,35,36,37,38,40,41,42,43,45,46,47,48],[],[],[0,1,2,3,5,6,7,8,10,11,12,13,15,16,17,18,20,21,22,23,25,26,27,28,30,31,32,33,35,36,37,38,40,41,42,43,45,46,47,48,50,51],[0,1,2,3,5,6,7,8,10,11,12,13,15,16,17,18,20,21,22,23,25,26,27,28,30,31,32,33,35,36,37,38,40,41,42,43,45,46,47,48,50,51,52],[],[],[0,1,2,3,5,6,7,8,10,11,12,13,15,16,17,18,20,21,22,23,25,26,27,28,30,31,32,33,35,36,37,38,40,41,42,43,45,46,47,48,50,51,52,54,55],[0,1,2,3,5,6,7,8,10,11,12,13,15,16,17,18,20,21,22,23,25,26,27,28,30,31,32,33,35,36,37,38,40,41,42,43,45,46,47,48,50,51,52,54,55,56],[],[],[0,1,2,3,5,6,7,8,10,11,12,13,15,16,17,18,20,21,22,23,25,26,27,28,30,31,32,33,35,36,37,38,40,41,42,43,45,46,47,48,50,51,52,54,55,56,58,59],[0,1,2,3,5,6,7,8,10,11,12,13,15,16,17,18,20,21,22,23,25,26,27,28,30,31,32,33,35,36,37,38,40,41,42,43,45,46,47,48,50,51,52,54,55,56,58,59,60],[],[],[0,1,2,3,5,6,7,8,10,11,12,13,15,16,17,18,20,21,22,23,25,26,27,28,30,31,32,33,35,36,37,38,40,41,42,43,45,46,47,48,50,51,52,54,55,56,58,59,60,62,63],[0,1,2,3,5,6,7,8,10,11,12,13,15,16,17,18,20,21,22,23,25,26,27,28,30,31,32,33,35,36,37,38,40,41,42,43,45,46,47,48,50,51,52,54,55,56,58,59,60,62,63,64],[],[],[0,1,2,3,5,6,7,8,10,11,12,13,15,16,17,18,20,21,22,23,25,26,27,28,30,31,32,33,35,36,37,38,40,41,42,43,45,46,47,48,50,51,52,54,55,56,58,59,60,62,63,64,66,67],[0,1,2,3,5,6,7,8,10,11,12,13,15,16,17,18,20,21,22,23,25,26,27,28,30,31,32,33,35,36,37,38,40,41,42,43,45,46,47,48,50,51,52,54,55,56,58,59,60,62,63,64,66,67,68],[],[],[0,1,2,3,5,6,7,8,10,11,12,13,15,16,17,18,20,21,22,23,25,26,27,28,30,31,32,33,35,36,37,38,40,41,42,43,45,46,47,48,50,51,52,54,55,56,58,59,60,62,63,64,66,67,68,70,71],[0,1,2,3,5,6,7,8,10,11,12,13,15,16,17,18,20,21,22,23,25,26,27,28,30,31,32,33,35,36,37,38,40,41,42,43,45,46,47,48,50,51,52,54,55,56,58,59,60,62,63,64,66,67,68,70,71,72],[],[],[],[0,1,2,3,5,6,7,8,10,11,12,13,15,16,17,18,20,21,22,23,25,26,27,28,30,31,32,33,35,36,37,38,40,41,42,43,45,46,47,48,50,51,52,54,55,56,58,59,60,62,63,64,66,67,68,70,71,72,75,76],[0,1,2,3,5,6,7,8,10,11,12,13,15,16,17,18,20,21,22,23,25,26,27,28,30,31,32,33,35,36,37,38,40,41,42,43,45,46,47,48,50,51,52,54,55,56,58,59,60,62,63,64,66,67,68,70,71,72,74,75,76,77],[0,1,2,3,5,6,7,8,10,11,12,13,15,16,17,18,20,21,22,23,25,26,27,28,30,31,32,33,35,36,37,38,40,41,42,43,45,46,47,48,50,51,52,54,55,56,58,59,60,62,63,64,66,67,68,70,71,72,74,75,76,77,78],[0,1,2,3,4,5,6,7,8,9,10,11,12,13,14,15,16,17,18,19,20,21,22,23,24,25,26,27,28,29,30,31,32,33,34,35,36,37,38,39,40,41,42,43,44,45,46,47,48,49,50,51,52,53,54,55,56,57,58,59,60,61,62,63,64,65,66,67,68,69,70,71,72,73,74,75,76,77,78,79],[0,1,2,3,4,5,6,7,8,9,10,11,12,13,14,15,16,17,18,19,20,21,22,23,24,25,26,27,28,29,30,31,32,33,34,35,36,37,38,39,40,41,42,43,44,45,46,47,48,49,50,51,52,53,54,55,56,57,58,59,60,61,62,63,64,65,66,67,68,69,70,71,72,73,74,75,76,77,78,79,80]] tmix V ?_
 refine QX ?_
 refine Qal ?_
 refine Qal ?_
 refine Zk 19 (none) (i:=3) V V V V V (op_callvpp (xs:=[.tmp 17,.tmp 18]) V V V (two_c tyN tyN) by0 ⟨V,V⟩) ?_
 refine Zk 20 (none) (i:=4) V V V V V (Zn (ns:=[0,1]) (xs:=[.const (.string ⟨#[112,114,105,109,65,100,100]⟩),.tmp 19]) V tz_79 V tfl_79 V V V V ⟨V,V⟩) ?_
 refine QX ?_
 refine Qal ?_
 refine Qal ?_
 refine Zk 24 (none) (i:=8) V V V V V (op_callvpp (xs:=[.tmp 22,.tmp 23]) V V V (two_c tyN tyN) by0 ⟨V,V⟩) ?_
 refine Zk 25 (none) (i:=9) V V V V V (Zn (ns:=[0,1]) (xs:=[.const (.string ⟨#[112,114,105,109,83,117,98]⟩),.tmp 24]) V tz_79 V tfl_79 V V V V ⟨V,V⟩) ?_
 refine QX ?_
 refine Qal ?_
 refine Qal ?_
 refine Zk 29 (none) (i:=13) V V V V V (op_callvpp (xs:=[.tmp 27,.tmp 28]) V V V (two_c tyN tyN) by0 ⟨V,V⟩) ?_
 refine Zk 30 (none) (i:=14) V V V V V (Zn (ns:=[0,1]) (xs:=[.const (.string ⟨#[112,114,105,109,77,117,108]⟩),.tmp 29]) V tz_79 V tfl_79 V V V V ⟨V,V⟩) ?_
 refine QX ?_
 refine Qal ?_
 refine Qal ?_
 refine Zk 34 (none) (i:=18) V V V V V (op_callvpp (xs:=[.tmp 32,.tmp 33]) V V V (two_c tyN tyN) by0 ⟨V,V⟩) ?_
 refine Zk 35 (none) (i:=19) V V V V V (Zn (ns:=[0,1]) (xs:=[.const (.string ⟨#[112,114,105,109,68,105,118]⟩),.tmp 34]) V tz_79 V tfl_79 V V V V ⟨V,V⟩) ?_
 refine QX ?_
 refine Qal ?_
 refine Qal ?_
 refine Zk 39 (none) (i:=23) V V V V V (op_callvpp (xs:=[.tmp 37,.tmp 38]) V V V (two_c tyN tyN) by0 ⟨V,V⟩) ?_
 refine Zk 40 (none) (i:=24) V V V V V (Zn (ns:=[0,1]) (xs:=[.const (.string ⟨#[112,114,105,109,77,111,100]⟩),.tmp 39]) V tz_79 V tfl_79 V V V V ⟨V,V⟩) ?_
 refine QX ?_
 refine Qal ?_
 refine Qb3 ?_
 refine Zk 44 (none) (i:=28) V V V V V (op_callvpp (xs:=[.tmp 42,.tmp 43]) V V V (two_c tyN tyB) by0 ⟨V,V⟩) ?_
 refine Zk 45 (none) (i:=29) V V V V V (Zn (ns:=[0,1]) (xs:=[.const (.string ⟨#[112,114,105,109,69,113]⟩),.tmp 44]) V tz_79 V tfl_79 V V V V ⟨V,V⟩) ?_
 refine QX ?_
 refine Qal ?_
 refine Qb3 ?_
 refine Zk 49 (none) (i:=33) V V V V V (op_callvpp (xs:=[.tmp 47,.tmp 48]) V V V (two_c tyN tyB) by0 ⟨V,V⟩) ?_
 refine Zk 50 (none) (i:=34) V V V V V (Zn (ns:=[0,1]) (xs:=[.const (.string ⟨#[112,114,105,109,76,101,115,115]⟩),.tmp 49]) V tz_79 V tfl_79 V V V V ⟨V,V⟩) ?_
 refine QX ?_
 refine Qbj ?_
 refine Qbj ?_
 refine Zk 54 (none) (i:=38) V V V V V (op_callvpp (xs:=[.tmp 52,.tmp 53]) V V V (two_c tyS tyS) by0 ⟨V,V⟩) ?_
 refine Zk 55 (none) (i:=39) V V V V V (Zn (ns:=[0,1]) (xs:=[.const (.string ⟨#[112,114,105,109,67,97,116]⟩),.tmp 54]) V tz_79 V tfl_79 V V V V ⟨V,V⟩) ?_
 refine QX ?_
 refine Qbj ?_
 refine Qb3 ?_
 refine Zk 59 (none) (i:=43) V V V V V (op_callvpp (xs:=[.tmp 57,.tmp 58]) V V V (two_c tyS tyB) by0 ⟨V,V⟩) ?_
 refine Zk 60 (none) (i:=44) V V V V V (Zn (ns:=[0,1]) (xs:=[.const (.string ⟨#[112,114,105,109,83,97,109,101]⟩),.tmp 59]) V tz_79 V tfl_79 V V V V ⟨V,V⟩) ?_
 refine QX ?_
 refine Qbj ?_
 refine Qb3 ?_
 refine Zk 64 (none) (i:=48) V V V V V (op_callvpp (xs:=[.tmp 62,.tmp 63]) V V V (two_c tyS tyB) by0 ⟨V,V⟩) ?_
 refine Zk 65 (none) (i:=49) V V V V V (Zn (ns:=[0,1]) (xs:=[.const (.string ⟨#[112,114,105,109,66,101,102,111,114,101]⟩),.tmp 64]) V tz_79 V tfl_79 V V V V ⟨V,V⟩) ?_
 refine Qbj ?_
 refine Qal ?_
 refine Zk 68 (none) (i:=52) V V V V V (Zl (xs:=[.tmp 66,.tmp 67]) V V (Fun_c tyS tyN) by0 ⟨V,V⟩) ?_
 refine Zk 69 (none) (i:=53) V V V V V (Zn (ns:=[0,1]) (xs:=[.const (.string ⟨#[112,114,105,109,76,101,110]⟩),.tmp 68]) V tz_79 V tfl_79 V V V V ⟨V,V⟩) ?_
 refine Qal ?_
 refine Qbj ?_
 refine Zk 72 (none) (i:=56) V V V V V (Zl (xs:=[.tmp 70,.tmp 71]) V V (Fun_c tyN tyS) by0 ⟨V,V⟩) ?_
 refine Zk 73 (none) (i:=57) V V V V V (Zn (ns:=[0,1]) (xs:=[.const (.string ⟨#[112,114,105,109,83,104,111,119]⟩),.tmp 72]) V tz_79 V tfl_79 V V V V ⟨V,V⟩) ?_
 refine Qbj ?_
 refine Qb2 ?_
 refine Zk 76 (none) (i:=60) V V V V V (Zl (xs:=[.tmp 74,.tmp 75]) V V (Fun_c tyS tyU) by0 ⟨V,V⟩) ?_
 refine Zk 77 (none) (i:=61) V V V V V (Zn (ns:=[0,1]) (xs:=[.const (.string ⟨#[112,114,105,109,80,117,116]⟩),.tmp 76]) V tz_79 V tfl_79 V V V V ⟨V,V⟩) ?_
 refine Qb2 ?_
 refine Qbj ?_
 refine Zk 80 (none) (i:=64) V V V V V (Zl (xs:=[.tmp 78,.tmp 79]) V V (Fun_c tyU tyS) by0 ⟨V,V⟩) ?_
 refine Zk 81 (none) (i:=65) V V V V V (Zn (ns:=[0,1]) (xs:=[.const (.string ⟨#[112,114,105,109,71,101,116]⟩),.tmp 80]) V tz_79 V tfl_79 V V V V ⟨V,V⟩) ?_
 refine QbM ?_
 refine Qcu ?_
 refine Zk 84 (none) (i:=68) V V V V V (Zl (xs:=[.tmp 82,.tmp 83]) V V (Fun_c tyA tyR) by0 ⟨V,V⟩) ?_
 refine Zk 85 (none) (i:=69) V V V V V (Zn (ns:=[0,1]) (xs:=[.const (.string ⟨#[112,114,105,109,78,101,119]⟩),.tmp 84]) V tz_79 V tfl_79 V V V V ⟨V,V⟩) ?_
 refine Qcu ?_
 refine QbM ?_
 refine Zk 88 (none) (i:=72) V V V V V (Zl (xs:=[.tmp 86,.tmp 87]) V V (Fun_c tyR tyA) by0 ⟨V,V⟩) ?_
 refine Zk 89 (none) (i:=73) V V V V V (Zn (ns:=[0,1]) (xs:=[.const (.string ⟨#[112,114,105,109,82,101,97,100]⟩),.tmp 88]) V tz_79 V tfl_79 V V V V ⟨V,V⟩) ?_
 refine Qcu ?_
 refine QbM ?_
 refine Qb2 ?_
 refine Zk 93 (none) (i:=77) V V V V V (Zl (xs:=[.tmp 91,.tmp 92]) V V (Fun_c tyA tyU) by0 ⟨V,V⟩) ?_
 refine Zk 94 (none) (i:=78) V V V V V (Zl (xs:=[.tmp 90,.tmp 93]) V V (Fun_c tyR (tfn tyA tyU)) by0 ⟨V,V⟩) ?_
 refine Zk 95 (none) (i:=79) V V V V V (Zn (ns:=[0,1]) (xs:=[.const (.string ⟨#[112,114,105,109,87,114,105,116,101]⟩),.tmp 94]) V tz_79 V tfl_79 V V V V ⟨V,V⟩) ?_
 refine Zk 96 (none) (i:=80) V V V V V (op_build_arr (ns:=[0,1,2,3,4,5,6,7,8,9,10,11,12,13,14,15,16]) (xs:=[.tmp 20,.tmp 25,.tmp 30,.tmp 35,.tmp 40,.tmp 45,.tmp 50,.tmp 55,.tmp 60,.tmp 65,.tmp 69,.tmp 73,.tmp 77,.tmp 81,.tmp 85,.tmp 89,.tmp 95]) V tz_80 V tu_80 ts_79 V V V V ⟨V,V⟩) ?_
 refine EOps.w 6 (i:=81) V V V V V (Zi (i:=0) V ts_80 V V V V V (Yj V) V ⟨_,V,?_⟩)
 show AGo _ _ _ _ _ _ _
 refine QI ?_
 exact out_cell (i:=6) V V V ta_80 V (Yf _) by1 ⟨V,V⟩
theorem rowCells_get:∀ {l:List (ByteArray × Ty)} {i:Nat} {s:ByteArray} {t:Ty},l[i]?=some (s,t)→((rowCells l).drop (i * 5)).take 5=.val (.string s)::t.cells
 | [],i,s,t,h=>by simp at h
 |(s',⟨k,n,m,ks⟩)::l,0,s,t,h=>by
  simp at h;obtain ⟨rfl,rfl⟩:=h
  simp [rowCells,Ty.cells]
 |(s',⟨k,n,m,ks⟩)::l,i+1,s,t,h=>by
  have:=rowCells_get (l:=l) (i:=i) (by simpa using h)
  rw [← this]
  have e:(i+1) * 5=i * 5+5:=by omega
  rw [e]
  simp [rowCells,Ty.cells]
noncomputable def prOf (i:Nat) (r:ByteArray × Ty):Pm:=⟨r.1,i+1,r.2.args.length,⟨r.2.vars,[],r.2⟩⟩
noncomputable def prm:Nat→List (ByteArray × Ty)→List Pm
 | _,[]=>[]
 | i,r::rs=>prOf i r::prm (i+1) rs
theorem prm_take:∀ (l:List (ByteArray × Ty)) (j i:Nat) (r:ByteArray × Ty),l[i]?=some r→prm j (l.take (i+1))=prm j (l.take i)++[prOf (j+i) r]
 | [],j,i,r,h=>by simp at h
 | x::l,j,0,r,h=>by simp at h;subst h;simp [prm]
 | x::l,j,i+1,r,h=>by
  have:=prm_take l (j+1) i r (by simpa using h)
  simp only [List.take_succ_cons,prm,this,List.cons_append]
  rw [Nat.add_right_comm];rfl
theorem prm_len:∀ (l:List (ByteArray × Ty)) (j:Nat),(prm j l).length=l.length
 | [],j=>rfl
 | x::l,j=>by simp [prm,prm_len l]
noncomputable def prims:List Pm:=prm 0 primRows
theorem prims_len:prims.length=17:=by unfold prims;rw [prm_len];rfl
theorem notFun {k:Int} {s:ByteArray} {n:Int} {ks:List Ty} (h:ks.length≠2):¬ (Ty.mk k s n ks).isFun:=fun q=>h q.2.2
theorem rows_size:∀ r∈primRows,r.2.size≤100:=by
 simp [Ty.size,Ty.sizes]
set_option maxHeartbeats 1000000 in
theorem prims_n:prims.map Pm.n=[2,2,2,2,2,2,2,2,2,2,1,1,1,1,1,1,2]:=by
 have a0:∀ (k:Int) (s:ByteArray) (n:Int),(Ty.mk k s n []).args=[]:=fun k s n=>Ty.args_not (notFun by11)
 have a1:∀ (k:Int) (s:ByteArray) (n:Int) (x:Ty),(Ty.mk k s n [x]).args=[]:=fun k s n x=>Ty.args_not (notFun by11)
 simp [prims,prm,prOf,Pm.n,Ty.args_fun,a0,a1]
theorem Prims_c:PCall Try.prog 16 [] (.seq 9 (Pm.cellss prims)):=by
 refine Zc Try.func16 V (by kernel_rfl) V (Yj V) ?_
 refine Qj ?_
 refine Qau ?_
 refine Qp ?_
 refine Ql ?_
 refine ACode.ownNil (t:=1) 89 9 V ?_
 refine Qg ?_
 refine Zb 6 V V V (Zl (xs:=[]) V V (rows_c) by0 ?_)
 refine QG ?_
 apply c_loopk (rg [(1,5),(7,27)]) (σ:=Nat × Value) (fun zz=>match zz with|(i,u)=>[(7,.val (.int .i64 i)),(1,.own u 9 (Pm.cellss (prm 0 (primRows.take i))))]) (fun zz=>match zz with|(i,u)=>[.own 89 9 u]) (fun zz=>match zz with|(i,u)=>i≤17) (fun zz=>match zz with|(i,u)=>17 - i) ((0,.slice none 0 0))
 ·repeat' (first|exact Ym|apply Yk rfl|apply Yl rfl)
 ·simp
 ·exact by2
 ·exact by1
 rintro ⟨i,u⟩ hI
 try dsimp only [List.cons_append,List.nil_append] at hI ⊢
 refine Qy ?_;intro c8 h8
 refine Qf ?_
 obtain ⟨rfl,g8⟩|⟨rfl,g8⟩:=Za h8
 ·refine QZ ?_
  refine QaT ?_
  refine Qi ?_
  refine Zd V V ?_ by1 ⟨V,V⟩
  rw [show primRows.take i=primRows from List.take_of_length_le by7]
  exact Le.own _ _ _
 refine Qw ?_
 obtain ⟨⟨s,⟨tk,ts,tn,tks⟩⟩,hx⟩:=Zm (l:=primRows) (i:=i) by7
 have hc:=rowCells_get hx
 have hsz:=rows_size _ (Yn hx)
 have hpt:=prm_take primRows 0 i _ hx
 have HV:=(Vars_c ⟨tk,ts,tn,tks⟩ (by simp only at hsz;omega)).pure
 have HA:=Args_c ⟨tk,ts,tn,tks⟩ (by simp only at hsz;omega)
 have hln:=prm_len (primRows.take i) 0
 have hcl:=Pm.cellss_len (prm 0 (primRows.take i))
 simp only [List.length_take] at hln
 have hal:=Ty.cellss_len (Ty.args ⟨tk,ts,tn,tks⟩)
 simp only [prOf,Nat.zero_add] at hpt
 generalize Ty.vars ⟨tk,ts,tn,tks⟩=vs at *
 generalize Ty.args ⟨tk,ts,tn,tks⟩=ags at *
 generalize Ty.ans ⟨tk,ts,tn,tks⟩=an at *
 obtain ⟨ak,as',an,als⟩:=an
 refine Qt ?_
 refine Zb 10 V V V (op_index_av (cs':=[_,_,_,_,_]) V tu_80 ta_79 V V V by10 (hc) ?_)
 refine Zb 3 V V V (Zx (cs':=[_,_,_,_,_]) V tz_79 V V ?_);intro b3
 refine QC ?_
 refine Zt V V (Zi (cs':=[_,_,_,_,_]) (i:=0) V ts_79 V V V V V (Yj V) V ?_)
 refine Qb ?_
 refine Qh ?_
 refine QN ?_
 refine QbL ?_
 refine Zb 14 V V V (Zl (xs:=[.tmp 13]) V V (HA) by0 ?_)
 refine Qai ?_
 refine QaA ?_;intro b5
 refine QC ?_
 refine Qbt ?_
 refine Qb ?_
 refine c_drawnE [0,1,2,3,4,5,6,7,8,9,10,11,12,13,14,15,16] [15] [[],[],[1],[],[3],[],[5],[],[7],[7,8],[],[10],[7,8,9,10,11],[1,2,3,4,5,6,7,8,9,10,11,12],[1,2,3,4,5,6,7,8,9,10,11,12,13],[0,1,2,3,4,5,6,7,8,9,10,11,12,13,14],[0,1,2,3,4,5,6,7,8,9,10,11,12,13,14,15]] tmix V ?_
 refine QX ?_
 refine Qbk ?_
 refine Qc2 ?_
 refine QX ?_
 refine Qc3 ?_
 refine QX ?_
 refine Zk 23 none (i:=6) V V V V V (op_len V tu_75 V (.seq _ _) (fun _=>⟨V,V⟩)) ?_
 refine Qbk ?_
 refine QbM ?_
 refine Zk 26 (none) (i:=9) V V V V V (Zl (xs:=[.tmp 25]) V V (HV) by0 ⟨V,V⟩) ?_
 refine Qbk ?_
 refine QbM ?_
 refine Zk 29 (none) (i:=12) V V V V V (Zn (ns:=[0,2]) (xs:=[.tmp 26,.tmp 28]) V tz_87 V tfl_87 V V V V ⟨V,V⟩) ?_
 refine Zk 30 (none) (i:=13) V V V V V (Zn (ns:=[0,1,2,3]) (xs:=[.tmp 19,.tmp 21,.tmp 23,.tmp 29]) V tz_89 V tfl_89 V V V V ⟨V,V⟩) ?_
 refine Zk 31 (none) (i:=14) V V V V V (Zp (xs:=[.tmp 30]) el_50 V V V V V V (Yj V) ⟨V,V⟩) ?_
 refine EOps.w 2 (i:=15) V V V V V (op_append (i:=0) el_50 V V V V (.seq _ _) (by simp only [List.length_map,List.length_reverse,List.length_cons,List.length_nil];omega) (fun u32=>⟨_,V,?_⟩))
 refine Zk 1 (none) (i:=16) V V V V V (op_assign V V ⟨V,V⟩) ?_
 show AGo _ _ _ _ _ _ _
 refine Q0 ?_
 refine ⟨(i+1,u32),by show i+1≤17;omega,by simp;omega,?_,by1⟩
 refine SLe.cons V (Yf _) (SLe.cons V ?_ by2)
 rw [hpt]
 simp only [Pm.cellss,List.map_append,List.map_cons,List.map_nil]
 exact Le.own_lessA (Less.app (Less.refl _) (Less.cons (Yh (Yf _) (Yh (Yf _) (Yh (Le.ieq by10) (Yh (Yf _) (Yh (Le.nil _) (Yg _)))))) V Less.nil))
def takes (n:Int):Int:=if n<1∨n > 17 then -1 else if n<11∨n=17 then 2 else 1
def one1 (op:Int):Prop:=op=1∨op=7∨op=9∨op=10∨op=11
def two2 (op:Int):Prop:=op=5∨op=6
def lst3 (op:Int):Prop:=op=3∨op=8
theorem takes_iff (n:Int) (len:Nat):(1≤n∧n≤prims.length∧∀ p,prims[(n - 1).toNat]?=some p→(len:Int)=p.n)↔(len:Int)=takes n:=by
 have hl:=prims_len
 have hn:=prims_n
 by_cases h:n<1∨n > 17
 ·have e:takes n = -1:=by unfold takes;rw [if_pos h]
  rw [e]
  constructor
  ·intro q;omega
  intro q;omega
 have hlt:(n - 1).toNat<prims.length:=by omega
 have hget:prims[(n - 1).toNat]?=some prims[(n - 1).toNat]:=List.getElem?_eq_getElem hlt
 have hv:(prims[(n - 1).toNat]).n=takes n:=by
  have e:(prims.map Pm.n)[(n - 1).toNat]?=some (prims[(n - 1).toNat]).n:=by rw [List.getElem?_map,hget];rfl
  rw [hn] at e
  have hc:n=1∨n=2∨n=3∨n=4∨n=5∨n=6∨n=7∨n=8∨n=9∨n=10∨n=11∨n=12∨n=13∨n=14∨n=15∨n=16∨n=17:=by omega
  generalize (prims[(n - 1).toNat]).n=v at e
  rcases hc with rfl|rfl|rfl|rfl|rfl|rfl|rfl|rfl|rfl|rfl|rfl|rfl|rfl|rfl|rfl|rfl|rfl <;> simp [takes] at e ⊢ <;> omega
 rw [← hv]
 constructor
 ·intro q;exact q.2.2 _ hget
 intro q
 refine ⟨by omega,by omega,fun p hp=>?_⟩
 rw [hget] at hp;cases hp;exact q
def topOf (op gl sl:Int):Int:=if op=10 then gl else sl
def RefP (c:Cd) (f:Cf) (fr:Int) (i:Is):Prop :=
 (1≤i.op∧i.op≤15)∧(∀ a∈i.ar,AtomP f c.gl a) ∧
 ((opA i.op=true→0≤i.a∧i.a<topOf i.op c.gl f.sl)∧(¬ opA i.op=true→i.a=0)∧(¬ opB i.op=true→i.b=0)∧(¬ opN i.op=true→i.n=0)) ∧
 ((i.op=2→0≤i.b∧i.b<c.tx.length)∧(i.op > 12∧opB i.op=true→fr≤i.b∧i.b<fr+f.len)) ∧
 ((one1 i.op→i.ar.length=1)∧(two2 i.op→i.ar.length=2)∧(¬ one1 i.op∧¬ two2 i.op∧¬ lst3 i.op→i.ar.length=0)) ∧
 ((i.op=3→i.ar.length≠0∧0≤i.n∧i.n≤65535)∧(i.op=9∨i.op=12→0≤i.n∧i.n≤1048576)) ∧
 (i.op=8→(i.ar.length:Int)=takes i.n)∧FixP c f i
theorem InsP_iff (c:Cd) (f:Cf) (fr:Int) (i:Is):InsP prims c f fr (fr+f.len) i↔RefP c f fr i:=by
 unfold InsP RefP PlaP NumP
 rw [takes_iff]
 obtain ⟨op,a,b,n,ar,fs,ca⟩:=i
 simp only [Is.op,Is.a,Is.b,Is.n,Is.ar]
 rw [opOk_iff]
 generalize FixP c f ⟨op,a,b,n,ar,fs,ca⟩=pF
 generalize (∀ a∈ar,AtomP f c.gl a)=pA
 generalize takes n=tn
 generalize c.gl=gl
 generalize f.sl=sl
 generalize c.tx.length=tl
 generalize f.len=fl
 generalize ar.length=al
 by_cases hop:1≤op∧op≤15
 ·have hc:op=1∨op=2∨op=3∨op=4∨op=5∨op=6∨op=7∨op=8∨op=9∨op=10∨op=11∨op=12∨op=13∨op=14∨op=15:=by omega
  by_cases hA:pA <;> by_cases hF:pF
  ·simp only [hA,hF,and_true,true_and]
   rcases hc with rfl|rfl|rfl|rfl|rfl|rfl|rfl|rfl|rfl|rfl|rfl|rfl|rfl|rfl|rfl <;> simp [opA,opB,opN,opG,one1,two2,lst3,topOf] <;> omega
  all_goals simp only [hA,hF,and_false,false_and,and_true]
 simp only [hop,false_and]
theorem ACall.bal {P:Program} {f:FuncId} {vs:List AV} {p q:Prop} (h:BCall P f vs p) (e:p↔q):BCall P f vs q :=
 h.mono (by rintro v M' ⟨⟨c,hc,rfl⟩,rfl⟩;exact ⟨⟨c,hc.trans e,rfl⟩,rfl⟩)
end Go.Proofs.Ytadhakcmfkghbaa
namespace Go.Proofs.Ytadhakcmfkghbaa
open Go.RowKit
def endP (i:Is):Prop:=i.op=6∨i.op=7∨i.op=14∨i.op=15
def FunsP (c:Cd):Nat→List Cf→Prop
 | at0,[]=>at0=c.is.length
 | at0,f::fs=>((1≤f.len∧f.len≤c.is.length - at0∧1≤f.sl∧f.sl≤1048576∧0≤f.cp∧f.cp≤1048576)∧(∀ i∈(c.is.take (at0+f.len.toNat)).drop at0,RefP c f at0 i)∧(∀ i,c.is[at0+f.len.toNat - 1]?=some i→endP i))∧FunsP c (at0+f.len.toNat) fs
def HeadP (c:Cd):Prop:=0<c.fu.length∧c.fu.length≤1048576∧c.tx.length≤1048576∧c.is.length≤1048576∧(0≤c.gl∧c.gl≤1048576)∧(0≤c.ys∧c.ys≤1048576)∧(0≤c.no∧c.no≤1048576)∧(∀ f,c.fu[0]?=some f→f.cp=0)
def RightP (c:Cd):Prop:=HeadP c∧(∀ s∈c.tx,s.size≤1048576)∧FunsP c 0 c.fu
theorem Is.cellss_cut (l:List Is) (a b:Nat):((Is.cellss l).take b).drop a=Is.cellss ((l.take b).drop a):=by simp [Is.cellss,List.map_take,List.map_drop]
theorem Right_c (c:Cd) (hc:c.Lim):BCall Try.prog 7 [.agg c.cells] (RightP c):=by
 have HS:=Ev_S (fun s=>s.size≤1048576) 15 [] [] c.tx (fun x _=>short_c x)
 have HI:=fun (f:Cf) (a b:Nat) (to:Int) (hto:to=a+f.len) (h1:1≤f.sl) (h2:f.sl≤1048576)=>Ev_Is (RefP c f a) 18 [.agg (ckCells c f a to prims)] [] ((c.is.take b).drop a) (fun x hx=>by
  have hx':x∈c.is:=List.mem_of_mem_take (List.mem_of_mem_drop hx)
  have hl:x.Lim:=by
   obtain ⟨is,fu,tx,gl,ys,no⟩:=c
   exact hc.1.2 x hx'
  have:=ins_c c f a to prims x h1 h2 hl (by rw [prims_len];omega)
  subst hto
  exact this.bal (InsP_iff c f a x))
 have hgf:∀ f,c.is.length=c.is.length∧(f∈c.fu→f.Lim):=fun f=>by
  obtain ⟨is,fu,tx,gl,ys,no⟩:=c
  exact ⟨V,hc.2.1.2 f⟩
 have hR:∀ at0 f fs,FunsP c at0 (f::fs)=(((1≤f.len∧f.len≤c.is.length - at0∧1≤f.sl∧f.sl≤1048576∧0≤f.cp∧f.cp≤1048576)∧(∀ i∈(c.is.take (at0+f.len.toNat)).drop at0,RefP c f at0 i)∧(∀ i,c.is[at0+f.len.toNat - 1]?=some i→endP i))∧FunsP c (at0+f.len.toNat) fs):=fun _ _ _=>rfl
 have hN:∀ at0,FunsP c at0 []=(at0=c.is.length):=fun _=>rfl
 unfold RightP HeadP
 generalize RefP c=RP at *
 generalize FunsP c=FP at *
 obtain ⟨is,fu,tx,gl,ys,no⟩:=c
 simp only [Cd.is,Cd.fu,Cd.tx,Cd.gl,Cd.ys,Cd.no] at *
 have hl1:=Is.cellss_len is
 have hl2:=Cf.cellss_len fu
 have hl3:=strs_len tx
 generalize hSS:(∀ s∈tx,s.size≤1048576)=pS at *
 obtain ⟨⟨wl,wsl,wcp⟩,hw⟩:∃ p:Cf,0<fu.length→fu[0]?=some p:=by
  by_cases q:0<fu.length
  ·exact ⟨fu[0],fun _=>List.getElem?_eq_getElem q⟩
  exact ⟨⟨0,0,0⟩,fun h=>absurd h q⟩
 have hw0:0<fu.length→((∀ f,fu[0]?=some f→f.cp=0)↔wcp=0):=fun q=>by
  rw [hw q]
  exact ⟨fun z=>z _ V,fun z f e=>by cases e;exact z⟩
 generalize (∀ f,fu[0]?=some f→f.cp=0)=pC at *
 refine Zc Try.func7 V (by kernel_rfl) V (Yj V) ?_
 refine Q8 ?_
 refine c_lena (t:=0) (j:=0) V V (.seq _ _) (fun hmax=>?_)
 refine c_lena (t:=0) (j:=1) V V (.seq _ _) (fun hmax2=>?_)
 refine c_lena (t:=0) (j:=2) V V (.seq _ _) (fun hmax3=>?_)
 refine Qh ?_
 refine Qbe ?_
 refine Qp ?_
 refine Ql ?_
 refine Zu 55 (¬ (0<fu.length∧fu.length≤1048576∧tx.length≤1048576∧is.length≤1048576∧(0≤gl∧gl≤1048576)∧(0≤ys∧ys≤1048576)∧(0≤no∧no≤1048576)∧pC)) ?_ _ _ V ?_
 ·skip
  refine Qn ?_
  refine QaY ?_;intro n10
  refine QA ?_;intro c11 h11
  refine Qa ?_
  obtain ⟨rfl,g11⟩|⟨rfl,g11⟩:=Za h11
  ·skip
   refine Qe ?_
   refine Qce ?_;intro n15
   refine Qad ?_;intro c16 h16
   refine Qc ?_
   obtain ⟨rfl,g16⟩|⟨rfl,g16⟩:=Za h16
   ·skip
    refine Qe ?_
    refine Qcd ?_;intro n21
    refine Qad ?_;intro c22 h22
    refine Qc ?_
    obtain ⟨rfl,g22⟩|⟨rfl,g22⟩:=Za h22
    ·skip
     refine Qe ?_
     refine QbS ?_;intro n27
     refine Qad ?_;intro c28 h28
     refine Qc ?_
     obtain ⟨rfl,g28⟩|⟨rfl,g28⟩:=Za h28
     ·skip
      refine Qe ?_
      refine Zh 33 rfl rfl rfl rfl rfl (Zs (xs:=[.tmp 32,.const (.int .i64 1048577)]) rfl rfl (within_c gl 1048577) by0 ?_);intro c33 h33
      refine Qaz ?_;intro c34 h34
      try replace h34:=nott h34 h33
      refine Qc ?_
      obtain ⟨rfl,g34⟩|⟨rfl,g34⟩:=Za h34
      ·skip
       refine Qe ?_
       refine Zh 39 rfl rfl rfl rfl rfl (Zs (xs:=[.tmp 38,.const (.int .i64 1048577)]) rfl rfl (within_c ys 1048577) by0 ?_);intro c39 h39
       refine Qaz ?_;intro c40 h40
       try replace h40:=nott h40 h39
       refine Qc ?_
       obtain ⟨rfl,g40⟩|⟨rfl,g40⟩:=Za h40
       ·skip
        refine Qe ?_
        refine Zh 45 rfl rfl rfl rfl rfl (Zs (xs:=[.tmp 44,.const (.int .i64 1048577)]) rfl rfl (within_c no 1048577) by0 ?_);intro c45 h45
        refine Qaz ?_;intro c46 h46
        try replace h46:=nott h46 h45
        refine Qc ?_
        obtain ⟨rfl,g46⟩|⟨rfl,g46⟩:=Za h46
        ·skip
         refine Qe ?_
         refine Zh 51 V V V V V (Zo V te_23 V (.seq _ _) V V (Cf.cellss_get (hw by10)) ?_)
         refine Qe ?_
         refine QP ?_;intro c54 h54
         refine Qu ?_
         refine Yi V ?_ by3 by1
         rw [h54,hw0 by10];omega
        skip
        refine Qo ?_
        refine Qan ?_
        refine Yi V ?_ by3 by1
        simp only [true_iff];omega
       skip
       refine Qo ?_
       refine QL ?_
       refine Qan ?_
       refine Yi V ?_ by3 by1
       simp only [true_iff];omega
      skip
      refine Qo ?_
      refine QaE ?_
      refine Qan ?_
      refine Yi V ?_ by3 by1
      simp only [true_iff];omega
     skip
     refine Qo ?_
     refine QaE ?_
     refine QL ?_
     refine Qan ?_
     refine Yi V ?_ by3 by1
     simp only [true_iff];omega
    skip
    refine Qo ?_
    refine QaE ?_
    refine QaE ?_
    refine Qan ?_
    refine Yi V ?_ by3 by1
    simp only [true_iff];omega
   skip
   refine Qo ?_
   refine QaE ?_
   refine QaE ?_
   refine QL ?_
   refine Qan ?_
   refine Yi V ?_ by3 by1
   simp only [true_iff];omega
  skip
  refine Qo ?_
  refine QaE ?_
  refine QaE ?_
  refine QaE ?_
  refine Qan ?_
  refine Yi V ?_ by3 by1
  simp only [true_iff];omega
 intro c55 h55
 refine Qd ?_
 obtain ⟨rfl,g55⟩|⟨rfl,g55⟩:=Za h55
 ·refine Qaw ?_
  have e1:=Classical.not_not.1 g55
  refine Qa3 ?_
  refine Zb 58 V V V (Zs (xs:=[.tmp 57,.func 15]) V V (HS) by0 ?_);intro c58 h58
  refine Qak ?_;intro c59 h59
  try replace h59:=nott h59 h58
  refine Qb ?_
  obtain ⟨rfl,g59⟩|⟨rfl,g59⟩:=Za h59
  ·refine QF ?_
   have e2:=Classical.not_not.1 g59
   refine Qg ?_
   refine Zb 60 V V V (Zl (xs:=[]) V V (Prims_c) by0 ?_)
   refine Qau ?_
   refine Qp ?_
   refine QV ?_
   refine QaY ?_;intro n63
   refine QG ?_
   apply Ya (rg [(0,1),(2,1),(4,58),(64,72)]) (σ:=Nat × Nat) (fun zz=>match zz with|(k,at0)=>[(64,.val (.int .i64 k)),(4,.val (.int .i64 at0))]) (fun zz=>match zz with|(k,at0)=>k≤fu.length∧at0≤is.length∧(FP at0 (fu.drop k)↔FP 0 fu)) (fun zz=>match zz with|(k,at0)=>fu.length - k) ((0,0))
   ·repeat' (first|exact Ym|apply Yk rfl|apply Yl rfl)
   ·exact ⟨by omega,by omega,Iff.rfl⟩
   ·exact by2
   rintro ⟨k,at0⟩ hI
   try dsimp only [List.cons_append,List.nil_append] at hI ⊢
   obtain ⟨hk,hat,hu⟩:=hI
   refine Qy ?_;intro c65 h65
   refine Qf ?_
   obtain ⟨rfl,g65⟩|⟨rfl,g65⟩:=Za h65
   ·refine Q2 ?_
    rw [List.drop_eq_nil_of_le by10,hN] at hu
    refine QH ?_
    refine QaG ?_;intro n139
    refine QA ?_;intro c140 h140
    refine Qi ?_
    exact Zd V V (Yf _) by1 ⟨⟨_,h140.trans (by rw [hl1];exact ⟨fun q=>⟨e1,e2,hu.1 by10⟩,fun q=>by have:=hu.2 q.2.2;omega⟩),V⟩,V⟩
   refine Qw ?_
   obtain ⟨⟨flen,fsl,fcp⟩,hxf⟩:=Zm (l:=fu) (i:=k) by5
   have hcf:=Cf.cellss_get hxf
   have hmf:=Yn hxf
   rw [drop_get hxf,hR] at hu
   have hLf:=(hgf _).2 hmf
   obtain ⟨⟨hz1,hz2⟩,_,_⟩:=hLf
   simp only [Cf.len,Cf.sl,Cf.cp] at hu
   refine Qg ?_
   refine Qc4 ?_
   refine Qcv ?_
   refine Qcw ?_;intro b6
   refine Qcx ?_
   refine QaR ?_
   refine Zu 96 (¬ (1≤flen∧flen≤is.length - at0∧1≤fsl∧fsl≤1048576∧0≤fcp∧fcp≤1048576)) ?_ _ _ V ?_
   ·skip
    refine Qs ?_
    refine Qaq ?_;intro c70 h70
    refine Qa ?_
    obtain ⟨rfl,g70⟩|⟨rfl,g70⟩:=Za h70
    ·skip
     refine Qah ?_
     refine Qe ?_
     refine QbS ?_;intro n76
     refine Qm ?_
     refine Qcp ?_
     refine Qad ?_;intro c79 h79
     refine Qc ?_
     obtain ⟨rfl,g79⟩|⟨rfl,g79⟩:=Za h79
     ·skip
      refine Qah ?_
      refine Qbi ?_;intro c84 h84
      refine Qc ?_
      obtain ⟨rfl,g84⟩|⟨rfl,g84⟩:=Za h84
      ·skip
       refine Qah ?_
       refine Qad ?_;intro c89 h89
       refine Qc ?_
       obtain ⟨rfl,g89⟩|⟨rfl,g89⟩:=Za h89
       ·skip
        refine Qah ?_
        refine Zh 94 rfl rfl rfl rfl rfl (Zs (xs:=[.tmp 93,.const (.int .i64 1048577)]) rfl rfl (within_c fcp 1048577) by0 ?_);intro c94 h94
        refine Qaz ?_;intro c95 h95
        try replace h95:=nott h95 h94
        refine Qu ?_
        refine Yi V ?_ by3 by1
        rw [h95];omega
       skip
       refine Qo ?_
       refine Qu ?_
       refine Yi V ?_ by3 by1
       simp only [true_iff];omega
      skip
      refine Q5 ?_
      refine QL ?_
      refine Qu ?_
      refine Yi V ?_ by3 by1
      simp only [true_iff];omega
     skip
     refine Qa8 ?_
     refine Q5 ?_
     refine QL ?_
     refine Qu ?_
     refine Yi V ?_ by3 by1
     simp only [true_iff];omega
    skip
    refine Qo ?_
    refine Qo ?_
    refine Qc ?_
    refine Qa8 ?_
    refine Q5 ?_
    refine QL ?_
    refine Qu ?_
    refine Yi V ?_ by3 by1
    simp only [true_iff];omega
   intro c96 h96
   refine Qd ?_
   obtain ⟨rfl,g96⟩|⟨rfl,g96⟩:=Za h96
   ·refine QF ?_
    have e3:=Classical.not_not.1 g96
    have HE:=HI ⟨flen,fsl,fcp⟩ at0 (at0+flen.toNat) (at0+flen) rfl (by simp only [Cf.sl];omega) (by simp only [Cf.sl];omega)
    rw [← Is.cellss_cut] at HE
    obtain ⟨⟨lop,la,lb,ln,lar,lfs,lcp⟩,hl⟩:=Zm (l:=is) (i:=at0+flen.toNat - 1) by10
    have hcl:=Is.cellss_get hl
    have HD:=ends_c ⟨lop,la,lb,ln,lar,lfs,lcp⟩
    have hle:(∀ i,is[at0+flen.toNat - 1]?=some i→endP i)↔endP ⟨lop,la,lb,ln,lar,lfs,lcp⟩:=by
     rw [hl];exact ⟨fun z=>z _ rfl,fun z i e=>by cases e;exact z⟩
    rw [hle] at hu
    change BCall _ _ _ (endP ⟨lop,la,lb,ln,lar,lfs,lcp⟩) at HD
    generalize endP ⟨lop,la,lb,ln,lar,lfs,lcp⟩=eP at *
    generalize (∀ i∈(is.take (at0+flen.toNat)).drop at0,RP ⟨flen,fsl,fcp⟩ at0 i)=iP at *
    refine Qg ?_
    refine QbN ?_
    refine Zb 98 V V V (Zr (cs':=[_,_,_]) (i:=0) V ta_39 V V V V ?_)
    refine Qa ?_
    refine Qa ?_
    refine Qs ?_
    refine QS ?_
    refine Qa ?_
    refine Zb 105 V V V (Zn (ns:=[0,1,2,3,4]) (xs:=[.tmp 97,.tmp 98,.tmp 99,.tmp 103,.tmp 104]) V tz_53 V tfl_53 V V V V (Zb 7 V V V (Zx (cs':=[_,_,_,_,_,_,_,_,_,_,_,_]) V tz_53 V V ?_)));intro b7
    refine Zt V V (Zi (cs':=[_,_,_,_,_,_,_,_,_,_,_,_]) (i:=0) V ts_53 V V V V V (Yj V) V ?_)
    refine QaR ?_
    refine c_boold 130 (¬ (iP∧eP)) tmix V ?_ _ _ V ?_
    ·skip
     refine QaO ?_
     refine Qv ?_
     refine Qv ?_
     refine QbO ?_
     refine Qcg ?_
     refine Zz 112 V V (op_add V V V (IntWalk.i64_in _ by10) ⟨V,V⟩) ?_
     refine Zz 113 V V (op_cut (l:=at0) (k:=at0+flen.toNat) V te_22 V (.seq _ _) V V by10 by10 by10 by10 ⟨V,V⟩) ?_
     refine Zz 114 V V (Zr (cs':=[_,_,_,_,_,_,_,_,_,_,_,_]) (i:=0) V ta_53 V V V V ⟨V,V⟩) ?_
     refine Zz 115 V V (op_makeFunc (fs:=[.tmp 114]) (cs:=[]) V V V ⟨V,V⟩) ?_
     refine DOps.cm 116 V V (fun _ q=>Zs (xs:=[.tmp 113,.tmp 115]) V V (HE) by0 q) ?_;intro c116 h116
     refine DOps.cm 117 V V (fun _ q=>op_notc V V q) ?_;intro c117 h117
     try replace h117:=nott h117 h116
     refine Qv ?_
     obtain ⟨rfl,g117⟩|⟨rfl,g117⟩:=Za h117
     ·skip
      refine Qa0 ?_
      refine Yc 122 V V V V (Zf V tf_39_0 V ⟨V,V⟩) ?_
      refine Yc 123 V V V V (op_load_m1 (i:=1) V ta_3 V V V ⟨V,V⟩) ?_
      refine Yc 124 V V V V (op_add V V V (IntWalk.i64_in _ by10) ⟨V,V⟩) ?_
      refine QcX ?_
      refine Yc 126 V V V V (Zo (i:=at0+flen.toNat - 1) V te_22 V (.seq _ _) V (by first|rfl|omega) (hcl) ⟨V,V⟩) ?_
      refine Yc 127 V V V V (op_load_c (cs':=[_,_,_,_,_,_,_]) V ta_46 V V V ⟨V,V⟩) ?_
      refine DOps.gtc 128 V V V V (fun _ q=>Zs (xs:=[.tmp 127]) V V (HD) by0 q) ?_;intro c128 h128
      refine DOps.gtc 129 V V V V (fun _ q=>op_notc V V q) ?_;intro c129 h129
      try replace h129:=nott h129 h128
      refine Qab ?_
      show BoolQ _ _ _ _ _ _
      refine Yi V ?_ by3 by1
      simp_all;done
     skip
     refine QaC ?_
     refine QD ?_
     refine QD ?_
     refine QD ?_
     refine Qab ?_
     show BoolQ _ _ _ _ _ _
     refine Yi V ?_ by3 by1
     simp_all;done
    intro c130 h130
    refine Qd ?_
    obtain ⟨rfl,g130⟩|⟨rfl,g130⟩:=Za h130
    ·refine Qr ?_
     refine Qd ?_
     refine Qt ?_
     refine QaJ ?_
     refine QaP ?_
     refine Q0 ?_
     exact ⟨(k+1,at0+flen.toNat),⟨by show k+1≤_;omega,by show at0+flen.toNat≤_;omega,⟨fun q=>hu.1 ⟨⟨e3,Classical.not_not.1 g130⟩,q⟩,fun q=>(hu.2 q).2⟩⟩,by simp;omega,(SLe.cons V (Yf _) (SLe.cons V (Le.ieq by10) by2)),by1⟩
    refine QB ?_
    exact Zd V V (Yf _) by1 ⟨⟨_,iff_f (fun q=>g130 (hu.2 q.2.2).1.2),V⟩,V⟩
   refine QB ?_
   exact Zd V V (Yf _) by1 ⟨⟨_,iff_f (fun q=>g96 (hu.2 q.2.2).1.1),V⟩,V⟩
  refine QB ?_
  exact Zd V V (Yf _) by1 ⟨⟨_,iff_f (fun q=>g59 q.2.1),V⟩,V⟩
 refine QB ?_
 exact Zd V V (Yf _) by1 ⟨⟨_,iff_f (fun q=>g55 q.1),V⟩,V⟩
def rcC (c:RC):Cd:=.mk (c.2.2.2.2.2.map riI) (c.2.2.2.2.1.map fun f=>.mk f.1 f.2.1 f.2.2) (c.2.2.2.1.map strOfNums) c.1 c.2.1 c.2.2.1
section
variable {α β γ:Type} {r:Option (γ × List Int)} {l l2:List Int}
theorem list_stop {x:Rd α} {y:Rd β} {f:List α × β→γ} (h:r=((x.list.pair y).R l).map fun q=>(f q.1,q.2)) (k:lenR l=none):r=none :=
 pair_stop h (show (lenR l).bind _=none by rw [k];rfl)
theorem list_read {x:Rd α} {y:Rd β} {f:List α × β→γ} {m:Nat} (h:r=((x.list.pair y).R l).map fun q=>(f q.1,q.2)) (k:lenR l=some (m,l2)):r=(manyR x.R (m - 0) l2).bind fun p=>(fun a l3=>(y.R l3).map fun q=>(f (a,q.1),q.2)) ([]++p.1) p.2:=by
 rw [h]
 show Option.map _ (((lenR l).bind _).bind _)=_
 rw [k]
 simp only [Option.bind_some,Nat.sub_zero,List.nil_append]
 cases manyR x.R m l2 with
 | none=>rfl
 | some z=>simp only [Option.map_some,Option.bind_some,Option.map_map];rfl
theorem last_stop {x:Rd α} {f:List α→γ} (h:r=(x.list.R l).map fun q=>(f q.1,q.2)) (k:lenR l=none):r=none:=by
 rw [h]
 show Option.map _ ((lenR l).bind _)=_
 rw [k];rfl
theorem last_read {x:Rd α} {f:List α→γ} {m:Nat} (h:r=(x.list.R l).map fun q=>(f q.1,q.2)) (k:lenR l=some (m,l2)):r=(manyR x.R (m - 0) l2).bind fun p=>(fun a l3=>some (f a,l3)) ([]++p.1) p.2:=by
 rw [h]
 show Option.map _ ((lenR l).bind _)=_
 rw [k]
 simp only [Option.bind_some,Nat.sub_zero,List.nil_append,Option.map_map]
 cases manyR x.R m l2 <;> rfl
theorem manyB_step {δ:Type} {r:Option δ} {R:List Int→Option (α × List Int)} {n k:Nat} {acc:List α} {G:List α→List Int→Option δ} (h:r=(manyR R (n - k) l).bind fun p=>G (acc++p.1) p.2) (hk:k<n) :
    (R l=none→r=none)∧∀ x l2,R l=some (x,l2)→r=(manyR R (n - (k+1)) l2).bind fun p=>G ((acc++[x])++p.1) p.2:=by
 rw [show n - k=(n - (k+1))+1 by omega] at h
 constructor
 ·intro e;rw [h,manyR,e];rfl
 intro x l2 e
 rw [h,manyR,e]
 simp only [Option.bind_some]
 cases manyR R (n - (k+1)) l2 with
 | none=>rfl
 | some z=>simp
theorem manyB_end {δ:Type} {r:Option δ} {R:List Int→Option (α × List Int)} {n:Nat} {acc:List α} {G:List α→List Int→Option δ} (h:r=(manyR R n l).bind fun p=>G (acc++p.1) p.2) (hn:n=0):r=G acc l:=by
 subst hn;rw [h];simp [manyR]
end
theorem txt_stop {l:List Int} (h:lenR l=none):txtR l=none:=by unfold txtR;rw [h];rfl
theorem txt_read {bs:List Int} {p q m:Nat} (h:lenR (bs.drop p)=some (m,bs.drop q)) (hq:q≤bs.length):q+m≤bs.length∧txtR (bs.drop p)=some ((bs.take (q+m)).drop q,bs.drop (q+m)):=by
 have hm:=lenR_le h
 rw [List.length_drop] at hm
 refine ⟨by omega,?_⟩
 unfold txtR bytR
 rw [h]
 simp only [Option.bind_some]
 rw [if_pos by7]
 simp only [Option.map_some,List.drop_drop,Option.some.injEq,Prod.mk.injEq]
 refine ⟨?_,trivial⟩
 rw [List.drop_take,show q+m - q=m by omega]
theorem bcut (bs:List Int) (a b:Nat):IsSeq (.seq 1 (((bts bs).take b).drop a)) 1 (bts ((bs.take b).drop a)):=by
 have:bts ((bs.take b).drop a)=((bts bs).take b).drop a:=by simp [bts,List.map_take,List.map_drop]
 rw [this];exact .seq 1 _
def Decs (bs:List Int) (c:RC):Prop:=codR bs=some c∧RightP (rcC c)
theorem code_r (b:Nat) (bs:List Int) (x:Int) (hb:Byt bs) (hl:bs.length≤100000000) (hx:bs[0]?=some x) (hlim:∀ c,codR bs=some c→(rcC c).Lim) :
    ACallX Try.prog 33 [.ptr b 0] [.loc b (rdC bs 0)] (fun v M'=>∃ c,Decs bs c∧v=.agg (rcC c).cells∧M'=[.loc b (rdC bs bs.length)]) (Gives bs (∀ c,¬ Decs bs c)):=by
 have HF:=fun (v:AV) (k:Int)=>fail_c v k
 have hbl:=bts_len bs
 have hlt:0<bs.length:=get_lt hx
 have hbx:(bts bs)[0]?=some [.val (.int .u8 x)]:=by simp [bts,hx]
 have hcons:bs=x::bs.drop 1:=by
  cases bs with
  | nil=>simp at hlt
  | cons y l=>simp at hx;simp [hx]
 have hbad:¬ x=199→∀ c,¬ Decs bs c:=by
  rintro h c ⟨e,_⟩
  rw [hcons,codR,if_neg h] at e
  simp at e
 obtain ⟨r,hr0⟩:∃ r,codD.R (bs.drop 1)=r:=⟨_,rfl⟩
 have gone:r=none→∀ c,¬ Decs bs c:=by
  rintro rfl c ⟨e,_⟩
  rw [hcons,codR] at e
  split at e
  ·rw [hr0] at e;simp at e
  simp at e
 have I0:r=(codD.R (bs.drop 1)).map fun q=>((fun y:RC=>y) q.1,q.2):=by rw [hr0];cases r <;> rfl
 have HN:=fun (p:Nat) (hp:p≤bs.length)=>number_r raw_r b p bs hb hp hl
 have HL:=fun (p:Nat) (hp:p≤bs.length)=>length_r (number_r raw_r) b p bs hb hp hl
 unfold codD at I0
 refine ACallX.enter Try.func33 V (by kernel_rfl) V (Yj V) ?_
 refine Qj ?_
 refine QaM ?_;intro b2
 refine Qb ?_
 refine Qh ?_
 refine QaM ?_;intro b3
 refine QaR ?_
 refine Zu 20 (¬ x=199) ?_ _ _ V ?_
 ·skip
  refine Qa ?_
  refine QaF ?_
  refine QN ?_
  refine QbD ?_
  refine Qcy ?_;intro n10
  refine QA ?_;intro c11 h11
  refine Qa ?_
  obtain ⟨rfl,g11⟩|⟨rfl,g11⟩:=Za h11
  ·skip
   refine Qm ?_
   refine Zh 14 V V V V V (op_nilCheck_m V V ?_)
   refine QaX ?_
   refine Zh 16 V V V V V (op_load_m1 (i:=2) V ta_31 V V V (Zh 17 V V V V V (Zo V te_31 V (.seq _ _) V V (hbx) ?_)))
   refine Qbw ?_
   refine QP ?_;intro c19 h19
   refine Qu ?_
   refine Yi V ?_ by3 by1
   clear I0 gone HN HL HF hbad hlim hcons hr0;first|(simp_all;done)|(simp_all;omega)|grind
  skip
  refine Qav ?_
  refine Qu ?_
  refine Yi V ?_ by3 by1
  clear I0 gone HN HL HF hbad hlim hcons hr0;first|(simp_all;done)|(simp_all;omega)|grind
 intro c20 h20
 refine Qd ?_
 obtain ⟨rfl,g20⟩|⟨rfl,g20⟩:=Za h20
 ·refine QF ?_
  refine ACode.perm (pick_perm (is:=[2]) V) ?_
  refine Qt ?_
  refine QaF ?_
  refine QN ?_
  refine Qcn ?_
  refine Qf ?_
  refine QO ?_
  refine AOpsX.st 26 V V V (Zg V V ?_)
  refine AOpsX.cl 27 [0] (xs:=[.tmp 26]) V V V V V V (HN 1 by10) by0 (fun c h=>Ze c ⟨gone (pair_stop (f:=fun y=>y) I0 h.1),h.2⟩) ?_
  rintro v9 M9 ⟨gl,p1,hr1,hp1,hq1,rfl,rfl⟩;replace I0:=Zv (f:=fun y=>y) I0 hr1
  refine AOpsX.st 28 V V V (Zg V V ?_)
  refine AOpsX.cl 29 [0] (xs:=[.tmp 28]) V V V V V V (HN p1 hq1) by0 (fun c h=>Ze c ⟨gone (pair_stop (f:=fun y=>(gl,y)) I0 h.1),h.2⟩) ?_
  rintro v9 M9 ⟨ys,p2,hr2,hp2,hq2,rfl,rfl⟩;replace I0:=Zv (f:=fun y=>(gl,y)) I0 hr2
  refine AOpsX.st 30 V V V (Zg V V ?_)
  refine AOpsX.cl 31 [0] (xs:=[.tmp 30]) V V V V V V (HN p2 hq2) by0 (fun c h=>Ze c ⟨gone (pair_stop (f:=fun y=>(gl,ys,y)) I0 h.1),h.2⟩) ?_
  rintro v9 M9 ⟨no,p3,hr3,hp3,hq3,rfl,rfl⟩;replace I0:=Zv (f:=fun y=>(gl,ys,y)) I0 hr3
  refine AOpsX.st 32 V V V (Zf V tf_26_3 V ?_)
  refine Qcz ?_
  refine AOpsX.st 33 V V V (Zf V tf_26_4 V ?_)
  refine Qcz ?_
  refine AOpsX.st 34 V V V (Zf V tf_26_5 V ?_)
  refine Qcz ?_
  refine QaU ?_
  refine Ql ?_
  refine QO ?_
  refine AOpsX.st 35 V V V (Zg V V ?_)
  refine AOpsX.cl 36 [0] (xs:=[.tmp 35]) V V V V V V (HL p3 hq3) by0 (fun c h=>Ze c ⟨gone (list_stop (f:=(fun y:List (List Int) × List (Int × Int × Int) × List RI=>(gl,ys,no,y))) I0 h.1),h.2⟩) ?_
  rintro v9 M9 ⟨m1,p4,hr4,hp4,hq4,rfl,rfl⟩;have hm1:m1≤100000000:=(by have:=lenR_le hr4;simp at this;omega);replace I0:=list_read (f:=(fun y:List (List Int) × List (Int × Int × Int) × List RI=>(gl,ys,no,y))) I0 hr4
  refine AOpsX.st 37 V V V (Zg V V ?_)
  refine Qaa ?_
  refine Qd ?_
  refine QK ?_
  refine c_ownNew 9 1 ?_
  apply c_loopk (rg [(1,1),(4,1),(6,20),(27,9),(37,34),(118,1),(128,1)]) (σ:=Nat × List (List Int) × Nat × Value) (fun zz=>match zz with|(k,acc,q,u)=>[(37,.val (.int .i64 k))]) (fun zz=>match zz with|(k,acc,q,u)=>[.loc b (rdC bs q),.loc b3 [.val (.slice none 0 0),.val (.slice none 0 0),.own u 1 (strs (acc.map strOfNums)),.val (.int .i64 gl),.val (.int .i64 ys),.val (.int .i64 no)],.loc b2 [.val (.slice none 0 0),.val (.slice none 0 0),.val (.slice none 0 0),.val (.int .i64 0),.val (.int .i64 0),.val (.int .i64 0)],.own 9 1 u]) (fun zz=>match zz with|(k,acc,q,u)=>k≤m1∧acc.length=k∧p4≤q∧q≤bs.length∧r=(manyR txtD.R (m1 - k) (bs.drop q)).bind fun p=>(fun a l3=>((Rd.list (numD.pair (numD.pair numD))).pair insD.list |>.R l3).map fun z=>((fun y:List (List Int) × List (Int × Int × Int) × List RI=>(gl,ys,no,y)) (a,z.1),z.2)) (acc++p.1) p.2) (fun zz=>match zz with|(k,acc,q,u)=>m1 - k) ((0,[],p4,.slice none 0 0))
  ·repeat' (first|exact Ym|apply Yk rfl|apply Yl rfl)
  ·exact ⟨Nat.zero_le _,V,Nat.le_refl _,hq4,I0⟩
  ·exact by2
  ·exact MLe.cons _ (MLe.loc _ (Yh (Yf _) (Yh (Yf _) (Yh (Le.nilOwn 1) (Yg _)))) (Ye V))
  rintro ⟨k,acc,q,u⟩ hI
  try dsimp only [List.cons_append,List.nil_append] at hI ⊢
  obtain ⟨h1,h2,h3,h4,h5⟩:=hI
  have hle:(strs (acc.map strOfNums)).length≤100000000:=by rw [strs_len];simp;omega
  refine Qy ?_;intro c38 h38
  refine Qf ?_
  obtain ⟨rfl,g38⟩|⟨rfl,g38⟩:=Za h38
  ·refine Q2 ?_
   refine Ql ?_
   replace h5:=manyB_end (G:=fun a l3=>((Rd.list (numD.pair (numD.pair numD))).pair insD.list |>.R l3).map fun z=>((fun y:List (List Int) × List (Int × Int × Int) × List RI=>(gl,ys,no,y)) (a,z.1),z.2)) h5 by10
   obtain ⟨txs,rfl⟩:∃ txs,txs=acc:=⟨_,rfl⟩
   refine QO ?_
   refine AOpsX.st 71 V V V (Zg V V ?_)
   refine AOpsX.cl 72 [0] (xs:=[.tmp 71]) V V V V V V (HL q h4) by0 (fun c h=>Ze c ⟨gone (list_stop (f:=(fun y:List (Int × Int × Int) × List RI=>(gl,ys,no,txs,y))) h5 h.1),h.2⟩) ?_
   rintro v9 M9 ⟨m2,p5,hr5,hp5,hq5,rfl,rfl⟩;have hm2:m2≤100000000:=(by have:=lenR_le hr5;simp at this;omega);replace h5:=list_read (f:=(fun y:List (Int × Int × Int) × List RI=>(gl,ys,no,txs,y))) h5 hr5
   refine AOpsX.st 73 V V V (Zg V V ?_)
   refine Qaa ?_
   refine Qd ?_
   refine QK ?_
   refine c_ownNew 39 3 ?_
   apply c_loopk (rg [(1,1),(4,22),(27,45),(73,18),(118,1),(128,1)]) (σ:=Nat × List (Int × Int × Int) × Nat × Value) (fun zz=>match zz with|(k2,acc,q,u)=>[(73,.val (.int .i64 k2))]) (fun zz=>match zz with|(k2,acc,q,u)=>[.loc b (rdC bs q),.loc b3 [.val (.slice none 0 0),.own u 3 (Cf.cellss (acc.map fun f=>.mk f.1 f.2.1 f.2.2)),.seq 1 (strs (txs.map strOfNums)),.val (.int .i64 gl),.val (.int .i64 ys),.val (.int .i64 no)],.loc b2 [.val (.slice none 0 0),.val (.slice none 0 0),.val (.slice none 0 0),.val (.int .i64 0),.val (.int .i64 0),.val (.int .i64 0)],.own 39 3 u]) (fun zz=>match zz with|(k2,acc,q,u)=>k2≤m2∧acc.length=k2∧p5≤q∧q≤bs.length∧r=(manyR (numD.pair (numD.pair numD)).R (m2 - k2) (bs.drop q)).bind fun p=>(fun a l3=>(insD.list.R l3).map fun z=>((fun y:List (Int × Int × Int) × List RI=>(gl,ys,no,txs,y)) (a,z.1),z.2)) (acc++p.1) p.2) (fun zz=>match zz with|(k2,acc,q,u)=>m2 - k2) ((0,[],p5,.slice none 0 0))
   ·repeat' (first|exact Ym|apply Yk rfl|apply Yl rfl)
   ·exact ⟨Nat.zero_le _,V,Nat.le_refl _,hq5,h5⟩
   ·exact by2
   ·exact MLe.cons _ (MLe.loc _ (Yh (Yf _) (Yh (Le.nilOwn 3) (Yh (Le.own _ _ _) (Yg _)))) (MLe.cons _ (MLe.drop _ (Ye V))))
   rintro ⟨k2,acc,q,u⟩ hI
   try dsimp only [List.cons_append,List.nil_append] at hI ⊢
   obtain ⟨j1,j2,j3,j4,j5⟩:=hI
   have hle:(Cf.cellss (acc.map fun f=>.mk f.1 f.2.1 f.2.2)).length≤100000000:=by rw [Cf.cellss_len];simp;omega
   refine Qy ?_;intro c74 h74
   refine Qf ?_
   obtain ⟨rfl,g74⟩|⟨rfl,g74⟩:=Za h74
   ·refine Q2 ?_
    refine Ql ?_
    replace j5:=manyB_end (G:=fun a l3=>(insD.list.R l3).map fun z=>((fun y:List (Int × Int × Int) × List RI=>(gl,ys,no,txs,y)) (a,z.1),z.2)) j5 by10
    obtain ⟨fns,rfl⟩:∃ fns,fns=acc:=⟨_,rfl⟩
    refine QO ?_
    refine AOpsX.st 91 V V V (Zg V V ?_)
    refine AOpsX.cl 92 [0] (xs:=[.tmp 91]) V V V V V V (HL q j4) by0 (fun c h=>Ze c ⟨gone (last_stop (f:=(fun y:List RI=>(gl,ys,no,txs,fns,y))) j5 h.1),h.2⟩) ?_
    rintro v9 M9 ⟨m3,p6,hr6,hp6,hq6,rfl,rfl⟩;have hm3:m3≤100000000:=(by have:=lenR_le hr6;simp at this;omega);replace j5:=last_read (f:=(fun y:List RI=>(gl,ys,no,txs,fns,y))) j5 hr6
    refine AOpsX.st 93 V V V (Zg V V ?_)
    refine Qaa ?_
    refine Qd ?_
    refine QK ?_
    refine c_ownNew 46 7 ?_
    apply c_loopk (rg [(1,1),(4,22),(27,65),(93,10),(118,1),(128,1)]) (σ:=Nat × List RI × Nat × Value) (fun zz=>match zz with|(k3,acc,q,u)=>[(93,.val (.int .i64 k3))]) (fun zz=>match zz with|(k3,acc,q,u)=>[.loc b (rdC bs q),.loc b3 [.own u 7 (Is.cellss (acc.map riI)),.seq 3 (Cf.cellss (fns.map fun f=>.mk f.1 f.2.1 f.2.2)),.seq 1 (strs (txs.map strOfNums)),.val (.int .i64 gl),.val (.int .i64 ys),.val (.int .i64 no)],.loc b2 [.val (.slice none 0 0),.val (.slice none 0 0),.val (.slice none 0 0),.val (.int .i64 0),.val (.int .i64 0),.val (.int .i64 0)],.own 46 7 u]) (fun zz=>match zz with|(k3,acc,q,u)=>k3≤m3∧acc.length=k3∧p6≤q∧q≤bs.length∧r=(manyR insD.R (m3 - k3) (bs.drop q)).bind fun p=>(fun a l3=>some ((fun y:List RI=>(gl,ys,no,txs,fns,y)) a,l3)) (acc++p.1) p.2) (fun zz=>match zz with|(k3,acc,q,u)=>m3 - k3) ((0,[],p6,.slice none 0 0))
    ·repeat' (first|exact Ym|apply Yk rfl|apply Yl rfl)
    ·exact ⟨Nat.zero_le _,V,Nat.le_refl _,hq6,j5⟩
    ·exact by2
    ·exact MLe.cons _ (MLe.loc _ (Yh (Le.nilOwn 7) (Yh (Le.own _ _ _) (Yg _))) (MLe.cons _ (MLe.drop _ (Ye V))))
    rintro ⟨k3,acc,q,u⟩ hI
    try dsimp only [List.cons_append,List.nil_append] at hI ⊢
    obtain ⟨g1,g2,g3,g4,g5⟩:=hI
    have hle:(Is.cellss (acc.map riI)).length≤100000000:=by rw [Is.cellss_len];simp;omega
    refine Qy ?_;intro c94 h94
    refine Qf ?_
    obtain ⟨rfl,g94⟩|⟨rfl,g94⟩:=Za h94
    ·refine Q2 ?_
     refine Ql ?_
     replace g5:=manyB_end (G:=fun a l3=>some ((fun y:List RI=>(gl,ys,no,txs,fns,y)) a,l3)) g5 by10
     obtain ⟨c,hc⟩:∃ c:RC,(gl,ys,no,txs,fns,acc)=c:=⟨_,rfl⟩
     have hx9:x=199:=by simpa using g20
     have hcod:codR bs=if bs.drop q=[] then some c else none:=by
      rw [hcons,codR,if_pos hx9,hr0,g5,← hcons,← hc];rfl
     refine Qbp ?_
     refine Qv ?_
     refine Qbh ?_
     refine QaS ?_
     refine Qv ?_
     refine Qbh ?_
     refine QaS ?_
     refine Qcl ?_
     refine DOps.cm 112 V V (fun _ q=>op_lss V V V q) ?_;intro c112 h112
     show AGo _ _ _ _ _ _ _
     refine Qd ?_
     obtain ⟨rfl,g112⟩|⟨rfl,g112⟩:=Za h112
     ·refine Qaw ?_
      have hqe:q=bs.length:=by omega
      subst hqe
      rw [List.drop_length,if_pos rfl] at hcod
      have HR:=Right_c (rcC c) (hlim c hcod)
      rw [← hc] at HR
      refine Qg ?_
      refine Qc5 ?_
      refine Zb 120 V V V (Zs (xs:=[.tmp 119]) V V (HR) by0 ?_);intro c120 h120
      refine Qak ?_;intro c121 h121
      try replace h121:=nott h121 h120
      refine Qb ?_
      obtain ⟨rfl,g121⟩|⟨rfl,g121⟩:=Za h121
      ·refine Qr ?_
       refine QU ?_
       refine Qc5 ?_
       refine Zt V V (Zi (cs':=[_,_,_,_,_,_]) (i:=2) V ts_26 V V V V V (Yj V) V ?_)
       refine Qb ?_
       refine c_ret ?_
       subst hc
       have hRt:=Classical.not_not.1 g121
       exact out_cell (R:=fun v M'=>_) (i:=2) (v':=.agg (rcC (gl,ys,no,txs,fns,acc)).cells) V V V ta_26 V (Le.agg (Yh (Le.own _ _ _) (Yg _))) by1 ⟨_,⟨hcod,hRt⟩,V,V⟩
      refine Q6 ?_
      refine AOpsX.st 122 V V V (Zg V V (AOpsX.st 123 V V V (Zg V V (AOpsX.st 124 V V V (op_nilCheck_m V V (AOpsX.st 125 V V V (Zf V tf_73_0 V (AOpsX.st 126 V V V (op_load_m1 (i:=0) V ta_31 V V V ?_)))))))))
      refine AOpsX.st 127 V V V (op_len V tu_31 V (.seq _ _) (fun n127=>?_))
      exact AOpsX.never 128 (xs:=[.tmp 122,.tmp 127]) rfl rfl rfl rfl rfl (HF _ _) by0 (fun c' h=>Ze c' ⟨fun d hd=>by (obtain ⟨e1,e2⟩:=hd;rw [hcod] at e1;simp only [Option.some.injEq] at e1;subst e1;rw [← hc] at e2;exact absurd e2 g121),_,by omega,by omega,h⟩)
     refine Q6 ?_
     refine AOpsX.st 113 V V V (Zg V V (AOpsX.st 114 V V V (Zg V V (AOpsX.st 115 V V V (op_nilCheck_m V V (AOpsX.st 116 V V V (Zf V tf_73_1 V (AOpsX.st 117 V V V (op_load_m1 (i:=0) V ta_3 V V V ?_)))))))))
     exact AOpsX.never 118 (xs:=[.tmp 113,.tmp 117]) V V V V V (HF _ _) by0 (fun c' h=>Ze c' ⟨fun d hd=>by rw [Decs,hcod,if_neg (by intro e;have:=congrArg List.length e;simp at this;omega)] at hd;simp at hd,_,by omega,by omega,h⟩)
    refine QaN ?_
    refine QE ?_
    refine QK ?_
    obtain ⟨hs1,hs2⟩:=manyB_step (G:=fun a l3=>some ((fun y:List RI=>(gl,ys,no,txs,fns,y)) a,l3)) g5 by10
    refine QcV ?_
    refine EOpsX.d 95 (none) (i:=0) V V V V V (Zf V tf_26_0 V ⟨V,V⟩) ?_
    refine EOpsX.d 96 (some 1) (i:=1) V V V V V (op_load_m1 (i:=0) V ta_22 V V V ⟨V,V⟩) ?_
    refine EOpsX.d 97 (none) (i:=2) V V V V V (Zg V V ⟨V,V⟩) ?_
    refine EOpsX.x 0 (xs:=[.tmp 97]) (i:=3) V V V V V V V V (ACallX.mono (ins_r b q bs hb g4 hl) (fun _ _ h=>h) (fun c h=>⟨gone (hs1 h.1),h.2⟩)) by0 ?_
    rintro v9 M9 ⟨i,q',hri,hqi,hqj,rfl,rfl⟩
    refine ⟨_,V,?_⟩
    refine EOpsX.d 99 (none) (i:=4) V V V V V (Zp (xs:=[.tmp 98]) el_22 V V V V V V (Yj V) ⟨V,V⟩) ?_
    refine EOpsX.w 3 (i:=5) V V V V V (op_append (i:=0) el_22 V V V V (.seq _ _) by4 (fun u100=>⟨_,V,?_⟩))
    refine EOpsX.d 101 (none) (i:=6) V V V V V (Zf V tf_26_0 V ⟨V,V⟩) ?_
    refine EOpsX.w 1 (i:=7) V V V V V (Zi (cs':=[_,_,_,_,_,_]) (i:=0) V ts_22 V V V V V (Yj V) V ⟨_,V,?_⟩)
    show AGo _ _ _ _ _ _ _
    refine Q0 ?_
    exact ⟨(k3+1,acc++[i],q',u100),⟨by show k3+1≤m3;omega,by simp [g2],by show p6≤q';omega,hqj,hs2 _ _ hri⟩,by show m3 - (k3+1)<m3 - k3;omega,by2,MLe.cons _ (MLe.loc _ (Yh (Le.own_eq (by simp [Is.cellss];rfl)) (Yg _)) (Ye V))⟩
   refine Qw ?_
   obtain ⟨hs1,hs2⟩:=manyB_step (G:=fun a l3=>(insD.list.R l3).map fun z=>((fun y:List (Int × Int × Int) × List RI=>(gl,ys,no,txs,y)) (a,z.1),z.2)) j5 by10
   refine QO ?_
   refine AOpsX.st 75 V V V (Zg V V ?_)
   refine AOpsX.cl 76 [0] (xs:=[.tmp 75]) V V V V V V (HN q j4) by0 (fun c h=>Ze c ⟨gone (hs1 (pair_none h.1)),h.2⟩) ?_
   rintro v9 M9 ⟨fl,q1,hra,hqa,hqb,rfl,rfl⟩
   refine AOpsX.st 77 V V V (Zn (ns:=[0]) (xs:=[.tmp 76]) V tz_39 V tfl_39 V V V V (AOpsX.st 5 V V V (Zx (cs':=[_,_,_]) V tz_39 V V ?_)));intro b5
   refine AOpsX.st0 V V (Zi (cs':=[_,_,_]) (i:=0) V ts_39 V V V V V (Yj V) V ?_)
   refine QaU ?_
   refine QO ?_
   refine AOpsX.st 78 V V V (Zg V V ?_)
   refine AOpsX.cl 79 [1] (xs:=[.tmp 78]) V V V V V V (HN q1 hqb) by0 (fun c h=>Ze c ⟨gone (hs1 ((pair_some hra).trans (by rw [pair_none h.1];rfl))),h.2⟩) ?_
   rintro v9 M9 ⟨fsl,q2,hrb,hqc,hqd,rfl,rfl⟩
   refine AOpsX.st 80 V V V (Zf V tf_39_1 V ?_)
   refine Qc6 ?_
   refine QaU ?_
   refine QO ?_
   refine AOpsX.st 81 V V V (Zg V V ?_)
   refine AOpsX.cl 82 [0] (xs:=[.tmp 81]) V V V V V V (HN q2 hqd) by0 (fun c h=>Ze c ⟨gone (hs1 ((pair_some hra).trans (by rw [pair_some hrb,show numD.R (bs.drop q2)=none from h.1];rfl))),h.2⟩) ?_
   rintro v9 M9 ⟨fc,q3,hrc,hqe,hqf,rfl,rfl⟩
   refine AOpsX.st 83 V V V (Zf V tf_39_2 V ?_)
   refine Qc6 ?_
   refine Qaa ?_
   refine Qd ?_
   refine Qg ?_
   refine QN ?_
   refine QbD ?_
   refine Zb 86 V V V (Zr (cs':=[_,_,_]) (i:=1) V ta_39 V V V V (Zb 87 V V V (Zp (xs:=[.tmp 86]) el_23 V V V V V V (Yj V) (Zb 88 V V V (op_append (i:=4) el_23 V V V V (.seq _ _) by4 ?_)))))
   intro u88
   refine QN ?_
   refine Zt V V (Zi (cs':=[_,_,_,_,_,_]) (i:=2) V ts_23 V V V V V (Yj V) V ?_)
   refine Qa7 ?_
   have hfr:(numD.pair (numD.pair numD)).R (bs.drop q)=some ((fl,fsl,fc),bs.drop q3):=by rw [pair_some hra,pair_some hrb,show numD.R (bs.drop q2)=some (fc,bs.drop q3) from hrc];rfl
   exact ⟨(k2+1,acc++[(fl,fsl,fc)],q3,u88),⟨by show k2+1≤m2;omega,by simp [j2],by show p5≤q3;omega,hqf,hs2 _ _ hfr⟩,by show m2 - (k2+1)<m2 - k2;omega,by2,MLe.cons _ (MLe.drop _ (MLe.loc _ (Yh (Yf _) (Yh (Le.own_eq (by simp [Cf.cellss,Cf.cells];rfl)) (Yg _))) (Ye V)))⟩
  refine Qw ?_
  obtain ⟨hs1,hs2⟩:=manyB_step (G:=fun a l3=>((Rd.list (numD.pair (numD.pair numD))).pair insD.list |>.R l3).map fun z=>((fun y:List (List Int) × List (Int × Int × Int) × List RI=>(gl,ys,no,y)) (a,z.1),z.2)) h5 by10
  refine QO ?_
  refine AOpsX.st 39 V V V (Zg V V ?_)
  refine AOpsX.cl 40 [0] (xs:=[.tmp 39]) V V V V V V (HL q h4) by0 (fun c h=>Ze c ⟨gone (hs1 (txt_stop h.1)),h.2⟩) ?_
  rintro v9 M9 ⟨m,q',hrm,hq5,hq6,rfl,rfl⟩;obtain ⟨hqm,htx⟩:=txt_read hrm hq6
  refine QbX ?_
  refine QaU ?_
  refine c_drawnE [0,1,2,3,4,5,6,7,8,9,10,11,12,13,14,15,16,17,18,19,20,21] [19,21] [[],[0],[],[2],[2,3],[2,3,4],[],[6],[6,7],[6,7,8],[],[10],[10,11],[10,11,12],[],[10,11,12,13,14],[2,3,4,5,6,7,8,9,10,11,12,13,14,15],[2,3,4,5,6,7,8,9,10,11,12,13,14,15,16],[2,3,4,5,6,7,8,9,10,11,12,13,14,15,16,17],[0,1,2,3,4,5,6,7,8,9,10,11,12,13,14,15,16,17,18],[0,1,2,3,4,5,6,7,8,9,10,11,12,13,14,15,16,17,18,19],[0,1,2,3,4,5,6,7,8,9,10,11,12,13,14,15,16,17,18,19,20]] tmix V ?_
  refine Qbk ?_
  refine Qc2 ?_
  refine QX ?_
  refine QcA ?_
  refine Qbk ?_
  refine QcB ?_
  refine QX ?_
  refine QcA ?_
  refine Qbk ?_
  refine QcB ?_
  refine QX ?_
  refine QcA ?_
  refine Qbk ?_
  refine QcB ?_
  refine QX ?_
  refine Qc3 ?_
  refine Zk 57 (none) (i:=16) V V V V V (op_cut (l:=q') (k:=(q'+m)) V te_31 V (.seq _ _) V V by10 by10 by10 by10 ⟨V,V⟩) ?_
  refine Zk 58 (none) (i:=17) V V V V V (op_bytestra (xs:=(bs.take (q'+m)).drop q') V tu_31 tu_5 tu_9 V (bcut bs q' (q'+m)) ⟨V,V⟩) ?_
  refine Zk 59 (none) (i:=18) V V V V V (Zp (xs:=[.tmp 58]) el_24 V V V V V V (Yj V) ⟨V,V⟩) ?_
  refine EOps.w 3 (i:=19) V V V V V (op_append (i:=0) el_24 V V V V (.seq _ _) by4 (fun u60=>⟨_,V,?_⟩))
  refine Qbk ?_
  refine EOps.w 1 (i:=21) V V V V V (Zi (cs':=[_,_,_,_,_,_]) (i:=0) V ts_24 V V V V V (Yj V) V ⟨_,V,?_⟩)
  show AGo _ _ _ _ _ _ _
  refine Qd ?_
  refine Qt ?_
  refine Qa6 ?_
  refine Qa ?_
  refine QS ?_
  refine QaF ?_
  refine QN ?_
  refine Qcn ?_
  refine Qa7 ?_
  exact ⟨(k+1,acc++[(bs.take (q'+m)).drop q'],q'+m,u60),⟨by show k+1≤m1;omega,by simp [h2],by show p4≤q'+m;omega,hqm,hs2 _ _ htx⟩,by show m1 - (k+1)<m1 - k;omega,by2,MLe.loc _ (Yh (Yf _) (Yh (Le.ieq by11) (Yg _))) (MLe.loc _ (Yh (Yf _) (Yh (Yf _) (Yh (Le.own_eq (by simp [strs];rfl)) (Yg _)))) (Ye V))⟩
 refine Q6 ?_
 refine Qco ?_
 exact AOpsX.never 22 (xs:=[.tmp 21,.const (.int .i64 0)]) V V V V V (HF _ _) by0 (fun c h=>Ze c ⟨hbad by8,_,by omega,by omega,h⟩)
theorem idleD_c:IdleC Try.prog 32 3:=by
 refine ⟨enters_of Try.func32 (by kernel_rfl) V,fun args w ha=>?_⟩
 refine callsDIn_of_wpSIn Try.func32 V trivial fun c₀ cs hu=>?_
 apply wpSIn_seq
 apply wpSIn_region
 generalize hT:Exit.thenS _ _=T
 simp [wpOpsSIn,go_sem,recoverD,hu]
 rw [← hT]
 show Code.wpSIn (RF none) 0 Try.prog _ _ _ _ _
 apply wpSIn_seq
 apply wpSIn_region
 generalize hT2:Exit.thenS _ _=T2
 simp [wpOpsSIn,go_sem,ha]
 rw [← hT2]
 show Code.wpSIn (RF none) 0 Try.prog _ _ _ _ _
 refine wpSIn_cond (t:=false) (by simp [Act.eval,ha]) ?_
 simp only [Bool.false_eq_true,if_false]
 refine wpSIn_of_wpIn V (wpIn_skip ?_)
 cases c₀
 simp_all [bodyPostS,results,Try.f32]
theorem idleD (b2 b3 b4:Nat):Idle Try.prog (ptrD 32 [b2,b3,b4]) :=
 idle_ptr idleD_c
def zCode:List AV:=[.val (.slice none 0 0),.val (.slice none 0 0),.val (.slice none 0 0),.val (.int .i64 0),.val (.int .i64 0),.val (.int .i64 0)]
theorem caughtD (b2 b3 b4:Nat) (x y:AV) (k:Int) (cs0:List AV) (hc:cs0.length=6):Caught Try.prog (ptrD 32 [b2,b3,b4]) (wrong k) [.loc b4 [x],.loc b3 [y],.loc b2 cs0] (fun M'=>M'=[.loc b4 [.val (.int .i64 160)],.loc b3 [.val (.int .i64 k)],.loc b2 zCode]):=by
 refine caught_ptr idleD_c.1 fun B F Mf w hi=>?_
 obtain ⟨z0,z1,z2,z3,z4,z5,rfl⟩:∃ z0 z1 z2 z3 z4 z5,cs0=[z0,z1,z2,z3,z4,z5]:=by
  match cs0,hc with
  | [z0,z1,z2,z3,z4,z5],_=>exact ⟨z0,z1,z2,z3,z4,z5,rfl⟩
 refine callsDIn_of_wpSIn Try.func32 V trivial fun c₀ cs hu=>?_
 apply wpSIn_seq
 apply wpSIn_region
 generalize hT:Exit.thenS _ _=T
 simp [wpOpsSIn,go_sem,recoverD,hu,wrong]
 rw [← hT]
 show Code.wpSIn (RF none) 0 Try.prog _ _ _ _ _
 refine (?_:ACodeS Try.prog 19 _ (fun _ M'=>M'=[.loc b4 [.val (.int .i64 160)],.loc b3 [.val (.int .i64 k)],.loc b2 zCode]) [(0,.ptr b2 0),(1,.ptr b3 0),(2,.ptr b4 0),(3,.val (.iface 69 (.int .i64 k)))] _) B F Mf _ w _ _ hi ?_ ?_
 ·refine ACodeS.seq (ACodeS.region ?_)
  refine Qa ?_
  refine Zb 8 V V V (op_inil V (by kernel_rfl) V ?_)
  refine Qx ?_
  refine ACodeS.cond_t V (ACodeS.seq (ACodeS.region ?_))
  refine Qa ?_
  refine Zb 11 V V V (op_tassert V tu_69 V ?_)
  refine Qai ?_
  refine QC ?_
  refine QaZ ?_
  refine ACodeS.seq (ACodeS.seq (ACodeS.region ?_))
  refine Qa ?_
  refine Zb 15 V V V (op_not V V ?_)
  refine Qx ?_
  refine ACodeS.cond_f V (ACodeS.skip (ACodeS.region (Zb 17 V V V (Zn (ns:=[]) (xs:=[]) V tz_26 V tfl_26 V V V V ?_))))
  refine Qa ?_
  refine Zt V V (Zi (i:=2) V ts_26 V V V V V (Yj V) V (Zt V V (Zi (i:=1) V ts_3 V V V V V (Yj V) V (Zt V V (Zi (i:=0) V ts_32 V V V V V (Yj V) V ?_)))))
  refine Qx ?_
  rfl
 ·refine ⟨by simp,fun t v e=>?_⟩
  match t,e with
  | 0,e=>cases e;refine ⟨by decide,?_⟩;simp;exact .ptr _ _
  | 1,e=>cases e;refine ⟨by decide,?_⟩;simp;exact .ptr _ _
  | 2,e=>cases e;refine ⟨by decide,?_⟩;simp;exact .ptr _ _
  | 3,e=>cases e;refine ⟨by decide,?_⟩;simp;exact .val _
  | t+4,e=>simp [List.lookup_cons] at e
 rintro a' w' ⟨F',al',M',rfl,h2,h3,h4,h5,h6⟩
 obtain ⟨u,j1,j2⟩:=results_run (P:=Try.prog) (fn:=Try.f32) h3 h4 .nil
 exact ⟨h5,_,V,u,j2,⟨u,V⟩,V,_,F',V,h2,h3,h6⟩
theorem code_nil (b:Nat):ACallX Try.prog 33 [.ptr b 0] [.loc b (rdC [] 0)] (fun _ _=>False) (Gives [] (∀ c,¬ Decs [] c)):=by
 have HF:=fun (v:AV) (k:Int)=>fail_c v k
 refine ACallX.enter Try.func33 V (by kernel_rfl) V (Yj V) ?_
 refine Qj ?_
 refine QaM ?_;intro b2
 refine Qb ?_
 refine Qh ?_
 refine QaM ?_;intro b3
 refine QaR ?_
 refine Zu 20 (True) ?_ _ _ V ?_
 ·skip
  refine Qa ?_
  refine QaF ?_
  refine QN ?_
  refine QbD ?_
  refine Qcy ?_;intro n10
  refine QA ?_;intro c11 h11
  refine Qa ?_
  obtain ⟨rfl,g11⟩|⟨rfl,g11⟩:=Za h11
  ·exact absurd V g11
  skip
  refine Qav ?_
  refine Qu ?_
  refine Yi V ?_ by3 by1
  simp_all;done
 intro c20 h20
 refine Qd ?_
 obtain ⟨rfl,g20⟩|⟨rfl,g20⟩:=Za h20
 ·exact absurd trivial g20
 refine Q6 ?_
 refine Qco ?_
 exact AOpsX.never 22 (xs:=[.tmp 21,.const (.int .i64 0)]) rfl rfl rfl rfl rfl (HF _ _) by0 (fun c h=>Ze c ⟨fun c hc=>by (obtain ⟨e,_⟩:=hc;simp [codR] at e),0,by decide,by simp,h⟩)
theorem code_any (b:Nat) (bs:List Int) (hb:Byt bs) (hl:bs.length≤100000000) (hlim:∀ c,codR bs=some c→(rcC c).Lim) :
    ACallX Try.prog 33 [.ptr b 0] [.loc b (rdC bs 0)] (fun v M'=>∃ c,Decs bs c∧v=.agg (rcC c).cells∧M'=[.loc b (rdC bs bs.length)]) (Gives bs (∀ c,¬ Decs bs c)):=by
 cases bs with
 | nil=>exact (code_nil b).mono (fun _ _ h=>h.elim) (fun _ h=>h)
 | cons x l=>exact code_r b (x::l) x hb hl rfl hlim
def DecP (bs:List Int) (v:AV):Prop:=(∃ c,Decs bs c∧v=.tup [.agg (rcC c).cells,.val (.int .i64 0),.val (.int .i64 0)])∨((∀ c,¬ Decs bs c)∧∃ k:Int,0≤k∧k≤bs.length∧v=.tup [.agg zCode,.val (.int .i64 k),.val (.int .i64 160)])
theorem cell3_res {P:Program} {fn:Func} {R:AV→Mem→Prop} {al:Sl} {t2 t3 t4 T2 T3 T4 b2 b3 b4 s:Nat} {c2:List AV} {c3 c4 v':AV} {M M':Mem} {i2 i3 i4:Nat} (hr:fn.results=#[.cell t2 T2,.cell t3 T3,.cell t4 T4]) (h2:al.lookup t2=some (.ptr b2 0)) (h3:al.lookup t3=some (.ptr b3 0)) (h4:al.lookup t4=some (.ptr b4 0)) (hm2:M[i2]?=some (.loc b2 c2)) (hm3:M[i3]?=some (.loc b3 [c3])) (hm4:M[i4]?=some (.loc b4 [c4]))
    (ht2:tyAgg P T2=some (some s)) (hs:c2.length=s) (ht3:tyAgg P T3=some none) (ht4:tyAgg P T4=some none) (hl:Le (.tup [.agg c2,c3,c4]) v') (hm:MLe M M') (h:R v' M'):∃ vs v M'',AResL P al M fn.results.toList vs∧Le (oneOf vs) v∧MLe M M''∧R v M'' :=
 ⟨[.agg c2,c3,c4],v',M',by rw [hr];exact .cons ⟨b2,0,i2,c2,h2,hm2,.inl ⟨s,ht2,by rw [List.drop_zero,← hs,List.take_length],by omega⟩⟩ (.cons ⟨b3,0,i3,[c3],h3,hm3,.inr ⟨ht3,rfl⟩⟩ (.cons ⟨b4,0,i4,[c4],h4,hm4,.inr ⟨ht4,rfl⟩⟩ .nil)),hl,hm,h⟩
theorem Decode_c (bs:List Int) (hb:Byt bs) (hl:bs.length≤100000000) (hlim:∀ c,codR bs=some c→(rcC c).Lim):ACall Try.prog 12 [.seq 1 (bts bs)] [] (fun v M'=>DecP bs v∧M'=[]):=by
 have HC:=fun b=>code_any b bs hb hl hlim
 refine ACall.enterD Try.func12 V (by kernel_rfl) V (Yj V) ?_
 refine ACodeD.seqr (Zb 2 V V V (Zx (cs':=zCode) V tz_26 V V ?_));intro b2
 refine Zb 3 V V V (Zx (cs':=[_]) V tz_3 V V ?_);intro b3
 refine Zb 4 V V V (Zx (cs':=[_]) V tz_32 V V ?_);intro b4
 refine Qx ?_
 refine ACodeD.seq (ACodeD.region (AOpsD.step V V (op_makeFunc (fs:=[]) (cs:=[.tmp 2,.tmp 3,.tmp 4]) V V V (AOpsD.defer [b2,b3,b4] V V V V ?_))))
 refine Qx ?_
 show ACode _ _ _ _ _ _ _
 refine Q8 ?_
 refine Ql ?_
 refine QO ?_
 refine Qcj ?_
 refine AOpsX.st 7 V V V (Zn (ns:=[0]) (xs:=[.tmp 6]) V tz_73 V tfl_73 V V V V (AOpsX.st 8 V V V (op_boxe (cs':=[_,_]) V V V V ?_)));intro b8
 refine AOpsX.cl 9 [0] (xs:=[.tmp 8]) rfl rfl rfl rfl rfl rfl (HC _) by0 (fun c h=>by (obtain ⟨h1,k,hk0,hk1,rfl⟩:=h;exact outD_panic ((caughtD b2 b3 b4 _ _ k zCode rfl).mono fun M' e=>by (subst e;exact cell3_res (i2:=2) (i3:=1) (i4:=0) rfl rfl rfl rfl rfl rfl rfl ta_26 rfl ta_3 ta_32 (Yf _) (MLe.none _) ⟨.inr ⟨h1,k,hk0,hk1,rfl⟩,rfl⟩)))) ?_
 rintro v9 M9 ⟨c,hd,rfl,rfl⟩
 refine AOpsX.st0 V V (Zi (cs':=[_,_,_,_,_,_]) (i:=3) V ts_26 V V V V V (Yj V) V (AOpsX.st0 V V (Zi (cs':=[_]) (i:=2) V ts_3 V V V V V (Yj V) V (AOpsX.st0 V V (Zi (cs':=[_]) (i:=1) V ts_32 V V V V V (Yj V) V ?_)))))
 refine Qaa ?_
 refine QI ?_
 exact ⟨idleD b2 b3 b4,cell3_res (i2:=3) (i3:=2) (i4:=1) V V V V V V V ta_26 V ta_3 ta_32 (Yf _) (MLe.none _) ⟨.inl ⟨c,hd,V⟩,V⟩⟩
theorem step_w {f:FuncId} {args:Nat→List AV} {out pre rest tot:List Int} {b:Nat} {M:Mem} (H:Writes f args out) (hW:WM b pre M) (he:pre++(out++rest)=tot) (ht:tot.length≤1000000000):ACall Try.prog f (args b) M (fun _ M'=>WM b (pre++out) M'∧(pre++out)++rest=tot):=by
 have hl:=congrArg List.length he
 simp only [List.length_append] at hl
 exact (H b pre M hW by10).mono fun _ _ h=>⟨h,by rw [List.append_assoc];exact he⟩
theorem intZ_w (n:Int) (h0:0≤n) (h1:I64 n):Writes 30 (fun b=>[.ptr b 0,.val (.int .i64 n)]) (num n.toNat):=by
 have:=int_w n.toNat (by have:=h1.2;omega)
 rwa [show ((n.toNat:Nat):Int)=n by omega] at this
def AOk (a:Ato):Prop:=1≤a.k∧a.Lim∧(a.k≠1→0≤a.n)
def aW (i:Is):List Int:=if opA i.op then num i.a.toNat else []
def bW (i:Is):List Int:=if opB i.op then num i.b.toNat else []
def gW (i:Is):List Int:=if opG i.op<0 then num i.ar.length else []
def cW (p:Int × List Ato):List Int:=num p.1.toNat++(num p.2.length++atomsB p.2)
def fW (i:Is):List Int:=if i.op=4 then num i.fs.length++((i.fs.zip i.cp).map cW).flatten else []
def insW (i:Is):List Int:=num i.op.toNat++(aW i++(nB i.op i.n++(bW i++(gW i++(atomsB i.ar++fW i)))))
structure WOk (i:Is):Prop where
 lim:i.Lim
 op:1≤i.op∧i.op≤15
 a:opA i.op=true→0≤i.a
 b:opB i.op=true→0≤i.b
 n:opN i.op=true→opS i.op=false→0≤i.n
 ar:∀ a∈i.ar,AOk a
 len:i.op=4→i.cp.length=i.fs.length
 fs:∀ n∈i.fs,0≤n
 cp:∀ l∈i.cp,∀ a∈l,AOk a
theorem nB_s {op n:Int} (h:opN op=true∧opS op=true):nB op n=num (zz n):=by unfold nB;rw [h.1,h.2];rfl
theorem nB_n {op n:Int} (h:opN op=true) (k:¬ (opN op=true∧opS op=true)):nB op n=num n.toNat:=by unfold nB;rw [if_pos h,if_neg (fun e=>k ⟨h,e⟩)]
theorem nB_0 {op n:Int} (h:opN op=false):nB op n=[]:=by unfold nB;rw [h];rfl
theorem ins_w (i:Is) (h:WOk i):Writes 31 (fun b=>[.ptr b 0,.agg i.cells]) (insW i):=by
 intro b bs M hM hb
 obtain ⟨tot,htot⟩:∃ tot,bs++insW i=tot:=⟨_,rfl⟩
 have ht:tot.length≤1000000000:=by rw [← htot,List.length_append];exact hb
 rw [htot]
 clear hb
 have HO:=of_c i.op
 have Ho:=intZ_w i.op (by have:=h.op.1;omega) (by have:=h.op;constructor <;> omega)
 have Ha:=fun e=>intZ_w i.a (h.a e)
 have Hb:=fun e=>intZ_w i.b (h.b e)
 have Hn:=fun e k=>intZ_w i.n (h.n e k)
 have Hs:=signed_w i.n
 have Har:=atoms_w i.ar h.ar
 obtain ⟨hlim,_,_,_,_,_,hlen,hfs,hcp⟩:=h
 have I0:=htot
 unfold insW at I0
 obtain ⟨fa,hfa⟩:∃ x,opA i.op=x:=⟨_,rfl⟩
 obtain ⟨fb,hfb⟩:∃ x,opB i.op=x:=⟨_,rfl⟩
 obtain ⟨fn,hfn⟩:∃ x,opN i.op=x:=⟨_,rfl⟩
 obtain ⟨fs,hfs2⟩:∃ x,opS i.op=x:=⟨_,rfl⟩
 obtain ⟨g,hg⟩:∃ x,opG i.op=x:=⟨_,rfl⟩
 obtain ⟨fo,hfo⟩:∃ x,opOk i.op=x:=⟨_,rfl⟩
 have haW:aW i=if fa then num i.a.toNat else []:=by unfold aW;rw [hfa]
 have hbW:bW i=if fb then num i.b.toNat else []:=by unfold bW;rw [hfb]
 have hgW:gW i=if g<0 then num i.ar.length else []:=by unfold gW;rw [hg]
 have hnS:fn=true∧fs=true→nB i.op i.n=num (zz i.n):=fun e=>nB_s ⟨hfn.trans e.1,hfs2.trans e.2⟩
 have hnN:fn=true→¬ (fn=true∧fs=true)→nB i.op i.n=num i.n.toNat:=fun e k=>nB_n (hfn.trans e) (by rw [hfn,hfs2];exact k)
 have hn0:fn=false→nB i.op i.n=[]:=fun e=>nB_0 (hfn.trans e)
 rw [hfa,hfb,hfn,hfs2,hg,hfo] at HO
 rw [hfa] at Ha
 rw [hfb] at Hb
 rw [hfn,hfs2] at Hn
 clear hfa hfb hfn hfs2 hg hfo
 obtain ⟨op,a,bb,n,ar,ff,cp⟩:=i
 simp only [Is.op,Is.a,Is.b,Is.n,Is.ar,Is.fs,Is.cp] at *
 obtain ⟨L1,L2,L3,L4,L5,L6,L7⟩:=hlim
 have hla:=Ato.cellss_len ar
 have hlf:(nums ff).length=ff.length:=nums_len ff
 have hlc:=Ato.cellsss_len cp
 have hfW:fW (Is.mk op a bb n ar ff cp)=if op=4 then num ff.length++((ff.zip cp).map cW).flatten else []:=rfl
 obtain ⟨wa,hea⟩:∃ w,aW (Is.mk op a bb n ar ff cp)=w:=⟨_,rfl⟩
 obtain ⟨wb,heb⟩:∃ w,bW (Is.mk op a bb n ar ff cp)=w:=⟨_,rfl⟩
 obtain ⟨wn,hen⟩:∃ w,nB op n=w:=⟨_,rfl⟩
 obtain ⟨wg,heg⟩:∃ w,gW (Is.mk op a bb n ar ff cp)=w:=⟨_,rfl⟩
 obtain ⟨wf,hef⟩:∃ w,fW (Is.mk op a bb n ar ff cp)=w:=⟨_,rfl⟩
 rw [hea] at haW
 rw [heb] at hbW
 rw [hen] at hnS hnN hn0
 rw [heg] at hgW
 rw [hef] at hfW
 rw [hea,heb,hen,heg,hef] at I0
 clear hea heb hen heg hef
 refine Zc Try.func31 V (by kernel_rfl) V (Yj V) ?_
 refine Qj ?_
 refine Qbr ?_
 refine Qb ?_
 refine QV ?_
 refine Zb 11 V V V (Zl (xs:=[.tmp 10]) V V (HO) by0 ?_)
 refine Qai ?_
 refine QbC ?_;intro b4
 refine QbZ ?_
 refine Q1 ?_
 refine Qn ?_
 refine Zb 17 V V V (Zj (xs:=[.tmp 14,.tmp 16])  [.loc b4 _] V V V (step_w Ho hM I0 ht) (Yg _) (fun v17 M17 h17=>?_))
 refine QaR ?_
 obtain ⟨hW1,I1⟩:=h17
 generalize bs++num op.toNat=q1 at I1 hW1
 refine QaV ?_
 have h19:(fa=true↔fa=true):=Iff.rfl
 refine Qb ?_
 apply c_joink [1,2,5,8,9,10,11,12,13,14,15,16,17,18,19,20,21,22,23,33,39,45,53,57,65,76,84,91] (σ:=List Int × Mem) (fun zz=>match zz with|(pre,M)=>[]) (fun zz=>match zz with|(pre,M)=>.loc b4 [.val (.bool fa),.val (.bool fb),.val (.bool fn),.val (.bool fs),.val (.int .i64 g)]::M) (fun zz=>match zz with|(pre,M)=>WM b pre M∧pre++(wn++(wb++(wg++(atomsB ar++wf))))=tot)
 ·repeat' (first|exact Ym|apply Yk rfl|apply Yl rfl)
 ·skip
  obtain ⟨rfl,g19⟩|⟨rfl,g19⟩:=Za h19
  ·refine Qbb ?_
   first
   | exact ⟨(_,M23),h23,by2,Ye rfl⟩
   | exact ⟨(q1,M17),⟨hW1,by rw [haW,if_neg (by first|(simp;done)|assumption)] at I1;exact I1⟩,by2,Ye rfl⟩
  refine Qz ?_
  refine QH ?_
  refine Zb 23 V V V (Zj (xs:=[.tmp 20,.tmp 22])  [.loc b4 _] V V V (step_w (Ha by6 L2) hW1 (by rw [haW,if_pos by6] at I1;exact I1) ht) (Yg _) (fun v23 M23 h23=>?_))
  refine Qx ?_
  refine QJ ?_
  first
  | exact ⟨(_,M23),h23,by2,Ye rfl⟩
  | exact ⟨(q1,M17),⟨hW1,by rw [haW,if_neg (by first|(simp;done)|assumption)] at I1;exact I1⟩,by2,Ye rfl⟩
 rintro ⟨pre,M⟩ hI
 try dsimp only [List.cons_append,List.nil_append] at hI ⊢
 refine QE ?_
 refine Ql ?_
 obtain ⟨hW2,I2⟩:=hI
 refine Zu 29 (fn=true∧fs=true) ?_ _ _ V ?_
 ·skip
  refine Qs ?_
  have h25:(fn=true↔fn=true):=Iff.rfl
  refine Qa ?_
  obtain ⟨rfl,g25⟩|⟨rfl,g25⟩:=Za h25
  ·skip
   refine Qan ?_
   refine Yi V ?_ by3 by1
   simp_all;done
  skip
  refine Qah ?_
  have h28:(fs=true↔fs=true):=Iff.rfl
  refine Qu ?_
  refine Yi V ?_ by3 by1
  simp_all;done
 intro c29 h29
 refine Qd ?_
 apply c_joink (rg [(1,2),(5,1),(8,32),(45,1),(53,1),(57,1),(65,1),(76,1),(84,1),(91,1)]) (σ:=List Int × Mem) (fun zz=>match zz with|(pre2,M2)=>[]) (fun zz=>match zz with|(pre2,M2)=>.loc b4 [.val (.bool fa),.val (.bool fb),.val (.bool fn),.val (.bool fs),.val (.int .i64 g)]::M2) (fun zz=>match zz with|(pre2,M2)=>WM b pre2 M2∧pre2++(wb++(wg++(atomsB ar++wf)))=tot)
 ·repeat' (first|exact Ym|apply Yk rfl|apply Yl rfl)
 ·skip
  obtain ⟨rfl,g29⟩|⟨rfl,g29⟩:=Za h29
  ·refine QR ?_
   refine Qh ?_
   refine Qs ?_
   have h35:(fn=true↔fn=true):=Iff.rfl
   refine Qb ?_
   obtain ⟨rfl,g35⟩|⟨rfl,g35⟩:=Za h35
   ·refine Qbb ?_
    first
    | exact ⟨(_,M33),h33,by2,Ye rfl⟩
    | exact ⟨(_,M39),h39,by2,Ye rfl⟩
    | exact ⟨(pre,M),⟨hW2,by rw [hn0 (by first|rfl|(simpa using g35))] at I2;exact I2⟩,by2,Ye rfl⟩
   refine Qz ?_
   refine QH ?_
   refine Zb 39 rfl rfl rfl (Zj (xs:=[.tmp 36,.tmp 38])  [.loc b4 _] rfl rfl rfl (step_w (Hn by6 (by rcases Bool.eq_false_or_eq_true fs with e|e;exact absurd ⟨by first|rfl|assumption,e⟩ g29;exact e) L4) hW2 (by rw [hnN by6 by8] at I2;exact I2) ht) (Yg _) (fun v39 M39 h39=>?_))
   refine Qx ?_
   refine QJ ?_
   first
   | exact ⟨(_,M33),h33,by2,Ye rfl⟩
   | exact ⟨(_,M39),h39,by2,Ye rfl⟩
   | exact ⟨(pre,M),⟨hW2,by rw [hn0 (by first|rfl|(simpa using g35))] at I2;exact I2⟩,by2,Ye rfl⟩
  refine Qz ?_
  refine QH ?_
  refine Zb 33 V V V (Zj (xs:=[.tmp 30,.tmp 32])  [.loc b4 _] V V V (step_w (Hs L4) hW2 (by rw [hnS by8] at I2;exact I2) ht) (Yg _) (fun v33 M33 h33=>?_))
  refine Qx ?_
  refine QJ ?_
  first
  | exact ⟨(_,M33),h33,by2,Ye rfl⟩
  | exact ⟨(_,M39),h39,by2,Ye rfl⟩
  | exact ⟨(pre,M),⟨hW2,by rw [hn0 (by first|rfl|(simpa using g35))] at I2;exact I2⟩,by2,Ye rfl⟩
 rintro ⟨pre2,M2⟩ hI
 try dsimp only [List.cons_append,List.nil_append] at hI ⊢
 refine QE ?_
 refine Ql ?_
 obtain ⟨hW3,I3⟩:=hI
 refine QaV ?_
 have h41:(fb=true↔fb=true):=Iff.rfl
 refine Qb ?_
 apply c_joink (rg [(1,2),(5,1),(8,38),(53,1),(57,1),(65,1),(76,1),(84,1),(91,1)]) (σ:=List Int × Mem) (fun zz=>match zz with|(pre3,M3)=>[]) (fun zz=>match zz with|(pre3,M3)=>.loc b4 [.val (.bool fa),.val (.bool fb),.val (.bool fn),.val (.bool fs),.val (.int .i64 g)]::M3) (fun zz=>match zz with|(pre3,M3)=>WM b pre3 M3∧pre3++(wg++(atomsB ar++wf))=tot)
 ·repeat' (first|exact Ym|apply Yk rfl|apply Yl rfl)
 ·skip
  obtain ⟨rfl,g41⟩|⟨rfl,g41⟩:=Za h41
  ·refine Qbb ?_
   first
   | exact ⟨(_,M45),h45,by2,Ye rfl⟩
   | exact ⟨(pre2,M2),⟨hW3,by rw [hbW,if_neg (by first|(simp;done)|assumption)] at I3;exact I3⟩,by2,Ye rfl⟩
  refine Qz ?_
  refine QH ?_
  refine Zb 45 V V V (Zj (xs:=[.tmp 42,.tmp 44])  [.loc b4 _] V V V (step_w (Hb by6 L3) hW3 (by rw [hbW,if_pos by6] at I3;exact I3) ht) (Yg _) (fun v45 M45 h45=>?_))
  refine Qx ?_
  refine QJ ?_
  first
  | exact ⟨(_,M45),h45,by2,Ye rfl⟩
  | exact ⟨(pre2,M2),⟨hW3,by rw [hbW,if_neg (by first|(simp;done)|assumption)] at I3;exact I3⟩,by2,Ye rfl⟩
 rintro ⟨pre3,M3⟩ hI
 try dsimp only [List.cons_append,List.nil_append] at hI ⊢
 refine QE ?_
 refine Ql ?_
 obtain ⟨hW4,I4⟩:=hI
 refine QaV ?_
 refine Qaq ?_;intro c48 h48
 refine Qb ?_
 apply c_joink (rg [(1,2),(4,2),(8,46),(57,1),(65,1),(76,1),(84,1),(91,1)]) (σ:=List Int × Mem) (fun zz=>match zz with|(pre4,M4)=>[]) (fun zz=>match zz with|(pre4,M4)=>.loc b4 [.val (.bool fa),.val (.bool fb),.val (.bool fn),.val (.bool fs),.val (.int .i64 g)]::M4) (fun zz=>match zz with|(pre4,M4)=>WM b pre4 M4∧pre4++(atomsB ar++wf)=tot)
 ·repeat' (first|exact Ym|apply Yk rfl|apply Yl rfl)
 ·skip
  obtain ⟨rfl,g48⟩|⟨rfl,g48⟩:=Za h48
  ·refine Qbb ?_
   first
   | exact ⟨(_,M53),h53,by2,Ye rfl⟩
   | exact ⟨(pre3,M3),⟨hW4,by rw [hgW,if_neg by8] at I4;exact I4⟩,by2,Ye rfl⟩
  refine Qz ?_
  refine QH ?_
  refine Qay ?_;intro n52
  refine Zb 53 V V V (Zj (xs:=[.tmp 49,.tmp 52])  [.loc b4 _] V V V (step_w (int_w (Ato.cellss ar).length by10) hW4 (by rw [hgW,if_pos by8] at I4;rw [hla];exact I4) ht) (Yg _) (fun v53 M53 h53=>?_))
  refine Qx ?_
  refine QJ ?_
  first
  | exact ⟨(_,M53),h53,by2,Ye rfl⟩
  | exact ⟨(pre3,M3),⟨hW4,by rw [hgW,if_neg by8] at I4;exact I4⟩,by2,Ye rfl⟩
 rintro ⟨pre4,M4⟩ hI
 try dsimp only [List.cons_append,List.nil_append] at hI ⊢
 refine QE ?_
 obtain ⟨hW5,I5⟩:=hI
 refine QH ?_
 refine Zb 57 V V V (Zj (xs:=[.tmp 54,.tmp 56])  [.loc b4 _] V V V (step_w Har hW5 I5 ht) (Yg _) (fun v57 M57 h57=>?_))
 refine Qf ?_
 obtain ⟨hW6,I6⟩:=h57
 generalize pre4++atomsB ar=q6 at I6 hW6
 refine Qa3 ?_
 refine QA ?_;intro c60 h60
 refine Qb ?_
 obtain ⟨rfl,g60⟩|⟨rfl,g60⟩:=Za h60
 ·refine Qr ?_
  refine go_end ?_
  first
  | (have hz:(ff.zip cp).drop k=[]:=List.drop_eq_nil_of_le (by rw [List.length_zip];omega)
     rw [hz] at I8
     simp only [List.map_nil,List.flatten_nil,List.append_nil] at I8
     exact Yb V (MLe.drop _ (Yd _)) (by rw [← I8];exact hW8))
  | (rw [hfW,if_neg g60,List.append_nil] at I6
     exact Yb V (MLe.drop _ (Yd _)) (by rw [← I6];exact hW6))
 refine Qz ?_
 refine QM ?_
 refine Qn ?_
 refine Qbg ?_;intro n64
 refine Zb 65 V V V (Zj (xs:=[.tmp 61,.tmp 64])  [.loc b4 _] V V V (step_w (int_w (nums ff).length by10) hW6 (by rw [hfW,if_pos by8] at I6;rw [hlf];exact I6) ht) (Yg _) (fun v65 M65 h65=>?_))
 refine Qf ?_
 obtain ⟨hW7,I7⟩:=h65
 refine Qa3 ?_
 refine Qbg ?_;intro n68
 refine QG ?_
 apply c_loopk (rg [(1,2),(4,63),(69,24)]) (σ:=Nat × List Int × Mem) (fun zz=>match zz with|(k,pre7,M7)=>[(69,.val (.int .i64 k))]) (fun zz=>match zz with|(k,pre7,M7)=>.loc b4 [.val (.bool fa),.val (.bool fb),.val (.bool fn),.val (.bool fs),.val (.int .i64 g)]::M7) (fun zz=>match zz with|(k,pre7,M7)=>k≤ff.length∧WM b pre7 M7∧pre7++(((ff.zip cp).drop k).map cW).flatten=tot) (fun zz=>match zz with|(k,pre7,M7)=>ff.length - k) ((0,_,M65))
 ·repeat' (first|exact Ym|apply Yk rfl|apply Yl rfl)
 ·exact ⟨Nat.zero_le _,hW7,I7⟩
 ·exact by2
 ·exact by1
 rintro ⟨k,pre7,M7⟩ hI
 try dsimp only [List.cons_append,List.nil_append] at hI ⊢
 obtain ⟨hk,hW8,I8⟩:=hI
 refine Qy ?_;intro c70 h70
 refine Qf ?_
 obtain ⟨rfl,g70⟩|⟨rfl,g70⟩:=Za h70
 ·refine QZ ?_
  refine go_end ?_
  first
  | (have hz:(ff.zip cp).drop k=[]:=List.drop_eq_nil_of_le (by rw [List.length_zip];omega)
     rw [hz] at I8
     simp only [List.map_nil,List.flatten_nil,List.append_nil] at I8
     exact Yb V (MLe.drop _ (Yd _)) (by rw [← I8];exact hW8))
  | (rw [hfW,if_neg g60,List.append_nil] at I6
     exact Yb V (MLe.drop _ (Yd _)) (by rw [← I6];exact hW6))
 refine Qw ?_
 obtain ⟨f,hf⟩:=Zm (l:=ff) (i:=k) by10
 obtain ⟨l,hl⟩:=Zm (l:=cp) (i:=k) (by have:=hlen by8;omega)
 have hcf:(nums ff)[k]?=some [.val (.int .i64 f)]:=by simp [nums,hf]
 have hcl:=Ato.cellsss_get hl
 have hz:(ff.zip cp).drop k=(f,l)::(ff.zip cp).drop (k+1):=by
  have hzg:(ff.zip cp)[k]?=some (f,l):=by rw [List.getElem?_zip_eq_some];exact ⟨hf,hl⟩
  rw [List.drop_eq_getElem_cons (get_lt hzg)]
  congr 1
  rw [List.getElem?_eq_getElem (get_lt hzg)] at hzg
  exact Option.some.inj hzg
 rw [hz,List.map_cons,List.flatten_cons,cW,List.append_assoc,List.append_assoc] at I8
 have hlm:=L7.2 l (Yn hl)
 have hll:=Ato.cellss_len l
 refine Qt ?_
 refine Zb 72 V V V (Zo V te_43 V (.seq _ _) V V (hcf) ?_)
 refine Q9 ?_
 refine QC ?_
 refine Q1 ?_
 refine Qa ?_
 refine Zb 76 V V V (Zj (xs:=[.tmp 74,.tmp 75])  [.loc b4 _] V V V (step_w (intZ_w f (hfs f (Yn hf)) (L6.2 f (Yn hf))) hW8 I8 ht) (Yg _) (fun v76 M76 h76=>?_))
 refine Qf ?_
 obtain ⟨hW9,I9⟩:=h76
 refine QH ?_
 refine Qa ?_
 refine QcC ?_
 refine Q9 ?_
 refine Qay ?_;intro n83
 refine Zb 84 V V V (Zj (xs:=[.tmp 77,.tmp 83])  [.loc b4 _] V V V (step_w (int_w (Ato.cellss l).length by10) hW9 (by rw [hll];exact I9) ht) (Yg _) (fun v84 M84 h84=>?_))
 refine Qb ?_
 obtain ⟨hW10,I10⟩:=h84
 refine QH ?_
 refine Qa ?_
 refine QcC ?_
 refine Q9 ?_
 refine Zb 91 V V V (Zj (xs:=[.tmp 85,.tmp 90])  [.loc b4 _] V V V (step_w (atoms_w l (hcp l (Yn hl))) hW10 I10 ht) (Yg _) (fun v91 M91 h91=>?_))
 refine Qa7 ?_
 exact ⟨(k+1,_,M91),⟨by show k+1≤ff.length;omega,h91⟩,by show ff.length - (k+1)<ff.length - k;omega,by2,Ye V⟩
section
variable {P:Program} {al:Sl} {M:Mem} {K:AV→Mem→Prop} {o:Oper}
theorem run_app_str {w:World} {t u e ty:TypeId} {i:TypeInfo} (ht:P.underlying t=some (.slice e)) (hu:P.underlying u=some .string) (hi:P.info? e=some i) (hz:i.zero=some (.int .u8 0)) (hs1:i.size=1) (hby:i.bytes=1) (base:Nat) (v:Value) (n:Nat) (xs:List Value) (hown:w.ownsRow base e 1 v n xs)
    (s:ByteArray) (hn:n+s.size≤100000000000) (hbase:base≤w.heap.size) :
    ∃ v' w',(Builtin.append_ #[t,u] ty #[v,.string s]).run P w=.ok v' w'∧w'.ownsRow base e 1 v' (n+s.size) (xs++Lib.strCells s) ∧
     ((w.grownBy w' v.ownBlock∧v'.ownBlock=v.ownBlock)∨(w.grownBy w' none∧v'.ownBlock=some w.heap.size)):=by
 have h63:n+s.size≤maxLen:=by unfold maxLen;omega
 have hxl:xs.length=n:=by simpa using hown.1
 have hlen:(xs++Lib.strCells s).length=(n+s.size) * 1:=by rw [List.length_append,hxl,Lib.strCells_length,Nat.mul_one]
 have new:∀ old,(w.drew.alloc (.cells (xs.toArray++(Lib.strCells s).toArray++Builtin.zeroCells (Value.int .u8 0).cells (grownCap w (n+s.size) old e - (n+s.size))) e)).ownsRow base e 1 (.slice (some ⟨w.heap.size,0,none⟩) (n+s.size) (grownCap w (n+s.size) old e)) (n+s.size) (xs++Lib.strCells s) ∧
     w.grownBy (w.drew.alloc (.cells (xs.toArray++(Lib.strCells s).toArray++Builtin.zeroCells (Value.int .u8 0).cells (grownCap w (n+s.size) old e - (n+s.size))) e)) none:=by
  intro old
  have hge:=grownCap_ge w (n+s.size) old e
  refine ⟨⟨hlen,.inr ⟨w.heap.size,_,_,V,hbase,heap_alloc_new w.drew _,hge,grownCap_le_maxLen w (n+s.size) old e h63,?_,?_⟩⟩,V,V,V,by simp,fun j hj _=>heap_alloc_old w.drew _ hj⟩
  ·have hz1:(Value.int IntKind.u8 0).cells.size=1:=rfl
   simp only [Array.size_append,List.size_toArray,size_zeroCells,hz1,hxl,Lib.strCells_length]
   omega
  simp only [Array.toList_append,List.append_assoc]
  rw [← List.append_assoc,← hlen]
  exact List.take_left
 obtain ⟨rfl,rfl⟩|⟨g,cap,cur,rfl,hbg,hg,hnc,hcm,hcs,htake⟩:=hown.2
 ·have hx:xs=[]:=List.eq_nil_of_length_eq_zero hxl
  subst hx
  by_cases hm:s.size=0
  ·have hn:Lib.strCells s=[]:=List.eq_nil_of_length_eq_zero (by rw [Lib.strCells_length];exact hm)
   refine ⟨.slice none 0 0,w,?_,by rw [hm,hn];exact World.ownsRow_nil w base e 1,.inl ⟨⟨V,V,V,Nat.le_refl _,fun _ _ _=>V⟩,V⟩⟩
   have hf:=Lib.run_firstCells_string (P:=P) w 1 s
   rw [hm] at hf
   simp [Builtin.append_,run_underlying ht,run_underlying hu,sizeOf,typeInfo,hi,hs1,Builtin.lenOf,hm,hf]
  have hr:=run_append_nil_string (P:=P) w t u ty e i (.int .u8 0) ht hu hi hz s by10 by10 (by rw [hby];omega)
  have hgr:=new 0
  simp only [Nat.zero_add,List.nil_append,Array.empty_append] at hgr ⊢
  have e1:(s.data.map fun b=>Value.int .u8 b.toNat)=(Lib.strCells s).toArray:=by
   apply Array.ext'
   simp [Lib.strCells]
  rw [e1] at hr
  exact ⟨_,_,hr,hgr.1,.inr ⟨hgr.2,V⟩⟩
 by_cases hroom:n+s.size≤cap
 ·have hcs':cur.size=cap:=by simpa using hcs
  have hr:=Lib.run_append_room_string (P:=P) w t u ty e i ht hu hi hs1 g n cap cur hg s hroom by10
  refine ⟨_,_,hr,⟨hlen,.inr ⟨g,cap,_,V,hbg,setRow_heap w g cur _ e _ hg,hroom,hcm,?_,?_⟩⟩,.inl ⟨⟨V,V,V,by simp,fun k _ hk=>setRow_other w g k _ (fun e=>hk (by simp [Value.ownBlock,e]))⟩,V⟩⟩
  ·simp only [List.size_toArray,List.length_append,List.length_take,List.length_drop,Array.length_toList,Lib.strCells_length]
   omega
  have ht':cur.toList.take n=xs:=by simpa using htake
  rw [ht',← hlen]
  exact List.take_left
 have holds:∀ j u,xs[j]?=some u→w.cell? ((⟨g,0,none⟩:Addr).add j)=some u:=hown.cells (g:=g) rfl
 have hr:=Lib.run_append_grow_string (P:=P) w t u ty e i (.int .u8 0) ht hu hi hz ⟨g,0,none⟩ n cap xs (by rw [hs1];simpa using hxl) holds s by10 by10 (by rw [hby];exact growslice_fits by10 by10)
 have hgr:=new cap
 exact ⟨_,_,hr,hgr.1,.inr ⟨hgr.2,V⟩⟩
theorem append_tail {B:Nat} {F:EH} {R:Mem} {w w':World} {e:TypeId} {m:Nat} {u u':Value} {es es':List (List AV)} {xs news:List Value} {S:Sem Value} (hi:Inv B F (.own e m u::R) w) (hown:w.ownsRow B e m u es.length xs) (hslack:∀ b i,u.ownBlock=some b→es.length * m≤i→F b i=none) (hrx:Rels F es.flatten xs) (hox:Ones xs) (hwx:∀ x∈es,x.length=m)
    (h1:Ones news) (hrn:Rels F es'.flatten news) (hwn:∀ x∈es',x.length=m) (hn:es.length+es'.length≤100000000000) (hrun:S.run P w=.ok u' w') (hown':w'.ownsRow B e m u' (es.length+es'.length) (xs++news))
    (hcase:(w.grownBy w' u.ownBlock∧u'.ownBlock=u.ownBlock)∨(w.grownBy w' none∧u'.ownBlock=some w.heap.size)) :
    ∃ u' w' F',S.run P w=.ok u' w'∧Rel F' (.seq m (es++es')) u'∧Ext F F'∧Inv B F' (.own e m u'::R) w'∧Below B w w':=by
 have hlen:(xs++news).length=(es.length+es'.length) * m:=hown'.1
 have hb0:∀ k,k<B→w'.heap[k]?=w.heap[k]?:=by
  intro k hk
  have hkw:k<w.heap.size:=Nat.lt_of_lt_of_le hk hi.base
  obtain ⟨hg,_⟩|⟨hg,_⟩:=hcase
  ·refine hg.block k hkw (fun e=>?_)
   have h5:=(hi.ok _ (List.mem_cons_self)).ge (b:=k) e.symm
   omega
  exact hg.block k hkw by11
 have hmisc:w'.os=w.os∧w'.tape=w.tape∧w'.output=w.output∧w.heap.size≤w'.heap.size:=by
  rcases hcase with ⟨hg,_⟩|⟨hg,_⟩ <;> exact ⟨hg.os,hg.tape,hg.output,hg.size⟩
 have hgrow:Ext F (F.grow u'.ownBlock (xs++news)):=by
  intro b i x h
  unfold EH.grow
  split
  ·rename_i hh
   obtain ⟨hb,hil⟩:=hh
   obtain ⟨_,he⟩|⟨_,he⟩:=hcase
   ·rw [he] at hb
    have hin:i<es.length * m:=by
     rcases Nat.lt_or_ge i (es.length * m) with q|q
     ·exact q
     rw [hslack b i hb.symm q] at h;simp at h
    rw [List.getElem?_append_left (by rw [hown.1];exact hin)]
    have h2:=hi.fix b i x h
    obtain ⟨rfl,_⟩|⟨g,cap,cur,rfl,_⟩:=hown.2
    ·simp [Value.ownBlock] at hb
    simp [Value.ownBlock] at hb
    subst hb
    rw [← hown.cellAt i hin];exact h2
   rw [he] at hb
   simp at hb
   rw [hi.dom by10] at h
   simp at h
  exact h
 refine ⟨u',w',F.grow u'.ownBlock (xs++news),hrun,?_,hgrow,?_,⟨hmisc.1,hmisc.2.1,hmisc.2.2.1,hmisc.2.2.2,hb0⟩⟩
 ·obtain ⟨rfl,h0⟩|⟨g,cap,cur,rfl,_,_,hcp,_⟩:=hown'.2
  ·have e1:es=[]:=List.eq_nil_of_length_eq_zero by10
   have e2:es'=[]:=List.eq_nil_of_length_eq_zero by10
   subst e1 e2
   exact .seq0 m none 0 (fun _=>V)
  have hh:=Rel.seq (F:=F.grow (Value.ownBlock (.slice (some ⟨g,0,none⟩) (es.length+es'.length) cap)) (xs++news)) (m:=m) (es:=es++es') (vs:=xs++news) g 0 cap (by
      intro x hx
      rcases List.mem_append.1 hx with q|q
      ·exact hwx x q
      ·exact hwn x q) (by rw [List.length_append];unfold maxLen;omega) (by
      intro j x hx
      have hj:j<(xs++news).length:=by
       rcases Nat.lt_or_ge j (xs++news).length with q|q
       ·exact q
       rw [List.getElem?_eq_none q] at hx;simp at hx
      unfold EH.grow
      rw [if_pos ⟨by rw [Value.ownBlock],by omega⟩,Nat.zero_add]
      exact hx) (by
      rw [List.flatten_append]
      exact (hrx.app hrn).mono hgrow) (by
      intro v hv
      rcases List.mem_append.1 hv with q|q
      ·exact hox v q
      exact h1 v q) (by rw [List.length_append];exact hcp)
  rwa [List.length_append] at hh
 have hfar:=hi.far
 rw [List.pairwise_cons] at hfar
 have ublk:∀ r∈R,Far (.own e m u') r:=by
  intro r hr
  obtain ⟨_,he⟩|⟨_,he⟩:=hcase
  ·have:=hfar.1 r hr
   unfold Far at this ⊢
   simp only [Res.blk] at this ⊢
   rw [he];exact this
  right
  simp only [Res.blk,he]
  intro q
  have:=(hi.ok r (List.mem_cons_of_mem _ hr)).lt (b:=w.heap.size) q.symm
  omega
 refine ⟨Nat.le_trans hi.base hmisc.2.2.2,fun b i x h=>?_,fun r hr=>?_,List.pairwise_cons.2 ⟨ublk,hfar.2⟩⟩
 ·unfold EH.grow at h
  split at h
  ·rename_i hh
   obtain ⟨hb,hil⟩:=hh
   obtain ⟨rfl,_⟩|⟨g,cap,cur,rfl,_⟩:=hown'.2
   ·simp [Value.ownBlock] at hb
   simp [Value.ownBlock] at hb
   subst hb
   rw [hown'.cellAt i by10];exact h
  rename_i hh
  have h2:=hi.fix b i x h
  have hlt:=cell_size h2
  obtain ⟨hg,he⟩|⟨hg,he⟩:=hcase
  ·by_cases q:some b=u.ownBlock
   ·exfalso
    have hin:i<es.length * m:=by
     rcases Nat.lt_or_ge i (es.length * m) with q2|q2
     ·exact q2
     rw [hslack b i q.symm q2] at h;simp at h
    exact hh ⟨by rw [he];exact q,by rw [List.length_append,hown.1];omega⟩
   rw [World.cell?_of_block (w:=w) (hg.block b hlt q)];exact h2
  rw [World.cell?_of_block (w:=w) (hg.block b hlt by11)];exact h2
 rcases List.mem_cons.1 hr with rfl|hr
 ·refine ⟨es.length+es'.length,xs++news,hown',fun g i hg hin=>?_⟩
  unfold EH.grow
  rw [if_neg (fun q=>by omega)]
  obtain ⟨_,he⟩|⟨_,he⟩:=hcase
  ·rw [he] at hg
   exact hslack g i hg (by rw [Nat.add_mul] at hin;omega)
  rw [he] at hg
  simp at hg
  exact hi.dom by10
 have hro:=hi.ok r (List.mem_cons_of_mem _ hr)
 refine hro.stay hgrow (fun b hb=>?_)
 have hlt:=hro.lt hb
 have hne:some b≠u.ownBlock:=by
  intro q
  rcases hfar.1 r hr with k|k
  ·simp only [Res.blk] at k;rw [k] at q;simp at q
  exact k (by rw [hb,q];rfl)
 have hne':some b≠u'.ownBlock:=by
  intro q
  rcases ublk r hr with k|k
  ·simp only [Res.blk] at k;rw [k] at q;simp at q
  exact k (by rw [hb,q];rfl)
 refine ⟨?_,fun i=>?_⟩
 ·obtain ⟨hg,_⟩|⟨hg,_⟩:=hcase
  ·exact hg.block b hlt hne
  exact hg.block b hlt by11
 unfold EH.grow
 rw [if_neg (fun q=>hne' q.1)]
def byts (s:ByteArray):List Int:=s.data.toList.map fun b=>(b.toNat:Int)
theorem byts_len (s:ByteArray):(byts s).length=s.size:=by
 unfold byts
 rw [List.length_map,Array.length_toList];rfl
theorem rels_byts {F:EH} (s:ByteArray):Rels F (bts (byts s)).flatten (Lib.strCells s):=by
 rw [bts_flat]
 unfold byts Lib.strCells
 rw [List.map_map]
 induction s.data.toList with
 | nil=>exact .nil
 | cons b l ih=>exact .cons (.val _) ih
theorem op_append_str {s x:Operand} {t u' e:TypeId} {u:Value} {i:Nat} {es:List (List AV)} {tx:ByteArray} (E:ElT P t e (.int .u8 0) 1 1) (hus:P.underlying u'=some .string) (ho:o.op=.call { callee:=.builtin .append,args:=#[s,x],argTypes:=#[t,u'] }) (hs:al.ev s=some (.own u 1 es)) (hm:M[i]?=some (.own e 1 u)) (hx:al.ev x=some (.val (.string tx))) (hn:es.length+tx.size≤100000000000)
    (q:∀ u',K (.own u' 1 (es++bts (byts tx))) (M.set i (.own e 1 u'))):OpT P o al M K:=by
 intro n B F Mf a w hi hsl ro
 have hil:i<M.length:=get_lt hm
 have hu:=hsl.ev hs
 generalize he:a.eval s=u0 at hu
 cases hu with
 | own _ hu =>
  have hi2:=hi.perm ((perm_at hm).append_right Mf)
  rw [List.cons_append] at hi2
  obtain ⟨n',xs,hown,hslack⟩:=hi2.ok _ (List.mem_cons_self)
  obtain ⟨rfl,hrx,hox,hwx⟩:=own_vals hi2.fix hown hu
  obtain ⟨inf,hinf,hz,hs1,hby⟩:=info_parts E.info
  obtain ⟨v',w1,hrun,hown',hcase⟩:=run_app_str (ty:=o.type) E.und hus hinf hz hs1 hby B u es.length xs hown tx hn hi2.base
  have hbl:(bts (byts tx)).length=tx.size:=by unfold bts;rw [List.length_map,byts_len]
  obtain ⟨u',w',F',h1,h2,h3,h4,h5⟩:=append_tail hi2 hown hslack hrx hox hwx (es':=bts (byts tx)) (news:=Lib.strCells tx) (fun v hv=>Lib.strCells_oneCell tx v hv) (rels_byts tx) (fun x hx=>by obtain ⟨b,_,rfl⟩:=List.mem_map.1 hx;rfl) (by rw [hbl];exact hn) hrun (by rw [hbl];exact hown') hcase
  have e:(execOp a.eval o).run P w=.ok (.value u') w':=by
   simp [execOp,ho,resolve,invoke,builtin,he,Zq hsl hx,h1]
  refine wpR_value e ⟨u',_,_,F',V,q u',.own u' h2,h3,?_,h5⟩
  rw [← List.cons_append] at h4
  exact h4.perm ((perm_set _ hil).append_right Mf).symm
end
theorem atomP_ok {f:Cf} {gl:Int} {a:Ato} (h:AtomP f gl a) (hl:a.Lim):AOk a:=by
 refine ⟨?_,hl,?_⟩
 ·rcases h with h|⟨_,⟨h,_⟩|⟨h,_⟩|⟨h,_⟩⟩ <;> omega
 intro k
 rcases h with h|⟨h,_⟩
 ·exact absurd h k
 exact h
structure WIns (i:Is):Prop extends WOk i where
 ka:∀ a∈i.ar,a.k≤4
 kc:∀ l∈i.cp,∀ a∈l,a.k≤4
 za:opA i.op=false→i.a=0
 zb:opB i.op=false→i.b=0
 zn:opN i.op=false→i.n=0
 zf:i.op≠4→i.fs=[]∧i.cp=[]
 cnt:0≤opG i.op→(i.ar.length:Int)=opG i.op
theorem atomP_le {f:Cf} {gl:Int} {a:Ato} (h:AtomP f gl a):a.k≤4:=by
 rcases h with h|⟨_,⟨h,_⟩|⟨h,_⟩|⟨h,_⟩⟩ <;> omega
theorem zip_get {α β:Type} {xs:List α} {ys:List β} {k:Nat} {y:β} (hl:ys.length=xs.length) (h:ys[k]?=some y):∃ x,xs[k]?=some x :=
 ⟨_,List.getElem?_eq_getElem (by have:=get_lt h;omega)⟩
theorem refP_wok {c:Cd} {f:Cf} {fr:Nat} {i:Is} (h:RefP c f fr i) (hl:i.Lim):WIns i:=by
 obtain ⟨h1,h2,⟨h3,h4,h5,h6⟩,⟨h7,h8⟩,⟨h9,h10,h11⟩,⟨h12,h13⟩,h14,h15,h16⟩:=h
 have hfix:∀ (k:Nat) l,i.cp[k]?=some l→i.op=4∧∃ n,i.fs[k]?=some n∧CapP c f n l:=by
  intro k l hk
  by_cases e:i.op=4
  ·obtain ⟨_,q2,_,q4⟩:=h16 e
   obtain ⟨n,hn⟩:=zip_get q2 hk
   exact ⟨e,n,hn,q4 k n l hn hk⟩
  rw [(h15 e).2] at hk;simp at hk
 have hfs:∀ n∈i.fs,0≤n:=by
  intro n hn
  obtain ⟨k,hk⟩:=List.getElem?_of_mem hn
  by_cases e:i.op=4
  ·obtain ⟨_,q2,_,q4⟩:=h16 e
   obtain ⟨l,hl⟩:=zip_get q2.symm hk
   have:=(q4 k n l hk hl).1
   omega
  rw [(h15 e).1] at hn;simp at hn
 have hlim:=hl
 obtain ⟨op,a,b,n,ar,fs,cp⟩:=i
 obtain ⟨L1,L2,L3,L4,L5,L6,L7⟩:=hl
 simp only [Is.op,Is.a,Is.b,Is.n,Is.ar,Is.fs,Is.cp] at *
 refine ⟨⟨hlim,h1,fun e=>(h3 e).1,fun e=>?_,fun e k=>?_,fun a ha=>atomP_ok (h2 a ha) (L5.2 a ha),fun e=>(h16 e).2.1,hfs,fun l hl a ha=>?_⟩,fun a ha=>atomP_le (h2 a ha),fun l hl a ha=>?_,fun e=>h4 (by simp only [Is.op] at e;rw [e];simp),fun e=>h5 (by simp only [Is.op] at e;rw [e];simp),fun e=>h6 (by simp only [Is.op] at e;rw [e];simp),fun e=>h15 e,fun e=>?_⟩
 ·rcases (opB_iff op).1 e with e2|e2|e2
  ·exact (h7 e2).1
  ·have:=(h8 ⟨by omega,e⟩).1;show 0≤b;omega
  have:=(h8 ⟨by omega,e⟩).1;show 0≤b;omega
 ·show 0≤n
  rcases (opN_iff op).1 e with e2|e2|e2|e2|e2
  ·exact (h12 e2).2.1
  ·have:=h14 e2
   unfold takes at this
   by_cases q:n<1∨n > 17
   ·rw [if_pos q] at this;omega
   omega
  ·exact (h13 (.inl e2)).1
  ·exact (h13 (.inr e2)).1
  have:opS op=true:=by rw [opS_iff];exact e2
  rw [show opS (Is.mk op a b n ar fs cp).op=opS op from rfl,this] at k;simp at k
 ·obtain ⟨k,hk⟩:=List.getElem?_of_mem hl
  obtain ⟨_,n,_,q⟩:=hfix k l hk
  exact atomP_ok (q.2.2.2 a ha) ((L7.2 l hl).2 a ha)
 ·obtain ⟨k,hk⟩:=List.getElem?_of_mem hl
  obtain ⟨_,n,_,q⟩:=hfix k l hk
  exact atomP_le (q.2.2.2 a ha)
 show (ar.length:Int)=opG op
 have e:0≤opG op:=e
 unfold opG at e ⊢
 unfold one1 two2 lst3 at *
 split
 ·rename_i q;rw [h10 q];rfl
 rename_i q
 split
 ·rename_i q2;rw [h9 q2];rfl
 rename_i q2
 split
 ·rename_i q3;rw [if_neg q,if_neg q2,if_pos q3] at e;exact absurd e by9
 rename_i q3;rw [h11 ⟨q2,q,q3⟩];rfl
theorem funsP_all {c:Cd} (hl:∀ i∈c.is,i.Lim):∀ (fu:List Cf) (at0:Nat),FunsP c at0 fu→(∀ i∈c.is.drop at0,WIns i)∧∀ f∈fu,0≤f.len∧0≤f.sl∧0≤f.cp
 | [],at0,h=>by
  have h:at0=c.is.length:=h
  subst h
  exact ⟨fun i hi=>by simp at hi,fun f hf=>by simp at hf⟩
 | f::fu,at0,h=>by
  obtain ⟨⟨h1,h2,_⟩,h3⟩:=h
  obtain ⟨k1,k2⟩:=funsP_all hl fu _ h3
  refine ⟨fun i hi=>?_,fun g hg=>?_⟩
  ·have hi':i∈c.is:=List.mem_of_mem_drop hi
   rw [show c.is.drop at0=(c.is.take (at0+f.len.toNat)).drop at0++c.is.drop (at0+f.len.toNat) by
    conv=>lhs;rw [← List.take_append_drop (at0+f.len.toNat) c.is]
    rw [List.drop_append]
    congr 1
    rw [List.length_take,show at0 - min (at0+f.len.toNat) c.is.length=0 by omega,List.drop_zero]] at hi
   rcases List.mem_append.1 hi with hi|hi
   ·exact refP_wok (h2 i hi) (hl i hi')
   exact k1 i hi
  rcases List.mem_cons.1 hg with rfl|hg
  ·omega
  exact k2 g hg
def tB (tx:List ByteArray):List Int:=(tx.map fun s=>num s.size++byts s).flatten
def fB (fu:List Cf):List Int:=(fu.map fun f=>num f.len.toNat++(num f.sl.toNat++num f.cp.toNat)).flatten
def iB (is:List Is):List Int:=(is.map insW).flatten
def encB (c:Cd):List Int:=[199]++(num c.gl.toNat++(num c.ys.toNat++(num c.no.toNat++(num c.tx.length++(tB c.tx++(num c.fu.length++(fB c.fu++(num c.is.length++(iB c.is++[])))))))))
structure WCd (c:Cd):Prop where
 lim:c.Lim
 gl:0≤c.gl
 ys:0≤c.ys
 no:0≤c.no
 tx:∀ s∈c.tx,s.size≤1048576
 fu:∀ f∈c.fu,0≤f.len∧0≤f.sl∧0≤f.cp
 is:∀ i∈c.is,WIns i
theorem right_wcd {c:Cd} (h:RightP c) (hl:c.Lim):WCd c:=by
 obtain ⟨⟨_,_,_,_,h1,h2,h3,_⟩,h4,h5⟩:=h
 have hli:∀ i∈c.is,i.Lim:=by
  obtain ⟨is,fu,tx,gl,ys,no⟩:=c
  exact hl.1.2
 obtain ⟨k1,k2⟩:=funsP_all hli _ _ h5
 exact ⟨hl,h1.1,h2.1,h3.1,h4,k2,by simpa using k1⟩
theorem tB_drop {tx:List ByteArray} {k:Nat} {s:ByteArray} (h:tx[k]?=some s):tB (tx.drop k)=num s.size++(byts s++tB (tx.drop (k+1))):=by
 rw [List.drop_eq_getElem_cons (get_lt h)]
 rw [List.getElem?_eq_getElem (get_lt h)] at h
 rw [Option.some.inj h]
 show (num s.size++byts s)++tB (tx.drop (k+1))=_
 rw [List.append_assoc]
theorem fB_drop {fu:List Cf} {k:Nat} {f:Cf} (h:fu[k]?=some f):fB (fu.drop k)=num f.len.toNat++(num f.sl.toNat++(num f.cp.toNat++fB (fu.drop (k+1)))):=by
 rw [List.drop_eq_getElem_cons (get_lt h)]
 rw [List.getElem?_eq_getElem (get_lt h)] at h
 rw [Option.some.inj h]
 show (num f.len.toNat++(num f.sl.toNat++num f.cp.toNat))++fB (fu.drop (k+1))=_
 rw [List.append_assoc,List.append_assoc]
theorem iB_drop {is:List Is} {k:Nat} {i:Is} (h:is[k]?=some i):iB (is.drop k)=insW i++iB (is.drop (k+1)):=by
 rw [List.drop_eq_getElem_cons (get_lt h)]
 rw [List.getElem?_eq_getElem (get_lt h)] at h
 rw [Option.some.inj h]
 rfl
def EncP (c:Cd) (v:AV):Prop:=(RightP c∧v=.tup [.seq 1 (bts (encB c)),.val (.int .i64 0)])∨(¬ RightP c∧v=.tup [.seq 1 [],.val (.int .i64 160)])
theorem Encode_c (c:Cd) (hL:c.Lim) (hb:RightP c→(encB c).length≤1000000000):ACall Try.prog 11 [.agg c.cells] [] (fun v M'=>EncP c v∧M'=[]):=by
 have HR:=Right_c c hL
 have HW:RightP c→WCd c:=fun h=>right_wcd h hL
 obtain ⟨tot,htot⟩:∃ tot,encB c=tot:=⟨_,rfl⟩
 have I0:=htot
 unfold encB at I0
 obtain ⟨is,fu,tx,gl,ys,no⟩:=c
 simp only [Cd.is,Cd.fu,Cd.tx,Cd.gl,Cd.ys,Cd.no] at I0
 have hli:=Is.cellss_len is
 have hlf:=Cf.cellss_len fu
 have hlt:=strs_len tx
 obtain ⟨L1,L2,L3,L4,L5,L6⟩:=hL
 refine Zc Try.func11 V (by kernel_rfl) V (Yj V) ?_
 refine Qj ?_
 refine Qbe ?_
 refine QC ?_
 refine Qp ?_
 refine Qh ?_
 refine QbN ?_
 refine Zb 12 V V V (Zs (xs:=[.tmp 11]) V V (HR) by0 ?_);intro c12 h12
 refine Qak ?_;intro c13 h13
 try replace h13:=nott h13 h12
 refine Qb ?_
 obtain ⟨rfl,g13⟩|⟨rfl,g13⟩:=Za h13
 ·refine QF ?_
  have hR:=Classical.not_not.1 g13
  have ht:=hb hR
  rw [htot] at ht
  obtain ⟨_,w1,w2,w3,w4,w5,w6⟩:=HW hR
  simp only [Cd.is,Cd.fu,Cd.tx,Cd.gl,Cd.ys,Cd.no] at w1 w2 w3 w4 w5 w6
  refine Qg ?_
  refine Qc7 ?_;intro u14
  refine Qc8 ?_
  refine Zb 16 V V V (op_boxe (cs':=[_]) V V V V ?_);intro b16
  refine Q1 ?_
  refine Qn ?_
  refine Zb 20 V V V (Zj (xs:=[.tmp 17,.tmp 19])  [] V V V (step_w (b:=b16) (intZ_w gl w1 L4) ⟨u14,V⟩ I0 ht) (Yg _) (fun v20 M20 h20=>?_))
  refine Qf ?_
  obtain ⟨W1,I1⟩:=h20
  refine QH ?_
  refine Zb 24 V V V (Zj (xs:=[.tmp 21,.tmp 23])  [] V V V (step_w (intZ_w ys w2 L5) W1 I1 ht) (Yg _) (fun v24 M24 h24=>?_))
  refine Qf ?_
  obtain ⟨W2,I2⟩:=h24
  refine QH ?_
  refine Zb 28 V V V (Zj (xs:=[.tmp 25,.tmp 27])  [] V V V (step_w (intZ_w no w3 L6) W2 I2 ht) (Yg _) (fun v28 M28 h28=>?_))
  refine Qf ?_
  obtain ⟨W3,I3⟩:=h28
  refine QH ?_
  refine Qax ?_;intro n32
  refine Zb 33 V V V (Zj (xs:=[.tmp 29,.tmp 32])  [] V V V (step_w (int_w (strs tx).length by10) W3 (by rw [hlt];exact I3) ht) (Yg _) (fun v33 M33 h33=>?_))
  refine QaR ?_
  obtain ⟨W4,I4⟩:=h33
  refine Qa3 ?_
  refine Qax ?_;intro n36
  refine QG ?_
  apply c_loopk (rg [(0,1),(5,3),(9,1),(11,24),(37,18),(59,1),(70,1),(74,1),(78,1),(84,1),(94,1)]) (σ:=Nat × List Int × Mem) (fun zz=>match zz with|(k,pre,M)=>[(37,.val (.int .i64 k))]) (fun zz=>match zz with|(k,pre,M)=>M) (fun zz=>match zz with|(k,pre,M)=>k≤tx.length∧WM b16 pre M∧pre++(tB (tx.drop k)++(num fu.length++(fB fu++(num is.length++(iB is++[])))))=tot) (fun zz=>match zz with|(k,pre,M)=>tx.length - k) ((0,_,M33))
  ·repeat' (first|exact Ym|apply Yk rfl|apply Yl rfl)
  ·exact ⟨Nat.zero_le _,W4,I4⟩
  ·exact by2
  ·exact by1
  rintro ⟨k,pre,M⟩ hI
  try dsimp only [List.cons_append,List.nil_append] at hI ⊢
  obtain ⟨hk,W5,I5⟩:=hI
  refine Qy ?_;intro c38 h38
  refine Qf ?_
  obtain ⟨rfl,g38⟩|⟨rfl,g38⟩:=Za h38
  ·refine Q2 ?_
   rw [List.drop_eq_nil_of_le by10] at I5
   have I7:pre++(num fu.length++(fB fu++(num is.length++(iB is++[]))))=tot:=I5
   refine QH ?_
   refine QaY ?_;intro n58
   refine Zb 59 V V V (Zj (xs:=[.tmp 55,.tmp 58])  [] V V V (step_w (int_w (Cf.cellss fu).length by10) W5 (by rw [hlf];exact I7) ht) (Yg _) (fun v59 M59 h59=>?_))
   refine QaR ?_
   obtain ⟨W6,I8⟩:=h59
   refine Qa3 ?_
   refine QaY ?_;intro n62
   refine QG ?_
   apply c_loopk (rg [(0,1),(5,5),(11,50),(63,17),(84,1),(94,1)]) (σ:=Nat × List Int × Mem) (fun zz=>match zz with|(k2,pre2,M2)=>[(63,.val (.int .i64 k2))]) (fun zz=>match zz with|(k2,pre2,M2)=>M2) (fun zz=>match zz with|(k2,pre2,M2)=>k2≤fu.length∧WM b16 pre2 M2∧pre2++(fB (fu.drop k2)++(num is.length++(iB is++[])))=tot) (fun zz=>match zz with|(k2,pre2,M2)=>fu.length - k2) ((0,_,M59))
   ·repeat' (first|exact Ym|apply Yk rfl|apply Yl rfl)
   ·exact ⟨Nat.zero_le _,W6,I8⟩
   ·exact by2
   ·exact by1
   rintro ⟨k2,pre2,M2⟩ hI
   try dsimp only [List.cons_append,List.nil_append] at hI ⊢
   obtain ⟨hk2,W7,I9⟩:=hI
   refine Qy ?_;intro c64 h64
   refine Qf ?_
   obtain ⟨rfl,g64⟩|⟨rfl,g64⟩:=Za h64
   ·refine Q2 ?_
    rw [List.drop_eq_nil_of_le by10] at I9
    have I12:pre2++(num is.length++(iB is++[]))=tot:=I9
    refine QH ?_
    refine QaG ?_;intro n83
    refine Zb 84 V V V (Zj (xs:=[.tmp 80,.tmp 83])  [] V V V (step_w (int_w (Is.cellss is).length by10) W7 (by rw [hli];exact I12) ht) (Yg _) (fun v84 M84 h84=>?_))
    refine QaR ?_
    obtain ⟨W10,I13⟩:=h84
    refine Qa3 ?_
    refine QaG ?_;intro n87
    refine QG ?_
    apply c_loopk (rg [(0,2),(5,81),(88,8)]) (σ:=Nat × List Int × Mem) (fun zz=>match zz with|(k3,pre3,M3)=>[(88,.val (.int .i64 k3))]) (fun zz=>match zz with|(k3,pre3,M3)=>M3) (fun zz=>match zz with|(k3,pre3,M3)=>k3≤is.length∧WM b16 pre3 M3∧pre3++(iB (is.drop k3)++[])=tot) (fun zz=>match zz with|(k3,pre3,M3)=>is.length - k3) ((0,_,M84))
    ·repeat' (first|exact Ym|apply Yk rfl|apply Yl rfl)
    ·exact ⟨Nat.zero_le _,W10,I13⟩
    ·exact by2
    ·exact by1
    rintro ⟨k3,pre3,M3⟩ hI
    try dsimp only [List.cons_append,List.nil_append] at hI ⊢
    obtain ⟨hk3,W11,I14⟩:=hI
    refine Qy ?_;intro c89 h89
    refine Qf ?_
    obtain ⟨rfl,g89⟩|⟨rfl,g89⟩:=Za h89
    ·refine Q2 ?_
     rw [List.drop_eq_nil_of_le by10] at I14
     have I15:pre3=tot:=by rw [← I14];show pre3=pre3++[];rw [List.append_nil]
     obtain ⟨u9,rfl⟩:=W11
     subst I15
     refine Qt ?_
     refine Qa6 ?_
     refine QC ?_
     refine Qi ?_
     exact out_tt (v':=.tup [.seq 1 (bts (encB (Cd.mk is fu tx gl ys no))),.val (.int .i64 0)]) V V V (by rw [htot];exact (by repeat' (first|exact Yf _|exact Le.own _ _ _|exact Le.nil _|refine Le.agg ?_|refine Le.tup ?_|exact Yg _|refine Yh ?_ ?_))) by1 ⟨.inl ⟨hR,V⟩,V⟩
    refine Qw ?_
    obtain ⟨i,hi⟩:=Zm (l:=is) (i:=k3) by10
    have hci:=Is.cellss_get hi
    have hwi:=(w6 i (Yn hi)).toWOk
    have HI:=ins_w i hwi
    rw [iB_drop hi,List.append_assoc] at I14
    obtain ⟨o1,o2,o3,o4,o5,o6,o7⟩:=i
    simp only [Is.cells] at hci HI
    refine Qg ?_
    refine Zb 90 V V V (Zo V te_22 V (.seq _ _) V V (hci) ?_)
    refine Qbm ?_
    refine Qbo ?_;intro b10
    refine QbA ?_
    refine Qb ?_
    refine Qt ?_
    refine Qcc ?_
    refine Zb 94 V V V (Zj (xs:=[.tmp 92,.tmp 93])  [.loc b10 _] V V V (step_w HI W11 I14 ht) (Yg _) (fun v94 M94 h94=>?_))
    refine Qa7 ?_
    exact ⟨(k3+1,_,M94),⟨by show k3+1≤is.length;omega,h94⟩,by show is.length - (k3+1)<is.length - k3;omega,by2,(MLe.drop _ (Yd _))⟩
   refine Qw ?_
   obtain ⟨⟨f1,f2,f3⟩,hf⟩:=Zm (l:=fu) (i:=k2) by10
   have hcf:=Cf.cellss_get hf
   simp only [Cf.cells] at hcf
   obtain ⟨n1,n2,n3⟩:=w5 _ (Yn hf)
   obtain ⟨m1,m2,m3⟩:=L2.2 _ (Yn hf)
   rw [fB_drop hf,List.append_assoc,List.append_assoc,List.append_assoc] at I9
   simp only [Cf.len,Cf.sl,Cf.cp] at n1 n2 n3 I9
   refine Qg ?_
   refine Zb 65 V V V (Zo V te_23 V (.seq _ _) V V (hcf) ?_)
   refine Qcv ?_
   refine Qcw ?_;intro b8
   refine Qcx ?_
   refine Qa5 ?_
   refine Qs ?_
   refine Zb 70 V V V (Zj (xs:=[.tmp 67,.tmp 69])  [.loc b8 _] V V V (step_w (intZ_w f1 n1 m1) W7 I9 ht) (Yg _) (fun v70 M70 h70=>?_))
   refine Qf ?_
   obtain ⟨W8,I10⟩:=h70
   refine Qt ?_
   refine Qs ?_
   refine Zb 74 V V V (Zj (xs:=[.tmp 71,.tmp 73])  [.loc b8 _] V V V (step_w (intZ_w f2 n2 m2) W8 I10 ht) (Yg _) (fun v74 M74 h74=>?_))
   refine Qb ?_
   obtain ⟨W9,I11⟩:=h74
   refine Qt ?_
   refine Qs ?_
   refine Zb 78 V V V (Zj (xs:=[.tmp 75,.tmp 77])  [.loc b8 _] V V V (step_w (intZ_w f3 n3 m3) W9 I11 ht) (Yg _) (fun v78 M78 h78=>?_))
   refine Qa7 ?_
   exact ⟨(k2+1,_,M78),⟨by show k2+1≤fu.length;omega,h78⟩,by show fu.length - (k2+1)<fu.length - k2;omega,by2,(MLe.drop _ (Yd _))⟩
  refine Qw ?_
  obtain ⟨s,hs⟩:=Zm (l:=tx) (i:=k) by10
  have hcs:=strs_get hs
  have hsz:=w4 s (Yn hs)
  rw [tB_drop hs,List.append_assoc,List.append_assoc] at I5
  refine Qg ?_
  refine Zb 39 V V V (Zo V te_24 V (.seq _ _) V V (hcs) ?_)
  refine Q9 ?_
  refine Q1 ?_
  refine Qa ?_
  refine QbW ?_
  refine Zb 44 V V V (Zj (xs:=[.tmp 41,.tmp 43])  [] V V V (step_w (int_w s.size by10) W5 I5 ht) (Yg _) (fun v44 M44 h44=>?_))
  refine Qb ?_
  obtain ⟨⟨u12,rfl⟩,I6⟩:=h44
  have hbl:=bts_len (pre++num s.size)
  have hpl:=congrArg List.length I6
  rw [List.length_append] at hpl
  refine Qag ?_
  refine Qa6 ?_
  refine Qa ?_
  refine Zb 51 V V V (op_append_str (i:=1) el_31 tu_9 V V V V by4 ?_)
  intro u51
  refine QaF ?_
  refine QN ?_
  refine Qci ?_
  refine Qa7 ?_
  exact ⟨(k+1,(pre++num s.size)++byts s,_),⟨by show k+1≤tx.length;omega,⟨u51,V⟩,by rw [List.append_assoc];exact I6⟩,by show tx.length - (k+1)<tx.length - k;omega,by2,MLe.loc _ (Yh (Le.own_eq (bts_app _ _).symm) (Yg _)) (Yd _)⟩
 refine Qz ?_
 refine Qh ?_
 refine QC ?_
 refine Qi ?_
 exact out_tt V V V (by repeat' (first|exact Yf _|exact Le.own _ _ _|exact Le.nil _|refine Le.agg ?_|refine Le.tup ?_|exact Yg _|refine Yh ?_ ?_)) by1 ⟨.inr ⟨by assumption,V⟩,V⟩
end Go.Proofs.Ytadhakcmfkghbaa
