/- Parts of a proof: the document's declarations: classes; The logic of trees, part 20: regions whose order is drawn, and in which a new variable is made at no told place: it may be made at any time.; the document's declarations: head, ctx, instance; the document's declarations: instance; the document's declarations: given, supers; the document's check of declarations; what is parsed is not too much; the program's declarations: IndexFunc, find, Class, Inst; entail.same, fits; the program's declarations: Class, Inst, Above; entail.same, fits; core: Right; decls.Arity, core.Right; core.Right; Codes and primitives as plain data (printed by wip/gend29.py).; core: the type of an expression, as a plain function: what the program answers; core: find, with, mono; turn, Put of the program: types bounded node by node; core.typ: right types; walk, and what goes along with it: Vars, Metas, Size; prelude.rows, prelude.Prims (printed by wip/gen19.py).; prelude.Prims; core.start, core.Type; awake of layer 21; core: bounds: how deep types grow, how long scopes; core: unlike, all of texts, allow, put, is, of; core: put, is, of -/
import Derived.Test.YteepjjgooplljaaGreatKLZMore3
set_option maxRecDepth 100000
set_option maxHeartbeats 4000000
namespace Go.Proofs.YteepjjgooplljaaGreat
open Go.RowKit
mutual
theorem hasVar_iff:∀ t:Ty,hasVar t=true↔∃ x∈t.all,x.kind=1
 | .mk k s n ks=>by
  rw [hasVar,Ty.all]
  by_cases h:k=1
  ·rw [if_pos h]
   exact ⟨fun _=>⟨_,List.mem_cons_self,h⟩,fun _=>U⟩
  rw [if_neg h,hasVars_iff ks]
  constructor
  ·rintro ⟨x,hx,hk⟩;exact ⟨x,List.mem_cons_of_mem _ hx,hk⟩
  rintro ⟨x,hx,hk⟩
  rcases List.mem_cons.1 hx with q|q
  ·subst q;exact absurd hk h
  exact ⟨x,q,hk⟩
theorem hasVars_iff:∀ ts:List Ty,hasVars ts=true↔∃ x∈Ty.alls ts,x.kind=1
 | []=>by simp [hasVars,Ty.alls]
 | t::ts=>by
  rw [hasVars,Ty.alls]
  by_cases h:hasVar t=true
  ·rw [if_pos h]
   obtain ⟨x,hx,hk⟩:=(hasVar_iff t).1 h
   exact ⟨fun _=>⟨x,List.mem_append_left _ hx,hk⟩,fun _=>U⟩
  rw [if_neg h,hasVars_iff ts]
  constructor
  ·rintro ⟨x,hx,hk⟩;exact ⟨x,List.mem_append_right _ hx,hk⟩
  rintro ⟨x,hx,hk⟩
  rcases List.mem_append.1 hx with q|q
  ·exact absurd ((hasVar_iff t).2 ⟨x,q,hk⟩) h
  exact ⟨x,q,hk⟩
end
theorem vars_none (t:Ty):t.vars.length=0↔hasVar t=false:=by
 have h1:=hasVar_iff t
 constructor
 ·intro h
  cases q:hasVar t with
  | false=>rfl
  | true =>
   obtain ⟨x,hx,hk⟩:=h1.1 q
   have:=(mem_foldVar x.name t.all []).2 (Or.inr ⟨x,hx,hk,rfl⟩)
   have h2:t.vars=[]:=List.eq_nil_of_length_eq_zero h
   unfold Ty.vars at h2
   rw [h2] at this;simp at this
 intro h
 cases hv:t.vars with
 | nil=>rfl
 | cons s l =>
  exfalso
  have hs:s∈t.all.foldl addVar []:=by
   have:s∈t.vars:=by rw [hv];simp
   exact this
  rcases (mem_foldVar s t.all []).1 hs with q|⟨x,hx,hk,_⟩
  ·simp at q
  rw [h1.2 ⟨x,hx,hk⟩] at h;simp at h
abbrev zF:List AV:=[.val (.int .i64 0),.val (.int .i64 0)]
theorem classes_c (v:En) (hv:EnB v):PCall Tryz.prog 62 [.agg v.cells] (faultA (classesR v)):=by
 have HR:=fun vars t=>Right_c v vars _ t (Nat.le_refl _)
 have HAb:=fun c=>(Above_c v hv.sup c).pure
 obtain ⟨r,hr⟩:∃ r,classesR v=r:=⟨_,rfl⟩
 rw [hr]
 obtain ⟨_,_,hcl,hcs,_,_⟩:=hv
 obtain ⟨da,cl,ins⟩:=v
 simp only [En.cl] at hcl hcs
 have hr:(if (classes1 [] cl).1≠0 then classes1 [] cl else if (classes2 (cl.map Cl.s) cl).1≠0 then classes2 (cl.map Cl.s) cl else if (classes3 (En.mk da cl ins) cl).1≠0 then classes3 (En.mk da cl ins) cl else classes4 (En.mk da cl ins) cl [])=r:=hr
 simp only [En.cells] at HR HAb ⊢
 have hl:=Cl.cellss_len cl
 obtain ⟨r1,hr1⟩:∃ r,classes1 [] cl=r:=⟨_,rfl⟩
 obtain ⟨r2,hr2⟩:∃ r,classes2 (cl.map Cl.s) cl=r:=⟨_,rfl⟩
 obtain ⟨r3,hr3⟩:∃ r,classes3 (En.mk da cl ins) cl=r:=⟨_,rfl⟩
 rw [hr1,hr2,hr3] at hr
 refine Zc Tryz.func62 U (by kernel_rfl) U (Wc U) ?_
 refine Qar ?_
 refine Qd0 ?_;intro b2
 refine Qu ?_
 refine Qae ?_
 refine c_le (al':=[(1,.cptr [.seq 5 (Da.cellss da),.seq 6 (Cl.cellss cl),.seq 8 (In.cellss ins)]),(2,.ptr b2 0),(3,.val (.slice none 0 0)),(4,.val (.int .i64 0))]) by5 (Xo _) ?_
 refine Qcs ?_
 apply Yl (rg [(0,1),(3,2),(16,31)]) (σ:=Nat × List ByteArray × Value) (fun zz=>match zz with|(i,met,u)=>[(3,.own u 1 (strs met)),(4,.val (.int .i64 i))]) (fun zz=>match zz with|(i,met,u)=>[.loc b2 zF,.own 9 1 u]) (fun zz=>match zz with|(i,met,u)=>i≤cl.length∧classes1 met (cl.drop i)=r1∧met=(cl.take i).map Cl.s) (fun zz=>match zz with|(i,met,u)=>cl.length - i) ((0,[],.slice none 0 0))
 ·repeat' (first|exact Wf|apply Wd rfl|apply We rfl)
 ·exact ⟨Nat.zero_le _,hr1,U⟩
 ·exact Xy U (Le.nilOwn 1) (Xy U (Xu _) (Xz _))
 ·exact (Xt U)
 rintro ⟨i,met,u⟩ hI
 try dsimp only [List.cons_append,List.nil_append] at hI ⊢
 obtain ⟨h1,hu,hm⟩:=hI
 have hle:(strs met).length≤100000:=by rw [Ya,hm,List.length_map,List.length_take];omega
 refine Qav ?_
 refine QdZ ?_;intro n19
 refine Qg ?_;intro c20 h20
 refine Qa ?_
 obtain ⟨rfl,g20⟩|⟨rfl,g20⟩:=Za h20
 ·refine Qbs ?_
  rw [Wh by17,classes1] at hu
  rw [← hu,if_neg (by simp [f0])] at hr
  rw [List.take_of_length_le by17] at hm
  rw [← hm] at hr2
  refine QaN ?_
  refine c_le (al':=[(1,.cptr [.seq 5 (Da.cellss da),.seq 6 (Cl.cellss cl),.seq 8 (In.cellss ins)]),(2,.ptr b2 0),(3,.seq 1 (strs met)),(5,.val (.int .i64 0))]) by5 (Xo _) ?_
  apply Zu (rg [(0,1),(4,4),(16,74)]) (σ:=Nat) (fun zz=>match zz with|i2=>[(5,.val (.int .i64 i2))]) (fun zz=>match zz with|i2=>i2≤cl.length∧classes2 met (cl.drop i2)=r2) (fun zz=>match zz with|i2=>cl.length - i2) (0)
  ·repeat' (first|exact Wf|apply Wd rfl|apply We rfl)
  ·exact ⟨Nat.zero_le _,hr2⟩
  ·exact by5
  rintro i2 hI
  try dsimp only [List.cons_append,List.nil_append] at hI ⊢
  obtain ⟨j1,hw⟩:=hI
  refine Qav ?_
  refine QdZ ?_;intro n50
  refine Qg ?_;intro c51 h51
  refine Qa ?_
  obtain ⟨rfl,g51⟩|⟨rfl,g51⟩:=Za h51
  ·refine Qbs ?_
   rw [Wh by17,classes2] at hw
   rw [← hw,if_neg (by simp [f0])] at hr
   refine QaN ?_
   refine c_le (al':=[(1,.cptr [.seq 5 (Da.cellss da),.seq 6 (Cl.cellss cl),.seq 8 (In.cellss ins)]),(2,.ptr b2 0),(8,.val (.int .i64 0))]) by5 (Xo _) ?_
   apply Zu (rg [(0,1),(3,6),(16,69),(86,33)]) (σ:=Nat) (fun zz=>match zz with|i3=>[(8,.val (.int .i64 i3))]) (fun zz=>match zz with|i3=>i3≤cl.length∧classes3 (En.mk da cl ins) (cl.drop i3)=r3) (fun zz=>match zz with|i3=>cl.length - i3) (0)
   ·repeat' (first|exact Wf|apply Wd rfl|apply We rfl)
   ·exact ⟨Nat.zero_le _,hr3⟩
   ·exact by5
   rintro i3 hI
   try dsimp only [List.cons_append,List.nil_append] at hI ⊢
   obtain ⟨k1,ht⟩:=hI
   refine Qav ?_
   refine QdZ ?_;intro n93
   refine Qg ?_;intro c94 h94
   refine Qa ?_
   obtain ⟨rfl,g94⟩|⟨rfl,g94⟩:=Za h94
   ·refine Qag ?_
    rw [Wh by17,classes3] at ht
    rw [← ht,if_neg (by simp [f0])] at hr
    refine Qi ?_
    refine Qae ?_
    refine c_le (al':=[(1,.cptr [.seq 5 (Da.cellss da),.seq 6 (Cl.cellss cl),.seq 8 (In.cellss ins)]),(2,.ptr b2 0),(9,.val (.slice none 0 0)),(10,.val (.int .i64 0))]) by5 (M':=[.loc b2 zF]) (Xq _ (Xp _)) ?_
    refine Qcs ?_
    apply Yl (rg [(0,1),(3,82),(86,99)]) (σ:=Nat × List ByteArray × Value) (fun zz=>match zz with|(i4,kn,w)=>[(9,.own w 1 (strs kn)),(10,.val (.int .i64 i4))]) (fun zz=>match zz with|(i4,kn,w)=>[.loc b2 zF,.own 9 1 w]) (fun zz=>match zz with|(i4,kn,w)=>i4≤cl.length∧classes4 (En.mk da cl ins) (cl.drop i4) kn=r∧kn.length≤100000 * i4) (fun zz=>match zz with|(i4,kn,w)=>cl.length - i4) ((0,[],.slice none 0 0))
    ·repeat' (first|exact Wf|apply Wd rfl|apply We rfl)
    ·exact ⟨Nat.zero_le _,hr,Nat.zero_le _⟩
    ·exact Xy U (Le.nilOwn 1) (Xy U (Xu _) (Xz _))
    ·exact (Xt U)
    rintro ⟨i4,kn,w⟩ hI
    try dsimp only [List.cons_append,List.nil_append] at hI ⊢
    obtain ⟨a1,ha,a3⟩:=hI
    refine Qav ?_
    refine QdZ ?_;intro n122
    refine Qg ?_;intro c123 h123
    refine Qa ?_
    obtain ⟨rfl,g123⟩|⟨rfl,g123⟩:=Za h123
    ·refine Qa3 ?_
     refine Qev ?_
     refine Qb6 ?_
     refine Qr ?_
     rw [Wh by17,classes4] at ha;subst ha;exact Zk (i:=0) rfl rfl rfl Xf rfl (Xu _) (Xp _) ⟨rfl,rfl⟩
    refine Qk ?_
    obtain ⟨⟨xs,xv,xsu,xms,xds,xp⟩,hxx⟩:=Zj (l:=cl) (i:=i4) by8
    have hcx:=Cl.cellss_get hxx
    have hmx:=Wg hxx
    rw [Zz hxx,classes4] at ha
    obtain ⟨_,hms,hds,hmt⟩:=hcs _ hmx
    have hms:xms.length≤100000:=hms
    have hds:xds.length≤100000:=hds
    have hmt:∀ m∈xms,m.t.size≤1000000:=hmt
    have HB:=binds_c xds (Cl.mk xs xv xsu xms xds xp) by17 (show xms.length≤1000000 by omega)
    have HB:PCall Tryz.prog 109 [.seq 13 (Bi.cellss xds),.agg (Cl.mk xs xv xsu xms xds xp).cells] (faultA (bndR (xms.map Me.s) [] xds)):=HB
    have ha:(if (methR (En.mk da cl ins) xv xms kn).1.1≠0 then (methR (En.mk da cl ins) xv xms kn).1 else if (bndR (xms.map Me.s) [] xds).1≠0 then bndR (xms.map Me.s) [] xds else classes4 (En.mk da cl ins) (cl.drop (i4+1)) (methR (En.mk da cl ins) xv xms kn).2)=r:=ha
    obtain ⟨⟨mf,mk⟩,hmr⟩:∃ b,methR (En.mk da cl ins) xv xms kn=b:=⟨_,rfl⟩
    rw [hmr] at ha
    obtain ⟨⟨fe,fa⟩,hbr⟩:∃ b,bndR (xms.map Me.s) [] xds=b:=⟨_,rfl⟩
    rw [hbr] at ha HB
    simp only [] at ha
    simp only [faultA,Cl.cells] at HB
    have hlm:=Me.cellss_len xms
    refine Qa5 ?_
    refine QdK ?_
    refine Qew ?_
    refine QeM ?_;intro b11
    refine Qfv ?_
    refine Qa8 ?_
    refine Qab ?_
    refine c_le (al':=[(1,.cptr [.seq 5 (Da.cellss da),.seq 6 (Cl.cellss cl),.seq 8 (In.cellss ins)]),(2,.ptr b2 0),(9,.own w 1 (strs kn)),(10,.val (.int .i64 i4)),(11,.ptr b11 0),(12,.val (.int .i64 0))]) by5 (Xo _) ?_
    apply Yl (rg [(0,1),(3,7),(12,3),(16,69),(86,33),(131,46)]) (σ:=Nat × List ByteArray × Value) (fun zz=>match zz with|(k,m,w2)=>[(9,.own w2 1 (strs m)),(12,.val (.int .i64 k))]) (fun zz=>match zz with|(k,m,w2)=>[.loc b11 [.val (.string xs),.val (.string xv),.seq 1 (strs xsu),.seq 6 (Me.cellss xms),.seq 13 (Bi.cellss xds),.val (.int .i64 xp)],.loc b2 zF,.own 9 1 w2]) (fun zz=>match zz with|(k,m,w2)=>k≤xms.length∧methR (En.mk da cl ins) xv (xms.drop k) m=(mf,mk)∧m.length≤100000 * i4+k) (fun zz=>match zz with|(k,m,w2)=>xms.length - k) ((0,kn,w))
    ·repeat' (first|exact Wf|apply Wd rfl|apply We rfl)
    ·exact ⟨Nat.zero_le _,hmr,by show kn.length≤100000 * i4+0;omega⟩
    ·exact by5
    ·exact (Xt U)
    rintro ⟨k,m,w2⟩ hI
    try dsimp only [List.cons_append,List.nil_append] at hI ⊢
    obtain ⟨b1,hb,b3⟩:=hI
    have hle:(strs m).length≤20000000000:=by rw [Ya];omega
    refine QS ?_
    refine Qn ?_
    refine Qes ?_;intro n134
    refine Qg ?_;intro c135 h135
    refine Qa ?_
    obtain ⟨rfl,g135⟩|⟨rfl,g135⟩:=Za h135
    ·refine Qag ?_
     rw [Wh by17,methR] at hb
     cases hb
     rw [if_neg (by simp [f0])] at ha
     refine Qi ?_
     refine Qn ?_
     refine Zb 179 U U U (Zs (cs':=[_,_,_,_,_,_]) (i:=0) U ta_118 U U U U (Zb 180 U U U (Zd (xs:=[.tmp 178,.tmp 179]) U U (HB) by2 ?_)))
     refine Qd0 ?_;intro b15
     refine Qb6 ?_
     refine Qbw ?_
     refine QP ?_;intro c183 h183
     refine Qa ?_
     obtain ⟨rfl,g183⟩|⟨rfl,g183⟩:=Za h183
     ·refine QL ?_
      rw [if_neg g183] at ha;exact ⟨(i4+1,mk,w2),⟨by show i4+1≤cl.length;omega,ha,by show mk.length≤100000 * (i4+1);omega⟩,by show cl.length - (i4+1)<cl.length - i4;omega,by5,(Xr _ (Xr _ (Xt rfl)))⟩
     refine Qq ?_
     refine QeN ?_
     refine Qcf ?_
     rw [if_pos g183] at ha;subst ha;exact Zk (i:=2) rfl rfl rfl Xf rfl (Xu _) (Xp _) ⟨rfl,rfl⟩
    refine Qk ?_
    obtain ⟨⟨ys,⟨ytk,yts,ytn,ytl⟩,yp⟩,hxy⟩:=Zj (l:=xms) (i:=k) by8
    have hcy:=Me.cellss_get hxy
    have hmy:=Wg hxy
    rw [Zz hxy,methR] at hb
    have hsz:(Ty.mk ytk yts ytn ytl).size≤1000000:=hmt _ hmy
    have hb:(if hasB m ys=true then (((120:Int),yp),m) else if methE (En.mk da cl ins) xv (Ty.mk ytk yts ytn ytl)≠0 then ((methE (En.mk da cl ins) xv (Ty.mk ytk yts ytn ytl),yp),m++[ys]) else methR (En.mk da cl ins) xv (xms.drop (k+1)) (m++[ys]))=(mf,mk):=hb
    have HRt:=HR [xv] (Ty.mk ytk yts ytn ytl)
    have HVs:=(rVars_c (Ty.mk ytk yts ytn ytl) hsz).pure
    have hvn:=vars_none (Ty.mk ytk yts ytn ytl)
    obtain ⟨me,hme⟩:∃ e,methE (En.mk da cl ins) xv (Ty.mk ytk yts ytn ytl)=e:=⟨_,rfl⟩
    rw [hme] at hb
    unfold methE at hme
    obtain ⟨e,he⟩:∃ e,rightR (En.mk da cl ins) [xv] (Ty.mk ytk yts ytn ytl)=e:=⟨_,rfl⟩
    rw [he] at HRt hme
    obtain ⟨vs,hvs⟩:∃ l,(Ty.mk ytk yts ytn ytl).vars=l:=⟨_,rfl⟩
    rw [hvs] at HVs hvn
    have hlv:=Ya vs
    simp only [Ty.cells] at HRt HVs
    simp only [Me.cells,Ty.cells,List.cons_append,List.nil_append] at hcy
    refine Qi ?_
    refine Qn ?_
    refine Qb ?_
    refine Zb 141 U U U (Zh U te_116 U (.seq _ _) U U (hcy) ?_)
    refine Qgp ?_
    refine Qgq ?_;intro b13
    refine Qgr ?_
    refine QaB ?_
    refine Qn ?_
    refine Zb 146 U U U (Zg (xs:=[.tmp 143,.tmp 145]) U U (Has_c m ys) by2 ?_);intro c146 h146
    refine Qa ?_
    obtain ⟨rfl,g146⟩|⟨rfl,g146⟩:=Za h146
    ·refine Qp ?_
     rw [if_neg (by rw [hasB_no g146];simp)] at hb
     refine Qh ?_
     refine Qn ?_
     refine Zb 153 U U U (Zf (xs:=[.tmp 152]) Yy U U U U U U (Wc U) ?_)
     refine Qgn ?_
     intro u154
     refine Qdw ?_
     refine Qao ?_
     refine Zb 158 U U U (Zf (xs:=[.tmp 157]) Yy U U U U U U (Wc U) ?_)
     refine Qt ?_
     refine Q9 ?_
     refine Zb 161 U U U (Zd (xs:=[.tmp 155,.tmp 158,.tmp 160]) U U (HRt) by2 ?_)
     refine Q1 ?_
     refine Zw 170 (e=0∧vs.length=0) ?_ _ _ U ?_
     ·skip
      refine Qb ?_
      refine Qz ?_;intro c163 h163
      refine Qb ?_
      obtain ⟨rfl,g163⟩|⟨rfl,g163⟩:=Za h163
      ·skip
       refine QaH ?_
       refine Wa U ?_ by6 by4
       clear HRt HVs HR HAb HB;first|(simp_all;done)|(simp_all;omega)|grind
      skip
      refine Qba ?_
      refine Qfw ?_
      refine Zo 167 U U U U U (Zd (xs:=[.tmp 166]) U U (HVs) by2 ?_)
      refine Qfx ?_;intro n168
      refine Qak ?_;intro c169 h169
      refine Qm ?_
      refine Wa U ?_ by6 by4
      clear HRt HVs HR HAb HB;first|(simp_all;done)|(simp_all;omega)|grind
     intro c170 h170
     refine Qc ?_
     refine c_le (al':=[(1,.cptr [.seq 5 (Da.cellss da),.seq 6 (Cl.cellss cl),.seq 8 (In.cellss ins)]),(2,.ptr b2 0),(9,.own u154 1 (strs (m++[ys]))),(10,.val (.int .i64 i4)),(11,.ptr b11 0),(12,.val (.int .i64 k)),(13,.ptr b13 0),(14,.val (.int .i64 e)),(170,.val (.bool c170))]) (Xy U (Xu _) (Xy U (Xu _) (Xy U (Wb (by rw [Xm];rfl)) by5))) (Xo _) ?_
     apply c_joinkm (rg [(0,1),(3,6),(14,1),(16,69),(86,33)]) (σ:=Unit) (fun zz=>match zz with|z=>[(14,.val (.int .i64 me))]) (fun zz=>match zz with|z=>True)
     ·repeat' (first|exact Wf|apply Wd rfl|apply We rfl)
     ·skip
      obtain ⟨rfl,g170⟩|⟨rfl,g170⟩:=Za h170
      ·refine QbL ?_
       first
       |(rw [if_pos ⟨g170.1,hvn.1 g170.2⟩] at hme;exact ⟨(),trivial,Xy rfl (Le.inteq hme) by5,by4⟩)
       |(rw [if_neg (fun q=>g170 ⟨q.1,hvn.2 q.2⟩)] at hme;exact ⟨(),trivial,Xy rfl (Le.inteq hme) by5,by4⟩)
      refine QbX ?_
      refine QbE ?_
      first
      |(rw [if_pos ⟨g170.1,hvn.1 g170.2⟩] at hme;exact ⟨(),trivial,Xy rfl (Le.inteq hme) by5,by4⟩)
      |(rw [if_neg (fun q=>g170 ⟨q.1,hvn.2 q.2⟩)] at hme;exact ⟨(),trivial,Xy rfl (Le.inteq hme) by5,by4⟩)
     rintro z hI
     try dsimp only [List.cons_append,List.nil_append] at hI ⊢
     refine Qc ?_
     refine Q0 ?_
     refine QP ?_;intro c172 h172
     refine Qa ?_
     obtain ⟨rfl,g172⟩|⟨rfl,g172⟩:=Za h172
     ·refine QL ?_
      rw [if_neg g172] at hb;exact ⟨(k+1,m++[ys],u154),⟨by show k+1≤xms.length;omega,hb,by show (m++[ys]).length≤100000 * i4+(k+1);simp;omega⟩,by show xms.length - (k+1)<xms.length - k;omega,by5,(Xr _ (Xt rfl))⟩
     refine QaW ?_
     refine Qn ?_
     refine Zb 176 U U U (Zm (ns:=[0,1]) (xs:=[.tmp 173,.tmp 175]) U tz_85 U tfl_85 U U U U ?_)
     refine Qcf ?_
     rw [if_pos g172] at hb;cases hb;rw [if_pos g172] at ha;subst ha;exact Zk (i:=2) rfl rfl rfl Xf rfl (Xu _) (Xp _) ⟨rfl,rfl⟩
    refine Qcg ?_
    refine Zb 149 U U U (Zm (ns:=[0,1]) (xs:=[.const (.int .i64 120),.tmp 148]) U tz_85 U tfl_85 U U U U ?_)
    refine Qcf ?_
    rw [if_pos (hasB_iff.2 g146)] at hb;cases hb;rw [if_pos by18] at ha;subst ha;exact Zk (i:=2) rfl rfl rfl Xf rfl (Xu _) (Xp _) ⟨rfl,rfl⟩
   refine Qk ?_
   obtain ⟨⟨xs,xv,xsu,xms,xds,xp⟩,hxx⟩:=Zj (l:=cl) (i:=i3) by8
   have hcx:=Cl.cellss_get hxx
   have hmx:=Wg hxx
   rw [Zz hxx,classes3] at ht
   have ht:(if hasB (aboveR (En.mk da cl ins) xs) xs=true then ((124:Int),xp) else classes3 (En.mk da cl ins) (cl.drop (i3+1)))=r3:=ht
   refine Q6 ?_
   refine Qct ?_
   refine QaF ?_
   refine Qgs ?_
   refine Q3 ?_
   refine Zq 104 U U (Zd (xs:=[.tmp 97,.tmp 103]) U U (HAb xs) by2 ⟨U,U⟩) ?_
   refine QaF ?_
   refine Qgs ?_
   refine Q3 ?_
   refine Yj 111 U U (fun _ q=>Zg (xs:=[.tmp 104,.tmp 110]) U U (Has_c (aboveR (En.mk da cl ins) xs) xs) by2 q) ?_;intro c111 h111
   show AGo _ _ _ _ _ _ _
   refine Qc ?_
   obtain ⟨rfl,g111⟩|⟨rfl,g111⟩:=Za h111
   ·refine QL ?_
    rw [if_neg (by rw [hasB_no g111];simp)] at ht;exact ⟨i3+1,⟨by omega,ht⟩,by show cl.length - (i3+1)<cl.length - i3;omega,by5,by4⟩
   refine Qq ?_
   refine QT ?_
   refine QdK ?_
   refine Qd ?_
   refine Zb 118 U U U (Zm (ns:=[0,1]) (xs:=[.const (.int .i64 124),.tmp 117]) U tz_85 U tfl_85 U U U U ?_)
   refine Qb6 ?_
   refine Qr ?_
   rw [if_pos (hasB_iff.2 g111)] at ht;subst ht;rw [if_pos by18] at hr;subst hr;exact Zk (i:=0) rfl rfl rfl Xf rfl (Xu _) (Xp _) ⟨rfl,rfl⟩
  refine Qk ?_
  obtain ⟨⟨xs,xv,xsu,xms,xds,xp⟩,hxx⟩:=Zj (l:=cl) (i:=i2) by8
  have hcx:=Cl.cellss_get hxx
  have hmx:=Wg hxx
  rw [Zz hxx,classes2] at hw
  obtain ⟨hsu,_⟩:=hcs _ hmx
  have hw:(if supR met [] xsu≠0 then (supR met [] xsu,xp) else classes2 met (cl.drop (i2+1)))=r2:=hw
  have hlsu:=Ya xsu
  have hsu:xsu.length≤100000:=hsu
  obtain ⟨e,he⟩:∃ e,supR met [] xsu=e:=⟨_,rfl⟩
  rw [he] at hw
  refine Qa5 ?_
  refine QdK ?_
  refine Qew ?_
  refine QeM ?_;intro b6
  refine Qfv ?_
  refine Qu ?_
  refine Qab ?_
  refine c_le (al':=[(1,.cptr [.seq 5 (Da.cellss da),.seq 6 (Cl.cellss cl),.seq 8 (In.cellss ins)]),(2,.ptr b2 0),(3,.seq 1 (strs met)),(5,.val (.int .i64 i2)),(6,.ptr b6 0),(7,.val (.int .i64 0))]) by5 (Xo _) ?_
  apply Zu (rg [(0,1),(4,1),(7,1),(16,31),(59,31)]) (σ:=Nat) (fun zz=>match zz with|k=>[(7,.val (.int .i64 k))]) (fun zz=>match zz with|k=>k≤xsu.length∧supR met (xsu.take k) (xsu.drop k)=e) (fun zz=>match zz with|k=>xsu.length - k) (0)
  ·repeat' (first|exact Wf|apply Wd rfl|apply We rfl)
  ·exact ⟨Nat.zero_le _,he⟩
  ·exact by5
  rintro k hI
  try dsimp only [List.cons_append,List.nil_append] at hI ⊢
  obtain ⟨k1,hk⟩:=hI
  refine QS ?_
  refine Qn ?_
  refine QbB ?_;intro n62
  refine Qg ?_;intro c63 h63
  refine Qa ?_
  obtain ⟨rfl,g63⟩|⟨rfl,g63⟩:=Za h63
  ·refine Qdv ?_
   rw [Wh by17,supR] at hk
   rw [if_neg by17] at hw
   exact ⟨i2+1,⟨by omega,hw⟩,by show cl.length - (i2+1)<cl.length - i2;omega,by5,(Xr _ (Xo _))⟩
  refine Qk ?_
  refine Q2 ?_
  obtain ⟨s,hxs⟩:=Zj (l:=xsu) (i:=k) by8
  have hcs:=Xc hxs
  have hms:=Wg hxs
  rw [Zz hxs,supR] at hk
  have hss:=Yd hxs
  have HH:=Has_c (xsu.take k) s
  rw [← strs_take] at HH
  refine Qh ?_
  refine Qn ?_
  refine Qb ?_
  refine Qfp ?_
  refine QaG ?_
  refine Zb 72 U U U (Zg (xs:=[.tmp 66,.tmp 71]) U U (Has_c met s) by2 ?_);intro c72 h72
  refine Q5 ?_;intro c73 h73
  try replace h73:=Ym h73 h72
  refine Qa ?_
  obtain ⟨rfl,g73⟩|⟨rfl,g73⟩:=Za h73
  ·refine Qp ?_
   rw [if_neg (by rw [hasB_iff.2 (Classical.not_not.1 g73)];simp)] at hk
   refine Q6 ?_
   refine Qbv ?_
   refine QF ?_
   refine Qgo ?_
   refine Qbv ?_
   refine QF ?_
   refine Qfu ?_
   refine QdV ?_
   refine Yj 86 U U (fun _ q=>Zg (xs:=[.tmp 80,.tmp 85]) U U (HH) by2 q) ?_;intro c86 h86
   show AGo _ _ _ _ _ _ _
   refine Qc ?_
   obtain ⟨rfl,g86⟩|⟨rfl,g86⟩:=Za h86
   ·refine QL ?_
    rw [if_neg (by rw [hasB_no g86];simp)] at hk;exact ⟨k+1,⟨by omega,by rw [hss];exact hk⟩,by show xsu.length - (k+1)<xsu.length - k;omega,by5,by4⟩
   refine Qcg ?_
   refine Zb 89 U U U (Zm (ns:=[0,1]) (xs:=[.const (.int .i64 120),.tmp 88]) U tz_85 U tfl_85 U U U U ?_)
   refine Qch ?_
   rw [if_pos (hasB_iff.2 g86)] at hk;subst hk;rw [if_pos by18] at hw;subst hw;rw [if_pos by18] at hr;subst hr;exact Zk (i:=1) rfl rfl rfl Xf rfl (Xu _) (Xp _) ⟨rfl,rfl⟩
  refine Qcg ?_
  refine Zb 76 U U U (Zm (ns:=[0,1]) (xs:=[.const (.int .i64 121),.tmp 75]) U tz_85 U tfl_85 U U U U ?_)
  refine Qch ?_
  rw [if_pos (hasB_no g73)] at hk;subst hk;rw [if_pos by18] at hw;subst hw;rw [if_pos by18] at hr;subst hr;exact Zk (i:=1) rfl rfl rfl Xf rfl (Xu _) (Xp _) ⟨rfl,rfl⟩
 refine Qk ?_
 refine Q2 ?_
 obtain ⟨⟨xs,xv,xsu,xms,xds,xp⟩,hxx⟩:=Zj (l:=cl) (i:=i) by8
 have hcx:=Cl.cellss_get hxx
 have hmx:=Wg hxx
 rw [Zz hxx,classes1] at hu
 have hsn:=Yd hxx
 have hu:(if hasB met xs=true then ((120:Int),xp) else classes1 (met++[xs]) (cl.drop (i+1)))=r1:=hu
 refine Qh ?_
 refine QT ?_
 refine QdK ?_
 refine Qd ?_
 refine Zb 30 U U U (Zg (xs:=[.tmp 23,.tmp 29]) U U (Has_c met xs) by2 ?_);intro c30 h30
 refine Qa ?_
 obtain ⟨rfl,g30⟩|⟨rfl,g30⟩:=Za h30
 ·refine QbW ?_
  refine Qh ?_
  refine QT ?_
  refine QdK ?_
  refine Qd ?_
  refine Zb 45 U U U (Zf (xs:=[.tmp 44]) Yy U U U U U U (Wc U) (Zb 46 U U U (Zv (i:=1) Yy U U U U (.seq _ _) by7 ?_)))
  intro u46
  refine QaD ?_
  rw [if_neg (by rw [hasB_no g30];simp)] at hu;exact ⟨(i+1,met++[xs],u46),⟨by show i+1≤cl.length;omega,hu,by rw [hsn,List.map_append,hm];rfl⟩,by show cl.length - (i+1)<cl.length - i;omega,Xy rfl (Wb (by rw [Xm];rfl)) by5,(Xt rfl)⟩
 refine Qq ?_
 refine QT ?_
 refine QdK ?_
 refine Qd ?_
 refine Zb 37 U U U (Zm (ns:=[0,1]) (xs:=[.const (.int .i64 120),.tmp 36]) U tz_85 U tfl_85 U U U U ?_)
 refine Qb6 ?_
 refine Qr ?_
 rw [if_pos (hasB_iff.2 g30)] at hu;subst hu;rw [if_pos by18] at hr;subst hr;exact Zk (i:=0) rfl rfl rfl Xf rfl (Xu _) (Xp _) ⟨rfl,rfl⟩
def EOpsF (P:Program) (ops:List Oper) (ws:List Nat) (anc:List (List Nat)) (i0:Nat) (cs0:List AV) (Q:Sl→Mem→Prop):List Nat→Sl→Mem→List (Nat × Nat)→Prop
 | [],al,M,_=>Q al M
 | i::ord,al,M,L=>∃ o,ops[i]?=some o ∧
     if i=i0 then ∀ b,EOpsF P ops ws anc i0 cs0 Q ord (al.put o.dst (.ptr b 0)) (M++[.loc b cs0]) L
     else if ws.contains i then o.guard=none ∧
      ((∃ k r,M[k]?=some r∧(L.all fun x=>x.2 != k ||(anc.getD i []).contains x.1)=true∧OpT P o (al.only (Oper.tmps o)) [r] (fun v M'=>∃ r',M'=[r']∧EOpsF P ops ws anc i0 cs0 Q ord (al.put o.dst v) (M.set k r') L)) ∨
       OpT P o (al.only (Oper.tmps o)) [] (fun v M'=>EOpsF P ops ws anc i0 cs0 Q ord (al.put o.dst v) (M++M') L))
     else ∃ (fp:Option Nat) (v:AV),fp.all (fun k=>Nat.blt k M.length)=true∧DStep P ops o al (fpm M fp) v∧EOpsF P ops ws anc i0 cs0 Q ord (al.put o.dst v) M ((fp.toList.map fun k=>(i,k))++L)
def flowEF (n:Nat) (l:List Oper) (ord ws:List Nat) (anc:List (List Nat)) (i0:Nat):Bool :=
 (ord.length == l.length && (List.range l.length).all (ord.contains ·) && decide ord.Nodup && ord.all (fun i=>Nat.blt i l.length)) &&
 (l.zipIdx.all fun (o,i)=>o.dst.all (·<n) && (bindsOn o).all (fun j=>j<i) &&
  (anc.getD i []).all (fun a=>(bindsOn o).contains a ||(bindsOn o).any (fun c=>(anc.getD c []).contains a))) &&
 (ws.all fun j=>(List.range l.length).all fun i=>i == j || befo ord i j ||(anc.getD i []).contains j || i == i0) &&
 (l.zipIdx.all fun (o,i)=>l.zipIdx.all fun (p,k)=>(k == i || o.dst.isNone || o.dst != p.dst) &&
     (match p.dst with
      | some t => !(Oper.sees l o).contains t || k == i ||(if befo ord k i then (anc.getD i []).contains k else (anc.getD k []).contains i)
      | none=>true)) && ws.contains i0
structure FlowEF (n:Nat) (l:List Oper) (ord ws:List Nat) (anc:List (List Nat)) (i0:Nat):Prop where
 nodup:ord.Nodup
 mem:∀ i,i<l.length→i∈ord
 lt:∀ i∈ord,i<l.length
 dst:∀ (i:Nat) (o:Oper),l[i]?=some o→o.dst.all (·<n)=true
 back:∀ (i:Nat) (o:Oper),l[i]?=some o→∀ j∈bindsOn o,j<i
 ancs:∀ (i:Nat) (o:Oper),l[i]?=some o→∀ a∈anc.getD i [],a∈bindsOn o∨∃ c∈bindsOn o,a∈anc.getD c []
 wild:∀ j∈ws,∀ i,i<l.length→i=j∨befo ord i j=true∨j∈anc.getD i []∨i=i0
 once:∀ (i:Nat) (o:Oper) (k:Nat) (p:Oper) (t:Tmp),l[i]?=some o→l[k]?=some p→o.dst=some t→p.dst=some t→k=i
 see:∀ (i:Nat) (o:Oper) (k:Nat) (p:Oper) (t:Tmp),l[i]?=some o→l[k]?=some p→p.dst=some t→t∈Oper.sees l o→k=i∨(befo ord k i=true∧k∈anc.getD i [])∨(befo ord k i=false∧i∈anc.getD k [])
 free:i0∈ws
theorem FlowEF.of {n:Nat} {l:List Oper} {ord ws:List Nat} {anc:List (List Nat)} {i0:Nat} (h:flowEF n l ord ws anc i0=true):FlowEF n l ord ws anc i0:=by
 unfold flowEF at h
 simp only [Bool.and_eq_true] at h
 obtain ⟨⟨⟨⟨⟨⟨⟨_,h2⟩,h3⟩,h7⟩,h4⟩,h5⟩,h6⟩,h8⟩:=h
 have hmem:∀ i,i<l.length→i∈ord:=fun i hi=>by simpa using all_range h2 hi
 refine ⟨by simpa using h3,hmem,fun i hi=>by simpa [Nat.blt_eq] using List.all_eq_true.1 h7 i hi,fun i o ho=>?_,fun i o ho j hj=>?_,fun i o ho a ha=>?_,fun j hj i hi=>?_,fun i o k p t ho hp e1 e2=>?_,fun i o k p t ho hp e1 e2=>?_,by simpa using h8⟩
 ·have:=Yr h4 ho
  simp only [Bool.and_eq_true] at this
  exact this.1.1
 ·have:=Yr h4 ho
  simp only [Bool.and_eq_true,List.all_eq_true,decide_eq_true_eq] at this
  exact this.1.2 j hj
 ·have:=Yr h4 ho
  simp only [Bool.and_eq_true,List.all_eq_true] at this
  have:=this.2 a ha
  simp only [Bool.or_eq_true,List.contains_iff_mem,List.any_eq_true] at this
  exact this
 ·have:=all_range (List.all_eq_true.1 h5 j hj) hi
  simp only [Bool.or_eq_true,beq_iff_eq,List.contains_iff_mem] at this
  rcases this with ((q|q)|q)|q
  ·exact Or.inl q
  ·exact Or.inr (Or.inl q)
  ·exact Or.inr (Or.inr (Or.inl q))
  exact Or.inr (Or.inr (Or.inr q))
 ·have:=Yr (Yr h6 ho) hp
  simp only [Bool.and_eq_true,Bool.or_eq_true,beq_iff_eq] at this
  rcases this.1 with (q|q)|q
  ·exact q
  ·simp [e1] at q
  simp [e1,e2] at q
 have:=(Bool.and_eq_true _ _ ▸ Yr (Yr h6 ho) hp).2
 simp only [e1,Bool.or_eq_true,beq_iff_eq,Bool.not_eq_true'] at this
 rcases this with (q|q)|q
 ·simp [e2] at q
 ·exact Or.inl q
 split at q
 ·rename_i hb;exact Or.inr (Or.inl ⟨hb,by simpa using q⟩)
 rename_i hb
 by_cases e:k=i
 ·exact Or.inl e
 exact Or.inr (Or.inr ⟨by simpa using hb,by simpa using q⟩)
def pdM (cs0:List AV):Option Nat→Mem
 | none=>[]
 | some b=>[.loc b cs0]
section
variable {P:Program} {n:Nat} {l:List Oper} {ord ws:List Nat} {anc:List (List Nat)} {QQ:Sl→Mem→Prop} {al:Sl} {i0:Nat} {cs0:List AV}
structure AtF (P:Program) (n B:Nat) (F:EH) (Mf:Mem) (w0:World) (ds:List Deferred) (l:List Oper) (ord ws:List Nat) (anc:List (List Nat)) (i0:Nat) (cs0:List AV) (QQ:Sl→Mem→Prop) (al:Sl) (lis:Array Bool) (a:Act) (w:World) (pr rest:List Nat) (pv:Nat→AV) (M:Mem) (L:List (Nat × Nat)) (pd:Option Nat):Prop where
 size:lis.size=l.length
 closed:∀ (k:Nat) (o:Oper),l[k]?=some o→lis[k]?=some true→∀ j∈bindsOn o,lis[j]?=some true
 defers:a.defers=ds
 tmps:a.tmps.size=n
 ord:ord=pr++rest
 done:∀ k,lis[k]?=some true→k∈pr∨(k=i0∧pd≠none)
 wild:∀ k∈pr,k∈ws→lis[k]?=some true
 pnd:∀ b,pd=some b→i0∈rest∧lis[i0]?=some true∧pv i0=.ptr b 0
 next:rest=[]∨∃ j rest',rest=j::rest'∧j∈ws∧(j=i0→pd=none)
 eops:EOpsF P l ws anc i0 cs0 QQ rest (putsI l pv pr al) M L
 lenL:∀ x∈L,x.2<M.length
 steps:∀ p1 i p2,pr=p1++i::p2→i∉ws→lis[i]?=some false→∃ o fp,l[i]?=some o∧(∀ p,fp=some p→(i,p)∈L)∧DStep P l o (putsI l pv p1 al) (fpm M fp) (pv i)
 mem:∃ F',Ext F F'∧Inv B F' (M++(pdM cs0 pd++Mf)) w∧Below B w0 w ∧
  (∀ t v,al.lookup t=some v→(∀ (j:Nat) (o:Oper),l[j]?=some o→o.dst=some t→lis[j]?=some false)→t<n∧Rel F' v (a.tmps.getD t undef)) ∧
  (∀ (j:Nat) (o:Oper) (t:Tmp),l[j]?=some o→o.dst=some t→lis[j]?=some true→t<n∧Rel F' (pv j) (a.tmps.getD t undef))

theorem closed_ancF (hfl:FlowEF n l ord ws anc i0) {lis:Array Bool} (hc:∀ (k:Nat) (o:Oper),l[k]?=some o→lis[k]?=some true→∀ j∈bindsOn o,lis[j]?=some true):∀ (i:Nat) (o:Oper),l[i]?=some o→(∀ j∈bindsOn o,lis[j]?=some true)→∀ a∈anc.getD i [],lis[a]?=some true:=by
 intro i
 induction i using Nat.strongRecOn with
 | _ i ih =>
  intro o ho hb a ha
  rcases hfl.ancs i o ho a ha with q|⟨c,hc1,hc2⟩
  ·exact hb a q
  have hci:=hfl.back i o ho c hc1
  have hil:i<l.length:=get_lt ho
  have hcl:l[c]?=some l[c]:=List.getElem?_eq_getElem by17
  exact ih c hci l[c] hcl (hc c l[c] hcl (hb c hc1)) a hc2
theorem fpm_app {M X:Mem} {fp:Option Nat} (h:∀ p,fp=some p→p<M.length):fpm (M++X) fp=fpm M fp:=by
 cases fp with
 | none=>rfl
 | some p=>simp only [fpm];rw [List.getElem?_append_left (h p rfl)]
theorem advanceF (hnd:ord.Nodup) (hi0:i0∈ws) (lis:Array Bool):∀ (rest pr:List Nat) (pv:Nat→AV) (L:List (Nat × Nat)) (M:Mem) (pd:Option Nat),ord=pr++rest→(∀ b,pd=some b→i0∈rest∧pv i0=.ptr b 0)→EOpsF P l ws anc i0 cs0 QQ rest (putsI l pv pr al) M L→(∀ x∈L,x.2<M.length) →
    (∀ p1 i p2,pr=p1++i::p2→i∉ws→lis[i]?=some false→∃ o fp,l[i]?=some o∧(∀ p,fp=some p→(i,p)∈L)∧DStep P l o (putsI l pv p1 al) (fpm M fp) (pv i)) →
    ∃ pr' rest' pv' L' M' pd',ord=pr'++rest'∧(rest'=[]∨∃ j r,rest'=j::r∧j∈ws∧(j=i0→pd'=none))∧EOpsF P l ws anc i0 cs0 QQ rest' (putsI l pv' pr' al) M' L'∧(∀ x∈L',x.2<M'.length)∧(∀ k∈pr,k∈pr')∧(∀ k∈pr',k∈ws→k∈pr∨(k=i0∧pd≠none))∧(∀ k∈pr,pv' k=pv k) ∧
     (∀ p1 i p2,pr'=p1++i::p2→i∉ws→lis[i]?=some false→∃ o fp,l[i]?=some o∧(∀ p,fp=some p→(i,p)∈L')∧DStep P l o (putsI l pv' p1 al) (fpm M' fp) (pv' i)) ∧
     (∀ b,pd'=some b→pd=some b∧i0∈rest')∧(pd≠none→pd'≠none∨i0∈pr')∧M'++pdM cs0 pd'=M++pdM cs0 pd∧pv' i0=pv i0:=by
 intro rest
 induction rest with
 | nil =>
  intro pr pv L M pd ho hp he hlL hs
  have:pd=none:=by
   cases pd with
   | none=>rfl
   | some b=>exact absurd (hp b rfl).1 by18
  subst this
  exact ⟨pr,[],pv,L,M,none,ho,Or.inl U,he,hlL,fun k h=>h,fun k h _=>.inl h,fun _ _=>U,hs,fun b h=>by simp at h,fun h=>absurd U h,U,U⟩
 | cons i rest ih =>
  intro pr pv L M pd ho hp he hlL hs
  by_cases hw:i∈ws
  ·by_cases hz:i=i0
   ·cases hpd:pd with
    | none=>subst hpd;exact ⟨pr,i::rest,pv,L,M,none,ho,Or.inr ⟨i,rest,rfl,hw,fun _=>rfl⟩,he,hlL,fun k h=>h,fun k h _=>.inl h,fun _ _=>rfl,hs,fun b h=>by simp at h,fun h=>absurd rfl h,rfl,rfl⟩
    | some b =>
     subst hz
     subst hpd
     obtain ⟨o,ho',he⟩:=he
     rw [if_pos rfl] at he
     have he:=he b
     have hv:=(hp b rfl).2
     obtain ⟨pr2,rest2,pv2,L2,M2,pd2,q1,q2,q3,q0,q4,q5,q6,q7,q8,q9,q10,q11⟩:=ih (pr++[i]) pv L (M++[.loc b cs0]) none (by rw [ho];simp) (fun b h=>by simp at h) (by
      rw [putsI_app]
      simp only [putsI,ho',Option.bind_some,hv]
      exact he) (fun x hx=>by have:=hlL x hx;simp;omega) (by
      intro p1 j p2 hsp hj hl
      rcases List.eq_nil_or_concat p2 with rfl|⟨p2',y,rfl⟩
      ·have e2:pr=p1∧i=j:=by
        have:=List.append_inj' hsp rfl
        exact ⟨this.1,by simpa using this.2⟩
       obtain ⟨rfl,rfl⟩:=e2
       exact absurd hw hj
      have e3:pr=p1++j::p2':=by
       rw [List.concat_eq_append,show p1++j::(p2'++[y])=(p1++j::p2')++[y] from by simp] at hsp
       exact (List.append_inj' hsp U).1
      obtain ⟨o',fp',k1,k2,k3⟩:=hs p1 j p2' e3 hj hl
      exact ⟨o',fp',k1,k2,by rw [fpm_app (fun p hp=>hlL (j,p) (k2 p hp))];exact k3⟩)
     refine ⟨pr2,rest2,pv2,L2,M2,pd2,q1,q2,q3,q0,fun k hk=>q4 k (by simp [hk]),fun k hk hkw=>?_,fun k hk=>q6 k (by simp [hk]),q7,fun b' h=>by have:=(q8 b' h).1;simp at this,fun _=>.inr (q4 i by18),?_,q11⟩
     ·rcases q5 k hk hkw with h|h
      ·rcases List.mem_append.1 h with h|h
       ·exact .inl h
       simp at h;subst h;exact .inr ⟨rfl,by simp⟩
      exact absurd U h.2
     rw [q10];simp [pdM]
   exact ⟨pr,i::rest,pv,L,M,pd,ho,Or.inr ⟨i,rest,U,hw,fun q=>absurd q hz⟩,he,hlL,fun k h=>h,fun k h _=>.inl h,fun _ _=>U,hs,fun b h=>⟨h,(hp b h).1⟩,fun h=>.inl h,U,U⟩
  have hz:i≠i0:=fun q=>hw (by rw [q];exact hi0)
  obtain ⟨o,ho',he⟩:=he
  rw [if_neg hz,if_neg (by simpa using hw)] at he
  obtain ⟨fp,v,h0,h1,h2⟩:=he
  have hip:i∉pr:=by
   intro h
   rw [ho,List.nodup_append] at hnd
   exact hnd.2.2 i h i by18 U
  let pv':Nat→AV:=fun x=>if x=i then v else pv x
  have hpv:∀ k∈pr,pv' k=pv k:=fun k hk=>if_neg (fun e=>hip (by rw [← e];exact hk))
  have hpi:pv' i=v:=if_pos rfl
  have hpz:pv' i0=pv i0:=if_neg (fun e=>hz e.symm)
  have heq:putsI l pv' pr al=putsI l pv pr al:=putsI_congr l pv' pv pr al hpv
  obtain ⟨pr2,rest2,pv2,L2,M2,pd2,q1,q2,q3,q0,q4,q5,q6,q7,q8,q9,q10,q11⟩:=ih (pr++[i]) pv' ((fp.toList.map fun k=>(i,k))++L) M pd (by rw [ho];simp) (fun b h=>by
   obtain ⟨h3,h4⟩:=hp b h
   rcases List.mem_cons.1 h3 with q|q
   ·exact absurd q.symm hz
   ·exact ⟨q,by rw [hpz,h4]⟩) (by
   rw [putsI_app,heq]
   simp only [putsI,ho',Option.bind_some,hpi]
   exact h2) (by
   intro x hx
   rcases List.mem_append.1 hx with hx|hx
   ·cases fp with
    | none=>simp at hx
    | some k =>
     simp at hx
     subst hx
     simpa [Nat.blt_eq] using h0
   ·exact hlL x hx) (by
   intro p1 j p2 hsp hj hl
   rcases List.eq_nil_or_concat p2 with rfl|⟨p2',y,rfl⟩
   ·have e2:pr=p1∧i=j:=by
     have:=List.append_inj' hsp rfl
     exact ⟨this.1,by simpa using this.2⟩
    obtain ⟨rfl,rfl⟩:=e2
    exact ⟨o,fp,ho',fun p hp=>by subst hp;simp,by rw [heq,hpi];exact h1⟩
   have e2:pr=p1++j::p2'∧i=y:=by
    rw [List.concat_eq_append,show p1++j::(p2'++[y])=(p1++j::p2')++[y] from by simp] at hsp
    have:=List.append_inj' hsp rfl
    exact ⟨this.1,by simpa using this.2⟩
   obtain ⟨e3,_⟩:=e2
   obtain ⟨o',fp',k1,k2,k3⟩:=hs p1 j p2' e3 hj hl
   refine ⟨o',fp',k1,fun p hp=>List.mem_append_right _ (k2 p hp),?_⟩
   rw [putsI_congr l pv' pv p1 al (fun k hk=>hpv k (by rw [e3];simp [hk])),hpv j (by rw [e3];simp)]
   exact k3)
  exact ⟨pr2,rest2,pv2,L2,M2,pd2,q1,q2,q3,q0,fun k hk=>q4 k (by simp [hk]),fun k hk hkw=>by
   rcases q5 k hk hkw with h|h
   ·rcases List.mem_append.1 h with h|h
    ·exact .inl h
    simp at h;subst h;exact absurd hkw hw
   exact .inr h,fun k hk=>(q6 k (by simp [hk])).trans (hpv k hk),q7,q8,q9,q10,by rw [q11,hpz]⟩

theorem seesF {lis:Array Bool} {a:Act} {pv:Nat→AV} (hfl:FlowEF n l ord ws anc i0) (hsize:lis.size=l.length) (hclosed:∀ (k:Nat) (o:Oper),l[k]?=some o→lis[k]?=some true→∀ j∈bindsOn o,lis[j]?=some true) {F':EH}
    (h4:∀ t v,al.lookup t=some v→(∀ (j:Nat) (o:Oper),l[j]?=some o→o.dst=some t→lis[j]?=some false)→t<n∧Rel F' v (a.tmps.getD t undef))
    (h5:∀ (j:Nat) (o:Oper) (t:Tmp),l[j]?=some o→o.dst=some t→lis[j]?=some true→t<n∧Rel F' (pv j) (a.tmps.getD t undef))
    {i:Nat} {o:Oper} (ho:l[i]?=some o) (hni:lis[i]?=some false) (hrd:∀ j∈bindsOn o,lis[j]?=some true) {p1 p2:List Nat} (hsp:ord=p1++i::p2) :
    ∀ t∈Oper.sees l o,∀ v,(putsI l pv p1 al).lookup t=some v→t<n∧Rel F' v (a.tmps.getD t undef):=by
 intro t ht v hv
 have hanc:=closed_ancF hfl hclosed i o ho hrd
 obtain ⟨j,p,k1,k2,k3,k4⟩|⟨k1,k2⟩:=putsI_lookup l pv p1 al t
 ·rw [k4] at hv
  simp at hv
  subst hv
  have hb:=(befo_split hfl.nodup hsp (k:=j)).1 k1
  rcases hfl.see i o j p t ho k2 k3 ht with q|q|q
  ·subst q;exfalso
   have:=hfl.nodup
   rw [hsp,List.nodup_append] at this
   exact this.2.2 j k1 j by18 U
  ·exact h5 j p t k2 k3 (hanc j q.2)
  rw [hb] at q;simp at q
 rw [k2] at hv
 refine h4 t v hv (fun j p hj hd=>?_)
 have hjl:j<lis.size:=by
  rw [hsize]
  rcases Nat.lt_or_ge j l.length with q|q
  ·exact q
  rw [List.getElem?_eq_none q] at hj;simp at hj
 rcases hfl.see i o j p t ho hj hd ht with q|q|q
 ·subst q;exact hni
 ·exfalso
  have hjo:=hfl.mem j (by rw [← hsize];exact hjl)
  rw [hsp] at hjo
  rcases List.mem_append.1 hjo with r|r
  ·exact k1 j p r hj hd
  rcases List.mem_cons.1 r with r|r
  ·subst r;rw [befo] at q;simp at q
  have:=(befo_split hfl.nodup hsp (k:=j)).2 r
  rw [this] at q;simp at q
 rcases lis_ft hjl with r|r
 ·have:=closed_ancF hfl hclosed j p hj (hclosed j p hj r) i q.2
  rw [hni] at this;simp at this
 exact r
theorem slots_nextF (hfl:FlowEF n l ord ws anc i0) {lis:Array Bool} {a:Act} {F1 F2:EH} {i:Nat} {o:Oper} {pv pv':Nat→AV} {u:Value} (ho:l[i]?=some o) (hni:lis[i]?=some false) (htm:a.tmps.size=n) (hF2:Ext F1 F2) (hr:Rel F2 (pv' i) u) (hpv:∀ k,lis[k]?=some true→pv' k=pv k)
    (h4:∀ t v,al.lookup t=some v→(∀ (j:Nat) (o:Oper),l[j]?=some o→o.dst=some t→lis[j]?=some false)→t<n∧Rel F1 v (a.tmps.getD t undef))
    (h5:∀ (j:Nat) (o:Oper) (t:Tmp),l[j]?=some o→o.dst=some t→lis[j]?=some true→t<n∧Rel F1 (pv j) (a.tmps.getD t undef)) :
    (∀ t v,al.lookup t=some v→(∀ (j:Nat) (o:Oper),l[j]?=some o→o.dst=some t→(lis.setIfInBounds i true)[j]?=some false)→t<n∧Rel F2 v ((a.put o.dst u).tmps.getD t undef)) ∧
    (∀ (j:Nat) (o':Oper) (t:Tmp),l[j]?=some o'→o'.dst=some t→(lis.setIfInBounds i true)[j]?=some true→t<n∧Rel F2 (pv' j) ((a.put o.dst u).tmps.getD t undef)):=by
 have hdst:=hfl.dst i o ho
 have hget:∀ t,o.dst≠some t→(a.put o.dst u).tmps.getD t undef=a.tmps.getD t undef:=by
  intro t ht
  cases hd:o.dst with
  | none=>rfl
  | some d =>
   simp only [Act.put,Array.getD_eq_getD_getElem?,Array.getElem?_setIfInBounds]
   rw [if_neg (fun e=>ht (by rw [hd,e]))]
 constructor
 ·intro t v ht hno
  have hne:o.dst≠some t:=by
   intro q
   have:=hno i o ho q
   rw [Yu hni,if_pos rfl] at this;simp at this
  rw [hget t hne]
  obtain ⟨q1,q2⟩:=h4 t v ht (fun j p hj hd=>by
   have:=hno j p hj hd
   rw [Yu hni] at this
   split at this
   ·simp at this
   exact this)
  exact ⟨q1,q2.mono hF2⟩
 intro j p t hj hd hlj
 by_cases e:i=j
 ·subst e
  rw [ho] at hj;simp at hj;subst hj
  rw [hd] at hdst ⊢
  simp at hdst
  refine ⟨hdst,?_⟩
  have:t<a.tmps.size:=by rw [htm];exact hdst
  simpa [Act.put,Array.getD,this] using hr
 rw [Yu hni,if_neg e] at hlj
 have hne:o.dst≠some t:=by
  intro q
  exact e (hfl.once j p i o t hj ho hd q)
 rw [hget t hne,hpv j hlj]
 obtain ⟨q1,q2⟩:=h5 j p t hj hd hlj
 exact ⟨q1,q2.mono hF2⟩

theorem region_flowEF {ro:Option Nat} {ds:List Deferred} {B:Nat} {F:EH} {Mf:Mem} {w0:World} {Q:Exit→Act→World→Prop} (hfl:FlowEF n l ord ws anc i0) (hfree:∀ o,l[i0]?=some o→o.guard=none∧OpT P o [] [] (fun v M'=>∃ b,v=.ptr b 0∧M'=[.loc b cs0]))
    (hend:∀ a w pr pv M L,AtF P n B F Mf w0 ds l ord ws anc i0 cs0 QQ al (Array.replicate l.length true) a w pr [] pv M L none→Q .normal a w) :
    ∀ (fuel:Nat) (lis:Array Bool) (a:Act) (w:World) (pr rest:List Nat) (pv:Nat→AV) (M:Mem) (L:List (Nat × Nat)) (pd:Option Nat),((List.range l.length).filter (fun j => !(lis[j]? == some true))).length≤fuel→AtF P n B F Mf w0 ds l ord ws anc i0 cs0 QQ al lis a w pr rest pv M L pd→wpAnyIn (RF ro) 0 P .any l.toArray Q fuel lis a w:=by
 have alltrue:∀ (lis:Array Bool) (a:Act) (w:World) (pr rest:List Nat) (pv:Nat→AV) (M:Mem) (L:List (Nat × Nat)) (pd:Option Nat),AtF P n B F Mf w0 ds l ord ws anc i0 cs0 QQ al lis a w pr rest pv M L pd→Region.ready .any l.toArray lis=[]→Q .normal a w:=by
  intro lis a w pr rest pv M L pd h hrd
  have hall:∀ i,i<l.length→lis[i]?=some true:=by
   intro i
   induction i using Nat.strongRecOn with
   | _ i ih =>
    intro hil
    rcases lis_ft (lis:=lis) (j:=i) (by rw [h.size];exact hil) with q|q
    ·exact q
    exfalso
    have:i∈Region.ready .any l.toArray lis:=(ready_iff h.size).2 ⟨l[i],List.getElem?_eq_getElem hil,q,fun j hj=>by
     have:=hfl.back i l[i] (List.getElem?_eq_getElem hil) j hj
     exact ih j this by17⟩
    rw [hrd] at this;simp at this
  have e:lis=Array.replicate l.length true:=by
   apply Array.ext (by simpa using h.size)
   intro i h1 h2
   have:=hall i (by rw [← h.size];exact h1)
   rw [Array.getElem?_eq_getElem h1] at this
   simpa using this
  have hre:rest=[]:=by
   rcases h.next with q|⟨j,r,q,_,qz⟩
   ·exact q
   exfalso
   have hj:j∈ord:=by rw [h.ord,q];simp
   rcases h.done j (hall j (hfl.lt j hj)) with hjp|hjp
   ·have:=hfl.nodup
    rw [h.ord,q,List.nodup_append] at this
    exact this.2.2 j hjp j by18 U
   exact hjp.2 (qz hjp.1)
  subst hre
  have hpd:pd=none:=by
   cases hp:pd with
   | none=>rfl
   | some b=>exact absurd (h.pnd b hp).1 by18
  subst hpd
  rw [e] at h
  exact hend a w pr pv M L h
 intro fuel
 induction fuel with
 | zero =>
  intro lis a w pr rest pv M L pd hf h
  have hr:Region.ready .any l.toArray lis=[]:=by
   cases hr:Region.ready .any l.toArray lis with
   | nil=>rfl
   | cons i r =>
    exfalso
    obtain ⟨o,ho,h1,_⟩:=(ready_iff h.size).1 (by rw [hr];simp:i∈Region.ready .any l.toArray lis)
    have hil:i<l.length:=by
     rcases Nat.lt_or_ge i l.length with q|q
     ·exact q
     rw [List.getElem?_eq_none q] at ho;simp at ho
    have:i∈(List.range l.length).filter (fun j => !(lis[j]? == some true)):=List.mem_filter.2 ⟨by simpa using hil,by simp [h1]⟩
    have:=List.length_pos_of_mem this
    omega
  exact ⟨hr,alltrue lis a w pr rest pv M L pd h hr⟩
 | succ fuel ih =>
  intro lis a w pr rest pv M L pd hf h
  refine ⟨alltrue lis a w pr rest pv M L pd h,fun i hi=>?_⟩
  obtain ⟨o,ho,hni,hrd⟩:=(ready_iff h.size).1 hi
  have hil:i<l.length:=by
   rcases Nat.lt_or_ge i l.length with q|q
   ·exact q
   rw [List.getElem?_eq_none q] at ho;simp at ho
  have hcount:((List.range l.length).filter (fun j => !((lis.setIfInBounds i true)[j]? == some true))).length≤fuel:=by
   have h1:=count_set l.length (fun j=>lis[j]? == some true) i hil (by simp [hni])
   have h2:(List.range l.length).filter (fun j => !((lis.setIfInBounds i true)[j]? == some true))=(List.range l.length).filter (fun j => !((lis[j]? == some true) || j == i)):=by
    apply List.filter_congr
    intro j hj
    rw [Yu hni]
    by_cases e:i=j
    ·subst e
     rw [if_pos rfl];simp
    rw [if_neg e]
    have:(j == i)=false:=by simp;omega
    simp [this]
   rw [h2]
   omega
  have hanc:=closed_ancF hfl h.closed i o ho hrd
  obtain ⟨F0,m1,m2,m3,m4,m5⟩:=h.mem
  have hclosed:∀ (k:Nat) (o':Oper),l[k]?=some o'→(lis.setIfInBounds i true)[k]?=some true→∀ j∈bindsOn o',(lis.setIfInBounds i true)[j]?=some true:=by
   intro k p hk hlk j hj
   rw [Yu hni] at hlk ⊢
   by_cases e:i=k
   ·subst e
    rw [ho] at hk;simp at hk;subst hk
    rw [hrd j hj];split <;> rfl
   rw [if_neg e] at hlk
   rw [h.closed k p hk hlk j hj];split <;> rfl
  have hone:∀ k:Nat,(lis.setIfInBounds i true)[k]?=some false→lis[k]?=some false:=by
   intro k hk
   rw [Yu hni] at hk
   split at hk
   ·simp at hk
   exact hk
  have hio:i∈ord:=hfl.mem i hil
  by_cases hearly:i=i0∧∃ j r,rest=j::r∧j≠i0
  ·-- the variable,before its place
   obtain ⟨rfl,j,r,hre,hji⟩:=hearly
   have hpd:pd=none:=by
    cases hp:pd with
    | none=>rfl
    | some b=>have:=(h.pnd b hp).2.1;rw [hni] at this;simp at this
   subst hpd
   have hip:i∉pr:=fun hh=>by have:=h.wild i hh hfl.free;rw [hni] at this;simp at this
   obtain ⟨hg,hop⟩:=hfree o ho
   unfold wpOpIn
   simp only [List.getElem?_toArray,ho]
   rw [if_pos (by simp [Region.wanted,hg])]
   refine wp_exits (Oper.wpIn_mono ?_ (hop n B F0 (M++Mf) a w (by simpa [pdM] using m2) ⟨h.tmps,fun t v e=>by simp at e⟩ ro))
   rintro a' w' ⟨u,v,M',F2,rfl,⟨b,rfl,rfl⟩,hr,hF2,hi2,hb2⟩
   let pv':Nat→AV:=fun x=>if x=i then .ptr b 0 else pv x
   have hpv:∀ k∈pr,pv' k=pv k:=fun k hk=>if_neg (fun e=>hip (by rw [← e];exact hk))
   have hpi:pv' i=.ptr b 0:=if_pos rfl
   have heq:∀ p1,(∀ k∈p1,k∈pr)→putsI l pv' p1 al=putsI l pv p1 al:=fun p1 hp=>putsI_congr l pv' pv p1 al (fun k hk=>hpv k (hp k hk))
   have hpvl:∀ k,lis[k]?=some true→pv' k=pv k:=fun k hk=>by
    rcases h.done k hk with q|q
    ·exact hpv k q
    exact absurd U q.2
   obtain ⟨s1,s2⟩:=slots_nextF (al:=al) hfl ho hni h.tmps hF2 (pv:=pv) (pv':=pv') (by rw [hpi];exact hr) hpvl m4 m5
   refine ih _ _ _ pr rest pv' M L (some b) hcount ⟨by simpa using h.size,hclosed,by cases o.dst <;> exact h.defers,by cases o.dst <;> simp [Act.put,h.tmps],h.ord,fun k hk=>?_,fun k hk hkw=>?_,fun b' hb'=>?_,.inr ⟨j,r,hre,?_,fun e=>absurd e hji⟩,?_,h.lenL,?_,F2,m1.trans hF2,?_,m3.trans hb2,s1,s2⟩
   ·rw [Yu hni] at hk
    split at hk
    ·rename_i e;subst e;exact .inr ⟨rfl,by simp⟩
    rcases h.done k hk with q|q
    ·exact .inl q
    exact absurd U q.2
   ·rw [Yu hni,h.wild k hk hkw];split <;> rfl
   ·simp only [Option.some.injEq] at hb'
    subst hb'
    refine ⟨?_,by rw [Yu hni,if_pos rfl],hpi⟩
    have:=hio
    rw [h.ord] at this
    exact (List.mem_append.1 this).resolve_left hip
   ·rcases h.next with q|⟨j',r',q,hq,_⟩
    ·rw [hre] at q;simp at q
    rw [hre] at q;simp at q;rw [q.1];exact hq
   ·rw [heq pr (fun _ hk=>hk)];exact h.eops
   ·intro p1 x p2 hsp hx hl
    obtain ⟨ox,fp,k1,k2,k3⟩:=h.steps p1 x p2 hsp hx (hone x hl)
    refine ⟨ox,fp,k1,k2,?_⟩
    rw [heq p1 (fun k hk=>by rw [hsp];simp [hk]),hpv x (by rw [hsp];simp)];exact k3
   refine hi2.perm ?_
   have:(Res.loc b cs0::(M++Mf)).Perm (M++Res.loc b cs0::Mf):=List.perm_middle.symm
   simpa [pdM] using this
  by_cases hiw:i∈ws
  ·-- an operation that writes: it is the next
   have hrest:∃ rest',rest=i::rest':=by
    rcases h.next with q|⟨j,r,q,hjw,qz⟩
    ·exfalso
     subst q
     have:i∈pr:=by have:=h.ord;simp at this;rw [← this];exact hio
     have:=h.wild i this hiw
     rw [hni] at this;simp at this
    by_cases e:j=i
    ·subst e;exact ⟨r,q⟩
    exfalso
    have hjl:j<l.length:=hfl.lt j (by rw [h.ord,q];simp)
    have hsp:ord=pr++j::r:=by rw [h.ord,q]
    have hir:i∈r:=by
     have:=hio
     rw [hsp] at this
     rcases List.mem_append.1 this with k|k
     ·have:=h.wild i k hiw
      rw [hni] at this;simp at this
     rcases List.mem_cons.1 k with k|k
     ·exact absurd k.symm e
     exact k
    have hb:=(befo_split hfl.nodup hsp (k:=i)).2 hir
    rcases hfl.wild j hjw i hil with k|k|k|k
    ·exact e k.symm
    ·rw [hb] at k;simp at k
    ·have:=hanc j k
     rcases h.done j this with this|this
     ·have hnd:=hfl.nodup
      rw [hsp,List.nodup_append] at hnd
      exact hnd.2.2 j this j by18 U
     exact this.2 (qz this.1)
    exact hearly ⟨k,j,r,q,fun e2=>e (by rw [e2,k])⟩
   obtain ⟨rest',rfl⟩:=hrest
   obtain ⟨o',ho',he⟩:=h.eops
   rw [ho] at ho';simp at ho';subst ho'
   have hsp:ord=pr++i::rest':=h.ord
   have hsees:=seesF (pv:=pv) hfl h.size h.closed m4 m5 ho hni hrd hsp
   have hslots:Slots n F0 ((putsI l pv pr al).only (Oper.tmps o)) a.tmps:=by
    refine ⟨h.tmps,fun t v' e=>?_⟩
    rw [only_lookup] at e
    split at e
    ·rename_i hc
     exact hsees t (by unfold Oper.sees;exact List.mem_append_left _ (by simpa using hc)) v' e
    simp at e
   have hip:i∉pr:=by
    intro hh
    have:=hfl.nodup
    rw [hsp,List.nodup_append] at this
    exact this.2.2 i hh i by18 U
   have hpd:∀ b,pd=some b→i≠i0∧i0∈rest':=fun b hb=>by
    obtain ⟨h1,h2,_⟩:=h.pnd b hb
    have hne:i≠i0:=fun e=>by rw [← e,hni] at h2;simp at h2
    exact ⟨hne,(List.mem_cons.1 h1).resolve_left (fun e=>hne e.symm)⟩
   have hpn:pd≠none→i≠i0:=fun hp=>by
    cases hq:pd with
    | none=>exact absurd hq hp
    | some b=>exact (hpd b hq).1
   obtain ⟨MF,hMF⟩:∃ MF,pdM cs0 pd++Mf=MF:=⟨_,rfl⟩
   rw [hMF] at m2
   have fin:∀ (u:Value) (v:AV) (F2:EH) (w':World) (M2:Mem),Rel F2 v u→Ext F0 F2→Inv B F2 (M2++MF) w'→Below B w w'→∀ L':List (Nat × Nat),EOpsF P l ws anc i0 cs0 QQ rest' ((putsI l pv pr al).put o.dst v) M2 L'→(∀ x∈L',x.2<M2.length) →
       (∀ i' fp,lis[i']?=some false→(∀ p,fp=some p→(i',p)∈L)→(fpm M2 fp=fpm M fp∧∀ p,fp=some p→(i',p)∈L')∨i'∈anc.getD i []) →
       wpAnyIn (RF ro) 0 P .any l.toArray Q fuel (lis.setIfInBounds i true) (a.put o.dst u) w':=by
    intro u v F2 w' M2 hr hF2 hi2 hb2 L' heo hml hkeep
    let pv':Nat→AV:=fun x=>if x=i then v else pv x
    have hpv:∀ k∈pr,pv' k=pv k:=fun k hk=>if_neg (fun e=>hip (by rw [← e];exact hk))
    have hpi:pv' i=v:=if_pos rfl
    have hpz:pd≠none→pv' i0=pv i0:=fun hp=>if_neg (fun e=>hpn hp e.symm)
    have heq:putsI l pv' pr al=putsI l pv pr al:=putsI_congr l pv' pv pr al hpv
    obtain ⟨pr2,rest2,pv2,L2,M3,pd3,q1,q2,q3,q0,q4,q5,q6,q7,q8,q9,q10,q11⟩:=advanceF (P:=P) (QQ:=QQ) (al:=al) (anc:=anc) (cs0:=cs0) hfl.nodup hfl.free (lis.setIfInBounds i true) rest' (pr++[i]) pv' L' M2 pd (by rw [hsp];simp) (fun b hb=>⟨(hpd b hb).2,by rw [hpz (by rw [hb];simp)];exact (h.pnd b hb).2.2⟩) (by
     rw [putsI_app,heq]
     simp only [putsI,ho,Option.bind_some,hpi]
     exact heo) hml (by
     intro p1 j p2 hspj hj hl
     have hl':=hone j hl
     rcases List.eq_nil_or_concat p2 with rfl|⟨p2',y,rfl⟩
     ·have e2:pr=p1∧i=j:=by
       have:=List.append_inj' hspj rfl
       exact ⟨this.1,by simpa using this.2⟩
      obtain ⟨rfl,rfl⟩:=e2
      exact absurd hiw hj
     have e3:pr=p1++j::p2':=by
      rw [List.concat_eq_append,show p1++j::(p2'++[y])=(p1++j::p2')++[y] from by simp] at hspj
      exact (List.append_inj' hspj U).1
     obtain ⟨oj,fp,k1,k2,k3⟩:=h.steps p1 j p2' e3 hj hl'
     rcases hkeep j fp hl' k2 with r|r
     ·refine ⟨oj,fp,k1,r.2,?_⟩
      rw [putsI_congr l pv' pv p1 al (fun k hk=>hpv k (by rw [e3];simp [hk])),hpv j (by rw [e3];simp)]
      rw [r.1];exact k3
     have:=hanc j r
     rw [hl'] at this;simp at this)
    have hpvl:∀ k,lis[k]?=some true→pv2 k=pv k:=fun k hk=>by
     rcases h.done k hk with this|this
     ·rw [q6 k (by simp [this]),hpv k this]
     rw [this.1,q11,hpz this.2]
    have hpv2i:pv2 i=v:=by rw [q6 i by18,hpi]
    obtain ⟨s1,s2⟩:=slots_nextF (al:=al) hfl ho hni h.tmps hF2 (pv:=pv) (pv':=pv2) (by rw [hpv2i];exact hr) hpvl m4 m5
    have hl0:pd≠none→(lis.setIfInBounds i true)[i0]?=some true:=fun hp=>by
     cases hq:pd with
     | none=>exact absurd hq hp
     | some b=>rw [Yu hni,(h.pnd b hq).2.1];split <;> rfl
    refine ih _ _ _ pr2 rest2 pv2 M3 L2 pd3 hcount ⟨by simpa using h.size,hclosed,by cases o.dst <;> exact h.defers,by cases o.dst <;> simp [Act.put,h.tmps],q1,fun k hk=>?_,fun k hk hkw=>?_,fun b hb=>?_,q2,q3,q0,q7,F2,m1.trans hF2,?_,m3.trans hb2,s1,s2⟩
    ·rw [Yu hni] at hk
     split at hk
     ·rename_i e;subst e;exact .inl (q4 _ by18)
     rcases h.done k hk with this|this
     ·exact .inl (q4 k (by simp [this]))
     rcases q9 this.2 with r|r
     ·exact .inr ⟨this.1,r⟩
     rw [this.1];exact .inl r
    ·rcases q5 k hk hkw with this|this
     ·rw [Yu hni]
      rcases List.mem_append.1 this with r|r
      ·rw [h.wild k r hkw];split <;> rfl
      simp at r;rw [if_pos r.symm]
     rw [this.1];exact hl0 this.2
    ·obtain ⟨b1,b2⟩:=q8 b hb
     exact ⟨b2,hl0 (by rw [b1];simp),by rw [q11,hpz (by rw [b1];simp)];exact (h.pnd b b1).2.2⟩
    rw [← List.append_assoc,q10,List.append_assoc,hMF];exact hi2
   unfold wpOpIn
   simp only [List.getElem?_toArray,ho]
   by_cases hz:i=i0
   ·rw [if_pos hz] at he
    have hpd0:pd=none:=by
     cases hq:pd with
     | none=>rfl
     | some b=>exact absurd hz (hpd b hq).1
    obtain ⟨hg,hop⟩:=hfree o (by rw [← hz];exact ho)
    rw [if_pos (by simp [Region.wanted,hg])]
    refine wp_exits (Oper.wpIn_mono ?_ (hop n B F0 (M++MF) a w (by simpa using m2) ⟨h.tmps,fun t v e=>by simp at e⟩ ro))
    rintro a' w' ⟨u,v,M',F2,rfl,⟨b,rfl,rfl⟩,hr,hF2,hi2,hb2⟩
    refine fin u (.ptr b 0) F2 w' (M++[.loc b cs0]) hr hF2 (hi2.perm ?_) hb2 L (he b) (fun x hx=>by have:=h.lenL x hx;simp;omega) (fun i' fp hl' hfp=>.inl ⟨fpm_app (fun p hp=>h.lenL (i',p) (hfp p hp)),hfp⟩)
    have:(Res.loc b cs0::(M++MF)).Perm (M++Res.loc b cs0::MF):=List.perm_middle.symm
    simpa using this
   rw [if_neg hz,if_pos (by simpa using hiw)] at he
   obtain ⟨hg,he⟩:=he
   rw [if_pos (by simp [Region.wanted,hg])]
   rcases he with ⟨k,r,hk,hL,hop⟩|hop
   ·have hperm:(M++MF).Perm ([r]++(M.eraseIdx k++MF)):=by
     have:=(perm_at hk).append_right MF
     simpa using this
    have hkl:k<M.length:=get_lt hk
    refine wp_exits (Oper.wpIn_mono ?_ (hop n B F0 (M.eraseIdx k++MF) a w (m2.perm hperm) hslots ro))
    rintro a' w' ⟨u,v,M',F2,rfl,⟨r',rfl,heo⟩,hr,hF2,hi2,hb2⟩
    refine fin u v F2 w' (M.set k r') hr hF2 (hi2.perm ?_) hb2 L heo (by simpa using h.lenL) (fun i' fp hl' hfp=>?_)
    ·have:=((perm_set r' hkl).append_right MF).symm
     simpa using this
    cases fp with
    | none=>exact Or.inl ⟨rfl,hfp⟩
    | some p =>
     by_cases e:p=k
     ·right
      have:=List.all_eq_true.1 hL (i',p) (hfp p rfl)
      simpa [e] using this
     left
     refine ⟨?_,hfp⟩
     simp only [fpm]
     rw [List.getElem?_set_ne (fun q=>e q.symm)]
   refine wp_exits (Oper.wpIn_mono ?_ (hop n B F0 (M++MF) a w (by simpa using m2) hslots ro))
   rintro a' w' ⟨u,v,M',F2,rfl,heo,hr,hF2,hi2,hb2⟩
   refine fin u v F2 w' (M++M') hr hF2 (hi2.perm ?_) hb2 L heo (fun x hx=>by have:=h.lenL x hx;simp;omega) (fun i' fp hl' hfp=>?_)
   ·rw [List.append_assoc]
    exact (List.perm_append_comm_assoc _ _ _)
   exact .inl ⟨fpm_app (fun p hp=>h.lenL (i',p) (hfp p hp)),hfp⟩
  -- an operation that does not write: it has been gone through
  obtain ⟨MF,hMF⟩:∃ MF,pdM cs0 pd++Mf=MF:=⟨_,rfl⟩
  rw [hMF] at m2
  have hiz:i≠i0:=fun e=>hiw (by rw [e];exact hfl.free)
  have hipr:i∈pr:=by
   have:=hio
   rw [h.ord] at this
   rcases List.mem_append.1 this with k|k
   ·exact k
   exfalso
   rcases h.next with q|⟨j,r,q,hjw,qz⟩
   ·rw [q] at k;simp at k
   have hsp:ord=pr++j::r:=by rw [h.ord,q]
   rw [q] at k
   rcases List.mem_cons.1 k with e|e
   ·subst e;exact hiw hjw
   have hb:=(befo_split hfl.nodup hsp (k:=i)).2 e
   rcases hfl.wild j hjw i hil with k|k|k|k
   ·subst k;exact hiw hjw
   ·rw [hb] at k;simp at k
   ·rcases h.done j (hanc j k) with this|this
    ·have hnd:=hfl.nodup
     rw [hsp,List.nodup_append] at hnd
     exact hnd.2.2 j this j by18 U
    exact this.2 (qz this.1)
   exact hiz k
  obtain ⟨p1,p2,hp⟩:=List.append_of_mem hipr
  obtain ⟨o',fp,ho',hfp,hst⟩:=h.steps p1 i p2 hp hiw hni
  rw [ho] at ho';simp at ho';subst ho'
  have hsp:ord=p1++i::(p2++rest):=by rw [h.ord,hp];simp
  have hsees:=seesF (pv:=pv) hfl h.size h.closed m4 m5 ho hni hrd hsp
  have hslots:Slots n F0 ((putsI l pv p1 al).only (Oper.tmps o)) a.tmps:=by
   refine ⟨h.tmps,fun t v' e=>?_⟩
   rw [only_lookup] at e
   split at e
   ·rename_i hc
    exact hsees t (by unfold Oper.sees;exact List.mem_append_left _ (by simpa using hc)) v' e
   simp at e
  have hperm:∃ Mr,(M++MF).Perm (fpm M fp++(Mr++MF))∧M.Perm (fpm M fp++Mr):=by
   cases fp with
   | none=>exact ⟨M,by simp [fpm],by simp [fpm]⟩
   | some k =>
    cases hk:M[k]? with
    | none=>exact ⟨M,by simp [fpm,hk],by simp [fpm,hk]⟩
    | some r =>
     have:=perm_at hk
     refine ⟨M.eraseIdx k,?_,by simpa [fpm,hk] using this⟩
     have:=this.append_right MF
     simpa [fpm,hk] using this
  obtain ⟨Mr,hp1,hp2⟩:=hperm
  have next:∀ (u:Value) (F2:EH) (w':World),Rel F2 (pv i) u→Ext F0 F2→Inv B F2 (M++MF) w'→Below B w w'→wpAnyIn (RF ro) 0 P .any l.toArray Q fuel (lis.setIfInBounds i true) (a.put o.dst u) w':=by
   intro u F2 w' hr hF2 hi2 hb2
   obtain ⟨s1,s2⟩:=slots_nextF (al:=al) hfl ho hni h.tmps hF2 (pv:=pv) (pv':=pv) hr (fun _ _=>rfl) m4 m5
   refine ih _ _ _ pr rest pv M L pd hcount ⟨by simpa using h.size,hclosed,by cases o.dst <;> exact h.defers,by cases o.dst <;> simp [Act.put,h.tmps],h.ord,fun k hk=>?_,fun k hk hkw=>?_,fun b hb=>?_,h.next,h.eops,h.lenL,fun q1 j q2 hq hj hl=>h.steps q1 j q2 hq hj (hone j hl),F2,m1.trans hF2,by rw [hMF];exact hi2,m3.trans hb2,s1,s2⟩
   ·rw [Yu hni] at hk
    split at hk
    ·rename_i e;subst e;exact .inl hipr
    exact h.done k hk
   ·rw [Yu hni,h.wild k hk hkw];split <;> rfl
   obtain ⟨b1,b2,b3⟩:=h.pnd b hb
   exact ⟨b1,by rw [Yu hni,b2];split <;> rfl,b3⟩
  have done:∀ (o':Oper),o'.dst=o.dst→OpT P o' ((putsI l pv p1 al).only (Oper.tmps o)) (fpm M fp) (fun v' M'=>v'=pv i∧M'=fpm M fp)→o'.wpIn (RF ro) 0 P a w (wpAnyIn (RF ro) 0 P .any l.toArray Q fuel (lis.setIfInBounds i true)) Q:=by
   intro o' hd' hop
   refine wp_exits (Oper.wpIn_mono ?_ (hop n B F0 (Mr++MF) a w (m2.perm hp1) hslots ro))
   rintro a' w' ⟨u,v',M',F2,rfl,⟨rfl,rfl⟩,hr,hF2,hi2,hb2⟩
   rw [hd']
   exact next u F2 w' hr hF2 (hi2.perm hp1.symm) hb2
  have skip:pv i=.val undef→wpAnyIn (RF ro) 0 P .any l.toArray Q fuel (lis.setIfInBounds i true) (a.put o.dst undef) w:=by
   intro e
   exact next undef F0 w (by rw [e];exact .val _) (Ext.refl _) m2 (Below.refl _ _)
  unfold wpOpIn
  simp only [List.getElem?_toArray,ho]
  unfold DStep at hst
  cases hg:o.guard with
  | none =>
   rw [hg] at hst
   rw [if_pos (by simp [Region.wanted,hg])]
   exact done o U hst
  | some gb =>
   obtain ⟨g,b⟩:=gb
   rw [hg] at hst
   obtain ⟨t,ht,hst⟩:=hst
   have htin:t∈Oper.sees l o:=by
    unfold Oper.sees
    rw [hg]
    exact List.mem_append_right _ (by simp [ht])
   have slot:∀ x,(putsI l pv p1 al).lookup t=some (.val x)→a.tmps[t]?=some x:=by
    intro x hx
    obtain ⟨q1,q2⟩:=hsees t htin _ hx
    have h4:t<a.tmps.size:=by rw [h.tmps];exact q1
    generalize hy:a.tmps.getD t undef=y at q2
    cases q2
    rw [Array.getElem?_eq_getElem h4]
    simpa [Array.getD,h4] using hy
   have want:∀ x,a.tmps[t]?=some x→Region.wanted o (yielded l.toArray a.tmps)=((match some x with|some (.bool b)=>some b|_=>none) == some b):=by
    intro x hx
    simp only [Region.wanted,hg,yielded,List.getElem?_toArray,ht,Option.bind_some,hx]
    cases x <;> rfl
   obtain ⟨h1,h2⟩|⟨h1,h2⟩:=hst
   ·rw [if_pos (by rw [want _ (slot _ h1)];simp)]
    exact done { o with guard:=none } rfl h2
   rcases h1 with h1|h1
   ·rw [if_neg (by rw [want _ (slot _ h1)];cases b <;> simp)]
    exact ⟨fun _ _=>trivial,skip h2⟩
   rw [if_neg (by rw [want _ (slot _ h1)];simp [undef])]
   exact ⟨fun _ _=>trivial,skip h2⟩
theorem ACode.drawnEF {ro:Option Nat} {Q:Exit→Sl→Mem→Prop} {id:Nat} {M:Mem} (ord ws:List Nat) (anc:List (List Nat)) (i0:Nat) {cs0:List AV} {o0:Oper} {t:TypeId} {z:Value} (hmix:P.follows .mixedOrders=true) (hfl:flowEF n l ord ws anc i0=true) (h0:l[i0]?=some o0) (hg0:o0.guard=none) (hop:o0.op=.alloc t) (hz:tyZero P t=some z) (hf:(AV.val z).flat=true) (hc:(AV.val z).cells=cs0) (h:EOpsF P l ws anc i0 cs0 (Q .normal) ord al M []):ACode ro P n (.region id l.toArray true) Q al M:=by
 intro B F Mf a w hi hs
 have hF:=FlowEF.of hfl
 have hfree:∀ o,l[i0]?=some o→o.guard=none∧OpT P o [] [] (fun v M'=>∃ b,v=.ptr b 0∧M'=[.loc b cs0]):=fun o ho=>by
  rw [h0] at ho;simp at ho;subst ho
  exact ⟨hg0,Yb (M:=[]) hop hz hf hc (fun b=>⟨b,U,U⟩)⟩
 obtain ⟨pr,rest,pv,L,M',pd,q1,q2,q3,q0,_,q5,_,q7,q8,_,q10,_⟩:=advanceF (P:=P) (QQ:=Q .normal) (al:=al) (anc:=anc) (l:=l) (ws:=ws) (cs0:=cs0) hF.nodup hF.free (Array.replicate l.length false) ord [] (fun _=>.val undef) [] M none rfl (fun b hb=>by simp at hb) h by18 (by intro p1 i p2 e;simp at e)
 have hpd:pd=none:=by
  cases hq:pd with
  | none=>rfl
  | some b=>have:=(q8 b hq).1;simp at this
 subst hpd
 simp only [pdM,List.append_nil] at q10
 subst q10
 refine wpIn_region_any hmix (region_flowEF (ds:=a.defers) (P:=P) (QQ:=Q .normal) (al:=al) (B:=B) (F:=F) (Mf:=Mf) (w0:=w) (cs0:=cs0) hF hfree ?_ _ _ _ _ pr rest pv M' L none ?_ ?_)
 ·intro a' w' pr pv M L hat
  obtain ⟨F',m1,m2,m3,m4,m5⟩:=hat.mem
  have he:=hat.eops
  refine ⟨[],F',_,M,he,m1,by simpa [pdM] using m2,⟨hat.tmps,fun t v e=>?_⟩,hat.defers,m3⟩
  have hall:∀ j,j<l.length→(Array.replicate l.length true)[j]?=some true:=fun j hj=>by simp [hj]
  obtain ⟨j,o,k0,k1,k3,k4⟩|⟨k1,k2⟩:=putsI_lookup l pv pr al t
  ·rw [k4] at e
   simp at e;subst e
   exact m5 j o t k1 k3 (hall j (get_lt k1))
  rw [k2] at e
  refine m4 t v e (fun j o hj hdj=>?_)
  rcases hat.done j (hall j (get_lt hj)) with q|q
  ·exact absurd hdj (k1 j o q hj)
  exact absurd U q.2
 ·have:=List.length_filter_le (fun j => !((Array.replicate l.length false)[j]? == some true)) (List.range l.length)
  simpa using this
 have hno:∀ k:Nat,(Array.replicate l.length false)[k]?≠some true:=by
  intro k hk
  rw [Array.getElem?_replicate] at hk;split at hk <;> simp at hk
 refine ⟨by simp,fun k o hk hlk=>absurd hlk (hno k),U,hs.1,q1,fun k hk=>absurd hk (hno k),fun k hk hkw=>?_,fun b hb=>by simp at hb,q2,q3,q0,q7,F,Ext.refl F,by simpa [pdM] using hi.drew,(Below.refl _ _).drew,fun t v e _=>hs.2 t v e,fun j o t hj _ hlj=>absurd hlj (hno j)⟩
 have:=q5 k hk hkw
 simp at this
theorem c_drawnEF {ro:Option Nat} {ks:List Kont} {Q:Exit→Sl→Mem→Prop} {id:Nat} {M:Mem} (ord ws:List Nat) (anc:List (List Nat)) (i0:Nat) {cs0:List AV} {o0:Oper} {t:TypeId} {z:Value} (hmix:P.follows .mixedOrders=true) (hfl:flowEF n l ord ws anc i0=true) (h0:l[i0]?=some o0) (hg0:o0.guard=none) (hop:o0.op=.alloc t) (hz:tyZero P t=some z) (hf:(AV.val z).flat=true) (hc:(AV.val z).cells=cs0) (h:EOpsF P l ws anc i0 cs0 (AGo ro P n ks Q) ord al M []):ACode ro P n (.region id l.toArray true) (after ro P n ks Q) al M:=ACode.drawnEF ord ws anc i0 hmix hfl h0 hg0 hop hz hf hc h
variable {M:Mem} {L:List (Nat × Nat)} {o:Oper}
theorem EOpsF.d {v:AV} {i:Nat} (d:Nat) (fp:Option Nat) (hz:Nat.beq i i0=false) (hi:l[i]?=some o) (hw:ws.contains i=false) (hg:o.guard=none) (hd:o.dst=some d) (hfp:fp.all (fun k=>Nat.blt k M.length)=true) (h:OpT P o (al.only (Oper.tmps o)) (fpm M fp) (fun v' M'=>v'=v∧M'=fpm M fp)) (q:EOpsF P l ws anc i0 cs0 QQ ord ((d,v)::al) M ((fp.toList.map fun k=>(i,k))++L)):EOpsF P l ws anc i0 cs0 QQ (i::ord) al M L :=
 ⟨o,hi,by rw [if_neg (Nat.ne_of_beq_eq_false hz),if_neg (by rw [hw];simp)];exact ⟨fp,v,hfp,by unfold DStep;rw [hg];exact h,by rw [hd];exact q⟩⟩
theorem EOpsF.w {i:Nat} {r:Res} (k:Nat) (hz:Nat.beq i i0=false) (hi:l[i]?=some o) (hw:ws.contains i=true) (hg:o.guard=none) (hr:M[k]?=some r) (hL:(L.all fun x=>x.2 != k ||(anc.getD i []).contains x.1)=true) (h:OpT P o (al.only (Oper.tmps o)) [r] (fun v M'=>∃ r',M'=[r']∧EOpsF P l ws anc i0 cs0 QQ ord (al.put o.dst v) (M.set k r') L)):EOpsF P l ws anc i0 cs0 QQ (i::ord) al M L :=
 ⟨o,hi,by rw [if_neg (Nat.ne_of_beq_eq_false hz),if_pos hw];exact ⟨hg,.inl ⟨k,r,hr,hL,h⟩⟩⟩
theorem EOpsF.nw {i:Nat} (hz:Nat.beq i i0=false) (hi:l[i]?=some o) (hw:ws.contains i=true) (hg:o.guard=none) (h:OpT P o (al.only (Oper.tmps o)) [] (fun v M'=>∃ r',M'=[r']∧EOpsF P l ws anc i0 cs0 QQ ord (al.put o.dst v) (M++[r']) L)):EOpsF P l ws anc i0 cs0 QQ (i::ord) al M L :=
 ⟨o,hi,by rw [if_neg (Nat.ne_of_beq_eq_false hz),if_pos hw];exact ⟨hg,.inr (OpT.mono h (by rintro v M' ⟨r',rfl,h⟩;exact h))⟩⟩
theorem EOpsF.free {i d:Nat} (hz:i=i0) (hi:l[i]?=some o) (hd:o.dst=some d) (q:∀ b,EOpsF P l ws anc i0 cs0 QQ ord ((d,.ptr b 0)::al) (M++[.loc b cs0]) L):EOpsF P l ws anc i0 cs0 QQ (i::ord) al M L :=
 ⟨o,hi,by rw [if_pos hz,hd];exact q⟩

end
theorem head_c (v:En) (x:In) (hb:x.hd.kids.length≤1000000):PCall Tryz.prog 110 [.agg v.cells,.agg x.cells] (.val (.int .i64 (headR v x))):=by
 have HV:=(vars_c x hb).pure
 have HA:=Arity_c v x.hd.name
 obtain ⟨r,hr⟩:∃ r,headR v x=r:=⟨_,rfl⟩
 rw [hr]
 unfold headR at hr
 obtain ⟨ar,har⟩:∃ r,arityR v x.hd.name=r:=⟨_,rfl⟩
 rw [har] at hr HA
 obtain ⟨da,cl,ins⟩:=v
 obtain ⟨xc,⟨hk,hs,hn,hl⟩,xcx,xbs,xp⟩:=x
 have hll:=Ty.cellss_len hl
 have hb:hl.length≤1000000:=hb
 have hr:(if hk≠3∨hs=kArrow∨ar<0 then 127 else if ar≠hl.length then 122 else headL [] hl)=r:=hr
 have hvr:varsR (In.mk xc (Ty.mk hk hs hn hl) xcx xbs xp)=hl.map Ty.name:=rfl
 rw [hvr] at HV
 simp only [En.cells,In.cells,Ty.cells,List.cons_append,List.nil_append,In.hd,Ty.name] at HV HA ⊢
 have hlv:=Ya (hl.map Ty.name)
 rw [List.length_map] at hlv
 refine Zc Tryz.func110 U (by kernel_rfl) U (Wc U) ?_
 refine Qar ?_
 refine Qet ?_
 refine Q1 ?_
 refine Zw 24 (hk≠3∨hs=kArrow∨ar<0) ?_ _ _ U ?_
 ·skip
  refine QaR ?_
  refine Qd ?_
  refine QP ?_;intro c10 h10
  refine Qb ?_
  obtain ⟨rfl,g10⟩|⟨rfl,g10⟩:=Za h10
  ·skip
   refine QaI ?_
   refine QA ?_
   refine Qbf ?_;intro c15 h15
   refine Qv ?_
   obtain ⟨rfl,g15⟩|⟨rfl,g15⟩:=Za h15
   ·skip
    refine Qdj ?_
    refine QaI ?_
    refine QA ?_
    refine Zo 22 U U U U U (Zd (xs:=[.tmp 18,.tmp 21]) U U (HA) by2 ?_)
    refine Qbn ?_;intro c23 h23
    refine Qm ?_
    refine Wa U ?_ by6 by4
    clear HV HA;first|(simp_all;done)|(simp_all;omega)|grind
   skip
   refine Qcz ?_
   refine Wa U ?_ by6 by4
   clear HV HA;first|(simp_all;done)|(simp_all;omega)|grind
  skip
  refine Qx ?_
  refine Qv ?_
  refine Qcz ?_
  refine Wa U ?_ by6 by4
  clear HV HA;first|(simp_all;done)|(simp_all;omega)|grind
 intro c24 h24
 refine Qc ?_
 obtain ⟨rfl,g24⟩|⟨rfl,g24⟩:=Za h24
 ·refine QbK ?_
  rw [if_neg g24] at hr
  refine Q6 ?_
  refine Qct ?_
  refine QbP ?_
  refine Q3 ?_
  refine Zq 29 U U (Zd (xs:=[.tmp 25,.tmp 28]) U U (HA) by2 ⟨U,U⟩) ?_
  refine QbP ?_
  refine Q3 ?_
  refine Qfy ?_
  refine Yj 34 U U (fun _ q=>op_neq U U U q) ?_;intro c34 h34
  show AGo _ _ _ _ _ _ _
  refine Qc ?_
  obtain ⟨rfl,g34⟩|⟨rfl,g34⟩:=Za h34
  ·refine Qp ?_
   rw [if_neg by17] at hr
   refine Qi ?_
   refine Qfz ?_
   refine Zb 36 U U U (Zd (xs:=[.tmp 35]) U U (HV) by2 ?_)
   refine Qae ?_
   apply Zu (rg [(0,3),(4,1),(6,66)]) (σ:=Nat) (fun zz=>match zz with|i=>[(6,.val (.int .i64 i))]) (fun zz=>match zz with|i=>i≤hl.length∧headL ((hl.take i).map Ty.name) (hl.drop i)=r) (fun zz=>match zz with|i=>hl.length - i) (0)
   ·repeat' (first|exact Wf|apply Wd rfl|apply We rfl)
   ·exact ⟨Nat.zero_le _,hr⟩
   ·exact by5
   rintro i hI
   try dsimp only [List.cons_append,List.nil_append] at hI ⊢
   obtain ⟨h1,hu⟩:=hI
   refine QcV ?_;intro n39
   refine Qg ?_;intro c40 h40
   refine Qa ?_
   obtain ⟨rfl,g40⟩|⟨rfl,g40⟩:=Za h40
   ·refine Qad ?_
    rw [Wh by17,headL] at hu;exact Ze rfl rfl (Xu _) by4 ⟨by rw [← hu],rfl⟩
   refine Qk ?_
   obtain ⟨⟨tk,ts,tn,tl⟩,hx⟩:=Zj (l:=hl) (i:=i) by17
   have hcx:=Ty.cellss_get hx
   have hsn:=Yd hx
   have hcn:=Xc (xs:=hl.map Ty.name) (i:=i) (s:=ts) (by rw [List.getElem?_map,hx];rfl)
   have htl:=Ty.cellss_len tl
   rw [Zz hx,headL] at hu
   have hu:(if tk≠1∨0<tl.length∨hasB ((hl.take i).map Ty.name) ts=true then 127 else headL ((hl.take i).map Ty.name++[ts]) (hl.drop (i+1)))=r:=hu
   have HH:=Has_c ((hl.take i).map Ty.name) ts
   rw [List.map_take,← strs_take] at HH
   simp only [Ty.cells] at hcx
   refine c_boold 71 (tk≠1∨0<tl.length∨ts∈(hl.map Ty.name).take i) Yx U ?_ _ _ U ?_
   ·skip
    refine QbP ?_
    refine QaF ?_
    refine Zq 47 U U (Zh U te_22 U (.seq _ _) U U (by first|exact hcx|exact hcn) ⟨U,U⟩) ?_
    refine Q3 ?_
    refine Yj 50 U U (fun _ q=>op_neq U U U q) ?_;intro c50 h50
    refine QF ?_
    obtain ⟨rfl,g50⟩|⟨rfl,g50⟩:=Za h50
    ·skip
     refine QcI ?_
     refine QbN ?_
     refine Ye 56 U U U U (Zh U te_22 U (.seq _ _) U U (by first|exact hcx|exact hcn) ⟨U,U⟩) ?_
     refine Qap ?_
     refine Qex ?_
     refine Yk 60 U U U U (fun _ q=>op_gtr U U U q) ?_;intro c60 h60
     refine Qa1 ?_
     obtain ⟨rfl,g60⟩|⟨rfl,g60⟩:=Za h60
     ·skip
      refine QaT ?_
      refine QaT ?_
      refine Ye 65 U U U U (op_cuth U te_44 U (.seq _ _) U U by17 ⟨U,U⟩) ?_
      refine QaT ?_
      refine QaT ?_
      refine Ye 68 U U U U (Zh U te_44 U (.seq _ _) U U (by first|exact hcx|exact hcn) ⟨U,U⟩) ?_
      refine Qfc ?_
      refine Yk 70 U U U U (fun _ q=>Zg (xs:=[.tmp 65,.tmp 69]) U U (HH) by2 q) ?_;intro c70 h70
      refine QH ?_
      show BoolQ _ _ _ _ _ _
      refine Wa U ?_ by6 by4
      clear HV HA HH;first|(simp_all;done)|(simp_all;omega)|grind
     skip
     refine Qaf ?_
     refine QH ?_
     show BoolQ _ _ _ _ _ _
     refine Wa U ?_ by6 by4
     clear HV HA HH;first|(simp_all;done)|(simp_all;omega)|grind
    skip
    refine Qaf ?_
    refine QcH ?_
    refine Qa1 ?_
    refine Qaf ?_
    refine QH ?_
    show BoolQ _ _ _ _ _ _
    refine Wa U ?_ by6 by4
    clear HV HA HH;first|(simp_all;done)|(simp_all;omega)|grind
   intro c71 h71
   refine Qc ?_
   obtain ⟨rfl,g71⟩|⟨rfl,g71⟩:=Za h71
   ·refine QL ?_
    rw [if_neg (fun q=>g71 (q.imp_right (fun h=>h.imp_right (fun e=>by rw [← List.map_take];exact hasB_iff.1 e))))] at hu;exact ⟨i+1,⟨by omega,by rw [hsn,List.map_append];exact hu⟩,by show hl.length - (i+1)<hl.length - i;omega,by5,by4⟩
   refine QD ?_
   rw [if_pos (g71.imp_right (fun h=>h.imp_right (fun e=>hasB_iff.2 (by rw [List.map_take];exact e))))] at hu;exact Ze rfl rfl (Xu _) by4 ⟨by rw [hu],rfl⟩
  refine QD ?_
  rw [if_pos by17] at hr;exact Ze rfl rfl (Xu _) by4 ⟨by rw [hr],rfl⟩
 refine QD ?_
 rw [if_pos g24] at hr;exact Ze rfl rfl (Xu _) by4 ⟨by rw [hr],rfl⟩
theorem ctx_c11 (v:En) (x:In) (hb:x.hd.kids.length≤1000000) (hcx:x.cx.length≤1000000):PCall Tryz.prog 112 [.agg v.cells,.agg x.cells] (.val (.int .i64 (ctxR v x))):=by
 have HV:=(vars_c x hb).pure
 have HC:=fun c=>Class_c v c
 obtain ⟨r,hr⟩:∃ r,ctxR v x=r:=⟨_,rfl⟩
 rw [hr]
 unfold ctxR at hr
 obtain ⟨ns,hns⟩:∃ l,varsR x=l:=⟨_,rfl⟩
 rw [hns] at hr HV
 obtain ⟨da,cl,ins⟩:=v
 obtain ⟨xc,⟨hk,hs,hn,hl⟩,cx,xbs,xp⟩:=x
 have hll:=Pr.cellss_len cx
 have hcx:cx.length≤1000000:=hcx
 have hr:ctxL0 (En.mk da cl ins) ns [] cx=r:=hr
 simp only [En.cells,In.cells,Ty.cells,List.cons_append,List.nil_append] at HV HC ⊢
 refine Zc Tryz.func112 U (by kernel_rfl) U (Wc U) ?_
 refine Qar ?_
 refine Qet ?_
 refine Qae ?_
 apply Zu (rg [(0,2),(4,61)]) (σ:=Nat) (fun zz=>match zz with|i=>[(5,.val (.int .i64 i))]) (fun zz=>match zz with|i=>i≤cx.length∧ctxL0 (En.mk da cl ins) ns (cx.take i) (cx.drop i)=r) (fun zz=>match zz with|i=>cx.length - i) (0)
 ·repeat' (first|exact Wf|apply Wd rfl|apply We rfl)
 ·exact ⟨Nat.zero_le _,hr⟩
 ·exact by5
 rintro i hI
 try dsimp only [List.cons_append,List.nil_append] at hI ⊢
 obtain ⟨h1,hu⟩:=hI
 refine Qav ?_
 refine QfA ?_;intro n11
 refine Qg ?_;intro c12 h12
 refine Qa ?_
 obtain ⟨rfl,g12⟩|⟨rfl,g12⟩:=Za h12
 ·refine Qad ?_
  rw [Wh by17,ctxL0] at hu;exact Ze rfl rfl (Xu _) by4 ⟨by rw [← hu],rfl⟩
 refine Qk ?_
 obtain ⟨⟨pc,⟨tk,ts,tn,tl⟩⟩,hx⟩:=Zj (l:=cx) (i:=i) by17
 have hcp:=Pr.cellss_get hx
 have hsn:=Yd hx
 rw [Zz hx,ctxL0] at hu
 have hu:(if classI (En.mk da cl ins) pc<0 then 121 else if tk≠1∨hasB ns ts=false then 123 else if ((cx.take i).any fun q=>sameB q.c pc && sameB q.t.name ts)=true then 120 else ctxL0 (En.mk da cl ins) ns (cx.take i++[Pr.mk pc (Ty.mk tk ts tn tl)]) (cx.drop (i+1)))=r:=hu
 simp only [Pr.cells,Ty.cells] at hcp
 have HH:=Has_c ns ts
 refine Qa5 ?_
 refine Zb 18 U U U (Zh U te_120 U (.seq _ _) U U (hcp) (Zb 19 U U U (Zt (cs':=[_,_,_,_,_]) U ta_170 U U U (Zb 6 U U U (Yb (cs':=[_,_,_,_,_]) U tz_170 U U ?_)))));intro b6
 refine Zr U U (Zp (cs':=[_,_,_,_,_]) (i:=0) U ts_170 U U U U U (Wc U) U ?_)
 refine Qa8 ?_
 refine Qbe ?_
 refine Qn ?_
 refine Zb 23 U U U (Zd (xs:=[.tmp 20,.tmp 22]) U U (HC pc) by2 ?_)
 refine Qg ?_;intro c24 h24
 refine Qa ?_
 obtain ⟨rfl,g24⟩|⟨rfl,g24⟩:=Za h24
 ·refine QbK ?_
  rw [if_neg g24] at hu
  refine c_boold 37 (tk≠1∨¬ ts∈ns) Yx U ?_ _ _ U ?_
  ·skip
   refine QbR ?_
   refine Qbv ?_
   refine Yj 28 U U (fun _ q=>op_neq U U U q) ?_;intro c28 h28
   refine QF ?_
   obtain ⟨rfl,g28⟩|⟨rfl,g28⟩:=Za h28
   ·skip
    refine Qgt ?_
    refine Ye 31 U U U U (Zd (xs:=[.tmp 30]) U U (HV) by2 ⟨U,U⟩) ?_
    refine QdX ?_
    refine Qdx ?_
    refine Yk 35 U U U U (fun _ q=>Zg (xs:=[.tmp 31,.tmp 34]) U U (HH) by2 q) ?_;intro c35 h35
    refine Yk 36 U U U U (fun _ q=>Yz U U q) ?_;intro c36 h36
    try replace h36:=Ym h36 h35
    refine QH ?_
    show BoolQ _ _ _ _ _ _
    refine Wa U ?_ by6 by4
    clear HV HC HH;first|(simp_all;done)|grind
   skip
   refine Qbh ?_
   refine Qb3 ?_
   refine QH ?_
   show BoolQ _ _ _ _ _ _
   refine Wa U ?_ by6 by4
   clear HV HC HH;first|(simp_all;done)|grind
  intro c37 h37
  refine Qc ?_
  obtain ⟨rfl,g37⟩|⟨rfl,g37⟩:=Za h37
  ·refine Qp ?_
   rw [if_neg (fun q=>g37 (q.imp_right (fun e h=>by rw [hasB_iff.2 h] at e;simp at e)))] at hu
   refine QaN ?_
   apply Zu (rg [(0,2),(4,1),(7,1),(38,27)]) (σ:=Nat) (fun zz=>match zz with|j=>[(7,.val (.int .i64 j))]) (fun zz=>match zz with|j=>j≤i∧∀ q∈cx.take j,¬ (q.c=pc∧q.t.name=ts)) (fun zz=>match zz with|j=>i - j) (0)
   ·repeat' (first|exact Wf|apply Wd rfl|apply We rfl)
   ·exact ⟨Nat.zero_le _,by simp⟩
   ·exact by5
   rintro j hI
   try dsimp only [List.cons_append,List.nil_append] at hI ⊢
   obtain ⟨h2,hn⟩:=hI
   refine QaA ?_
   refine Qg ?_;intro c40 h40
   refine Qa ?_
   obtain ⟨rfl,g40⟩|⟨rfl,g40⟩:=Za h40
   ·refine Qdv ?_
    obtain rfl:j=i:=by omega
    rw [if_neg (fun q=>by obtain ⟨y,hy1,hy2⟩:=List.any_eq_true.1 q;simp only [Bool.and_eq_true,Yt] at hy2;exact hn y hy1 hy2)] at hu
    exact ⟨j+1,⟨by omega,by rw [hsn];exact hu⟩,by show cx.length - (j+1)<cx.length - j;omega,by5,(Xr _ (Xo _))⟩
   refine Qk ?_
   obtain ⟨⟨qc,⟨qk,qs,qn,ql⟩⟩,hy⟩:=Zj (l:=cx) (i:=j) by17
   have hcq:=Pr.cellss_get hy
   have hsy:=Yd hy
   simp only [Pr.cells,Ty.cells] at hcq
   refine c_boold 64 (qc=pc∧qs=ts) Yx U ?_ _ _ U ?_
   ·skip
    refine QaF ?_
    refine Zq 46 U U (Zh U te_120 U (.seq _ _) U U (hcq) ⟨U,U⟩) ?_
    refine Q3 ?_
    refine Qbv ?_
    refine Yj 51 U U (fun _ q=>op_seql U U U q) ?_;intro c51 h51
    refine QF ?_
    obtain ⟨rfl,g51⟩|⟨rfl,g51⟩:=Za h51
    ·skip
     refine Qaf ?_
     refine Qb3 ?_
     refine QH ?_
     show BoolQ _ _ _ _ _ _
     refine Wa U ?_ by6 by4
     clear HV HC HH;first|(simp_all;done)|grind
    skip
    refine QbN ?_
    refine Ye 56 U U U U (Zh U te_120 U (.seq _ _) U U (hcq) ⟨U,U⟩) ?_
    refine QcI ?_
    refine Qap ?_
    refine QdX ?_
    refine Qdx ?_
    refine Yk 63 U U U U (fun _ q=>op_seql U U U q) ?_;intro c63 h63
    refine QH ?_
    show BoolQ _ _ _ _ _ _
    refine Wa U ?_ by6 by4
    clear HV HC HH;first|(simp_all;done)|grind
   intro c64 h64
   refine Qc ?_
   obtain ⟨rfl,g64⟩|⟨rfl,g64⟩:=Za h64
   ·refine QL ?_
    exact ⟨j+1,⟨by omega,by rw [hsy];intro q hq;rcases List.mem_append.1 hq with h|h;exact hn q h;rw [List.mem_singleton.1 h];exact g64⟩,by show i - (j+1)<i - j;omega,by5,by4⟩
   refine QD ?_
   have htk:(cx.take i)[j]?=some (Pr.mk qc (Ty.mk qk qs qn ql)):=by rw [List.getElem?_take_of_lt by17];exact hy
   rw [if_pos (List.any_eq_true.2 ⟨_,Wg htk,by simp only [Bool.and_eq_true,Yt];exact g64⟩)] at hu;exact Ze rfl rfl (Xu _) by4 ⟨by rw [hu],rfl⟩
  refine QD ?_
  rw [if_pos (g37.imp_right hasB_no)] at hu;exact Ze rfl rfl (Xu _) by4 ⟨by rw [hu],rfl⟩
 refine QD ?_
 rw [if_pos g24] at hu;exact Ze rfl rfl (Xu _) by4 ⟨by rw [hu],rfl⟩
theorem instance_c (v:En) (hv:EnB v) (i:Nat) (x:In) (hx:v.ins[i]?=some x):PCall Tryz.prog 63 [.agg v.cells,.val (.int .i64 i)] (faultA (instR v i x)):=by
 obtain ⟨hcx1,hbs1,hkd1⟩:=hv.inss x (Wg hx)
 have HC:=Class_c v x.c
 have HH:=head_c v x by17
 have HI:=Inst_c v x.c x.hd.name
 have HX:=ctx_c11 v x by17 by17
 have hcc:=findI_cases (fun (c:Cl)=>sameB c.s x.c) v.cl 0
 have hcl:=findI_lt (fun (c:Cl)=>sameB c.s x.c) v.cl 0
 have hci:classI v x.c=findI (fun (c:Cl)=>sameB c.s x.c) v.cl 0:=rfl
 rw [← hci] at hcc hcl
 have hcls:=hv.cls
 obtain ⟨r,hr⟩:∃ r,instR v i x=r:=⟨_,rfl⟩
 rw [hr]
 unfold instR instR1 at hr
 obtain ⟨ci,hce⟩:∃ c,classI v x.c=c:=⟨_,rfl⟩
 obtain ⟨he,hhe⟩:∃ c,headR v x=c:=⟨_,rfl⟩
 obtain ⟨ii,hie⟩:∃ c,instI v x.c x.hd.name=c:=⟨_,rfl⟩
 obtain ⟨ce,hxe⟩:∃ c,ctxR v x=c:=⟨_,rfl⟩
 rw [hce] at HC hcc hcl hr
 rw [hhe] at HH hr
 rw [hie] at HI hr
 rw [hxe] at HX hr
 clear hci
 have hgi:=In.cellss_get hx
 obtain ⟨da,cl,ins⟩:=v
 have hi:=get_lt hx
 simp only [En.cl,En.ins] at hcl hcls hr hgi hi
 have hlc:=Cl.cellss_len cl
 have hli:=In.cellss_len ins
 obtain ⟨xc,⟨hk,hs,hn,hl⟩,cx,xbs,xp⟩:=x
 simp only [En.cells,In.cells,Ty.cells,List.cons_append,List.nil_append,In.c,In.hd,In.p,In.bs,Ty.name] at HC HH HI HX hr hgi hbs1 ⊢
 have hlb:=Bi.cellss_len xbs
 refine Zc Tryz.func63 U (by kernel_rfl) U (Wc U) ?_
 refine Qar ?_
 refine Qd0 ?_;intro b4
 refine Qu ?_
 refine QT ?_
 refine Zb 15 U U U (Zh U te_39 U (.seq _ _) U U (hgi) ?_)
 refine Qfz ?_
 refine QfB ?_;intro b5
 refine Qgu ?_
 refine Qu ?_
 refine Qbe ?_
 refine Qn ?_
 refine Zb 20 U U U (Zd (xs:=[.tmp 17,.tmp 19]) U U (HC) by2 ?_)
 refine QU ?_
 refine Qg ?_;intro c22 h22
 refine Qa ?_
 obtain ⟨rfl,g22⟩|⟨rfl,g22⟩:=Za h22
 ·refine Qp ?_
  rw [if_neg g22] at hr
  obtain ⟨c,hc⟩:=Zj (l:=cl) (i:=ci.toNat) by17
  rw [hc] at hr
  simp only [] at hr
  obtain ⟨hsu1,hms1,hds1,_⟩:=hcls c (Wg hc)
  have hcc2:=Cl.cellss_get hc
  have HB:=binds_c xbs c by17 by17
  have HN:=(names_c c by17).pure
  have HB1:=Bnd_c xbs by17
  have HB2:=Bnd_c c.ds by17
  obtain ⟨cs,cv,csu,cms,cds,cp⟩:=c
  have hms1:cms.length≤100000:=hms1
  have hds1:cds.length≤100000:=hds1
  have hr:(if he≠0 then (he,xp) else if ii<(i:Int) then ((125:Int),xp) else if ce≠0 then (ce,xp) else if (bndR (cms.map Me.s) [] xbs).1≠0 then bndR (cms.map Me.s) [] xbs else if missB (xbs.map Bi.s++cds.map Bi.s) (cms.map Me.s)=true then (128,xp) else f0)=r:=hr
  simp only [faultA,Cl.cells,Cl.ds,Cl.ms] at HB HN HB2 hcc2
  obtain ⟨⟨be,ba⟩,hbe⟩:∃ b,bndR (cms.map Me.s) [] xbs=b:=⟨_,rfl⟩
  rw [hbe] at HB hr
  obtain ⟨ns,hns⟩:∃ l,cms.map Me.s=l:=⟨_,rfl⟩
  rw [hns] at HN hr
  have hlns:ns.length≤100000:=by rw [← hns,List.length_map];omega
  simp only [] at hr HB
  obtain ⟨own,hown⟩:∃ l,xbs.map Bi.s++cds.map Bi.s=l:=⟨_,rfl⟩
  rw [hown] at hr
  have hlo:own.length≤200000:=by rw [← hown];simp;omega
  have hsl1:=Ya (xbs.map Bi.s)
  have hsl2:=Ya (cds.map Bi.s)
  rw [List.length_map] at hsl1 hsl2
  have hsn1:=Ya ns
  refine Qi ?_
  refine Qbe ?_
  refine Qgv ?_
  refine Zb 28 U U U (Zd (xs:=[.tmp 26,.tmp 27]) U U (HH) by2 ?_)
  refine QU ?_
  refine QP ?_;intro c30 h30
  refine Qa ?_
  obtain ⟨rfl,g30⟩|⟨rfl,g30⟩:=Za h30
  ·refine QbK ?_
   rw [if_neg g30] at hr
   refine Qi ?_
   refine Qbe ?_
   refine Qn ?_
   refine Qt ?_
   refine Qn ?_
   refine Zb 41 U U U (Zd (xs:=[.tmp 35,.tmp 37,.tmp 40]) U U (HI) by2 ?_)
   refine Qb ?_
   refine Qg ?_;intro c43 h43
   refine Qa ?_
   obtain ⟨rfl,g43⟩|⟨rfl,g43⟩:=Za h43
   ·refine Qp ?_
    rw [if_neg g43] at hr
    refine Qi ?_
    refine Qbe ?_
    refine Qgv ?_
    refine Zb 49 U U U (Zd (xs:=[.tmp 47,.tmp 48]) U U (HX) by2 ?_)
    refine QU ?_
    refine QP ?_;intro c51 h51
    refine Qa ?_
    obtain ⟨rfl,g51⟩|⟨rfl,g51⟩:=Za h51
    ·refine Qp ?_
     rw [if_neg g51] at hr
     refine Yh [0,1,2,3,4,5,6,7,8,9] [8,9] [[],[0],[],[2],[],[2,3,4],[2,3,4,5],[0,1,2,3,4,5,6],[],[0,1,2,3,4,5,6,7,8]] Yx U ?_
     refine Qa7 ?_
     refine QaL ?_
     refine Qw ?_
     refine Qgw ?_
     refine Zi 62 (none) (i:=6) U U U U U (Zt (cs':=[_,_,_,_,_,_]) U ta_118 U U U ⟨U,U⟩) ?_
     refine Zi 63 (none) (i:=7) U U U U U (Zd (xs:=[.tmp 57,.tmp 62]) U U (HB) by2 ⟨U,U⟩) ?_
     refine Xa (i:=8) U U U (Yb (cs':=[_,_]) U tz_85 U U (fun b8=>⟨_,U,?_⟩))
     refine Yc 2 (i:=9) U U U U U (Zp (cs':=[_,_]) (i:=0) U ts_85 U U U U U (Wc U) U ⟨_,U,?_⟩)
     show AGo _ _ _ _ _ _ _
     refine Qbd ?_
     refine Ql ?_
     refine Qb2 ?_
     refine QP ?_;intro c66 h66
     refine Qa ?_
     obtain ⟨rfl,g66⟩|⟨rfl,g66⟩:=Za h66
     ·refine Qp ?_
      rw [if_neg g66] at hr
      refine Yh [0,1,3,4,5,6,7,8,2,9,10,11] [2,9,10] [[],[0],[0,1],[],[3],[],[3,4,5],[3,4,5,6],[3,4,5,6,7],[0,1,2,3,4,5,6,7,8],[0,1,2,3,4,5,6,7,8,9],[0,1,2,3,4,5,6,7,8,9,10]] Yx U ?_
      refine Qa7 ?_
      refine QaL ?_
      refine Qw ?_
      refine Qgw ?_
      refine QaL ?_
      refine Xa (i:=2) U U U (op_callo (xs:=[.tmp 69]) U U (HB1) by2 (fun u70=>⟨_,U,?_⟩))
      refine Xa (i:=9) U U U (op_callo (xs:=[.tmp 76]) U U (HB2) by2 (fun u77=>⟨_,U,?_⟩))
      refine Yc 3 (i:=10) U U U U U (Zv (i:=0) Yy U U U U (.own _ _ _) by7 (fun u78=>⟨_,U,?_⟩))
      refine QZ ?_
      show AGo _ _ _ _ _ _ _
      refine Qdy ?_
      refine QT ?_
      refine Zb 82 U U U (Zh (i:=ci.toNat) U te_38 U (.seq _ _) U by11 (hcc2) ?_)
      refine Qew ?_
      refine Zb 84 U U U (Zd (xs:=[.tmp 83]) U U (HN) by2 ?_)
      refine Q1 ?_
      obtain ⟨ms,hms⟩:∃ b,missB own ns=b:=⟨_,rfl⟩
      rw [hms] at hr
      have hso:strs (xbs.map Bi.s)++strs (cds.map Bi.s)=strs own:=by rw [← Xm,hown]
      refine QaN ?_
      refine c_le (al':=[(1,.val (.int .i64 i)),(2,.cptr [.seq 5 (Da.cellss da),.seq 6 (Cl.cellss cl),.seq 8 (In.cellss ins)]),(4,.ptr b4 0),(5,.ptr b5 0),(9,.seq 1 (strs own)),(10,.seq 1 (strs ns)),(11,.val (.int .i64 0))]) (by first|(repeat' (first|exact Xz _|refine Xy U ?_ ?_|exact Xu _|exact Le.own_seq hso|exact Le.own _ _ _))) (Xo _) ?_
      apply Zu (rg [(0,4),(6,3),(11,90)]) (σ:=Nat) (fun zz=>match zz with|k=>[(11,.val (.int .i64 k))]) (fun zz=>match zz with|k=>k≤ns.length∧missB own (ns.drop k)=ms) (fun zz=>match zz with|k=>ns.length - k) (0)
      ·repeat' (first|exact Wf|apply Wd rfl|apply We rfl)
      ·exact ⟨Nat.zero_le _,hms⟩
      ·exact by5
      rintro k hI
      try dsimp only [List.cons_append,List.nil_append] at hI ⊢
      obtain ⟨k1,hk⟩:=hI
      refine QcV ?_;intro n87
      refine Qg ?_;intro c88 h88
      refine Qa ?_
      obtain ⟨rfl,g88⟩|⟨rfl,g88⟩:=Za h88
      ·refine Qa3 ?_
       refine Qev ?_
       refine Qch ?_
       rw [Wh by17,missB] at hk;rw [if_neg (by rw [← hk];simp)] at hr;subst hr;first|exact Zk (i:=1) rfl rfl rfl Xf rfl (Xu _) (Xp _) ⟨rfl,rfl⟩|exact Zk (i:=2) rfl rfl rfl Xf rfl (Xu _) (Xp _) ⟨rfl,rfl⟩
      refine Qk ?_
      obtain ⟨s,hxs⟩:=Zj (l:=ns) (i:=k) by8
      have hcs:=Xc hxs
      have hms:=Wg hxs
      rw [Zz hxs,missB] at hk
      refine QaO ?_
      refine Qfp ?_
      refine QaG ?_
      refine Zb 96 U U U (Zg (xs:=[.tmp 91,.tmp 95]) U U (Has_c own s) by2 ?_);intro c96 h96
      refine Q5 ?_;intro c97 h97
      try replace h97:=Ym h97 h96
      refine Qa ?_
      obtain ⟨rfl,g97⟩|⟨rfl,g97⟩:=Za h97
      ·refine QL ?_
       rw [if_neg (by rw [hasB_iff.2 (Classical.not_not.1 g97)];simp)] at hk;exact ⟨k+1,⟨by omega,hk⟩,by show ns.length - (k+1)<ns.length - k;omega,by5,by4⟩
      refine Qcg ?_
      refine Zb 100 U U U (Zm (ns:=[0,1]) (xs:=[.const (.int .i64 128),.tmp 99]) U tz_85 U tfl_85 U U U U ?_)
      refine Qch ?_
      rw [if_pos (hasB_no g97)] at hk;rw [if_pos hk.symm] at hr;subst hr;first|exact Zk (i:=1) rfl rfl rfl Xf rfl (Xu _) (Xp _) ⟨rfl,rfl⟩|exact Zk (i:=2) rfl rfl rfl Xf rfl (Xu _) (Xp _) ⟨rfl,rfl⟩
     refine Qq ?_
     refine Zb 67 U U U (Zs (cs':=[_,_]) (i:=2) U Xf U U U U ?_)
     refine Qch ?_
     rw [if_pos g66] at hr;subst hr;exact Zk (i:=1) rfl rfl rfl Xf rfl (Xu _) (Xp _) ⟨rfl,rfl⟩
    refine QaW ?_
    refine Qn ?_
    refine Zb 55 U U U (Zm (ns:=[0,1]) (xs:=[.tmp 52,.tmp 54]) U tz_85 U tfl_85 U U U U ?_)
    refine Qch ?_
    rw [if_pos g51] at hr;subst hr;exact Zk (i:=1) rfl rfl rfl Xf rfl (Xu _) (Xp _) ⟨rfl,rfl⟩
   refine Qcg ?_
   refine Zb 46 U U U (Zm (ns:=[0,1]) (xs:=[.const (.int .i64 125),.tmp 45]) U tz_85 U tfl_85 U U U U ?_)
   refine Qch ?_
   rw [if_pos g43] at hr;subst hr;exact Zk (i:=1) rfl rfl rfl Xf rfl (Xu _) (Xp _) ⟨rfl,rfl⟩
  refine QaW ?_
  refine Qn ?_
  refine Zb 34 U U U (Zm (ns:=[0,1]) (xs:=[.tmp 31,.tmp 33]) U tz_85 U tfl_85 U U U U ?_)
  refine Qch ?_
  rw [if_pos g30] at hr;subst hr;exact Zk (i:=1) rfl rfl rfl Xf rfl (Xu _) (Xp _) ⟨rfl,rfl⟩
 refine Qcg ?_
 refine Zb 25 U U U (Zm (ns:=[0,1]) (xs:=[.const (.int .i64 121),.tmp 24]) U tz_85 U tfl_85 U U U U ?_)
 refine Qch ?_
 rw [if_pos g22] at hr;subst hr;exact Zk (i:=1) rfl rfl rfl Xf rfl (Xu _) (Xp _) ⟨rfl,rfl⟩
theorem given_c (v:En) (hv:EnB v) (x:In) (hcx:x.cx.length≤1000000) (c n:ByteArray):BCall Tryz.prog 114 [.agg v.cells,.agg x.cells,.val (.string c),.val (.string n)] (givenR v x c n=true):=by
 have HA:=fun d=>(Above_c v hv.sup d).pure
 have hgv:givenR v x c n=true↔∃ p∈x.cx,p.t.name=n∧(p.c=c∨c∈aboveR v p.c):=by
  unfold givenR
  rw [List.any_eq_true]
  constructor
  ·rintro ⟨p,hp,h⟩
   simp only [Bool.and_eq_true,Bool.or_eq_true,Yt,hasB_iff] at h
   exact ⟨p,hp,h⟩
  rintro ⟨p,hp,h⟩
  exact ⟨p,hp,by simp only [Bool.and_eq_true,Bool.or_eq_true,Yt,hasB_iff];exact h⟩
 generalize givenR v x c n=g at *
 obtain ⟨da,cl,ins⟩:=v
 obtain ⟨xc,⟨hk,hs,hn,hl⟩,cx,xbs,xp⟩:=x
 have hll:=Pr.cellss_len cx
 simp only [In.cx] at hcx hgv
 simp only [En.cells,In.cells,Ty.cells,List.cons_append,List.nil_append] at HA ⊢
 refine Zc Tryz.func114 U (by kernel_rfl) U (Wc U) ?_
 refine Qar ?_
 refine Qet ?_
 refine Qae ?_
 apply Zu (rg [(0,2),(6,42)]) (σ:=Nat) (fun zz=>match zz with|i=>[(9,.val (.int .i64 i))]) (fun zz=>match zz with|i=>i≤cx.length∧∀ p∈cx.take i,¬ (p.t.name=n∧(p.c=c∨c∈aboveR (En.mk da cl ins) p.c))) (fun zz=>match zz with|i=>cx.length - i) (0)
 ·repeat' (first|exact Wf|apply Wd rfl|apply We rfl)
 ·exact ⟨Nat.zero_le _,by simp⟩
 ·exact by5
 rintro i hI
 try dsimp only [List.cons_append,List.nil_append] at hI ⊢
 obtain ⟨h1,hu⟩:=hI
 refine Qav ?_
 refine QfA ?_;intro n13
 refine Qg ?_;intro c14 h14
 refine Qa ?_
 obtain ⟨rfl,g14⟩|⟨rfl,g14⟩:=Za h14
 ·refine Qad ?_
  rw [List.take_of_length_le by17] at hu;exact Ze rfl rfl (Xu _) by4 ⟨⟨_,iff_f (fun q=>by obtain ⟨p,hp,h⟩:=hgv.1 q;exact hu p hp h),rfl⟩,rfl⟩
 refine Qk ?_
 obtain ⟨⟨pc,⟨tk,ts,tn,tl⟩⟩,hx⟩:=Zj (l:=cx) (i:=i) by17
 have hcp:=Pr.cellss_get hx
 have hsn:=Yd hx
 simp only [Pr.cells,Ty.cells] at hcp
 have HH:=Has_c (aboveR (En.mk da cl ins) pc) c
 refine c_boold 47 (ts=n∧(pc=c∨c∈aboveR (En.mk da cl ins) pc)) Yx U ?_ _ _ U ?_
 ·skip
  refine QaF ?_
  refine Zq 20 U U (Zh U te_120 U (.seq _ _) U U (hcp) ⟨U,U⟩) ?_
  refine QbP ?_
  refine QaF ?_
  refine Yj 25 U U (fun _ q=>op_seql U U U q) ?_;intro c25 h25
  refine QF ?_
  obtain ⟨rfl,g25⟩|⟨rfl,g25⟩:=Za h25
  ·skip
   refine Qaf ?_
   refine QcH ?_
   refine QcM ?_
   refine QcM ?_
   refine QcM ?_
   refine QcM ?_
   refine QcM ?_
   refine QcM ?_
   refine QcM ?_
   refine QcM ?_
   refine QcM ?_
   refine QcM ?_
   refine QcH ?_
   refine QH ?_
   show BoolQ _ _ _ _ _ _
   refine Wa U ?_ by6 by4
   clear HA HH hgv;first|(simp_all;done)|grind
  skip
  refine QbN ?_
  refine Qgx ?_
  refine QbN ?_
  refine Yk 34 U U U U (fun _ q=>op_seql U U U q) ?_;intro c34 h34
  refine QaT ?_
  obtain ⟨rfl,g34⟩|⟨rfl,g34⟩:=Za h34
  ·skip
   refine QfC ?_
   refine QbN ?_
   refine Qgx ?_
   refine Qap ?_
   refine Ye 43 U U U U (Zd (xs:=[.tmp 36,.tmp 42]) U U (HA pc) by2 ⟨U,U⟩) ?_
   refine QaT ?_
   refine Yk 45 U U U U (fun _ q=>Zg (xs:=[.tmp 43,.tmp 44]) U U (HH) by2 q) ?_;intro c45 h45
   refine Ye 46 U U U U (op_pick U U U ⟨U,U⟩) ?_
   refine QH ?_
   show BoolQ _ _ _ _ _ _
   refine Wa U ?_ by6 by4
   clear HA HH hgv;first|(simp_all;done)|grind
  skip
  refine Qaf ?_
  refine Qca ?_
  refine Ye 46 U U U U (op_pick U U U ⟨U,U⟩) ?_
  refine QH ?_
  show BoolQ _ _ _ _ _ _
  refine Wa U ?_ by6 by4
  clear HA HH hgv;first|(simp_all;done)|grind
 intro c47 h47
 refine Qc ?_
 obtain ⟨rfl,g47⟩|⟨rfl,g47⟩:=Za h47
 ·refine QL ?_
  exact ⟨i+1,⟨by omega,by rw [hsn];intro q hq;rcases List.mem_append.1 hq with h|h;exact hu q h;rw [List.mem_singleton.1 h];exact g47⟩,by show cx.length - (i+1)<cx.length - i;omega,by5,by4⟩
 refine QD ?_
 exact Ze U U (Xu _) by4 ⟨⟨_,iff_t (hgv.2 ⟨_,Wg hx,g47⟩),U⟩,U⟩
theorem headR_ar {v:En} {x:In} (h:headR v x=0):arityR v x.hd.name=x.hd.kids.length:=by
 unfold headR at h
 by_cases h1:x.hd.kind≠3∨x.hd.name=kArrow∨arityR v x.hd.name<0
 ·rw [if_pos h1] at h;simp at h
 rw [if_neg h1] at h
 by_cases h2:arityR v x.hd.name≠x.hd.kids.length
 ·rw [if_pos h2] at h;simp at h
 exact Classical.not_not.1 h2
theorem instI_hit {v:En} {c s:ByteArray} (h:0≤instI v c s):∃ y,v.ins[(instI v c s).toNat]?=some y∧y.c=c∧y.hd.name=s:=by
 obtain ⟨y,h1,h2,_⟩:=findI_get (fun (x:In)=>sameB x.c c && sameB x.hd.name s) v.ins 0 h
 simp only [Bool.and_eq_true,Yt] at h2
 exact ⟨y,h1,h2.1,h2.2⟩
theorem supers_c (v:En) (hv:EnB v) (x:In) (hx:x∈v.ins) (hci:0≤classI v x.c) (hh:∀ y∈v.ins,headR v y=0):BCall Tryz.prog 64 [.agg v.cells,.agg x.cells] (supersR v x=true):=by
 obtain ⟨hcx1,hbs1,hkd1⟩:=hv.inss x hx
 have hin:=hv.inss
 have HC:=Class_c v x.c
 have HG:=fun c n=>given_c v hv x by17 c n
 have HI:=fun s=>Inst_c v s x.hd.name
 have hii:=fun s=>instI_hit (v:=v) (c:=s) (s:=x.hd.name)
 have hcl:=findI_lt (fun (c:Cl)=>sameB c.s x.c) v.cl 0
 have hcf:classI v x.c=findI (fun (c:Cl)=>sameB c.s x.c) v.cl 0:=rfl
 rw [← hcf] at hcl
 have hxa:=headR_ar (hh x hx)
 have hya:∀ y∈v.ins,y.hd.name=x.hd.name→y.hd.kids.length=x.hd.kids.length:=fun y hy e=>by
  have:=headR_ar (hh y hy)
  rw [e,hxa] at this
  omega
 obtain ⟨r,hr⟩:∃ r,supersR v x=r:=⟨_,rfl⟩
 rw [hr]
 unfold supersR supersOf at hr
 obtain ⟨ci,hce⟩:∃ c,classI v x.c=c:=⟨_,rfl⟩
 rw [hce] at HC hcl hci hr
 clear hcf
 have hcl1:=hv.cls
 obtain ⟨c,hc⟩:=Zj (l:=v.cl) (i:=ci.toNat) by17
 obtain ⟨hsu1,_⟩:=hcl1 c (Wg hc)
 rw [hc] at hr
 simp only [Option.map_some,Option.getD_some] at hr
 have hcc:=Cl.cellss_get hc
 obtain ⟨cs,cv,csu,cms,cds,cp⟩:=c
 have hsu1:csu.length≤100000:=hsu1
 have hlsu:=Ya csu
 have hr:supC v x csu=r:=hr
 obtain ⟨da,cl,ins⟩:=v
 obtain ⟨xc,⟨hk,hs,hn,hl⟩,xcx,xbs,xp⟩:=x
 have hlc:=Cl.cellss_len cl
 have hli:=In.cellss_len ins
 have hlh:=Ty.cellss_len hl
 have hki:hl.length≤200000:=hkd1
 simp only [En.ins,En.cl,In.hd,Ty.name,Ty.kids] at hii hya hin hcl
 simp only [En.cells,In.cells,Ty.cells,List.cons_append,List.nil_append,In.c,In.hd,Ty.name,En.cl] at HC HG HI hcc hcl ⊢
 refine Zc Tryz.func64 U (by kernel_rfl) U (Wc U) ?_
 refine Qar ?_
 refine Qet ?_
 refine QG ?_
 refine Q6 ?_
 refine Q3 ?_
 refine Qct ?_
 refine Q3 ?_
 refine Zq 16 U U (Zd (xs:=[.tmp 13,.tmp 15]) U U (HC) by2 ⟨U,U⟩) ?_
 refine Zq 17 U U (Zh (i:=ci.toNat) U te_38 U (.seq _ _) U by11 (hcc) ⟨U,U⟩) ?_
 refine Q3 ?_
 refine Qcn ?_
 show AGo _ _ _ _ _ _ _
 refine Qbd ?_
 refine Ql ?_
 refine Qab ?_
 apply Zu (rg [(0,2),(4,1),(6,85)]) (σ:=Nat) (fun zz=>match zz with|i=>[(6,.val (.int .i64 i))]) (fun zz=>match zz with|i=>i≤csu.length∧supC (En.mk da cl ins) (In.mk xc (Ty.mk hk hs hn hl) xcx xbs xp) (csu.drop i)=r) (fun zz=>match zz with|i=>csu.length - i) (0)
 ·repeat' (first|exact Wf|apply Wd rfl|apply We rfl)
 ·exact ⟨Nat.zero_le _,hr⟩
 ·exact by5
 rintro i hI
 try dsimp only [List.cons_append,List.nil_append] at hI ⊢
 obtain ⟨h1,hu⟩:=hI
 refine QcV ?_;intro n22
 refine Qg ?_;intro c23 h23
 refine Qa ?_
 obtain ⟨rfl,g23⟩|⟨rfl,g23⟩:=Za h23
 ·refine Qad ?_
  rw [Wh by17,supC] at hu;exact Ze rfl rfl (Xu _) (Xp _) ⟨⟨_,iff_t hu.symm,rfl⟩,rfl⟩
 refine Qk ?_
 obtain ⟨s,hxs⟩:=Zj (l:=csu) (i:=i) by8
 have hcs:=Xc hxs
 have hms:=Wg hxs
 rw [Zz hxs,supC] at hu
 have HI1:=HI s
 have hii1:=hii s
 obtain ⟨ii,hie⟩:∃ c,instI (En.mk da cl ins) s hs=c:=⟨_,rfl⟩
 have hu:(match ins[(instI (En.mk da cl ins) s hs).toNat]? with|none=>false|some y=>if instI (En.mk da cl ins) s hs<0 then false else if supB (En.mk da cl ins) (In.mk xc (Ty.mk hk hs hn hl) xcx xbs xp) y y.cx=false then false else supC (En.mk da cl ins) (In.mk xc (Ty.mk hk hs hn hl) xcx xbs xp) (csu.drop (i+1)))=r:=hu
 rw [hie] at hu HI1 hii1
 refine Q6 ?_
 refine Qct ?_
 refine QbZ ?_
 refine Qfu ?_
 refine QdV ?_
 refine QbP ?_
 refine Q3 ?_
 refine Zq 34 U U (Zd (xs:=[.tmp 26,.tmp 30,.tmp 33]) U U (HI1) by2 ⟨U,U⟩) ?_
 refine Qcn ?_
 show AGo _ _ _ _ _ _ _
 refine Qc ?_
 refine QS ?_
 refine Qg ?_;intro c36 h36
 refine Qa ?_
 obtain ⟨rfl,g36⟩|⟨rfl,g36⟩:=Za h36
 ·refine Qp ?_
  obtain ⟨y,hy,hyc,hyn⟩:=hii1 by17
  rw [hy] at hu
  simp only [] at hu
  rw [if_neg g36] at hu
  have hyl:=hya y (Wg hy) hyn
  obtain ⟨hyb1,_,hyb3⟩:=hin y (Wg hy)
  have hcy:=In.cellss_get hy
  obtain ⟨sb,hsb⟩:∃ b,supB (En.mk da cl ins) (In.mk xc (Ty.mk hk hs hn hl) xcx xbs xp) y y.cx=b:=⟨_,rfl⟩
  rw [hsb] at hu
  obtain ⟨yc,⟨yk,ys,yn,yl⟩,ycx,ybs,yp⟩:=y
  have hyl:yl.length=hl.length:=hyl
  have hyb1:ycx.length≤100000:=hyb1
  have hlp:=Pr.cellss_len ycx
  have hly:=Ty.cellss_len yl
  have hsb:supB (En.mk da cl ins) (In.mk xc (Ty.mk hk hs hn hl) xcx xbs xp) (In.mk yc (Ty.mk yk ys yn yl) ycx ybs yp) ycx=sb:=hsb
  simp only [In.cells,Ty.cells,List.cons_append,List.nil_append] at hcy
  refine Qa5 ?_
  refine Zb 40 U U U (Zh (i:=ii.toNat) U te_39 U (.seq _ _) U by11 (hcy) ?_)
  refine Qfz ?_
  refine QfB ?_;intro b8
  refine Qgu ?_
  refine Qu ?_
  refine Qab ?_
  apply Zu (rg [(0,2),(4,1),(9,11),(42,49)]) (σ:=Nat) (fun zz=>match zz with|m=>[(9,.val (.int .i64 m))]) (fun zz=>match zz with|m=>m≤ycx.length∧supB (En.mk da cl ins) (In.mk xc (Ty.mk hk hs hn hl) xcx xbs xp) (In.mk yc (Ty.mk yk ys yn yl) ycx ybs yp) (ycx.drop m)=sb) (fun zz=>match zz with|m=>ycx.length - m) (0)
  ·repeat' (first|exact Wf|apply Wd rfl|apply We rfl)
  ·exact ⟨Nat.zero_le _,hsb⟩
  ·exact by5
  rintro m hI
  try dsimp only [List.cons_append,List.nil_append] at hI ⊢
  obtain ⟨m1,hm⟩:=hI
  refine QS ?_
  refine Qn ?_
  refine QfA ?_;intro n45
  refine Qg ?_;intro c46 h46
  refine Qa ?_
  obtain ⟨rfl,g46⟩|⟨rfl,g46⟩:=Za h46
  ·refine Qdv ?_
   rw [Wh by17,supB] at hm;rw [if_neg (by rw [← hm];simp)] at hu;exact ⟨i+1,⟨by omega,hu⟩,by show csu.length - (i+1)<csu.length - i;omega,by5,(Xr _ (Xo _))⟩
  refine Qk ?_
  obtain ⟨⟨pc,⟨tk,ts,tn,tl⟩⟩,hp⟩:=Zj (l:=ycx) (i:=m) by17
  have hcp:=Pr.cellss_get hp
  simp only [Pr.cells,Ty.cells] at hcp
  rw [Zz hp,supB] at hm
  obtain ⟨sa,hsa⟩:∃ b,supA (En.mk da cl ins) (In.mk xc (Ty.mk hk hs hn hl) xcx xbs xp) (Pr.mk pc (Ty.mk tk ts tn tl)) yl 0=b:=⟨_,rfl⟩
  have hm:(if supA (En.mk da cl ins) (In.mk xc (Ty.mk hk hs hn hl) xcx xbs xp) (Pr.mk pc (Ty.mk tk ts tn tl)) yl 0=false then false else supB (En.mk da cl ins) (In.mk xc (Ty.mk hk hs hn hl) xcx xbs xp) (In.mk yc (Ty.mk yk ys yn yl) ycx ybs yp) (ycx.drop (m+1)))=sb:=hm
  rw [hsa] at hm
  refine QaN ?_
  apply Zu (rg [(0,2),(4,1),(10,10),(49,42)]) (σ:=Nat) (fun zz=>match zz with|j=>[(10,.val (.int .i64 j))]) (fun zz=>match zz with|j=>j≤yl.length∧supA (En.mk da cl ins) (In.mk xc (Ty.mk hk hs hn hl) xcx xbs xp) (Pr.mk pc (Ty.mk tk ts tn tl)) (yl.drop j) j=sa) (fun zz=>match zz with|j=>yl.length - j) (0)
  ·repeat' (first|exact Wf|apply Wd rfl|apply We rfl)
  ·exact ⟨Nat.zero_le _,hsa⟩
  ·exact by5
  rintro j hI
  try dsimp only [List.cons_append,List.nil_append] at hI ⊢
  obtain ⟨j1,hj⟩:=hI
  refine QS ?_
  refine Qt ?_
  refine Qn ?_
  refine QY ?_;intro n53
  refine Qg ?_;intro c54 h54
  refine Qa ?_
  obtain ⟨rfl,g54⟩|⟨rfl,g54⟩:=Za h54
  ·refine Qdv ?_
   rw [Wh by17,supA] at hj;rw [if_neg (by rw [← hj];simp)] at hm;exact ⟨m+1,⟨by omega,hm⟩,by show ycx.length - (m+1)<ycx.length - m;omega,by5,by4⟩
  refine Qk ?_
  obtain ⟨⟨ak,as_,an,al⟩,ha⟩:=Zj (l:=yl) (i:=j) by17
  obtain ⟨⟨bk,bs,bn,bl⟩,hb⟩:=Zj (l:=hl) (i:=j) by17
  have hca:=Ty.cellss_get ha
  have hcb:=Ty.cellss_get hb
  simp only [Ty.cells] at hca hcb
  rw [Zz ha,supA] at hj
  have hj:(if sameB as_ ts=true∧givenR (En.mk da cl ins) (In.mk xc (Ty.mk hk hs hn hl) xcx xbs xp) pc (((hl[j]?).map Ty.name).getD kE)=false then false else supA (En.mk da cl ins) (In.mk xc (Ty.mk hk hs hn hl) xcx xbs xp) (Pr.mk pc (Ty.mk tk ts tn tl)) (yl.drop (j+1)) (j+1))=sa:=hj
  rw [hb] at hj
  have hj:(if sameB as_ ts=true∧givenR (En.mk da cl ins) (In.mk xc (Ty.mk hk hs hn hl) xcx xbs xp) pc bs=false then false else supA (En.mk da cl ins) (In.mk xc (Ty.mk hk hs hn hl) xcx xbs xp) (Pr.mk pc (Ty.mk tk ts tn tl)) (yl.drop (j+1)) (j+1))=sa:=hj
  have HG1:=HG pc bs
  obtain ⟨gv,hgv⟩:∃ b,givenR (En.mk da cl ins) (In.mk xc (Ty.mk hk hs hn hl) xcx xbs xp) pc bs=b:=⟨_,rfl⟩
  rw [hgv] at hj HG1
  refine c_boold 90 (as_=ts∧¬ gv=true) Yx U ?_ _ _ U ?_
  ·skip
   refine QbR ?_
   refine Qbv ?_
   refine QF ?_
   refine Zq 61 U U (Zh U te_22 U (.seq _ _) U U (by first|exact hca|exact hcb|exact hcp) ⟨U,U⟩) ?_
   refine Q3 ?_
   refine Qbv ?_
   refine QF ?_
   refine Zq 67 U U (Zh U te_120 U (.seq _ _) U U (by first|exact hca|exact hcb|exact hcp) ⟨U,U⟩) ?_
   refine QbP ?_
   refine Q3 ?_
   refine Yj 71 U U (fun _ q=>op_seql U U U q) ?_;intro c71 h71
   refine QF ?_
   obtain ⟨rfl,g71⟩|⟨rfl,g71⟩:=Za h71
   ·skip
    refine Qaf ?_
    refine Qaf ?_
    refine QcH ?_
    refine QH ?_
    show BoolQ _ _ _ _ _ _
    refine Wa U ?_ by6 by4
    clear HC HG HI HI1 HG1 hii hya hin;first|(simp_all;done)|grind
   skip
   refine QfC ?_
   refine Qgt ?_
   refine Qdx ?_
   refine QaT ?_
   refine Ye 78 U U U U (Zh U te_120 U (.seq _ _) U U (by first|exact hca|exact hcb|exact hcp) ⟨U,U⟩) ?_
   refine Qap ?_
   refine QcI ?_
   refine QbN ?_
   refine Ye 85 U U U U (Zh U te_22 U (.seq _ _) U U (by first|exact hca|exact hcb|exact hcp) ⟨U,U⟩) ?_
   refine Qap ?_
   refine Yk 88 U U U U (fun _ q=>Zg (xs:=[.tmp 73,.tmp 74,.tmp 80,.tmp 87]) U U (HG1) by2 q) ?_;intro c88 h88
   refine Yk 89 U U U U (fun _ q=>Yz U U q) ?_;intro c89 h89
   try replace h89:=Ym h89 h88
   refine QH ?_
   show BoolQ _ _ _ _ _ _
   refine Wa U ?_ by6 by4
   clear HC HG HI HI1 HG1 hii hya hin;first|(simp_all;done)|grind
  intro c90 h90
  refine Qc ?_
  obtain ⟨rfl,g90⟩|⟨rfl,g90⟩:=Za h90
  ·refine QL ?_
   rw [if_neg (fun q=>g90 ⟨Yt.1 q.1,by rw [q.2];simp⟩)] at hj;exact ⟨j+1,⟨by omega,hj⟩,by show yl.length - (j+1)<yl.length - j;omega,by5,by4⟩
  refine QD ?_
  rw [if_pos ⟨sameB_yes g90.1,by simpa using g90.2⟩] at hj;rw [if_pos hj.symm] at hm;rw [if_pos hm.symm] at hu;subst hu;exact Ze rfl rfl (Xu _) (Xp _) ⟨⟨_,iff_f by18,rfl⟩,rfl⟩
 refine QD ?_
 have hrf:r=false:=by
  rw [← hu]
  split
  ·rfl
  rw [if_pos g36]
 subst hrf;exact Ze rfl rfl (Xu _) (Xp _) ⟨⟨_,iff_f by18,rfl⟩,rfl⟩
theorem insts1_ok (v:En):∀ (l:List In) (i:Nat),(insts1 v i l).1=0→∀ (j:Nat) (x:In),l[j]?=some x→(instR v (i+j) x).1=0
 | [],i,_,j,x,h=>by simp at h
 | y::l,i,h0,j,x,h=>by
  rw [insts1] at h0
  by_cases q:(instR v i y).1≠0
  ·rw [if_pos q] at h0;exact absurd h0 q
  rw [if_neg q] at h0
  cases j with
  | zero=>simp at h;subst h;simpa using q
  | succ j =>
   have:=insts1_ok v l (i+1) h0 j x (by simpa using h)
   rw [show i+(j+1)=i+1+j by omega];exact this
theorem instR_ok {v:En} {i:Nat} {x:In} (h:(instR v i x).1=0):0≤classI v x.c∧headR v x=0:=by
 unfold instR at h
 by_cases q:classI v x.c<0
 ·rw [if_pos q] at h;simp at h
 rw [if_neg q] at h
 refine ⟨by omega,?_⟩
 obtain ⟨c,hc,_⟩:=findI_get (fun (c:Cl)=>sameB c.s x.c) v.cl 0 (show 0≤classI v x.c by omega)
 have hc:v.cl[(classI v x.c).toNat]?=some c:=hc
 rw [hc] at h
 simp only [instR1] at h
 by_cases q2:headR v x≠0
 ·rw [if_pos q2] at h;exact absurd h q2
 exact Classical.not_not.1 q2
theorem Check_c (p:Pg) (hp:EnB (envOf p)) (hb:p.bs.length≤1000000):PCall Tryz.prog 38 [.agg p.cells] (faultA (checkR p)):=by
 have HD:=datas_c (envOf p) hp
 have HC:=classes_c (envOf p) hp
 have HI:=fun i x h=>instance_c (envOf p) hp i x h
 have HS:=fun x h1 h2 h3=>supers_c (envOf p) hp x h1 h2 h3
 have HM:=fun s=>Method_c (envOf p) s
 have hok:=fun h j x hx=>instR_ok (insts1_ok (envOf p) (envOf p).ins 0 h j x hx)
 have hinl:=hp.ins
 obtain ⟨r,hr⟩:∃ r,checkR p=r:=⟨_,rfl⟩
 rw [hr]
 unfold checkR at hr
 simp only [] at hr
 obtain ⟨da,cl,ins,bs⟩:=p
 have hev:envOf (Pg.mk da cl ins bs)=En.mk da cl ins:=rfl
 rw [hev] at HD HC HI HS HM hok hinl
 obtain ⟨⟨de,dp⟩,hde⟩:∃ f,datasR (En.mk da cl ins)=f:=⟨_,rfl⟩
 obtain ⟨⟨ce,cp⟩,hce⟩:∃ f,classesR (En.mk da cl ins)=f:=⟨_,rfl⟩
 obtain ⟨⟨ie,ip⟩,hie⟩:∃ f,insts1 (En.mk da cl ins) 0 ins=f:=⟨_,rfl⟩
 obtain ⟨⟨je,jp⟩,hje⟩:∃ f,insts2 (En.mk da cl ins) ins=f:=⟨_,rfl⟩
 have hr:(if (datasR (En.mk da cl ins)).1≠0 then datasR (En.mk da cl ins) else if (classesR (En.mk da cl ins)).1≠0 then classesR (En.mk da cl ins) else if (insts1 (En.mk da cl ins) 0 ins).1≠0 then insts1 (En.mk da cl ins) 0 ins else if (insts2 (En.mk da cl ins) ins).1≠0 then insts2 (En.mk da cl ins) ins else binds1 (En.mk da cl ins) [] bs)=r:=hr
 rw [hde,hce,hie,hje] at hr
 rw [hde] at HD
 rw [hce] at HC
 have hok:ie=0→∀ j x,ins[j]?=some x→0≤classI (En.mk da cl ins) x.c∧headR (En.mk da cl ins) x=0:=fun h j x hx=>hok (by show (insts1 (En.mk da cl ins) 0 ins).1=0;rw [hie];exact h) j x hx
 have hinl:ins.length≤100000:=hinl
 have hb:bs.length≤1000000:=hb
 have hli:=In.cellss_len ins
 have hlb:=Bi.cellss_len bs
 have hr:(if de≠0 then (de,dp) else if ce≠0 then (ce,cp) else if ie≠0 then (ie,ip) else if je≠0 then (je,jp) else binds1 (En.mk da cl ins) [] bs)=r:=hr
 simp only [En.cells,Pg.cells,faultA,En.ins,En.cl] at HD HC HI HS HM ⊢
 refine Zc Tryz.func38 U (by kernel_rfl) U (Wc U) ?_
 refine Qds ?_
 refine Qd0 ?_;intro b2
 refine Qu ?_
 refine Qd ?_
 refine Qd ?_
 refine Qd ?_
 refine Zb 16 U U U (Zm (ns:=[0,1,2]) (xs:=[.tmp 11,.tmp 13,.tmp 15]) U tz_41 U tfl_41 U U U U ?_)
 refine QfD ?_;intro b3
 refine QfE ?_
 refine Qu ?_
 refine QfF ?_
 refine Zb 18 U U U (Zd (xs:=[.tmp 17]) U U (HD) by2 ?_)
 refine Qd0 ?_;intro b4
 refine Qb6 ?_
 refine Qc1 ?_
 refine QP ?_;intro c21 h21
 refine Qa ?_
 obtain ⟨rfl,g21⟩|⟨rfl,g21⟩:=Za h21
 ·refine Qp ?_
  rw [if_neg g21] at hr
  refine Qi ?_
  refine QeO ?_
  refine Zb 24 U U U (Zd (xs:=[.tmp 23]) U U (HC) by2 ?_)
  refine Qb6 ?_
  refine Qc1 ?_
  refine QP ?_;intro c27 h27
  refine Qa ?_
  obtain ⟨rfl,g27⟩|⟨rfl,g27⟩:=Za h27
  ·refine QbK ?_
   rw [if_neg g27] at hr
   refine QaN ?_
   apply Yl (rg [(0,1),(5,1),(9,34)]) (σ:=Nat × Int × Int) (fun zz=>match zz with|(i,fe,fa)=>[(5,.val (.int .i64 i))]) (fun zz=>match zz with|(i,fe,fa)=>[.loc b4 [.val (.int .i64 fe),.val (.int .i64 fa)],.loc b3 [.seq 5 (Da.cellss da),.seq 6 (Cl.cellss cl),.seq 8 (In.cellss ins)],.loc b2 zF]) (fun zz=>match zz with|(i,fe,fa)=>i≤ins.length∧insts1 (En.mk da cl ins) i (ins.drop i)=(ie,ip)) (fun zz=>match zz with|(i,fe,fa)=>ins.length - i) ((0,ce,cp))
   ·repeat' (first|exact Wf|apply Wd rfl|apply We rfl)
   ·exact ⟨Nat.zero_le _,hie⟩
   ·exact by5
   ·exact (Xt U)
   rintro ⟨i,fe,fa⟩ hI
   try dsimp only [List.cons_append,List.nil_append] at hI ⊢
   obtain ⟨h1,hu⟩:=hI
   refine QS ?_
   refine Qao ?_
   refine Qfo ?_;intro n32
   refine Qg ?_;intro c33 h33
   refine Qa ?_
   obtain ⟨rfl,g33⟩|⟨rfl,g33⟩:=Za h33
   ·refine Qbs ?_
    rw [Wh by17,insts1] at hu
    have hie0:ie=0:=(congrArg Prod.fst hu).symm
    rw [if_neg (by rw [hie0];simp)] at hr
    have hok:=hok hie0
    have hha:∀ y∈ins,headR (En.mk da cl ins) y=0:=fun y hy=>by
     obtain ⟨j,hj⟩:=List.getElem?_of_mem hy
     exact (hok j y hj).2
    refine QaN ?_
    apply Zu (rg [(0,1),(4,3),(9,56)]) (σ:=Nat) (fun zz=>match zz with|i2=>[(6,.val (.int .i64 i2))]) (fun zz=>match zz with|i2=>i2≤ins.length∧insts2 (En.mk da cl ins) (ins.drop i2)=(je,jp)) (fun zz=>match zz with|i2=>ins.length - i2) (0)
    ·repeat' (first|exact Wf|apply Wd rfl|apply We rfl)
    ·exact ⟨Nat.zero_le _,hje⟩
    ·exact by5
    rintro i2 hI
    try dsimp only [List.cons_append,List.nil_append] at hI ⊢
    obtain ⟨h2,hw⟩:=hI
    refine QS ?_
    refine Qao ?_
    refine Qfo ?_;intro n46
    refine Qg ?_;intro c47 h47
    refine Qa ?_
    obtain ⟨rfl,g47⟩|⟨rfl,g47⟩:=Za h47
    ·refine Qbs ?_
     rw [Wh by17,insts2] at hw
     have hje0:je=0:=(congrArg Prod.fst hw).symm
     rw [if_neg (by rw [hje0];simp)] at hr
     refine QaN ?_
     apply Zu (rg [(0,1),(4,102)]) (σ:=Nat) (fun zz=>match zz with|i3=>[(7,.val (.int .i64 i3))]) (fun zz=>match zz with|i3=>i3≤bs.length∧binds1 (En.mk da cl ins) ((bs.take i3).map Bi.s) (bs.drop i3)=r) (fun zz=>match zz with|i3=>bs.length - i3) (0)
     ·repeat' (first|exact Wf|apply Wd rfl|apply We rfl)
     ·exact ⟨Nat.zero_le _,hr⟩
     ·exact by5
     rintro i3 hI
     try dsimp only [List.cons_append,List.nil_append] at hI ⊢
     obtain ⟨h3,ht⟩:=hI
     refine Qav ?_
     refine Qfr ?_;intro n68
     refine Qg ?_;intro c69 h69
     refine Qa ?_
     obtain ⟨rfl,g69⟩|⟨rfl,g69⟩:=Za h69
     ·refine Qa3 ?_
      refine Qev ?_
      refine Qcf ?_
      rw [Wh by17,binds1] at ht;subst ht;exact Zk (i:=2) rfl rfl rfl Xf rfl (Xu _) (Xp _) ⟨rfl,rfl⟩
     refine Qk ?_
     obtain ⟨⟨xs,⟨yk,ys,yn,⟨ytk,yts,ytn,ytl⟩,yks,yal,ybs,yp⟩,xp⟩,hxx⟩:=Zj (l:=bs) (i:=i3) by17
     have hcx:=Bi.cellss_get hxx
     simp only [Bi.cells,Ex.cells,Ty.cells,List.cons_append,List.nil_append] at hcx
     rw [Zz hxx,binds1] at ht
     have hsn:=Yd hxx
     have HB:=(Bnd_c (bs.take i3) (by rw [List.length_take];omega)).pure
     rw [← Bi.cellss_take] at HB
     have HM1:=HM xs
     have ht:(if 0≤(methI xs cl 0).1∨hasB ((bs.take i3).map Bi.s) xs=true then ((120:Int),xp) else binds1 (En.mk da cl ins) ((bs.take i3).map Bi.s++[xs]) (bs.drop (i3+1)))=r:=ht
     obtain ⟨⟨m1,m2⟩,hm⟩:∃ f,methI xs cl 0=f:=⟨_,rfl⟩
     rw [hm] at ht HM1
     simp only [] at ht HM1
     have HH:=Has_c ((bs.take i3).map Bi.s) xs
     refine Q6 ?_
     refine Qgy ?_
     refine QaF ?_
     refine Qfs ?_
     refine Q3 ?_
     refine Zq 80 U U (Zd (xs:=[.tmp 73,.tmp 79]) U U (HM1) by2 ⟨U,U⟩) ?_
     refine QF ?_
     refine Qb7 ?_
     refine Qb7 ?_
     refine Qdz ?_
     show AGo _ _ _ _ _ _ _
     refine Qbd ?_
     refine c_boold 98 (0≤m1∨xs∈(bs.take i3).map Bi.s) Yx U ?_ _ _ U ?_
     ·skip
      refine QF ?_
      refine Yj 84 U U (fun _ q=>op_geq U U U q) ?_;intro c84 h84
      refine QF ?_
      obtain ⟨rfl,g84⟩|⟨rfl,g84⟩:=Za h84
      ·skip
       refine QbN ?_
       refine Ye 89 U U U U (op_cuth U te_79 U (.seq _ _) U U by17 ⟨U,U⟩) ?_
       refine Ye 90 U U U U (Zd (xs:=[.tmp 89]) U U (HB) by2 ⟨U,U⟩) ?_
       refine QbN ?_
       refine Ye 94 U U U U (Zh U te_79 U (.seq _ _) U U (hcx) ⟨U,U⟩) ?_
       refine Qap ?_
       refine Yk 97 U U U U (fun _ q=>Zg (xs:=[.tmp 90,.tmp 96]) U U (HH) by2 q) ?_;intro c97 h97
       refine QH ?_
       show BoolQ _ _ _ _ _ _
       refine Wa U ?_ by6 by4
       clear HD HC HI HS HM HB HM1 HH;first|(simp_all;done)|(simp_all;omega)|grind
      skip
      refine Qaf ?_
      refine Qbh ?_
      refine QH ?_
      show BoolQ _ _ _ _ _ _
      refine Wa U ?_ by6 by4
      clear HD HC HI HS HM HB HM1 HH;first|(simp_all;done)|(simp_all;omega)|grind
     intro c98 h98
     refine Qc ?_
     obtain ⟨rfl,g98⟩|⟨rfl,g98⟩:=Za h98
     ·refine QL ?_
      rw [if_neg (fun q=>g98 (q.imp_right hasB_iff.1))] at ht;exact ⟨i3+1,⟨by omega,by rw [hsn,List.map_append];exact ht⟩,by show bs.length - (i3+1)<bs.length - i3;omega,by5,by4⟩
     refine Qq ?_
     refine QT ?_
     refine Qec ?_
     refine Qd ?_
     refine Zb 105 U U U (Zm (ns:=[0,1]) (xs:=[.const (.int .i64 120),.tmp 104]) U tz_85 U tfl_85 U U U U ?_)
     refine Qcf ?_
     rw [if_pos (g98.imp_right hasB_iff.2)] at ht;subst ht;exact Zk (i:=2) rfl rfl rfl Xf rfl (Xu _) (Xp _) ⟨rfl,rfl⟩
    refine Qk ?_
    obtain ⟨x,hx⟩:=Zj (l:=ins) (i:=i2) by17
    have hgx:=In.cellss_get hx
    have HS1:=HS x (Wg hx) (hok i2 x hx).1 hha
    rw [Zz hx,insts2] at hw
    obtain ⟨xc,⟨hk,hs,hn,hl⟩,xcx,xbs,xp⟩:=x
    have hw:(if supersR (En.mk da cl ins) (In.mk xc (Ty.mk hk hs hn hl) xcx xbs xp)=false then ((126:Int),xp) else insts2 (En.mk da cl ins) (ins.drop (i2+1)))=(je,jp):=hw
    obtain ⟨sv,hsv⟩:∃ b,supersR (En.mk da cl ins) (In.mk xc (Ty.mk hk hs hn hl) xcx xbs xp)=b:=⟨_,rfl⟩
    rw [hsv] at hw HS1
    simp only [In.cells,Ty.cells,List.cons_append,List.nil_append] at hgx HS1
    refine Q6 ?_
    refine Qgy ?_
    refine QbR ?_
    refine QdM ?_
    refine QF ?_
    refine Zq 54 U U (Zh U te_39 U (.seq _ _) U U (hgx) ⟨U,U⟩) ?_
    refine Zq 55 U U (Zt (cs':=[_,_,_,_,_,_,_,_]) U ta_122 U U U ⟨U,U⟩) ?_
    refine Yj 56 U U (fun _ q=>Zg (xs:=[.tmp 50,.tmp 55]) U U (HS1) by2 q) ?_;intro c56 h56
    refine Yj 57 U U (fun _ q=>Yz U U q) ?_;intro c57 h57
    try replace h57:=Ym h57 h56
    show AGo _ _ _ _ _ _ _
    refine Qc ?_
    obtain ⟨rfl,g57⟩|⟨rfl,g57⟩:=Za h57
    ·refine QL ?_
     rw [if_neg (fun q=>g57 (by rw [q];simp))] at hw;exact ⟨i2+1,⟨by omega,hw⟩,by show ins.length - (i2+1)<ins.length - i2;omega,by5,by4⟩
    refine Qq ?_
    refine Qao ?_
    refine Qb ?_
    refine Zb 61 U U U (Zh U te_39 U (.seq _ _) U U (hgx) ?_)
    refine Qd ?_
    refine Zb 64 U U U (Zm (ns:=[0,1]) (xs:=[.const (.int .i64 126),.tmp 63]) U tz_85 U tfl_85 U U U U ?_)
    refine Qcf ?_
    rw [if_pos (by simpa using g57)] at hw;cases hw;rw [if_pos by18] at hr;subst hr;exact Zk (i:=2) rfl rfl rfl Xf rfl (Xu _) (Xp _) ⟨rfl,rfl⟩
   refine Qk ?_
   obtain ⟨x,hx⟩:=Zj (l:=ins) (i:=i) by17
   have HI1:=HI i x hx
   rw [Zz hx,insts1] at hu
   obtain ⟨⟨ke,kp⟩,hk⟩:∃ f,instR (En.mk da cl ins) i x=f:=⟨_,rfl⟩
   rw [hk] at HI1 hu
   simp only [] at hu HI1
   refine Qi ?_
   refine QeO ?_
   refine Qb ?_
   refine Zb 38 U U U (Zd (xs:=[.tmp 36,.tmp 37]) U U (HI1) by2 ?_)
   refine Qb6 ?_
   refine Qbw ?_
   refine QP ?_;intro c41 h41
   refine Qa ?_
   obtain ⟨rfl,g41⟩|⟨rfl,g41⟩:=Za h41
   ·refine QL ?_
    rw [if_neg g41] at hu;exact ⟨(i+1,ke,kp),⟨by show i+1≤ins.length;omega,hu⟩,by show ins.length - (i+1)<ins.length - i;omega,by5,(Xt rfl)⟩
   refine Qq ?_
   refine QeN ?_
   refine Qcf ?_
   rw [if_pos g41] at hu;cases hu;rw [if_pos g41] at hr;subst hr;exact Zk (i:=2) rfl rfl rfl Xf rfl (Xu _) (Xp _) ⟨rfl,rfl⟩
  refine Qq ?_
  refine QeN ?_
  refine Qcf ?_
  rw [if_pos g27] at hr;subst hr;exact Zk (i:=2) rfl rfl rfl Xf rfl (Xu _) (Xp _) ⟨rfl,rfl⟩
 refine Qq ?_
 refine QeN ?_
 refine Qcf ?_
 rw [if_pos g21] at hr;subst hr;exact Zk (i:=2) rfl rfl rfl Xf rfl (Xu _) (Xp _) ⟨rfl,rfl⟩
end Go.Proofs.YteepjjgooplljaaGreat
namespace Go.Proofs.YteepjjgooplljaaGreat
section
variable {L:List Tok} {n:Nat}
def TyB (L:List Tok) (n:Nat) (T:PS→Ty × PS):Prop:=∀ p,POk L n p→(T p).1.size+2 * p.at_≤2 * (T p).2.at_+1
theorem atype_size {T:PS→Ty × PS} (HT:TyB L n T) (HA:∀ p,POk L n p→Adv L p (T p).2) {p:PS} (k:POk L n p):(atypeG L T p).1.size+2 * p.at_≤2 * (atypeG L T p).2.at_+1∧(startsP L 0 p→(atypeG L T p).1.size+2 * p.at_≤2 * (atypeG L T p).2.at_):=by
 have h1s:∀ k s,(Ty.mk k s 0 []).size=1:=fun k s=>by simp [Ty.size,Ty.sizes]
 unfold atypeG
 by_cases h:(nxt L p).k=2
 ·rw [if_pos h]
  have:(stepP p).at_=p.at_+1:=rfl
  simp only [h1s]
  exact ⟨by omega,fun _=>by omega⟩
 by_cases h1:(nxt L p).k=1
 ·rw [if_neg h,if_pos h1]
  have:(stepP p).at_=p.at_+1:=rfl
  simp only [h1s]
  exact ⟨by omega,fun _=>by omega⟩
 rw [if_neg h,if_neg h1]
 have hst:startsP L 0 p→isP L p kLP=true:=fun hs=>by
  unfold startsP at hs
  rcases hs with q|q|q|q|q|q
  ·exact absurd q h1
  ·exact absurd q h
  ·exact q
  ·omega
  ·omega
  omega
 have a1:=Zn (L:=L) (kind:=7) (s:=kLP) by16 k
 have b1:=a1.1
 have hs1:startsP L 0 p→(takeP L p 7 kLP).2.at_=p.at_+1:=fun hs=>by rw [take_is (hst hs) by16];rfl
 by_cases h2:isP L (takeP L p 7 kLP).2 kRP=true
 ·rw [if_pos h2]
  have:(stepP (takeP L p 7 kLP).2).at_=(takeP L p 7 kLP).2.at_+1:=rfl
  simp only [h1s]
  exact ⟨by omega,fun hs=>by have:=hs1 hs;omega⟩
 rw [if_neg h2]
 have k1:=a1.ok k
 have hT:=HT _ k1
 have k2:=(HA _ k1).ok k1
 have b3:=(Zn (L:=L) (kind:=7) (s:=kRP) by16 k2).1
 exact ⟨by dsimp only;omega,fun hs=>by have:=hs1 hs;dsimp only;omega⟩
theorem typesL_size {T:PS→Ty × PS} (HT:TyB L n T) (HA:∀ p,POk L n p→Adv L p (T p).2):∀ (f:Nat) (p:PS) (acc:List Ty),POk L n p→Ty.sizes (typesL L T f p acc).1+2 * p.at_≤Ty.sizes acc+2 * (typesL L T f p acc).2.at_
 | 0,p,acc,k=>Nat.le_refl _
 | f+1,p,acc,k=>by
  unfold typesL
  by_cases h:startsP L 0 p
  ·rw [if_pos h]
   have h1:=(atype_size HT HA k).2 h
   have a1:=atype_adv HA k
   have:=typesL_size HT HA f (atypeG L T p).2 (acc++[(atypeG L T p).1]) (a1.ok k)
   rw [Ty.sizes_app] at this
   simp only [Ty.sizes] at this
   omega
  rw [if_neg h];exact Nat.le_refl _
theorem typeF_size:∀ n:Nat,TyB L n (typeF L n)
 | 0,p,k=>by simp [typeF,ty0,Ty.size,Ty.sizes];omega
 | n+1,p,k=>by
  unfold typeF
  by_cases he:p.e≠0
  ·rw [if_pos he];simp [ty0,Ty.size,Ty.sizes];omega
  rw [if_neg he]
  have he:p.e=0:=Classical.not_not.1 he
  have kq:=deeper_ok k he
  have HA:=typeF_adv (L:=L) n
  have HT:=typeF_size n
  have a1:=typeH_adv HA kq
  have hd:(deeperP L p).at_=p.at_:=deeper_at.1
  have hH:(typeH L (typeF L n) (deeperP L p)).1.size+2 * p.at_≤2 * (typeH L (typeF L n) (deeperP L p)).2.at_+1:=by
   unfold typeH
   by_cases h:(nxt L (deeperP L p)).k=2
   ·rw [if_pos h]
    have ks:=(Xd kq (Xn (L:=L) (p:=deeperP L p) by17).2).ok kq
    have:=typesL_size HT HA (L.length+1) (stepP (deeperP L p)) [] ks
    have e1:(stepP (deeperP L p)).at_=(deeperP L p).at_+1:=rfl
    simp only [Ty.size,Ty.sizes] at this ⊢
    omega
   rw [if_neg h]
   have:=(atype_size HT HA kq).1
   omega
  have kH:=a1.ok kq
  unfold typeR
  by_cases h:isP L (typeH L (typeF L n) (deeperP L p)).2 kArrow=true
  ·rw [if_pos h]
   have ka:=(Yf kH h).ok kH
   have h2:=HT _ ka
   have e1:(stepP (typeH L (typeF L n) (deeperP L p)).2).at_=(typeH L (typeF L n) (deeperP L p)).2.at_+1:=rfl
   have e2:∀ q:PS,(decP q).at_=q.at_:=fun q=>rfl
   simp only [Ty.size,Ty.sizes,e2]
   omega
  rw [if_neg h]
  have e2:∀ q:PS,(decP q).at_=q.at_:=fun q=>rfl
  simp only [e2]
  exact hH
theorem typeP_size {p:PS} (k:POk L n p):(typeP L p).1.size≤2 * L.length+1:=by
 have h:=typeF_size (L:=L) 302 p (k.up by16)
 have h2:=(typeP_adv k).2.1
 unfold typeP at h2 ⊢
 omega
theorem atypeP_size {p:PS} (k:POk L 302 p):(atypeG L (typeP L) p).1.size≤2 * L.length+1:=by
 have h:=(atype_size (T:=typeP L) (fun q kq=>typeF_size (L:=L) 302 q kq) Xe k).1
 have h2:=(atype_adv Xe k).2.1
 omega
theorem uppersL_len:∀ (f:Nat) (p:PS) (acc:List ByteArray),(uppersL L f p acc).1.length≤acc.length+f
 | 0,p,acc=>Nat.le_refl _
 | f+1,p,acc=>by
  unfold uppersL
  split
  ·have:=uppersL_len f (takeP L (stepP p) 2 kE).2 (acc++[(takeP L (stepP p) 2 kE).1.t])
   simp only [List.length_append,List.length_singleton] at this
   omega
  dsimp only;omega
theorem uppers_len (p:PS):(uppersP L p).1.length≤L.length+2:=by
 have:=uppersL_len (L:=L) (L.length+1) (takeP L p 2 kE).2 [(takeP L p 2 kE).1.t]
 simp only [List.length_singleton] at this
 unfold uppersP;omega
theorem paramsL_len:∀ (f:Nat) (p:PS) (acc:List ByteArray),(paramsL L f p acc).1.length≤acc.length+f
 | 0,p,acc=>Nat.le_refl _
 | f+1,p,acc=>by
  unfold paramsL
  split
  ·have:=paramsL_len f (takeP L p 1 kE).2 (acc++[(takeP L p 1 kE).1.t])
   simp only [List.length_append,List.length_singleton] at this
   omega
  dsimp only;omega
theorem consL_len:∀ (f:Nat) (p:PS) (acc:List Cn),(consL L f p acc).1.length≤acc.length+f
 | 0,p,acc=>Nat.le_refl _
 | f+1,p,acc=>by
  unfold consL
  split
  ·dsimp only;omega
  split
  ·have:=consL_len f (stepP (conP L p).2) (acc++[(conP L p).1])
   simp only [List.length_append,List.length_singleton] at this
   omega
  simp only [List.length_append,List.length_singleton];omega
theorem clsL_len:∀ (f:Nat) (p:PS) (ms:List Me) (ds:List Bi),(clsL L f p ms ds).1.1.length≤ms.length+f∧(clsL L f p ms ds).1.2.length≤ds.length+f
 | 0,p,ms,ds=>⟨Nat.le_refl _,Nat.le_refl _⟩
 | f+1,p,ms,ds=>by
  unfold clsL
  split
  ·exact ⟨by dsimp only;omega,by dsimp only;omega⟩
  split
  ·exact ⟨by dsimp only;omega,by dsimp only;omega⟩
  split
  ·have:=clsL_len f (takeP L (bindP L (stepP p)).2 7 kSemi).2 ms (ds++[(bindP L (stepP p)).1])
   simp only [List.length_append,List.length_singleton] at this
   omega
  have:=clsL_len f (takeP L (typeP L (takeP L (nameP L p).2 7 kColon).2).2 7 kSemi).2 (ms++[.mk (nameP L p).1.t (typeP L (takeP L (nameP L p).2 7 kColon).2).1 (nameP L p).1.a]) ds
  simp only [List.length_append,List.length_singleton] at this
  omega
theorem clsL_mt {B:Nat} (hB:2 * L.length+1≤B):∀ (f:Nat) (p:PS) (ms:List Me) (ds:List Bi),POk L 302 p→(∀ m∈ms,m.t.size≤B)→∀ m∈(clsL L f p ms ds).1.1,m.t.size≤B
 | 0,p,ms,ds,k,h=>h
 | f+1,p,ms,ds,k,h=>by
  unfold clsL
  by_cases he:p.e≠0
  ·rw [if_pos he];exact h
  rw [if_neg he]
  by_cases h1:isP L p kEnd=true
  ·rw [if_pos h1];exact h
  rw [if_neg h1]
  by_cases h2:isP L p kDef=true
  ·rw [if_pos h2]
   have a1:=Yf k h2
   have a2:=a1.trans (bindP_adv (a1.ok k))
   have a3:=a2.trans (Zn (kind:=7) (s:=kSemi) by16 (a2.ok k))
   exact clsL_mt hB f _ _ _ (a3.ok k) h
  rw [if_neg h2]
  have a1:=name_adv k
  have a2:=a1.trans (Zn (kind:=7) (s:=kColon) by16 (a1.ok k))
  have hs:=typeP_size (a2.ok k)
  have a3:=a2.trans (typeP_adv (a2.ok k))
  have a4:=a3.trans (Zn (kind:=7) (s:=kSemi) by16 (a3.ok k))
  refine clsL_mt hB f _ _ _ (a4.ok k) (fun m hm=>?_)
  rcases List.mem_append.1 hm with q|q
  ·exact h m q
  rw [List.mem_singleton.1 q];exact Nat.le_trans hs hB
theorem ctxL_len:∀ (f:Nat) (p:PS) (acc:List Pr),(ctxL L f p acc).1.length≤acc.length+f
 | 0,p,acc=>Nat.le_refl _
 | f+1,p,acc=>by
  unfold ctxL
  split
  ·dsimp only;omega
  split
  ·have:=ctxL_len f (stepP (predP L p).2) (acc++[(predP L p).1])
   simp only [List.length_append,List.length_singleton] at this
   omega
  simp only [List.length_append,List.length_singleton];omega
def CtxV (l:List Pr):Prop:=∀ p∈l,∃ c s,p=.mk c (.mk 1 s 0 [])
theorem ctxL_var:∀ (f:Nat) (p:PS) (acc:List Pr),CtxV acc→CtxV (ctxL L f p acc).1
 | 0,p,acc,h=>h
 | f+1,p,acc,h=>by
  have hs:CtxV (acc++[(predP L p).1]):=fun x hx=>by
   rcases List.mem_append.1 hx with q|q
   ·exact h x q
   rw [List.mem_singleton.1 q];exact ⟨_,_,rfl⟩
  unfold ctxL
  split
  ·exact h
  split
  ·exact ctxL_var f _ _ hs
  exact hs
theorem insL_len:∀ (f:Nat) (p:PS) (bs:List Bi),(insL L f p bs).1.length≤bs.length+f
 | 0,p,bs=>Nat.le_refl _
 | f+1,p,bs=>by
  unfold insL
  split
  ·dsimp only;omega
  split
  ·dsimp only;omega
  have:=insL_len f (takeP L (bindP L (takeP L p 6 kDef).2).2 7 kSemi).2 (bs++[(bindP L (takeP L p 6 kDef).2).1])
  simp only [List.length_append,List.length_singleton] at this
  omega
def DaB (d:Da):Prop:=d.ps.length≤100000∧d.cs.length≤100000
def ClB (c:Cl):Prop:=c.su.length≤100000∧c.ms.length≤100000∧c.ds.length≤100000∧∀ m∈c.ms,m.t.size≤1000000
def InB (x:In):Prop:=x.cx.length≤100000∧x.bs.length≤100000∧x.hd.kids.length≤200000
theorem data_b (hL:L.length≤60001) (p:PS):DaB (dataP L p).1:=by
 refine ⟨?_,?_⟩
 ·show (paramsL L (L.length+1) (takeP L p 2 kE).2 []).1.length≤100000
  have:=paramsL_len (L:=L) (L.length+1) (takeP L p 2 kE).2 []
  simp only [List.length_nil] at this;omega
 show (consL L (L.length+1) (takeP L (paramsL L (L.length+1) (takeP L p 2 kE).2 []).2 7 kEq).2 []).1.length≤100000
 have:=consL_len (L:=L) (L.length+1) (takeP L (paramsL L (L.length+1) (takeP L p 2 kE).2 []).2 7 kEq).2 []
 simp only [List.length_nil] at this;omega
theorem class_bd (hL:L.length≤60001) {p:PS} (k:POk L 302 p):ClB (classP L p).1:=by
 have a1:=Zn (L:=L) (kind:=2) (s:=kE) by16 k
 have a2:=a1.trans (Zn (kind:=1) (s:=kE) by16 (a1.ok k))
 have a3:=a2.trans (supers_adv (a2.ok k))
 have a4:=a3.trans (Zn (kind:=6) (s:=kWhere) by16 (a3.ok k))
 obtain ⟨q,hq⟩:∃ q,(takeP L (supersP L (takeP L (takeP L p 2 kE).2 1 kE).2).2 6 kWhere).2=q:=⟨_,rfl⟩
 have hl:=clsL_len (L:=L) (L.length+1) q [] []
 have hm:=clsL_mt (L:=L) (B:=1000000) by17 (L.length+1) q [] [] (by rw [← hq];exact a4.ok k) by18
 simp only [List.length_nil] at hl
 refine ⟨?_,?_,?_,?_⟩
 ·show (supersP L (takeP L (takeP L p 2 kE).2 1 kE).2).1.length≤100000
  unfold supersP
  split
  ·have:=uppers_len (L:=L) (stepP (takeP L (takeP L p 2 kE).2 1 kE).2)
   omega
  simp
 ·show (clsL L (L.length+1) (takeP L (supersP L (takeP L (takeP L p 2 kE).2 1 kE).2).2 6 kWhere).2 [] []).1.1.length≤100000
  rw [hq];omega
 ·show (clsL L (L.length+1) (takeP L (supersP L (takeP L (takeP L p 2 kE).2 1 kE).2).2 6 kWhere).2 [] []).1.2.length≤100000
  rw [hq];omega
 show ∀ m∈(clsL L (L.length+1) (takeP L (supersP L (takeP L (takeP L p 2 kE).2 1 kE).2).2 6 kWhere).2 [] []).1.1,m.t.size≤1000000
 rw [hq];exact hm
theorem inst_bd (hL:L.length≤60001) {p:PS} (k:POk L 302 p):InB (instP L p).1∧CtxV (instP L p).1.cx:=by
 have a1:=Zn (L:=L) (kind:=2) (s:=kE) by16 k
 have hs:=atypeP_size (a1.ok k)
 obtain ⟨q,hq⟩:∃ q,(atypeG L (typeP L) (takeP L p 2 kE).2).2=q:=⟨_,rfl⟩
 have hc:(ctxP L q).1.length≤100000∧CtxV (ctxP L q).1:=by
  unfold ctxP
  split
  ·have:=ctxL_len (L:=L) (L.length+1) (stepP q) []
   simp only [List.length_nil] at this
   exact ⟨by omega,ctxL_var _ _ _ (fun x hx=>by simp at hx)⟩
  exact ⟨by simp,fun x hx=>by simp at hx⟩
 refine ⟨⟨?_,?_,?_⟩,?_⟩
 ·show (ctxP L (atypeG L (typeP L) (takeP L p 2 kE).2).2).1.length≤100000
  rw [hq];exact hc.1
 ·show (insL L (L.length+1) (takeP L (ctxP L (atypeG L (typeP L) (takeP L p 2 kE).2).2).2 6 kWhere).2 []).1.length≤100000
  have:=insL_len (L:=L) (L.length+1) (takeP L (ctxP L (atypeG L (typeP L) (takeP L p 2 kE).2).2).2 6 kWhere).2 []
  simp only [List.length_nil] at this;omega
 ·show (atypeG L (typeP L) (takeP L p 2 kE).2).1.kids.length≤200000
  have h2:=Ty.len_sizes (atypeG L (typeP L) (takeP L p 2 kE).2).1.kids
  generalize (atypeG L (typeP L) (takeP L p 2 kE).2).1=t at hs h2
  cases t
  simp only [Ty.size,Ty.kids] at hs h2 ⊢
  omega
 show CtxV (ctxP L (atypeG L (typeP L) (takeP L p 2 kE).2).2).1
 rw [hq];exact hc.2
structure PgB (m:Nat) (x:Pg):Prop where
 da:x.da.length≤m
 cl:x.cl.length≤m
 ins:x.ins.length≤m
 bs:x.bs.length≤m
 das:∀ d∈x.da,DaB d
 cls:∀ c∈x.cl,ClB c
 inss:∀ y∈x.ins,InB y∧CtxV y.cx
theorem decl_b (hL:L.length≤60001) {m:Nat} {p:PS} {x:Pg} (k:POk L 302 p) (h:PgB m x):PgB (m+1) (declP L p x).1:=by
 obtain ⟨h1,h2,h3,h4,h5,h6,h7⟩:=h
 obtain ⟨da,cl,ins,bs⟩:=x
 simp only [Pg.da,Pg.cl,Pg.ins,Pg.bs] at h1 h2 h3 h4 h5 h6 h7
 unfold declP
 by_cases q1:isP L p kData=true
 ·rw [if_pos q1]
  refine ⟨by simp [Pg.da];omega,by simp [Pg.cl];omega,by simp [Pg.ins];omega,by simp [Pg.bs];omega,fun d hd=>?_,h6,h7⟩
  rcases List.mem_append.1 hd with q|q
  ·exact h5 d q
  rw [List.mem_singleton.1 q];exact data_b hL _
 by_cases q2:isP L p kClass=true
 ·rw [if_neg q1,if_pos q2]
  refine ⟨by simp [Pg.da];omega,by simp [Pg.cl];omega,by simp [Pg.ins];omega,by simp [Pg.bs];omega,h5,fun d hd=>?_,h7⟩
  rcases List.mem_append.1 hd with q|q
  ·exact h6 d q
  rw [List.mem_singleton.1 q];exact class_bd hL ((Yf k q2).ok k)
 by_cases q3:isP L p kInst=true
 ·rw [if_neg q1,if_neg q2,if_pos q3]
  refine ⟨by simp [Pg.da];omega,by simp [Pg.cl];omega,by simp [Pg.ins];omega,by simp [Pg.bs];omega,h5,h6,fun d hd=>?_⟩
  rcases List.mem_append.1 hd with q|q
  ·exact h7 d q
  rw [List.mem_singleton.1 q];exact inst_bd hL ((Yf k q3).ok k)
 rw [if_neg q1,if_neg q2,if_neg q3]
 exact ⟨by simp [Pg.da];omega,by simp [Pg.cl];omega,by simp [Pg.ins];omega,by simp [Pg.bs];omega,h5,h6,h7⟩
theorem progL_b (hL:L.length≤60001):∀ (f m:Nat) (p:PS) (x:Pg),POk L 302 p→PgB m x→PgB (m+f) (progL L f p x).1
 | 0,m,p,x,k,h=>h
 | f+1,m,p,x,k,h=>by
  unfold progL
  by_cases he:p.e≠0∨(nxt L p).k=0
  ·rw [if_pos he]
   exact ⟨by have:=h.da;dsimp only;omega,by have:=h.cl;dsimp only;omega,by have:=h.ins;dsimp only;omega,by have:=h.bs;dsimp only;omega,h.das,h.cls,h.inss⟩
  rw [if_neg he]
  have a1:=decl_adv x k
  have a2:=a1.trans (Zn (kind:=7) (s:=kSemi) by16 (a1.ok k))
  have:=progL_b hL f (m+1) _ _ (a2.ok k) (decl_b hL k h)
  rw [show m+(f+1)=m+1+f by omega]
  exact this
end
theorem pg0_b:PgB 0 pg0:=⟨by simp [pg0,Pg.da],by simp [pg0,Pg.cl],by simp [pg0,Pg.ins],by simp [pg0,Pg.bs],by simp [pg0,Pg.da],by simp [pg0,Pg.cl],by simp [pg0,Pg.ins]⟩
theorem PgB.up {m m':Nat} {x:Pg} (h:PgB m x) (k:m≤m'):PgB m' x:=⟨Nat.le_trans h.da k,Nat.le_trans h.cl k,Nat.le_trans h.ins k,Nat.le_trans h.bs k,h.das,h.cls,h.inss⟩
open Go.RowKit
theorem IxF_Cl (p:Cl→Bool) (g:FuncId) (fs cs:List AV) (l:List Cl) (hg:∀ x∈l,BCall Tryz.prog g (fs++[.agg x.cells]++cs) (p x=true)):PCall Tryz.prog 209 [.seq 6 (Cl.cellss l),.clo (.func g) fs cs] (.val (.int .i64 (findI p l 0))):=by
 have hl:=Cl.cellss_len l
 obtain ⟨r,hr⟩:∃ r,findI p l 0=r:=⟨_,rfl⟩
 rw [hr]
 refine Zc Tryz.func209 U (by kernel_rfl) U (Wc U) ?_
 refine QN ?_
 refine c_lens (t:=0) U (.seq _ _) (fun hmax=>?_)
 refine QbY ?_
 refine QdZ ?_;intro n7
 refine Qam ?_
 apply Zu (rg [(2,5),(8,11)]) (σ:=Nat) (fun zz=>match zz with|i=>[(8,.val (.int .i64 i))]) (fun zz=>match zz with|i=>i≤l.length∧findI p (l.drop i) i=r) (fun zz=>match zz with|i=>l.length - i) (0)
 ·repeat' (first|exact Wf|apply Wd rfl|apply We rfl)
 ·exact ⟨by omega,hr⟩
 ·exact by5
 rintro i hI
 try dsimp only [List.cons_append,List.nil_append] at hI ⊢
 obtain ⟨hi,hu⟩:=hI
 refine Qan ?_;intro c9 h9
 refine Qy ?_
 obtain ⟨rfl,g9⟩|⟨rfl,g9⟩:=Za h9
 ·refine Qad ?_
  rw [List.drop_eq_nil_of_le by17,findI] at hu;exact Ze rfl rfl (Xu _) by4 ⟨by rw [← hu],rfl⟩
 refine Qk ?_
 obtain ⟨⟨ys,yv,ysu,yms,yds,yp⟩,hxy⟩:=Zj (l:=l) (i:=i) by8
 have hcy:=Cl.cellss_get hxy
 have hmy:=Wg hxy
 refine Qh ?_
 refine QG ?_
 rw [Zz hxy,findI] at hu
 have HG:=hg _ hmy
 simp only [Cl.cells] at HG
 refine QaO ?_
 refine Zb 14 U U U (Zh U te_38 U (.seq _ _) U U by14 ?_)
 refine Qew ?_
 refine Zb 16 U U U (op_callvb (xs:=[.tmp 15]) U U U (HG) by2 ?_);intro c16 h16
 refine Qa ?_
 obtain ⟨rfl,g16⟩|⟨rfl,g16⟩:=Za h16
 ·refine Qbu ?_
  rw [if_neg g16] at hu;exact ⟨i+1,⟨by omega,hu⟩,by show l.length - (i+1)<l.length - i;omega,by5,by4⟩
 refine QaY ?_
 rw [if_pos g16] at hu;exact Ze rfl rfl (Xu _) by4 ⟨by rw [hu],rfl⟩
theorem fnd_Cl (p:Cl→Bool) (g:FuncId) (fs cs:List AV) (l:List Cl) (hg:∀ x∈l,BCall Tryz.prog g (fs++[.agg x.cells]++cs) (p x=true)):ACall Tryz.prog 185 [.seq 6 (Cl.cellss l),.clo (.func g) fs cs] [] (fun v M'=>(∃ b:Bool,(b=true↔0≤findI p l 0)∧v=.tup [.val (.int .i64 (max (findI p l 0) 0)),.val (.bool b)])∧M'=[]):=by
 have H:=IxF_Cl p g fs cs l hg
 refine Zc Tryz.func185 U (by kernel_rfl) U (Wc U) ?_
 refine Qe ?_
 refine QJ ?_
 refine Qbb ?_
 refine Zb 9 U U U (Zd (xs:=[.tmp 7,.tmp 8]) U U (H) by2 ?_)
 refine QK ?_
 refine QfG ?_
 refine QbG ?_;intro c13 h13
 refine Qac ?_
 exact Yn U U U (Xu _) by4 ⟨⟨_,h13,U⟩,U⟩
theorem Class1_c (c:Cl) (s:ByteArray):BCall Tryz.prog 186 [.agg c.cells,.cptr [.val (.string s)]] (sameB c.s s=true):=by
 obtain ⟨cs,cv,csu,cms,cds,cp⟩:=c
 simp only [Cl.cells,Cl.s,Yt]
 refine Zc Tryz.func186 U (by kernel_rfl) U (Wc U) ?_
 refine Qbj ?_
 refine Qs ?_
 refine Qd ?_
 refine QaG ?_
 refine Qas ?_;intro c7 h7
 refine Qo ?_
 exact Ze U U (Xu _) by4 ⟨⟨_,h7,U⟩,U⟩
theorem tClass_c (v:En) (s:ByteArray):PCall Tryz.prog 154 [.agg v.cells,.val (.string s)] (.tup [.val (.int .i64 (max (classI v s) 0)),.val (.bool (decide (0≤classI v s)))]):=by
 have H:=fnd_Cl (fun c=>sameB c.s s) 186 [] [.cptr [.val (.string s)]] v.cl (fun x _=>Class1_c x s)
 have he:findI (fun c=>sameB c.s s) v.cl 0=classI v s:=rfl
 rw [he] at H
 obtain ⟨da,cl,ins⟩:=v
 simp only [En.cl] at H
 simp only [En.cells]
 refine Zc Tryz.func154 U (by kernel_rfl) U (Wc U) ?_
 refine Qar ?_
 refine Qcr ?_
 refine QJ ?_
 refine Qs ?_
 refine Qd ?_
 refine Qdi ?_
 refine Zb 9 U U U (op_callat [] (xs:=[.tmp 7,.tmp 8])  U U U H by2 ?_)
 rintro v9 M9 ⟨⟨b9,hb9,rfl⟩,rfl⟩
 refine QbF ?_
 refine Qac ?_
 obtain rfl:b9=decide (0≤classI (En.mk da cl ins) s):=by cases b9 <;> simp_all
 exact Yn U U U (Xu _) by4 ⟨U,U⟩
theorem sHasPrefix_c (s:ByteArray):BCall Tryz.prog 203 [.val (.string s),.val (.string kBr)] (isBr s=true):=by
 have h0 := @isBr_size s
 have hq:isBr s=true↔s.extract 0 1=kBr:=by unfold isBr;exact Yt
 have hk:kBr.size=1:=rfl
 generalize (isBr s=true)=q at *
 refine Zc Tryz.func203 U (by kernel_rfl) U (Wc U) ?_
 refine Qe ?_
 refine QG ?_
 refine Zw 4 (q) ?_ _ _ U ?_
 ·skip
  refine Qb ?_
  refine Qco ?_
  refine Qb ?_
  refine Qco ?_
  refine QbS ?_;intro c9 h9
  refine Qb ?_
  obtain ⟨rfl,g9⟩|⟨rfl,g9⟩:=Za h9
  ·skip
   refine Qx ?_
   refine QbI ?_
   refine Wa U ?_ by6 by4
   first|(simp_all;done)|grind
  skip
  refine QaM ?_
  refine Qfh ?_
  refine Zo 14 rfl rfl rfl rfl rfl (op_substrh (j:=1) rfl tu_9 rfl rfl by11 (by first|omega|assumption) ?_)
  refine Qf ?_
  refine Qbf ?_;intro c16 h16
  refine QC ?_
  refine Wa U ?_ by6 by4
  first|(simp_all;done)|grind
 intro c4 h4
 refine QI ?_
 exact Ze U U (Xu _) by4 ⟨⟨_,h4,U⟩,U⟩
theorem HasPrefix_c (s:ByteArray):BCall Tryz.prog 174 [.val (.string s),.val (.string kBr)] (isBr s=true):=by
 have H:=sHasPrefix_c s
 refine Zc Tryz.func174 U (by kernel_rfl) U (Wc U) ?_
 refine Qe ?_
 refine Qbb ?_
 refine Zb 7 U U U (Zg (xs:=[.tmp 5,.tmp 6]) U U (H) by2 ?_);intro c7 h7
 refine Qo ?_
 exact Ze U U (Xu _) by4 ⟨⟨_,h7,U⟩,U⟩
def clsC (v:En) (s:ByteArray):Int:=if isBr s=true then classI v (tailB s) else -1
theorem coClass_c (v:En) (s:ByteArray):PCall Tryz.prog 122 [.agg v.cells,.val (.string s)] (.tup [.val (.int .i64 (max (clsC v s) 0)),.val (.bool (decide (0≤clsC v s)))]):=by
 have H:=HasPrefix_c s
 have HC:=tClass_c v (s.extract 1 s.size)
 have h0 := @isBr_size s
 obtain ⟨r,hr⟩:∃ r,clsC v s=r:=⟨_,rfl⟩
 rw [hr]
 unfold clsC tailB at hr
 generalize isBr s=c at *
 generalize classI v (s.extract 1 s.size)=i at *
 obtain ⟨da,cl,ins⟩:=v
 simp only [En.cells] at HC ⊢
 refine Zc Tryz.func122 U (by kernel_rfl) U (Wc U) ?_
 refine Qar ?_
 refine QJ ?_
 refine QU ?_
 refine Zb 7 U U U (Zg (xs:=[.tmp 6,.const (.string ⟨#[123]⟩)]) U U (H) by2 ?_);intro c7 h7
 refine Q5 ?_;intro c8 h8
 try replace h8:=Ym h8 h7
 refine Qa ?_
 obtain ⟨rfl,g8⟩|⟨rfl,g8⟩:=Za h8
 ·refine Qp ?_
  rw [if_pos (Classical.not_not.1 g8)] at hr
  subst hr
  have h1:=h0 (Classical.not_not.1 g8)
  refine Q6 ?_
  refine Qct ?_
  refine QF ?_
  refine Zq 11 rfl rfl (op_substrl (i:=1) rfl tu_9 rfl rfl by11 (by first|omega|assumption) ⟨rfl,rfl⟩) ?_
  refine Zq 12 U U (Zd (xs:=[.tmp 9,.tmp 11]) U U (HC) by2 ⟨U,U⟩) ?_
  refine Qb7 ?_
  refine Qb7 ?_
  refine Qdz ?_
  show AGo _ _ _ _ _ _ _
  refine QI ?_
  exact Yn U U U (Xu _) (Xp _) ⟨U,U⟩
 refine QaZ ?_
 rw [if_neg g8] at hr
 subst hr
 exact Yn U U U (Xu _) (Xp _) ⟨U,U⟩
theorem IxF_Da (p:Da→Bool) (g:FuncId) (fs cs:List AV) (l:List Da) (hg:∀ x∈l,BCall Tryz.prog g (fs++[.agg x.cells]++cs) (p x=true)):PCall Tryz.prog 202 [.seq 5 (Da.cellss l),.clo (.func g) fs cs] (.val (.int .i64 (findI p l 0))):=by
 have hl:=Da.cellss_len l
 obtain ⟨r,hr⟩:∃ r,findI p l 0=r:=⟨_,rfl⟩
 rw [hr]
 refine Zc Tryz.func202 U (by kernel_rfl) U (Wc U) ?_
 refine QN ?_
 refine c_lens (t:=0) U (.seq _ _) (fun hmax=>?_)
 refine QbY ?_
 refine Qeb ?_;intro n7
 refine Qam ?_
 apply Zu (rg [(2,5),(8,11)]) (σ:=Nat) (fun zz=>match zz with|i=>[(8,.val (.int .i64 i))]) (fun zz=>match zz with|i=>i≤l.length∧findI p (l.drop i) i=r) (fun zz=>match zz with|i=>l.length - i) (0)
 ·repeat' (first|exact Wf|apply Wd rfl|apply We rfl)
 ·exact ⟨by omega,hr⟩
 ·exact by5
 rintro i hI
 try dsimp only [List.cons_append,List.nil_append] at hI ⊢
 obtain ⟨hi,hu⟩:=hI
 refine Qan ?_;intro c9 h9
 refine Qy ?_
 obtain ⟨rfl,g9⟩|⟨rfl,g9⟩:=Za h9
 ·refine Qad ?_
  rw [List.drop_eq_nil_of_le by17,findI] at hu;exact Ze rfl rfl (Xu _) by4 ⟨by rw [← hu],rfl⟩
 refine Qk ?_
 obtain ⟨⟨ys,yps,ycs,ydv,yp⟩,hxy⟩:=Zj (l:=l) (i:=i) by8
 have hcy:=Da.cellss_get hxy
 have hmy:=Wg hxy
 refine Qh ?_
 refine QG ?_
 rw [Zz hxy,findI] at hu
 have HG:=hg _ hmy
 refine QaO ?_
 refine Zb 14 U U U (Zh U te_37 U (.seq _ _) U U (hcy) ?_)
 refine Qed ?_
 refine Zb 16 U U U (op_callvb (xs:=[.tmp 15]) U U U (HG) by2 ?_);intro c16 h16
 refine Qa ?_
 obtain ⟨rfl,g16⟩|⟨rfl,g16⟩:=Za h16
 ·refine Qbu ?_
  rw [if_neg g16] at hu;exact ⟨i+1,⟨by omega,hu⟩,by show l.length - (i+1)<l.length - i;omega,by5,by4⟩
 refine QaY ?_
 rw [if_pos g16] at hu;exact Ze rfl rfl (Xu _) by4 ⟨by rw [hu],rfl⟩
theorem fnd_Da (p:Da→Bool) (g:FuncId) (fs cs:List AV) (l:List Da) (hg:∀ x∈l,BCall Tryz.prog g (fs++[.agg x.cells]++cs) (p x=true)):PCall Tryz.prog 172 [.seq 5 (Da.cellss l),.clo (.func g) fs cs] (.tup [.val (.int .i64 (max (findI p l 0) 0)),.val (.bool (decide (0≤findI p l 0)))]):=by
 have H:=IxF_Da p g fs cs l hg
 refine Zc Tryz.func172 U (by kernel_rfl) U (Wc U) ?_
 refine Qe ?_
 refine QJ ?_
 refine Qbb ?_
 refine Zb 9 U U U (Zd (xs:=[.tmp 7,.tmp 8]) U U (H) by2 ?_)
 refine QK ?_
 refine QfG ?_
 refine QbG ?_;intro c13 h13
 refine Qac ?_
 exact Yn U U U (Le.tup (Xw (Xu _) (Xw (Le.beq (by cases c13 <;> simp_all)) (Xv _)))) by4 ⟨U,U⟩
theorem Arity1_c (x:Da) (s:ByteArray):BCall Tryz.prog 173 [.agg x.cells,.cptr [.val (.string s)]] (sameB x.s s=true):=by
 obtain ⟨ds,ps,cs,dv,p⟩:=x
 rw [show (sameB (Da.mk ds ps cs dv p).s s=true)=(ds=s) from propext Yt]
 refine Zc Tryz.func173 U (by kernel_rfl) U (Wc U) ?_
 refine Qe ?_
 refine QcN ?_
 refine Qs ?_
 refine Qd ?_
 refine QaG ?_
 refine Qas ?_;intro c7 h7
 refine Qo ?_
 exact Ze U U (Xu _) (Xp _) ⟨⟨_,h7,U⟩,U⟩
def baseA (s:ByteArray):Int:=if sameB s kIntT=true∨sameB s kStrT=true then 0 else if sameB s kRefT=true then 1 else if sameB s kArrow=true then 2 else -1
theorem tBase_c (s:ByteArray):PCall Tryz.prog 171 [.val (.string s)] (.tup [.val (.int .i64 (max (baseA s) 0)),.val (.bool (decide (0≤baseA s)))]):=by
 obtain ⟨r,hr⟩:∃ r,baseA s=r:=⟨_,rfl⟩
 rw [hr]
 unfold baseA at hr
 simp only [Yt] at hr
 refine Zc Tryz.func171 U (by kernel_rfl) U (Wc U) ?_
 refine Qe ?_
 refine QJ ?_
 refine QU ?_
 refine Qdl ?_
 refine Q2 ?_
 refine Ql ?_
 refine Qas ?_;intro c6 h6
 refine Qj ?_
 obtain ⟨rfl,g6⟩|⟨rfl,g6⟩:=Za h6
 ·refine QX ?_
  refine Qi ?_
  refine Qas ?_;intro c7 h7
  refine Qj ?_
  obtain ⟨rfl,g7⟩|⟨rfl,g7⟩:=Za h7
  ·refine QX ?_
   refine Ql ?_
   refine Qas ?_;intro c9 h9
   refine Qj ?_
   obtain ⟨rfl,g9⟩|⟨rfl,g9⟩:=Za h9
   ·refine QX ?_
    refine Ql ?_
    refine Qas ?_;intro c11 h11
    refine Qj ?_
    obtain ⟨rfl,g11⟩|⟨rfl,g11⟩:=Za h11
    ·refine Qbr ?_
     refine Ql ?_
     refine Qac ?_
     rw [if_neg (fun q=>q.elim g6 g7),if_neg g9,if_neg g11] at hr
     subst hr
     exact Yn U U U (Xu _) by4 ⟨U,U⟩
    refine QaZ ?_
    rw [if_neg (fun q=>q.elim g6 g7),if_neg g9,if_pos g11] at hr
    subst hr
    exact Yn U U U (Xu _) by4 ⟨U,U⟩
   refine QaZ ?_
   rw [if_neg (fun q=>q.elim g6 g7),if_pos g9] at hr
   subst hr
   exact Yn U U U (Xu _) by4 ⟨U,U⟩
  refine QaZ ?_
  have hb:s=kIntT∨s=kStrT:=by first|exact .inl g6|exact .inr g7
  rw [if_pos hb] at hr
  subst hr
  exact Yn U U U (Xu _) by4 ⟨U,U⟩
 refine Q4 ?_
 refine Qbm ?_
 refine Qc ?_
 refine QaZ ?_
 have hb:s=kIntT∨s=kStrT:=by first|exact .inl g6|exact .inr g7
 rw [if_pos hb] at hr
 subst hr
 exact Yn U U U (Xu _) by4 ⟨U,U⟩
theorem arityD_find (s:ByteArray):∀ (l:List Da) (i:Nat),(findI (fun (d:Da)=>sameB d.s s) l i<0→arityD s l = -1)∧(∀ k:Nat,findI (fun (d:Da)=>sameB d.s s) l i=((i+k:Nat):Int)→∃ d,l[k]?=some d∧arityD s l=d.ps.length)
 | [],i=>⟨fun _=>rfl,fun k h=>by rw [findI] at h;omega⟩
 | d::l,i=>by
  rw [findI,arityD]
  by_cases h:sameB d.s s=true
  ·rw [if_pos h,if_pos h]
   exact ⟨fun q=>by omega,fun k q=>⟨d,by rw [show k=0 by omega];rfl,U⟩⟩
  rw [if_neg h,if_neg h]
  obtain ⟨h1,h2⟩:=arityD_find s l (i+1)
  refine ⟨h1,fun k q=>?_⟩
  have:=findI_cases (fun (d:Da)=>sameB d.s s) l (i+1)
  obtain ⟨k,rfl⟩:∃ k',k=k'+1:=⟨k - 1,by omega⟩
  obtain ⟨x,h3,h4⟩:=h2 k (by rw [q];omega)
  exact ⟨x,by simpa using h3,h4⟩
theorem arityR_split (v:En) (s:ByteArray):arityR v s=if 0≤baseA s then baseA s else arityD s v.da:=by
 unfold arityR baseA
 split
 ·rfl
 split
 ·rfl
 split <;> rfl
theorem tArity_c (v:En) (s:ByteArray):PCall Tryz.prog 121 [.agg v.cells,.val (.string s)] (.tup [.val (.int .i64 (max (arityR v s) 0)),.val (.bool (decide (0≤arityR v s)))]):=by
 have HB:=tBase_c s
 have HF:=fnd_Da (fun d=>sameB d.s s) 173 [] [.cptr [.val (.string s)]] v.da (fun x _=>Arity1_c x s)
 obtain ⟨h1,h2⟩:=arityD_find s v.da 0
 obtain ⟨r,hr⟩:∃ r,arityR v s=r:=⟨_,rfl⟩
 rw [hr]
 rw [arityR_split] at hr
 generalize baseA s=ba at *
 have hfl:=findI_lt (fun (d:Da)=>sameB d.s s) v.da 0
 generalize findI (fun (d:Da)=>sameB d.s s) v.da 0=fi at *
 obtain ⟨c14,hc14⟩:∃ c,decide (0≤ba)=c:=⟨_,rfl⟩
 obtain ⟨c23,hc23⟩:∃ c,decide (0≤fi)=c:=⟨_,rfl⟩
 rw [hc14] at HB
 rw [hc23] at HF
 obtain ⟨da,cl,ins⟩:=v
 have hld:=Da.cellss_len da
 simp only [En.cells,En.da] at *
 refine Zc Tryz.func121 U (by kernel_rfl) U (Wc U) ?_
 refine Qar ?_
 refine Qcr ?_
 refine QJ ?_
 refine Qbi ?_
 refine QaG ?_
 refine Zb 12 U U U (Zd (xs:=[.tmp 11]) U U (HB) by2 ?_)
 refine Qa0 ?_
 refine QK ?_
 refine Qa ?_
 rcases c14 with _|_
 ·refine Qp ?_
  have hb:¬ 0≤ba:=by simpa using hc14
  rw [if_neg hb] at hr
  refine Qi ?_
  refine Qd ?_
  refine Qdi ?_
  refine Zb 21 U U U (Zd (xs:=[.tmp 19,.tmp 20]) U U (HF) by2 ?_)
  refine Qa0 ?_
  refine QcZ ?_;intro c25 h25
  try replace h25:=Ym h25 h23
  refine Qa ?_
  obtain ⟨rfl,g25⟩|⟨rfl,g25⟩:=Za h25
  ·refine Qp ?_
   have hf:0≤fi:=by simpa [← hc23] using g25
   obtain ⟨⟨qs,qps,qcs,qdv,qp⟩,hq,hqa⟩:=h2 fi.toNat by17
   have hcq:=Da.cellss_get hq
   have hqs:=Ya qps
   rw [hqa] at hr
   subst hr
   rw [show max fi 0=(fi.toNat:Int) by omega]
   simp only [Da.ps]
   refine Qa5 ?_
   refine QfH ?_
   refine Qd ?_
   refine QbB ?_;intro n32
   refine Qac ?_
   exact Yn U U U (Le.tup (Xw (Le.ieq by17) (Xw (Le.beq by18) (Xv _)))) (Xp _) ⟨U,U⟩
  refine QaZ ?_
  have hf:¬ 0≤fi:=by simpa [← hc23] using g25
  rw [h1 by17] at hr
  subst hr
  exact Yn U U U (Xu _) (Xp _) ⟨U,U⟩
 refine QaW ?_
 refine Qac ?_
 have hb:0≤ba:=by simpa using hc14
 rw [if_pos hb] at hr
 subst hr
 exact Yn U U U (Le.tup (Xw (Xu _) (Xw (Le.beq (by simpa using hb)) (Xv _)))) (Xp _) ⟨U,U⟩
theorem rightC_iff {v:En} {vs:List ByteArray} {k n:Int} {s:ByteArray} {ks:List Ty}:rightC v vs (.mk k s n ks)=true↔((k=1∧s∈vs)∨(k=3∧arC v s=ks.length))∧ks.all (rightC v vs)=true:=by
 rw [rightC,rightCs_all,Bool.and_eq_true]
 by_cases h1:k=1
 ·subst h1;simp [hasB_iff]
 rw [if_neg h1]
 by_cases h3:k=3
 ·subst h3;simp
 rw [if_neg h3];simp [h1,h3]
theorem arC_split (v:En) (s:ByteArray):arC v s=if 0≤arityR v s then arityR v s else if 0≤clsC v s then 1 else -1:=by
 unfold arC clsC
 by_cases h:isBr s=true
 ·rw [if_pos h];simp [h]
 rw [if_neg h];simp [h]
theorem coRight1_c (v:En) (vs:List ByteArray) (x:Ty) (h:BCall Tryz.prog 74 [.agg v.cells,.seq 1 (strs vs),.agg x.cells] (rightC v vs x=true)):BCall Tryz.prog 123 [.agg x.cells,.cptr v.cells,.cptr [.seq 1 (strs vs)]] (rightC v vs x=true):=by
 generalize (rightC v vs x=true)=q at *
 obtain ⟨k,s,n,ks⟩:=x
 obtain ⟨da,cl,ins⟩:=v
 simp only [En.cells] at *
 refine Zc Tryz.func123 U (by kernel_rfl) U (Wc U) ?_
 refine Qds ?_
 refine Qdw ?_
 refine QaG ?_
 refine Q7 ?_
 refine Zb 8 U U U (Zg (xs:=[.tmp 5,.tmp 6,.tmp 7]) U U (h) by2 ?_);intro c8 h8
 refine Qo ?_
 exact Ze U U (Xu _) (Xp _) ⟨⟨_,h8,U⟩,U⟩
theorem coRight_c (v:En) (vs:List ByteArray) (t:Ty):BCall Tryz.prog 74 [.agg v.cells,.seq 1 (strs vs),.agg t.cells] (rightC v vs t=true):=by
 obtain ⟨k,s,n,ks⟩:=t
 have HA:=all_Ty (rightC v vs) 123 [] [.cptr v.cells,.cptr [.seq 1 (strs vs)]] ks (fun x hx=>coRight1_c v vs x (coRight_c v vs x))
 have HS:=ContainsS_c vs s
 have HN:=tArity_c v s
 have HC:=coClass_c v s
 have hr:=rightC_iff (v:=v) (vs:=vs) (k:=k) (s:=s) (n:=n) (ks:=ks)
 rw [arC_split] at hr
 generalize (rightC v vs (.mk k s n ks)=true)=R at *
 generalize (ks.all (rightC v vs)=true)=A at *
 generalize arityR v s=ar at *
 generalize clsC v s=cc at *
 obtain ⟨c26,hc26⟩:∃ c,decide (0≤ar)=c:=⟨_,rfl⟩
 obtain ⟨c35,hc35⟩:∃ c,decide (0≤cc)=c:=⟨_,rfl⟩
 rw [hc26] at HN
 rw [hc35] at HC
 have hlk:=Ty.cellss_len ks
 obtain ⟨da,cl,ins⟩:=v
 simp only [En.cells] at *
 refine Zc Tryz.func74 U (by kernel_rfl) U (Wc U) ?_
 refine Qar ?_
 refine Qcr ?_
 refine Qdf ?_
 refine Qc6 ?_
 refine Qdl ?_
 refine Ql ?_
 refine Qz ?_;intro c12 h12
 refine Qj ?_
 obtain ⟨rfl,g12⟩|⟨rfl,g12⟩:=Za h12
 ·refine Qaj ?_;intro c19 h19
  refine Qj ?_
  obtain ⟨rfl,g19⟩|⟨rfl,g19⟩:=Za h19
  ·refine QX ?_
   refine Ql ?_
   refine Qo ?_
   exact Ze U U (Xu _) (Xp _) ⟨⟨_,iff_f (fun q=>by have:=(hr.1 q).1;omega),U⟩,U⟩
  refine Qq ?_
  refine Qbe ?_
  refine Qd ?_
  refine Zb 24 U U U (Zd (xs:=[.tmp 21,.tmp 23]) U U (HN) by2 ?_)
  refine Qa0 ?_
  refine QcZ ?_;intro c28 h28
  try replace h28:=Ym h28 h26
  refine Qa ?_
  obtain ⟨rfl,g28⟩|⟨rfl,g28⟩:=Za h28
  ·refine Qp ?_
   refine Zw 44 (¬ ((if 0≤ar then ar else if 0≤cc then (1:Int) else -1)=ks.length)) ?_ _ _ U ?_
   ·skip
    refine Qbx ?_;intro c37 h37
    try replace h37:=Ym h37 h35
    refine Qb ?_
    obtain ⟨rfl,g37⟩|⟨rfl,g37⟩:=Za h37
    ·skip
     refine Qf ?_
     refine QA ?_
     refine QbC ?_;intro n42
     refine Qax ?_;intro c43 h43
     refine Qm ?_
     refine Wa U ?_ by6 by4
     clear HA HS HN HC hr;first|grind|(simp_all;done)
    skip
    refine QaH ?_
    refine Wa U ?_ by6 by4
    clear HA HS HN HC hr;first|grind|(simp_all;done)
   intro c44 h44
   refine Qc ?_
   obtain ⟨rfl,g44⟩|⟨rfl,g44⟩:=Za h44
   ·refine Qbr ?_
    refine Ql ?_
    refine Qd ?_
    refine QeP ?_
    refine Zb 48 U U U (Zg (xs:=[.tmp 46,.tmp 47]) U U (HA) by2 ?_);intro c48 h48
    refine Qo ?_
    exact Ze U U (Xu _) (Xp _) ⟨⟨_,h48.trans ⟨fun q=>hr.2 ⟨by first|exact .inl ⟨g12,Classical.not_not.1 g17⟩|exact .inr ⟨g19,Classical.not_not.1 g44⟩,q⟩,fun q=>(hr.1 q).2⟩,U⟩,U⟩
   refine QD ?_
   exact Ze U U (Xu _) (Xp _) ⟨⟨_,iff_f (fun q=>(hr.1 q).1.elim (fun h=>by omega) (fun h=>g44 h.2)),U⟩,U⟩
  refine Qq ?_
  refine Qbe ?_
  refine Qd ?_
  refine Zb 33 U U U (Zd (xs:=[.tmp 30,.tmp 32]) U U (HC) by2 ?_)
  refine Qb ?_
  refine QbF ?_
  refine Qj ?_
  refine Qi ?_
  refine QG ?_
  refine Zw 44 (¬ ((if 0≤ar then ar else if 0≤cc then (1:Int) else -1)=ks.length)) ?_ _ _ U ?_
  ·skip
   refine Qbx ?_;intro c37 h37
   try replace h37:=Ym h37 h35
   refine Qb ?_
   obtain ⟨rfl,g37⟩|⟨rfl,g37⟩:=Za h37
   ·skip
    refine Qf ?_
    refine QA ?_
    refine QbC ?_;intro n42
    refine Qax ?_;intro c43 h43
    refine Qm ?_
    refine Wa U ?_ by6 by4
    clear HA HS HN HC hr;first|grind|(simp_all;done)
   skip
   refine QaH ?_
   refine Wa U ?_ by6 by4
   clear HA HS HN HC hr;first|grind|(simp_all;done)
  intro c44 h44
  refine Qc ?_
  obtain ⟨rfl,g44⟩|⟨rfl,g44⟩:=Za h44
  ·refine Qbr ?_
   refine Ql ?_
   refine Qd ?_
   refine QeP ?_
   refine Zb 48 U U U (Zg (xs:=[.tmp 46,.tmp 47]) U U (HA) by2 ?_);intro c48 h48
   refine Qo ?_
   exact Ze U U (Xu _) (Xp _) ⟨⟨_,h48.trans ⟨fun q=>hr.2 ⟨by first|exact .inl ⟨g12,Classical.not_not.1 g17⟩|exact .inr ⟨g19,Classical.not_not.1 g44⟩,q⟩,fun q=>(hr.1 q).2⟩,U⟩,U⟩
  refine QD ?_
  exact Ze U U (Xu _) (Xp _) ⟨⟨_,iff_f (fun q=>(hr.1 q).1.elim (fun h=>by omega) (fun h=>g44 h.2)),U⟩,U⟩
 refine Qq ?_
 refine QaG ?_
 refine Qd ?_
 refine Zb 16 U U U (Zg (xs:=[.tmp 13,.tmp 15]) U U (HS) by2 ?_);intro c16 h16
 refine Q5 ?_;intro c17 h17
 try replace h17:=Ym h17 h16
 refine Qa ?_
 obtain ⟨rfl,g17⟩|⟨rfl,g17⟩:=Za h17
 ·refine Qbr ?_
  refine Ql ?_
  refine Qd ?_
  refine QeP ?_
  refine Zb 48 U U U (Zg (xs:=[.tmp 46,.tmp 47]) U U (HA) by2 ?_);intro c48 h48
  refine Qo ?_
  exact Ze U U (Xu _) (Xp _) ⟨⟨_,h48.trans ⟨fun q=>hr.2 ⟨by first|exact .inl ⟨g12,Classical.not_not.1 g17⟩|exact .inr ⟨g19,Classical.not_not.1 g44⟩,q⟩,fun q=>(hr.1 q).2⟩,U⟩,U⟩
 refine QD ?_
 exact Ze U U (Xu _) (Xp _) ⟨⟨_,iff_f (fun q=>(hr.1 q).1.elim (fun h=>g17 h.2) (fun h=>by omega)),U⟩,U⟩
termination_by SizeOf.sizeOf t
decreasing_by
 have:=List.sizeOf_lt_of_mem hx
 simp;omega
inductive Sc where
 | mk (vs:List ByteArray) (ps:List Pr) (t:Ty)
def Sc.cells:Sc→List AV
 | .mk vs ps t=>.seq 1 (strs vs)::.seq 5 (Pr.cellss ps)::t.cells
def Sc.vs:Sc→List ByteArray|.mk vs _ _=>vs
def Sc.ps:Sc→List Pr|.mk _ ps _=>ps
def Sc.t:Sc→Ty|.mk _ _ t=>t
def Sc.cellss (l:List Sc):List (List AV):=l.map Sc.cells
theorem Sc.cellss_map (l:List Sc):Sc.cellss l=l.map Sc.cells:=rfl
theorem Sc.cellss_len (l:List Sc):(Sc.cellss l).length=l.length:=by simp [Sc.cellss]
theorem Sc.cellss_get {l:List Sc} {i:Nat} {x:Sc} (h:l[i]?=some x):(Sc.cellss l)[i]?=some x.cells:=by simp [Sc.cellss,h]
theorem Sc.cells_len (x:Sc):x.cells.length=6:=by
 obtain ⟨xvs,xps,⟨xtk,xts,xtn,xtl⟩⟩:=x
 rfl
def Sc.cellsss (l:List (List Sc)):List (List AV):=l.map fun x=>[.seq 6 (Sc.cellss x)]
def Sc.Lim:Sc→Prop
 | .mk vs ps t=>(vs.length≤140737488355328)∧(ps.length≤140737488355328∧∀ x∈ps,x.Lim)∧(t.Lim)
inductive Pm where
 | mk (s:ByteArray) (op:Int) (n:Int) (sc:Sc)
def Pm.cells:Pm→List AV
 | .mk s op n sc=>.val (.string s)::.val (.int .i64 op)::.val (.int .i64 n)::sc.cells
def Pm.s:Pm→ByteArray|.mk s _ _ _=>s
def Pm.op:Pm→Int|.mk _ op _ _=>op
def Pm.n:Pm→Int|.mk _ _ n _=>n
def Pm.sc:Pm→Sc|.mk _ _ _ sc=>sc
def Pm.cellss (l:List Pm):List (List AV):=l.map Pm.cells
theorem Pm.cellss_map (l:List Pm):Pm.cellss l=l.map Pm.cells:=rfl
theorem Pm.cellss_len (l:List Pm):(Pm.cellss l).length=l.length:=by simp [Pm.cellss]
theorem Pm.cellss_get {l:List Pm} {i:Nat} {x:Pm} (h:l[i]?=some x):(Pm.cellss l)[i]?=some x.cells:=by simp [Pm.cellss,h]
theorem Pm.cells_len (x:Pm):x.cells.length=9:=by
 obtain ⟨xs,xop,xn,⟨xscvs,xscps,⟨xsctk,xscts,xsctn,xsctl⟩⟩⟩:=x
 rfl
def Pm.cellsss (l:List (List Pm)):List (List AV):=l.map fun x=>[.seq 9 (Pm.cellss x)]
def Pm.Lim:Pm→Prop
 | .mk _ _ _ sc=>(sc.Lim)
inductive Ato where
 | mk (k:Int) (n:Int)
def Ato.cells:Ato→List AV
 | .mk k n=>.val (.int .i64 k)::[.val (.int .i64 n)]
def Ato.k:Ato→Int|.mk k _=>k
def Ato.n:Ato→Int|.mk _ n=>n
def Ato.cellss (l:List Ato):List (List AV):=l.map Ato.cells
theorem Ato.cellss_map (l:List Ato):Ato.cellss l=l.map Ato.cells:=rfl
theorem Ato.cellss_len (l:List Ato):(Ato.cellss l).length=l.length:=by simp [Ato.cellss]
theorem Ato.cellss_get {l:List Ato} {i:Nat} {x:Ato} (h:l[i]?=some x):(Ato.cellss l)[i]?=some x.cells:=by simp [Ato.cellss,h]
theorem Ato.cells_len (x:Ato):x.cells.length=2:=by
 obtain ⟨xk,xn⟩:=x
 rfl
def Ato.cellsss (l:List (List Ato)):List (List AV):=l.map fun x=>[.seq 2 (Ato.cellss x)]
def Ato.Lim:Ato→Prop
 | .mk k n=>(I64 k)∧(I64 n)
inductive Is where
 | mk (op:Int) (a:Int) (b:Int) (n:Int) (ar:List Ato) (fs:List Int) (cp:List (List Ato))
def Is.cells:Is→List AV
 | .mk op a b n ar fs cp=>.val (.int .i64 op)::.val (.int .i64 a)::.val (.int .i64 b)::.val (.int .i64 n)::.seq 2 (Ato.cellss ar)::.seq 1 (nums fs)::[.seq 1 (Ato.cellsss cp)]
def Is.op:Is→Int|.mk op _ _ _ _ _ _=>op
def Is.a:Is→Int|.mk _ a _ _ _ _ _=>a
def Is.b:Is→Int|.mk _ _ b _ _ _ _=>b
def Is.n:Is→Int|.mk _ _ _ n _ _ _=>n
def Is.ar:Is→List Ato|.mk _ _ _ _ ar _ _=>ar
def Is.fs:Is→List Int|.mk _ _ _ _ _ fs _=>fs
def Is.cp:Is→List (List Ato)|.mk _ _ _ _ _ _ cp=>cp
def Is.cellss (l:List Is):List (List AV):=l.map Is.cells
theorem Is.cellss_map (l:List Is):Is.cellss l=l.map Is.cells:=rfl
theorem Is.cellss_len (l:List Is):(Is.cellss l).length=l.length:=by simp [Is.cellss]
theorem Is.cellss_get {l:List Is} {i:Nat} {x:Is} (h:l[i]?=some x):(Is.cellss l)[i]?=some x.cells:=by simp [Is.cellss,h]
theorem Is.cells_len (x:Is):x.cells.length=7:=by
 obtain ⟨xop,xa,xb,xn,xar,xfs,xcp⟩:=x
 rfl
def Is.cellsss (l:List (List Is)):List (List AV):=l.map fun x=>[.seq 7 (Is.cellss x)]
def Is.Lim:Is→Prop
 | .mk op a b n ar fs cp=>(I64 op)∧(I64 a)∧(I64 b)∧(I64 n)∧(ar.length≤140737488355328∧∀ x∈ar,x.Lim)∧(fs.length≤140737488355328∧∀ x∈fs,I64 x)∧(cp.length≤140737488355328∧∀ x∈cp,x.length≤140737488355328∧∀ y∈x,y.Lim)
inductive Cf where
 | mk (len:Int) (sl:Int) (cp:Int)
def Cf.cells:Cf→List AV
 | .mk len sl cp=>.val (.int .i64 len)::.val (.int .i64 sl)::[.val (.int .i64 cp)]
def Cf.len:Cf→Int|.mk len _ _=>len
def Cf.sl:Cf→Int|.mk _ sl _=>sl
def Cf.cp:Cf→Int|.mk _ _ cp=>cp
def Cf.cellss (l:List Cf):List (List AV):=l.map Cf.cells
theorem Cf.cellss_map (l:List Cf):Cf.cellss l=l.map Cf.cells:=rfl
theorem Cf.cellss_len (l:List Cf):(Cf.cellss l).length=l.length:=by simp [Cf.cellss]
theorem Cf.cellss_get {l:List Cf} {i:Nat} {x:Cf} (h:l[i]?=some x):(Cf.cellss l)[i]?=some x.cells:=by simp [Cf.cellss,h]
theorem Cf.cells_len (x:Cf):x.cells.length=3:=by
 obtain ⟨xlen,xsl,xcp⟩:=x
 rfl
def Cf.cellsss (l:List (List Cf)):List (List AV):=l.map fun x=>[.seq 3 (Cf.cellss x)]
def Cf.Lim:Cf→Prop
 | .mk len sl cp=>(I64 len)∧(I64 sl)∧(I64 cp)
inductive Cd where
 | mk (is:List Is) (fu:List Cf) (tx:List ByteArray) (gl:Int) (ys:Int) (no:Int)
def Cd.cells:Cd→List AV
 | .mk is fu tx gl ys no=>.seq 7 (Is.cellss is)::.seq 3 (Cf.cellss fu)::.seq 1 (strs tx)::.val (.int .i64 gl)::.val (.int .i64 ys)::[.val (.int .i64 no)]
def Cd.is:Cd→List Is|.mk is _ _ _ _ _=>is
def Cd.fu:Cd→List Cf|.mk _ fu _ _ _ _=>fu
def Cd.tx:Cd→List ByteArray|.mk _ _ tx _ _ _=>tx
def Cd.gl:Cd→Int|.mk _ _ _ gl _ _=>gl
def Cd.ys:Cd→Int|.mk _ _ _ _ ys _=>ys
def Cd.no:Cd→Int|.mk _ _ _ _ _ no=>no
def Cd.cellss (l:List Cd):List (List AV):=l.map Cd.cells
theorem Cd.cellss_map (l:List Cd):Cd.cellss l=l.map Cd.cells:=rfl
theorem Cd.cellss_len (l:List Cd):(Cd.cellss l).length=l.length:=by simp [Cd.cellss]
theorem Cd.cellss_get {l:List Cd} {i:Nat} {x:Cd} (h:l[i]?=some x):(Cd.cellss l)[i]?=some x.cells:=by simp [Cd.cellss,h]
theorem Cd.cells_len (x:Cd):x.cells.length=6:=by
 obtain ⟨xis,xfu,xtx,xgl,xys,xno⟩:=x
 rfl
def Cd.cellsss (l:List (List Cd)):List (List AV):=l.map fun x=>[.seq 6 (Cd.cellss x)]
def Cd.Lim:Cd→Prop
 | .mk is fu tx gl ys no=>(is.length≤140737488355328∧∀ x∈is,x.Lim)∧(fu.length≤140737488355328∧∀ x∈fu,x.Lim)∧(tx.length≤140737488355328)∧(I64 gl)∧(I64 ys)∧(I64 no)
end Go.Proofs.YteepjjgooplljaaGreat
namespace Go.Proofs.YteepjjgooplljaaGreat
mutual
def Ty.eqC:Ty→Ty→Bool
 | .mk k s n ks,.mk k' s' n' ks'=>decide (k=k') && sameB s s' && decide (n=n') && Ty.eqCs ks ks'
def Ty.eqCs:List Ty→List Ty→Bool
 | [],[]=>true
 | t::ts,u::us=>t.eqC u && Ty.eqCs ts us
 | _,_=>false
end
mutual
theorem Ty.eqC_iff:∀ a b:Ty,a.eqC b=true↔a=b
 | .mk k s n ks,.mk k' s' n' ks'=>by
  rw [Ty.eqC]
  simp only [Bool.and_eq_true,decide_eq_true_eq,Yt,Ty.eqCs_iff ks ks',Ty.mk.injEq,and_assoc]
theorem Ty.eqCs_iff:∀ a b:List Ty,Ty.eqCs a b=true↔a=b
 | [],[]=>by simp [Ty.eqCs]
 | [],_::_=>by simp [Ty.eqCs]
 | _::_,[]=>by simp [Ty.eqCs]
 | t::ts,u::us=>by
  rw [Ty.eqCs]
  simp only [Bool.and_eq_true,Ty.eqC_iff t u,Ty.eqCs_iff ts us,List.cons.injEq]
end
abbrev tyZ:Ty:=.mk 0 kE 0 []
abbrev co0:Co:=.mk 0 kE 0 tyZ [] [] [] []
abbrev cb0:Cb:=.mk kE [] tyZ co0
abbrev tInt:Ty:=.mk 3 kIntT 0 []
abbrev tStr:Ty:=.mk 3 kStrT 0 []
def starC (s:ByteArray) (t:Ty):Ty:=.mk 3 (kBr++s) 0 [t]
def partsC (v:En) (s:ByteArray) (t:Ty):Option (List Ty) :=
 if classI v s<0 then none else match v.cl[(classI v s).toNat]? with
  | none=>none
  | some c=>some (c.su.map (fun u=>starC u t)++c.ms.map fun m=>m.t.turn (putO [c.v] [t]))
def conC (s:ByteArray):List Da→Option (Da × Cn)
 | []=>none
 | d::l=>if findI (fun (c:Cn)=>sameB c.s s) d.cs 0<0 then conC s l else match d.cs[(findI (fun (c:Cn)=>sameB c.s s) d.cs 0).toNat]? with
  | none=>none
  | some c=>some (d,c)
def okL (f:Co→Ty × Bool):List Co→List Ty→Bool
 | [],[]=>true
 | x::xs,t::ts=>((f x).2 && (f x).1.eqC t) && okL f xs ts
 | _,_=>false
mutual
def patC (v:En):Pa→Ty→Option (List Cb)
 | .mk k s _ ks _,t=>if k=1 then some [] else if k=2 then some [.mk s [] t co0] else if k=4 then (if t.eqC tInt=true then some [] else none)
  else match conC s v.da with
   | none=>none
   | some (d,c)=>if t.kind≠3∨t.name≠d.s∨t.kids.length≠d.ps.length∨ks.length≠c.ts.length then none else patCs v ks (c.ts.map (Ty.turn (putO d.ps t.kids)))
def patCs (v:En):List Pa→List Ty→Option (List Cb)
 | p::ps,t::ts=>match patC v p t with
  | none=>none
  | some l=>match patCs v ps ts with
   | none=>none
   | some m=>some (l++m)
 | _,_=>some []
end
def unlB (l:List ByteArray):Bool := !dupB [] l
def bindC (f:List Cb→List ByteArray→Co→Ty × Bool) (v:En) (sc:List Cb) (vs:List ByteArray) (b:Cb):Bool :=
 (unlB b.vs && b.vs.all fun s => !hasB vs s) && (rightC v (vs++b.vs) b.t && ((f sc (vs++b.vs) b.e).2 && (f sc (vs++b.vs) b.e).1.eqC b.t))
def varC (sc:List Cb) (s:ByteArray) (ts:List Ty):Ty × Bool:=match findL s sc with
 | none=>(tyZ,false)
 | some b=>if b.vs.length=ts.length then (b.t.turn (putO b.vs ts),true) else (tyZ,false)
def coP (v:En) (pm:List Pm):Nat→List Cb→List ByteArray→Co→Ty × Bool
 | 0,_,_,_=>(tyZ,false)
 | n+1,sc,vs,.mk k s m t ts ks al bs =>
  if (ts.all (rightC v vs))=false then (tyZ,false)
  else if k=1 then varC sc s ts
  else if k=2 then (tInt,true)
  else if k=3 then (tStr,true)
  else if k=4 then (match conC s v.da with
   | none=>(tyZ,false)
   | some (d,c)=>if d.ps.length=ts.length∧okL (coP v pm n sc vs) ks (c.ts.map (Ty.turn (putO d.ps ts)))=true then (.mk 3 d.s 0 ts,true) else (tyZ,false))
  else if k=5 then (match ks with
   | [f,x]=>if (coP v pm n sc vs f).2=true then (match (coP v pm n sc vs f).1 with
       | .mk 3 _ _ [a,b]=>if (coP v pm n sc vs f).1.args≠[]∧((coP v pm n sc vs x).2 && (coP v pm n sc vs x).1.eqC a)=true then (b,true) else (tyZ,false)
       | _=>(tyZ,false)) else (tyZ,false)
   | _=>(tyZ,false))
  else if k=6 then (match ks with
   | [x]=>if rightC v vs t=true then (.mk 3 arrow 0 [t,(coP v pm n (sc++[.mk s [] t co0]) vs x).1],(coP v pm n (sc++[.mk s [] t co0]) vs x).2) else (tyZ,false)
   | _=>(tyZ,false))
  else if k=7 then (match ks with
   | [x]=>if unlB (bs.map Cb.s)=true∧(bs.all fun b=>(decide (m≠1) || decide (b.e.k=6)) && bindC (coP v pm n) v (if m=1 then sc++bs else sc) vs b)=true then coP v pm n (sc++bs) vs x else (tyZ,false)
   | _=>(tyZ,false))
  else if k=8 then (match ks with
   | [x]=>if rightC v vs t=true then (t,(coP v pm n sc vs x).2 && al.all fun a=>match patC v a.q (coP v pm n sc vs x).1 with
       | none=>false
       | some l=>unlB a.q.names && ((coP v pm n (sc++l) vs a.e).2 && (coP v pm n (sc++l) vs a.e).1.eqC t)) else (tyZ,false)
   | _=>(tyZ,false))
  else if k=9 then (if m<1∨pm.length<m then (tyZ,false) else match pm[(m - 1).toNat]? with
   | none=>(tyZ,false)
   | some p=>if p.sc.vs.length=ts.length∧okL (coP v pm n sc vs) ks (p.sc.t.args.map (Ty.turn (putO p.sc.vs ts)))=true then (p.sc.t.ans.turn (putO p.sc.vs ts),true) else (tyZ,false))
  else if k=10 then (starC s t,rightC v vs t && match partsC v s t with
   | none=>false
   | some l=>okL (coP v pm n sc vs) ks l)
  else if k=11 then (match ks with
   | [x]=>(match coP v pm n sc vs x with
       | (.mk 3 c _ [u],true)=>if c=kBr++s then (match partsC v s u with
           | none=>(tyZ,false)
           | some l=>if m<0 then (tyZ,false) else match l[m.toNat]? with
            | none=>(tyZ,false)
            | some r=>(r,true)) else (tyZ,false)
       | _=>(tyZ,false))
   | _=>(tyZ,false))
  else (tyZ,false)
open Go.RowKit
theorem CloneCb_c (ks:List Cb) (hb:ks.length≤1000000000):OCall Tryz.prog 147 [.seq 17 (Cb.cellss ks)] 46 17 (Cb.cellss ks):=by
 have hl:=Cb.cellss_len ks
 refine Zc Tryz.func147 U (by kernel_rfl) U (Wc U) ?_
 refine Qe ?_
 refine QU ?_
 refine Zb 4 U U U (op_isnil U tu_27 U (.seq _ _) ?_)
 intro c4 h4
 refine Qa ?_
 rcases c4 with _|_
 ·refine QV ?_
  refine Zb 5 U U U (Ys (xs:=[]) el_27 U U U U U U (Wc U) ?_);intro u5
  refine Qb ?_
  refine Qgz ?_
  intro u7
  refine Qo ?_
  exact Ze U U (Xu _) by4 ⟨_,U,U⟩
 refine Qq ?_
 refine Qj ?_
 refine Yp 46 17 (c_ret ?_)
 rw [h4 rfl];exact Ze rfl rfl (Le.nilOwn 17) (Xo _) ⟨_,rfl,rfl⟩
theorem coFind_c (sc:List Cb) (vs:List ByteArray) (s:ByteArray):PCall Tryz.prog 81 [.agg [.seq 17 (Cb.cellss sc),.seq 1 (strs vs)],.val (.string s)] (.tup [.agg ((findL s sc).getD cb0).cells,.val (.bool (findL s sc).isSome)]):=by
 obtain ⟨r,hr⟩:∃ r,findL s sc=r:=⟨_,rfl⟩
 rw [hr]
 have hl:=Cb.cellss_len sc
 refine Zc Tryz.func81 U (by kernel_rfl) U (Wc U) ?_
 refine QN ?_
 refine c_lena (t:=0) (j:=0) U U (.seq _ _) (fun hmax=>?_)
 refine Ql ?_
 refine Zb 2 U U U (op_boxc (cs':=[_,_]) U U U U ?_)
 refine QdN ?_;intro b4
 refine Qc6 ?_
 refine QcK ?_;intro n9
 refine Qay ?_
 refine Qab ?_
 apply Yl (rg [(0,1),(3,1),(5,23)]) (σ:=Nat) (fun zz=>match zz with|i=>[(6,.val (.int .i64 ((i:Int) - 1)))]) (fun zz=>match zz with|i=>[.loc b4 [.val (.string kE),.val (.slice none 0 0),.val (.int .i64 0),.val (.string kE),.val (.int .i64 0),.val (.slice none 0 0),.val (.int .i64 0),.val (.string kE),.val (.int .i64 0),.val (.int .i64 0),.val (.string kE),.val (.int .i64 0),.val (.slice none 0 0),.val (.slice none 0 0),.val (.slice none 0 0),.val (.slice none 0 0),.val (.slice none 0 0)]]) (fun zz=>match zz with|i=>i≤sc.length∧findL s (sc.take i)=r) (fun zz=>match zz with|i=>i) (sc.length)
 ·repeat' (first|exact Wf|apply Wd rfl|apply We rfl)
 ·exact ⟨Nat.le_refl _,by rw [List.take_length];exact hr⟩
 ·exact Xy U (Le.ieq by17) by5
 ·exact by4
 rintro i hI
 try dsimp only [List.cons_append,List.nil_append] at hI ⊢
 obtain ⟨hi,hf⟩:=hI
 refine QS ?_
 refine QbS ?_;intro c12 h12
 refine Qa ?_
 obtain ⟨rfl,g12⟩|⟨rfl,g12⟩:=Za h12
 ·refine Qag ?_
  obtain rfl:i=0:=by omega
  rw [List.take_zero,findL] at hf
  subst hf
  refine Qi ?_
  refine Zb 28 U U U (Zm (ns:=[]) (xs:=[]) U tz_46 U tfl_46 U U U U ?_)
  refine Qdk ?_
  refine Qo ?_
  exact Zy (i:=0) U U U U ta_46 U by1 (Xp _) ⟨U,U⟩
 refine Qk ?_
 obtain ⟨i,rfl⟩:∃ j,i=j+1:=⟨i - 1,by omega⟩
 rw [show (((i+1:Nat):Int) - 1)=(i:Int) by omega]
 obtain ⟨⟨qb,qvs,⟨qwk,qws,qwn,qwl⟩,⟨qk,qs,qn,⟨qtk,qts,qtn,qtl⟩,qus,qks,qal,qbs⟩⟩,hxq⟩:=Zj (l:=sc) (i:=i) by17
 have hcq:=Cb.cellss_get hxq
 rw [Yd hxq,findL_snoc] at hf
 have hf:(if sameB qb s=true then some (Cb.mk qb qvs ⟨qwk,qws,qwn,qwl⟩ ⟨qk,qs,qn,⟨qtk,qts,qtn,qtl⟩,qus,qks,qal,qbs⟩) else findL s (sc.take i))=r:=hf
 refine Qa5 ?_
 refine Qey ?_
 refine QT ?_
 refine Qas ?_;intro c22 h22
 refine Qa ?_
 obtain ⟨rfl,g22⟩|⟨rfl,g22⟩:=Za h22
 ·refine Qbr ?_
  refine Qh ?_
  refine Qay ?_
  refine QbE ?_
  rw [if_neg (fun q=>g22 (Yt.1 q))] at hf
  exact ⟨i,⟨by omega,hf⟩,by show i<i+1;omega,by5,by4⟩
 refine Qq ?_
 refine QT ?_
 refine Qey ?_
 refine QdJ ?_
 refine Qdk ?_
 refine Qo ?_
 rw [if_pos (Yt.2 g22)] at hf
 subst hf
 exact Zy (i:=0) U U U U ta_46 U by1 (Xp _) ⟨U,U⟩
def ckC (v:En) (pm:List (List AV)) (sc:List Cb) (vs:List ByteArray):List AV:=.seq 17 (Cb.cellss sc)::.seq 1 (strs vs)::(v.cells++[.seq 9 pm])
theorem coWith_c (v:En) (pm:List (List AV)) (sc l:List Cb) (vs:List ByteArray) (h1:sc.length≤1000000000) (h2:l.length≤1000000000):PCall Tryz.prog 86 [.agg (ckC v pm sc vs),.seq 17 (Cb.cellss l)] (.agg (ckC v pm (sc++l) vs)):=by
 have HC:=CloneCb_c sc h1
 have hl1:=Cb.cellss_len sc
 have hl2:=Cb.cellss_len l
 unfold ckC
 rw [Cb.cellss_app]
 obtain ⟨da,cl,ins⟩:=v
 simp only [En.cells,List.cons_append,List.nil_append]
 refine Zc Tryz.func86 U (by kernel_rfl) U (Wc U) ?_
 refine Qe ?_
 refine Zb 2 U U U (op_boxe (cs':=[_,_,_,_,_,_]) U U U U ?_);intro b2
 refine Qd2 ?_;intro b4
 refine Qu ?_
 refine Qt ?_
 refine Qao ?_
 refine Zb 8 U U U (op_callo (xs:=[.tmp 7]) U U (HC) by2 ?_);intro u8
 refine Qb ?_
 refine Qgz ?_
 intro u10
 refine Qt ?_
 refine Qt ?_
 refine Zr U U (Zp (cs':=[_,_,_,_,_,_]) (i:=2) U ts_27 U U U U U (Wc U) U ?_)
 refine Qu ?_
 refine QgA ?_
 refine QgB ?_
 refine Qr ?_
 exact Zk (i:=1) U U U ta_92 U by3 (Xp _) ⟨U,U⟩
theorem coMono_c (s:ByteArray) (t:Ty):PCall Tryz.prog 87 [.val (.string s),.agg t.cells] (.agg (Cb.mk s [] t co0).cells):=by
 obtain ⟨k,ts,n,ks⟩:=t
 refine Zc Tryz.func87 U (by kernel_rfl) U (Wc U) ?_
 refine Qds ?_
 refine QdN ?_;intro b4
 refine QB ?_
 refine Q7 ?_
 refine Zb 7 U U U (Zm (ns:=[0,2]) (xs:=[.tmp 5,.tmp 6]) U tz_46 U tfl_46 U U U U ?_)
 refine Qdk ?_
 refine Qr ?_
 exact Zk (i:=0) U U U ta_46 U by1 (Xp _) ⟨U,U⟩
mutual
def Ty.wd:Ty→Prop
 | .mk _ _ _ ks=>ks.length≤1000000∧Ty.wds ks
def Ty.wds:List Ty→Prop
 | []=>True
 | t::ts=>t.wd∧Ty.wds ts
end
theorem Ty.wds_iff:∀ l:List Ty,Ty.wds l↔∀ t∈l,t.wd
 | []=>by simp [Ty.wds]
 | t::l=>by simp [Ty.wds,Ty.wds_iff l]
theorem Ty.wds_at {l:List Ty} {i:Nat} {t:Ty} (h:Ty.wds l) (hx:l[i]?=some t):t.wd:=(Ty.wds_iff l).1 h t (Wg hx)
theorem Ty.size_wd:∀ (d:Nat) (t:Ty),t.size≤d→t.size≤1000000→t.wd:=by
 intro d
 induction d with
 | zero=>intro t h;have:=Ty.size_pos t;omega
 | succ d ih =>
  rintro ⟨k,s,n,ks⟩ h h2
  have hl:=Ty.len_sizes ks
  rw [Ty.wd]
  rw [Ty.size] at h h2
  refine ⟨by omega,(Ty.wds_iff ks).2 fun t ht=>?_⟩
  obtain ⟨i,hi⟩:=List.mem_iff_getElem?.1 ht
  have:=Ty.size_at hi
  exact ih t by17 by17
theorem Ty.turn_wd {o:Ty→Option Ty} (ho:∀ x y,o x=some y→y.wd):∀ (d:Nat) (t:Ty),t.size≤d→t.wd→(t.turn o).wd:=by
 intro d
 induction d with
 | zero=>intro t h;have:=Ty.size_pos t;omega
 | succ d ih =>
  rintro ⟨k,s,n,ks⟩ h hw
  cases q:o (.mk k s n ks) with
  | some y=>rw [Ty.turn_some q];exact ho _ _ q
  | none =>
   rw [Ty.turn_none q]
   rw [Ty.wd] at hw ⊢
   rw [Ty.size] at h
   refine ⟨by rw [Ty.turns_len];exact hw.1,(Ty.wds_iff _).2 fun t ht=>?_⟩
   rw [Ty.turns_map] at ht
   obtain ⟨x,hx,rfl⟩:=List.mem_map.1 ht
   obtain ⟨i,hi⟩:=List.mem_iff_getElem?.1 hx
   have:=Ty.size_at hi
   exact ih x by17 (Ty.wds_at hw.2 hi)
theorem putO_wd {names:List ByteArray} {ts:List Ty} (h:∀ t∈ts,t.wd):∀ x y,putO names ts x=some y→y.wd:=by
 intro x y q
 unfold putO at q
 split at q
 ·exact h y (Wg q)
 simp at q
theorem les_eqW {cs cs':List AV} (h:cs=cs'):Les cs cs':=by rw [h];exact Xv _
abbrev zTyW:List AV:=[.val (.int .i64 0),.val (.string ⟨#[]⟩),.val (.int .i64 0),.val (.slice none 0 0)]
theorem noneW_c (x:Ty) (o:Ty→Option Ty) (ho:o x=none):ACall Tryz.prog 142 [.agg x.cells] [] (fun v M'=>[]=M'∧∃ (y:Ty) (c:Bool),v=.tup [.agg y.cells,.val (.bool c)]∧o x=if c then some y else none):=by
 obtain ⟨k,s,n,ks⟩:=x
 refine Zc Tryz.func142 U (by kernel_rfl) U (Wc U) ?_
 refine Qa9 ?_;intro b1
 refine QE ?_;intro b2
 refine Qs ?_
 refine Qbp ?_
 refine QO ?_
 refine Qo ?_
 exact Zy (i:=0) U U U U Zx U by3 by4 ⟨U,.mk k s n ks,false,U,ho⟩
theorem turn_esW (o:Ty→Option Ty) (ks:List Ty) (i:Nat) (x:Ty) (hx:ks[i]?=some x) (zc:List AV) :
    (Ty.cellss (Ty.turns o (ks.take i))++List.replicate (ks.length - i) zc).set i (x.turn o).cells=Ty.cellss (Ty.turns o (ks.take (i+1)))++List.replicate (ks.length - (i+1)) zc:=by
 have hi:i<ks.length:=by
  rcases Nat.lt_or_ge i ks.length with k|k
  ·exact k
  rw [List.getElem?_eq_none k] at hx;simp at hx
 have hl:(Ty.cellss (Ty.turns o (ks.take i))).length=i:=by rw [Ty.cellss_len,Ty.turns_len];simp;omega
 rw [List.set_append_right _ _ by17,hl,Nat.sub_self,show ks.length - i=(ks.length - (i+1))+1 from by omega,List.replicate_succ,List.set_cons_zero,Yd hx,Ty.turns_snoc,Ty.cellss_app]
 simp [Ty.cellss]
theorem turn_wideW (o:Ty→Option Ty) (ks:List Ty) (i:Nat) (zc:List AV) (hz:zc.length=4):∀ e∈Ty.cellss (Ty.turns o (ks.take i))++List.replicate (ks.length - i) zc,e.length=4:=by
 intro e he
 rcases List.mem_append.1 he with q|q
 ·rw [Ty.cellss_map] at q
  obtain ⟨⟨k,s,n,l⟩,_,rfl⟩:=List.mem_map.1 q
  rfl
 rw [List.eq_of_mem_replicate q];exact hz
theorem turnW_c (o:Ty→Option Ty) (f:FuncId) (fs cs:List AV) (Mc:Mem)
    (hf:∀ x,ACall Tryz.prog f (fs++[.agg (Ty.cells x)]++cs) Mc (fun v M'=>Mc=M'∧∃ (y:Ty) (c:Bool),v=.tup [.agg y.cells,.val (.bool c)]∧o x=if c then some y else none)) (d:Nat) :
    ∀ t:Ty,t.size≤d→t.wd→ACall Tryz.prog 140 [.agg t.cells,.clo (.func f) fs cs] Mc (fun v M'=>v=.agg (t.turn o).cells∧Mc=M'):=by
 induction d with
 | zero=>intro t hd;have:=Ty.size_pos t;omega
 | succ d ih =>
  rintro ⟨k,s,n,ks⟩ hd hmx
  have hl:=Ty.cellss_len ks
  rw [Ty.size] at hd
  rw [Ty.wd] at hmx
  obtain ⟨hls,hkw⟩:=hmx
  refine Zc Tryz.func140 U (by kernel_rfl) U (Wc U) ?_
  refine Qa9 ?_;intro b2
  refine QE ?_;intro b4
  refine QaB ?_
  refine Qbp ?_
  refine Zb 13 U U U (op_callvm (xs:=[.tmp 12])  [.loc b4 _,.loc b2 _] U U U U (hf (.mk k s n ks)) (Xv _) (fun v13 M13 h13=>?_))
  obtain ⟨rfl,⟨yk,ys,yn,yks⟩,c15,rfl,hc⟩:=h13
  refine QdA ?_;intro b5
  refine QO ?_
  refine QK ?_
  refine Qa ?_
  rcases c15 with _|_
  ·refine QV ?_
   refine Qb2 ?_
   refine QY ?_;intro n20
   refine Zb 21 U U U (op_makeSlice Xj U U U by17 U ?_);intro b21
   refine Qbi ?_
   refine Qt ?_
   refine Qcu ?_
   refine QY ?_;intro n24
   refine Qam ?_
   rw [hl]
   refine Xk (σ:=Nat) (fun zz=>match zz with|i=>[(1,.clo (.func f) fs cs),(2,.ptr b2 0),(4,.ptr b4 0),(7,.arr b21 0 ks.length ks.length),(23,.seq 4 (Ty.cellss ks)),(24,.val (.int .i64 ks.length)),(25,.val (.int .i64 i))]) (fun zz=>match zz with|i=>.loc b21 (Ty.cellss (Ty.turns o (ks.take i))++List.replicate (ks.length - i) zTyW).flatten::.loc b5 (Ty.cells (.mk yk ys yn yks))::.loc b4 zTyW::.loc b2 (Ty.cells (.mk k s n ks))::Mc) (fun zz=>match zz with|i=>i≤ks.length) (fun zz=>match zz with|i=>ks.length - i) (0) ?_ ?_ ?_ ?_
   ·simp
   ·exact by5
   ·exact by4
   rintro i hI
   try dsimp only [List.cons_append,List.nil_append] at hI ⊢
   refine Qan ?_;intro c26 h26
   refine Qy ?_
   obtain ⟨rfl,g26⟩|⟨rfl,g26⟩:=Za h26
   ·refine Qag ?_
    have hw:=turn_wideW o ks ks.length zTyW rfl
    obtain rfl:i=ks.length:=by omega
    simp only [List.take_length,Nat.sub_self,List.replicate_zero,List.append_nil] at hw ⊢
    refine c_freeze (i:=0) (al':=[(2,.ptr b2 0),(4,.ptr b4 0),(7,.seq 4 (Ty.cellss (Ty.turns o ks)))]) U U hw (by rw [Ty.cellss_len,Ty.turns_len]) by17 (Frz.cons U (Xu _) (Frz.cons U (Xu _) (Frz.arr U Frz.nil))) ?_
    refine Qh ?_
    refine Qt ?_
    refine Zr U U (Zp (cs':=[_,_,_,_]) (i:=2) U ts_22 U U U U U (Wc U) U ?_)
    refine Qu ?_
    refine Qcq ?_
    refine Qdd ?_
    refine Qr ?_
    rw [Ty.turn_none (by simpa using hc)]
    exact Zk (i:=1) U U U Zx U by3 (Xr _ (Xr _ (Xr _ (Xo _)))) ⟨U,U⟩
   refine Qk ?_
   obtain ⟨⟨k',s',n',ks'⟩,hx⟩:=Zj (l:=ks) (i:=i) by17
   have hcx:=Ty.cellss_get hx
   have hsz:=Ty.size_at hx
   have H:=ih (.mk k' s' n' ks') by17 (Ty.wds_at hkw hx)
   have he:=turn_esW o ks i _ hx zTyW
   have hw:=turn_wideW o ks i zTyW rfl
   have hln:(Ty.cellss (Ty.turns o (ks.take i))++List.replicate (ks.length - i) zTyW).length=ks.length:=by rw [List.length_append,Ty.cellss_len,Ty.turns_len];simp;omega
   generalize Ty.turn o _=r at H he
   obtain ⟨rk,rs,rn,rks⟩:=r
   refine Qh ?_
   refine Qc2 ?_
   refine QE ?_;intro b9
   refine QJ ?_
   refine QO ?_
   refine Qa ?_
   refine Q8 ?_
   refine Q9 ?_
   refine Qb ?_
   refine Zb 34 U U U (op_callm (xs:=[.tmp 32,.tmp 33])  [.loc b9 _,.loc b21 _,.loc b5 _,.loc b4 _,.loc b2 _] U U U H (Xv _) (fun v34 M34 h34=>?_))
   obtain ⟨rfl,rfl⟩:=h34
   refine Zb 35 U U U (op_index_arr U te_22 U U U by17 ?_)
   refine Zr U U (op_store_row (k:=1) U ts_24 U U U U U (hw) (by17) ?_)
   refine Qa2 ?_
   refine QcC ?_
   refine ⟨i+1,by simp;omega,by simp;omega,by5,?_⟩
   exact Xr _ (Xs _ (les_eqW (congrArg List.flatten he)) (Xo _))
  refine Qq ?_
  refine Q9 ?_
  refine Qdd ?_
  refine Qr ?_
  rw [Ty.turn_some (by simpa using hc)]
  exact Zk (i:=1) U U U Zx U by3 (Xr _ (Xr _ (Xr _ (Xo _)))) ⟨U,U⟩
theorem copyW_c (t:Ty) (hmx:t.wd):PCall Tryz.prog 140 [.agg t.cells,.clo (.func 142) [] []] (.agg t.cells):=by
 have:=turnW_c (fun _=>none) 142 [] [] [] (fun x=>noneW_c x (fun _=>none) rfl) t.size t (Nat.le_refl _) hmx
 rw [Ty.turn_id] at this
 exact this.mono (fun v M' ⟨h1,h2⟩=>⟨h1,h2.symm⟩)
theorem PutFW_c (names:List ByteArray) (ts:List Ty) (b3 b4:Nat) (hts:∀ t∈ts,t.wd) (x:Ty):ACall Tryz.prog 141 [.agg x.cells,.ptr b3 0,.ptr b4 0] [.loc b3 [.seq 1 (strs names)],.loc b4 [.seq 4 (Ty.cellss ts)]] (fun v M'=>[.loc b3 [.seq 1 (strs names)],.loc b4 [.seq 4 (Ty.cellss ts)]]=M'∧∃ (y:Ty) (c:Bool),v=.tup [.agg y.cells,.val (.bool c)]∧putO names ts x=if c then some y else none):=by
 obtain ⟨k,s,n,ks⟩:=x
 have hl:=Ty.cellss_len ts
 have hfl:=firstAt_lt s names 0
 refine Zc Tryz.func141 U (by kernel_rfl) U (Wc U) ?_
 refine Qa9 ?_;intro b3
 refine QE ?_;intro b4
 refine Qbi ?_
 refine Qao ?_
 refine QP ?_;intro c9 h9
 refine Qa ?_
 obtain ⟨rfl,g9⟩|⟨rfl,g9⟩:=Za h9
 ·refine QV ?_
  refine Qfd ?_
  refine Qao ?_
  refine Zb 14 U U U (Zd (xs:=[.tmp 11,.tmp 13]) U U (IndexS_c names s) by2 ?_)
  refine Q1 ?_
  refine Zw 22 (firstAt s names 0<0∨(ts.length:Int)≤firstAt s names 0) ?_ _ _ U ?_
  ·skip
   refine Qb ?_
   refine Qg ?_;intro c16 h16
   refine Qb ?_
   obtain ⟨rfl,g16⟩|⟨rfl,g16⟩:=Za h16
   ·skip
    refine Qf ?_
    refine QfI ?_
    refine QbC ?_;intro n20
    refine Qd9 ?_;intro c21 h21
    refine Qm ?_
    refine Wa U ?_ by6 by4
    simp_all;omega
   skip
   refine QaX ?_
   refine Wa U ?_ by6 by4
   simp_all;done
  intro c22 h22
  refine Qc ?_
  obtain ⟨rfl,g22⟩|⟨rfl,g22⟩:=Za h22
  ·refine Qp ?_
   obtain ⟨j,hj⟩:∃ j:Nat,firstAt s names 0=j:=⟨(firstAt s names 0).toNat,by omega⟩
   obtain ⟨⟨yk,ys,yn,yks⟩,hy⟩:=Zj (l:=ts) (i:=j) by17
   have hcy:=Ty.cellss_get hy
   rw [hj]
   obtain rfl:k=1:=by simpa using g9
   refine Qi ?_
   refine Qcu ?_
   refine Qb ?_
   refine Qc2 ?_
   refine Zb 28 U U U (Zd (xs:=[.tmp 27,.func 142]) U U (copyW_c (.mk yk ys yn yks) (hts _ (Wg hy))) by2 ?_)
   refine QO ?_
   refine Qo ?_
   exact Zy (i:=0) U U U U Zx U by3 (Xr _ (Xr _ (Xo _))) ⟨U,.mk yk ys yn yks,true,U,by rw [putO_in hj,hy];rfl⟩
  refine Qq ?_
  refine Qbp ?_
  refine QO ?_
  refine Qo ?_
  exact Zy (i:=0) rfl rfl rfl rfl Zx rfl by3 (Xr _ (Xr _ (Xo _))) ⟨rfl,.mk k s n ks,false,rfl,by rcases g22 with q|q;exact putO_out q;exact putO_big q⟩
 refine Qq ?_
 refine Qbp ?_
 refine QO ?_
 refine Qo ?_
 exact Zy (i:=0) U U U U Zx U by3 (Xr _ (Xr _ (Xo _))) ⟨U,.mk k s n ks,false,U,putO_not g9⟩
theorem PutW_c (names:List ByteArray) (ts:List Ty) (t:Ty) (hts:∀ t∈ts,t.wd) (hmx:t.wd):PCall Tryz.prog 82 [.seq 1 (strs names),.seq 4 (Ty.cellss ts),.agg t.cells] (.agg (t.turn (putO names ts)).cells):=by
 have W:=fun (b3 b4:Nat)=>turnW_c (putO names ts) 141 [] [.ptr b3 0,.ptr b4 0] [.loc b3 [.seq 1 (strs names)],.loc b4 [.seq 4 (Ty.cellss ts)]] (fun x=>PutFW_c names ts b3 b4 hts x) t.size t (Nat.le_refl _) hmx
 generalize Ty.turn _ t=r at W ⊢
 obtain ⟨rk,rs,rn,rks⟩:=r
 obtain ⟨k,s,n,ks⟩:=t
 refine Zc Tryz.func82 U (by kernel_rfl) U (Wc U) ?_
 refine Qe ?_
 refine Zb 3 U U U (op_boxe (cs':=[_]) U U U U ?_);intro b3
 refine Zb 4 U U U (op_boxe (cs':=[_]) U U U U ?_);intro b4
 refine QdG ?_;intro b5
 refine QE ?_;intro b6
 refine Qy ?_
 refine c_mem (M':=[.loc b6 zTyW,.loc b5 _,.loc b3 [.seq 1 (strs names)],.loc b4 [.seq 4 (Ty.cellss ts)]]) (MImp.cons _ (MImp.cons _ (MImp.swap _ _ _))) ?_
 refine Qi ?_
 refine Qbp ?_
 refine QeP ?_
 refine Zb 9 U U U (op_callm (xs:=[.tmp 7,.tmp 8])  [.loc b6 _,.loc b5 _] U U U (W b3 b4) (Xv _) (fun v9 M9 h9=>?_))
 obtain ⟨rfl,rfl⟩:=h9
 refine Qc4 ?_
 exact Zk (i:=0) U U U Zx U by3 by4 ⟨U,U⟩
theorem typ1_c (v:En) (pm:List (List AV)) (sc:List Cb) (vs:List ByteArray) (x:Ty):BCall Tryz.prog 80 [.agg x.cells,.cptr (ckC v pm sc vs)] (rightC v vs x=true):=by
 have H:=coRight_c v vs x
 generalize (rightC v vs x=true)=q at *
 unfold ckC
 obtain ⟨k,s,n,ks⟩:=x
 obtain ⟨da,cl,ins⟩:=v
 simp only [En.cells,List.cons_append,List.nil_append] at *
 refine Zc Tryz.func80 U (by kernel_rfl) U (Wc U) ?_
 refine Qds ?_
 refine Qs ?_
 refine QaR ?_
 refine Qbe ?_
 refine QaR ?_
 refine Qd ?_
 refine Q7 ?_
 refine Zb 10 U U U (Zg (xs:=[.tmp 5,.tmp 8,.tmp 9]) U U (H) by2 ?_);intro c10 h10
 refine Qo ?_
 exact Ze U U (Xu _) (Xp _) ⟨⟨_,h10,U⟩,U⟩
abbrev TypC (v:En) (pm:List Pm) (sc:List Cb) (vs:List ByteArray) (e:Co) (r:Ty × Bool):Prop:=PCall Tryz.prog 48 [.agg (ckC v (Pm.cellss pm) sc vs),.agg e.cells] (.tup [.agg r.1.cells,.val (.bool r.2)])
theorem C_fold {A:Type} {C:Nat→A→Prop} {step:A→Ty→A} (hC:∀ k acc x,C (k+1) acc→C k (step acc x)):∀ (l:List Ty) (k:Nat) (acc:A),C (l.length+k) acc→C k (l.foldl step acc)
 | [],k,acc,h=>by simpa using h
 | x::l,k,acc,h=>by
  rw [List.foldl_cons]
  exact C_fold hC l k _ (hC _ _ _ (by rw [List.length_cons] at h;rwa [show l.length+k+1=l.length+1+k from by omega]))
theorem walk_c {A:Type} (G:A→Mem→Prop) (C:Nat→A→Prop) (step:A→Ty→A) (f:FuncId) (fs cs:List AV)
    (hf:∀ k acc x M,C (k+1) acc→G acc M→ACall Tryz.prog f (fs++[.agg (Ty.cells x)]++cs) M (fun v M'=>v=.tup []∧G (step acc x) M'))
    (hC:∀ k acc x,C (k+1) acc→C k (step acc x)) (d:Nat):∀ (t:Ty) (acc:A) (k:Nat) (M:Mem),t.size≤d→C (t.size+k) acc→G acc M →
     ACall Tryz.prog 168 [.agg t.cells,.clo (.func f) fs cs] M (fun v M'=>v=.tup []∧G (t.all.foldl step acc) M'):=by
 induction d with
 | zero=>intro t acc k M hd;have:=Ty.size_pos t;omega
 | succ d ih =>
  rintro ⟨tk,ts,tn,ks⟩ acc k M hd hc hG
  have hl:=Ty.cellss_len ks
  rw [Ty.size] at hd hc
  have hc1:C (Ty.sizes ks+k) (step acc (.mk tk ts tn ks)):=hC _ _ _ (by rwa [show Ty.sizes ks+k+1=1+Ty.sizes ks+k from by omega])
  refine Zc Tryz.func168 U (by kernel_rfl) U (Wc U) ?_
  refine QN ?_
  refine c_lena (t:=0) (j:=3) U U (.seq _ _) (fun hmax=>?_)
  refine Ql ?_
  refine QdG ?_;intro b2
  refine QB ?_
  refine Q9 ?_
  refine Zb 8 U U U (op_callvm (xs:=[.tmp 7])  [.loc b2 _] U U U U (hf (Ty.sizes ks+k) acc (.mk tk ts tn ks) M (by rwa [show Ty.sizes ks+k+1=1+Ty.sizes ks+k from by omega]) hG) (Xv _) (fun v8 M8 h8=>?_))
  refine Qa2 ?_
  obtain ⟨rfl,hG8⟩:=h8
  refine Qdy ?_
  refine Qn ?_
  refine QY ?_;intro n11
  refine Qam ?_
  refine Xk (σ:=Nat × Mem) (fun zz=>match zz with|(i,Ms)=>[(1,.clo (.func f) fs cs),(10,.seq 4 (Ty.cellss ks)),(11,.val (.int .i64 (Ty.cellss ks).length)),(12,.val (.int .i64 i))]) (fun zz=>match zz with|(i,Ms)=>.loc b2 (Ty.cells (.mk tk ts tn ks))::Ms) (fun zz=>match zz with|(i,Ms)=>i≤ks.length∧G ((Ty.alls (ks.take i)).foldl step (step acc (.mk tk ts tn ks))) Ms) (fun zz=>match zz with|(i,Ms)=>ks.length - i) ((0,M8)) ?_ ?_ ?_ ?_
  ·exact ⟨by omega,by simpa [Ty.alls] using hG8⟩
  ·exact by5
  ·exact by4
  rintro ⟨i,Ms⟩ hI
  try dsimp only [List.cons_append,List.nil_append] at hI ⊢
  obtain ⟨hi,hGi⟩:=hI
  refine Qan ?_;intro c13 h13
  refine Qy ?_
  obtain ⟨rfl,g13⟩|⟨rfl,g13⟩:=Za h13
  ·refine QX ?_
   refine c_exit (x_code (x_lp (x_here (go_end (out_none U (Xr _ (Xo _)) ⟨U,?_⟩)))))
   rw [Ty.all,List.foldl_cons]
   rwa [List.take_of_length_le by17] at hGi
  refine Qk ?_
  obtain ⟨⟨k',s',n',ks'⟩,hx⟩:=Zj (l:=ks) (i:=i) by17
  have hcx:=Ty.cellss_get hx
  have hsz:=Ty.size_at hx
  have hsp:Ty.sizes (ks.take i)+Ty.size (.mk k' s' n' ks')≤Ty.sizes ks:=by
   have h1:=Ty.sizes_take ks (i+1)
   rw [Yd hx,Ty.sizes_app] at h1
   simpa [Ty.sizes] using h1
  have hCi:C (Ty.size (.mk k' s' n' ks')+(Ty.sizes ks - Ty.sizes (ks.take i) - Ty.size (.mk k' s' n' ks')+k)) ((Ty.alls (ks.take i)).foldl step (step acc (.mk tk ts tn ks))):=by
   refine C_fold hC _ _ _ ?_
   rw [Ty.alls_len]
   rwa [show Ty.sizes (ks.take i)+(Ty.size (.mk k' s' n' ks')+(Ty.sizes ks - Ty.sizes (ks.take i) - Ty.size (.mk k' s' n' ks')+k))=Ty.sizes ks+k from by omega]
  refine Qi ?_
  refine Qc2 ?_
  refine QE ?_;intro b5
  refine QO ?_
  refine Qa ?_
  refine Qi ?_
  refine Q9 ?_
  refine Qb ?_
  refine Zb 18 U U U (op_callm (xs:=[.tmp 16,.tmp 17])  [.loc b5 _,.loc b2 _] U U U (ih (.mk k' s' n' ks') _ _ Ms by17 hCi hGi) (Xv _) (fun v18 M18 h18=>?_))
  refine Qa2 ?_
  obtain ⟨rfl,hG18⟩:=h18
  refine QcC ?_
  refine ⟨(i+1,M18),⟨by omega,?_⟩,by simp;omega,by5,?_⟩
  ·rw [Ty.alls_take ks hx,List.foldl_append];exact hG18
  exact Xr _ (Xq _ (Xo _))
def GV (b:Nat) (acc:List ByteArray) (M:Mem):Prop:=∃ u,M=[.loc b [.own u 1 (strs acc)],.own 9 1 u]
theorem VarsF_c (b k:Nat) (acc:List ByteArray) (x:Ty) (M:Mem) (hk:acc.length+(k+1)≤2000000) (hG:GV b acc M):ACall Tryz.prog 169 [.agg x.cells,.ptr b 0] M (fun v M'=>v=.tup []∧GV b (addVar acc x) M'):=by
 obtain ⟨xk,xs,xn,xks⟩:=x
 obtain ⟨u,rfl⟩:=hG
 have hl:=Ya acc
 refine Zc Tryz.func169 U (by kernel_rfl) U (Wc U) ?_
 refine Qa9 ?_;intro b2
 refine Qy ?_
 refine Zw 12 (xk=1∧xs∉acc) ?_ _ _ U ?_
 ·skip
  refine Qn ?_
  refine Qz ?_;intro c5 h5
  refine Qb ?_
  obtain ⟨rfl,g5⟩|⟨rfl,g5⟩:=Za h5
  ·skip
   refine QaH ?_
   refine Wa U ?_ by6 by4
   simp_all
  skip
  refine QdI ?_
  refine Qaq ?_
  refine Zo 10 U U U U U (Zg (xs:=[.tmp 7,.tmp 9]) U U (ContainsS_c acc xs) by2 ?_);intro c10 h10
  refine Qal ?_;intro c11 h11
  try replace h11:=Ym h11 h10
  refine Qm ?_
  refine Wa U ?_ by6 by4
  simp_all
 intro c12 h12
 refine Qc ?_
 obtain ⟨rfl,g12⟩|⟨rfl,g12⟩:=Za h12
 ·refine QX ?_
  refine Qbm ?_
  refine go_end ?_
  rw [addVar_no g12];exact out_none rfl (Xr _ (Xo _)) ⟨rfl,u,rfl⟩
 refine QbX ?_
 refine Qfa ?_
 refine Qn ?_
 refine Zb 16 U U U (Zf (xs:=[.tmp 15]) Yy U U U U U U (Wc U) (Zb 17 U U U (Zv (i:=2) Yy U U U U (.seq _ _) by13 ?_)))
 intro u17
 refine Zr U U (Zp (i:=1) U ts_44 U U U U U (Wc U) U ?_)
 refine Qa2 ?_
 refine go_end ?_
 rw [addVar_yes g12];exact out_none rfl (M':=[.loc b [.own u17 1 (strs (acc++[xs]))],.own 9 1 u17]) (Xr _ (Xs _ (Xw (Wb (strs_snoc _ _)) (Xv _)) (Xo _))) ⟨rfl,u17,rfl⟩
theorem Vars_c (t:Ty) (hmx:t.size≤1000000):OCall Tryz.prog 116 [.agg t.cells] 9 1 (strs t.vars):=by
 have W:=fun (b:Nat) (M:Mem) (hG:GV b [] M)=>walk_c (GV b) (fun k acc=>acc.length+k≤2000000) addVar 169 [] [.ptr b 0] (fun k acc x M h1 h2=>VarsF_c b k acc x M h1 h2) (fun k acc x h=>by have:=addVar_len acc x;omega) t.size t [] 0 M (Nat.le_refl _) by13 hG
 obtain ⟨k,s,n,ks⟩:=t
 refine Zc Tryz.func116 U (by kernel_rfl) U (Wc U) ?_
 refine Qa9 ?_;intro b1
 refine Qs ?_
 refine Zb 3 U U U (Yb (cs':=[_]) U tz_44 U U ?_);intro b3
 refine Qy ?_
 refine c_mem ((MImp.ownNil b3 9 1 _).trans (MImp.perm (by simpa using List.perm_append_comm (l₁:=[_,_]) (l₂:=[_])))) ?_
 refine Qi ?_
 refine Q9 ?_
 refine Qdi ?_
 refine Zb 6 U U U (op_callm (xs:=[.tmp 4,.tmp 5])  [.loc b1 _] U U U (W b3 _ ⟨.slice none 0 0,U⟩) by2 (fun v6 M6 h6=>?_))
 refine Qa2 ?_
 obtain ⟨rfl,u,rfl⟩:=h6
 refine Qdy ?_
 refine Qfa ?_
 refine Qo ?_
 exact Ze U U (Xu _) by4 ⟨_,U,U⟩
abbrev tyN:Ty:=.mk 3 ⟨#[73,110,116]⟩ 0 []
abbrev tyS:Ty:=.mk 3 ⟨#[83,116,114,105,110,103]⟩ 0 []
abbrev tyB:Ty:=.mk 3 ⟨#[66,111,111,108]⟩ 0 []
abbrev tyU:Ty:=.mk 3 ⟨#[85,110,105,116]⟩ 0 []
abbrev tyA:Ty:=.mk 1 ⟨#[97]⟩ 0 []
abbrev tyR:Ty:=.mk 3 ⟨#[82,101,102]⟩ 0 [tyA]
abbrev tfn (a b:Ty):Ty:=.mk 3 arrow 0 [a,b]
abbrev primRows:List (ByteArray × Ty):=[(⟨#[112,114,105,109,65,100,100]⟩,(tfn tyN (tfn tyN tyN))),(⟨#[112,114,105,109,83,117,98]⟩,(tfn tyN (tfn tyN tyN))),(⟨#[112,114,105,109,77,117,108]⟩,(tfn tyN (tfn tyN tyN))),(⟨#[112,114,105,109,68,105,118]⟩,(tfn tyN (tfn tyN tyN))),(⟨#[112,114,105,109,77,111,100]⟩,(tfn tyN (tfn tyN tyN))),(⟨#[112,114,105,109,69,113]⟩,(tfn tyN (tfn tyN tyB))),(⟨#[112,114,105,109,76,101,115,115]⟩,(tfn tyN (tfn tyN tyB))),(⟨#[112,114,105,109,67,97,116]⟩,(tfn tyS (tfn tyS tyS))),(⟨#[112,114,105,109,83,97,109,101]⟩,(tfn tyS (tfn tyS tyB))),(⟨#[112,114,105,109,66,101,102,111,114,101]⟩,(tfn tyS (tfn tyS tyB))),(⟨#[112,114,105,109,76,101,110]⟩,(tfn tyS tyN)),(⟨#[112,114,105,109,83,104,111,119]⟩,(tfn tyN tyS)),(⟨#[112,114,105,109,80,117,116]⟩,(tfn tyS tyU)),(⟨#[112,114,105,109,71,101,116]⟩,(tfn tyU tyS)),(⟨#[112,114,105,109,78,101,119]⟩,(tfn tyA tyR)),(⟨#[112,114,105,109,82,101,97,100]⟩,(tfn tyR tyA)),(⟨#[112,114,105,109,87,114,105,116,101]⟩,(tfn tyR (tfn tyA tyU)))]
abbrev rowCells (l:List (ByteArray × Ty)):List AV:=(l.map fun r=>.val (.string r.1)::r.2.cells).flatten
theorem two_c (x y:Ty):PCall Tryz.prog 167 [.agg x.cells,.agg y.cells] (.agg (tfn x (tfn x y)).cells):=by
 have H1:=Fun_c x y
 have H2:=Fun_c x (tfn x y)
 obtain ⟨k1,s1,n1,l1⟩:=x
 obtain ⟨k2,s2,n2,l2⟩:=y
 refine Zc Tryz.func167 U (by kernel_rfl) U (Wc U) ?_
 refine Qds ?_
 refine Qdf ?_
 refine QE ?_;intro b4
 refine Qy ?_
 refine Yh [0,1,2,3,4,5] [5] [[],[],[],[1,2],[0,1,2,3],[0,1,2,3,4]] Yx U ?_
 refine QbT ?_
 refine QbT ?_
 refine QbT ?_
 refine Zi 8 (none) (i:=3) U U U U U (Zd (xs:=[.tmp 6,.tmp 7]) U U (H1) by2 ⟨U,U⟩) ?_
 refine Zi 9 (none) (i:=4) U U U U U (Zd (xs:=[.tmp 5,.tmp 8]) U U (H2) by2 ⟨U,U⟩) ?_
 refine Qef ?_
 show AGo _ _ _ _ _ _ _
 refine QI ?_
 exact Zk (i:=0) U U U Zx U by3 by4 ⟨U,U⟩
theorem rows_c:PCall Tryz.prog 115 [] (.agg (rowCells primRows)):=by
 refine Zc Tryz.func115 U (by kernel_rfl) U (Wc U) ?_
 refine Qe ?_
 refine Zb 0 U U U (Yb (cs':=[_,_,_,_,_,_,_,_,_,_,_,_,_,_,_,_,_,_,_,_,_,_,_,_,_,_,_,_,_,_,_,_,_,_,_,_,_,_,_,_,_,_,_,_,_,_,_,_,_,_,_,_,_,_,_,_,_,_,_,_,_,_,_,_,_,_,_,_,_,_,_,_,_,_,_,_,_,_,_,_,_,_,_,_,_]) U tz_182 U U ?_);intro b0
 refine Qu ?_
 refine Zb 8 U U U (Zd (xs:=[.const (.string ⟨#[73,110,116]⟩),.const (.slice none 0 0)]) U U (Con_c ⟨#[73,110,116]⟩ [] by18) by2 ?_)
 refine Zb 9 U U U (Zd (xs:=[.const (.string ⟨#[83,116,114,105,110,103]⟩),.const (.slice none 0 0)]) U U (Con_c ⟨#[83,116,114,105,110,103]⟩ [] by18) by2 ?_)
 refine Zb 10 U U U (Zd (xs:=[.const (.string ⟨#[66,111,111,108]⟩),.const (.slice none 0 0)]) U U (Con_c ⟨#[66,111,111,108]⟩ [] by18) by2 ?_)
 refine Zb 11 U U U (Zd (xs:=[.const (.string ⟨#[85,110,105,116]⟩),.const (.slice none 0 0)]) U U (Con_c ⟨#[85,110,105,116]⟩ [] by18) by2 ?_)
 refine QE ?_;intro b1
 refine QE ?_;intro b2
 refine QE ?_;intro b3
 refine QE ?_;intro b4
 refine Zr U U (Zp (cs':=[_,_,_,_]) (i:=3) U ts_24 U U U U U (Wc U) U ?_)
 refine QdH ?_
 refine Qdd ?_
 refine QO ?_
 refine Qu ?_
 refine Zb 12 U U U (Zm (ns:=[0,1]) (xs:=[.const (.int .i64 1),.const (.string ⟨#[97]⟩)]) U tz_24 U tfl_24 U U U U ?_)
 refine QE ?_;intro b5
 refine QO ?_
 refine Qy ?_
 refine c_le (SLe.refl _) (Xs _ (cs':=tyA.cells) (by repeat' (first|exact Xu _|exact Xx _|exact Xv _|refine Xw ?_ ?_)) (Xo _)) ?_
 refine Qi ?_
 refine Q9 ?_
 refine Zb 14 U U U (Zf (xs:=[.tmp 13]) Xj U U U U U U (Wc U) (Zb 15 U U U (Zd (xs:=[.const (.string ⟨#[82,101,102]⟩),.tmp 14]) U U (Con_c ⟨#[82,101,102]⟩ [tyA] by18) by2 ?_)))
 refine QE ?_;intro b6
 refine QO ?_
 refine Qu ?_
 refine QG ?_
 refine Yh [0,1,2,3,4,5,6,7,8,9,10,11,12,13,14,15,16,17,18,19,20,21,22,23,24,25,26,27,28,29,30,31,32,33,34,35,36,37,38,39,40,41,42,43,44,45,46,47,48,49,50,51,52,53,54,55,56,57,58,59,60,61,62,63,64,65,66,67,68,69,70,71,72,73,74,75,76,77,78,79,80,81] [81] [[],[],[],[0,1,2],[0,1,2,3],[],[],[],[0,1,2,3,5,6,7],[0,1,2,3,5,6,7,8],[],[],[],[0,1,2,3,5,6,7,8,10,11,12],[0,1,2,3,5,6,7,8,10,11,12,13],[],[],[],[0,1,2,3,5,6,7,8,10,11,12,13,15,16,17],[0,1,2,3,5,6,7,8,10,11,12,13,15,16,17,18],[],[],[],[0,1,2,3,5,6,7,8,10,11,12,13,15,16,17,18,20,21,22],[0,1,2,3,5,6,7,8,10,11,12,13,15,16,17,18,20,21,22,23],[],[],[],[0,1,2,3,5,6,7,8,10,11,12,13,15,16,17,18,20,21,22,23,25,26,27],[0,1,2,3,5,6,7,8,10,11,12,13,15,16,17,18,20,21,22,23,25,26,27,28],[],[],[],[0,1,2,3,5,6,7,8,10,11,12,13,15,16,17,18,20,21,22,23,25,26,27,28,30,31,32],[0,1,2,3,5,6,7,8,10,11,12,13,15,16,17,18,20,21,22,23,25,26,27,28,30,31,32,33],[],[],[],[0,1,2,3,5,6,7,8,10,11,12,13,15,16,17,18,20,21,22,23,25,26,27,28,30,31,32,33,35,36,37],[0,1,2,3,5,6,7,8,10,11,12,13,15,16,17,18,20,21,22,23,25,26,27,28,30,31,32,33,35,36,37,38],[],[],[],[0,1,2,3,5,6,7,8,10,11,12,13,15,16,17,18,20,21,22,23,25,26,27,28,30,31,32,33,35,36,37,38,40,41,42],[0,1,2,3,5,6,7,8,10,11,12,13,15,16,17,18,20,21,22,23,25,26,27,28,30,31,32,33,35,36,37,38,40,41,42,43],[],[],[],[0,1,2,3,5,6,7,8,10,11,12,13,15,16,17,18,20,21,22,23,25,26,27,28,30,31,32,33,35,36,37,38,40,41,42,43,45,46,47],[0,1,2,3,5,6,7,8,10,11,12,13,15,16,17,18,20,21,22,23,25,26,27,28,30,31,32,33,35,36,37,38,40,41,42,43,45,46,47,48],[],[],[0,1,2,3,5,6,7,8,10,11,12,13,15,16,17,18,20,21,22,23,25,26,27,28,30,31,32,33,35,36,37,38,40,41,42,43,45,46,47,48,50,51],[0,1,2,3,5,6,7,8,10,11,12,13,15,16,17,18,20,21,22,23,25,26,27,28,30,31,32,33,35,36,37,38,40,41,42,43,45,46,47,48,50,51,52],[],[],[0,1,2,3,5,6,7,8,10,11,12,13,15,16,17,18,20,21,22,23,25,26,27,28,30,31,32,33,35,36,37,38,40,41,42,43,45,46,47,48,50,51,52,54,55],[0,1,2,3,5,6,7,8,10,11,12,13,15,16,17,18,20,21,22,23,25,26,27,28,30,31,32,33,35,36,37,38,40,41,42,43,45,46,47,48,50,51,52,54,55,56],[],[],[0,1,2,3,5,6,7,8,10,11,12,13,15,16,17,18,20,21,22,23,25,26,27,28,30,31,32,33,35,36,37,38,40,41,42,43,45,46,47,48,50,51,52,54,55,56,58,59],[0,1,2,3,5,6,7,8,10,11,12,13,15,16,17,18,20,21,22,23,25,26,27,28,30,31,32,33,35,36,37,38,40,41,42,43,45,46,47,48,50,51,52,54,55,56,58,59,60],[],[],[0,1,2,3,5,6,7,8,10,11,12,13,15,16,17,18,20,21,22,23,25,26,27,28,30,31,32,33,35,36,37,38,40,41,42,43,45,46,47,48,50,51,52,54,55,56,58,59,60,62,63],[0,1,2,3,5,6,7,8,10,11,12,13,15,16,17,18,20,21,22,23,25,26,27,28,30,31,32,33,35,36,37,38,40,41,42,43,45,46,47,48,50,51,52,54,55,56,58,59,60,62,63,64],[],[],[0,1,2,3,5,6,7,8,10,11,12,13,15,16,17,18,20,21,22,23,25,26,27,28,30,31,32,33,35,36,37,38,40,41,42,43,45,46,47,48,50,51,52,54,55,56,58,59,60,62,63,64,66,67],[0,1,2,3,5,6,7,8,10,11,12,13,15,16,17,18,20,21,22,23,25,26,27,28,30,31,32,33,35,36,37,38,40,41,42,43,45,46,47,48,50,51,52,54,55,56,58,59,60,62,63,64,66,67,68],[],[],[0,1,2,3,5,6,7,8,10,11,12,13,15,16,17,18,20,21,22,23,25,26,27,28,30,31,32,33,35,36,37,38,40,41,42,43,45,46,47,48,50,51,52,54,55,56,58,59,60,62,63,64,66,67,68,70,71],[0,1,2,3,5,6,7,8,10,11,12,13,15,16,17,18,20,21,22,23,25,26,27,28,30,31,32,33,35,36,37,38,40,41,42,43,45,46,47,48,50,51,52,54,55,56,58,59,60,62,63,64,66,67,68,70,71,72],[],[],[],[0,1,2,3,5,6,7,8,10,11,12,13,15,16,17,18,20,21,22,23,25,26,27,28,30,31,32,33,35,36,37,38,40,41,42,43,45,46,47,48,50,51,52,54,55,56,58,59,60,62,63,64,66,67,68,70,71,72,75,76],[0,1,2,3,5,6,7,8,10,11,12,13,15,16,17,18,20,21,22,23,25,26,27,28,30,31,32,33,35,36,37,38,40,41,42,43,45,46,47,48,50,51,52,54,55,56,58,59,60,62,63,64,66,67,68,70,71,72,74,75,76,77],[0,1,2,3,5,6,7,8,10,11,12,13,15,16,17,18,20,21,22,23,25,26,27,28,30,31,32,33,35,36,37,38,40,41,42,43,45,46,47,48,50,51,52,54,55,56,58,59,60,62,63,64,66,67,68,70,71,72,74,75,76,77,78],[0,1,2,3,4,5,6,7,8,9,10,11,12,13,14,15,16,17,18,19,20,21,22,23,24,25,26,27,28,29,30,31,32,33,34,35,36,37,38,39,40,41,42,43,44,45,46,47,48,49,50,51,52,53,54,55,56,57,58,59,60,61,62,63,64,65,66,67,68,69,70,71,72,73,74,75,76,77,78,79],[0,1,2,3,4,5,6,7,8,9,10,11,12,13,14,15,16,17,18,19,20,21,22,23,24,25,26,27,28,29,30,31,32,33,34,35,36,37,38,39,40,41,42,43,44,45,46,47,48,49,50,51,52,53,54,55,56,57,58,59,60,61,62,63,64,65,66,67,68,69,70,71,72,73,74,75,76,77,78,79,80]] Yx U ?_
 refine Qw ?_
 refine QbD ?_
 refine QbD ?_
 refine Zi 19 (none) (i:=3) U U U U U (op_callvpp (xs:=[.tmp 17,.tmp 18]) U U U (two_c tyN tyN) by2 ⟨U,U⟩) ?_
 refine Zi 20 (none) (i:=4) U U U U U (Zm (ns:=[0,1]) (xs:=[.const (.string ⟨#[112,114,105,109,65,100,100]⟩),.tmp 19]) U tz_181 U tfl_181 U U U U ⟨U,U⟩) ?_
 refine Qw ?_
 refine QbD ?_
 refine QbD ?_
 refine Zi 24 (none) (i:=8) U U U U U (op_callvpp (xs:=[.tmp 22,.tmp 23]) U U U (two_c tyN tyN) by2 ⟨U,U⟩) ?_
 refine Zi 25 (none) (i:=9) U U U U U (Zm (ns:=[0,1]) (xs:=[.const (.string ⟨#[112,114,105,109,83,117,98]⟩),.tmp 24]) U tz_181 U tfl_181 U U U U ⟨U,U⟩) ?_
 refine Qw ?_
 refine QbD ?_
 refine QbD ?_
 refine Zi 29 (none) (i:=13) U U U U U (op_callvpp (xs:=[.tmp 27,.tmp 28]) U U U (two_c tyN tyN) by2 ⟨U,U⟩) ?_
 refine Zi 30 (none) (i:=14) U U U U U (Zm (ns:=[0,1]) (xs:=[.const (.string ⟨#[112,114,105,109,77,117,108]⟩),.tmp 29]) U tz_181 U tfl_181 U U U U ⟨U,U⟩) ?_
 refine Qw ?_
 refine QbD ?_
 refine QbD ?_
 refine Zi 34 (none) (i:=18) U U U U U (op_callvpp (xs:=[.tmp 32,.tmp 33]) U U U (two_c tyN tyN) by2 ⟨U,U⟩) ?_
 refine Zi 35 (none) (i:=19) U U U U U (Zm (ns:=[0,1]) (xs:=[.const (.string ⟨#[112,114,105,109,68,105,118]⟩),.tmp 34]) U tz_181 U tfl_181 U U U U ⟨U,U⟩) ?_
 refine Qw ?_
 refine QbD ?_
 refine QbD ?_
 refine Zi 39 (none) (i:=23) U U U U U (op_callvpp (xs:=[.tmp 37,.tmp 38]) U U U (two_c tyN tyN) by2 ⟨U,U⟩) ?_
 refine Zi 40 (none) (i:=24) U U U U U (Zm (ns:=[0,1]) (xs:=[.const (.string ⟨#[112,114,105,109,77,111,100]⟩),.tmp 39]) U tz_181 U tfl_181 U U U U ⟨U,U⟩) ?_
 refine Qw ?_
 refine QbD ?_
 refine QeR ?_
 refine Zi 44 (none) (i:=28) U U U U U (op_callvpp (xs:=[.tmp 42,.tmp 43]) U U U (two_c tyN tyB) by2 ⟨U,U⟩) ?_
 refine Zi 45 (none) (i:=29) U U U U U (Zm (ns:=[0,1]) (xs:=[.const (.string ⟨#[112,114,105,109,69,113]⟩),.tmp 44]) U tz_181 U tfl_181 U U U U ⟨U,U⟩) ?_
 refine Qw ?_
 refine QbD ?_
 refine QeR ?_
 refine Zi 49 (none) (i:=33) U U U U U (op_callvpp (xs:=[.tmp 47,.tmp 48]) U U U (two_c tyN tyB) by2 ⟨U,U⟩) ?_
 refine Zi 50 (none) (i:=34) U U U U U (Zm (ns:=[0,1]) (xs:=[.const (.string ⟨#[112,114,105,109,76,101,115,115]⟩),.tmp 49]) U tz_181 U tfl_181 U U U U ⟨U,U⟩) ?_
 refine Qw ?_
 refine QdO ?_
 refine QdO ?_
 refine Zi 54 (none) (i:=38) U U U U U (op_callvpp (xs:=[.tmp 52,.tmp 53]) U U U (two_c tyS tyS) by2 ⟨U,U⟩) ?_
 refine Zi 55 (none) (i:=39) U U U U U (Zm (ns:=[0,1]) (xs:=[.const (.string ⟨#[112,114,105,109,67,97,116]⟩),.tmp 54]) U tz_181 U tfl_181 U U U U ⟨U,U⟩) ?_
 refine Qw ?_
 refine QdO ?_
 refine QeR ?_
 refine Zi 59 (none) (i:=43) U U U U U (op_callvpp (xs:=[.tmp 57,.tmp 58]) U U U (two_c tyS tyB) by2 ⟨U,U⟩) ?_
 refine Zi 60 (none) (i:=44) U U U U U (Zm (ns:=[0,1]) (xs:=[.const (.string ⟨#[112,114,105,109,83,97,109,101]⟩),.tmp 59]) U tz_181 U tfl_181 U U U U ⟨U,U⟩) ?_
 refine Qw ?_
 refine QdO ?_
 refine QeR ?_
 refine Zi 64 (none) (i:=48) U U U U U (op_callvpp (xs:=[.tmp 62,.tmp 63]) U U U (two_c tyS tyB) by2 ⟨U,U⟩) ?_
 refine Zi 65 (none) (i:=49) U U U U U (Zm (ns:=[0,1]) (xs:=[.const (.string ⟨#[112,114,105,109,66,101,102,111,114,101]⟩),.tmp 64]) U tz_181 U tfl_181 U U U U ⟨U,U⟩) ?_
 refine QdO ?_
 refine QbD ?_
 refine Zi 68 (none) (i:=52) U U U U U (Zd (xs:=[.tmp 66,.tmp 67]) U U (Fun_c tyS tyN) by2 ⟨U,U⟩) ?_
 refine Zi 69 (none) (i:=53) U U U U U (Zm (ns:=[0,1]) (xs:=[.const (.string ⟨#[112,114,105,109,76,101,110]⟩),.tmp 68]) U tz_181 U tfl_181 U U U U ⟨U,U⟩) ?_
 refine QbD ?_
 refine QdO ?_
 refine Zi 72 (none) (i:=56) U U U U U (Zd (xs:=[.tmp 70,.tmp 71]) U U (Fun_c tyN tyS) by2 ⟨U,U⟩) ?_
 refine Zi 73 (none) (i:=57) U U U U U (Zm (ns:=[0,1]) (xs:=[.const (.string ⟨#[112,114,105,109,83,104,111,119]⟩),.tmp 72]) U tz_181 U tfl_181 U U U U ⟨U,U⟩) ?_
 refine QdO ?_
 refine Qer ?_
 refine Zi 76 (none) (i:=60) U U U U U (Zd (xs:=[.tmp 74,.tmp 75]) U U (Fun_c tyS tyU) by2 ⟨U,U⟩) ?_
 refine Zi 77 (none) (i:=61) U U U U U (Zm (ns:=[0,1]) (xs:=[.const (.string ⟨#[112,114,105,109,80,117,116]⟩),.tmp 76]) U tz_181 U tfl_181 U U U U ⟨U,U⟩) ?_
 refine Qer ?_
 refine QdO ?_
 refine Zi 80 (none) (i:=64) U U U U U (Zd (xs:=[.tmp 78,.tmp 79]) U U (Fun_c tyU tyS) by2 ⟨U,U⟩) ?_
 refine Zi 81 (none) (i:=65) U U U U U (Zm (ns:=[0,1]) (xs:=[.const (.string ⟨#[112,114,105,109,71,101,116]⟩),.tmp 80]) U tz_181 U tfl_181 U U U U ⟨U,U⟩) ?_
 refine Qez ?_
 refine QdP ?_
 refine Zi 84 (none) (i:=68) U U U U U (Zd (xs:=[.tmp 82,.tmp 83]) U U (Fun_c tyA tyR) by2 ⟨U,U⟩) ?_
 refine Zi 85 (none) (i:=69) U U U U U (Zm (ns:=[0,1]) (xs:=[.const (.string ⟨#[112,114,105,109,78,101,119]⟩),.tmp 84]) U tz_181 U tfl_181 U U U U ⟨U,U⟩) ?_
 refine QdP ?_
 refine Qez ?_
 refine Zi 88 (none) (i:=72) U U U U U (Zd (xs:=[.tmp 86,.tmp 87]) U U (Fun_c tyR tyA) by2 ⟨U,U⟩) ?_
 refine Zi 89 (none) (i:=73) U U U U U (Zm (ns:=[0,1]) (xs:=[.const (.string ⟨#[112,114,105,109,82,101,97,100]⟩),.tmp 88]) U tz_181 U tfl_181 U U U U ⟨U,U⟩) ?_
 refine QdP ?_
 refine Qez ?_
 refine Qer ?_
 refine Zi 93 (none) (i:=77) U U U U U (Zd (xs:=[.tmp 91,.tmp 92]) U U (Fun_c tyA tyU) by2 ⟨U,U⟩) ?_
 refine Zi 94 (none) (i:=78) U U U U U (Zd (xs:=[.tmp 90,.tmp 93]) U U (Fun_c tyR (tfn tyA tyU)) by2 ⟨U,U⟩) ?_
 refine Zi 95 (none) (i:=79) U U U U U (Zm (ns:=[0,1]) (xs:=[.const (.string ⟨#[112,114,105,109,87,114,105,116,101]⟩),.tmp 94]) U tz_181 U tfl_181 U U U U ⟨U,U⟩) ?_
 refine Zi 96 (none) (i:=80) U U U U U (op_build_arr (ns:=[0,1,2,3,4,5,6,7,8,9,10,11,12,13,14,15,16]) (xs:=[.tmp 20,.tmp 25,.tmp 30,.tmp 35,.tmp 40,.tmp 45,.tmp 50,.tmp 55,.tmp 60,.tmp 65,.tmp 69,.tmp 73,.tmp 77,.tmp 81,.tmp 85,.tmp 89,.tmp 95]) U tz_182 U tu_182 ts_181 U U U U ⟨U,U⟩) ?_
 refine Yc 6 (i:=81) U U U U U (Zp (i:=0) U ts_182 U U U U U (Wc U) U ⟨_,U,?_⟩)
 show AGo _ _ _ _ _ _ _
 refine QI ?_
 exact Zk (i:=6) U U U ta_182 U (Xu _) by4 ⟨U,U⟩
theorem rowCells_get:∀ {l:List (ByteArray × Ty)} {i:Nat} {s:ByteArray} {t:Ty},l[i]?=some (s,t)→((rowCells l).drop (i * 5)).take 5=.val (.string s)::t.cells
 | [],i,s,t,h=>by simp at h
 |(s',⟨k,n,m,ks⟩)::l,0,s,t,h=>by
  simp at h;obtain ⟨rfl,rfl⟩:=h
  simp [rowCells,Ty.cells]
 |(s',⟨k,n,m,ks⟩)::l,i+1,s,t,h=>by
  have:=rowCells_get (l:=l) (i:=i) (by simpa using h)
  rw [← this]
  have e:(i+1) * 5=i * 5+5:=by omega
  rw [e]
  simp [rowCells,Ty.cells]
noncomputable def prOf (i:Nat) (r:ByteArray × Ty):Pm:=⟨r.1,i+1,r.2.args.length,⟨r.2.vars,[],r.2⟩⟩
noncomputable def prm:Nat→List (ByteArray × Ty)→List Pm
 | _,[]=>[]
 | i,r::rs=>prOf i r::prm (i+1) rs
theorem prm_take:∀ (l:List (ByteArray × Ty)) (j i:Nat) (r:ByteArray × Ty),l[i]?=some r→prm j (l.take (i+1))=prm j (l.take i)++[prOf (j+i) r]
 | [],j,i,r,h=>by simp at h
 | x::l,j,0,r,h=>by simp at h;subst h;simp [prm]
 | x::l,j,i+1,r,h=>by
  have:=prm_take l (j+1) i r (by simpa using h)
  simp only [List.take_succ_cons,prm,this,List.cons_append]
  rw [Nat.add_right_comm];rfl
theorem prm_len:∀ (l:List (ByteArray × Ty)) (j:Nat),(prm j l).length=l.length
 | [],j=>rfl
 | x::l,j=>by simp [prm,prm_len l]
noncomputable def prims:List Pm:=prm 0 primRows
theorem prims_len:prims.length=17:=by unfold prims;rw [prm_len];rfl
theorem notFun {k:Int} {s:ByteArray} {n:Int} {ks:List Ty} (h:ks.length≠2):¬ (Ty.mk k s n ks).isFun:=fun q=>h q.2.2
theorem rows_size:∀ r∈primRows,r.2.size≤100:=by
 simp [Ty.size,Ty.sizes]
set_option maxHeartbeats 1000000 in
theorem prims_n:prims.map Pm.n=[2,2,2,2,2,2,2,2,2,2,1,1,1,1,1,1,2]:=by
 have a0:∀ (k:Int) (s:ByteArray) (n:Int),(Ty.mk k s n []).args=[]:=fun k s n=>Ty.args_not (notFun by18)
 have a1:∀ (k:Int) (s:ByteArray) (n:Int) (x:Ty),(Ty.mk k s n [x]).args=[]:=fun k s n x=>Ty.args_not (notFun by18)
 simp [prims,prm,prOf,Pm.n,Ty.args_fun,a0,a1]
theorem Prims_c:PCall Tryz.prog 67 [] (.seq 9 (Pm.cellss prims)):=by
 refine Zc Tryz.func67 U (by kernel_rfl) U (Wc U) ?_
 refine Qe ?_
 refine Qs ?_
 refine Q1 ?_
 refine ACode.ownNil (t:=1) 187 9 U ?_
 refine Qi ?_
 refine Zb 6 U U U (Zd (xs:=[]) U U (rows_c) by2 ?_)
 refine Qam ?_
 apply Yl (rg [(1,5),(7,27)]) (σ:=Nat × Value) (fun zz=>match zz with|(i,u)=>[(7,.val (.int .i64 i)),(1,.own u 9 (Pm.cellss (prm 0 (primRows.take i))))]) (fun zz=>match zz with|(i,u)=>[.own 187 9 u]) (fun zz=>match zz with|(i,u)=>i≤17) (fun zz=>match zz with|(i,u)=>17 - i) ((0,.slice none 0 0))
 ·repeat' (first|exact Wf|apply Wd rfl|apply We rfl)
 ·simp
 ·exact by5
 ·exact by4
 rintro ⟨i,u⟩ hI
 try dsimp only [List.cons_append,List.nil_append] at hI ⊢
 refine Qan ?_;intro c8 h8
 refine Qy ?_
 obtain ⟨rfl,g8⟩|⟨rfl,g8⟩:=Za h8
 ·refine Qa4 ?_
  refine Ze U U ?_ by4 ⟨U,U⟩
  rw [show primRows.take i=primRows from List.take_of_length_le by13]
  exact Le.own _ _ _
 refine Qk ?_
 obtain ⟨⟨s,⟨tk,ts,tn,tks⟩⟩,hx⟩:=Zj (l:=primRows) (i:=i) by13
 have hc:=rowCells_get hx
 have hsz:=rows_size _ (Wg hx)
 have hpt:=prm_take primRows 0 i _ hx
 have HV:=(Vars_c ⟨tk,ts,tn,tks⟩ (by simp only at hsz;omega)).pure
 have HA:=Args_c ⟨tk,ts,tn,tks⟩ (by simp only at hsz;omega)
 have hln:=prm_len (primRows.take i) 0
 have hcl:=Pm.cellss_len (prm 0 (primRows.take i))
 simp only [List.length_take] at hln
 have hal:=Ty.cellss_len (Ty.args ⟨tk,ts,tn,tks⟩)
 simp only [prOf,Nat.zero_add] at hpt
 generalize Ty.vars ⟨tk,ts,tn,tks⟩=vs at *
 generalize Ty.args ⟨tk,ts,tn,tks⟩=ags at *
 generalize Ty.ans ⟨tk,ts,tn,tks⟩=an at *
 obtain ⟨ak,as',an,als⟩:=an
 refine Qh ?_
 refine Zb 10 U U U (op_index_av (cs':=[_,_,_,_,_]) U tu_182 ta_181 U U U by17 (hc) ?_)
 refine Zb 3 U U U (Yb (cs':=[_,_,_,_,_]) U tz_181 U U ?_);intro b3
 refine QJ ?_
 refine Zr U U (Zp (cs':=[_,_,_,_,_]) (i:=0) U ts_181 U U U U U (Wc U) U ?_)
 refine Qu ?_
 refine Qt ?_
 refine Q9 ?_
 refine Zb 14 U U U (Zd (xs:=[.tmp 13]) U U (HA) by2 ?_)
 refine QdA ?_;intro b5
 refine QJ ?_
 refine QO ?_
 refine Qa ?_
 refine Yh [0,1,2,3,4,5,6,7,8,9,10,11,12,13,14,15,16] [15] [[],[],[1],[],[3],[],[5],[],[7],[7,8],[],[10],[7,8,9,10,11],[1,2,3,4,5,6,7,8,9,10,11,12],[1,2,3,4,5,6,7,8,9,10,11,12,13],[0,1,2,3,4,5,6,7,8,9,10,11,12,13,14],[0,1,2,3,4,5,6,7,8,9,10,11,12,13,14,15]] Yx U ?_
 refine Qw ?_
 refine QW ?_
 refine QdR ?_
 refine Qw ?_
 refine QgC ?_
 refine Qw ?_
 refine Zi 23 none (i:=6) U U U U U (Yw U tu_22 U (.seq _ _) (fun _=>⟨U,U⟩)) ?_
 refine QW ?_
 refine Qez ?_
 refine Zi 26 (none) (i:=9) U U U U U (Zd (xs:=[.tmp 25]) U U (HV) by2 ⟨U,U⟩) ?_
 refine QW ?_
 refine Qez ?_
 refine Zi 29 (none) (i:=12) U U U U U (Zm (ns:=[0,2]) (xs:=[.tmp 26,.tmp 28]) U tz_185 U tfl_185 U U U U ⟨U,U⟩) ?_
 refine Zi 30 (none) (i:=13) U U U U U (Zm (ns:=[0,1,2,3]) (xs:=[.tmp 19,.tmp 21,.tmp 23,.tmp 29]) U tz_187 U tfl_187 U U U U ⟨U,U⟩) ?_
 refine Zi 31 (none) (i:=14) U U U U U (Zf (xs:=[.tmp 30]) el_90 U U U U U U (Wc U) ⟨U,U⟩) ?_
 refine Yc 2 (i:=15) U U U U U (Zv (i:=0) el_90 U U U U (.seq _ _) (by simp only [List.length_map,List.length_reverse,List.length_cons,List.length_nil];omega) (fun u32=>⟨_,U,?_⟩))
 refine QZ ?_
 show AGo _ _ _ _ _ _ _
 refine QcC ?_
 refine ⟨(i+1,u32),by show i+1≤17;omega,by simp;omega,?_,by4⟩
 refine Xy U (Xu _) (Xy U ?_ by5)
 rw [hpt]
 simp only [Pm.cellss,List.map_append,List.map_cons,List.map_nil]
 exact Le.own_lessA (Less.app (Less.refl _) (Less.cons (Xw (Xu _) (Xw (Xu _) (Xw (Le.ieq by17) (Xw (Xu _) (Xw (Xx _) (Xv _)))))) U Less.nil))
theorem coStart_c (v:En) (sc:List Cb) (vs:List ByteArray):PCall Tryz.prog 40 [.agg v.cells,.seq 17 (Cb.cellss sc),.seq 1 (strs vs)] (.agg (ckC v (Pm.cellss prims) sc vs)):=by
 have HP:=Prims_c
 generalize Pm.cellss prims=pm at *
 unfold ckC
 obtain ⟨da,cl,ins⟩:=v
 simp only [En.cells,List.cons_append,List.nil_append] at *
 refine Zc Tryz.func40 U (by kernel_rfl) U (Wc U) ?_
 refine Qar ?_
 refine Qd2 ?_;intro b6
 refine Qy ?_
 refine Yh [0,1,2,3,4,5,6] [6] [[],[],[0,1],[],[],[0,1,2,3,4],[0,1,2,3,4,5]] Yx U ?_
 refine QbM ?_
 refine Zi 9 (none) (i:=2) U U U U U (Zm (ns:=[0,1]) (xs:=[.tmp 7,.tmp 8]) U tz_89 U tfl_89 U U U U ⟨U,U⟩) ?_
 refine Qeu ?_
 refine Zi 11 (none) (i:=4) U U U U U (Zd (xs:=[]) U U (HP) by2 ⟨U,U⟩) ?_
 refine Zi 12 (none) (i:=5) U U U U U (Zm (ns:=[0,1,2]) (xs:=[.tmp 9,.tmp 10,.tmp 11]) U tz_92 U tfl_92 U U U U ⟨U,U⟩) ?_
 refine Yc 0 (i:=6) U U U U U (Zp (cs':=[_,_,_,_,_,_]) (i:=0) U ts_92 U U U U U (Wc U) U ⟨_,U,?_⟩)
 show AGo _ _ _ _ _ _ _
 refine QI ?_
 exact Zk (i:=0) U U U ta_92 U by3 (Xp _) ⟨U,U⟩
theorem coType_c (v:En) (sc:List Cb) (vs:List ByteArray) (e:Co) (r:Ty × Bool) (H:TypC v prims sc vs e r):PCall Tryz.prog 20 [.agg v.cells,.seq 17 (Cb.cellss sc),.seq 1 (strs vs),.agg e.cells] (.tup [.agg (if r.2=true then r.1 else tyZ).cells,.val (.bool r.2)]):=by
 have HS:=coStart_c v sc vs
 unfold TypC ckC at *
 generalize Pm.cellss prims=pm at *
 obtain ⟨⟨rk,rn,rm,rl⟩,c20⟩:=r
 obtain ⟨k,s,n,⟨tk,ts,tn,tl⟩,us,ks,al,bs⟩:=e
 obtain ⟨da,cl,ins⟩:=v
 simp only [En.cells,List.cons_append,List.nil_append] at *
 refine Zc Tryz.func20 U (by kernel_rfl) U (Wc U) ?_
 refine Qar ?_
 refine Qdh ?_
 refine QE ?_;intro b8
 refine QG ?_
 refine Yh [0,1,2,3,4,5,6,7,8,9,10,11] [9,10] [[],[],[],[0,1,2],[],[0,1,2,3,4],[0,1,2,3,4,5],[0,1,2,3,4,5,6],[0,1,2,3,4,5,6],[],[0,1,2,3,4,5,6,7,9],[0,1,2,3,4,5,6,7,8,9,10]] Yx U ?_
 refine Qeu ?_
 refine QbM ?_
 refine Zi 16 (none) (i:=3) U U U U U (Zd (xs:=[.tmp 13,.tmp 14,.tmp 15]) U U (HS) by2 ⟨U,U⟩) ?_
 refine Qd8 ?_
 refine Zi 18 (none) (i:=5) U U U U U (Zd (xs:=[.tmp 16,.tmp 17]) U U (H) by2 ⟨U,U⟩) ?_
 refine Qb4 ?_
 refine Xa (i:=9) U U U (Yb (cs':=[_,_,_,_]) U tz_24 U U (fun b10=>⟨_,U,?_⟩))
 refine QcL ?_
 refine QZ ?_
 show AGo _ _ _ _ _ _ _
 refine Qc ?_
 refine QS ?_
 refine Q5 ?_;intro c22 h22
 try replace h22:=Ym h22 h20
 refine Qa ?_
 obtain ⟨rfl,g22⟩|⟨rfl,g22⟩:=Za h22
 ·refine QV ?_
  refine Qbp ?_
  refine QO ?_
  refine Qo ?_
  obtain rfl:c20=true:=by simpa using g22
  exact Zy (i:=0) U U U U Zx U by1 (Xp _) ⟨U,U⟩
 refine Qc7 ?_
 obtain rfl:c20=false:=by simpa using g22
 exact Zy (i:=0) U U U U Zx U by1 (Xp _) ⟨U,U⟩
abbrev kX:ByteArray:=⟨#[120]⟩
abbrev exV:Co:=.mk 1 kX 0 tyZ [] [] [] []
abbrev ex21:Co:=.mk 6 kX 0 tInt [] [exV] [] []
end Go.Proofs.YteepjjgooplljaaGreat
namespace Go.Proofs.YteepjjgooplljaaGreat
mutual
def Ty.dp:Ty→Nat
 | .mk _ _ _ ks=>1+Ty.dps ks
def Ty.dps:List Ty→Nat
 | []=>0
 | t::ts=>max t.dp (Ty.dps ts)
end
theorem Ty.dps_mem:∀ {l:List Ty} {t:Ty},t∈l→t.dp≤Ty.dps l
 | u::l,t,h=>by
  rw [Ty.dps]
  rcases List.mem_cons.1 h with rfl|h
  ·omega
  have:=Ty.dps_mem h;omega
theorem Ty.dps_le {d:Nat}:∀ {l:List Ty},(∀ t∈l,t.dp≤d)→Ty.dps l≤d
 | [],_=>Nat.zero_le _
 | u::l,h=>by
  rw [Ty.dps]
  have:=h u by18
  have:=Ty.dps_le (l:=l) (fun t ht=>h t (by simp [ht]))
  omega
theorem Ty.dp_size:∀ (d:Nat) (t:Ty),t.size≤d→t.dp≤t.size
 | 0,t,h=>by have:=Ty.size_pos t;omega
 | d+1,.mk k s n ks,h=>by
  rw [Ty.size] at h
  rw [Ty.dp,Ty.size]
  have:Ty.dps ks≤Ty.sizes ks:=Ty.dps_le fun t ht=>by
   obtain ⟨i,hi⟩:=List.mem_iff_getElem?.1 ht
   have h1:=Ty.size_at hi
   have:=Ty.dp_size d t by17
   omega
  omega
theorem Ty.turn_dp {o:Ty→Option Ty} {b:Nat} (ho:∀ x y,o x=some y→y.dp≤b):∀ (d:Nat) (t:Ty),t.size≤d→(t.turn o).dp≤t.dp+b
 | 0,t,h=>by have:=Ty.size_pos t;omega
 | d+1,.mk k s n ks,h=>by
  cases q:o (.mk k s n ks) with
  | some y=>rw [Ty.turn_some q];have:=ho _ _ q;omega
  | none =>
   rw [Ty.turn_none q,Ty.dp,Ty.dp]
   rw [Ty.size] at h
   have:Ty.dps (Ty.turns o ks)≤Ty.dps ks+b:=Ty.dps_le fun t ht=>by
    rw [Ty.turns_map] at ht
    obtain ⟨x,hx,rfl⟩:=List.mem_map.1 ht
    obtain ⟨i,hi⟩:=List.mem_iff_getElem?.1 hx
    have h1:=Ty.size_at hi
    have:=Ty.turn_dp ho d x by17
    have:=Ty.dps_mem hx
    omega
   omega
def TK (d:Nat) (t:Ty):Prop:=t.wd∧t.dp≤d
theorem TK.up {d d':Nat} {t:Ty} (h:TK d t) (k:d≤d'):TK d' t:=⟨h.1,Nat.le_trans h.2 k⟩
theorem TK.turn {a b:Nat} {t:Ty} {names:List ByteArray} {ts:List Ty} (h:TK a t) (hts:∀ u∈ts,TK b u):TK (a+b) (t.turn (putO names ts)):=by
 refine ⟨Ty.turn_wd (putO_wd fun u hu=>(hts u hu).1) _ t (Nat.le_refl _) h.1,?_⟩
 have:=Ty.turn_dp (o:=putO names ts) (b:=b) (fun x y q=>by
  unfold putO at q
  split at q
  ·exact (hts y (Wg q)).2
  simp at q) _ t (Nat.le_refl _)
 have:=h.2
 omega
theorem TK.kid {d:Nat} {k n:Int} {s:ByteArray} {ks:List Ty} {t:Ty} (h:TK d (.mk k s n ks)) (ht:t∈ks):TK d t:=by
 obtain ⟨h1,h2⟩:=h
 rw [Ty.wd] at h1
 rw [Ty.dp] at h2
 have:=Ty.dps_mem ht
 exact ⟨(Ty.wds_iff ks).1 h1.2 t ht,by omega⟩
theorem TK.mk {d:Nat} {k n:Int} {s:ByteArray} {ks:List Ty} (hl:ks.length≤1000000) (h:∀ t∈ks,TK d t):TK (d+1) (.mk k s n ks):=by
 refine ⟨?_,?_⟩
 ·rw [Ty.wd]
  exact ⟨hl,(Ty.wds_iff ks).2 fun t ht=>(h t ht).1⟩
 rw [Ty.dp]
 have:Ty.dps ks≤d:=Ty.dps_le fun t ht=>(h t ht).2
 omega
theorem TK.size {t:Ty} {d:Nat} (h:t.size≤d) (hd:d≤1000000):TK d t:=⟨Ty.size_wd _ t (Nat.le_refl _) by17,by have:=Ty.dp_size _ t (Nat.le_refl _);omega⟩
theorem TK.small {t:Ty} (h:t.small 60=true):TK 60 t:=TK.size (by have:=(Ty.small_size by16 h).1;omega) by16
theorem TK.zero:TK 1 tyZ:=TK.size (by simp [Ty.size,Ty.sizes]) by16
theorem args_dp:∀ (d:Nat) (t:Ty),t.size≤d→t.args.length≤t.dp∧(∀ u∈t.args,∀ m,TK m t→TK m u)∧∀ m,TK m t→TK m t.ans
 | 0,t,h=>by have:=Ty.size_pos t;omega
 | d+1,t,h=>by
  by_cases hf:t.isFun
  ·obtain ⟨n,a,b,rfl⟩:=Ty.fun_kids hf
   simp only [Ty.size,Ty.sizes] at h
   rw [Ty.args_fun,Ty.ans_fun]
   obtain ⟨h1,h2,h3⟩:=args_dp d b by17
   refine ⟨?_,fun u hu m hm=>?_,fun m hm=>h3 m (hm.kid by18)⟩
   ·rw [List.length_cons,Ty.dp,Ty.dps,Ty.dps];omega
   rcases List.mem_cons.1 hu with rfl|hu
   ·exact hm.kid by18
   exact h2 u hu m (hm.kid by18)
  rw [Ty.args_not hf,Ty.ans_not hf]
  exact ⟨Nat.zero_le _,by simp,fun m hm=>hm⟩
mutual
def Co.N:Co→Nat
 | .mk _ _ _ _ _ ks al bs=>2+Co.Ns ks+Ca.Ns al+Cb.Ns bs
def Co.Ns:List Co→Nat
 | []=>0
 | x::xs=>x.N+Co.Ns xs
def Ca.N:Ca→Nat
 | .mk q e=>1+q.size+e.N
def Ca.Ns:List Ca→Nat
 | []=>0
 | x::xs=>x.N+Ca.Ns xs
def Cb.N:Cb→Nat
 | .mk _ vs _ e=>1+vs.length+e.N
def Cb.Ns:List Cb→Nat
 | []=>0
 | x::xs=>x.N+Cb.Ns xs
end
theorem Co.Ns_mem:∀ {l:List Co} {x:Co},x∈l→x.N≤Co.Ns l
 | y::l,x,h=>by
  rw [Co.Ns]
  rcases List.mem_cons.1 h with rfl|h
  ·omega
  have:=Co.Ns_mem h;omega
theorem Ca.Ns_mem:∀ {l:List Ca} {x:Ca},x∈l→x.N≤Ca.Ns l
 | y::l,x,h=>by
  rw [Ca.Ns]
  rcases List.mem_cons.1 h with rfl|h
  ·omega
  have:=Ca.Ns_mem h;omega
theorem Cb.Ns_mem:∀ {l:List Cb} {x:Cb},x∈l→x.N≤Cb.Ns l
 | y::l,x,h=>by
  rw [Cb.Ns]
  rcases List.mem_cons.1 h with rfl|h
  ·omega
  have:=Cb.Ns_mem h;omega
theorem Cb.Ns_len:∀ l:List Cb,l.length≤Cb.Ns l
 | []=>Nat.le_refl _
 | .mk s vs t e::l=>by rw [Cb.Ns,Cb.N,List.length_cons];have:=Cb.Ns_len l;omega
structure SK (K:Nat) (sc:List Cb) (vs:List ByteArray):Prop where
 len:sc.length≤K
 vl:vs.length≤K
 tk:∀ b∈sc,TK (10000 * K) b.t
theorem SK.up {K K':Nat} {sc:List Cb} {vs:List ByteArray} (h:SK K sc vs) (k:K≤K'):SK K' sc vs:=⟨Nat.le_trans h.len k,Nat.le_trans h.vl k,fun b hb=>(h.tk b hb).up by17⟩
theorem findL_mem {s:ByteArray}:∀ {sc:List Cb} {b:Cb},findL s sc=some b→b∈sc
 | c::l,b,h=>by
  rw [findL] at h
  cases q:findL s l with
  | some d =>
   rw [q] at h
   cases h
   exact List.mem_cons_of_mem _ (findL_mem q)
  | none =>
   rw [q] at h
   simp only [] at h
   split at h
   ·cases h;simp
   simp at h
open Go.RowKit
theorem unlike_c (l:List ByteArray):BCall Tryz.prog 69 [.seq 1 (strs l)] (unlB l=true):=by
 have hl:=Ya l
 obtain ⟨r,hr⟩:∃ r,dupB [] l=r:=⟨_,rfl⟩
 rw [show (unlB l=true)=(r=false) by unfold unlB;rw [hr];simp]
 refine Zc Tryz.func69 U (by kernel_rfl) U (Wc U) ?_
 refine QN ?_
 refine c_lens (t:=0) U (.seq _ _) (fun hmax=>?_)
 refine QbY ?_
 refine QbB ?_;intro n6
 refine Qam ?_
 apply Zu (rg [(1,4),(7,11)]) (σ:=Nat) (fun zz=>match zz with|i=>[(7,.val (.int .i64 i))]) (fun zz=>match zz with|i=>i≤l.length∧dupB (l.take i) (l.drop i)=r) (fun zz=>match zz with|i=>l.length - i) (0)
 ·repeat' (first|exact Wf|apply Wd rfl|apply We rfl)
 ·exact ⟨Nat.zero_le _,hr⟩
 ·exact by5
 rintro i hI
 try dsimp only [List.cons_append,List.nil_append] at hI ⊢
 obtain ⟨hi,hd⟩:=hI
 refine Qan ?_;intro c8 h8
 refine Qy ?_
 obtain ⟨rfl,g8⟩|⟨rfl,g8⟩:=Za h8
 ·refine Qad ?_
  rw [Wh by17,dupB] at hd
  subst hd
  exact Ze U U (Xu _) (Xp _) ⟨⟨_,iff_t U,U⟩,U⟩
 refine Qk ?_
 obtain ⟨x,hxx⟩:=Zj (l:=l) (i:=i) by8
 have hcx:=Xc hxx
 have hmx:=Wg hxx
 refine Qh ?_
 refine QfJ ?_
 refine QaG ?_
 refine QJ ?_
 refine QG ?_
 rw [Zz hxx,dupB] at hd
 have HC:=ContainsS_c (l.take i) x
 rw [← strs_take] at HC
 refine Q8 ?_
 refine Zb 14 U U U (op_cuth (k:=i) U te_44 U (.seq _ _) U by17 by17 ?_)
 refine Qb ?_
 refine Zb 16 U U U (Zg (xs:=[.tmp 14,.tmp 15]) U U (HC) by2 ?_);intro c16 h16
 refine Qa ?_
 obtain ⟨rfl,g16⟩|⟨rfl,g16⟩:=Za h16
 ·refine Qbu ?_
  rw [if_neg (fun q=>g16 (hasB_iff.1 q)),← Yd hxx] at hd
  exact ⟨i+1,⟨by show i+1≤l.length;omega,hd⟩,by show l.length - (i+1)<l.length - i;omega,by5,by4⟩
 refine QD ?_
 rw [if_pos (hasB_iff.2 g16)] at hd
 subst hd
 exact Ze U U (Xu _) (Xp _) ⟨⟨_,iff_f by18,U⟩,U⟩
theorem IxF_S (p:ByteArray→Bool) (g:FuncId) (fs cs:List AV) (l:List ByteArray) (hg:∀ x∈l,BCall Tryz.prog g (fs++[.val (.string x)]++cs) (p x=true)):PCall Tryz.prog 170 [.seq 1 (strs l),.clo (.func g) fs cs] (.val (.int .i64 (findI p l 0))):=by
 have hl:=Ya l
 obtain ⟨r,hr⟩:∃ r,findI p l 0=r:=⟨_,rfl⟩
 rw [hr]
 refine Zc Tryz.func170 U (by kernel_rfl) U (Wc U) ?_
 refine QN ?_
 refine c_lens (t:=0) U (.seq _ _) (fun hmax=>?_)
 refine QbY ?_
 refine QbB ?_;intro n7
 refine Qam ?_
 apply Zu (rg [(2,5),(8,11)]) (σ:=Nat) (fun zz=>match zz with|i=>[(8,.val (.int .i64 i))]) (fun zz=>match zz with|i=>i≤l.length∧findI p (l.drop i) i=r) (fun zz=>match zz with|i=>l.length - i) (0)
 ·repeat' (first|exact Wf|apply Wd rfl|apply We rfl)
 ·exact ⟨by omega,hr⟩
 ·exact by5
 rintro i hI
 try dsimp only [List.cons_append,List.nil_append] at hI ⊢
 obtain ⟨hi,hu⟩:=hI
 refine Qan ?_;intro c9 h9
 refine Qy ?_
 obtain ⟨rfl,g9⟩|⟨rfl,g9⟩:=Za h9
 ·refine Qad ?_
  rw [List.drop_eq_nil_of_le by17,findI] at hu;exact Ze rfl rfl (Xu _) by4 ⟨by rw [← hu],rfl⟩
 refine Qk ?_
 obtain ⟨y,hxy⟩:=Zj (l:=l) (i:=i) by8
 have hcy:=Xc hxy
 have hmy:=Wg hxy
 refine Qh ?_
 refine QG ?_
 rw [Zz hxy,findI] at hu
 have HG:=hg _ hmy
 refine QaO ?_
 refine Zb 14 U U U (Zh U te_44 U (.seq _ _) U U (hcy) ?_)
 refine QaG ?_
 refine Zb 16 U U U (op_callvb (xs:=[.tmp 15]) U U U (HG) by2 ?_);intro c16 h16
 refine Qa ?_
 obtain ⟨rfl,g16⟩|⟨rfl,g16⟩:=Za h16
 ·refine Qbu ?_
  rw [if_neg g16] at hu;exact ⟨i+1,⟨by omega,hu⟩,by show l.length - (i+1)<l.length - i;omega,by5,by4⟩
 refine QaY ?_
 rw [if_pos g16] at hu;exact Ze rfl rfl (Xu _) by4 ⟨by rw [hu],rfl⟩
theorem CoF_S (p:ByteArray→Bool) (g:FuncId) (fs cs:List AV) (l:List ByteArray) (hg:∀ x∈l,BCall Tryz.prog g (fs++[.val (.string x)]++cs) (p x=true)):BCall Tryz.prog 117 [.seq 1 (strs l),.clo (.func g) fs cs] (l.any p=true):=by
 have H:=IxF_S p g fs cs l hg
 have hf:=findI_any (p:=p) (l:=l)
 refine Zc Tryz.func117 U (by kernel_rfl) U (Wc U) ?_
 refine Qe ?_
 refine Qbb ?_
 refine Zb 7 U U U (Zd (xs:=[.tmp 5,.tmp 6]) U U (H) by2 ?_)
 refine QbS ?_;intro c8 h8
 refine Qo ?_
 exact Ze U U (Xu _) by4 ⟨⟨_,h8.trans hf,U⟩,U⟩
theorem all1_S (p:ByteArray→Bool) (g:FuncId) (fs cs:List AV) (x:ByteArray) (hg:BCall Tryz.prog g (fs++[.val (.string x)]++cs) (p x=true)):BCall Tryz.prog 118 [.val (.string x),.cptr [.clo (.func g) fs cs]] ((!p x)=true):=by
 have hp:(!p x)=true↔¬ p x=true:=by simp
 generalize ((!p x)=true)=Q at *
 generalize hq:(p x=true)=q at *
 clear hq
 refine Zc Tryz.func118 U (by kernel_rfl) U (Wc U) ?_
 refine Qe ?_
 refine Qs ?_
 refine QaG ?_
 refine Qb ?_
 refine Zb 6 U U U (op_callvb (xs:=[.tmp 5]) U U U (hg) by2 ?_);intro c6 h6
 refine Q5 ?_;intro c7 h7
 try replace h7:=Ym h7 h6
 refine Qo ?_
 exact Ze U U (Xu _) (Xp _) ⟨⟨_,by first|exact h7.trans hp.symm|exact h6.trans hp.symm|exact h5.trans hp.symm,U⟩,U⟩
theorem all_S (p:ByteArray→Bool) (g:FuncId) (fs cs:List AV) (l:List ByteArray) (hg:∀ x∈l,BCall Tryz.prog g (fs++[.val (.string x)]++cs) (p x=true)):BCall Tryz.prog 70 [.seq 1 (strs l),.clo (.func g) fs cs] (l.all p=true):=by
 have H:=CoF_S (fun x => !p x) 118 [] [.cptr [.clo (.func g) fs cs]] l (fun x hx=>all1_S p g fs cs x (hg x hx))
 have hf:=any_not (p:=p) (l:=l)
 refine Zc Tryz.func70 U (by kernel_rfl) U (Wc U) ?_
 refine Qe ?_
 refine Qcr ?_
 refine QK ?_
 refine Qdi ?_
 refine Zb 7 U U U (Zg (xs:=[.tmp 5,.tmp 6]) U U (H) by2 ?_);intro c7 h7
 refine Q5 ?_;intro c8 h8
 try replace h8:=Ym h8 h7
 refine Qo ?_
 exact Ze U U (Xu _) (Xp _) ⟨⟨_,h8.trans hf,U⟩,U⟩
theorem CloneS_c (ks:List ByteArray) (hb:ks.length≤1000000000):OCall Tryz.prog 120 [.seq 1 (strs ks)] 9 1 (strs ks):=by
 have hl:=Ya ks
 refine Zc Tryz.func120 U (by kernel_rfl) U (Wc U) ?_
 refine Qe ?_
 refine QU ?_
 refine Zb 4 U U U (op_isnil U tu_44 U (.seq _ _) ?_)
 intro c4 h4
 refine Qa ?_
 rcases c4 with _|_
 ·refine QV ?_
  refine Zb 5 U U U (Ys (xs:=[]) Yy U U U U U U (Wc U) ?_);intro u5
  refine Qb ?_
  refine QdL ?_
  intro u7
  refine Qo ?_
  exact Ze U U (Xu _) by4 ⟨_,U,U⟩
 refine Qq ?_
 refine Qj ?_
 refine Qcs ?_
 refine c_ret ?_
 rw [h4 rfl];exact Ze rfl rfl (Le.nilOwn 1) (Xo _) ⟨_,rfl,rfl⟩
theorem coAllow_c (v:En) (pm:List (List AV)) (sc:List Cb) (vs l:List ByteArray) (h1:vs.length≤1000000000) (h2:l.length≤1000000000):PCall Tryz.prog 73 [.agg (ckC v pm sc vs),.seq 1 (strs l)] (.agg (ckC v pm sc (vs++l))):=by
 have HC:=CloneS_c vs h1
 have hl1:=Ya vs
 have hl2:=Ya l
 unfold ckC
 rw [Xm]
 obtain ⟨da,cl,ins⟩:=v
 simp only [En.cells,List.cons_append,List.nil_append]
 refine Zc Tryz.func73 U (by kernel_rfl) U (Wc U) ?_
 refine Qe ?_
 refine Zb 2 U U U (op_boxe (cs':=[_,_,_,_,_,_]) U U U U ?_);intro b2
 refine Qd2 ?_;intro b4
 refine Qu ?_
 refine Qt ?_
 refine Qao ?_
 refine Zb 8 U U U (op_callo (xs:=[.tmp 7]) U U (HC) by2 ?_);intro u8
 refine Qb ?_
 refine QdL ?_
 intro u10
 refine Qt ?_
 refine Qt ?_
 refine Zr U U (Zp (cs':=[_,_,_,_,_,_]) (i:=2) U ts_44 U U U U U (Wc U) U ?_)
 refine Qu ?_
 refine QgA ?_
 refine QgB ?_
 refine Qr ?_
 exact Zk (i:=1) U U U ta_92 U by3 (Xp _) ⟨U,U⟩
theorem coPut_c (names:List ByteArray) (ts l:List Ty) (hts:∀ t∈ts,t.wd) (hl:∀ t∈l,t.wd) (hb:l.length≤90000000000):PCall Tryz.prog 145 [.seq 1 (strs names),.seq 4 (Ty.cellss ts),.seq 4 (Ty.cellss l)] (.seq 4 (Ty.cellss (l.map (Ty.turn (putO names ts))))):=by
 have HP:=fun t ht=>PutW_c names ts t hts (hl t ht)
 have hll:=Ty.cellss_len l
 generalize hF:Ty.turn (putO names ts)=F at *
 refine Zc Tryz.func145 U (by kernel_rfl) U (Wc U) ?_
 refine QN ?_
 refine c_lens (t:=2) U (.seq _ _) (fun hmax=>?_)
 refine Ql ?_
 refine Qs ?_
 refine QU ?_
 refine QY ?_;intro n11
 refine Qam ?_
 refine Yp 24 4 ?_
 apply Yl (rg [(2,4),(7,3),(12,12)]) (σ:=Nat × List Ty × Value) (fun zz=>match zz with|(i,out,u)=>[(7,.own u 4 (Ty.cellss out)),(12,.val (.int .i64 i))]) (fun zz=>match zz with|(i,out,u)=>[.own 24 4 u]) (fun zz=>match zz with|(i,out,u)=>i≤l.length∧out=(l.take i).map F) (fun zz=>match zz with|(i,out,u)=>l.length - i) ((0,[],.slice none 0 0))
 ·repeat' (first|exact Wf|apply Wd rfl|apply We rfl)
 ·exact ⟨Nat.zero_le _,U⟩
 ·exact Xy U (Le.nilOwn 4) (Xy U (Xu _) (Xz _))
 ·exact (Xt U)
 rintro ⟨i,out,u⟩ hI
 try dsimp only [List.cons_append,List.nil_append] at hI ⊢
 obtain ⟨hi,ho⟩:=hI
 have hol:(Ty.cellss out).length=i:=by rw [Ty.cellss_len,ho,List.length_map,List.length_take];omega
 refine Qan ?_;intro c13 h13
 refine Qy ?_
 obtain ⟨rfl,g13⟩|⟨rfl,g13⟩:=Za h13
 ·refine Qa4 ?_
  rw [List.take_of_length_le by17] at ho
  subst ho
  exact Ze U U (Le.own _ _ _) (Xp _) ⟨U,U⟩
 refine Qk ?_
 obtain ⟨⟨qk,qs,qn,ql⟩,hxq⟩:=Zj (l:=l) (i:=i) by8
 have hcq:=Ty.cellss_get hxq
 have hmq:=Wg hxq
 have HPq:=HP _ hmq
 obtain ⟨⟨rk,rs,rn,rl⟩,hr⟩:∃ r,F ⟨qk,qs,qn,ql⟩=r:=⟨_,rfl⟩
 rw [hr] at HPq
 refine Qi ?_
 refine Zb 14 U U U (Zh U te_22 U (.seq _ _) U U (hcq) ?_)
 refine Q7 ?_
 refine QE ?_;intro b9
 refine QO ?_
 refine Qa ?_
 refine QaO ?_
 refine Q9 ?_
 refine Zb 20 U U U (Zd (xs:=[.tmp 17,.tmp 18,.tmp 19]) U U (HPq) by2 ?_)
 refine Zb 21 U U U (Zf (xs:=[.tmp 20]) Xj U U U U U U (Wc U) (Zb 22 U U U (Zv (i:=1) Xj U U U U (.seq _ _) by7 ?_)))
 intro u22
 refine Qcw ?_
 refine QcC ?_
 exact ⟨(i+1,out++[⟨rk,rs,rn,rl⟩],u22),⟨by show i+1≤l.length;omega,by show out++[_]=_;rw [Yd hxq,List.map_append,← ho,List.map_cons,hr];rfl⟩,by show l.length - (i+1)<l.length - i;omega,Xy U (Wb (by rw [Ty.cellss_app];rfl)) by5,by4⟩
theorem coIs_c (v:En) (pm:List Pm) (sc:List Cb) (vs:List ByteArray) (e:Co) (r:Ty × Bool) (t:Ty) (H:TypC v pm sc vs e r):BCall Tryz.prog 75 [.agg (ckC v (Pm.cellss pm) sc vs),.agg e.cells,.agg t.cells] ((r.2 && r.1.eqC t)=true):=by
 have HS:=tSameType_c r.1 t
 rw [show ((r.2 && r.1.eqC t)=true)=(r.2=true∧r.1=t) by rw [Bool.and_eq_true,Ty.eqC_iff]]
 unfold TypC ckC at *
 obtain ⟨⟨rk,rn,rm,rl⟩,c14⟩:=r
 obtain ⟨k,s,n,⟨tk,ts,tn,tl⟩,us,ks,al,bs⟩:=e
 obtain ⟨uk,un,um,ul⟩:=t
 obtain ⟨da,cl,ins⟩:=v
 simp only [En.cells,List.cons_append,List.nil_append] at *
 generalize (Ty.mk rk rn rm rl=Ty.mk uk un um ul)=q at *
 refine Zc Tryz.func75 U (by kernel_rfl) U (Wc U) ?_
 refine Qbj ?_
 refine Qdh ?_
 refine Qdf ?_
 refine Qs ?_
 refine Qb8 ?_
 refine QbU ?_
 refine Zb 12 U U U (Zd (xs:=[.tmp 10,.tmp 11]) U U (H) by2 ?_)
 refine QdA ?_;intro b7
 refine QO ?_
 refine QG ?_
 refine Zw 6 (c14=true∧q) ?_ _ _ U ?_
 ·skip
  refine Qai ?_
  have h16:(c14=true↔c14=true):=Iff.rfl
  obtain ⟨rfl,g16⟩|⟨rfl,g16⟩:=Za h16
  ·skip
   refine Qah ?_
   refine QC ?_
   refine Wa U ?_ by6 by4
   clear H HS;first|(simp_all;done)|grind
  skip
  refine Qfw ?_
  refine Qgc ?_
  refine Zo 19 U U U U U (Zg (xs:=[.tmp 17,.tmp 18]) U U (HS) by2 ?_);intro c19 h19
  refine QC ?_
  refine Wa U ?_ by6 by4
  clear H HS;first|(simp_all;done)|grind
 intro c6 h6
 refine QI ?_
 exact Ze U U (Xu _) (Xp _) ⟨⟨_,h6,U⟩,U⟩
theorem coOf1_c (v:En) (pm:List Pm) (sc:List Cb) (vs:List ByteArray) (e:Co) (r:Ty × Bool) (t:Ty) (H:TypC v pm sc vs e r):BCall Tryz.prog 156 [.agg e.cells,.agg t.cells,.cptr (ckC v (Pm.cellss pm) sc vs)] ((r.2 && r.1.eqC t)=true):=by
 have HI:=coIs_c v pm sc vs e r t H
 generalize ((r.2 && r.1.eqC t)=true)=q at *
 unfold ckC at *
 clear H
 obtain ⟨k,s,n,⟨tk,ts,tn,tl⟩,us,ks,al,bs⟩:=e
 obtain ⟨uk,un,um,ul⟩:=t
 obtain ⟨da,cl,ins⟩:=v
 simp only [En.cells,List.cons_append,List.nil_append] at *
 refine Zc Tryz.func156 U (by kernel_rfl) U (Wc U) ?_
 refine Qe ?_
 refine Qdh ?_
 refine Qdf ?_
 refine Qs ?_
 refine Qb8 ?_
 refine QbU ?_
 refine Q7 ?_
 refine Zb 9 U U U (Zg (xs:=[.tmp 6,.tmp 7,.tmp 8]) U U (HI) by2 ?_);intro c9 h9
 refine Qo ?_
 exact Ze U U (Xu _) (Xp _) ⟨⟨_,h9,U⟩,U⟩
theorem okL_len {f:Co→Ty × Bool}:∀ {xs:List Co} {ts:List Ty},okL f xs ts=true→xs.length=ts.length
 | [],[],_=>rfl
 | [],_::_,h=>by simp [okL] at h
 | _::_,[],h=>by simp [okL] at h
 | x::xs,t::ts,h=>by
  rw [okL,Bool.and_eq_true] at h
  simp [okL_len h.2]
theorem EqF_CT (f:Co→Ty × Bool) (g:FuncId) (cs:List AV) (xs:List Co) (ts:List Ty) (hg:∀ x∈xs,∀ t,BCall Tryz.prog g ([]++[.agg x.cells,.agg t.cells]++cs) (((f x).2 && (f x).1.eqC t)=true)):BCall Tryz.prog 155 [.seq 11 (Co.cellss xs),.seq 4 (Ty.cellss ts),.clo (.func g) [] cs] (okL f xs ts=true):=by
 have hx:=Co.cellss_len xs
 have hq:=Ty.cellss_len ts
 obtain ⟨r,hr⟩:∃ r,okL f xs ts=r:=⟨_,rfl⟩
 have hln := @okL_len f xs ts
 rw [hr] at hln ⊢
 refine Zc Tryz.func155 U (by kernel_rfl) U (Wc U) ?_
 refine QN ?_
 refine c_lens (t:=0) U (.seq _ _) (fun hmax=>?_)
 refine QbY ?_
 refine Qb9 ?_;intro n11
 refine Qb ?_
 refine QY ?_;intro n13
 refine QP ?_;intro c14 h14
 refine Qa ?_
 obtain ⟨rfl,g14⟩|⟨rfl,g14⟩:=Za h14
 ·refine QaP ?_
  refine Qb9 ?_;intro n16
  refine Qam ?_
  apply Zu (rg [(0,1),(3,12),(17,15)]) (σ:=Nat) (fun zz=>match zz with|i=>[(17,.val (.int .i64 i))]) (fun zz=>match zz with|i=>i≤xs.length∧okL f (xs.drop i) (ts.drop i)=r) (fun zz=>match zz with|i=>xs.length - i) (0)
  ·repeat' (first|exact Wf|apply Wd rfl|apply We rfl)
  ·exact ⟨Nat.zero_le _,hr⟩
  ·exact by5
  rintro i hI
  try dsimp only [List.cons_append,List.nil_append] at hI ⊢
  obtain ⟨hi,hf⟩:=hI
  refine Qan ?_;intro c18 h18
  refine Qy ?_
  obtain ⟨rfl,g18⟩|⟨rfl,g18⟩:=Za h18
  ·refine Qad ?_
   rw [Wh by17,Wh by17,okL] at hf
   subst hf
   exact Ze U U (Xu _) (Xp _) ⟨⟨_,iff_t U,U⟩,U⟩
  refine Qk ?_
  obtain ⟨⟨yk,ys,yn,⟨ytk,yts,ytn,ytl⟩,yus,yks,yal,ybs⟩,hxy⟩:=Zj (l:=xs) (i:=i) by8
  have hcy:=Co.cellss_get hxy
  have hmy:=Wg hxy
  obtain ⟨⟨zk,zs,zn,zl⟩,hxz⟩:=Zj (l:=ts) (i:=i) by8
  have hcz:=Ty.cellss_get hxz
  have hmz:=Wg hxz
  have HG:=hg _ hmy ⟨zk,zs,zn,zl⟩
  rw [Zz hxy,Zz hxz,okL] at hf
  generalize f (Co.mk yk ys yn ⟨ytk,yts,ytn,ytl⟩ yus yks yal ybs)=fy at *
  generalize (fy.2 && fy.1.eqC ⟨zk,zs,zn,zl⟩)=w at *
  refine Qh ?_
  refine Zb 20 U U U (Zh U te_25 U (.seq _ _) U U (hcy) ?_)
  refine QbU ?_
  refine Zb 8 U U U (Yb (cs':=[_,_,_,_,_,_,_,_,_,_,_]) U tz_29 U U ?_);intro b8
  refine QJ ?_
  refine Zr U U (Zp (cs':=[_,_,_,_,_,_,_,_,_,_,_]) (i:=0) U ts_29 U U U U U (Wc U) U ?_)
  refine QB ?_
  refine Qb ?_
  refine Zb 24 U U U (Zh U te_22 U (.seq _ _) U U (hcz) ?_)
  refine Q7 ?_
  refine QE ?_;intro b9
  refine QO ?_
  refine QB ?_
  refine Zb 27 U U U (Zs (cs':=[_,_,_,_,_,_,_,_,_,_,_]) (i:=1) U ta_29 U U U U ?_)
  refine Q9 ?_
  refine Zb 29 U U U (op_callvb (xs:=[.tmp 27,.tmp 28]) U U U (HG) by2 ?_);intro c29 h29
  refine Q5 ?_;intro c30 h30
  try replace h30:=Ym h30 h29
  refine Qa ?_
  obtain ⟨rfl,g30⟩|⟨rfl,g30⟩:=Za h30
  ·refine Qbu ?_
   rw [show w=true by simpa using g30,Bool.true_and] at hf
   exact ⟨i+1,⟨by show i+1≤xs.length;omega,hf⟩,by show xs.length - (i+1)<xs.length - i;omega,by5,by4⟩
  refine QD ?_
  rw [show w=false by simpa using g30,Bool.false_and] at hf
  subst hf
  exact Ze U U (Xu _) (Xp _) ⟨⟨_,iff_f by18,U⟩,U⟩
 refine QD ?_
 exact Ze U U (Xu _) (Xp _) ⟨⟨_,iff_f (fun q=>by have:=hln q;omega),U⟩,U⟩
theorem coOf_c (v:En) (pm:List Pm) (sc:List Cb) (vs:List ByteArray) (f:Co→Ty × Bool) (xs:List Co) (ts:List Ty) (H:∀ x∈xs,TypC v pm sc vs x (f x)):BCall Tryz.prog 93 [.agg (ckC v (Pm.cellss pm) sc vs),.seq 11 (Co.cellss xs),.seq 4 (Ty.cellss ts)] (okL f xs ts=true):=by
 have HE:=EqF_CT f 156 [.cptr (ckC v (Pm.cellss pm) sc vs)] xs ts (fun x hx t=>coOf1_c v pm sc vs x (f x) t (H x hx))
 generalize (okL f xs ts=true)=q at *
 unfold ckC at *
 clear H
 obtain ⟨da,cl,ins⟩:=v
 simp only [En.cells,List.cons_append,List.nil_append] at *
 refine Zc Tryz.func93 U (by kernel_rfl) U (Wc U) ?_
 refine Qbj ?_
 refine Qbb ?_
 refine Qdi ?_
 refine Zb 10 U U U (Zg (xs:=[.tmp 7,.tmp 8,.tmp 9]) U U (HE) by2 ?_);intro c10 h10
 refine Qo ?_
 exact Ze U U (Xu _) (Xp _) ⟨⟨_,h10,U⟩,U⟩
end Go.Proofs.YteepjjgooplljaaGreat
