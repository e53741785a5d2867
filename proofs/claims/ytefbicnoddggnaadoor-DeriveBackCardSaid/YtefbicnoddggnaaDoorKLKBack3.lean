/- DeriveBack (a tied card: the row lists cognateref07.kids, which the program's text lays): what is derived of any data type that the grammar can make, not too great, is right, a value, and names nothing free but eq, compare, show and ^. -/
import Derived.Test.YtefbicnoddggnaaDoorKLKBack2
import Derived.Test.YtefbicnoddggnaaDoorChecked
import Derived.Test.YtefbicnoddggnaaDoorRows
import Derived.Test.YtefbicnoddggnaaDoorCards
import Derived.Test.YtefbicnoddggnaaDoorTie
import Derived.LaidMore
import Derived.Lib.LaidTab
import Derived.Stop.Joined
import Derived.SevenTiedAt
set_option maxRecDepth 100000
set_option maxHeartbeats 4000000
namespace Go.Proofs.YtefbicnoddggnaaDoor
open Go.RowKit
def gdP (d:Da):Prop:=upP d.s∧d.cs.length≠0∧(∀ s∈d.dv,upP s)∧(∀ s∈d.ps,lowP s)∧∀ c∈d.cs,upP c.s∧∀ t∈c.ts,t.good
theorem GoodData_c (d:Da):BCall Tryd.prog 10 [.agg d.cells] (gdP d):=by
 have HU:=IsUp_c d.s
 have HV:=ups_c d.dv
 obtain ⟨ds,dps,dcs,ddv,dp⟩:=d
 show BCall Tryd.prog _ _ (upP ds∧dcs.length≠0∧(∀ s∈ddv,upP s)∧(∀ s∈dps,lowP s)∧∀ c∈dcs,upP c.s∧∀ t∈c.ts,t.good)
 replace HU:BCall Tryd.prog 21 [.val (.string ds)] (upP ds):=HU
 replace HV:BCall Tryd.prog 22 [.seq 1 (strs ddv)] (∀ s∈ddv,upP s):=HV
 have hlc:=Cn.cellss_len dcs
 have hlp:=Zq dps
 refine Zc Tryd.func10 O (by kernel_rfl) O (Yc O) ?_
 refine Qu ?_
 refine c_lena (t:=0) (j:=1) O O (.seq _ _) (fun hmax=>?_)
 refine c_lena (t:=0) (j:=2) O O (.seq _ _) (fun hmax2=>?_)
 refine Qd ?_
 refine QaX ?_
 refine QZ ?_
 refine Qp ?_
 refine Zp 21 (¬ (upP ds∧dcs.length≠0∧∀ s∈ddv,upP s)) ?_ _ _ O ?_
 ·skip
  refine Qg ?_
  refine Zb 8 O O O (Zj (xs:=[.tmp 7]) O O (HU) by3 ?_);intro c8 h8
  refine QV ?_;intro c9 h9
  try replace h9:=nott h9 h8
  refine Qa ?_
  obtain ⟨rfl,g9⟩|⟨rfl,g9⟩:=Za h9
  ·skip
   refine Qo ?_
   refine Zh 13 O O O O O (op_len O tu_23 O (.seq _ _) (fun n13=>?_))
   refine QS ?_;intro c14 h14
   refine Qq ?_
   obtain ⟨rfl,g14⟩|⟨rfl,g14⟩:=Za h14
   ·skip
    refine Qo ?_
    refine Zh 19 O O O O O (Zj (xs:=[.tmp 18]) O O (HV) by3 ?_);intro c19 h19
    refine QaY ?_;intro c20 h20
    try replace h20:=nott h20 h19
    refine Qk ?_
    refine Yb O ?_ by7 by5
    clear HU HV;first|(simp_all;done)|(simp_all;omega)|grind
   skip
   refine Qj ?_
   refine Qk ?_
   refine Yb O ?_ by7 by5
   clear HU HV;first|(simp_all;done)|(simp_all;omega)|grind
  skip
  refine Qj ?_
  refine QaC ?_
  refine Qk ?_
  refine Yb O ?_ by7 by5
  clear HU HV;first|(simp_all;done)|(simp_all;omega)|grind
 intro c21 h21
 refine Qe ?_
 obtain ⟨rfl,g21⟩|⟨rfl,g21⟩:=Za h21
 ·refine Q4 ?_
  refine Q6 ?_
  apply Zu (rg [(0,1),(2,2),(6,30)]) (σ:=Nat) (fun zz=>match zz with|i=>[(3,.val (.int .i64 i))]) (fun zz=>match zz with|i=>i≤dps.length∧∀ s∈dps.take i,lowP s) (fun zz=>match zz with|i=>dps.length - i) (0)
  ·repeat' (first|exact Yf|apply Yd rfl|apply Ye rfl)
  ·exact ⟨Nat.zero_le _,by simp⟩
  ·exact by6
  rintro i hI
  try dsimp only [List.cons_append,List.nil_append] at hI ⊢
  obtain ⟨hi,hn⟩:=hI
  refine QG ?_
  refine Qg ?_
  refine QaJ ?_;intro n25
  refine QA ?_;intro c26 h26
  refine Qb ?_
  obtain ⟨rfl,g26⟩|⟨rfl,g26⟩:=Za h26
  ·refine QT ?_
   refine Qp ?_
   rw [List.take_of_length_le by11] at hn
   obtain ⟨e1,e2,e3⟩:=Classical.not_not.1 g21
   refine Qc ?_
   refine Qh ?_
   refine QH ?_
   apply Zu (rg [(0,1),(2,71)]) (σ:=Nat) (fun zz=>match zz with|i=>[(4,.val (.int .i64 i))]) (fun zz=>match zz with|i=>i≤dcs.length∧∀ c∈dcs.take i,upP c.s∧∀ t∈c.ts,t.good) (fun zz=>match zz with|i=>dcs.length - i) (0)
   ·repeat' (first|exact Yf|apply Yd rfl|apply Ye rfl)
   ·exact ⟨Nat.zero_le _,by simp⟩
   ·exact by6
   rintro i hI
   try dsimp only [List.cons_append,List.nil_append] at hI ⊢
   obtain ⟨hi2,hn2⟩:=hI
   refine QG ?_
   refine Qg ?_
   refine QaW ?_;intro n39
   refine QA ?_;intro c40 h40
   refine Qb ?_
   obtain ⟨rfl,g40⟩|⟨rfl,g40⟩:=Za h40
   ·refine QT ?_
    rw [List.take_of_length_le by11] at hn2
    refine Qc ?_
    refine QJ ?_
    exact Zf O O (Zy _) by5 ⟨⟨_,iff_t ⟨e1,e2,e3,hn,hn2⟩,O⟩,O⟩
   refine Qt ?_
   refine Qp ?_
   obtain ⟨⟨qs,qts,qp⟩,hxq⟩:=Zm (l:=dcs) (i:=i) by8
   have hcq:=Cn.cellss_get hxq
   have hmq:=Yg hxq
   have HUq:=IsUp_c qs
   have hsn:=take_snoc hxq
   have hlt:=Ty.cellss_len qts
   refine Qc ?_
   refine Qaf ?_
   refine Qa9 ?_
   refine Qg ?_
   refine Zb 49 O O O (Zj (xs:=[.tmp 48]) O O (HUq) by3 ?_);intro c49 h49
   refine QV ?_;intro c50 h50
   try replace h50:=nott h50 h49
   refine Qb ?_
   obtain ⟨rfl,g50⟩|⟨rfl,g50⟩:=Za h50
   ·refine QC ?_
    refine Qe ?_
    refine Q6 ?_
    apply Zu (rg [(0,1),(2,2),(5,31),(51,22)]) (σ:=Nat) (fun zz=>match zz with|j=>[(5,.val (.int .i64 j))]) (fun zz=>match zz with|j=>j≤qts.length∧∀ t∈qts.take j,t.good) (fun zz=>match zz with|j=>qts.length - j) (0)
    ·repeat' (first|exact Yf|apply Yd rfl|apply Ye rfl)
    ·exact ⟨Nat.zero_le _,by simp⟩
    ·exact by6
    rintro j hI
    try dsimp only [List.cons_append,List.nil_append] at hI ⊢
    obtain ⟨hj,hn3⟩:=hI
    refine QG ?_
    refine Qaf ?_
    refine Qa9 ?_
    refine Qg ?_
    refine Q5 ?_;intro n58
    refine QA ?_;intro c59 h59
    refine Qb ?_
    obtain ⟨rfl,g59⟩|⟨rfl,g59⟩:=Za h59
    ·refine Qaw ?_
     refine Qav ?_
     refine Qa ?_
     refine QaD ?_
     refine Qad ?_
     rw [List.take_of_length_le by11] at hn3
     exact ⟨i+1,⟨by show i+1≤dcs.length;omega,fun c hc=>by
      rw [hsn] at hc
      rcases List.mem_append.1 hc with hc|hc
      ·exact hn2 c hc
      rw [List.mem_singleton] at hc;subst hc;exact ⟨Classical.not_not.1 g50,hn3⟩⟩,by show dcs.length - (i+1)<dcs.length - i;omega,by6,by5⟩
    refine Qt ?_
    obtain ⟨⟨zk,zs,zn,zl⟩,hxz⟩:=Zm (l:=qts) (i:=j) by8
    have hcz:=Ty.cellss_get hxz
    have hmz:=Yg hxz
    have HTz:=GoodType_c ⟨zk,zs,zn,zl⟩
    have hsn3:=take_snoc hxz
    refine Qc ?_
    refine Qaf ?_
    refine Zb 65 O O O (Zl O te_23 O (.seq _ _) O O (by first|exact hcq|exact hcz) ?_)
    refine Qaf ?_
    refine Zb 69 O O O (Zl O te_28 O (.seq _ _) O O (by first|exact hcq|exact hcz) ?_)
    refine QbY ?_
    refine Zb 71 O O O (Zj (xs:=[.tmp 70]) O O (HTz) by3 ?_);intro c71 h71
    refine QV ?_;intro c72 h72
    try replace h72:=nott h72 h71
    refine Qb ?_
    obtain ⟨rfl,g72⟩|⟨rfl,g72⟩:=Za h72
    ·refine Qah ?_
     exact ⟨j+1,⟨by show j+1≤qts.length;omega,fun c hc=>by
      rw [hsn3] at hc
      rcases List.mem_append.1 hc with hc|hc
      ·exact hn3 c hc
      rw [List.mem_singleton] at hc;subst hc;exact Classical.not_not.1 g72⟩,by show qts.length - (j+1)<qts.length - j;omega,by6,by5⟩
    refine Qz ?_
    exact Zf O O (Zy _) by5 ⟨⟨_,iff_f (fun h=>g72 ((h.2.2.2.2 _ hmq).2 _ hmz)),O⟩,O⟩
   refine Qz ?_
   exact Zf O O (Zy _) by5 ⟨⟨_,iff_f (fun h=>g50 (h.2.2.2.2 _ hmq).1),O⟩,O⟩
  refine Qt ?_
  obtain ⟨q,hxq⟩:=Zm (l:=dps) (i:=i) by8
  have hcq:=strs_get hxq
  have hmq:=Yg hxq
  have HL:=IsLow_c q
  have hsn:=take_snoc hxq
  refine Qc ?_
  refine Qaf ?_
  refine QbE ?_
  refine Qy ?_
  refine Zb 34 O O O (Zj (xs:=[.tmp 33]) O O (HL) by3 ?_);intro c34 h34
  refine QV ?_;intro c35 h35
  try replace h35:=nott h35 h34
  refine Qb ?_
  obtain ⟨rfl,g35⟩|⟨rfl,g35⟩:=Za h35
  ·refine Qah ?_
   exact ⟨i+1,⟨by show i+1≤dps.length;omega,fun c hc=>by
    rw [hsn] at hc
    rcases List.mem_append.1 hc with hc|hc
    ·exact hn c hc
    rw [List.mem_singleton] at hc;subst hc;exact Classical.not_not.1 g35⟩,by show dps.length - (i+1)<dps.length - i;omega,by6,by5⟩
  refine Qz ?_
  exact Zf O O (Zy _) by5 ⟨⟨_,iff_f (fun h=>g35 (h.2.2.2.1 _ hmq)),O⟩,O⟩
 refine Qz ?_
 exact Zf O O (Zy _) by5 ⟨⟨_,iff_f (fun h=>g21 ⟨h.1,h.2.1,h.2.2.1⟩),O⟩,O⟩
def smP (d:Da):Prop:=gdP d∧d.cs.length≤6∧d.ps.length≤6∧∀ c∈d.cs,c.ts.length≤8
theorem small18_c (d:Da):BCall Tryd.prog 5 [.agg d.cells] (smP d):=by
 have HG:=GoodData_c d
 unfold smP
 generalize gdP d=gd at *
 obtain ⟨ds,dps,dcs,ddv,dp⟩:=d
 show BCall Tryd.prog _ _ (gd∧dcs.length≤6∧dps.length≤6∧∀ c∈dcs,c.ts.length≤8)
 have hlc:=Cn.cellss_len dcs
 have hlp:=Zq dps
 simp only [Da.cells] at HG ⊢
 refine Zc Tryd.func5 O (by kernel_rfl) O (Yc O) ?_
 refine Qu ?_
 refine c_lena (t:=0) (j:=2) O O (.seq _ _) (fun hmax=>?_)
 refine Qd ?_
 refine QaX ?_
 refine QZ ?_
 refine Qp ?_
 refine Zp 19 (¬ (gd∧dcs.length≤6∧dps.length≤6)) ?_ _ _ O ?_
 ·skip
  refine Qbk ?_
  refine Zb 6 O O O (Zj (xs:=[.tmp 5]) O O (HG) by3 ?_);intro c6 h6
  refine QV ?_;intro c7 h7
  try replace h7:=nott h7 h6
  refine Qa ?_
  obtain ⟨rfl,g7⟩|⟨rfl,g7⟩:=Za h7
  ·skip
   refine Qo ?_
   refine Zh 11 O O O O O (op_len O tu_23 O (.seq _ _) (fun n11=>?_))
   refine QaP ?_;intro c12 h12
   refine Qq ?_
   obtain ⟨rfl,g12⟩|⟨rfl,g12⟩:=Za h12
   ·skip
    refine Qo ?_
    refine QbG ?_;intro n17
    refine QaP ?_;intro c18 h18
    refine Qk ?_
    refine Yb O ?_ by7 by5
    clear HG;first|(simp_all;done)|(simp_all;omega)|grind
   skip
   refine Qj ?_
   refine Qk ?_
   refine Yb O ?_ by7 by5
   clear HG;first|(simp_all;done)|(simp_all;omega)|grind
  skip
  refine Qj ?_
  refine QaC ?_
  refine Qk ?_
  refine Yb O ?_ by7 by5
  clear HG;first|(simp_all;done)|(simp_all;omega)|grind
 intro c19 h19
 refine Qe ?_
 obtain ⟨rfl,g19⟩|⟨rfl,g19⟩:=Za h19
 ·refine Qaa ?_
  refine QaW ?_;intro n22
  refine QW ?_
  apply Zu (rg [(0,21),(23,9)]) (σ:=Nat) (fun zz=>match zz with|i=>[(23,.val (.int .i64 i))]) (fun zz=>match zz with|i=>i≤dcs.length∧∀ c∈dcs.take i,c.ts.length≤8) (fun zz=>match zz with|i=>dcs.length - i) (0)
  ·repeat' (first|exact Yf|apply Yd rfl|apply Ye rfl)
  ·exact ⟨Nat.zero_le _,by simp⟩
  ·exact by6
  rintro i hI
  try dsimp only [List.cons_append,List.nil_append] at hI ⊢
  obtain ⟨hi,hn⟩:=hI
  refine QX ?_;intro c24 h24
  refine Ql ?_
  obtain ⟨rfl,g24⟩|⟨rfl,g24⟩:=Za h24
  ·refine QT ?_
   rw [List.take_of_length_le by11] at hn
   obtain ⟨e1,e2,e3⟩:=Classical.not_not.1 g19
   refine Qc ?_
   refine QJ ?_
   exact Zf O O (Zy _) by5 ⟨⟨_,iff_t ⟨e1,e2,e3,hn⟩,O⟩,O⟩
  refine Qt ?_
  obtain ⟨⟨qs,qts,qp⟩,hxq⟩:=Zm (l:=dcs) (i:=i) by8
  have hcq:=Cn.cellss_get hxq
  have hmq:=Yg hxq
  have hsn:=take_snoc hxq
  have hlt:=Ty.cellss_len qts
  refine Qc ?_
  refine Qa9 ?_
  refine Qa4 ?_
  refine Qa5 ?_;intro b4
  refine Qa6 ?_
  refine Qb ?_
  refine Qd ?_
  refine Q9 ?_
  refine Q5 ?_;intro n29
  refine Qa8 ?_;intro c30 h30
  refine Qb ?_
  obtain ⟨rfl,g30⟩|⟨rfl,g30⟩:=Za h30
  ·refine QC ?_
   refine QK ?_
   exact ⟨i+1,⟨by show i+1≤dcs.length;omega,fun c hc=>by
    rw [hsn] at hc
    rcases List.mem_append.1 hc with hc|hc
    ·exact hn c hc
    rw [List.mem_singleton] at hc;subst hc;show qts.length≤8;omega⟩,by show dcs.length - (i+1)<dcs.length - i;omega,by6,by5⟩
  refine Qz ?_
  exact Zf O O (Zy _) by5 ⟨⟨_,iff_f (fun h=>by have:qts.length≤8:=h.2.2.2 _ hmq;omega),O⟩,O⟩
 refine Qz ?_
 exact Zf O O (Zy _) by5 ⟨⟨_,iff_f (fun h=>g19 ⟨h.1,h.2.1,h.2.2.1⟩),O⟩,O⟩
theorem smP.dtg {d:Da} (h:smP d):DtG d.cs:=by
 obtain ⟨⟨_,h1,_,_,h2⟩,h3,_,h4⟩:=h
 exact ⟨fun q=>h1 (by rw [q];rfl),h3,fun c hc=>⟨(h2 c hc).1.gn,h4 c hc⟩,fun c hc=>(h2 c hc).1.1⟩
theorem smP.ps {d:Da} (h:smP d):d.ps.length≤1000000:=by
 obtain ⟨_,_,h1,_⟩:=h
 omega
theorem DtG.das {d:Da} (hg:DtG d.cs) (hp:d.ps.length≤1000000):DaS d:=⟨by have:=hg.len;omega,hp,fun c hc=>⟨by have:=(hg.cn c hc).2;omega,by have:=hg.sz c hc;omega⟩⟩
abbrev kA1:ByteArray:=⟨#[65]⟩
abbrev kB1:ByteArray:=⟨#[66]⟩
abbrev kT1:ByteArray:=⟨#[84]⟩
def daT:Da:=.mk kT1 [] [.mk kA1 [] 0,.mk kB1 [] 0] [] 0
theorem daT_s:DaS daT:=⟨by decide,by decide,fun c hc=>by
 simp only [daT,Da.cs,List.mem_cons,List.not_mem_nil,or_false] at hc
 rcases hc with rfl|rfl <;> exact ⟨by decide,by decide⟩⟩
theorem daT_inst:∃ p0 e0 p1 a1 a2,instR daT kcEq=(In.mk kcEq (.mk 3 kT1 0 []) [] [.mk kEqN (.mk 6 kX 0 ty0 [.mk 6 kY 0 ty0 [.mk 8 kE 0 ty0 [namE 3 kX 0] [.mk p0 e0,.mk p1 (.mk 8 kE 0 ty0 [namE 3 kY 0] [a1,a2] [] 0)] [] 0] [] [] 0] [] [] 0) 0] 0,0):=by
 unfold instR bindX
 rw [if_pos rfl]
 exact ⟨_,_,_,_,_,O⟩
theorem awake18_c:PCall Tryd.prog 4 [] (.val (.bool true)):=by
 have HI:=Inst_c daT daT_s kcEq
 obtain ⟨⟨p0k,p0s,p0n,p0l,p0p⟩,⟨e0k,e0s,e0n,⟨e0tk,e0ts,e0tn,e0tl⟩,e0ks,e0al,e0bs,e0p⟩,⟨p1k,p1s,p1n,p1l,p1p⟩,⟨⟨b1k,b1s,b1n,b1l,b1p⟩,⟨c1k,c1s,c1n,⟨c1tk,c1ts,c1tn,c1tl⟩,c1ks,c1al,c1bs,c1p⟩⟩,⟨⟨b2k,b2s,b2n,b2l,b2p⟩,⟨c2k,c2s,c2n,⟨c2tk,c2ts,c2tn,c2tl⟩,c2ks,c2al,c2bs,c2p⟩⟩,he⟩:=daT_inst
 rw [he] at HI
 clear he
 have f1:∀ l:List Bi,(Bi.cellss l).length=l.length:=Bi.cellss_len
 have f2:∀ l:List Ex,(Ex.cellss l).length=l.length:=Ex.cellss_len
 have f3:∀ l:List Al,(Al.cellss l).length=l.length:=Al.cellss_len
 refine Zc Tryd.func4 O (by kernel_rfl) O (Yc O) ?_
 refine Qu ?_
 refine Qau ?_
 refine Qd ?_
 refine Zb 5 O O O (Zi (ns:=[0]) (xs:=[.const (.string ⟨#[65]⟩)]) O tz_47 O tfl_47 O O O O ?_)
 refine Zb 6 O O O (Zi (ns:=[0]) (xs:=[.const (.string ⟨#[66]⟩)]) O tz_47 O tfl_47 O O O O ?_)
 refine Zb 7 O O O (Zg (xs:=[.tmp 5,.tmp 6]) el_23 O O O O O O (Yc O) (Zb 8 O O O (Zi (ns:=[0,2]) (xs:=[.const (.string ⟨#[84]⟩),.tmp 7]) O tz_25 O tfl_25 O O O O ?_)))
 refine Zb 9 O O O (Zd (xs:=[.tmp 8,.const (.string ⟨#[69,113]⟩)]) O O (HI) (by repeat' (first|exact Les.refl _|refine Zz ?_ ?_|exact Zy _|exact Le.own _ _ _|exact Le.nil _|refine Le.agg ?_|refine Le.own_seqL ?_|refine Le.seq ?_|exact Less.refl _|exact Less.nil|refine Less.cons ?_ O ?_)) ?_)
 refine Qa ?_
 refine Qbq ?_
 refine Qbq ?_
 refine Qbj ?_;intro b1
 refine QbD ?_
 refine QZ ?_
 refine Qp ?_
 refine Zp 27 (False) ?_ _ _ O ?_
 ·skip
  refine Qa ?_
  refine Qba ?_;intro c13 h13
  refine Qa ?_
  obtain ⟨rfl,g13⟩|⟨rfl,g13⟩:=Za h13
  ·skip
   refine Qai ?_
   refine Zh 17 O O O O O (op_len O tu_32 O (.seq _ _) (fun n17=>?_))
   refine QaS ?_;intro c18 h18
   refine Qq ?_
   obtain ⟨rfl,g18⟩|⟨rfl,g18⟩:=Za h18
   ·skip
    refine Qai ?_
    refine Zh 23 O O O O O (Zl (i:=0) O te_32 O (.seq _ _) O O (by first|rfl|assumption) ?_)
    refine Qo ?_
    refine QaR ?_;intro c26 h26
    refine Qk ?_
    refine Yb O ?_ by7 by5
    simp_all;done
   skip
   refine Qj ?_
   refine Qap ?_
   refine Yb O ?_ by7 by5
   simp_all;done
  skip
  refine Qj ?_
  refine QaC ?_
  refine Qap ?_
  refine Yb O ?_ by7 by5
  simp_all;done
 intro c27 h27
 refine Qe ?_
 obtain ⟨rfl,g27⟩|⟨rfl,g27⟩:=Za h27
 ·refine QC ?_
  refine Qe ?_
  refine Qd ?_
  refine Q9 ?_
  refine QbZ ?_
  refine Qar ?_
  refine QaF ?_
  refine Q1 ?_;intro b3
  refine QR ?_
  refine Ql ?_
  refine Zp 0 (True) ?_ _ _ O ?_
  ·skip
   refine Q9 ?_
   refine Qi ?_;intro c35 h35
   refine Qa ?_
   obtain ⟨rfl,g35⟩|⟨rfl,g35⟩:=Za h35
   ·skip
    refine Qj ?_
    refine QaC ?_
    refine QE ?_
    refine Q7 ?_
    refine QO ?_
    refine Q7 ?_
    refine Qj ?_
    refine QD ?_
    refine Yb O ?_ by7 by5
    simp_all;done
   skip
   refine Qai ?_
   refine Zh 39 O O O O O (op_len O tu_38 O (.seq _ _) (fun n39=>?_))
   refine QS ?_;intro c40 h40
   refine Qq ?_
   obtain ⟨rfl,g40⟩|⟨rfl,g40⟩:=Za h40
   ·skip
    refine Qj ?_
    refine QE ?_
    refine Q7 ?_
    refine QO ?_
    refine Q7 ?_
    refine Qj ?_
    refine QD ?_
    refine Yb O ?_ by7 by5
    simp_all;done
   skip
   refine Qai ?_
   refine Qbb ?_
   refine Qo ?_
   refine Zh 48 O O O O O (op_len O tu_38 O (.seq _ _) (fun n48=>?_))
   refine QS ?_;intro c49 h49
   refine Qq ?_
   obtain ⟨rfl,g49⟩|⟨rfl,g49⟩:=Za h49
   ·skip
    refine Q7 ?_
    refine QO ?_
    refine Q7 ?_
    refine Qj ?_
    refine QD ?_
    refine Yb O ?_ by7 by5
    simp_all;done
   skip
   refine Qai ?_
   refine Qbb ?_
   refine Qo ?_
   refine Qbb ?_
   refine Qo ?_
   refine QbH ?_;intro n60
   refine QS ?_;intro c61 h61
   refine Qq ?_
   obtain ⟨rfl,g61⟩|⟨rfl,g61⟩:=Za h61
   ·skip
    refine Q7 ?_
    refine Qj ?_
    refine QD ?_
    refine Yb O ?_ by7 by5
    simp_all;done
   skip
   refine Qai ?_
   refine Qbb ?_
   refine Qo ?_
   refine Qbb ?_
   refine Qo ?_
   refine Zh 72 O O O O O (Zl (i:=1) O te_39 O (.seq _ _) O O (by first|rfl|assumption) ?_)
   refine QaH ?_
   refine Qo ?_
   refine QbH ?_;intro n76
   refine QS ?_;intro c77 h77
   refine Qn ?_
   refine Yb O ?_ by7 by5
   simp_all;done
  intro c0 h0
  refine Qw ?_
  obtain rfl:c0=true:=h0.2 trivial
  exact Zf O O (Zy _) (Zw _) ⟨O,O⟩
 exact g27.elim
end Go.Proofs.YtefbicnoddggnaaDoor
namespace Go.Proofs.YtefbicnoddggnaaDoor
/- right -/
def ascP (s:ByteArray):Prop:=s.size≤1000∧∀ c∈bytesN s,c<128
mutual
def Pa.gd:Pa→Prop
 | .mk k s n ks _=>n=0∧Pa.gds ks∧((k=1∧s=kE∧ks.length=0)∨(k=2∧lowP s∧ks.length=0)∨(k=3∧upP s))
def Pa.gds:List Pa→Prop
 | []=>True
 | x::l=>x.gd∧Pa.gds l
end
mutual
def Ex.gd:Ex→Prop
 | .mk k s n t ks al bs _=>t=ty0∧bs=[]∧n=0∧Ex.gds ks∧Al.gds al∧((k=2∧ascP s∧ks.length=0∧al.length=0)∨(k=3∧(lowP s∨s=kHat)∧ks.length=0∧al.length=0)∨(k=4∧upP s∧ks.length=0∧al.length=0)∨(k=5∧s=kE∧ks.length=2∧al.length=0)∨(k=6∧lowP s∧ks.length=1∧al.length=0)∨(k=8∧s=kE∧ks.length=1∧al.length≠0)∨(k=10∧s=kE∧ks.length=2∧al.length=0))
def Ex.gds:List Ex→Prop
 | []=>True
 | x::l=>x.gd∧Ex.gds l
def Al.gd:Al→Prop
 | .mk q e=>q.gd∧e.gd
def Al.gds:List Al→Prop
 | []=>True
 | x::l=>x.gd∧Al.gds l
end
theorem Pa.gds_iff:∀ l:List Pa,Pa.gds l↔∀ x∈l,x.gd
 | []=>by rw [Pa.gds];exact ⟨fun _ x h=>by simp at h,fun _=>trivial⟩
 | x::l=>by
  rw [Pa.gds,Pa.gds_iff l]
  exact ⟨fun h y hy=>(List.mem_cons.1 hy).elim (fun e=>e ▸ h.1) (h.2 y),fun h=>⟨h x by12,fun y hy=>h y (by simp [hy])⟩⟩
theorem Ex.gds_iff:∀ l:List Ex,Ex.gds l↔∀ x∈l,x.gd
 | []=>by rw [Ex.gds];exact ⟨fun _ x h=>by simp at h,fun _=>trivial⟩
 | x::l=>by
  rw [Ex.gds,Ex.gds_iff l]
  exact ⟨fun h y hy=>(List.mem_cons.1 hy).elim (fun e=>e ▸ h.1) (h.2 y),fun h=>⟨h x by12,fun y hy=>h y (by simp [hy])⟩⟩
theorem Al.gds_iff:∀ l:List Al,Al.gds l↔∀ x∈l,x.gd
 | []=>by rw [Al.gds];exact ⟨fun _ x h=>by simp at h,fun _=>trivial⟩
 | x::l=>by
  rw [Al.gds,Al.gds_iff l]
  exact ⟨fun h y hy=>(List.mem_cons.1 hy).elim (fun e=>e ▸ h.1) (h.2 y),fun h=>⟨h x by12,fun y hy=>h y (by simp [hy])⟩⟩
/- free names -/
def Alw (s:ByteArray):Prop:=s=kEqN∨s=kCmp∨s=kShw∨s=kHat
mutual
def Ex.cl:Ex→List Txt→Prop
 | .mk k s _ _ ks al bs _,bd=>bs=[]∧k≠7∧(k=3→s∈bd∨Alw s)∧(if k=6 then Ex.cls ks (bd++[s]) else Ex.cls ks bd)∧Al.cls al bd
def Ex.cls:List Ex→List Txt→Prop
 | [],_=>True
 | x::l,bd=>x.cl bd∧Ex.cls l bd
def Al.cl:Al→List Txt→Prop
 | .mk q e,bd=>e.cl (bd++q.names)
def Al.cls:List Al→List Txt→Prop
 | [],_=>True
 | x::l,bd=>x.cl bd∧Al.cls l bd
end
theorem Bi.frs_nil (bd out:List Txt):Bi.frs [] bd out=out:=by rw [Bi.frs]
mutual
theorem Ex.cl_fr:∀ (e:Ex) (bd out:List Txt),e.cl bd→(∀ x∈out,Alw x)→∀ x∈e.fr bd out,Alw x
 | .mk k s n t ks al bs p,bd,out,h,ho=>by
  rw [Ex.cl] at h
  obtain ⟨h1,h2,h3,h4,h5⟩:=h
  subst h1
  have h0:∀ x∈(if k=3∧s∉bd∧s∉out then out++[s] else out),Alw x:=by
   intro x hx
   split at hx
   ·rename_i q
    rcases List.mem_append.1 hx with hx|hx
    ·exact ho x hx
    rw [List.mem_singleton] at hx
    subst hx
    exact (h3 q.1).resolve_left q.2.1
   exact ho x hx
  rw [Ex.fr]
  simp only [Bi.frs_nil]
  generalize (if k=3∧s∉bd∧s∉out then out++[s] else out)=o1 at *
  refine Al.cls_fr al bd _ h5 ?_
  rw [if_neg h2]
  by_cases h6:k=6
  ·rw [if_pos h6] at h4 ⊢
   exact Ex.cls_fr ks _ o1 h4 h0
  rw [if_neg h6] at h4 ⊢
  exact Ex.cls_fr ks _ o1 h4 h0
theorem Ex.cls_fr:∀ (l:List Ex) (bd out:List Txt),Ex.cls l bd→(∀ x∈out,Alw x)→∀ x∈Ex.frs l bd out,Alw x
 | [],bd,out,_,ho=>by rw [Ex.frs];exact ho
 | e::l,bd,out,h,ho=>by
  rw [Ex.cls] at h
  rw [Ex.frs]
  exact Ex.cls_fr l bd _ h.2 (Ex.cl_fr e bd out h.1 ho)
theorem Al.cls_fr:∀ (l:List Al) (bd out:List Txt),Al.cls l bd→(∀ x∈out,Alw x)→∀ x∈Al.frs l bd out,Alw x
 | [],bd,out,_,ho=>by rw [Al.frs];exact ho
 | .mk q e::l,bd,out,h,ho=>by
  rw [Al.cls,Al.cl] at h
  rw [Al.frs,Al.fr]
  exact Al.cls_fr l bd _ h.2 (Ex.cl_fr e (bd++q.names) out h.1 ho)
end
/- all three at once -/
structure OkE (bd:List Txt) (W:Nat) (e:Ex):Prop where
 gd:e.gd
 cl:e.cl bd
 w:e.w≤W
structure OkA (bd:List Txt) (W:Nat) (x:Al):Prop where
 gd:x.gd
 cl:x.cl bd
 w:x.w≤W
theorem OkE.up {bd:List Txt} {A B:Nat} {e:Ex} (h:OkE bd A e) (hb:A≤B):OkE bd B e:=⟨h.gd,h.cl,Nat.le_trans h.w hb⟩
theorem OkA.up {bd:List Txt} {A B:Nat} {e:Al} (h:OkA bd A e) (hb:A≤B):OkA bd B e:=⟨h.gd,h.cl,Nat.le_trans h.w hb⟩
theorem ok_alt {bd:List Txt} {A:Nat} {q:Pa} {e:Ex} (hq:q.gd) (h:OkE (bd++q.names) A e):OkA bd (q.size+A) (.mk q e) :=
 ⟨by rw [Al.gd];exact ⟨hq,h.gd⟩,by rw [Al.cl];exact h.cl,by rw [Al.w];have:=h.w;omega⟩
theorem ok_nam3 {bd:List Txt} {s:ByteArray} {a:Int} (h:lowP s∨s=kHat) (hf:s∈bd∨Alw s):OkE bd 1 (namE 3 s a) :=
 ⟨by unfold namE;rw [Ex.gd,Ex.gds,Al.gds];exact ⟨rfl,rfl,rfl,trivial,trivial,.inr (.inl ⟨rfl,h,rfl,rfl⟩)⟩,by unfold namE;rw [Ex.cl,Ex.cls,Ex.cls,Al.cls];exact ⟨rfl,by decide,fun _=>hf,by simp,trivial⟩,by unfold namE;rw [Ex.w,Ex.ws,Al.ws,Bi.ws];omega⟩
theorem ok_nam4 {bd:List Txt} {s:ByteArray} {a:Int} (h:upP s):OkE bd 1 (namE 4 s a) :=
 ⟨by unfold namE;rw [Ex.gd,Ex.gds,Al.gds];exact ⟨rfl,rfl,rfl,trivial,trivial,.inr (.inr (.inl ⟨rfl,h,rfl,rfl⟩))⟩,by unfold namE;rw [Ex.cl,Ex.cls,Ex.cls,Al.cls];exact ⟨rfl,by decide,fun q=>absurd q by10,by simp,trivial⟩,by unfold namE;rw [Ex.w,Ex.ws,Al.ws,Bi.ws];omega⟩
theorem ok_nam2 {bd:List Txt} {s:ByteArray} {a:Int} (h:ascP s):OkE bd 1 (namE 2 s a) :=
 ⟨by unfold namE;rw [Ex.gd,Ex.gds,Al.gds];exact ⟨rfl,rfl,rfl,trivial,trivial,.inl ⟨rfl,h,rfl,rfl⟩⟩,by unfold namE;rw [Ex.cl,Ex.cls,Ex.cls,Al.cls];exact ⟨rfl,by decide,fun q=>absurd q by10,by simp,trivial⟩,by unfold namE;rw [Ex.w,Ex.ws,Al.ws,Bi.ws];omega⟩
theorem ok_app {bd:List Txt} {A B:Nat} {x y:Ex} {a:Int} (hx:OkE bd A x) (hy:OkE bd B y):OkE bd (A+B+1) (opE 5 [x,y] a) :=
 ⟨by unfold opE;rw [Ex.gd,Ex.gds,Ex.gds,Ex.gds,Al.gds];exact ⟨rfl,rfl,rfl,⟨hx.gd,hy.gd,trivial⟩,trivial,(.inr (.inr (.inr (.inl ⟨rfl, rfl, rfl, rfl⟩))))⟩,by unfold opE;rw [Ex.cl,if_neg by10,Ex.cls,Ex.cls,Ex.cls,Al.cls];exact ⟨rfl,by decide,fun q=>absurd q by10,⟨hx.cl,hy.cl,trivial⟩,trivial⟩,by unfold opE;rw [Ex.w,Ex.ws,Ex.ws,Ex.ws,Al.ws,Bi.ws];have:=hx.w;have:=hy.w;omega⟩
theorem ok_and {bd:List Txt} {A B:Nat} {x y:Ex} {a:Int} (hx:OkE bd A x) (hy:OkE bd B y):OkE bd (A+B+1) (opE 10 [x,y] a) :=
 ⟨by unfold opE;rw [Ex.gd,Ex.gds,Ex.gds,Ex.gds,Al.gds];exact ⟨rfl,rfl,rfl,⟨hx.gd,hy.gd,trivial⟩,trivial,(.inr (.inr (.inr (.inr (.inr (.inr ⟨rfl, rfl, rfl, rfl⟩))))))⟩,by unfold opE;rw [Ex.cl,if_neg by10,Ex.cls,Ex.cls,Ex.cls,Al.cls];exact ⟨rfl,by decide,fun q=>absurd q by10,⟨hx.cl,hy.cl,trivial⟩,trivial⟩,by unfold opE;rw [Ex.w,Ex.ws,Ex.ws,Ex.ws,Al.ws,Bi.ws];have:=hx.w;have:=hy.w;omega⟩
theorem ok_lam {bd:List Txt} {A:Nat} {n:ByteArray} {b:Ex} {a:Int} (hn:lowP n) (hb:OkE (bd++[n]) A b):OkE bd (A+1) (.mk 6 n 0 ty0 [b] [] [] a) :=
 ⟨by rw [Ex.gd,Ex.gds,Ex.gds,Al.gds];exact ⟨rfl,rfl,rfl,⟨hb.gd,trivial⟩,trivial,.inr (.inr (.inr (.inr (.inl ⟨rfl,hn,rfl,rfl⟩))))⟩,by rw [Ex.cl,if_pos rfl,Ex.cls,Ex.cls,Al.cls];exact ⟨rfl,by decide,fun q=>absurd q by10,⟨hb.cl,trivial⟩,trivial⟩,by rw [Ex.w,Ex.ws,Ex.ws,Al.ws,Bi.ws];have:=hb.w;omega⟩
theorem cls_al {bd:List Txt}:∀ l:List Al,(∀ x∈l,x.cl bd)→Al.cls l bd
 | [],_=>by rw [Al.cls];trivial
 | x::l,h=>by rw [Al.cls];exact ⟨h x by12,cls_al l (fun y hy=>h y (by simp [hy]))⟩
theorem ws_al {B:Nat}:∀ l:List Al,(∀ x∈l,x.w≤B)→Al.ws l≤l.length * B
 | [],_=>by rw [Al.ws];omega
 | x::l,h=>by
  rw [Al.ws,List.length_cons,Nat.add_mul]
  have h1:=h x by12
  have h2:=ws_al l (fun y hy=>h y (by simp [hy]))
  omega
theorem ok_cas {bd:List Txt} {A B:Nat} {h:Ex} {al:List Al} {a:Int} (hh:OkE bd A h) (hne:al≠[]) (hal:∀ x∈al,OkA bd B x):OkE bd (A+1+al.length * B) (.mk 8 kE 0 ty0 [h] al [] a) :=
 ⟨by rw [Ex.gd,Ex.gds,Ex.gds,Al.gds_iff];exact ⟨rfl,rfl,rfl,⟨hh.gd,trivial⟩,fun x hx=>(hal x hx).gd,.inr (.inr (.inr (.inr (.inr (.inl ⟨rfl,rfl,rfl,fun q=>hne (List.eq_nil_of_length_eq_zero q)⟩)))))⟩,by rw [Ex.cl,if_neg by10,Ex.cls,Ex.cls];exact ⟨rfl,by decide,fun q=>absurd q by10,⟨hh.cl,trivial⟩,cls_al al (fun x hx=>(hal x hx).cl)⟩,by rw [Ex.w,Ex.ws,Ex.ws,Bi.ws];have:=hh.w;have:=ws_al al (fun x hx=>(hal x hx).w);omega⟩
/- names, as the kernel can evaluate it -/
def lowB (s:ByteArray):Bool:=decide (s≠kE) && decide (s.size≤40) && (match s[0]? with|some b=>smallC b.toNat|none=>false) && (bytesN s).all nameC && !keyT s && decide (s≠kUn)
theorem lowP_of {s:ByteArray} (h:lowB s=true):lowP s:=by
 unfold lowB at h
 simp only [Bool.and_eq_true,decide_eq_true_eq,Bool.not_eq_true',List.all_eq_true] at h
 obtain ⟨⟨⟨⟨⟨h1,h2⟩,h3⟩,h4⟩,h5⟩,h6⟩:=h
 refine ⟨h1,h2,?_,h4,by rw [h5];decide,h6⟩
 cases hb:s[0]? with
 | none=>rw [hb] at h3;simp at h3
 | some b=>rw [hb] at h3;exact ⟨b,rfl,h3⟩
theorem low_num {of:ByteArray} (h:of=kX∨of=kY) {i:Nat} (hi:i<8):lowP (of++num i):=by
 rw [num_at i hi]
 apply lowP_of
 rcases h with rfl|rfl
 ·have:∀ i:Fin 8,lowB (kX++⟨#[UInt8.ofNat (49+i.1)]⟩)=true:=by decide +kernel
  exact this ⟨i,hi⟩
 have:∀ i:Fin 8,lowB (kY++⟨#[UInt8.ofNat (49+i.1)]⟩)=true:=by decide +kernel
 exact this ⟨i,hi⟩
theorem low_x:lowP kX:=lowP_of by9
theorem low_y:lowP kY:=lowP_of by9
theorem low_r:lowP kR:=lowP_of by9
theorem low_eq:lowP kEqN:=lowP_of by9
theorem low_cmp:lowP kCmp:=lowP_of by9
theorem low_shw:lowP kShw:=lowP_of by9
theorem upP_of {s:ByteArray} {c:Nat} {r:List Nat} (hs:bytesN s=c::r) (h1:s.size≤40) (h2:greatC c=true) (h3:∀ d∈c::r,nameC d=true):upP s:=⟨h1,c,r,hs,h2,h3⟩
theorem up_true:upP kTrue:=upP_of (c:=84) (r:=[114,117,101]) rfl by10 by10 by10
theorem up_false:upP kFalse:=upP_of (c:=70) (r:=[97,108,115,101]) rfl by10 by10 by10
theorem up_EQ:upP kEQ:=upP_of (c:=69) (r:=[81]) rfl by10 by10 by10
theorem up_LT:upP kLT:=upP_of (c:=76) (r:=[84]) rfl by10 by10 by10
theorem up_GT:upP kGT:=upP_of (c:=71) (r:=[84]) rfl by10 by10 by10
theorem up_asc {s:ByteArray} (h:upP s):ascP s:=⟨by have:=h.1;omega,fun c hc=>(h.gn.tx c hc).2.2.2⟩
/- patterns -/
theorem pat_gd (a:Int) {c of:ByteArray} (hc:upP c) (ho:of=kE∨of=kX∨of=kY) {n:Nat} (hn:n≤8):(patX a c of n).gd:=by
 unfold patX
 rw [Pa.gd,Pa.gds_iff]
 refine ⟨O,?_,.inr (.inr ⟨O,hc⟩)⟩
 have:∀ m,m≤8→∀ x∈patL a of m,x.gd:=by
  intro m
  induction m with
  | zero=>intro _ x hx;simp [patL] at hx
  | succ m ih =>
   intro hm x hx
   rw [patL] at hx
   rcases List.mem_append.1 hx with hx|hx
   ·exact ih by11 x hx
   rw [List.mem_singleton] at hx
   subst hx
   unfold patK
   split
   ·rw [Pa.gd,Pa.gds];exact ⟨rfl,trivial,.inl ⟨rfl,rfl,rfl⟩⟩
   rename_i h
   rw [Pa.gd,Pa.gds];exact ⟨rfl,trivial,.inr (.inl ⟨rfl,low_num (ho.resolve_left h) by11,rfl⟩)⟩
 exact this n hn
theorem pat_names (a:Int) {c of:ByteArray} (ho:of≠kE) {n i:Nat} (hi:i<n):(of++num i)∈(patX a c of n).names:=by
 unfold patX
 rw [Pa.names,Pa.namess_flat]
 refine List.mem_append_right _ (List.mem_flatten.2 ⟨(patK a of i).names,List.mem_map_of_mem ?_,?_⟩)
 ·have:∀ m,i<m→patK a of i∈patL a of m:=by
   intro m
   induction m with
   | zero=>intro h;omega
   | succ m ih =>
    intro h
    rw [patL]
    by_cases e:i=m
    ·subst e;simp
    exact List.mem_append_left _ (ih by11)
  exact this n hi
 unfold patK
 rw [if_neg ho,Pa.names,if_pos rfl]
 simp
theorem pat_size (a:Int) (c of:ByteArray) (n:Nat):(patX a c of n).size=1+n:=by
 unfold patX
 rw [Pa.size,Pa.sizes_map]
 have:∀ m,((patL a of m).map Pa.size).sum=m:=by
  intro m
  induction m with
  | zero=>rfl
  | succ m ih =>
   rw [patL,List.map_append,List.sum_append,ih]
   unfold patK
   split <;> simp [Pa.size,Pa.sizes]
 rw [this]
/- expressions; what is bound: x, y, the arguments of both -/
def BdX (bd:List Txt) (n:Nat):Prop:=∀ i,i<n→(kX++num i)∈bd
def BdY (bd:List Txt) (n:Nat):Prop:=∀ i,i<n→(kY++num i)∈bd
theorem ok_two {bd:List Txt} {n:Nat} (hn:n≤8) (hx:BdX bd n) (hy:BdY bd n) (a:Int) {f:ByteArray} (hf:lowP f) (hA:Alw f) {i:Nat} (hi:i<n):OkE bd 5 (twoX a f i) :=
 ok_app (ok_app (ok_nam3 (.inl hf) (.inr hA)) (ok_nam3 (.inl (low_num (.inl rfl) by11)) (.inl (hx i hi)))) (ok_nam3 (.inl (low_num (.inr rfl) by11)) (.inl (hy i hi)))
theorem ok_suf {bd:List Txt} {n:Nat} (hn:n≤8) (hx:BdX bd n) (hy:BdY bd n) (a:Int):∀ r i,i+r<n→OkE bd (6 * (r+1)) (sufX a i r)
 | 0,i,h=>(ok_two hn hx hy a low_eq (.inl rfl) by11).up by11
 | r+1,i,h=>(ok_and (ok_two hn hx hy a low_eq (.inl rfl) by11) (ok_suf hn hx hy a r (i+1) by11)).up by11
def lexW:Nat→Nat
 | 0=>5
 | r+1=>2 * lexW r+10
theorem lexW_le:∀ r,r≤8→lexW r≤5000:=by
 intro r hr
 have:∀ r:Fin 9,lexW r.1≤5000:=by decide
 exact this ⟨r,by omega⟩
theorem lexW_pos:∀ r,5≤lexW r
 | 0=>Nat.le_refl _
 | r+1=>by have:=lexW_pos r;rw [lexW];omega
theorem pat0_gd {k:Int} {s:ByteArray} {a:Int} (h:(k=1∧s=kE)∨(k=2∧lowP s)∨(k=3∧upP s)):(Pa.mk k s 0 [] a).gd:=by
 rw [Pa.gd,Pa.gds]
 refine ⟨O,trivial,?_⟩
 rcases h with h|h|h
 ·exact .inl ⟨h.1,h.2,O⟩
 ·exact .inr (.inl ⟨h.1,h.2,O⟩)
 exact .inr (.inr h)
theorem pat0_size (k:Int) (s:ByteArray) (a:Int):(Pa.mk k s 0 [] a).size=1:=by rw [Pa.size,Pa.sizes]
theorem ok_lex {n:Nat} (hn:n≤8) (a:Int):∀ r k (bd:List Txt),BdX bd n→BdY bd n→k+r<n→OkE bd (lexW r) (lexX a r k)
 | 0,k,bd,hx,hy,h=>ok_two hn hx hy a low_cmp (.inr (.inl rfl)) by11
 | r+1,k,bd,hx,hy,h=>by
  have h1:=ok_two hn hx hy a low_cmp (.inr (.inl rfl)) (i:=k) by11
  have h2:OkA bd (1+lexW r) (.mk (.mk 3 kEQ 0 [] a) (lexX a r (k+1))):=by
   have:=ok_alt (bd:=bd) (q:=.mk 3 kEQ 0 [] a) (pat0_gd (.inr (.inr ⟨rfl,up_EQ⟩))) (ok_lex hn a r (k+1) _ (fun i hi=>List.mem_append_left _ (hx i hi)) (fun i hi=>List.mem_append_left _ (hy i hi)) by11)
   rw [pat0_size] at this;exact this
  have h3:OkA bd (1+lexW r) (.mk (.mk 2 kR 0 [] a) (namE 3 kR a)):=by
   have:=ok_alt (bd:=bd) (q:=.mk 2 kR 0 [] a) (pat0_gd (.inr (.inl ⟨rfl,low_r⟩))) (ok_nam3 (a:=a) (s:=kR) (.inl low_r) (.inl (List.mem_append_right _ (by rw [Pa.names,if_pos rfl];simp))))
   rw [pat0_size] at this;exact this.up (by have:=lexW_pos r;omega)
  rw [lexX,lexW]
  refine (ok_cas h1 by12 (B:=1+lexW r) (fun x hx=>?_)).up (by simp only [List.length_cons,List.length_nil];omega)
  simp only [List.mem_cons,List.not_mem_nil,or_false] at hx
  rcases hx with rfl|rfl
  ·exact h2
  exact h3
theorem ok_order {bd:List Txt} {n:Nat} (hn:n≤8) (hx:BdX bd n) (hy:BdY bd n) (a:Int):OkE bd 5000 (orderX a n):=by
 unfold orderX
 split
 ·exact (ok_nam4 up_EQ).up by11
 exact (ok_lex hn a (n - 1) 0 bd hx hy by11).up (lexW_le _ by11)
theorem ok_hat {bd:List Txt} {A B:Nat} {x y:Ex} {a:Int} (hx:OkE bd A x) (hy:OkE bd B y):OkE bd (A+B+3) (hatE a x y) :=
 (ok_app (ok_app (ok_nam3 (.inr rfl) (.inr (.inr (.inr (.inr rfl))))) hx) hy).up by11
theorem asc_ahead {c:ByteArray} (hc:upP c) (j:Nat):ascP (aheadB c j):=by
 refine ⟨?_,fun d hd=>?_⟩
 ·have h1:=hc.1
  unfold aheadB
  split
  ·rw [ByteArray.size_append,ByteArray.size_append];show 1+c.size+1≤1000;omega
  decide
 unfold aheadB at hd
 split at hd
 ·rw [bytesN_app,bytesN_app] at hd
  simp only [List.mem_append] at hd
  rcases hd with (hd|hd)|hd
  ·rw [show bytesN ⟨#[40]⟩=[40] from rfl,List.mem_singleton] at hd;omega
  ·exact (up_asc hc).2 d hd
  rw [lit_bl,List.mem_singleton] at hd;omega
 rw [lit_bl,List.mem_singleton] at hd;omega
theorem asc_close:ascP ⟨#[41]⟩:=by
 refine ⟨by decide,fun d hd=>?_⟩
 rw [show bytesN ⟨#[41]⟩=[41] from rfl,List.mem_singleton] at hd
 omega
theorem ok_shW {bd:List Txt} {n:Nat} (hn:n≤8) (hx:BdX bd n) (a:Int) {c:ByteArray} (hc:upP c):∀ r j,j+r<n→OkE bd (11+10 * r) (shW a c j r)
 | 0,j,h=>(ok_hat (ok_nam2 (asc_ahead hc j)) (ok_hat (ok_app (ok_nam3 (.inl low_shw) (.inr (.inr (.inr (.inl rfl))))) (ok_nam3 (.inl (low_num (.inl rfl) by11)) (.inl (hx j by11)))) (ok_nam2 asc_close))).up by11
 | r+1,j,h=>(ok_hat (ok_nam2 (asc_ahead hc j)) (ok_hat (ok_app (ok_nam3 (.inl low_shw) (.inr (.inr (.inr (.inl rfl))))) (ok_nam3 (.inl (low_num (.inl rfl) by11)) (.inl (hx j by11)))) (ok_shW hn hx a hc r (j+1) by11))).up by11
theorem ok_show {bd:List Txt} {n:Nat} (hn:n≤8) (hx:BdX bd n) (a:Int) {c:ByteArray} (hc:upP c):OkE bd 5100 (showXX a c n):=by
 unfold showXX shV
 split
 ·exact (ok_nam2 (up_asc hc)).up by11
 split
 ·exact (ok_nam2 asc_close).up by11
 exact (ok_shW hn hx a hc (n - 1 - 0) 0 by11).up by11
theorem ok_eq {bd:List Txt} {n:Nat} (hn:n≤8) (hx:BdX bd n) (hky:kY∈bd) (a:Int) {c:ByteArray} (hc:upP c) (m:Nat):OkE bd 20000 (eqXX a c n m):=by
 have hq:=pat_gd a hc (.inr (.inr rfl)) hn
 have he:OkE (bd++(patX a c kY n).names) 60 (eqV a n 0):=by
  unfold eqV
  split
  ·exact (ok_nam4 up_true).up by11
  exact (ok_suf hn (fun i hi=>List.mem_append_left _ (hx i hi)) (fun i hi=>List.mem_append_right _ (pat_names a by9 hi)) a (n - 1 - 0) 0 by11).up by11
 have h1:OkA bd 100 (.mk (patX a c kY n) (eqV a n 0)):=(ok_alt hq he).up (by rw [pat_size];omega)
 unfold eqXX
 refine (ok_cas (B:=100) (ok_nam3 (.inl low_y) (.inl hky)) by12 (fun x hx=>?_)).up ?_
 ·rcases List.mem_cons.1 hx with rfl|hx
  ·exact h1
  split at hx
  ·rw [List.mem_singleton] at hx
   subst hx
   have:=ok_alt (bd:=bd) (q:=.mk 1 kE 0 [] a) (pat0_gd (.inl ⟨rfl,rfl⟩)) (ok_nam4 (a:=a) up_false)
   rw [pat0_size] at this
   exact this.up by11
  simp at hx
 split <;> simp only [List.length_cons,List.length_nil] <;> omega
def CnU (cs:List Cn):Prop:=cs≠[]∧cs.length≤6∧∀ c∈cs,upP c.s∧c.ts.length≤8
theorem alF_ne {f:Nat→Cn→Al} {cs:List Cn} (h:cs≠[]):alF f 0 cs≠[]:=fun q=>h (List.eq_nil_of_length_eq_zero (by have:=alF_len f cs 0;rw [q] at this;exact this.symm))
theorem ok_cmp {bd:List Txt} {cs:List Cn} (h:CnU cs) {i:Nat} {c:Cn} (hi:cs[i]?=some c) (hx:BdX bd c.ts.length) (hky:kY∈bd) (a:Int):OkE bd 100000 (cmpXX a i cs):=by
 unfold cmpXX
 refine (ok_cas (B:=6000) (ok_nam3 (.inl low_y) (.inl hky)) (alF_ne h.1) (fun x hx'=>?_)).up (by rw [alF_len];have:=h.2.1;omega)
 obtain ⟨j,d,hd,rfl⟩:=alF_mem hx'
 obtain ⟨hu,hn⟩:=h.2.2 d (Yg hd)
 rw [Nat.zero_add]
 unfold cmpA
 by_cases h1:j<i
 ·rw [if_pos h1];exact (ok_alt (pat_gd a hu (.inl rfl) hn) (ok_nam4 up_GT)).up (by rw [pat_size];omega)
 by_cases h2:j=i
 ·rw [if_neg h1,if_pos h2]
  subst h2
  obtain rfl:c=d:=Option.some.inj (hi.symm.trans hd)
  exact (ok_alt (pat_gd a hu (.inr (.inr O)) hn) (ok_order hn (fun k hk=>List.mem_append_left _ (hx k hk)) (fun k hk=>List.mem_append_right _ (pat_names a by9 hk)) a)).up (by rw [pat_size];omega)
 rw [if_neg h1,if_neg h2];exact (ok_alt (pat_gd a hu (.inl rfl) hn) (ok_nam4 up_LT)).up (by rw [pat_size];omega)
theorem ok_each {bd:List Txt} {cs:List Cn} (h:CnU cs) (a:Int) {F:Nat→Ex} (hkx:kX∈bd) (hF:∀ i c,cs[i]?=some c→∀ bd',(∀ s∈bd,s∈bd')→BdX bd' c.ts.length→OkE bd' 100000 (F i)):OkE bd 1000000 (eachX a F cs):=by
 unfold eachX
 refine (ok_cas (B:=100100) (ok_nam3 (.inl low_x) (.inl hkx)) (alF_ne h.1) (fun x hx'=>?_)).up (by rw [alF_len];have:=h.2.1;omega)
 obtain ⟨j,d,hd,rfl⟩:=alF_mem hx'
 obtain ⟨hu,hn⟩:=h.2.2 d (Yg hd)
 rw [Nat.zero_add]
 exact (ok_alt (pat_gd a hu (.inr (.inl O)) hn) (hF j d hd _ (fun s hs=>List.mem_append_left _ hs) (fun k hk=>List.mem_append_right _ (pat_names a by9 hk)))).up (by rw [pat_size];omega)
theorem bindX_ok {a:Int} {cs:List Cn} (h:CnU cs) {cl nm:ByteArray} {e:Ex} (hb:bindX a cs cl=some (nm,e)):OkE [] 2000000 e∧∃ n b,e=.mk 6 n 0 ty0 [b] [] [] a:=by
 have hx2:kX∈([kX]++[kY]:List Txt):=by simp
 have hy2:kY∈([kX]++[kY]:List Txt):=by simp
 unfold bindX at hb
 split at hb
 ·cases hb
  refine ⟨(ok_lam low_x (ok_lam low_y (ok_each h a hx2 (fun i c hc bd' hs hx=>?_)))).up by11,_,_,O⟩
  simp only [hc]
  obtain ⟨hu,hn⟩:=h.2.2 c (Yg hc)
  exact (ok_eq hn hx (hs _ hy2) a hu _).up by11
 split at hb
 ·cases hb
  refine ⟨(ok_lam low_x (ok_lam low_y (ok_each h a hx2 (fun i c hc bd' hs hx=>?_)))).up by11,_,_,O⟩
  exact ok_cmp h hc hx (hs _ hy2) a
 split at hb
 ·cases hb
  refine ⟨(ok_lam low_x (ok_each h a by12 (fun i c hc bd' hs hx=>?_))).up by11,_,_,O⟩
  simp only [hc]
  obtain ⟨hu,hn⟩:=h.2.2 c (Yg hc)
  exact (ok_show hn hx a hu).up by11
 simp at hb
theorem smP.cnu {d:Da} (h:smP d):CnU d.cs:=⟨h.dtg.ne,h.dtg.len,fun c hc=>⟨(h.1.2.2.2.2 c hc).1,h.2.2.2 c hc⟩⟩
open Go.RowKit
section
variable {P:Program} {o:Oper} {al:Sl} {M:Mem} {K:AV→Mem→Prop}
theorem op_index_glob {y:Operand} {t e:TypeId} {ik:IntKind} {len g k:Nat} {j:Int} (ho:o.op=.indexAddr t (.global g) y) (ht:P.underlying t=some (.array len e)) (hz:(P.info? e).map (·.size)=some 1) (hy:al.ev y=some (.val (.int ik j))) (hj:j=k) (hlt:k<len) (q:K (.val (.pointer (some ⟨g,k,none⟩))) M):OpT P o al M K :=
 OpT.plain fun n B F Mf ac w hi hs=>by
  obtain ⟨inf,hinf,hsz⟩:=Option.map_eq_some_iff.1 hz
  subst hj
  refine ⟨.pointer (some ⟨g,k,none⟩),_,?_,q,.val _⟩
  have hg:ac.eval (.global g)=.pointer (some ⟨g,0,none⟩):=rfl
  simp [execOp,ho,hg,Zn hs hy,Instr.indexAt,asIntOf,underlying,ht,sizeOf,typeInfo,hinf,hlt,hsz,addr_add0',Instr.sureAddr]
theorem op_load_fact {x:Operand} {t:TypeId} {g k i:Nat} {v:Value} {p:EH→Prop} (ho:o.op=.load t x) (ht:tyAgg P t=some none) (hx:al.ev x=some (.val (.pointer (some ⟨g,k,none⟩)))) (hm:M[i]?=some (.fact p)) (hp:∀ F,p F→F g k=some v) (q:K (.val v) M):OpT P o al M K :=
 OpT.plain fun n B F Mf ac w hi hs=>by
  have he:=Zn hs hx
  have hok:=hi.ok (.fact p) (List.mem_append_left _ (Yg hm))
  have hcell:=hi.fix _ _ _ (hp F (hok F (Ext.refl F)))
  refine ⟨v,_,?_,q,.val _⟩
  obtain ⟨a1,a2⟩:=tyAgg_none ht w
  simp [execOp,ho,he,Instr.loadAt,Instr.sureAddr,loadVar,a1,hcell]
end
def kidsL:List Int:=[-1,0,0,0,0,2,1,1,1,3,2,2,1]
def KidF (F:EH):Prop:=∀ i,i<13→F 0 i=some (.int .i64 (kidsL.getD i 0))
theorem utf_c (s:ByteArray) (ha:ascP s):PCall Tryd.prog 33 [.val (.string s)] (.val (.bool true)):=by
 have hs:=ha.1
 have HU:=fun i (h:i<s.size)=>Utf_c s by11 i h
 have hu:∀ i,i<s.size→utfL (rst s i)=1:=fun i h=>by
  obtain ⟨b,hb,e,_⟩:=rst_cons h
  have hlt:=ha.2 b.toNat (Yg (bytes_at hb))
  rw [e,utfL,if_pos hlt]
 refine Zc Tryd.func33 O (by kernel_rfl) O (Yc O) ?_
 refine QY ?_
 refine Q6 ?_
 apply Zu (rg [(1,16)]) (σ:=Nat) (fun zz=>match zz with|i=>[(3,.val (.int .i64 i))]) (fun zz=>match zz with|i=>i≤s.size) (fun zz=>match zz with|i=>s.size - i) (0)
 ·repeat' (first|exact Yf|apply Yd rfl|apply Ye rfl)
 ·exact Nat.zero_le _
 ·exact by6
 rintro i hI
 try dsimp only [List.cons_append,List.nil_append] at hI ⊢
 have hi:=hI
 refine QG ?_
 refine Qa ?_
 refine Qbn ?_
 refine QA ?_;intro c8 h8
 refine Qb ?_
 obtain ⟨rfl,g8⟩|⟨rfl,g8⟩:=Za h8
 ·refine Qao ?_
  exact Zf O O (Zy _) (Zw _) ⟨O,O⟩
 refine Qm ?_
 refine c_skip ?_
 refine Qe ?_
 refine QH ?_
 refine Qp ?_
 have HUi:=HU i by11
 rw [hu i by11] at HUi
 refine QaB ?_
 refine Zb 11 O O O (Zd (xs:=[.tmp 9,.tmp 10]) O O (HUi) by3 ?_)
 refine Qh ?_
 refine QG ?_
 refine Qi ?_;intro c13 h13
 refine Qb ?_
 obtain ⟨rfl,g13⟩|⟨rfl,g13⟩:=Za h13
 ·refine QC ?_
  refine Qe ?_
  refine Qc ?_
  refine Qa ?_
  refine Qa ?_
  refine QaD ?_
  refine Qab ?_
  refine Qs ?_
  refine Q0 ?_
  refine go_lp ?_
  exact ⟨i+1,by show i+1≤s.size;omega,by show s.size - (i+1)<s.size - i;omega,by6,by5⟩
 omega
theorem signs_hat:PCall Tryd.prog 54 [.val (.string kHat)] (.val (.bool true)):=by
 have HS:=(sign_c 94).yes by10
 have hz:kHat.size=1:=rfl
 refine Zc Tryd.func54 O (by kernel_rfl) O (Yc O) ?_
 refine QY ?_
 refine Q6 ?_
 apply Zu (rg [(1,14)]) (σ:=Nat) (fun zz=>match zz with|i=>[(3,.val (.int .i64 i))]) (fun zz=>match zz with|i=>i≤1) (fun zz=>match zz with|i=>1 - i) (0)
 ·repeat' (first|exact Yf|apply Yd rfl|apply Ye rfl)
 ·exact Nat.zero_le _
 ·exact by6
 rintro i hI
 try dsimp only [List.cons_append,List.nil_append] at hI ⊢
 have hi:=hI
 refine QG ?_
 refine Qa ?_
 refine Qbn ?_
 refine QA ?_;intro c7 h7
 refine Qb ?_
 obtain ⟨rfl,g7⟩|⟨rfl,g7⟩:=Za h7
 ·refine Qao ?_
  exact Zf O O (Zy _) (Zw _) ⟨O,O⟩
 refine Qt ?_
 obtain rfl:i=0:=by omega
 refine QaB ?_
 refine Zb 12 O O O (op_index_str (i:=0) O tu_9 O O (by first|rfl|omega) ((show kHat[0]?=some 94 from O)) ?_)
 refine Zb 13 O O O (Zd (xs:=[.tmp 12]) O O (HS) by3 ?_)
 refine QV ?_;intro c14 h14
 try replace h14:=nott h14 h13
 refine Qb ?_
 obtain ⟨rfl,g14⟩|⟨rfl,g14⟩:=Za h14
 ·refine Qah ?_
  exact ⟨0+1,by show 0+1≤1;omega,by show 1 - (0+1)<1 - 0;omega,by6,by5⟩
 refine Qag ?_
 exact absurd g14 by12
theorem IsOp_hat:PCall Tryd.prog 49 [.val (.string kHat)] (.val (.bool true)):=by
 have HS:=signs_hat
 have HM:=Mark_c kHat
 have hm:¬ markT kHat=true:=by decide +kernel
 have hz:kHat.size=1:=rfl
 have hne:kHat≠kE:=by decide +kernel
 refine Zc Tryd.func49 O (by kernel_rfl) O (Yc O) ?_
 refine QY ?_
 refine Zp 2 (True) ?_ _ _ O ?_
 ·skip
  refine Qa ?_
  refine QaL ?_;intro c4 h4
  refine Qa ?_
  obtain ⟨rfl,g4⟩|⟨rfl,g4⟩:=Za h4
  ·skip
   refine QE ?_
   refine QO ?_
   refine Qam ?_
   refine Qn ?_
   refine Yb O ?_ by7 by5
   clear HS HM;first|(simp_all;done)|(simp_all;omega)|grind
  skip
  refine Qf ?_
  refine Qbo ?_
  refine QaO ?_;intro c8 h8
  refine Qq ?_
  obtain ⟨rfl,g8⟩|⟨rfl,g8⟩:=Za h8
  ·skip
   refine QO ?_
   refine Qam ?_
   refine Qn ?_
   refine Yb O ?_ by7 by5
   clear HS HM;first|(simp_all;done)|(simp_all;omega)|grind
  skip
  refine Qf ?_
  refine Zh 12 O O O O O (Zd (xs:=[.tmp 11]) O O (HS) by3 ?_)
  refine Qq ?_
  refine Qf ?_
  refine Zh 16 O O O O O (Zj (xs:=[.tmp 15]) O O (HM) by3 ?_);intro c16 h16
  refine QaY ?_;intro c17 h17
  try replace h17:=nott h17 h16
  refine Qn ?_
  refine Yb O ?_ by7 by5
  clear HS HM;first|(simp_all;done)|(simp_all;omega)|grind
 intro c2 h2
 refine Qw ?_
 obtain rfl:c2=true:=h2.2 trivial
 exact Zf O O (Zy _) (Zw _) ⟨O,O⟩
theorem goodName_c (s:ByteArray) (h:lowP s∨s=kHat):PCall Tryd.prog 34 [.val (.string s)] (.val (.bool true)):=by
 have HL:=IsLow_c s
 have HO:s=kHat→PCall Tryd.prog 49 [.val (.string s)] (.val (.bool true)):=fun e=>by rw [e];exact IsOp_hat
 refine Zc Tryd.func34 O (by kernel_rfl) O (Yc O) ?_
 refine QY ?_
 refine Zp 2 (True) ?_ _ _ O ?_
 ·skip
  refine Qa ?_
  refine Zb 4 O O O (Zj (xs:=[.tmp 3]) O O (HL) by3 ?_);intro c4 h4
  refine Qa ?_
  obtain ⟨rfl,g4⟩|⟨rfl,g4⟩:=Za h4
  ·skip
   refine Qf ?_
   refine Zh 7 O O O O O (Zd (xs:=[.tmp 6]) O O ((HO (h.resolve_left g4))) by3 ?_)
   refine Qn ?_
   refine Yb O ?_ by7 by5
   clear HL HO;first|(simp_all;done)|grind
  skip
  refine QD ?_
  refine Yb O ?_ by7 by5
  clear HL HO;first|(simp_all;done)|grind
 intro c2 h2
 refine Qw ?_
 obtain rfl:c2=true:=h2.2 trivial
 exact Zf O O (Zy _) (Zw _) ⟨O,O⟩
theorem GoodPat_c (p:Pa):p.gd→PCall Tryd.prog 19 [.agg p.cells] (.val (.bool true)):=by
 obtain ⟨pk,ps,pn,ks,pp⟩:=p
 intro hp
 rw [Pa.gd,Pa.gds_iff] at hp
 obtain ⟨hn,hk,hc⟩:=hp
 have IH:∀ x∈ks,PCall Tryd.prog 19 [.agg x.cells] (.val (.bool true)):=fun x hx=>GoodPat_c x (hk x hx)
 have HU:=IsUp_c ps
 have HL:=IsLow_c ps
 have hl:=Pa.cellss_len ks
 clear hk
 refine Zc Tryd.func19 O (by kernel_rfl) O (Yc O) ?_
 refine Qu ?_
 refine c_lena (t:=0) (j:=3) O O (.seq _ _) (fun hmax=>?_)
 refine Qd ?_
 refine QaX ?_
 refine QZ ?_
 refine Q6 ?_
 apply Zu (rg [(0,1),(2,16)]) (σ:=Nat) (fun zz=>match zz with|i=>[(3,.val (.int .i64 i))]) (fun zz=>match zz with|i=>i≤ks.length) (fun zz=>match zz with|i=>ks.length - i) (0)
 ·repeat' (first|exact Yf|apply Yd rfl|apply Ye rfl)
 ·exact Nat.zero_le _
 ·exact by6
 rintro i hI
 try dsimp only [List.cons_append,List.nil_append] at hI ⊢
 have hi:=hI
 refine QG ?_
 refine Qg ?_
 refine Qbr ?_;intro n7
 refine QA ?_;intro c8 h8
 refine Qb ?_
 obtain ⟨rfl,g8⟩|⟨rfl,g8⟩:=Za h8
 ·refine QT ?_
  refine Qv ?_
  refine Qi ?_;intro c20 h20
  refine Qb ?_
  obtain ⟨rfl,g20⟩|⟨rfl,g20⟩:=Za h20
  ·refine Qaa ?_
   refine Qbr ?_;intro n31
   refine Qa8 ?_;intro c32 h32
   refine Qb ?_
   obtain ⟨rfl,g32⟩|⟨rfl,g32⟩:=Za h32
   ·refine Qaa ?_
    refine Qi ?_;intro c35 h35
    refine Qb ?_
    obtain ⟨rfl,g35⟩|⟨rfl,g35⟩:=Za h35
    ·refine Qaa ?_
     refine Qi ?_;intro c46 h46
     refine Qb ?_
     obtain ⟨rfl,g46⟩|⟨rfl,g46⟩:=Za h46
     ·rcases hc with hc|hc|hc <;> omega
     refine Qag ?_
     refine Zp 2 (True) ?_ _ _ O ?_
     ·skip
      refine Qg ?_
      refine Zb 49 O O O (Zj (xs:=[.tmp 48]) O O (HL) by3 ?_);intro c49 h49
      refine Qa ?_
      obtain ⟨rfl,g49⟩|⟨rfl,g49⟩:=Za h49
      ·skip
       refine Qam ?_
       refine Qn ?_
       refine Yb O ?_ by7 by5
       clear HU HL IH;rcases hc with hc|hc|hc <;> first|(simp_all;done)|(simp_all;omega)|(exfalso;omega)|grind
      skip
      refine Qo ?_
      refine QS ?_;intro c53 h53
      refine Qn ?_
      refine Yb O ?_ by7 by5
      clear HU HL IH;rcases hc with hc|hc|hc <;> first|(simp_all;done)|(simp_all;omega)|(exfalso;omega)|grind
     intro c2 h2
     refine Qw ?_
     obtain rfl:c2=true:=h2.2 trivial
     exact Zf O O (Zy _) (Zw _) ⟨O,O⟩
    refine Qag ?_
    refine Zp 2 (True) ?_ _ _ O ?_
    ·skip
     refine Qg ?_
     refine QaN ?_;intro c38 h38
     refine Qa ?_
     obtain ⟨rfl,g38⟩|⟨rfl,g38⟩:=Za h38
     ·skip
      refine Qam ?_
      refine Qn ?_
      refine Yb O ?_ by7 by5
      clear HU HL IH;rcases hc with hc|hc|hc <;> first|(simp_all;done)|(simp_all;omega)|(exfalso;omega)|grind
     skip
     refine Qo ?_
     refine QS ?_;intro c42 h42
     refine Qn ?_
     refine Yb O ?_ by7 by5
     clear HU HL IH;rcases hc with hc|hc|hc <;> first|(simp_all;done)|(simp_all;omega)|(exfalso;omega)|grind
    intro c2 h2
    refine Qw ?_
    obtain rfl:c2=true:=h2.2 trivial
    exact Zf O O (Zy _) (Zw _) ⟨O,O⟩
   rcases hc with hc|hc|hc <;> omega
  refine Qag ?_
  refine Zp 2 (True) ?_ _ _ O ?_
  ·skip
   refine Qg ?_
   refine Zb 23 O O O (Zj (xs:=[.tmp 22]) O O (HU) by3 ?_);intro c23 h23
   refine Qa ?_
   obtain ⟨rfl,g23⟩|⟨rfl,g23⟩:=Za h23
   ·skip
    refine Qam ?_
    refine Qn ?_
    refine Yb O ?_ by7 by5
    clear HU HL IH;rcases hc with hc|hc|hc <;> first|(simp_all;done)|(simp_all;omega)|(exfalso;omega)|grind
   skip
   refine Qo ?_
   refine QS ?_;intro c27 h27
   refine Qn ?_
   refine Yb O ?_ by7 by5
   clear HU HL IH;rcases hc with hc|hc|hc <;> first|(simp_all;done)|(simp_all;omega)|(exfalso;omega)|grind
  intro c2 h2
  refine Qw ?_
  obtain rfl:c2=true:=h2.2 trivial
  exact Zf O O (Zy _) (Zw _) ⟨O,O⟩
 refine Qt ?_
 obtain ⟨⟨qk,qs,qn,ql,qp⟩,hxq⟩:=Zm (l:=ks) (i:=i) by8
 have hcq:=Pa.cellss_get hxq
 have hmq:=Yg hxq
 have HPq:=IH _ hmq
 refine Qc ?_
 refine Qaf ?_
 refine Zb 14 O O O (Zl O te_48 O (.seq _ _) O O (hcq) ?_)
 refine Qbs ?_
 refine Zb 16 O O O (Zd (xs:=[.tmp 15]) O O (HPq) by3 ?_)
 refine QV ?_;intro c17 h17
 try replace h17:=nott h17 h16
 refine Qb ?_
 obtain ⟨rfl,g17⟩|⟨rfl,g17⟩:=Za h17
 ·refine Qah ?_
  exact ⟨i+1,by show i+1≤ks.length;omega,by show ks.length - (i+1)<ks.length - i;omega,by6,by5⟩
 refine Qag ?_
 exact absurd g17 by12
termination_by SizeOf.sizeOf p
decreasing_by exact Pa.lt_kid hx
theorem GoodBinds_nil:PCall Tryd.prog 17 [.seq 13 (Bi.cellss [])] (.val (.bool true)):=by
 have hl:(Bi.cellss []).length=0:=rfl
 refine Zc Tryd.func17 O (by kernel_rfl) O (Yc O) ?_
 refine QY ?_
 refine Q6 ?_
 apply Zu (rg [(1,25)]) (σ:=Nat) (fun zz=>match zz with|i=>[(3,.val (.int .i64 i))]) (fun zz=>match zz with|i=>True) (fun zz=>match zz with|i=>0) (0)
 ·repeat' (first|exact Yf|apply Yd rfl|apply Ye rfl)
 ·exact trivial
 ·exact by6
 rintro i hI
 try dsimp only [List.cons_append,List.nil_append] at hI ⊢
 refine QG ?_
 refine Qa ?_
 refine Qbt ?_;intro n6
 refine QA ?_;intro c7 h7
 refine Qb ?_
 obtain ⟨rfl,g7⟩|⟨rfl,g7⟩:=Za h7
 ·refine Qao ?_
  exact Zf O O (Zy _) (Zw _) ⟨O,O⟩
 omega
def kindP (k:Int) (s:ByteArray) (nk na:Nat):Prop:=(k=2∧ascP s∧nk=0∧na=0)∨(k=3∧(lowP s∨s=kHat)∧nk=0∧na=0)∨(k=4∧upP s∧nk=0∧na=0)∨(k=5∧s=kE∧nk=2∧na=0)∨(k=6∧lowP s∧nk=1∧na=0)∨(k=8∧s=kE∧nk=1∧na≠0)∨(k=10∧s=kE∧nk=2∧na=0)
theorem own07_c (k:Int) (s:ByteArray) (t:Ty) (ks:List Ex) (al:List Al) (bs:List Bi) (p:Int) (h:kindP k s ks.length al.length):PCall Tryd.prog 16 [.agg (Ex.mk k s 0 t ks al bs p).cells] (.val (.bool true)):=by
 have h1:k≠1:=by rcases h with h|h|h|h|h|h|h <;> omega
 have h7:k≠7:=by rcases h with h|h|h|h|h|h|h <;> omega
 have H2:k=2→PCall Tryd.prog 33 [.val (.string s)] (.val (.bool true)):=fun e=>utf_c s (by
  rcases h with h|h|h|h|h|h|h
  ·exact h.2.1
  all_goals (exfalso;omega))
 have H3:k=3→PCall Tryd.prog 34 [.val (.string s)] (.val (.bool true)):=fun e=>goodName_c s (by
  rcases h with h|h|h|h|h|h|h
  ·exfalso;omega
  ·exact h.2.1
  all_goals (exfalso;omega))
 have H4:k=4→PCall Tryd.prog 21 [.val (.string s)] (.val (.bool true)):=fun e=>(IsUp_c s).yes (by
  rcases h with h|h|h|h|h|h|h
  ·exfalso;omega
  ·exfalso;omega
  ·exact h.2.1
  all_goals (exfalso;omega))
 have H6:k=6→PCall Tryd.prog 23 [.val (.string s)] (.val (.bool true)):=fun e=>(IsLow_c s).yes (by
  rcases h with h|h|h|h|h|h|h
  ·exfalso;omega
  ·exfalso;omega
  ·exfalso;omega
  ·exfalso;omega
  ·exact h.2.1
  all_goals (exfalso;omega))
 have HE:k≠2→k≠3→k≠4→k≠6→s=kE:=fun a b c d=>by
  rcases h with h|h|h|h|h|h|h
  ·exact absurd h.1 a
  ·exact absurd h.1 b
  ·exact absurd h.1 c
  ·exact h.2.1
  ·exact absurd h.1 d
  ·exact h.2.1
  exact h.2.1
 clear h
 obtain ⟨tk,ts,tn,tl⟩:=t
 refine Zc Tryd.func16 O (by kernel_rfl) O (Yc O) ?_
 refine Q8 ?_
 refine QaU ?_
 refine QZ ?_
 refine Qv ?_
 refine Qi ?_;intro c5 h5
 refine Qb ?_
 obtain ⟨rfl,g5⟩|⟨rfl,g5⟩:=Za h5
 ·refine Qaa ?_
  refine Qi ?_;intro c21 h21
  refine Qb ?_
  obtain ⟨rfl,g21⟩|⟨rfl,g21⟩:=Za h21
  ·refine Qaa ?_
   refine Qba ?_;intro c37 h37
   refine Qb ?_
   obtain ⟨rfl,g37⟩|⟨rfl,g37⟩:=Za h37
   ·refine Qaa ?_
    refine Qi ?_;intro c40 h40
    refine Qb ?_
    obtain ⟨rfl,g40⟩|⟨rfl,g40⟩:=Za h40
    ·refine Qaa ?_
     refine Qi ?_;intro c46 h46
     refine Qb ?_
     obtain ⟨rfl,g46⟩|⟨rfl,g46⟩:=Za h46
     ·refine Qaa ?_
      refine Qi ?_;intro c52 h52
      refine Qb ?_
      obtain ⟨rfl,g52⟩|⟨rfl,g52⟩:=Za h52
      ·refine Qaa ?_
       refine Qi ?_;intro c58 h58
       refine Qb ?_
       obtain ⟨rfl,g58⟩|⟨rfl,g58⟩:=Za h58
       ·refine QC ?_
        refine Qe ?_
        refine Qv ?_
        refine QaN ?_;intro c64 h64
        refine QJ ?_
        obtain rfl:c64=true:=h64.2 (HE g40 g46 g52 g58)
        exact Zf O O (Zy _) (Zw _) ⟨O,O⟩
       refine Qm ?_
       refine Qv ?_
       refine Zb 61 O O O (Zd (xs:=[.tmp 60]) O O ((H6 g58)) by3 ?_)
       refine QJ ?_
       exact Zf O O (Zy _) (Zw _) ⟨O,O⟩
      refine Qm ?_
      refine Qv ?_
      refine Zb 55 O O O (Zd (xs:=[.tmp 54]) O O ((H4 g52)) by3 ?_)
      refine QJ ?_
      exact Zf O O (Zy _) (Zw _) ⟨O,O⟩
     refine Qm ?_
     refine Qv ?_
     refine Zb 49 O O O (Zd (xs:=[.tmp 48]) O O ((H3 g46)) by3 ?_)
     refine QJ ?_
     exact Zf O O (Zy _) (Zw _) ⟨O,O⟩
    refine Qm ?_
    refine Qv ?_
    refine Zb 43 O O O (Zd (xs:=[.tmp 42]) O O ((H2 g40)) by3 ?_)
    refine QJ ?_
    exact Zf O O (Zy _) (Zw _) ⟨O,O⟩
   exact absurd O g37
  exact absurd g21 h7
 exact absurd g5 h1
theorem kind_kids {k:Int} {s:ByteArray} {nk na:Nat} (h:kindP k s nk na):∃ kk:Nat,k=kk∧1≤kk∧kk≤12∧kidsL.getD kk 0=(nk:Int)∧kk≠7∧kk≠12∧(kk=8↔na≠0):=by
 rcases h with ⟨rfl,_,rfl,h⟩|⟨rfl,_,rfl,h⟩|⟨rfl,_,rfl,h⟩|⟨rfl,_,rfl,h⟩|⟨rfl,_,rfl,h⟩|⟨rfl,_,rfl,h⟩|⟨rfl,_,rfl,h⟩
 ·exact ⟨2,O,by decide,by decide,O,by decide,by decide,by omega⟩
 ·exact ⟨3,O,by decide,by decide,O,by decide,by decide,by omega⟩
 ·exact ⟨4,O,by decide,by decide,O,by decide,by decide,by omega⟩
 ·exact ⟨5,O,by decide,by decide,O,by decide,by decide,by omega⟩
 ·exact ⟨6,O,by decide,by decide,O,by decide,by decide,by omega⟩
 ·exact ⟨8,O,by decide,by decide,O,by decide,by decide,by omega⟩
 exact ⟨10,O,by decide,by decide,O,by decide,by decide,by omega⟩
theorem Good_c (e:Ex):e.gd→KCall Tryd.prog 7 [.agg e.cells] [.fact KidF] (.val (.bool true)):=by
 obtain ⟨k,s,n,⟨tk,ts,tn,tl⟩,ks,al,bs,p⟩:=e
 intro hg
 rw [Ex.gd,Ex.gds_iff,Al.gds_iff] at hg
 obtain ⟨ht,hb,hn,hk,ha,hK⟩:=hg
 replace hK:kindP k s ks.length al.length:=hK
 have IHK:∀ x∈ks,KCall Tryd.prog 7 [.agg x.cells] [.fact KidF] (.val (.bool true)):=fun x hx=>Good_c x (hk x hx)
 have IHA:∀ q y,Al.mk q y∈al→KCall Tryd.prog 7 [.agg y.cells] [.fact KidF] (.val (.bool true)):=fun q y hx=>by
  have h:=ha _ hx
  rw [Al.gd] at h
  have hlt:SizeOf.sizeOf y<SizeOf.sizeOf (Ex.mk k s n ⟨tk,ts,tn,tl⟩ ks al bs p):=Nat.lt_trans (Al.lt_e (.mk q y)) (Ex.lt_alt hx)
  exact Good_c y h.2
 have HQ:∀ q y,Al.mk q y∈al→PCall Tryd.prog 19 [.agg q.cells] (.val (.bool true)):=fun q y hx=>by
  have h:=ha _ hx
  rw [Al.gd] at h
  exact GoodPat_c q h.1
 obtain ⟨rfl,rfl,rfl,rfl⟩:=Ty.mk.inj ht
 subst hb hn
 have HO:=own07_c k s ⟨0,kE,0,[]⟩ ks al [] p hK
 have HB:=GoodBinds_nil
 obtain ⟨kk,rfl,k1,k2,k3,k4,k5,k6⟩:=kind_kids hK
 have hF:∀ F,KidF F→F 0 kk=some (.int .i64 (ks.length:Int)):=fun F h=>by rw [h kk by11,k3]
 have hlk:=Ex.cellss_len ks
 have hla:=Al.cellss_len al
 have hlb:(Bi.cellss []).length=0:=rfl
 have hlt0:(Ty.cellss []).length=0:=rfl
 clear hk ha hK k3
 refine Zc Tryd.func7 O (by kernel_rfl) O (Yc O) ?_
 refine Qu ?_
 refine c_lena (t:=0) (j:=7) O O (.seq _ _) (fun hmax=>?_)
 refine c_lena (t:=0) (j:=8) O O (.seq _ _) (fun hmax2=>?_)
 refine Qd ?_
 refine QaU ?_
 refine QZ ?_
 refine Qp ?_
 refine c_boold 27 (False) tmix O ?_ _ _ O ?_
 ·skip
  refine DOps.st 5 O O (op_fieldAddr_c O tf_41_0 O O ⟨O,O⟩) ?_
  refine DOps.st 6 O O (op_load_c1 O ta_3 O O ⟨O,O⟩) ?_
  refine DOps.cm 7 O O (fun _ q=>op_lss O O O q) ?_;intro c7 h7
  refine Qat ?_
  obtain ⟨rfl,g7⟩|⟨rfl,g7⟩:=Za h7
  ·skip
   refine Qbc ?_
   refine QaT ?_
   refine DOps.gtc 11 O O O O (fun _ q=>op_gtr O O O q) ?_;intro c11 h11
   refine Q2 ?_
   refine Qat ?_
   obtain ⟨rfl,g11⟩|⟨rfl,g11⟩:=Za h11
   ·skip
    refine Qbc ?_
    refine QaT ?_
    refine DOps.gt 16 O O O O (op_len O tu_38 O (.seq _ _) (fun _=>⟨O,O⟩)) ?_
    refine Qbc ?_
    refine QaT ?_
    refine DOps.gt 19 O O O O (op_index_glob (k:=kk) O tu_60 ts_3 O (by first|rfl|omega) by11 ⟨O,O⟩) ?_
    refine DOps.gt 20 O O O O (op_load_fact (i:=0) (v:=.int .i64 (ks.length:Int)) O ta_3 O O (hF) ⟨O,O⟩) ?_
    refine DOps.gtc 21 O O O O (fun _ q=>op_neq O O O q) ?_;intro c21 h21
    refine Q2 ?_
    refine Qat ?_
    obtain ⟨rfl,g21⟩|⟨rfl,g21⟩:=Za h21
    ·skip
     refine DOps.gt 24 O O O O (op_load_c (cs':=[_,_,_,_,_,_,_,_,_,_,_]) O ta_41 O O O ⟨O,O⟩) ?_
     refine DOps.gt 25 O O O O (Zd (xs:=[.tmp 24]) O O (HO) by3 ⟨O,O⟩) ?_
     refine DOps.gtc 26 O O O O (fun _ q=>op_notc O O q) ?_;intro c26 h26
     try replace h26:=nott h26 h25
     refine Q2 ?_
     show BoolQ _ _ _ _ _ _
     refine Yb O ?_ by7 by5
     clear IHK IHA HQ HO HB hF;first|(simp_all;done)|(simp_all;omega)|omega
    skip
    refine QP ?_
    refine QP ?_
    refine QP ?_
    refine Q2 ?_
    show BoolQ _ _ _ _ _ _
    refine Yb O ?_ by7 by5
    clear IHK IHA HQ HO HB hF;first|(simp_all;done)|(simp_all;omega)|omega
   skip
   refine Qaq ?_
   refine Qaq ?_
   refine Q2 ?_
   refine Qat ?_
   refine QP ?_
   refine QP ?_
   refine QP ?_
   refine Q2 ?_
   show BoolQ _ _ _ _ _ _
   refine Yb O ?_ by7 by5
   clear IHK IHA HQ HO HB hF;first|(simp_all;done)|(simp_all;omega)|omega
  skip
  refine QP ?_
  refine QP ?_
  refine QP ?_
  refine Q2 ?_
  refine Qat ?_
  refine Qaq ?_
  refine Qaq ?_
  refine Q2 ?_
  refine Qat ?_
  refine QP ?_
  refine QP ?_
  refine QP ?_
  refine Q2 ?_
  show BoolQ _ _ _ _ _ _
  refine Yb O ?_ by7 by5
  clear IHK IHA HQ HO HB hF;first|(simp_all;done)|(simp_all;omega)|omega
 intro c27 h27
 refine Qe ?_
 obtain ⟨rfl,g27⟩|⟨rfl,g27⟩:=Za h27
 ·refine Q4 ?_
  refine Qp ?_
  refine Zp 51 (False) ?_ _ _ O ?_
  ·skip
   refine Qg ?_
   refine Qi ?_;intro c30 h30
   refine Qg ?_
   refine Qbt ?_;intro n33
   refine Qa8 ?_;intro c34 h34
   refine Zb 35 O O O (op_bneqc O tu_4 O O ?_);intro c35 h35
   refine Qa ?_
   obtain ⟨rfl,g35⟩|⟨rfl,g35⟩:=Za h35
   ·skip
    refine Qo ?_
    refine QS ?_;intro c39 h39
    refine Qo ?_
    refine QbH ?_;intro n42
    refine QaP ?_;intro c43 h43
    refine Zh 44 O O O O O (op_bneqc O tu_4 O O ?_);intro c44 h44
    refine Qq ?_
    obtain ⟨rfl,g44⟩|⟨rfl,g44⟩:=Za h44
    ·skip
     refine Qo ?_
     refine Zh 49 O O O O O (Zd (xs:=[.tmp 48]) O O (HB) by3 ?_)
     refine QaY ?_;intro c50 h50
     try replace h50:=nott h50 h49
     refine Qk ?_
     refine Yb O ?_ by7 by5
     clear IHK IHA HQ HO HB hF;first|(simp_all;done)|(simp_all;omega)|grind
    skip
    refine Qj ?_
    refine Qk ?_
    refine Yb O ?_ by7 by5
    clear IHK IHA HQ HO HB hF;first|(simp_all;done)|(simp_all;omega)|grind
   skip
   refine Q7 ?_
   refine QaC ?_
   refine Qk ?_
   refine Yb O ?_ by7 by5
   clear IHK IHA HQ HO HB hF;first|(simp_all;done)|(simp_all;omega)|grind
  intro c51 h51
  refine Qe ?_
  obtain ⟨rfl,g51⟩|⟨rfl,g51⟩:=Za h51
  ·refine Q4 ?_
   refine Qp ?_
   refine Zp 90 (False) ?_ _ _ O ?_
   ·skip
    refine Qg ?_
    refine Qi ?_;intro c54 h54
    refine Qa ?_
    obtain ⟨rfl,g54⟩|⟨rfl,g54⟩:=Za h54
    ·skip
     refine Qj ?_
     refine Qq ?_
     refine Qo ?_
     refine QaS ?_;intro c64 h64
     refine Qf ?_
     obtain ⟨rfl,g64⟩|⟨rfl,g64⟩:=Za h64
     ·skip
      refine Qj ?_
      refine QL ?_
      refine QN ?_
      refine QN ?_
      refine Qac ?_
      refine QN ?_
      refine QN ?_
      refine Qac ?_
      refine QN ?_
      refine QN ?_
      refine Qbe ?_
      refine QL ?_
      refine Qx ?_
      refine Qk ?_
      refine Yb O ?_ by7 by5
      clear IHK IHA HQ HO HB hF;first|(simp_all;done)|(simp_all;omega)|grind
     skip
     refine QaH ?_
     refine Qo ?_
     refine QaS ?_;intro c69 h69
     refine Qf ?_
     obtain ⟨rfl,g69⟩|⟨rfl,g69⟩:=Za h69
     ·skip
      refine QaH ?_
      refine Qo ?_
      refine QaR ?_;intro c74 h74
      refine Qx ?_
      refine Qf ?_
      obtain ⟨rfl,g74⟩|⟨rfl,g74⟩:=Za h74
      ·skip
       refine QaH ?_
       refine Qo ?_
       refine QaS ?_;intro c80 h80
       refine Qx ?_
       refine Qf ?_
       obtain ⟨rfl,g80⟩|⟨rfl,g80⟩:=Za h80
       ·skip
        refine QaH ?_
        refine Qo ?_
        refine Qbp ?_;intro n86
        refine QaP ?_;intro c87 h87
        refine Qx ?_
        refine Qx ?_
        refine Qk ?_
        refine Yb O ?_ by7 by5
        clear IHK IHA HQ HO HB hF;first|(simp_all;done)|(simp_all;omega)|grind
       skip
       refine Qj ?_
       refine QL ?_
       refine Qx ?_
       refine Qx ?_
       refine Qk ?_
       refine Yb O ?_ by7 by5
       clear IHK IHA HQ HO HB hF;first|(simp_all;done)|(simp_all;omega)|grind
      skip
      refine Qj ?_
      refine Qx ?_
      refine Qf ?_
      refine Qj ?_
      refine QL ?_
      refine Qx ?_
      refine Qx ?_
      refine Qk ?_
      refine Yb O ?_ by7 by5
      clear IHK IHA HQ HO HB hF;first|(simp_all;done)|(simp_all;omega)|grind
     skip
     refine Qj ?_
     refine Qx ?_
     refine Qf ?_
     refine Qj ?_
     refine Qx ?_
     refine Qf ?_
     refine Qj ?_
     refine QL ?_
     refine Qx ?_
     refine Qx ?_
     refine Qk ?_
     refine Yb O ?_ by7 by5
     clear IHK IHA HQ HO HB hF;first|(simp_all;done)|(simp_all;omega)|grind
    exfalso;omega
   intro c90 h90
   refine Qe ?_
   obtain ⟨rfl,g90⟩|⟨rfl,g90⟩:=Za h90
   ·refine Q4 ?_
    refine Q6 ?_
    apply Zu (rg [(0,1),(2,2),(5,100)]) (σ:=Nat) (fun zz=>match zz with|i=>[(3,.val (.int .i64 i))]) (fun zz=>match zz with|i=>i≤ks.length) (fun zz=>match zz with|i=>ks.length - i) (0)
    ·repeat' (first|exact Yf|apply Yd rfl|apply Ye rfl)
    ·exact Nat.zero_le _
    ·exact by6
    rintro i hI
    try dsimp only [List.cons_append,List.nil_append] at hI ⊢
    have hi:=hI
    refine QG ?_
    refine Qg ?_
    refine Qa0 ?_;intro n94
    refine QA ?_;intro c95 h95
    refine Qb ?_
    obtain ⟨rfl,g95⟩|⟨rfl,g95⟩:=Za h95
    ·refine QT ?_
     refine Q6 ?_
     apply Zu (rg [(0,1),(2,128)]) (σ:=Nat) (fun zz=>match zz with|j=>[(4,.val (.int .i64 j))]) (fun zz=>match zz with|j=>j≤al.length) (fun zz=>match zz with|j=>al.length - j) (0)
     ·repeat' (first|exact Yf|apply Yd rfl|apply Ye rfl)
     ·exact Nat.zero_le _
     ·exact by6
     rintro j hI
     try dsimp only [List.cons_append,List.nil_append] at hI ⊢
     have hj:=hI
     refine QG ?_
     refine Qg ?_
     refine Zb 108 O O O (op_len O tu_39 O (.seq _ _) (fun n108=>?_))
     refine QA ?_;intro c109 h109
     refine Qb ?_
     obtain ⟨rfl,g109⟩|⟨rfl,g109⟩:=Za h109
     ·refine Qao ?_
      exact Zf O O (Zy _) (Zv _) ⟨O,O⟩
     refine Qt ?_
     obtain ⟨⟨⟨zqk,zqs,zqn,zql,zqp⟩,⟨zk,zs,zn,⟨ztk,zts,ztn,ztl⟩,zks,zal,zbs,zp⟩⟩,hxz⟩:=Zm (l:=al) (i:=j) by8
     have hcz:=Al.cellss_get hxz
     have hmz:=Yg hxz
     have HPz:=HQ _ _ hmz
     have HEz:=IHA _ _ hmz
     refine Zp 129 (False) ?_ _ _ O ?_
     ·skip
      refine Qaf ?_
      refine Zb 115 O O O (Zl O te_39 O (.seq _ _) O O (hcz) ?_)
      refine Qar ?_
      refine Qbs ?_
      refine Zb 118 O O O (Zd (xs:=[.tmp 117]) O O (HPz) by3 ?_)
      refine QV ?_;intro c119 h119
      try replace h119:=nott h119 h118
      refine Qa ?_
      obtain ⟨rfl,g119⟩|⟨rfl,g119⟩:=Za h119
      ·skip
       refine Qo ?_
       refine Qf ?_
       refine Zh 124 O O O O O (Zl O te_39 O (.seq _ _) O O (hcz) ?_)
       refine QaH ?_
       refine Qbu ?_
       refine Zh 127 O O O O O (op_callk (xs:=[.tmp 126]) [0] O O O (HEz) by3 ?_)
       refine QaY ?_;intro c128 h128
       try replace h128:=nott h128 h127
       refine Qk ?_
       refine Yb O ?_ by7 by5
       clear IHK IHA HQ HO HB hF HPz HEz;first|(simp_all;done)|(simp_all;omega)|grind
      skip
      refine Q7 ?_
      refine Qk ?_
      refine Yb O ?_ by7 by5
      clear IHK IHA HQ HO HB hF HPz HEz;first|(simp_all;done)|(simp_all;omega)|grind
     intro c129 h129
     refine Qe ?_
     obtain ⟨rfl,g129⟩|⟨rfl,g129⟩:=Za h129
     ·refine Qah ?_
      exact ⟨j+1,by show j+1≤al.length;omega,by show al.length - (j+1)<al.length - j;omega,by6,by5⟩
     exact g129.elim
    refine Qt ?_
    obtain ⟨⟨qk,qs,qn,⟨qtk,qts,qtn,qtl⟩,qks,qal,qbs,qp⟩,hxq⟩:=Zm (l:=ks) (i:=i) by8
    have hcq:=Ex.cellss_get hxq
    have hmq:=Yg hxq
    have HPq:=IHK _ hmq
    refine Qc ?_
    refine Qaf ?_
    refine Zb 101 O O O (Zl O te_38 O (.seq _ _) O O (hcq) ?_)
    refine QaF ?_
    refine Zb 103 O O O (op_callk (xs:=[.tmp 102]) [0] O O O (HPq) by3 ?_)
    refine QV ?_;intro c104 h104
    try replace h104:=nott h104 h103
    refine Qb ?_
    obtain ⟨rfl,g104⟩|⟨rfl,g104⟩:=Za h104
    ·refine Qah ?_
     exact ⟨i+1,by show i+1≤ks.length;omega,by show ks.length - (i+1)<ks.length - i;omega,by6,by5⟩
    refine Qag ?_
    exact absurd g104 by12
   exact g90.elim
  exact g51.elim
 exact g27.elim
termination_by SizeOf.sizeOf e
decreasing_by
 ·exact Ex.lt_kid hx
 exact hlt
end Go.Proofs.YtefbicnoddggnaaDoor
namespace Go.Proofs.YtefbicnoddggnaaDoor
open Go.RowKit
theorem IndexS_c (xs:List ByteArray) (x:ByteArray):PCall Tryd.prog 50 [.seq 1 (strs xs),.val (.string x)] (.val (.int .i64 (firstAt x xs 0))):=by
 have hlx:=Zq xs
 refine Zc Tryd.func50 O (by kernel_rfl) O (Yc O) ?_
 refine Qu ?_
 refine c_lens (t:=0) O (.seq _ _) (fun hmax=>?_)
 refine Qax ?_
 refine Qr ?_
 refine QaJ ?_;intro n7
 refine QW ?_
 refine c_loop (σ:=Nat) (fun zz=>match zz with|i=>[(0,.seq 1 (strs xs)),(1,.val (.string x)),(7,.val (.int .i64 (strs xs).length)),(8,.val (.int .i64 i))]) (fun zz=>match zz with|i=>[]) (fun zz=>match zz with|i=>i≤xs.length∧x∉xs.take i) (fun zz=>match zz with|i=>xs.length - i) (0) ?_ ?_ ?_ ?_
 ·exact ⟨by omega,by simp⟩
 ·exact by6
 ·exact by5
 rintro i hI
 try dsimp only [List.cons_append,List.nil_append] at hI ⊢
 obtain ⟨hi,hu⟩:=hI
 refine QX ?_;intro c9 h9
 refine Ql ?_
 obtain ⟨rfl,g9⟩|⟨rfl,g9⟩:=Za h9
 ·refine Qao ?_
  refine Zf O O (Zy _) by5 ⟨?_,O⟩
  rw [← firstAt_drop x xs i hu,List.drop_eq_nil_of_le by11,firstAt]
 refine Qm ?_
 refine c_skip ?_
 refine Q3 ?_
 refine QH ?_
 refine Qr ?_
 refine QZ ?_
 obtain ⟨y,hy⟩:=Zm (l:=xs) (i:=i) by11
 have hcy:=strs_get hy
 refine QaB ?_
 refine Qa ?_
 refine QbV ?_
 refine Qy ?_
 refine QaN ?_;intro c16 h16
 refine Qb ?_
 obtain ⟨rfl,g16⟩|⟨rfl,g16⟩:=Za h16
 ·refine QC ?_
  refine QK ?_
  exact ⟨i+1,⟨by omega,not_mem_take hu hy (fun e=>g16 e.symm)⟩,by simp;omega,by6,by5⟩
 refine Qm ?_
 refine Qr ?_
 refine QJ ?_
 refine Zf O O (Zy _) by5 ⟨?_,O⟩
 rw [← firstAt_drop x xs i hu,drop_at hy,firstAt,if_pos g16]
theorem ContainsS_c (xs:List ByteArray) (x:ByteArray):BCall Tryd.prog 35 [.seq 1 (strs xs),.val (.string x)] (x∈xs):=by
 refine Zc Tryd.func35 O (by kernel_rfl) O (Yc O) ?_
 refine Qu ?_
 refine Qaz ?_
 refine Qa ?_
 refine Zb 7 O O O (Zd (xs:=[.tmp 5,.tmp 6]) O O (IndexS_c xs x) by3 ?_)
 refine Qak ?_;intro c8 h8
 refine QJ ?_
 exact Zf O O (Zy _) by5 ⟨⟨_,h8.trans (firstAt_nonneg x xs 0),O⟩,O⟩
theorem strs_takeN (a:List Txt) (n:Nat):(strs a).take n=strs (a.take n):=by simp [strs,List.map_take]
theorem tNames_c (q:Pa):q.size≤10000000000→OCall Tryd.prog 41 [.agg q.cells] 9 1 (strs q.names):=by
 obtain ⟨k,s,n,ks,p⟩:=q
 intro hs
 rw [Pa.size] at hs
 have IH:∀ x∈ks,OCall Tryd.prog 41 [.agg x.cells] 9 1 (strs x.names):=fun x hx=>tNames_c x (by have:=Pa.size_kid hx;omega)
 have hl:=Pa.cellss_len ks
 rw [Pa.names]
 obtain ⟨H,hH⟩:∃ H,H=(if k=2 then [s] else []):=⟨_,rfl⟩
 have hHl:H.length≤1:=by rw [hH];split <;> simp
 rw [← hH]
 refine Zc Tryd.func41 O (by kernel_rfl) O (Yc O) ?_
 refine Qu ?_
 refine c_lena (t:=0) (j:=3) O O (.seq _ _) (fun hmax=>?_)
 refine Qd ?_
 refine QaX ?_
 refine Qh ?_
 refine Qax ?_
 refine Qp ?_
 refine ACode.ownNil (t:=3) 9 1 O ?_
 refine Qc ?_
 refine Qg ?_
 refine Qi ?_;intro c8 h8
 refine Qb ?_
 obtain ⟨rfl,g8⟩|⟨rfl,g8⟩:=Za h8
 ·refine Qaa ?_
  refine Qbr ?_;intro n16
  refine QW ?_
  refine c_loop (σ:=Nat × Value) (fun zz=>match zz with|(i,u)=>[(3,.own u 1 (strs (H++Pa.namess (ks.take i)))),(15,.seq 5 (Pa.cellss ks)),(16,.val (.int .i64 (Pa.cellss ks).length)),(17,.val (.int .i64 i))]) (fun zz=>match zz with|(i,u)=>[.own 9 1 u]) (fun zz=>match zz with|(i,u)=>i≤ks.length) (fun zz=>match zz with|(i,u)=>ks.length - i) ((0,.slice none 0 0)) ?_ ?_ ?_ ?_
  ·simp
  ·exact (by repeat' (first|exact SLe.nil _|refine Ya O ?_ ?_|exact Zy _|exact Le.own _ _ _|exact Le.nil _|(refine Le.own_eq ?_;first|(rw [hH,if_pos g8];rfl)|(rw [hH,if_neg g8];rfl))|(refine Le.own_seq ?_;first|(rw [hH,if_pos g8];rfl)|(rw [hH,if_neg g8];rfl))|(refine Le.seq_eq ?_;first|(rw [hH,if_pos g8];rfl)|(rw [hH,if_neg g8];rfl))))
  ·exact by5
  rintro ⟨i,u⟩ hI
  try dsimp only [List.cons_append,List.nil_append] at hI ⊢
  refine QX ?_;intro c18 h18
  refine Ql ?_
  obtain ⟨rfl,g18⟩|⟨rfl,g18⟩:=Za h18
  ·refine Qaw ?_
   refine Qe ?_
   refine Qr ?_
   refine QJ ?_
   refine Zf O O (Le.own_eq ?_) by5 ⟨_,O,O⟩
   rw [List.take_of_length_le by11]
  refine Qt ?_
  obtain ⟨⟨yk,ys,yn,yks,yp⟩,hx⟩:=Zm (l:=ks) (i:=i) by11
  have hcx:=Pa.cellss_get hx
  have hle:=Pa.namess_len (ks.take i)
  have hle2:=Pa.names_len ⟨yk,ys,yn,yks,yp⟩
  have hle3:=Pa.sizes_take hx
  have e:strs (H++Pa.namess (ks.take i))++strs (Pa.names ⟨yk,ys,yn,yks,yp⟩)=strs (H++Pa.namess (ks.take (i+1))):=by rw [Pa.namess_take hx,← strs_app,List.append_assoc]
  refine Qc ?_
  refine Qb0 ?_
  refine Qbs ?_
  refine Qa2 ?_;intro b5
  refine Qbg ?_
  refine Qb ?_
  refine Qan ?_
  refine Qa3 ?_
  refine Zb 23 O O O (op_callo (xs:=[.tmp 22]) O O (IH _ (Yg hx)) by3 ?_);intro u23
  refine Qb1 ?_
  intro u24
  refine Qab ?_
  refine Qs ?_
  refine QK ?_
  exact ⟨(i+1,u24),by simp;omega,by simp;omega,(by repeat' (first|exact SLe.nil _|refine Ya O ?_ ?_|exact Zy _|exact Le.own _ _ _|exact Le.nil _|(refine Le.own_eq ?_;exact e)|(refine Le.own_seq ?_;exact e)|(refine Le.seq_eq ?_;exact e))),by5⟩
 refine Qm ?_
 refine Qan ?_
 refine Qg ?_
 refine Zb 12 O O O (Zg (xs:=[.tmp 11]) el_22 O O O O O O (Yc O) ?_)
 refine Zb 13 O O O (op_append (i:=0) el_22 O O O O (.seq _ _) (by first|(simp;done)|(simp;omega)|omega) ?_)
 intro u13
 refine QZ ?_
 refine Qv ?_
 refine Qbr ?_;intro n16
 refine QW ?_
 refine c_loop (σ:=Nat × Value) (fun zz=>match zz with|(i,u)=>[(3,.own u 1 (strs (H++Pa.namess (ks.take i)))),(15,.seq 5 (Pa.cellss ks)),(16,.val (.int .i64 (Pa.cellss ks).length)),(17,.val (.int .i64 i))]) (fun zz=>match zz with|(i,u)=>[.own 9 1 u]) (fun zz=>match zz with|(i,u)=>i≤ks.length) (fun zz=>match zz with|(i,u)=>ks.length - i) ((0,u13)) ?_ ?_ ?_ ?_
 ·simp
 ·exact (by repeat' (first|exact SLe.nil _|refine Ya O ?_ ?_|exact Zy _|exact Le.own _ _ _|exact Le.nil _|(refine Le.own_eq ?_;first|(rw [hH,if_pos g8];rfl)|(rw [hH,if_neg g8];rfl))|(refine Le.own_seq ?_;first|(rw [hH,if_pos g8];rfl)|(rw [hH,if_neg g8];rfl))|(refine Le.seq_eq ?_;first|(rw [hH,if_pos g8];rfl)|(rw [hH,if_neg g8];rfl))))
 ·exact by5
 rintro ⟨i,u⟩ hI
 try dsimp only [List.cons_append,List.nil_append] at hI ⊢
 refine QX ?_;intro c18 h18
 refine Ql ?_
 obtain ⟨rfl,g18⟩|⟨rfl,g18⟩:=Za h18
 ·refine Qaw ?_
  refine Qe ?_
  refine Qr ?_
  refine QJ ?_
  refine Zf O O (Le.own_eq ?_) by5 ⟨_,O,O⟩
  rw [List.take_of_length_le by11]
 refine Qt ?_
 obtain ⟨⟨yk,ys,yn,yks,yp⟩,hx⟩:=Zm (l:=ks) (i:=i) by11
 have hcx:=Pa.cellss_get hx
 have hle:=Pa.namess_len (ks.take i)
 have hle2:=Pa.names_len ⟨yk,ys,yn,yks,yp⟩
 have hle3:=Pa.sizes_take hx
 have e:strs (H++Pa.namess (ks.take i))++strs (Pa.names ⟨yk,ys,yn,yks,yp⟩)=strs (H++Pa.namess (ks.take (i+1))):=by rw [Pa.namess_take hx,← strs_app,List.append_assoc]
 refine Qc ?_
 refine Qb0 ?_
 refine Qbs ?_
 refine Qa2 ?_;intro b5
 refine Qbg ?_
 refine Qb ?_
 refine Qan ?_
 refine Qa3 ?_
 refine Zb 23 O O O (op_callo (xs:=[.tmp 22]) O O (IH _ (Yg hx)) by3 ?_);intro u23
 refine Qb1 ?_
 intro u24
 refine Qab ?_
 refine Qs ?_
 refine QK ?_
 exact ⟨(i+1,u24),by simp;omega,by simp;omega,(by repeat' (first|exact SLe.nil _|refine Ya O ?_ ?_|exact Zy _|exact Le.own _ _ _|exact Le.nil _|(refine Le.own_eq ?_;exact e)|(refine Le.own_seq ?_;exact e)|(refine Le.seq_eq ?_;exact e))),by5⟩
termination_by SizeOf.sizeOf q
decreasing_by exact Pa.lt_kid hx
def SM (b:Nat) (out bd:List Txt) (M:Mem):Prop:=∃ uo ao cap,M=[.loc b [.own uo 1 (strs out),.val (.slice ao (strs bd).length cap)],.own 9 1 uo,.row 9 1 (.slice ao (strs bd).length cap) (strs bd)]
def Acts (f:FuncId) (args:List AV) (b:Nat) (bd:List Txt) (g:List Txt→List Txt) (w:Nat):Prop :=
 ∀ out M,SM b out bd M→out.length+w≤10000000000→ACall Tryd.prog f args M (fun _ M'=>SM b (g out) bd M')
theorem under_c (b:Nat) (bd names:List Txt) (f:FuncId) (fs cs:List AV) (g:List Txt→List Txt) (w:Nat) (hl:bd.length+names.length≤10000000000) (hf:Acts f (fs++cs) b (bd++names) g w):Acts 39 [.ptr b 0,.seq 1 (strs names),.clo (.func f) fs cs] b bd g w:=by
 intro out M hM hw
 obtain ⟨uo,ao,cap,rfl⟩:=hM
 have h1:=Zq bd
 have h2:=Zq names
 have e1:strs bd++strs names=strs (bd++names):=(strs_app _ _).symm
 have e3:(strs bd).length+(strs names).length=(strs (bd++names)).length:=by rw [Zq,Zq,Zq,List.length_append]
 have e2:(strs (bd++names)).take (strs bd).length=strs bd:=by rw [h1,strs_takeN];simp
 refine Zc Tryd.func39 O (by kernel_rfl) O (Yc O) ?_
 refine Qu ?_
 refine Qr ?_
 refine QaZ ?_
 refine Q9 ?_
 refine Zb 11 O O O (op_len_row (i:=2) O tu_22 O O (fun n11=>?_))
 refine Qh ?_
 refine Qr ?_
 refine Qa ?_
 refine QaZ ?_
 refine Q9 ?_
 refine Qa ?_
 refine Zb 18 O O O (op_append_row (i:=2) el_22 O O O O (.seq _ _) by11 ?_)
 intro a18 p18
 refine QaZ ?_
 refine QF ?_
 refine Qb2 ?_
 refine Qs ?_
 rw [e1,e3]
 refine Qe ?_
 refine Qr ?_
 refine Zb 22 O O O (op_callvm (xs:=[])  [] O O O O (hf out _ ⟨uo,a18,p18,O⟩ hw) (by simp;exact Les.refl _) (fun v22 M22 h22=>?_))
 obtain ⟨uo2,ao2,cap2,rfl⟩:=h22
 refine Qb ?_
 refine QaB ?_
 refine QaZ ?_
 refine Q9 ?_
 refine Qa ?_
 refine Zb 29 O O O (op_slice_row (i:=2) O te_22 O O O (by rw [Zq,Zq,List.length_append];omega) O ?_);intro a29 p29
 refine QaZ ?_
 refine QF ?_
 refine Qb2 ?_
 refine Qs ?_
 rw [e2]
 refine go_end ?_
 exact out_none O (Zv _) ⟨uo2,a29,p29,O⟩
theorem all_c (b:Nat) (bd:List Txt) (ks:List Ex) (IH:∀ x∈ks,Acts 20 [.ptr b 0,.agg x.cells] b bd (x.fr bd) x.w):Acts 38 [.ptr b 0,.seq 11 (Ex.cellss ks)] b bd (Ex.frs ks bd) (Ex.ws ks):=by
 intro out M hM hw
 have hl:=Ex.cellss_len ks
 refine Zc Tryd.func38 O (by kernel_rfl) O (Yc O) ?_
 refine Qu ?_
 refine c_lens (t:=1) O (.seq _ _) (fun hmax=>?_)
 refine Qr ?_
 refine Qa0 ?_;intro n7
 refine QW ?_
 refine c_loop (σ:=Nat × Mem) (fun zz=>match zz with|(i,M)=>[(0,.ptr b 0),(6,.seq 11 (Ex.cellss ks)),(7,.val (.int .i64 (Ex.cellss ks).length)),(8,.val (.int .i64 i))]) (fun zz=>match zz with|(i,M)=>M) (fun zz=>match zz with|(i,M)=>i≤ks.length∧SM b (Ex.frs (ks.take i) bd out) bd M) (fun zz=>match zz with|(i,M)=>ks.length - i) ((0,M)) ?_ ?_ ?_ ?_
 ·exact ⟨by omega,hM⟩
 ·exact by6
 ·exact by5
 rintro ⟨i,M⟩ hI
 try dsimp only [List.cons_append,List.nil_append] at hI ⊢
 obtain ⟨hi,hJ⟩:=hI
 refine QX ?_;intro c9 h9
 refine Ql ?_
 obtain ⟨rfl,g9⟩|⟨rfl,g9⟩:=Za h9
 ·refine Qaw ?_
  refine go_end (out_none O (Zv _) ?_)
  rwa [List.take_of_length_le by11] at hJ
 refine Qt ?_
 obtain ⟨⟨k,s,n,⟨tk,ts,tn,tks⟩,kks,al,bs,p⟩,hx⟩:=Zm (l:=ks) (i:=i) by11
 have hcx:=Ex.cellss_get hx
 have hle:=Ex.frs_len (ks.take i) bd out
 have hsm:=sum_at Ex.w hx
 rw [Ex.ws_map] at hw hle
 have hft:=Ex.frs_take (bd:=bd) (out:=out) hx
 have HC:=IH _ (Yg hx) _ M hJ by11
 rw [← hft] at HC
 refine Qc ?_
 refine Zb 10 O O O (Zl O te_38 O (.seq _ _) O O (by assumption) ?_)
 refine QaF ?_
 refine Q1 ?_;intro b5
 refine QR ?_
 refine Qb ?_
 refine Qan ?_
 refine Qaj ?_
 refine Zb 14 O O O (op_callm (xs:=[.tmp 12,.tmp 13])  [.loc b5 _] O O O HC (Les.refl _) (fun v14 M14 h14=>?_))
 refine Qs ?_
 refine QK ?_
 exact ⟨(i+1,M14),⟨by omega,h14⟩,by simp;omega,by6,(Zx _ (Zv _))⟩
theorem kids_act (b:Nat) (bd:List Txt) (e:Ex) {k n p:Int} {s:Txt} {t:Ty} {ks:List Ex} {al:List Al} {bs:List Bi} (he:e=.mk k s n t ks al bs p) (IH:∀ x∈ks,Acts 20 [.ptr b 0,.agg x.cells] b bd (x.fr bd) x.w):Acts 37 [.cptr [.ptr b 0],.cptr e.cells] b bd (Ex.frs ks bd) (Ex.ws ks):=by
 subst he
 obtain ⟨tk,ts,tn,tks⟩:=t
 intro out M hM hw
 have HC:=all_c b bd ks IH out M hM hw
 refine Zc Tryd.func37 O (by kernel_rfl) O (Yc O) ?_
 refine Qu ?_
 refine Qc ?_
 refine Qy ?_
 refine Qg ?_
 refine Zb 5 O O O (op_callm (xs:=[.tmp 2,.tmp 4])  [] O O O HC (Les.refl _) (fun v5 M5 h5=>?_))
 refine Qs ?_
 refine go_end ?_
 exact out_none O (Zv _) h5
theorem binds_act (b:Nat) (bd:List Txt) (e:Ex) {k n p:Int} {s:Txt} {t:Ty} {ks:List Ex} {al:List Al} {bs:List Bi} (he:e=.mk k s n t ks al bs p) (IH:∀ x∈bs,Acts 20 [.ptr b 0,.agg x.e.cells] b bd (x.e.fr bd) x.e.w):Acts 36 [.cptr e.cells,.cptr [.ptr b 0]] b bd (Bi.frs bs bd) (Bi.ws bs):=by
 subst he
 obtain ⟨tk,ts,tn,tks⟩:=t
 intro out M hM hw
 have hl:=Bi.cellss_len bs
 refine Zc Tryd.func36 O (by kernel_rfl) O (Yc O) ?_
 refine Qu ?_
 refine c_lenp (t:=0) (j:=9) O O (.seq _ _) (fun hmax=>?_)
 refine Qv ?_
 refine Qbt ?_;intro n6
 refine QW ?_
 refine c_loop (σ:=Nat × Mem) (fun zz=>match zz with|(i,M)=>[(1,.cptr [.ptr b 0]),(5,.seq 13 (Bi.cellss bs)),(6,.val (.int .i64 (Bi.cellss bs).length)),(7,.val (.int .i64 i))]) (fun zz=>match zz with|(i,M)=>M) (fun zz=>match zz with|(i,M)=>i≤bs.length∧SM b (Bi.frs (bs.take i) bd out) bd M) (fun zz=>match zz with|(i,M)=>bs.length - i) ((0,M)) ?_ ?_ ?_ ?_
 ·exact ⟨by omega,hM⟩
 ·exact by6
 ·exact by5
 rintro ⟨i,M⟩ hI
 try dsimp only [List.cons_append,List.nil_append] at hI ⊢
 obtain ⟨hi,hJ⟩:=hI
 refine QX ?_;intro c8 h8
 refine Ql ?_
 obtain ⟨rfl,g8⟩|⟨rfl,g8⟩:=Za h8
 ·refine Qaw ?_
  refine go_end (out_none O (Zv _) ?_)
  rwa [List.take_of_length_le by11] at hJ
 refine Qt ?_
 obtain ⟨⟨ys,⟨yk,yt,yn,⟨ytk,yts,ytn,ytks⟩,yks,yal,ybs,yq⟩,yp⟩,hx⟩:=Zm (l:=bs) (i:=i) by11
 have hcx:=Bi.cellss_get hx
 have hle:=Bi.frs_len (bs.take i) bd out
 have hsm:=sum_at Bi.w hx
 rw [Bi.ws_map] at hw hle
 have hft:=Bi.frs_take (bd:=bd) (out:=out) hx
 have HC:=IH _ (Yg hx) _ M hJ (by rw [Bi.w] at hsm;simp only [Bi.e];omega)
 rw [Bi.fr] at hft
 simp only [Bi.e] at HC
 rw [← hft] at HC
 refine Qc ?_
 refine Qb3 ?_
 refine QbI ?_
 refine Qbl ?_;intro b3
 refine Qbm ?_
 refine Qb ?_
 refine Qc ?_
 refine Qy ?_
 refine QF ?_
 refine Qaj ?_
 refine Zb 14 O O O (op_callm (xs:=[.tmp 11,.tmp 13])  [.loc b3 _] O O O HC (Les.refl _) (fun v14 M14 h14=>?_))
 refine Qs ?_
 refine QK ?_
 exact ⟨(i+1,M14),⟨by omega,h14⟩,by simp;omega,by6,(Zx _ (Zv _))⟩
theorem both_act (b:Nat) (bd:List Txt) (f1 f2:FuncId) (c1 c2:List AV) (g1 g2:List Txt→List Txt) (w1 w2:Nat) (hg:∀ out,(g1 out).length≤out.length+w1) (H1:Acts f1 c1 b bd g1 w1) (H2:Acts f2 c2 b bd g2 w2):Acts 40 [.cptr [.clo (.func f1) [] c1],.cptr [.clo (.func f2) [] c2]] b bd (fun out=>g2 (g1 out)) (w1+w2):=by
 intro out M hM hw
 have h1:=hg out
 refine Zc Tryd.func40 O (by kernel_rfl) O (Yc O) ?_
 refine Q8 ?_
 refine Qy ?_
 refine Zb 3 O O O (op_callvm (xs:=[])  [] O O O O (H1 out M hM by11) (Les.refl _) (fun v3 M3 h3=>?_))
 refine Qb ?_
 refine Qc ?_
 refine Qy ?_
 refine Zb 5 O O O (op_callvm (xs:=[])  [] O O O O (H2 _ M3 h3 by11) (Les.refl _) (fun v5 M5 h5=>?_))
 refine Qs ?_
 refine go_end ?_
 exact out_none O (Zv _) h5
theorem alt_act (b:Nat) (bd:List Txt) (a:Al) (H:Acts 20 [.ptr b 0,.agg a.e.cells] b bd (a.e.fr bd) a.e.w):Acts 42 [.cptr [.ptr b 0],.cptr a.cells] b bd (a.e.fr bd) a.e.w:=by
 obtain ⟨⟨qk,qs,qn,qks,qp⟩,⟨k,s,n,⟨tk,ts,tn,tks⟩,kks,al,bs,p⟩⟩:=a
 intro out M hM hw
 simp only [Al.e] at *
 have HC:=H out M hM hw
 refine Zc Tryd.func42 O (by kernel_rfl) O (Yc O) ?_
 refine Qu ?_
 refine Qc ?_
 refine Qy ?_
 refine Qar ?_
 refine QaF ?_
 refine Zb 5 O O O (op_callm (xs:=[.tmp 2,.tmp 4])  [] O O O HC (Les.refl _) (fun v5 M5 h5=>?_))
 refine Qs ?_
 refine go_end ?_
 exact out_none O (Zv _) h5
theorem SM.start (b:Nat):MImp [.loc b [.val (.slice none 0 0),.val (.slice none 0 0)]] [.loc b [.own (.slice none 0 0) 1 (strs []),.val (.slice none (strs []).length 0)],.own 9 1 (.slice none 0 0),.row 9 1 (.slice none (strs []).length 0) (strs [])]:=fun B F Mf w x=>by
 have h:=(MImp.rowNil 9 1 [.own 9 1 (.slice none 0 0),.loc b [.val (.slice none 0 0),.val (.slice none 0 0)]]) B F Mf w (x.ownNil 9 1)
 have h2:Inv B F (.row 9 1 (.slice none 0 0) []::.own 9 1 (.slice none 0 0)::.loc b [.own (.slice none 0 0) 1 [],.val (.slice none 0 0)]::Mf) w:=by
  refine ⟨h.base,h.fix,fun r hr=>?_,?_⟩
  ·simp only [List.mem_cons] at hr
   rcases hr with rfl|rfl|rfl|hr
   ·exact h.ok _ by12
   ·exact h.ok _ by12
   ·obtain ⟨h1,h2,vs,T,h3,h4,h5⟩:=h.ok (.loc b [.val (.slice none 0 0),.val (.slice none 0 0)]) by12
    refine ⟨h1,h2,vs,T,h3,?_,h5⟩
    cases h4 with
    | cons k ks =>
     cases k
     exact .cons (.own _ (.seq0 1 none 0 (fun _=>O))) ks
   exact h.ok r (by simp [hr])
  have:=h.far
  rw [far_map] at this ⊢
  simpa [Res.blk] using this
 refine h2.perm ?_
 have e:=List.reverse_perm [Res.loc b [.own (.slice none 0 0) 1 [],.val (.slice none 0 0)],.own 9 1 (.slice none 0 0),.row 9 1 (.slice none 0 0) []]
 exact e.append_right Mf
theorem MLe.left:∀ A B:Mem,MLe (A++B) A
 | [],_=>Zw _
 | _::A,B=>MLe.cons _ (MLe.left A B)
theorem Bi.room {x:Bi} {bs:List Bi} (h:x∈bs):x.e.w+bs.length≤Bi.ws bs:=by
 induction bs with
 | nil=>simp at h
 | cons y bs ih =>
  have h2:=Bi.len_ws bs
  rw [Bi.ws,List.length_cons]
  rcases List.mem_cons.1 h with rfl|h
  ·cases x;simp only [Bi.e,Bi.w];omega
  have:=ih h
  cases y;rw [Bi.w];omega
theorem exp_c (e:Ex):∀ (b:Nat) (bd:List Txt),bd.length+e.w≤10000000000→Acts 20 [.ptr b 0,.agg e.cells] b bd (e.fr bd) e.w:=by
 obtain ⟨k,s,n,⟨tk,ts,tn,tks⟩,ks,al,bs,p⟩:=e
 intro b bd hb
 have IHk:∀ x∈ks,∀ bd':List Txt,bd'.length+x.w≤10000000000→Acts 20 [.ptr b 0,.agg x.cells] b bd' (x.fr bd') x.w:=fun x hx bd' h=>exp_c x b bd' h
 have IHb:∀ x∈bs,∀ bd':List Txt,bd'.length+x.e.w≤10000000000→Acts 20 [.ptr b 0,.agg x.e.cells] b bd' (x.e.fr bd') x.e.w:=fun x hx bd' h=>exp_c x.e b bd' h
 have IHa:∀ x∈al,∀ bd':List Txt,bd'.length+x.e.w≤10000000000→Acts 20 [.ptr b 0,.agg x.e.cells] b bd' (x.e.fr bd') x.e.w:=fun x hx bd' h=>exp_c x.e b bd' h
 have HK:∀ bd':List Txt,bd'.length+Ex.ws ks≤10000000000→Acts 37 [.cptr [.ptr b 0],.cptr (Ex.mk k s n ⟨tk,ts,tn,tks⟩ ks al bs p).cells] b bd' (Ex.frs ks bd') (Ex.ws ks):=fun bd' h =>
  kids_act b bd' _ rfl (fun x hx=>IHk x hx bd' (by have:=sum_mem (List.mem_map.2 ⟨x,hx,rfl⟩:x.w∈ks.map Ex.w);rw [Ex.ws_map] at h;omega))
 have HB:∀ bd':List Txt,bd'.length+Bi.ws bs≤10000000000+bs.length→Acts 36 [.cptr (Ex.mk k s n ⟨tk,ts,tn,tks⟩ ks al bs p).cells,.cptr [.ptr b 0]] b bd' (Bi.frs bs bd') (Bi.ws bs):=fun bd' h =>
  binds_act b bd' _ rfl (fun x hx=>IHb x hx bd' (by have:=Bi.room hx;omega))
 have HA:∀ x∈al,∀ bd':List Txt,bd'.length+x.e.w≤10000000000→Acts 42 [.cptr [.ptr b 0],.cptr x.cells] b bd' (x.e.fr bd') x.e.w:=fun x hx bd' h=>alt_act b bd' x (IHa x hx bd' h)
 clear IHk IHb IHa
 intro out M hM hw
 rw [Ex.w] at hb hw
 have hbl:=Bi.len_ws bs
 rw [Ex.fr]
 have ho1:(if k=3∧s∉bd∧s∉out then out++[s] else out).length≤out.length+1:=by split <;> simp
 generalize hO:(if k=3∧s∉bd∧s∉out then out++[s] else out)=o1 at *
 obtain ⟨uo,ao,cap,rfl⟩:=hM
 have hl1:=Bi.cellss_len bs
 have hl2:=Al.cellss_len al
 have hlo:=Zq out
 have hln:(Bi.names bs).length=bs.length:=by simp
 refine Zc Tryd.func20 O (by kernel_rfl) O (Yc O) ?_
 refine Qu ?_
 refine c_lena (t:=1) (j:=8) O O (.seq _ _) (fun hmax=>?_)
 refine c_lena (t:=1) (j:=9) O O (.seq _ _) (fun hmax2=>?_)
 refine Qd ?_
 refine Zb 2 O O O (op_boxc (cs':=[_]) O O O O ?_)
 refine QaU ?_
 refine Ql ?_
 refine Qp ?_
 refine c_boold 33 (k=3∧s∉bd∧s∉out) tmix O ?_ _ _ O ?_
 ·skip
  refine DOps.st 11 O O (op_fieldAddr_c O tf_41_0 O O ⟨O,O⟩) ?_
  refine DOps.st 12 O O (op_load_c1 O ta_3 O O ⟨O,O⟩) ?_
  refine DOps.cm 13 O O (fun _ q=>op_eql O O O q) ?_;intro c13 h13
  refine Qat ?_
  obtain ⟨rfl,g13⟩|⟨rfl,g13⟩:=Za h13
  ·skip
   refine Qaq ?_
   refine Qaq ?_
   refine Q2 ?_
   refine Qat ?_
   refine Qaq ?_
   refine Qaq ?_
   refine Q2 ?_
   show BoolQ _ _ _ _ _ _
   refine Yb O ?_ by7 by5
   simp_all
  skip
  refine QaT ?_
  refine DOps.gt 16 O O O O (op_nilCheck_m O O ⟨O,O⟩) ?_
  refine DOps.gt 17 O O O O (op_fieldAddr_m O tf_66_1 O ⟨O,O⟩) ?_
  refine DOps.gt 18 O O O O (op_load_m1 (i:=0) O ta_22 O O O ⟨O,O⟩) ?_
  refine Qbc ?_
  refine QaT ?_
  refine DOps.gtc 21 O O O O (fun _ q=>op_callbrb (xs:=[.tmp 18,.tmp 20]) 2 O O O (ContainsS_c bd s) (by repeat' (first|exact Bor.nil|refine Bor.row ?_|refine Bor.le (Zy _) ?_|refine Bor.le (Le.own _ _ _) ?_)) q) ?_;intro c21 h21
  refine DOps.gtc 22 O O O O (fun _ q=>op_notc O O q) ?_;intro c22 h22
  try replace h22:=nott h22 h21
  refine Q2 ?_
  refine Qat ?_
  obtain ⟨rfl,g22⟩|⟨rfl,g22⟩:=Za h22
  ·skip
   refine Qaq ?_
   refine Qaq ?_
   refine Q2 ?_
   show BoolQ _ _ _ _ _ _
   refine Yb O ?_ by7 by5
   simp_all
  skip
  refine QaT ?_
  refine DOps.gt 26 O O O O (op_nilCheck_m O O ⟨O,O⟩) ?_
  refine DOps.gt 27 O O O O (op_fieldAddr_m O tf_66_0 O ⟨O,O⟩) ?_
  refine DOps.gt 28 O O O O (op_load_m1 (i:=0) O ta_22 O O O ⟨O,O⟩) ?_
  refine Qbc ?_
  refine QaT ?_
  refine DOps.gtc 31 O O O O (fun _ q=>Zj (xs:=[.tmp 28,.tmp 30]) O O (ContainsS_c out s) by3 q) ?_;intro c31 h31
  refine DOps.gtc 32 O O O O (fun _ q=>op_notc O O q) ?_;intro c32 h32
  try replace h32:=nott h32 h31
  refine Q2 ?_
  show BoolQ _ _ _ _ _ _
  refine Yb O ?_ by7 by5
  simp_all
 intro c33 h33
 refine Qe ?_
 refine c_join (σ:=Mem) (fun zz=>match zz with|M=>[(2,.cptr [.ptr b 0]),(3,.cptr (Ex.mk k s n ⟨tk,ts,tn,tks⟩ ks al bs p).cells)]) (fun zz=>match zz with|M=>M) (fun zz=>match zz with|M=>SM b o1 bd M) ?_ ?_
 ·skip
  obtain ⟨rfl,g33⟩|⟨rfl,g33⟩:=Za h33
  ·refine QC ?_
   refine go_lp ?_
   first|exact ⟨_,⟨u42,ao,cap,by rw [← hO,if_pos g33,strs_app];rfl⟩,by6,Zv _⟩|exact ⟨_,⟨uo,ao,cap,by rw [← hO,if_neg g33]⟩,by6,Zv _⟩
  refine Qm ?_
  refine c_drawnE [0,1,2,3,4,5,6,7,8,9,10,11] [8,11] [[],[],[1],[1,2],[1,2,3],[],[5],[5,6],[1,2,3,4,5,6,7],[0,1,2,3,4,5,6,7,8],[0,1,2,3,4,5,6,7,8,9],[0,1,2,3,4,5,6,7,8,9,10]] tmix O ?_
  refine Qal ?_
  refine Qal ?_
  refine Ze 36 (none) (i:=2) O O O O O (op_nilCheck_m O O ⟨O,O⟩) ?_
  refine QaG ?_
  refine Ze 38 (some 0) (i:=4) O O O O O (op_load_m1 (i:=0) O ta_22 O O O ⟨O,O⟩) ?_
  refine QaK ?_
  refine Qal ?_
  refine Ze 41 (none) (i:=7) O O O O O (Zg (xs:=[.tmp 40]) el_22 O O O O O O (Yc O) ⟨O,O⟩) ?_
  refine EOps.w 1 (i:=8) O O O O O (op_append (i:=0) el_22 O O O O (.seq _ _) (by first|(simp;done)|(simp;omega)|omega) (fun u42=>⟨_,O,?_⟩))
  refine Ze 43 (none) (i:=9) O O O O O (op_nilCheck_m O O ⟨O,O⟩) ?_
  refine QaG ?_
  refine EOps.w 0 (i:=11) O O O O O (Zk (i:=0) O ts_22 O O O O O (Yc O) O ⟨_,O,?_⟩)
  show AGo _ _ _ _ _ _ _
  refine go_lp ?_
  first|exact ⟨_,⟨u42,ao,cap,by rw [← hO,if_pos g33,strs_app];rfl⟩,by6,Zv _⟩|exact ⟨_,⟨uo,ao,cap,by rw [← hO,if_neg g33]⟩,by6,Zv _⟩
 rintro M hI
 try dsimp only [List.cons_append,List.nil_append] at hI ⊢
 have hS1:=hI
 refine Qe ?_
 refine Qax ?_
 refine Qv ?_
 refine Qbt ?_;intro n47
 refine QW ?_
 refine ACode.ownNil (t:=4) 9 1 O ?_
 refine c_loop (σ:=Nat × Value) (fun zz=>match zz with|(i,u)=>[(2,.cptr [.ptr b 0]),(3,.cptr (Ex.mk k s n ⟨tk,ts,tn,tks⟩ ks al bs p).cells),(4,.own u 1 (strs (Bi.names (bs.take i)))),(46,.seq 13 (Bi.cellss bs)),(47,.val (.int .i64 (Bi.cellss bs).length)),(48,.val (.int .i64 i))]) (fun zz=>match zz with|(i,u)=>.own 9 1 u::M) (fun zz=>match zz with|(i,u)=>i≤bs.length) (fun zz=>match zz with|(i,u)=>bs.length - i) ((0,.slice none 0 0)) ?_ ?_ ?_ ?_
 ·simp
 ·exact by6
 ·exact by5
 rintro ⟨i,u⟩ hI
 try dsimp only [List.cons_append,List.nil_append] at hI ⊢
 refine QX ?_;intro c49 h49
 refine Ql ?_
 obtain ⟨rfl,g49⟩|⟨rfl,g49⟩:=Za h49
 ·refine QT ?_
  rw [List.take_of_length_le (show bs.length≤i from by omega)]
  refine Qc ?_
  refine Zb 58 O O O (op_makeFunc (fs:=[]) (cs:=[.tmp 3,.tmp 2]) O O O (Zb 7 O O O (op_alloce (cs':=[_]) O tz_1 O O ?_)));intro b7
  refine Qb4 ?_
  refine Ql ?_
  refine c_fixl 7 0 O O ?_
  refine Qc ?_
  refine Zb 59 O O O (op_makeFunc (fs:=[]) (cs:=[.tmp 2,.tmp 3]) O O O (Zb 8 O O O (op_alloce (cs':=[_]) O tz_1 O O ?_)));intro b8
  refine Qb4 ?_
  refine Ql ?_
  refine c_fixl 8 0 O O ?_
  have f1:=fun b1 b2=>Ex.frs_len ks b1 (Bi.frs bs b2 o1)
  have f2:=fun b2=>Bi.frs_len bs b2 o1
  have f3:=fun b1 b2=>Bi.frs_len bs b1 (Ex.frs ks b2 o1)
  have f4:=fun b2=>Ex.frs_len ks b2 o1
  refine c_join (σ:=List Txt × Mem) (fun zz=>match zz with|(o2,M)=>[(2,.cptr [.ptr b 0]),(3,.cptr (Ex.mk k s n ⟨tk,ts,tn,tks⟩ ks al bs p).cells)]) (fun zz=>match zz with|(o2,M)=>M) (fun zz=>match zz with|(o2,M)=>o2=(if k=7 then (if n=1 then Ex.frs ks (bd++Bi.names bs) (Bi.frs bs (bd++Bi.names bs) o1) else Ex.frs ks (bd++Bi.names bs) (Bi.frs bs bd o1)) else if k=6 then Bi.frs bs bd (Ex.frs ks (bd++[s]) o1) else Bi.frs bs bd (Ex.frs ks bd o1))∧o2.length≤o1.length+Ex.ws ks+Bi.ws bs∧SM b o2 bd M) ?_ ?_
  ·skip
   refine QH ?_
   refine Qp ?_
   refine Zp 64 (k=7∧n=1) ?_ _ _ O ?_
   ·skip
    refine Qg ?_
    refine Qi ?_;intro c67 h67
    refine Qa ?_
    obtain ⟨rfl,g67⟩|⟨rfl,g67⟩:=Za h67
    ·skip
     refine Qam ?_
     refine Qn ?_
     refine Yb O ?_ by7 by5
     simp_all
    skip
    refine Qo ?_
    refine QS ?_;intro c71 h71
    refine Qn ?_
    refine Yb O ?_ by7 by5
    simp_all
   intro c64 h64
   refine Qe ?_
   obtain ⟨rfl,g64⟩|⟨rfl,g64⟩:=Za h64
   ·refine QI ?_
    refine Qv ?_
    refine Qi ?_;intro c80 h80
    refine Qh ?_
    obtain ⟨rfl,g80⟩|⟨rfl,g80⟩:=Za h80
    ·refine QI ?_
     refine Qv ?_
     refine Qi ?_;intro c90 h90
     refine Qh ?_
     obtain ⟨rfl,g90⟩|⟨rfl,g90⟩:=Za h90
     ·refine QI ?_
      refine Qd ?_
      refine Qy ?_
      refine Zb 61 O O O (op_callvm (xs:=[])  [.own 9 1 u] O O O O (HK bd by11 o1 M hS1 by11) (Les.refl _) (fun v61 M61 h61=>?_))
      refine Qb ?_
      refine Qc ?_
      refine Qy ?_
      refine Zb 63 O O O (op_callvm (xs:=[])  [.own 9 1 u] O O O O (HB bd by11 _ M61 h61 (by have:=f4 bd;omega)) (Les.refl _) (fun v63 M63 h63=>?_))
      refine Qs ?_
      refine Q0 ?_
      refine go_lp ?_
      first
      | exact ⟨(_,M76),⟨by rw [if_pos g64.1,if_pos g64.2],by have:=f1 (bd++Bi.names bs) (bd++Bi.names bs);have:=f2 (bd++Bi.names bs);omega,h76⟩,by6,Zx _ (Zv _)⟩
      | exact ⟨(_,M86),⟨by rw [if_pos g80,if_neg (fun q=>g64 ⟨g80,q⟩)],by have:=f1 (bd++Bi.names bs) bd;have:=f2 bd;omega,h86⟩,by6,Zx _ (Zv _)⟩
      | exact ⟨(_,M98),⟨by rw [if_neg g80,if_pos g90],by have:=f3 bd (bd++[s]);have:=f4 (bd++[s]);omega,h98⟩,by6,Zx _ (Zv _)⟩
      | exact ⟨(_,M63),⟨by rw [if_neg g80,if_neg g90],by have:=f3 bd bd;have:=f4 bd;omega,h63⟩,by6,Zx _ (Zv _)⟩
     refine Qm ?_
     refine Qd ?_
     refine Qy ?_
     refine Qg ?_
     refine Zb 94 O O O (Zg (xs:=[.tmp 93]) el_22 O O O O O O (Yc O) ?_)
     refine Qy ?_
     refine Zb 96 O O O (op_callm (xs:=[.tmp 91,.tmp 94,.tmp 95])  [.own 9 1 u] O O O (under_c b bd [s] _ [] _ _ _ (by simp;omega) (HK (bd++[s]) (by simp;omega)) o1 M hS1 by11) by3 (fun v96 M96 h96=>?_))
     refine Qb ?_
     refine Qc ?_
     refine Qy ?_
     refine Zb 98 O O O (op_callvm (xs:=[])  [.own 9 1 u] O O O O (HB bd by11 _ M96 h96 (by have:=f4 (bd++[s]);omega)) (Les.refl _) (fun v98 M98 h98=>?_))
     refine Qs ?_
     refine Q0 ?_
     refine go_lp ?_
     first
     | exact ⟨(_,M76),⟨by rw [if_pos g64.1,if_pos g64.2],by have:=f1 (bd++Bi.names bs) (bd++Bi.names bs);have:=f2 (bd++Bi.names bs);omega,h76⟩,by6,Zx _ (Zv _)⟩
     | exact ⟨(_,M86),⟨by rw [if_pos g80,if_neg (fun q=>g64 ⟨g80,q⟩)],by have:=f1 (bd++Bi.names bs) bd;have:=f2 bd;omega,h86⟩,by6,Zx _ (Zv _)⟩
     | exact ⟨(_,M98),⟨by rw [if_neg g80,if_pos g90],by have:=f3 bd (bd++[s]);have:=f4 (bd++[s]);omega,h98⟩,by6,Zx _ (Zv _)⟩
     | exact ⟨(_,M63),⟨by rw [if_neg g80,if_neg g90],by have:=f3 bd bd;have:=f4 bd;omega,h63⟩,by6,Zx _ (Zv _)⟩
    refine Qm ?_
    refine Qd ?_
    refine Qy ?_
    refine Zb 82 O O O (op_callvm (xs:=[])  [.own 9 1 u] O O O O (HB bd by11 o1 M hS1 by11) (Les.refl _) (fun v82 M82 h82=>?_))
    refine Qb ?_
    refine Qc ?_
    refine Qy ?_
    refine Qa ?_
    refine Qy ?_
    refine Zb 86 O O O (op_callm (xs:=[.tmp 83,.tmp 84,.tmp 85])  [.own 9 1 u] O O O (under_c b bd (Bi.names bs) _ [] _ _ _ by11 (HK (bd++Bi.names bs) (by rw [List.length_append,hln];omega)) _ M82 h82 (by have:=f2 bd;omega)) by3 (fun v86 M86 h86=>?_))
    refine Qs ?_
    refine Q0 ?_
    refine go_lp ?_
    first
    | exact ⟨(_,M76),⟨by rw [if_pos g64.1,if_pos g64.2],by have:=f1 (bd++Bi.names bs) (bd++Bi.names bs);have:=f2 (bd++Bi.names bs);omega,h76⟩,by6,Zx _ (Zv _)⟩
    | exact ⟨(_,M86),⟨by rw [if_pos g80,if_neg (fun q=>g64 ⟨g80,q⟩)],by have:=f1 (bd++Bi.names bs) bd;have:=f2 bd;omega,h86⟩,by6,Zx _ (Zv _)⟩
    | exact ⟨(_,M98),⟨by rw [if_neg g80,if_pos g90],by have:=f3 bd (bd++[s]);have:=f4 (bd++[s]);omega,h98⟩,by6,Zx _ (Zv _)⟩
    | exact ⟨(_,M63),⟨by rw [if_neg g80,if_neg g90],by have:=f3 bd bd;have:=f4 bd;omega,h63⟩,by6,Zx _ (Zv _)⟩
   refine Qm ?_
   refine Qc ?_
   refine Qy ?_
   refine Qa ?_
   refine Zb 75 O O O (op_makeFunc (fs:=[]) (cs:=[.tmp 7,.tmp 8]) O O O ?_)
   refine Zb 76 O O O (op_callm (xs:=[.tmp 73,.tmp 74,.tmp 75])  [.own 9 1 u] O O O (under_c b bd (Bi.names bs) _ [] _ _ _ by11 (both_act b (bd++Bi.names bs) _ _ _ _ _ _ _ _ (Bi.frs_len bs _) (HB (bd++Bi.names bs) (by rw [List.length_append,hln];omega)) (HK (bd++Bi.names bs) (by rw [List.length_append,hln];omega))) o1 M hS1 by11) by3 (fun v76 M76 h76=>?_))
   refine Qs ?_
   refine Q0 ?_
   refine go_lp ?_
   first
   | exact ⟨(_,M76),⟨by rw [if_pos g64.1,if_pos g64.2],by have:=f1 (bd++Bi.names bs) (bd++Bi.names bs);have:=f2 (bd++Bi.names bs);omega,h76⟩,by6,Zx _ (Zv _)⟩
   | exact ⟨(_,M86),⟨by rw [if_pos g80,if_neg (fun q=>g64 ⟨g80,q⟩)],by have:=f1 (bd++Bi.names bs) bd;have:=f2 bd;omega,h86⟩,by6,Zx _ (Zv _)⟩
   | exact ⟨(_,M98),⟨by rw [if_neg g80,if_pos g90],by have:=f3 bd (bd++[s]);have:=f4 (bd++[s]);omega,h98⟩,by6,Zx _ (Zv _)⟩
   | exact ⟨(_,M63),⟨by rw [if_neg g80,if_neg g90],by have:=f3 bd bd;have:=f4 bd;omega,h63⟩,by6,Zx _ (Zv _)⟩
  rintro ⟨o2,M⟩ hI
  try dsimp only [List.cons_append,List.nil_append] at hI ⊢
  obtain ⟨hO2,hO2l,hS2⟩:=hI
  rw [← hO2]
  refine Qe ?_
  refine Qv ?_
  refine Zb 101 O O O (op_len O tu_39 O (.seq _ _) (fun n101=>?_))
  refine QW ?_
  refine c_loop (σ:=Nat × Mem) (fun zz=>match zz with|(j,M)=>[(2,.cptr [.ptr b 0]),(100,.seq 16 (Al.cellss al)),(101,.val (.int .i64 (Al.cellss al).length)),(102,.val (.int .i64 j))]) (fun zz=>match zz with|(j,M)=>M) (fun zz=>match zz with|(j,M)=>j≤al.length∧SM b (Al.frs (al.take j) bd o2) bd M) (fun zz=>match zz with|(j,M)=>al.length - j) ((0,M)) ?_ ?_ ?_ ?_
  ·exact ⟨by omega,hS2⟩
  ·exact by6
  ·exact by5
  rintro ⟨j,M⟩ hI
  try dsimp only [List.cons_append,List.nil_append] at hI ⊢
  obtain ⟨hj,hJ⟩:=hI
  refine QX ?_;intro c103 h103
  refine Ql ?_
  obtain ⟨rfl,g103⟩|⟨rfl,g103⟩:=Za h103
  ·refine Qaw ?_
   refine go_end (out_none O (Zv _) ?_)
   rwa [List.take_of_length_le by11] at hJ
  refine Qt ?_
  obtain ⟨⟨⟨zk,zs,zn,zks,zp⟩,⟨yk,yt,yn,⟨ytk,yts,ytn,ytks⟩,yks,yal,ybs,yq⟩⟩,hx⟩:=Zm (l:=al) (i:=j) by11
  have hcx:=Al.cellss_get hx
  have hle:=Al.frs_len (al.take j) bd o2
  have hsm:=sum_at Al.w hx
  rw [Al.ws_map] at hle
  rw [Al.ws_map] at hb hw
  have hft:=Al.frs_take (bd:=bd) (out:=o2) hx
  rw [Al.fr] at hft
  have hzl:=Pa.names_len ⟨zk,zs,zn,zks,zp⟩
  have hza:(Al.mk ⟨zk,zs,zn,zks,zp⟩ ⟨yk,yt,yn,⟨ytk,yts,ytn,ytks⟩,yks,yal,ybs,yq⟩).w=Pa.size ⟨zk,zs,zn,zks,zp⟩+Ex.w ⟨yk,yt,yn,⟨ytk,yts,ytn,ytks⟩,yks,yal,ybs,yq⟩:=by rw [Al.w]
  have HN:=tNames_c ⟨zk,zs,zn,zks,zp⟩ by11
  have HU:=under_c b bd (Pa.names ⟨zk,zs,zn,zks,zp⟩) _ [] _ _ _ by11 (HA _ (Yg hx) (bd++Pa.names ⟨zk,zs,zn,zks,zp⟩) (by rw [List.length_append];simp only [Al.e];omega)) _ M hJ (by simp only [Al.e];omega)
  simp only [Al.e] at HU
  rw [← hft] at HU
  generalize hnm:Pa.names ⟨zk,zs,zn,zks,zp⟩=nm at *
  refine Qc ?_
  refine Zb 104 O O O (Zl O te_39 O (.seq _ _) O O (by assumption) ?_)
  refine Zb 105 O O O (op_load_c (cs':=[_,_,_,_,_,_,_,_,_,_,_,_,_,_,_,_]) O ta_52 O O O (Zb 10 O O O (op_alloce (cs':=[_,_,_,_,_,_,_,_,_,_,_,_,_,_,_,_]) O tz_52 O O ?_)));intro b10
  refine Zs O O (Zk (cs':=[_,_,_,_,_,_,_,_,_,_,_,_,_,_,_,_]) (i:=0) O ts_52 O O O O O (Yc O) O ?_)
  refine Qb ?_
  refine c_fixl 10 0 O O (c_drawnE [0,1,2,4,3,5] [3,5] [[],[],[1],[1,2],[],[0,1,2,3,4]] tmix O ?_)
  refine Qal ?_
  refine QaK ?_
  refine Ze 108 (none) (i:=2) O O O O O (op_load_c (cs':=[_,_,_,_,_]) O ta_50 O O O ⟨O,O⟩) ?_
  refine Ze 110 (none) (i:=4) O O O O O (op_makeFunc (fs:=[]) (cs:=[.tmp 2,.tmp 10]) O O O ⟨O,O⟩) ?_
  refine EOps.nw (i:=3) O O O (op_callo (xs:=[.tmp 108]) O O (HN) by3 (fun u109=>⟨_,O,?_⟩))
  refine EOps.wh (i:=5) O O O O ((op_callg (xs:=[.tmp 106,.tmp 109,.tmp 110])  O O HU by3 (by exact List.Perm.refl _) (fun v111 M111 h111=>?_)))
  show AGo _ _ _ _ _ _ _
  refine QK ?_
  exact ⟨(j+1,M111),⟨by omega,h111⟩,by simp;omega,by6,MLe.left _ _⟩
 refine Qt ?_
 obtain ⟨⟨ys,⟨yk,yt,yn,⟨ytk,yts,ytn,ytks⟩,yks,yal,ybs,yq⟩,yp⟩,hx⟩:=Zm (l:=bs) (i:=i) by11
 have hcx:=Bi.cellss_get hx
 have e:strs (Bi.names (bs.take i))++[[AV.val (.string ys)]]=strs (Bi.names (bs.take (i+1))):=by rw [List.take_add_one,hx];simp [Bi.names,strs,Bi.s]
 refine Qc ?_
 refine Qb3 ?_
 refine QbI ?_
 refine Qbl ?_;intro b6
 refine Qbm ?_
 refine Qb ?_
 refine Qan ?_
 refine Q9 ?_
 refine Zb 55 O O O (Zg (xs:=[.tmp 54]) el_22 O O O O O O (Yc O) ?_)
 refine Zb 56 O O O (op_append (i:=1) el_22 O O O O (.seq _ _) (by rw [Zq];simp;omega) ?_)
 intro u56
 refine Qab ?_
 refine Qs ?_
 refine QK ?_
 exact ⟨(i+1,u56),by simp;omega,by simp;omega,(by repeat' (first|exact SLe.nil _|refine Ya O ?_ ?_|exact Zy _|exact Le.own _ _ _|exact Le.nil _|(refine Le.own_eq ?_;exact e)|(refine Le.own_seq ?_;exact e)|(refine Le.seq_eq ?_;exact e))),Zx _ (Zv _)⟩
termination_by SizeOf.sizeOf e
decreasing_by
 ·exact Ex.lt_kid hx
 ·exact Nat.lt_trans (Bi.lt_e x) (Ex.lt_bind hx)
 exact Nat.lt_trans (Al.lt_e x) (Ex.lt_alt hx)
theorem Free_c (e:Ex) (hw:e.w≤10000000000):OCall Tryd.prog 9 [.agg e.cells] 9 1 (strs (e.fr [] [])):=by
 have H:=fun b M hM=>exp_c e b [] (by simpa using hw) [] M hM (by simpa using hw)
 generalize e.fr [] []=r at *
 obtain ⟨k,s,n,⟨tk,ts,tn,tks⟩,ks,al,bs,p⟩:=e
 refine Zc Tryd.func9 O (by kernel_rfl) O (Yc O) ?_
 refine Q8 ?_
 refine QaU ?_
 refine Qh ?_
 refine Qd ?_
 refine Zb 4 O O O (Zi (ns:=[]) (xs:=[]) O tz_66 O tfl_66 O O O O (Zb 5 O O O (op_boxe (cs':=[_,_]) O O O O ?_)));intro b5
 refine QZ ?_
 refine c_mem (SM.start b5) ?_
 refine Qan ?_
 refine QaF ?_
 refine Zb 8 O O O (op_callm (xs:=[.tmp 6,.tmp 7])  [] O O O (H b5 _ ⟨.slice none 0 0,none,0,O⟩) (Les.refl _) (fun v8 M8 h8=>?_))
 obtain ⟨uo,ao,cap,rfl⟩:=h8
 refine Qb ?_
 refine Qr ?_
 refine QaZ ?_
 refine Q9 ?_
 refine QJ ?_
 exact Zf O O (Zy _) (Zx _ (MLe.cons _ (Zx _ MLe.nil))) ⟨_,O,O⟩
def Ex.kind:Ex→Int|.mk k _ _ _ _ _ _ _=>k
inductive Ex.Val:Ex→Prop
 | leaf {k n p:Int} {s:Txt} {t:Ty} {ks:List Ex} {al:List Al} {bs:List Bi} (h:k=2∨k=3∨k=4∨k=6):Ex.Val (.mk k s n t ks al bs p)
 | ann {n p:Int} {s:Txt} {t:Ty} {x:Ex} {al:List Al} {bs:List Bi} (h:Ex.Val x):Ex.Val (.mk 12 s n t [x] al bs p)
 | app4 {n p:Int} {s:Txt} {t:Ty} {f x:Ex} {al:List Al} {bs:List Bi} (hf:f.kind=4) (h:Ex.Val x):Ex.Val (.mk 5 s n t [f,x] al bs p)
 | app5 {n p:Int} {s:Txt} {t:Ty} {f x:Ex} {al:List Al} {bs:List Bi} (hf:f.kind=5) (hv:Ex.Val f) (h:Ex.Val x):Ex.Val (.mk 5 s n t [f,x] al bs p)
theorem Ex.val_iff {k n p:Int} {s:Txt} {t:Ty} {ks:List Ex} {al:List Al} {bs:List Bi}:(Ex.mk k s n t ks al bs p).Val↔(k=2∨k=3∨k=4∨k=6)∨(k=12∧∃ x,ks=[x]∧x.Val)∨(k=5∧∃ f x,ks=[f,x]∧(f.kind=4∨f.kind=5∧f.Val)∧x.Val):=by
 constructor
 ·intro h
  cases h with
  | leaf h=>exact .inl h
  | ann h=>exact .inr (.inl ⟨rfl,_,rfl,h⟩)
  | app4 hf h=>exact .inr (.inr ⟨rfl,_,_,rfl,.inl hf,h⟩)
  | app5 hf hv h=>exact .inr (.inr ⟨rfl,_,_,rfl,.inr ⟨hf,hv⟩,h⟩)
 rintro (h|⟨rfl,x,rfl,h⟩|⟨rfl,f,x,rfl,hf|⟨hf,hv⟩,h⟩)
 ·exact .leaf h
 ·exact .ann h
 ·exact .app4 hf h
 exact .app5 hf hv h
end Go.Proofs.YtefbicnoddggnaaDoor
namespace Go.Proofs.YtefbicnoddggnaaDoor
open Go.RowKit
theorem two_of {α:Type} {l:List α} (h:l.length=2):∃ a b,l=[a,b]:=by
 match l,h with
 | [a,b],_=>exact ⟨a,b,rfl⟩
theorem one_of {α:Type} {l:List α} (h:l.length=1):∃ a,l=[a]:=by
 match l,h with
 | [a],_=>exact ⟨a,rfl⟩
theorem one_opt (l:List Ex):∃ x,l.length=1→l=[x]:=by
 by_cases h:l.length=1
 ·obtain ⟨x,rfl⟩:=one_of h
  exact ⟨x,fun _=>O⟩
 exact ⟨⟨0,⟨#[]⟩,0,⟨0,⟨#[]⟩,0,[]⟩,[],[],[],0⟩,fun q=>absurd q h⟩
theorem tValue_c (e:Ex):BCall Tryd.prog 8 [.agg e.cells] e.Val:=by
 obtain ⟨k,s,n,⟨tk,ts,tn,tks⟩,ks,al,bs,p⟩:=e
 have IH:∀ x∈ks,BCall Tryd.prog 8 [.agg x.cells] x.Val:=fun x hx=>tValue_c x
 have hl:=Ex.cellss_len ks
 rw [Ex.val_iff]
 refine Zc Tryd.func8 O (by kernel_rfl) O (Yc O) ?_
 refine Q8 ?_
 refine QaU ?_
 refine QZ ?_
 refine Qv ?_
 refine Qb ?_
 refine QH ?_
 refine Qp ?_
 refine Qd ?_
 refine Qi ?_;intro c7 h7
 refine Qh ?_
 obtain ⟨rfl,g7⟩|⟨rfl,g7⟩:=Za h7
 ·refine QI ?_
  refine Qd ?_
  refine Qi ?_;intro c8 h8
  refine Qh ?_
  obtain ⟨rfl,g8⟩|⟨rfl,g8⟩:=Za h8
  ·refine QI ?_
   refine Qd ?_
   refine Qi ?_;intro c9 h9
   refine Qh ?_
   obtain ⟨rfl,g9⟩|⟨rfl,g9⟩:=Za h9
   ·refine QI ?_
    refine Qc ?_
    refine Qi ?_;intro c10 h10
    refine Qh ?_
    obtain ⟨rfl,g10⟩|⟨rfl,g10⟩:=Za h10
    ·refine QI ?_
     refine Qd ?_
     refine Qi ?_;intro c12 h12
     refine Qh ?_
     obtain ⟨rfl,g12⟩|⟨rfl,g12⟩:=Za h12
     ·refine QI ?_
      refine Qd ?_
      refine Qi ?_;intro c41 h41
      refine Qh ?_
      obtain ⟨rfl,g41⟩|⟨rfl,g41⟩:=Za h41
      ·refine QC ?_
       refine Q0 ?_
       refine Qe ?_
       refine Qau ?_
       refine c_ret (Zf O O (Zy _) by5 ⟨⟨_,iff_f ?_,O⟩,O⟩)
       rintro (h|⟨h,_⟩|⟨h,_⟩) <;> omega
      refine Qag ?_
      obtain ⟨⟨xk,xs,xn,⟨xtk,xts,xtn,xtks⟩,xks,xal,xbs,xp⟩,hx0⟩:=one_opt ks
      have HX:ks.length=1→BCall Tryd.prog 8 [.agg (Ex.mk xk xs xn ⟨xtk,xts,xtn,xtks⟩ xks xal xbs xp).cells] (Ex.mk xk xs xn ⟨xtk,xts,xtn,xtks⟩ xks xal xbs xp).Val:=fun h=>IH _ (by rw [hx0 h];simp)
      refine Zp 2 (ks.length=1∧(Ex.mk xk xs xn ⟨xtk,xts,xtn,xtks⟩ xks xal xbs xp).Val) ?_ _ _ O ?_
      ·skip
       refine Qg ?_
       refine Qa0 ?_;intro n44
       refine Qi ?_;intro c45 h45
       refine Qa ?_
       obtain ⟨rfl,g45⟩|⟨rfl,g45⟩:=Za h45
       ·skip
        refine Qj ?_
        refine QL ?_
        refine Qn ?_
        refine Yb O ?_ by7 by5
        simp_all;omega
       skip
       refine Qo ?_
       refine Zh 49 O O O O O (Zl O te_38 O (.seq _ _) O O ((by rw [hx0 by11];rfl)) ?_)
       refine Qbu ?_
       refine Zh 51 O O O O O (Zj (xs:=[.tmp 50]) O O ((HX by11)) by3 ?_);intro c51 h51
       refine Qn ?_
       refine Yb O ?_ by7 by5
       simp_all;omega
      intro c2 h2
      refine Qw ?_
      refine Zf O O (Zy _) by5 ⟨⟨_,h2.trans ⟨fun q=>.inr (.inl ⟨by omega,_,hx0 q.1,q.2⟩),?_⟩,O⟩,O⟩
      rintro (h|⟨_,x,e,q⟩|⟨h,_⟩)
      ·omega
      ·subst e
       have:=hx0 rfl
       simp only [List.cons.injEq,and_true] at this
       subst this
       exact ⟨O,q⟩
      omega
     refine Qag ?_
     refine Qv ?_
     refine Qa0 ?_;intro n15
     refine Qba ?_;intro c16 h16
     refine Qb ?_
     obtain ⟨rfl,g16⟩|⟨rfl,g16⟩:=Za h16
     ·refine Q4 ?_
      obtain ⟨⟨xk,xs,xn,⟨xtk,xts,xtn,xtks⟩,xks,xal,xbs,xp⟩,⟨yk,yt,yn,⟨ytk,yts,ytn,ytks⟩,yks,yal,ybs,yp⟩,rfl⟩:=two_of (l:=ks) by11
      have H1:=IH _ (List.mem_cons_self)
      have H2:=IH ⟨yk,yt,yn,⟨ytk,yts,ytn,ytks⟩,yks,yal,ybs,yp⟩ by12
      refine Qc ?_
      refine Qg ?_
      refine Zb 19 O O O (Zl (i:=0) O te_38 O (.seq _ _) O O (by first|rfl|assumption) ?_)
      refine QaF ?_
      refine Q1 ?_;intro b3
      refine QR ?_
      refine Ql ?_
      refine Zp 2 ((xk=4∨xk=5∧Ex.Val ⟨xk,xs,xn,⟨xtk,xts,xtn,xtks⟩,xks,xal,xbs,xp⟩)∧Ex.Val ⟨yk,yt,yn,⟨ytk,yts,ytn,ytks⟩,yks,yal,ybs,yp⟩) ?_ _ _ O ?_
      ·skip
       refine Q9 ?_
       refine Qi ?_;intro c23 h23
       refine Qa ?_
       obtain ⟨rfl,g23⟩|⟨rfl,g23⟩:=Za h23
       ·skip
        refine Qai ?_
        refine QS ?_;intro c27 h27
        refine Qf ?_
        obtain ⟨rfl,g27⟩|⟨rfl,g27⟩:=Za h27
        ·skip
         refine Qac ?_
         refine Qx ?_
         refine QaC ?_
         refine QL ?_
         refine Qn ?_
         refine Yb O ?_ by7 by5
         simp_all;done
        skip
        refine Qb5 ?_
        refine Zh 30 O O O O O (Zj (xs:=[.tmp 29]) O O (H1) by3 ?_);intro c30 h30
        refine Qx ?_
        refine Qq ?_
        obtain ⟨rfl,g30⟩|⟨rfl,g30⟩:=Za h30
        ·skip
         refine Qj ?_
         refine QL ?_
         refine Qn ?_
         refine Yb O ?_ by7 by5
         simp_all;done
        skip
        refine Qo ?_
        refine Qb6 ?_
        refine Qbu ?_
        refine Zh 38 O O O O O (Zj (xs:=[.tmp 37]) O O (H2) by3 ?_);intro c38 h38
        refine Qn ?_
        refine Yb O ?_ by7 by5
        simp_all;done
       skip
       refine Qj ?_
       refine QN ?_
       refine QL ?_
       refine Qq ?_
       refine Qo ?_
       refine Qb6 ?_
       refine Qbu ?_
       refine Zh 38 O O O O O (Zj (xs:=[.tmp 37]) O O (H2) by3 ?_);intro c38 h38
       refine Qn ?_
       refine Yb O ?_ by7 by5
       simp_all;done
      intro c2 h2
      refine Qw ?_
      refine Zf O O (Zy _) by5 ⟨⟨_,h2.trans ⟨fun q=>.inr (.inr ⟨g12,_,_,O,q⟩),?_⟩,O⟩,O⟩
      rintro (h|⟨h,_⟩|⟨_,f,x,e,q⟩)
      ·omega
      ·omega
      simp only [List.cons.injEq,and_true] at e
      obtain ⟨rfl,rfl⟩:=e
      exact q
     refine Qz ?_
     refine Zf O O (Zy _) by5 ⟨⟨_,iff_f ?_,O⟩,O⟩
     rintro (h|⟨h,_⟩|⟨_,f,x,rfl,_⟩)
     ·omega
     ·omega
     simp at hl;omega
    refine Qz ?_
    exact Zf O O (Zy _) by5 ⟨⟨_,iff_t (.inl by11),O⟩,O⟩
   refine Qm ?_
   refine c_skip ?_
   refine Qe ?_
   refine Qz ?_
   exact Zf O O (Zy _) by5 ⟨⟨_,iff_t (.inl by11),O⟩,O⟩
  refine Qm ?_
  refine c_skip ?_
  refine Qe ?_
  refine Qz ?_
  exact Zf O O (Zy _) by5 ⟨⟨_,iff_t (.inl by11),O⟩,O⟩
 refine Qm ?_
 refine c_skip ?_
 refine Qe ?_
 refine Qz ?_
 exact Zf O O (Zy _) by5 ⟨⟨_,iff_t (.inl by11),O⟩,O⟩
termination_by SizeOf.sizeOf e
decreasing_by exact Ex.lt_kid hx
end Go.Proofs.YtefbicnoddggnaaDoor
namespace Go.Proofs.YtefbicnoddggnaaDoor
open Go.ChangeShapes Go.WideShapes Go.ChangeAt Go.RowKit
def clsX:List ByteArray:=[kcEq,kcOrd,kcShow]
theorem bindX_cls (a:Int) (cs:List Cn) {cl:ByteArray} (h:cl∈clsX):∃ nm e,bindX a cs cl=some (nm,e):=by
 unfold bindX
 simp only [clsX,List.mem_cons,List.not_mem_nil,or_false] at h
 by_cases h1:cl=kcEq
 ·rw [if_pos h1];exact ⟨_,_,rfl⟩
 by_cases h2:cl=kcOrd
 ·rw [if_neg h1,if_pos h2];exact ⟨_,_,rfl⟩
 rw [if_neg h1,if_neg h2,if_pos (by rcases h with h|h|h;exact absurd h h1;exact absurd h h2;exact h)];exact ⟨_,_,rfl⟩
theorem DeriveBack_c (d:Da):ACall Tryd.prog 3 [.agg d.cells] [.fact KidF] (fun v _=>v=.val (.bool true)):=by
 have HS:=small18_c d
 have HI:=fun (h:smP d) cl=>Inst_c d (h.dtg.das h.ps) cl
 have HB:=fun (h:smP d) cl (hc:cl∈clsX)=>bindX_cls d.p d.cs hc
 have HOK:=fun (h:smP d) {cl nm e} (hb:bindX d.p d.cs cl=some (nm,e))=>bindX_ok (a:=d.p) h.cnu hb
 have hiR:∀ cl nm e,bindX d.p d.cs cl=some (nm,e)→instR d cl=(instX d cl nm e,0):=fun cl nm e hb=>by unfold instR;rw [hb]
 generalize smP d=sm at *
 obtain ⟨ds,dps,dcs,ddv,dp⟩:=d
 have hlp:=Zq dps
 refine Zc Tryd.func3 O (by kernel_rfl) O (Yc O) ?_
 refine Q8 ?_
 refine QaX ?_
 refine QZ ?_
 refine Qd ?_
 refine Zb 10 O O O (Zd (xs:=[]) O O (awake18_c) by3 ?_)
 refine QV ?_;intro c11 h11
 try replace h11:=nott h11 h10
 refine Qb ?_
 obtain ⟨rfl,g11⟩|⟨rfl,g11⟩:=Za h11
 ·refine Q4 ?_
  refine Qd ?_
  refine Qbk ?_
  refine Zb 13 O O O (Zj (xs:=[.tmp 12]) O O (HS) by3 ?_);intro c13 h13
  refine QV ?_;intro c14 h14
  try replace h14:=nott h14 h13
  refine Qb ?_
  obtain ⟨rfl,g14⟩|⟨rfl,g14⟩:=Za h14
  ·refine Q4 ?_
   refine Qp ?_
   have hsm:=Classical.not_not.1 g14
   replace HI:=HI hsm
   replace HB:=HB hsm
   have HOK:=fun {cl nm e} hb=>HOK hsm (cl:=cl) (nm:=nm) (e:=e) hb
   refine Qc ?_
   refine Zb 15 O O O (Zg (xs:=[.const (.string ⟨#[69,113]⟩),.const (.string ⟨#[79,114,100]⟩),.const (.string ⟨#[83,104,111,119]⟩)]) el_22 O O O O O O (Yc O) ?_)
   refine QaJ ?_;intro n16
   refine QW ?_
   apply Zu (rg [(0,1),(2,13),(17,81)]) (σ:=Nat) (fun zz=>match zz with|i=>[(17,.val (.int .i64 i))]) (fun zz=>match zz with|i=>i≤3) (fun zz=>match zz with|i=>3 - i) (0)
   ·repeat' (first|exact Yf|apply Yd rfl|apply Ye rfl)
   ·exact Nat.zero_le _
   ·exact by6
   rintro i hI
   try dsimp only [List.cons_append,List.nil_append] at hI ⊢
   have hi:=hI
   refine QX ?_;intro c18 h18
   refine Ql ?_
   obtain ⟨rfl,g18⟩|⟨rfl,g18⟩:=Za h18
   ·refine Qao ?_
    exact Zf O O (Zy _) (Zw _) O
   refine Qt ?_
   have hi3:i<3:=by
    have g:(i:Int)<3:=g18
    omega
   obtain ⟨cl,hcl⟩:=Zm (l:=clsX) (i:=i) hi3
   have hcc:=strs_get hcl
   obtain ⟨nm,e,hb⟩:=HB cl (Yg hcl)
   have HIc:=HI cl
   rw [hiR _ _ _ hb] at HIc
   obtain ⟨hok,n0,b0,he0⟩:=HOK hb
   have HG:=Good_c e hok.gd
   have HV:PCall Tryd.prog 8 [.agg e.cells] (.val (.bool true)):=(tValue_c e).yes (by rw [he0];exact .leaf (.inr (.inr (.inr rfl))))
   have HF:=Free_c e (by have:=hok.w;omega)
   have hA:=Ex.cl_fr e [] [] hok.cl by12
   generalize e.fr [] []=fr at *
   have hlf:=Zq fr
   clear he0 hok
   obtain ⟨ek,es,en,⟨etk,ets,etn,etl⟩,eks,eal,ebs,ep⟩:=e
   have hl1:(Bi.cellss [Bi.mk nm (Ex.mk ek es en ⟨etk,ets,etn,etl⟩ eks eal ebs ep) dp]).length=1:=by rw [Bi.cellss_len];rfl
   have hl2:(Ty.cellss (dps.map parT)).length=dps.length:=by rw [Ty.cellss_len,List.length_map]
   have hl3:(Pr.cellss (dps.map fun s=>Pr.mk cl (parT s))).length=dps.length:=by rw [Pr.cellss_len,List.length_map]
   replace HIc:PCall Tryd.prog 6 [.agg (Da.mk ds dps dcs ddv dp).cells,.val (.string cl)] (.tup [.agg (In.mk cl (Ty.mk 3 ds 0 (dps.map parT)) (dps.map fun s=>Pr.mk cl (parT s)) [Bi.mk nm (Ex.mk ek es en ⟨etk,ets,etn,etl⟩ eks eal ebs ep) dp] dp).cells,.val (.int .i64 0)]):=HIc
   refine Qc ?_
   refine Zb 19 O O O (Zl O te_22 O (.seq _ _) O O (hcc) ?_)
   refine Qy ?_
   refine Qh ?_
   refine Qd ?_
   refine Qbk ?_
   refine Qa ?_
   refine Zb 24 O O O (Zd (xs:=[.tmp 22,.tmp 23]) O O (HIc) by3 ?_)
   refine Qa ?_
   refine Qbq ?_
   refine Qbq ?_
   refine Qbj ?_;intro b5
   refine QbD ?_
   refine QZ ?_
   refine Qp ?_
   refine Zp 59 (False) ?_ _ _ O ?_
   ·skip
    refine Qa ?_
    refine Qba ?_;intro c28 h28
    refine Qa ?_
    obtain ⟨rfl,g28⟩|⟨rfl,g28⟩:=Za h28
    ·skip
     refine Qai ?_
     refine Qf ?_
     refine QaR ?_;intro c33 h33
     refine Qq ?_
     obtain ⟨rfl,g33⟩|⟨rfl,g33⟩:=Za h33
     ·skip
      refine Qai ?_
      refine Zh 38 O O O O O (op_len O tu_32 O (.seq _ _) (fun n38=>?_))
      refine QaS ?_;intro c39 h39
      refine Qq ?_
      obtain ⟨rfl,g39⟩|⟨rfl,g39⟩:=Za h39
      ·skip
       refine Qai ?_
       refine Zh 44 O O O O O (op_len O tu_31 O (.seq _ _) (fun n44=>?_))
       refine Qo ?_
       refine QbG ?_;intro n47
       refine QaS ?_;intro c48 h48
       refine Qq ?_
       obtain ⟨rfl,g48⟩|⟨rfl,g48⟩:=Za h48
       ·skip
        refine Qbv ?_
        refine Qai ?_
        refine Qbp ?_;intro n54
        refine Qo ?_
        refine QbG ?_;intro n57
        refine QaS ?_;intro c58 h58
        refine Qk ?_
        refine Yb O ?_ by7 by5
        clear HS HI HB HIc HG HV HF hA;first|(simp_all;done)|(simp_all;omega)|omega
       skip
       refine Q7 ?_
       refine Qk ?_
       refine Yb O ?_ by7 by5
       clear HS HI HB HIc HG HV HF hA;first|(simp_all;done)|(simp_all;omega)|omega
      skip
      refine Qj ?_
      refine QE ?_
      refine Q7 ?_
      refine Qk ?_
      refine Yb O ?_ by7 by5
      clear HS HI HB HIc HG HV HF hA;first|(simp_all;done)|(simp_all;omega)|omega
     skip
     refine Qj ?_
     refine QaC ?_
     refine QE ?_
     refine Q7 ?_
     refine Qk ?_
     refine Yb O ?_ by7 by5
     clear HS HI HB HIc HG HV HF hA;first|(simp_all;done)|(simp_all;omega)|omega
    skip
    refine Qj ?_
    refine QaC ?_
    refine QaC ?_
    refine QE ?_
    refine Q7 ?_
    refine Qk ?_
    refine Yb O ?_ by7 by5
    clear HS HI HB HIc HG HV HF hA;first|(simp_all;done)|(simp_all;omega)|omega
   intro c59 h59
   refine Qe ?_
   obtain ⟨rfl,g59⟩|⟨rfl,g59⟩:=Za h59
   ·refine QC ?_
    refine Qe ?_
    refine Qd ?_
    refine Q9 ?_
    refine QbZ ?_
    refine QbI ?_
    refine Qbl ?_;intro b7
    refine Qbm ?_
    refine Ql ?_
    refine Qp ?_
    refine Zp 73 (False) ?_ _ _ O ?_
    ·skip
     refine QF ?_
     refine Qaj ?_
     refine Zb 66 O O O (op_callk (xs:=[.tmp 65]) [2] O O O (HG) by3 ?_)
     refine QV ?_;intro c67 h67
     try replace h67:=nott h67 h66
     refine Qa ?_
     obtain ⟨rfl,g67⟩|⟨rfl,g67⟩:=Za h67
     ·skip
      refine Qbv ?_
      refine Qb5 ?_
      refine Zh 71 O O O O O (Zd (xs:=[.tmp 70]) O O (HV) by3 ?_)
      refine QaY ?_;intro c72 h72
      try replace h72:=nott h72 h71
      refine Qk ?_
      refine Yb O ?_ by7 by5
      clear HS HI HB HIc HG HV HF hA;first|(simp_all;done)|(simp_all;omega)
     skip
     refine Qj ?_
     refine Qk ?_
     refine Yb O ?_ by7 by5
     clear HS HI HB HIc HG HV HF hA;first|(simp_all;done)|(simp_all;omega)
    intro c73 h73
    refine Qe ?_
    obtain ⟨rfl,g73⟩|⟨rfl,g73⟩:=Za h73
    ·refine QC ?_
     refine Qe ?_
     refine Qd ?_
     refine QF ?_
     refine Qaj ?_
     refine Zb 76 O O O (op_callo (xs:=[.tmp 75]) O O (HF) by3 ?_);intro u76
     refine Zb 77 O O O (op_len O tu_22 O (.own _ _ _) (fun n77=>?_))
     refine QW ?_
     refine c_lens (t:=76) O (.own _ _ _) (fun hmax=>?_)
     apply Zu (rg [(0,1),(2,2),(8,7),(78,19)]) (σ:=Nat) (fun zz=>match zz with|j=>[(78,.val (.int .i64 j))]) (fun zz=>match zz with|j=>j≤fr.length) (fun zz=>match zz with|j=>fr.length - j) (0)
     ·repeat' (first|exact Yf|apply Yd rfl|apply Ye rfl)
     ·exact Nat.zero_le _
     ·exact by6
     rintro j hI
     try dsimp only [List.cons_append,List.nil_append] at hI ⊢
     have hj:=hI
     refine QX ?_;intro c79 h79
     refine Ql ?_
     obtain ⟨rfl,g79⟩|⟨rfl,g79⟩:=Za h79
     ·refine Qaw ?_
      refine QK ?_
      exact ⟨i+1,by show i+1≤3;omega,by show 3 - (i+1)<3 - i;omega,by6,(by repeat' (first|exact Zv _|refine Zx _ ?_))⟩
     refine Qt ?_
     obtain ⟨q,hxq⟩:=Zm (l:=fr) (i:=j) by8
     have hcq:=strs_get hxq
     have hmq:=Yg hxq
     have hq:=hA q hmq
     unfold Alw at hq
     refine Qc ?_
     refine Zb 80 O O O (Zl O te_22 O (.own _ _ _) O O (hcq) ?_)
     refine Qy ?_
     refine QZ ?_
     refine Zp 95 (False) ?_ _ _ O ?_
     ·skip
      refine Qa ?_
      refine QaL ?_;intro c83 h83
      refine Qa ?_
      obtain ⟨rfl,g83⟩|⟨rfl,g83⟩:=Za h83
      ·skip
       refine QO ?_
       refine QO ?_
       refine Qap ?_
       refine Yb O ?_ by7 by5
       clear HS HI HB HIc HG HV HF hA;rcases hq with hq|hq|hq|hq <;> simp_all
      skip
      refine Qf ?_
      refine QaR ?_;intro c86 h86
      refine Qq ?_
      obtain ⟨rfl,g86⟩|⟨rfl,g86⟩:=Za h86
      ·skip
       refine QO ?_
       refine Qap ?_
       refine Yb O ?_ by7 by5
       clear HS HI HB HIc HG HV HF hA;rcases hq with hq|hq|hq|hq <;> simp_all
      skip
      refine Qf ?_
      refine QaR ?_;intro c90 h90
      refine Qq ?_
      obtain ⟨rfl,g90⟩|⟨rfl,g90⟩:=Za h90
      ·skip
       refine Qap ?_
       refine Yb O ?_ by7 by5
       clear HS HI HB HIc HG HV HF hA;rcases hq with hq|hq|hq|hq <;> simp_all
      skip
      refine Qf ?_
      refine QaR ?_;intro c94 h94
      refine Qk ?_
      refine Yb O ?_ by7 by5
      clear HS HI HB HIc HG HV HF hA;rcases hq with hq|hq|hq|hq <;> simp_all
     intro c95 h95
     refine Qe ?_
     obtain ⟨rfl,g95⟩|⟨rfl,g95⟩:=Za h95
     ·refine QC ?_
      refine QK ?_
      exact ⟨j+1,by show j+1≤fr.length;omega,by show fr.length - (j+1)<fr.length - j;omega,by6,by5⟩
     exact g95.elim
    exact g73.elim
   exact g59.elim
  refine Qz ?_
  exact Zf O O (Zy _) (Zw _) O
 refine Qag ?_
 exact absurd g11 by12
theorem law_runF {P:Program} {w:World} {f:FuncId} {vs:List AV} {us:List Value} {p:EH→Prop} (h:ACall P f vs [.fact p] (fun v _=>v=.val (.bool true))) (hp:∀ F',Ext (cellF w) F'→p F') (hr:Rels (cellF w) vs us):Calls P f us.toArray w fun e w'=>e=.returned (.bool true)∧Below w.heap.size w w':=by
 refine (h.run w.heap.size (cellF w) [] w us ⟨Nat.le_refl _,fun _ _ _ h=>h,fun r hr=>?_,List.pairwise_singleton _ _⟩ hr).mono ?_
 ·simp only [List.append_nil,List.mem_singleton] at hr
  subst hr
  exact hp
 rintro e w' ⟨u,v,M',F',rfl,rfl,h3,_,_,h6⟩
 cases h3
 exact ⟨O,h6⟩
/- the frame -/
abbrev laidK : List (String × DataW Unit) := [("cognate/cognateref07.kids", Rows.laid_cognate_cognateref07_kids)]
theorem deriveBack_own:ownKnob Tryd.prog.godebug=none:=by kernel_rfl
theorem deriveBack_laidOut:laidOutB Tryd.prog=true:=by kernel_rfl
theorem gK : Tryd.prog.globalNamed "cognate/cognateref07.kids" = some 0 := by kernel_rfl
theorem tK:(Tryd.prog.globals[0]?).map (·.type)=some 60:=by kernel_rfl
theorem cK:Tryd.prog.cellsOf 3=1:=by kernel_rfl
theorem aK:Tryd.prog.cellsOf 60=13:=by kernel_rfl
theorem door_met (os:Os) (args:Array Value):laidMetH Tryd.prog laidK ((World.doorLaid Tryd.prog 400 os).forCall (fun _ _=>0) ⟨#[],args,[]⟩).memory :=
 laidMetH_of_parts3 (fuel:=8) (laidMet_of_run' 8 (by kernel_rfl) (by kernel_rfl)) (by kernel_rfl) (by kernel_rfl)
theorem kid_of {W:World} (h:laidMetH Tryd.prog laidK W):∀ F',Ext (cellF W) F'→KidF F':=by
 rw [MakeChecks.laidMetH_plain _ _ _ (by kernel_rfl)] at h
 have hT : Lib.TabIs Tryd.prog W "cognate/cognateref07.kids" .i64 kidsL := Lib.tabIs_of_head gK tK tu_60 tu_3 cK aK h
 intro F' hF i hi
 exact hF _ _ _ (hT.cell gK i hi)
theorem deriveBack_lifted (os:Os) (started:os.Started) (H:Type) (enc:TypeId × Value→H) :
    ReturnsInHanded {} Tryd.checked os 3 .any (fun w args=>(Rows.deriveBackSpec.pre enc Tryd.prog Tryd.f3 [] false w args∧laidMetH Tryd.prog laidK w)∧sizedMet enc Tryd.prog Tryd.f3 (OpenSpec.ofChange Rows.deriveBackSpec) false w args)
     (Rows.deriveBackSpec.post enc Tryd.prog Tryd.f3 false true false false):=by
 refine returnsInHanded_of_change_and (C:=Tryd.checked) (X:=fun w _=>laidMetH Tryd.prog laidK w) (fun _ _ _ hh h=>h.of_heap hh) deriveBack_own started (by kernel_rfl) Tryd.func3
  (ChangeSpec.witness_shaped (enc:=enc) (C:=Tryd.checked) (os:=os) (X:=fun w _=>laidMetH Tryd.prog laidK w) false (World.doorLaid Tryd.prog 400 os) #[.agg #[.string ⟨#[]⟩,.slice none 0 0,.slice none 0 0,.slice none 0 0,.int .i64 0]] 8 rfl (World.shaped_of_RefB (by kernel_rfl) (by kernel_rfl)) (by kernel_rfl) (by kernel_rfl) (by kernel_rfl) (door_met os _)) ?_
 intro W base args ds gs before hval0 hW _ _ hL _
 have hval:∀ (j:Nat) t v,Tryd.f3.params[j]?=some t→args[j]?=some v→Value.okWide Tryd.prog W .any base t v:=hval0
 have hW':=hW
 obtain ⟨p,q,hA0,hV,rfl,hfz,hnd⟩:=hW
 have hA:DataW.TrodAll enc Tryd.prog W 0 (fun _=>true) true Tryd.f3.params.toList args.toList ds p:=hA0
 rw [Tryd.params3] at hA hval
 obtain ⟨rfl,rfl⟩:=trodVars_none hV
 obtain ⟨v0,d0,rfl,rfl,h0⟩:=trodAll_one hA
 obtain ⟨f0,c0,s0,r0,o0⟩:=open_one closed18 by10 h0
 obtain ⟨d,rfl⟩:=shape_da s0
 refine (law_runF (DeriveBack_c d) (kid_of hL) (.cons (rel_agg' (by rw [Da.cells_len'];decide) r0 o0) .nil)).mono fun e W' ⟨he,hb⟩=>?_
 subst he
 exact ⟨_,O,law_post (tb:=4) deriveBack_laidOut (by kernel_rfl) (by kernel_rfl) Tryd.underlying4 O O O O hW' hb⟩
theorem deriveBack_holds:Rows.DeriveBackSaid :=
 OpenClaim.holds_of_wide 3 Tryd.f3 rfl rfl rfl rfl rfl rfl rfl ⟨rfl,rfl,rfl,rfl,rfl⟩ rfl rfl rfl rfl rfl (by kernel_rfl) Tryd.func3 (by kernel_rfl)
  (of_decide_eq_true (by kernel_rfl)) (by unfold Func.isWrapper;first|(rw [if_pos by9];kernel_rfl)|(rw [if_neg by9];exact ⟨rfl,rfl⟩))
  (fun os started H enc _=>deriveBack_lifted os started H enc)
theorem deriveBackCard_holds:Rows.DeriveBackCardSaid :=
 Claim7.holds_tied_plain_at .later [] [.data] true (true, "e2b581182bda290e3a6870f99f9bd3324bc3051c70d70fde7b683f2b09de2803") false
  deriveBack_holds (fun _ h=>by cases h) (by kernel_rfl) (fun _ h=>by cases h) deriveBack_row_tie rfl ⟨rfl,rfl⟩ (by kernel_rfl) rfl
  (fun f fn hf hfn=>by
   obtain rfl : f = 3 := Option.some.inj ((show Tryd.prog.funcNamed "cognate/cognatelaw18.DeriveBack" = some 3 by kernel_rfl).symm.trans hf) |>.symm
   obtain rfl:fn=Tryd.f3:=(Option.some.inj (Tryd.func3.symm.trans hfn)).symm
   exact ⟨by kernel_rfl,fun j t ht=>by
    rw [Tryd.params3] at ht
    have hm:t∈[25]:=by simpa using Array.mem_of_getElem? ht
    have hall:([25].all fun u => !Tryd.prog.wantsStandIn u)=true:=by kernel_rfl
    exact (show Tryd.prog.wantsStandIn t=false by simpa using List.all_eq_true.1 hall t hm)⟩)
  (by kernel_rfl)
#print axioms deriveBackCard_holds
end Go.Proofs.YtefbicnoddggnaaDoor
