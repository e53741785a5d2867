/- Parts of a proof: cognatelaw24.DirectClose; DirectClose: the lifted proof. -/
import Derived.Test.YtlkagbbbhkkogaaGreatDoorKLKDir6
import Derived.Test.YtlkagbbbhkkogaaGreatDoorChecked
import Derived.Test.YtlkagbbbhkkogaaGreatDoorRows
import Derived.LaidMore
import Derived.Lib.LaidTab
import Derived.Stop.Joined
set_option maxRecDepth 100000
set_option maxHeartbeats 4000000
namespace Go.Proofs.YtlkagbbbhkkogaaGreatDoor
open Go.RowKit
theorem Close_c (names:List ByteArray) (ts:List Ty) (t:Ty) (h1:∀ x∈ts,x.size≤1000000) (h2:t.size≤1000000):PCall Tryz.prog 16 [.seq 1 (strs names),.seq 4 (Ty.cellss ts),.agg t.cells] (.agg (t.turn (putO names ts)).cells):=by
 have HP:=Put_c names ts t h1 h2
 generalize t.turn (putO names ts)=r at *
 obtain ⟨k,s,n,ks⟩:=t
 obtain ⟨rk,rs,rn,rks⟩:=r
 refine Zj Tryz.func16 V (by kernel_rfl) V (Zn V) ?_
 refine QD ?_
 refine Zb 5 V V V (op_boxc (cs':=[_,_,_,_]) V V V V ?_)
 refine QA ?_;intro b6
 refine Qc ?_
 refine Qm ?_
 refine Qa ?_
 refine QF ?_
 refine Zb 10 V V V (op_callp (xs:=[.tmp 7,.tmp 8,.tmp 9]) V V (HP) by0 ?_)
 refine Qv ?_
 refine Qc ?_
 refine Qd ?_
 exact out_cell (i:=0) V V V ta_24 V (by repeat' (first|exact Le.refl _|exact Le.own _ _ _|exact Le.nil _|refine Le.agg ?_|refine Le.tup ?_|exact Les.refl _|refine Les.cons ?_ ?_|refine Le.seq ?_|exact Less.refl _|exact Less.nil|refine Less.cons ?_ V ?_)) (MLe.none _) ⟨V,V⟩
theorem DirectClose_c (names:List ByteArray) (ts:List Ty) (t:Ty):ACall Tryz.prog 4 [.seq 1 (strs names),.seq 4 (Ty.cellss ts),.agg t.cells] [.fact KidF] (fun v _=>v=.val (.bool true)):=by
 have HS:=Small_c t 100 by5 by5
 have hS:=fun (h:t.small 100=true)=>(Ty.small_size by5 h).1
 have HC:=fun h1 h2=>Close_c names ts t h1 h2
 have HR:=fun h1 h2=>rPut_c names h1 ts t.size t (Nat.le_refl _) h2
 have hln:=strs_len names
 have hlt:=Ty.cellss_len ts
 generalize t.small 100=bt at hS HS
 generalize t.turn (putO names ts)=r at HC HR
 generalize t.size=sz at *
 have HE:=SameType_c r r
 rw [show (r=r)=True from propext ⟨fun _=>trivial,fun _=>rfl⟩] at HE
 obtain ⟨k,s,n,ks⟩:=t
 obtain ⟨rk,rs,rn,rks⟩:=r
 refine Zj Tryz.func4 V (by kernel_rfl) V (Zn V) ?_
 refine QD ?_
 refine Zb 5 V V V (op_boxc (cs':=[_,_,_,_]) V V V V ?_)
 refine Qi ?_
 refine Qb ?_
 refine Qf ?_
 refine Zb 9 V V V (op_callk (xs:=[]) [0] V V V (NE.awake24_c) by0 ?_)
 refine Zb 10 V V V (op_notc V V ?_);intro c10 h10
 try replace h10:=nott h10 h9
 refine Qc ?_
 obtain ⟨rfl,g10⟩|⟨rfl,g10⟩:=Ze h10
 ·refine Qg ?_
  refine Qp ?_
  refine Qb ?_
  refine c_bool 23 (20<names.length∨20<ts.length∨¬ bt=true) ?_ _ _ V ?_
  ·skip
   refine Qa ?_
   refine QP ?_;intro n12
   refine Zb 13 V V V (op_gtr V V V ?_);intro c13 h13
   refine Qa ?_
   obtain ⟨rfl,g13⟩|⟨rfl,g13⟩:=Ze h13
   ·skip
    refine QL ?_
    refine QW ?_;intro n16
    refine Zm 17 V V V V V (op_gtr V V V ?_);intro c17 h17
    refine Qs ?_
    refine Qa ?_
    obtain ⟨rfl,g17⟩|⟨rfl,g17⟩:=Ze h17
    ·skip
     refine Zm 20 V V V V V (op_load_c (cs':=[_,_,_,_]) V ta_24 V V V (Zm 21 V V V V V (op_callb (xs:=[.tmp 20,.const (.int .i64 100)]) V V (HS) by0 ?_)));intro c21 h21
     refine Zm 22 V V V V V (op_notc V V ?_);intro c22 h22
     try replace h22:=nott h22 h21
     refine Qs ?_
     refine Qk ?_
     refine BoolQ.mk V ?_ by4 by2
     clear hS HS HC HR HE;first|(simp_all;done)|(simp_all;omega)|grind
    skip
    refine QB ?_
    refine Qk ?_
    refine BoolQ.mk V ?_ by4 by2
    clear hS HS HC HR HE;first|(simp_all;done)|(simp_all;omega)|grind
   skip
   refine QB ?_
   refine Qa ?_
   refine QB ?_
   refine Qk ?_
   refine BoolQ.mk V ?_ by4 by2
   clear hS HS HC HR HE;first|(simp_all;done)|(simp_all;omega)|grind
  intro c23 h23
  refine Qe ?_
  obtain ⟨rfl,g23⟩|⟨rfl,g23⟩:=Ze h23
  ·refine Qg ?_
   refine Qp ?_
   refine Qm ?_
   refine Qw ?_;intro n25
   refine Qa ?_
   refine Qc ?_
   refine Ql ?_
   apply c_loopkm (rg [(2,3),(6,18),(26,8)]) (σ:=Nat) (fun zz=>match zz with|i=>[(26,.val (.int .i64 i))]) (fun zz=>match zz with|i=>i≤ts.length∧∀ x∈ts.take i,Ty.small x 50=true) (fun zz=>match zz with|i=>ts.length - i) (0)
   ·repeat' (first|exact Drops.nil|apply Drops.keep rfl|apply Drops.skip rfl)
   ·exact ⟨Nat.zero_le _,by simp⟩
   ·exact by3
   rintro i hI
   try dsimp only [List.cons_append,List.nil_append] at hI ⊢
   obtain ⟨hi,hu⟩:=hI
   refine Qf ?_
   refine Qx ?_;intro c27 h27
   refine Qc ?_
   refine Qb ?_
   obtain ⟨rfl,g27⟩|⟨rfl,g27⟩:=Ze h27
   ·refine Qg ?_
    refine c_exit (x_code (x_lp (x_here ?_)))
    refine Qe ?_
    refine Qb ?_
    rw [List.take_of_length_le by5] at hu
    have hts:∀ x∈ts,x.size≤1000000:=fun x hx=>by have:=(Ty.small_size by5 (hu x hx)).1;omega
    have hbt:bt=true:=Classical.not_not.1 fun q=>g23 (.inr (.inr q))
    have hsz:sz≤1000000:=by have:=hS hbt;omega
    have HC:=HC hts hsz
    have HR:=HR by5 hsz
    refine c_boold 6 (True) tmix V ?_ _ _ V ?_
    ·skip
     refine Qy ?_
     refine Qy ?_
     refine QN ?_
     refine DOps.st 37 V V (op_callp (xs:=[.tmp 34,.tmp 35,.tmp 36]) V V (HC) by0 ⟨V,V⟩) ?_
     refine Qy ?_
     refine Qy ?_
     refine QN ?_
     refine DOps.st 41 V V (op_callp (xs:=[.tmp 38,.tmp 39,.tmp 40]) V V (HR) by0 ⟨V,V⟩) ?_
     refine DOps.cm 42 V V (fun _ q=>op_callb (xs:=[.tmp 37,.tmp 41]) V V (HE) by0 q) ?_;intro c42 h42
     refine DOps.st 6 V V (op_assign V V ⟨V,V⟩) ?_
     show BoolQ _ _ _ _ _ _
     refine BoolQ.mk V ?_ by4 by2
     clear hS HS HC HR HE;first|(simp_all;done)|grind
    intro c6 h6
    refine Qe ?_
    refine Qd ?_
    exact out_tmp V V (Le.refl _) (MLe.none _) (by rw [h6.2 trivial])
   refine Qh ?_
   refine Qp ?_
   refine Ql ?_
   refine Qb ?_
   obtain ⟨⟨yk,ys,yn,yks⟩,hy⟩:=get_some (l:=ts) (i:=i) by5
   have hcy:=Ty.cellss_get hy
   refine Qr ?_
   refine Zb 28 V V V (op_index V te_22 V (.seq _ _) V V (hcy) ?_)
   refine QF ?_
   refine QA ?_;intro b8
   refine Qv ?_
   refine Qc ?_
   refine Qf ?_
   refine QR ?_
   refine Zb 31 V V V (op_callb (xs:=[.tmp 30,.const (.int .i64 50)]) V V (Small_c (.mk yk ys yn yks) 50 by5 by5) by0 ?_);intro c31 h31
   refine Zb 32 V V V (op_notc V V ?_);intro c32 h32
   try replace h32:=nott h32 h31
   refine Qc ?_
   obtain ⟨rfl,g32⟩|⟨rfl,g32⟩:=Ze h32
   ·refine Qg ?_
    refine c_skip ?_
    refine QC ?_
    refine Qr ?_
    refine Qu ?_
    refine Qa ?_
    refine Qk ?_
    refine go_lp ?_
    refine ⟨i+1,⟨by show i+1≤ts.length;omega,?_⟩,by show ts.length - (i+1)<ts.length - i;omega,by3,by2⟩
    rw [take_snoc hy]
    intro x hx
    rcases List.mem_append.1 hx with q|q
    ·exact hu x q
    simp at q;subst q;exact Classical.not_not.1 g32
   refine Qh ?_
   refine Qo ?_
   refine Qd ?_
   exact out_tmp V V (Le.refl _) (MLe.none _) V
  refine Qh ?_
  refine Qo ?_
  refine Qd ?_
  exact out_tmp V V (Le.refl _) (MLe.none _) V
 refine Qh ?_
 refine Qb ?_
 exact absurd g10 (by simp)
end Go.Proofs.YtlkagbbbhkkogaaGreatDoor
namespace Go.Proofs.YtlkagbbbhkkogaaGreatDoor
open Go.ChangeShapes Go.WideShapes Go.ChangeAt Go.RowKit
theorem rel_agg' {F:EH} {v:Value} {cs:List AV} (hl:cs.length≠1) (h:Rels F cs v.cells.toList) (h1:Ones v.cells.toList):Rel F (.agg cs) v:=by
 refine rel_agg ?_ h h1
 have:=h.len
 cases v <;> first|exact ⟨_,rfl⟩|(exfalso;exact hl (by rw [this];rfl))
theorem law_runF {P:Program} {w:World} {f:FuncId} {vs:List AV} {us:List Value} {p:EH→Prop} (h:ACall P f vs [.fact p] (fun v _=>v=.val (.bool true))) (hp:∀ F',Ext (cellF w) F'→p F') (hr:Rels (cellF w) vs us):Calls P f us.toArray w fun e w'=>e=.returned (.bool true)∧Below w.heap.size w w':=by
 refine (h.run w.heap.size (cellF w) [] w us ⟨Nat.le_refl _,fun _ _ _ h=>h,fun r hr=>?_,List.pairwise_singleton _ _⟩ hr).mono ?_
 ·simp only [List.append_nil,List.mem_singleton] at hr
  subst hr
  exact hp
 rintro e w' ⟨u,v,M',F',rfl,rfl,h3,_,_,h6⟩
 cases h3
 exact ⟨V,h6⟩
/- the frame -/
abbrev laidK : List (String × DataW Unit) := [("cognate/cognateref07.kids", Rows.laid_cognate_cognateref07_kids)]
theorem directClose_own:ownKnob Tryz.prog.godebug=none:=by kernel_rfl
theorem directClose_laidOut:laidOutB Tryz.prog=true:=by kernel_rfl
theorem gK : Tryz.prog.globalNamed "cognate/cognateref07.kids" = some 0 := by kernel_rfl
theorem tK:(Tryz.prog.globals[0]?).map (·.type)=some 357:=by kernel_rfl
theorem cK:Tryz.prog.cellsOf 3=1:=by kernel_rfl
theorem aK:Tryz.prog.cellsOf 357=13:=by kernel_rfl
theorem uK:Tryz.prog.underlying 357=some (.array 13 3):=by kernel_rfl
theorem door_met (os:Os) (args:Array Value):laidMetH Tryz.prog laidK ((World.doorLaid Tryz.prog 400 os).forCall (fun _ _=>0) ⟨#[],args,[]⟩).memory :=
 laidMetH_of_parts3 (fuel:=8) (laidMet_of_run' 8 (by kernel_rfl) (by kernel_rfl)) (by kernel_rfl) (by kernel_rfl)
theorem kid_of {W:World} (h:laidMetH Tryz.prog laidK W):∀ F',Ext (cellF W) F'→KidF F':=by
 rw [MakeChecks.laidMetH_plain _ _ _ (by kernel_rfl)] at h
 have hT : Lib.TabIs Tryz.prog W "cognate/cognateref07.kids" .i64 kidsL := Lib.tabIs_of_head gK tK uK tu_3 cK aK h
 intro F' hF i hi
 exact hF _ _ _ (hT.cell gK i hi)
abbrev S24:List TypeId:=[24,22,3,9,30]
theorem closed24:closedT Tryz.prog S24=true:=by kernel_rfl
theorem directClose_lifted (os:Os) (started:os.Started) (H:Type) (enc:TypeId × Value→H) :
    ReturnsInHanded {} Tryz.checked os 4 .any (fun w args=>(Rows.directCloseSpec.pre enc Tryz.prog Tryz.f4 [] false w args∧laidMetH Tryz.prog laidK w)∧sizedMet enc Tryz.prog Tryz.f4 (OpenSpec.ofChange Rows.directCloseSpec) false w args)
     (Rows.directCloseSpec.post enc Tryz.prog Tryz.f4 false true false false):=by
 refine returnsInHanded_of_change_and (C:=Tryz.checked) (X:=fun w _=>laidMetH Tryz.prog laidK w) (fun _ _ _ hh h=>h.of_heap hh) directClose_own started (by kernel_rfl) Tryz.func4
  (ChangeSpec.witness_shaped (enc:=enc) (C:=Tryz.checked) (os:=os) (X:=fun w _=>laidMetH Tryz.prog laidK w) false (World.doorLaid Tryz.prog 400 os) #[.slice none 0 0,.slice none 0 0,.agg #[.int .i64 0,.string ⟨#[]⟩,.int .i64 0,.slice none 0 0]] 8 rfl (World.shaped_of_RefB (by kernel_rfl) (by kernel_rfl)) (by kernel_rfl) (by kernel_rfl) (by kernel_rfl) (door_met os _)) ?_
 intro W base args ds gs before hval0 hW _ _ hL _
 have hval:∀ (j:Nat) t v,Tryz.f4.params[j]?=some t→args[j]?=some v→Value.okWide Tryz.prog W .any base t v:=hval0
 have hW':=hW
 obtain ⟨p,q,hA0,hV,rfl,hfz,hnd⟩:=hW
 have hA:DataW.TrodAll enc Tryz.prog W 0 (fun _=>true) true Tryz.f4.params.toList args.toList ds p:=hA0
 rw [Tryz.params4] at hA hval
 obtain ⟨rfl,rfl⟩:=trodVars_none hV
 obtain ⟨v0,v1,v2,d0,d1,d2,p0,p1,p2,rfl,rfl,rfl,h0,h1,h2⟩:=trodAll_three hA
 obtain ⟨f0,c0,s0,r0,o0⟩:=open_one closed24 (by decide) h0
 obtain ⟨f1,c1,s1,r1,o1⟩:=open_one closed24 (by decide) h1
 obtain ⟨f2,c2,s2,r2,o2⟩:=open_one closed24 (by decide) h2
 obtain ⟨names,rfl⟩:=shape_strs s0
 obtain ⟨ts,rfl⟩:=shape_tys s1
 obtain ⟨t,rfl⟩:=shape_ty _ _ s2
 refine (law_runF (DirectClose_c names ts t) (kid_of hL) (.cons (rel_cell (okw_slice Tryz.underlying30 (hval 0 30 v0 rfl rfl)) r0) (.cons (rel_cell (okw_slice Tryz.underlying22 (hval 1 22 v1 rfl rfl)) r1) (.cons (rel_agg' (by cases t;simp [Ty.cells]) r2 o2) .nil)))).mono fun e W' ⟨he,hb⟩=>?_
 subst he
 exact ⟨_,V,law_post (tb:=4) directClose_laidOut (by kernel_rfl) (by kernel_rfl) Tryz.underlying4 V V V V hW' hb⟩
end Go.Proofs.YtlkagbbbhkkogaaGreatDoor
