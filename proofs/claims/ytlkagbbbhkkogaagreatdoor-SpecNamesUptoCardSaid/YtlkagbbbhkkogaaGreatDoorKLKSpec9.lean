/- Parts of a proof: cognatelaw25.SpecNames; SpecNames: the lifted proof. -/
import Derived.Test.YtlkagbbbhkkogaaGreatDoorKLKSpec8
import Derived.Test.YtlkagbbbhkkogaaGreatDoorChecked
import Derived.Test.YtlkagbbbhkkogaaGreatDoorRows
import Derived.Test.YtlkagbbbhkkogaaGreatDoorCards
import Derived.Test.YtlkagbbbhkkogaaGreatDoorTie
import Derived.LaidMore
import Derived.Lib.LaidTab
import Derived.Stop.Joined
import Derived.SevenTiedAt
set_option maxRecDepth 100000
set_option maxHeartbeats 4000000
namespace Go.Proofs.YtlkagbbbhkkogaaGreatDoor
open Go.RowKit
theorem SpecNames_c (e:Co) (names:List Txt) (rr:List Co) (hle:e.Lim) (hlr:∀ x∈rr,x.Lim) (hw:e.w≤1000000000) (hn:names.length≤1000000000):ACall Tryz.prog 3 [.agg e.cells,.seq 1 (strs names),.seq 11 (Co.cellss rr)] [.fact KidF] (fun v _=>v=.val (.bool true)):=by
 have HS:=coSmall_c e hle 300 by6 by6
 have HSr:∀ x∈rr,BCall Tryz.prog 6 [.agg x.cells,.val (.int .i64 50)] (x.small 50):=fun x hx=>coSmall_c x (hlr x hx) 50 by6 by6
 have HN1:=(Names25_c e hw).pure
 have HN2:=rNames25_c e hw
 rw [e.names_eq] at HN1
 have HT:=Texts_c e.rn e.rn
 rw [show (e.rn=e.rn)=True from propext ⟨fun _=>trivial,fun _=>rfl⟩] at HT
 have HW1:=Swap25_c names rr e hw
 have HW2:=rSwap25_c e names rr hn hw
 have HE:=rcoSame_c (e.so (lkC names rr)) (e.so (lkC names rr))
 rw [show ((e.so (lkC names rr)).bare=(e.so (lkC names rr)).bare)=True from propext ⟨fun _=>trivial,fun _=>rfl⟩] at HE
 generalize e.small 300=sm at *
 generalize e.so (lkC names rr)=q at *
 generalize e.rn=en at *
 have hlc:=Co.cellss_len rr
 have hls:=Zm names
 obtain ⟨k,s,n,⟨tk,tS,tn,tl⟩,ts,ks,al,bs⟩:=e
 obtain ⟨qk,qs,qn,⟨qtk,qtS,qtn,qtl⟩,qts,qks,qal,qbs⟩:=q
 refine Zd Tryz.func3 V (by kernel_rfl) V (Yh V) ?_
 refine Qac ?_
 refine Q0 ?_
 refine QP ?_
 refine Qd ?_
 refine Zb 9 V V V (op_callk (xs:=[]) [0] V V V (NE.awake25_c) by1 ?_)
 refine Q8 ?_;intro c10 h10
 try replace h10:=nott h10 h9
 refine Qb ?_
 obtain ⟨rfl,g10⟩|⟨rfl,g10⟩:=Za h10
 ·refine QO ?_
  refine Qe ?_
  refine c_bool 23 (¬ sm∨10<names.length∨10<rr.length) ?_ _ _ V ?_
  ·skip
   refine QA ?_
   refine Zb 12 V V V (Zq (xs:=[.tmp 11,.const (.int .i64 300)]) V V (HS) by1 ?_);intro c12 h12
   refine Q8 ?_;intro c13 h13
   try replace h13:=nott h13 h12
   refine Qa ?_
   obtain ⟨rfl,g13⟩|⟨rfl,g13⟩:=Za h13
   ·skip
    refine QB ?_
    refine Zp 16 V V V V V (op_len V tu_30 V (.seq _ _) (fun n16=>?_))
    refine Qbi ?_;intro c17 h17
    refine Qo ?_
    obtain ⟨rfl,g17⟩|⟨rfl,g17⟩:=Za h17
    ·skip
     refine QB ?_
     refine QaP ?_;intro n21
     refine Qbi ?_;intro c22 h22
     refine Qp ?_
     refine Yf V ?_ by4 by2
     clear HS HSr HN1 HN2 HT HW1 HW2 HE;first|(simp_all;done)|(simp_all;omega)|grind
    skip
    refine Qj ?_
    refine QS ?_
    refine Yf V ?_ by4 by2
    clear HS HSr HN1 HN2 HT HW1 HW2 HE;first|(simp_all;done)|(simp_all;omega)|grind
   skip
   refine Qj ?_
   refine Qar ?_
   refine Qo ?_
   refine Qj ?_
   refine QS ?_
   refine Yf V ?_ by4 by2
   clear HS HSr HN1 HN2 HT HW1 HW2 HE;first|(simp_all;done)|(simp_all;omega)|grind
  intro c23 h23
  refine Qc ?_
  obtain ⟨rfl,g23⟩|⟨rfl,g23⟩:=Za h23
  ·refine QO ?_
   refine QC ?_
   refine Qah ?_;intro n25
   refine Qam ?_
   apply c_loopkm (rg [(0,1),(4,20),(26,8)]) (σ:=Nat) (fun zz=>match zz with|i=>[(26,.val (.int .i64 i))]) (fun zz=>match zz with|i=>i≤rr.length) (fun zz=>match zz with|i=>rr.length - i) (0)
   ·repeat' (first|exact Drops.nil|apply Drops.keep rfl|apply Drops.skip rfl)
   ·exact Nat.zero_le _
   ·exact by3
   rintro i hI
   try dsimp only [List.cons_append,List.nil_append] at hI ⊢
   have hi:=hI
   refine Qan ?_;intro c27 h27
   refine QR ?_
   obtain ⟨rfl,g27⟩|⟨rfl,g27⟩:=Za h27
   ·refine QH ?_
    refine c_boold 6 (True) tmix V ?_ _ _ V ?_
    ·skip
     refine QaA ?_
     refine Zl 35 V V (Zi (xs:=[.tmp 34]) V V (HN1) by1 ⟨V,V⟩) ?_
     refine QaA ?_
     refine Zl 37 V V (Zi (xs:=[.tmp 36]) V V (HN2) by1 ⟨V,V⟩) ?_
     refine DOps.cm 38 V V (fun _ q=>Zq (xs:=[.tmp 35,.tmp 37]) V V (HT) by1 q) ?_;intro c38 h38
     refine QD ?_
     obtain ⟨rfl,g38⟩|⟨rfl,g38⟩:=Za h38
     ·skip
      refine Qr ?_
      refine Qr ?_
      refine Qax ?_
      refine QN ?_
      refine QaT ?_
      show BoolQ _ _ _ _ _ _
      refine Yf V ?_ by4 by2
      clear HS HSr HN1 HN2 HT HW1 HW2 HE;first|(simp_all;done)|grind
     skip
     refine Qv ?_
     refine Qv ?_
     refine QaH ?_
     refine DOps.gt 43 V V V V (Zi (xs:=[.tmp 40,.tmp 41,.tmp 42]) V V (HW1) by1 ⟨V,V⟩) ?_
     refine Qv ?_
     refine Qv ?_
     refine QaH ?_
     refine DOps.gt 47 V V V V (Zi (xs:=[.tmp 44,.tmp 45,.tmp 46]) V V (HW2) by1 ⟨V,V⟩) ?_
     refine DOps.gtc 48 V V V V (fun _ q=>Zq (xs:=[.tmp 43,.tmp 47]) V V (HE) by1 q) ?_;intro c48 h48
     refine QN ?_
     refine QaT ?_
     show BoolQ _ _ _ _ _ _
     refine Yf V ?_ by4 by2
     clear HS HSr HN1 HN2 HT HW1 HW2 HE;first|(simp_all;done)|grind
    intro c6 h6
    refine Qc ?_
    exact c_ret (Zg V V (Ye _) (MLe.none _) (by rw [h6.2 trivial]))
   refine Qq ?_
   obtain ⟨x,hx⟩:=Ze (l:=rr) (i:=i) by7
   have hcx:=Co.cellss_get hx
   have HX:=HSr x (Yi hx)
   generalize x.small 50=sx at *
   obtain ⟨xk,xs,xn,⟨xtk,xtS,xtn,xtl⟩,xts,xks,xal,xbs⟩:=x
   refine Qm ?_
   refine Qbb ?_
   refine QA ?_
   refine Qai ?_;intro b8
   refine Qay ?_
   refine Qb ?_
   refine Qd ?_
   refine Qa0 ?_
   refine Zb 31 V V V (Zq (xs:=[.tmp 30,.const (.int .i64 50)]) V V (HX) by1 ?_);intro c31 h31
   refine Q8 ?_;intro c32 h32
   try replace h32:=nott h32 h31
   refine Qb ?_
   obtain ⟨rfl,g32⟩|⟨rfl,g32⟩:=Za h32
   ·refine Qw ?_
    refine Qao ?_
    exact ⟨i+1,by show i+1≤rr.length;omega,by show rr.length - (i+1)<rr.length - i;omega,by3,by2⟩
   refine QK ?_
   exact Zg V V (Ye _) (MLe.none _) V
  refine QK ?_
  exact Zg V V (Ye _) (MLe.none _) V
 refine Qf ?_
 refine Qe ?_
 exact absurd g10 by8
end Go.Proofs.YtlkagbbbhkkogaaGreatDoor
namespace Go.Proofs.YtlkagbbbhkkogaaGreatDoor
open Go.ChangeShapes Go.WideShapes Go.ChangeAt Go.RowKit
theorem law_runF {P:Program} {w:World} {f:FuncId} {vs:List AV} {us:List Value} {p:EH→Prop} (h:ACall P f vs [.fact p] (fun v _=>v=.val (.bool true))) (hp:∀ F',Ext (cellF w) F'→p F') (hr:Rels (cellF w) vs us):Calls P f us.toArray w fun e w'=>e=.returned (.bool true)∧Below w.heap.size w w':=by
 refine (h.run w.heap.size (cellF w) [] w us ⟨Nat.le_refl _,fun _ _ _ h=>h,fun r hr=>?_,List.pairwise_singleton _ _⟩ hr).mono ?_
 ·simp only [List.append_nil,List.mem_singleton] at hr
  subst hr
  exact hp
 rintro e w' ⟨u,v,M',F',rfl,rfl,h3,_,_,h6⟩
 cases h3
 exact ⟨V,h6⟩
/- the frame -/
abbrev laidK : List (String × DataW Unit) := [("cognate/cognateref07.kids", Rows.laid_cognate_cognateref07_kids)]
theorem specNames_own:ownKnob Tryz.prog.godebug=none:=by kernel_rfl
theorem specNames_laidOut:laidOutB Tryz.prog=true:=by kernel_rfl
theorem gK : Tryz.prog.globalNamed "cognate/cognateref07.kids" = some 0 := by kernel_rfl
theorem tK:(Tryz.prog.globals[0]?).map (·.type)=some 357:=by kernel_rfl
theorem cK:Tryz.prog.cellsOf 3=1:=by kernel_rfl
theorem aK:Tryz.prog.cellsOf 357=13:=by kernel_rfl
theorem uK:Tryz.prog.underlying 357=some (.array 13 3):=by kernel_rfl
theorem door_met (os:Os) (args:Array Value):laidMetH Tryz.prog laidK ((World.doorLaid Tryz.prog 400 os).forCall (fun _ _=>0) ⟨#[],args,[]⟩).memory :=
 laidMetH_of_parts3 (fuel:=8) (laidMet_of_run' 8 (by kernel_rfl) (by kernel_rfl)) (by kernel_rfl) (by kernel_rfl)
theorem kid_of {W:World} (h:laidMetH Tryz.prog laidK W):∀ F',Ext (cellF W) F'→KidF F':=by
 rw [MakeChecks.laidMetH_plain _ _ _ (by kernel_rfl)] at h
 have hT : Lib.TabIs Tryz.prog W "cognate/cognateref07.kids" .i64 kidsL := Lib.tabIs_of_head gK tK uK tu_3 cK aK h
 intro F' hF i hi
 exact hF _ _ _ (hT.cell gK i hi)
theorem specNames_lifted (os:Os) (started:os.Started) (H:Type) (enc:TypeId × Value→H) (F0:Stop.Interp) :
    ReturnsInHanded {} Tryz.checked os 3 .any (fun w args=>((Rows.OpenSpec.upto Rows.specNamesSpec).pre enc Tryz.prog Tryz.f3 [] false w args∧laidMetH Tryz.prog laidK w)∧sizedMet enc Tryz.prog Tryz.f3 (Rows.OpenSpec.upto Rows.specNamesSpec) false w args)
     (((Rows.OpenSpec.upto Rows.specNamesSpec).at F0).post enc Tryz.prog Tryz.f3 false true false false):=by
 refine cond_and (C:=Tryz.checked) (s:=(Rows.OpenSpec.upto Rows.specNamesSpec)) (k:=Rows.uptoSmall) V (X:=fun w=>laidMetH Tryz.prog laidK w) (fun _ _ hh h=>h.of_heap hh) specNames_own started (by kernel_rfl) Tryz.func3
  (cond_witness (enc:=enc) (C:=Tryz.checked) (os:=os) (s:=(Rows.OpenSpec.upto Rows.specNamesSpec)) (k:=Rows.uptoSmall) rfl (X:=fun w=>laidMetH Tryz.prog laidK w) false (World.doorLaid Tryz.prog 400 os) #[.agg #[.int .i64 0,.string ⟨#[]⟩,.int .i64 0,.int .i64 0,.string ⟨#[]⟩,.int .i64 0,.slice none 0 0,.slice none 0 0,.slice none 0 0,.slice none 0 0,.slice none 0 0],.slice none 0 0,.slice none 0 0] 8 rfl (World.shaped_of_RefB (by kernel_rfl) (by kernel_rfl)) (by kernel_rfl) (by kernel_rfl) (by kernel_rfl) (door_met os _)) ?_
 intro W base args ds gs before hval0 hW hk hsz0 hL _
 have hval:∀ (j:Nat) t v,Tryz.f3.params[j]?=some t→args[j]?=some v→Value.okWide Tryz.prog W .any base t v:=hval0
 have hsz:(DataW.weightsEach Tryz.prog (Tryz.f3.params.toList++Rows.specNamesSpec.plain.varTypes Tryz.prog) (ds++gs)).all (·≤reachBytes)=true:=hsz0
 have hW':=hW
 obtain ⟨p,q,hA0,hV,rfl,hfz,hnd⟩:=hW
 have hA:DataW.TrodAll enc Tryz.prog W 0 (fun _=>true) true Tryz.f3.params.toList args.toList ds p:=hA0
 rw [Tryz.params3] at hA hval hsz
 obtain ⟨rfl,rfl⟩:=trodVars_none hV
 obtain ⟨v0,v1,v2,d0,d1,d2,p0,p1,p2,rfl,rfl,rfl,h0,h1,h2⟩:=trodAll_three hA
 obtain ⟨f0,c0,s0,r0,o0,b0⟩:=open_two closed21 hsz 0 rfl rfl by6 h0
 obtain ⟨f1,c1,s1,r1,o1,b1⟩:=open_two closed21 hsz 1 rfl rfl by6 h1
 obtain ⟨f2,c2,s2,r2,o2,_⟩:=open_two closed21 hsz 2 rfl rfl by6 h2
 have hu0:=upto_le (j:=0) hk rfl
 have hu1:=upto_le (j:=1) hk rfl
 obtain ⟨e,rfl,hle⟩:=shapeL_co _ by6 _ _ s0
 obtain ⟨names,rfl,_⟩:=shapeL_strs s1
 obtain ⟨rr,rfl,hlr⟩:=shapeL_cos by6 s2
 have hwb:=Co.w_bulk e
 have hnb:=strs_bulkss names
 simp only [bulks,AV.bulk] at b1
 refine (law_runF (SpecNames_c e names rr hle hlr by7 by7) (kid_of hL) (.cons (rel_agg' (by rw [Co.cells_len];decide) r0 o0) (.cons (rel_cell (okw_slice Tryz.underlying30 (hval 1 30 v1 rfl rfl)) r1) (.cons (rel_cell (okw_slice Tryz.underlying25 (hval 2 25 v2 rfl rfl)) r2) .nil)))).mono fun e W' ⟨he,hb⟩=>?_
 subst he
 exact ⟨_,V,law_post (s:=Rows.specNamesSpec) (tb:=4) specNames_laidOut (by kernel_rfl) (by kernel_rfl) Tryz.underlying4 V V V V hW' hb⟩
end Go.Proofs.YtlkagbbbhkkogaaGreatDoor
