/- DeriveInst: of any data type that the grammar can make, not too great, and any class, the program derives the document's instance, or there is none. -/
import Derived.Test.YtefbicnoddggnaaKLKInst4
import Derived.Test.YtefbicnoddggnaaChecked
import Derived.Test.YtefbicnoddggnaaRows
set_option maxRecDepth 100000
set_option maxHeartbeats 4000000
namespace Go.Proofs.Ytefbicnoddggnaa
open Go.RowKit
theorem Pa.pin_pin (a:Int) (p:Pa):(p.pin a).pin a=p.pin a:=by
 obtain ⟨k,s,n,ks,pl⟩:=p
 rw [Pa.pin,Pa.pin,Pa.pins_map,Pa.pins_map,List.map_map]
 congr 1
 refine List.map_congr_left fun x hx=>?_
 exact Pa.pin_pin a x
termination_by SizeOf.sizeOf p
decreasing_by exact Pa.lt_kid hx
theorem Ex.pin_pin (a:Int) (e:Ex):(e.pin a).pin a=e.pin a:=by
 obtain ⟨k,s,n,t,ks,al,bs,pl⟩:=e
 rw [Ex.pin,Ex.pin,Ex.pins_map,Ex.pins_map,Al.pins_map,Al.pins_map,List.map_map,List.map_map]
 congr 1
 ·refine List.map_congr_left fun x hx=>?_
  exact Ex.pin_pin a x
 refine List.map_congr_left fun x hx=>?_
 obtain ⟨q,y⟩:=x
 have hlt:SizeOf.sizeOf y<SizeOf.sizeOf (Ex.mk k s n t ks al bs pl):=Nat.lt_trans (Al.lt_e (.mk q y)) (Ex.lt_alt hx)
 show Al.pin a (Al.pin a (.mk q y))=Al.pin a (.mk q y)
 rw [Al.pin,Al.pin,Pa.pin_pin a q,Ex.pin_pin a y]
termination_by SizeOf.sizeOf e
decreasing_by
 ·exact Ex.lt_kid hx
 exact hlt
theorem map_id_mem {α:Type} {f:α→α}:∀ {l:List α},l.map f=l→∀ x∈l,f x=x
 | [],_,x,h=>by simp at h
 | y::l,e,x,h=>by
  rw [List.map_cons] at e
  obtain ⟨e1,e2⟩:=List.cons.inj e
  rcases List.mem_cons.1 h with rfl|h
  ·exact e1
  exact map_id_mem e2 x h
theorem patAt_c (a:Int) (p:Pa):p.pin a=p→PCall Try.prog 44 [.agg p.cells,.val (.int .i64 a)] (.val (.bool true)):=by
 obtain ⟨pk,ps,pn,ks,pp⟩:=p
 intro hp
 rw [Pa.pin,Pa.pins_map] at hp
 obtain ⟨_,_,_,h1,h2⟩:=Pa.mk.inj hp
 subst h2
 have IH:∀ x∈ks,PCall Try.prog 44 [.agg x.cells,.val (.int .i64 a)] (.val (.bool true)):=fun x hx=>patAt_c a x (map_id_mem h1 x hx)
 have hl:=Pa.cellss_len ks
 clear h1 hp
 refine Zc Try.func44 Y (by kernel_rfl) Y (Xb Y) ?_
 refine Qan ?_
 refine c_lena (t:=0) (j:=3) Y Y (.seq _ _) (fun hmax=>?_)
 refine Qn ?_
 refine QcD ?_
 refine Qau ?_
 refine Qaw ?_
 refine Qdu ?_;intro n9
 refine QbF ?_
 apply Zw (rg [(0,1),(3,5),(10,9)]) (σ:=Nat) (fun zz=>match zz with|i=>[(10,.val (.int .i64 i))]) (fun zz=>match zz with|i=>i≤ks.length) (fun zz=>match zz with|i=>ks.length - i) (0)
 ·repeat' (first|exact Xe|apply Xc rfl|apply Xd rfl)
 ·exact Nat.zero_le _
 ·exact by6
 rintro i hI
 try dsimp only [List.cons_append,List.nil_append] at hI ⊢
 have hi:=hI
 refine QbG ?_;intro c11 h11
 refine QL ?_
 obtain ⟨rfl,g11⟩|⟨rfl,g11⟩:=Za h11
 ·refine Qar ?_
  refine Qn ?_
  refine Qaa ?_
  refine Qi ?_;intro c22 h22
  refine Qu ?_
  obtain rfl:c22=true:=h22.2 rfl
  exact Zg Y Y (Yv _) (Yr _) ⟨Y,Y⟩
 refine QI ?_
 obtain ⟨⟨qk,qs,qn,ql,qp⟩,hxq⟩:=Zn (l:=ks) (i:=i) by9
 have hcq:=Pa.cellss_get hxq
 have hmq:=Xf hxq
 have HPq:=IH _ hmq
 refine Qj ?_
 refine Zb 12 Y Y Y (Zo Y te_50 Y (.seq _ _) Y Y (hcq) (Zb 13 Y Y Y (Yb (cs':=[_,_,_,_,_]) Y ta_52 Y Y Y ?_)))
 refine QaB ?_;intro b6
 refine Qbo ?_
 refine QG ?_
 refine Qbg ?_
 refine Qb ?_
 refine Zb 16 Y Y Y (Zd (xs:=[.tmp 14,.tmp 15]) Y Y (HPq) by3 ?_)
 refine Qab ?_;intro c17 h17
 try replace h17:=nott h17 h16
 refine Qa ?_
 obtain ⟨rfl,g17⟩|⟨rfl,g17⟩:=Za h17
 ·refine QaD ?_
  refine Qa1 ?_
  exact ⟨i+1,by show i+1≤ks.length;omega,by show ks.length - (i+1)<ks.length - i;omega,by6,by5⟩
 refine Qbd ?_
 exact absurd g17 by17
termination_by SizeOf.sizeOf p
decreasing_by exact Pa.lt_kid hx
theorem pin_parts {a:Int} {e:Ex} (h:e.pin a=e) (hw:e.wid):(∀ x∈e.parts,x.pin a=x∧x.wid)∧e.parts.length≤2000:=by
 obtain ⟨k,s,n,t,ks,al,bs,p⟩:=e
 rw [Ex.pin,Ex.pins_map,Al.pins_map] at h
 obtain ⟨_,_,_,_,h1,h2,h3,_⟩:=Ex.mk.inj h
 rw [Ex.wid,Ex.wids_iff,Al.wids_iff] at hw
 obtain ⟨w1,w2,w3,w4⟩:=hw
 have hk:∀ x∈ks,x.pin a=x∧x.wid:=fun x hx=>⟨map_id_mem h1 x hx,w3 x hx⟩
 refine ⟨fun x hx=>?_,?_⟩
 ·simp only [Ex.parts,List.mem_append,List.mem_map] at hx
  rcases hx with ((hx|⟨b,hb,rfl⟩)|hx)|⟨y,hy,rfl⟩
  ·split at hx
   ·simp at hx
   exact hk x hx
  ·rw [← h3] at hb;simp at hb
  ·split at hx
   ·exact hk x hx
   simp at hx
  have e1:=map_id_mem h2 y hy
  have e2:=w4 y hy
  obtain ⟨q,z⟩:=y
  rw [Al.pin] at e1
  rw [Al.wid] at e2
  exact ⟨(Al.mk.inj e1).2,e2.2⟩
 simp only [Ex.parts,List.length_append,List.length_map]
 rw [← h3]
 split <;> simp <;> omega
theorem at_c (a:Int) (e:Ex):e.pin a=e→e.wid→PCall Try.prog 19 [.agg e.cells,.val (.int .i64 a)] (.val (.bool true)):=by
 intro hp hw
 obtain ⟨hq,hlen⟩:=pin_parts hp hw
 have IH:∀ x∈e.parts,PCall Try.prog 19 [.agg x.cells,.val (.int .i64 a)] (.val (.bool true)):=fun x hx=>at_c a x (hq x hx).1 (hq x hx).2
 have HP:=rParts_c e by16
 clear hq
 generalize hps:e.parts=ps at *
 clear hps
 have hl:=Ex.cellss_len ps
 obtain ⟨ek,es,en,⟨etk,ets,etn,etl⟩,ks,al,bs,ep⟩:=e
 rw [Ex.pin,Ex.pins_map,Al.pins_map] at hp
 obtain ⟨_,_,_,_,_,h2,_,h4⟩:=Ex.mk.inj hp
 subst h4
 have HQ:∀ q y,Al.mk q y∈al→PCall Try.prog 44 [.agg q.cells,.val (.int .i64 a)] (.val (.bool true)):=fun q y hx=>by
  have e1:=map_id_mem h2 _ hx
  rw [Al.pin] at e1
  exact patAt_c a q (Al.mk.inj e1).1
 rw [Ex.wid] at hw
 have hwa:=hw.2.1
 have hla:=Al.cellss_len al
 clear hw h2 hp
 refine Zc Try.func19 Y (by kernel_rfl) Y (Xb Y) ?_
 refine Qv ?_
 refine QcF ?_
 refine Qau ?_
 refine Qn ?_
 refine Qa5 ?_
 refine Zb 10 Y Y Y (op_callo (xs:=[.tmp 9]) Y Y (HP) by3 ?_);intro u10
 refine Zb 11 Y Y Y (op_len Y tu_44 Y (.own _ _ _) (fun n11=>?_))
 refine QbF ?_
 apply Zw (rg [(0,1),(3,5),(9,1),(12,9)]) (σ:=Nat) (fun zz=>match zz with|i=>[(12,.val (.int .i64 i))]) (fun zz=>match zz with|i=>i≤ps.length) (fun zz=>match zz with|i=>ps.length - i) (0)
 ·repeat' (first|exact Xe|apply Xc rfl|apply Xd rfl)
 ·exact Nat.zero_le _
 ·exact by6
 rintro i hI
 try dsimp only [List.cons_append,List.nil_append] at hI ⊢
 have hi:=hI
 refine QbG ?_;intro c13 h13
 refine QL ?_
 obtain ⟨rfl,g13⟩|⟨rfl,g13⟩:=Za h13
 ·refine QN ?_
  refine Qaw ?_
  refine Qcq ?_;intro n23
  refine QbF ?_
  apply Zw (rg [(0,1),(3,19),(24,10)]) (σ:=Nat) (fun zz=>match zz with|j=>[(24,.val (.int .i64 j))]) (fun zz=>match zz with|j=>j≤al.length) (fun zz=>match zz with|j=>al.length - j) (0)
  ·repeat' (first|exact Xe|apply Xc rfl|apply Xd rfl)
  ·exact Nat.zero_le _
  ·exact by6
  rintro j hI
  try dsimp only [List.cons_append,List.nil_append] at hI ⊢
  have hj:=hI
  refine QbG ?_;intro c25 h25
  refine QL ?_
  obtain ⟨rfl,g25⟩|⟨rfl,g25⟩:=Za h25
  ·refine Qar ?_
   refine Qn ?_
   refine Qaa ?_
   refine Qi ?_;intro c37 h37
   refine Qu ?_
   obtain rfl:c37=true:=h37.2 rfl
   exact Zg Y Y (Yv _) (Yr _) ⟨Y,Y⟩
  refine QI ?_
  obtain ⟨⟨⟨zqk,zqs,zqn,zql,zqp⟩,⟨zk,zs,zn,⟨ztk,zts,ztn,ztl⟩,zks,zal,zbs,zp⟩⟩,hxz⟩:=Zn (l:=al) (i:=j) by9
  have hcz:=Al.cellss_get hxz
  have hmz:=Xf hxz
  have HPz:=HQ _ _ hmz
  refine Qj ?_
  refine Zb 26 Y Y Y (Zo Y te_45 Y (.seq _ _) Y Y (hcz) (Zb 27 Y Y Y (Yb (cs':=[_,_,_,_,_,_,_,_,_,_,_,_,_,_,_,_]) Y ta_54 Y Y Y ?_)))
  refine Qef ?_;intro b8
  refine Qeg ?_
  refine Qa ?_
  refine QbN ?_
  refine Qbg ?_
  refine Qb ?_
  refine Zb 31 Y Y Y (Zd (xs:=[.tmp 29,.tmp 30]) Y Y (HPz) by3 ?_)
  refine Qab ?_;intro c32 h32
  try replace h32:=nott h32 h31
  refine Qa ?_
  obtain ⟨rfl,g32⟩|⟨rfl,g32⟩:=Za h32
  ·refine QaD ?_
   refine Qa1 ?_
   exact ⟨j+1,by show j+1≤al.length;omega,by show al.length - (j+1)<al.length - j;omega,by6,by5⟩
  refine Qbd ?_
  exact absurd g32 by17
 refine QI ?_
 obtain ⟨⟨qk,qs,qn,⟨qtk,qts,qtn,qtl⟩,qks,qal,qbs,qp⟩,hxq⟩:=Zn (l:=ps) (i:=i) by9
 have hcq:=Ex.cellss_get hxq
 have hmq:=Xf hxq
 have HPq:=IH _ hmq
 refine Qj ?_
 refine Zb 14 Y Y Y (Zo Y te_44 Y (.own _ _ _) Y Y (hcq) ?_)
 refine Qa5 ?_
 refine QH ?_;intro b6
 refine QS ?_
 refine QG ?_
 refine Qac ?_
 refine Qb ?_
 refine Zb 18 Y Y Y (Zd (xs:=[.tmp 16,.tmp 17]) Y Y (HPq) by3 ?_)
 refine Qab ?_;intro c19 h19
 try replace h19:=nott h19 h18
 refine Qa ?_
 obtain ⟨rfl,g19⟩|⟨rfl,g19⟩:=Za h19
 ·refine QaD ?_
  refine Qa1 ?_
  exact ⟨i+1,by show i+1≤ps.length;omega,by show ps.length - (i+1)<ps.length - i;omega,by6,by5⟩
 refine Qbd ?_
 exact absurd g19 by17
termination_by SizeOf.sizeOf e
decreasing_by exact Ex.lt_part hx
/- one instance, whose binds stand at its place, is the same as itself -/
theorem same18_c (x:In) (h:∀ b∈x.bs,b.e.pin x.p=b.e∧b.e.wid) (hl:x.bs.length≤1000):PCall Try.prog 8 [.agg x.cells,.agg x.cells] (.val (.bool true)):=by
 have HS:=rSameInst_c x x
 have HA:=fun b hb=>at_c x.p b.e (h b hb).1 (h b hb).2
 clear h
 obtain ⟨xc,⟨xk,xs,xn,xl⟩,xcx,xbs,xp⟩:=x
 replace hl:xbs.length≤1000:=hl
 have hlb:=Bi.cellss_len xbs
 replace HA:∀ b∈xbs,PCall Try.prog 19 [.agg b.e.cells,.val (.int .i64 xp)] (.val (.bool true)):=HA
 refine Zc Try.func8 Y (by kernel_rfl) Y (Xb Y) ?_
 refine Qv ?_
 refine Qdf ?_
 refine Qdf ?_
 refine Qbx ?_
 refine Zt 25 (False) ?_ _ _ Y ?_
 ·skip
  refine QeC ?_
  refine QeC ?_
  refine Zb 8 Y Y Y (Zj (xs:=[.tmp 6,.tmp 7]) Y Y (HS) by3 ?_);intro c8 h8
  refine Qab ?_;intro c9 h9
  try replace h9:=nott h9 h8
  refine Qb ?_
  obtain ⟨rfl,g9⟩|⟨rfl,g9⟩:=Za h9
  ·skip
   refine Qw ?_
   refine Qw ?_
   refine Qbe ?_;intro c15 h15
   refine Qp ?_
   obtain ⟨rfl,g15⟩|⟨rfl,g15⟩:=Za h15
   ·skip
    refine Qw ?_
    refine Qdq ?_;intro n20
    refine Qw ?_
    refine Qdq ?_;intro n23
    refine Qbe ?_;intro c24 h24
    refine Qf ?_
    refine Yz Y ?_ by7 by5
    clear HS HA;simp_all
   skip
   refine Qh ?_
   refine Qad ?_
   refine Qf ?_
   refine Yz Y ?_ by7 by5
   clear HS HA;simp_all
  skip
  refine Qbi ?_
  refine Qa9 ?_
  refine Qf ?_
  refine Yz Y ?_ by7 by5
  clear HS HA;simp_all
 intro c25 h25
 refine Qe ?_
 obtain ⟨rfl,g25⟩|⟨rfl,g25⟩:=Za h25
 ·refine Qt ?_
  refine Qaw ?_
  refine QcE ?_;intro n28
  refine QbF ?_
  apply Zw (rg [(0,2),(4,24),(29,29)]) (σ:=Nat) (fun zz=>match zz with|i=>[(29,.val (.int .i64 i))]) (fun zz=>match zz with|i=>i≤xbs.length) (fun zz=>match zz with|i=>xbs.length - i) (0)
  ·repeat' (first|exact Xe|apply Xc rfl|apply Xd rfl)
  ·exact Nat.zero_le _
  ·exact by6
  rintro i hI
  try dsimp only [List.cons_append,List.nil_append] at hI ⊢
  have hi:=hI
  refine QbG ?_;intro c30 h30
  refine QL ?_
  obtain ⟨rfl,g30⟩|⟨rfl,g30⟩:=Za h30
  ·refine Qbh ?_
   exact Zg Y Y (Yv _) (Yr _) ⟨Y,Y⟩
  refine Qaf ?_
  refine Qs ?_
  refine Qau ?_
  obtain ⟨⟨qb,⟨qk,qs,qn,⟨qtk,qts,qtn,qtl⟩,qks,qal,qbs,qp⟩,qq⟩,hxq⟩:=Zn (l:=xbs) (i:=i) by9
  have hcq:=Bi.cellss_get hxq
  have hmq:=Xf hxq
  have HPq:=HA _ hmq
  refine c_boold 56 (False) tmix Y ?_ _ _ Y ?_
  ·skip
   refine QaX ?_
   refine QeD ?_
   refine QbI ?_
   refine Qcm ?_
   refine QaX ?_
   refine QeD ?_
   refine QbI ?_
   refine Qcm ?_
   refine DOps.cm 44 Y Y (fun _ q=>op_neq Y Y Y q) ?_;intro c44 h44
   refine Qap ?_
   obtain ⟨rfl,g44⟩|⟨rfl,g44⟩:=Za h44
   ·skip
    refine QaT ?_
    refine QcH ?_
    refine Qbf ?_
    refine DOps.gt 49 Y Y Y Y (Zo Y te_32 Y (.seq _ _) Y Y (hcq) ⟨Y,Y⟩) ?_
    refine QaT ?_
    refine QcV ?_
    refine QaT ?_
    refine QcH ?_
    refine DOps.gt 54 Y Y Y Y (Zd (xs:=[.tmp 51,.tmp 53]) Y Y (HPq) by3 ⟨Y,Y⟩) ?_
    refine DOps.gtc 55 Y Y Y Y (fun _ q=>op_notc Y Y q) ?_;intro c55 h55
    try replace h55:=nott h55 h54
    refine Qbn ?_
    show BoolQ _ _ _ _ _ _
    refine Yz Y ?_ by7 by5
    clear HS HA HPq;simp_all
   skip
   refine QaY ?_
   refine QaY ?_
   refine Qa4 ?_
   refine Qa4 ?_
   refine Qbn ?_
   show BoolQ _ _ _ _ _ _
   refine Yz Y ?_ by7 by5
   clear HS HA HPq;simp_all
  intro c56 h56
  refine Qe ?_
  obtain ⟨rfl,g56⟩|⟨rfl,g56⟩:=Za h56
  ·refine QaD ?_
   refine Qa1 ?_
   exact ⟨i+1,by show i+1≤xbs.length;omega,by show xbs.length - (i+1)<xbs.length - i;omega,by6,by5⟩
  exact g56.elim
 exact g25.elim
theorem bytes_at {s:ByteArray} {i:Nat} {b:UInt8} (h:s[i]?=some b):(bytesN s)[i]?=some b.toNat:=by
 obtain ⟨h1,h2⟩:=getElem?_eq_some_iff.1 h
 have h3:i<(bytesN s).length:=by rw [bytesN_len];exact h1
 rw [List.getElem?_eq_getElem h3,bytesN_get s i h1 h3,h2]
theorem byte_get {s:ByteArray} {i:Nat} (h:i<s.size):∃ b,s[i]?=some b:=⟨s[i],by rw [getElem?_eq_some_iff];exact ⟨h,rfl⟩⟩
theorem names_c (s:ByteArray) (hs:s.size≤40):BCall Try.prog 46 [.val (.string s)] (namesP s):=by
 refine Zc Try.func46 Y (by kernel_rfl) Y (Xb Y) ?_
 refine QaZ ?_
 refine QM ?_
 apply Zw (rg [(1,14)]) (σ:=Nat) (fun zz=>match zz with|i=>[(3,.val (.int .i64 i))]) (fun zz=>match zz with|i=>i≤s.size∧∀ c∈(bytesN s).take i,nameC c=true) (fun zz=>match zz with|i=>s.size - i) (0)
 ·repeat' (first|exact Xe|apply Xc rfl|apply Xd rfl)
 ·exact ⟨Nat.zero_le _,by simp⟩
 ·exact by6
 rintro i hI
 try dsimp only [List.cons_append,List.nil_append] at hI ⊢
 obtain ⟨hi,hn⟩:=hI
 refine Qal ?_
 refine Qby ?_;intro c7 h7
 refine Qa ?_
 obtain ⟨rfl,g7⟩|⟨rfl,g7⟩:=Za h7
 ·refine Qbh ?_
  rw [List.take_of_length_le (by rw [bytesN_len];omega)] at hn
  exact Zg Y Y (Yv _) by5 ⟨⟨_,iff_t hn,Y⟩,Y⟩
 refine QI ?_
 obtain ⟨b,hb⟩:=byte_get (s:=s) (i:=i) by16
 have hb2:=bytes_at hb
 have HN:=name_c b.toNat
 have hsn:=Yk hb2
 refine QJ ?_
 refine Zb 12 Y Y Y (Ye (i:=i) Y tu_9 Y Y (by first|rfl|omega) (hb) ?_)
 refine Zb 13 Y Y Y (Zj (xs:=[.tmp 12]) Y Y (HN) by3 ?_);intro c13 h13
 refine Qab ?_;intro c14 h14
 try replace h14:=nott h14 h13
 refine Qa ?_
 obtain ⟨rfl,g14⟩|⟨rfl,g14⟩:=Za h14
 ·refine Qaz ?_
  exact ⟨i+1,⟨by show i+1≤s.size;omega,fun c hc=>by
   rw [hsn] at hc
   rcases List.mem_append.1 hc with hc|hc
   ·exact hn c hc
   rw [List.mem_singleton] at hc;subst hc;exact Classical.not_not.1 g14⟩,by show s.size - (i+1)<s.size - i;omega,by6,by5⟩
 refine QD ?_
 exact Zg Y Y (Yv _) by5 ⟨⟨_,iff_f (fun q=>g14 (q _ (Xf hb2))),Y⟩,Y⟩
theorem upP_iff {s:ByteArray} {b:UInt8} (hb:s[0]?=some b):upP s↔s.size≤40∧greatC b.toNat=true∧namesP s:=by
 have h0:=bytes_at hb
 obtain ⟨r,hr⟩:∃ r,bytesN s=b.toNat::r:=by
  cases hh:bytesN s with
  | nil=>rw [hh] at h0;simp at h0
  | cons x r=>rw [hh] at h0;simp at h0;exact ⟨r,by rw [h0]⟩
 unfold upP namesP
 rw [hr]
 constructor
 ·rintro ⟨h1,c,r',h2,h3,h4⟩
  obtain ⟨rfl,rfl⟩:=List.cons.inj h2
  exact ⟨h1,h3,h4⟩
 rintro ⟨h1,h2,h3⟩
 exact ⟨h1,_,_,Y,h2,h3⟩
theorem upP_kE:¬ upP kE:=by
 rintro ⟨_,c,r,h,_⟩
 simp [bytesN] at h
theorem IsUp_c (s:ByteArray):BCall Try.prog 20 [.val (.string s)] (upP s):=by
 by_cases h0:s.size=0
 ·obtain rfl:s=kE:=by
   obtain ⟨⟨l⟩⟩:=s
   cases l with
   | nil=>rfl
   | cons x l=>exact absurd h0 (by show ¬ (l.length+1=0);omega)
  have hu:=upP_kE
  refine Zc Try.func20 Y (by kernel_rfl) Y (Xb Y) ?_
  refine QaZ ?_
  refine Zt 2 (False) ?_ _ _ Y ?_
  ·skip
   refine Qb ?_
   refine QcJ ?_;intro c4 h4
   refine Qb ?_
   obtain ⟨rfl,g4⟩|⟨rfl,g4⟩:=Za h4
   ·skip
    refine QaK ?_
    refine QaK ?_
    refine Q4 ?_
    refine Yz Y ?_ by7 by5
    simp
   exact absurd Y g4
  intro c2 h2
  refine QV ?_
  exact Zg Y Y (Yv _) by5 ⟨⟨_,h2.trans ⟨False.elim,fun q=>hu q⟩,Y⟩,Y⟩
 obtain ⟨b,hb⟩:=byte_get (s:=s) (i:=0) by16
 have hu:=upP_iff hb
 have HG:=great_c b.toNat
 have HN:=fun h=>names_c s h
 have hne:s≠kE:=fun q=>h0 (by rw [q];rfl)
 refine Zc Try.func20 Y (by kernel_rfl) Y (Xb Y) ?_
 refine QaZ ?_
 refine Zt 2 (s.size≤40∧greatC b.toNat=true∧namesP s) ?_ _ _ Y ?_
 ·skip
  refine Qb ?_
  refine QcJ ?_;intro c4 h4
  refine Qb ?_
  obtain ⟨rfl,g4⟩|⟨rfl,g4⟩:=Za h4
  ·skip
   refine QaK ?_
   refine QaK ?_
   refine Q4 ?_
   refine Yz Y ?_ by7 by5
   clear HG HN;first|(simp_all;done)|(simp_all;omega)|grind
  skip
  refine Qc ?_
  refine Qdg ?_
  refine QcK ?_;intro c8 h8
  refine Qp ?_
  obtain ⟨rfl,g8⟩|⟨rfl,g8⟩:=Za h8
  ·skip
   refine QaK ?_
   refine Q4 ?_
   refine Yz Y ?_ by7 by5
   clear HG HN;first|(simp_all;done)|(simp_all;omega)|grind
  skip
  refine Qc ?_
  refine QeE ?_
  refine Zk 13 Y Y Y Y Y (Zj (xs:=[.tmp 12]) Y Y (HG) by3 ?_);intro c13 h13
  refine Qp ?_
  obtain ⟨rfl,g13⟩|⟨rfl,g13⟩:=Za h13
  ·skip
   refine Q4 ?_
   refine Yz Y ?_ by7 by5
   clear HG HN;first|(simp_all;done)|(simp_all;omega)|grind
  skip
  refine Qc ?_
  refine Zk 17 Y Y Y Y Y (Zj (xs:=[.tmp 16]) Y Y (HN by16) by3 ?_);intro c17 h17
  refine Qz ?_
  refine Yz Y ?_ by7 by5
  clear HG HN;first|(simp_all;done)|(simp_all;omega)|grind
 intro c2 h2
 refine QV ?_
 exact Zg Y Y (Yv _) by5 ⟨⟨_,h2.trans hu.symm,Y⟩,Y⟩
def lowP (s:ByteArray):Prop:=s≠kE∧s.size≤40∧(∃ b,s[0]?=some b∧smallC b.toNat=true)∧namesP s∧¬ keyT s=true∧s≠kUn
theorem IsLow_c (s:ByteArray):BCall Try.prog 22 [.val (.string s)] (lowP s):=by
 have HK:=Key_c s
 have HN:=fun h=>names_c s h
 by_cases h0:s.size=0
 ·obtain rfl:s=kE:=by
   obtain ⟨⟨l⟩⟩:=s
   cases l with
   | nil=>rfl
   | cons x l=>exact absurd h0 (by show ¬ (l.length+1=0);omega)
  refine Zc Try.func22 Y (by kernel_rfl) Y (Xb Y) ?_
  refine QaZ ?_
  refine Zt 2 (False) ?_ _ _ Y ?_
  ·skip
   refine Qb ?_
   refine QcJ ?_;intro c4 h4
   refine Qb ?_
   obtain ⟨rfl,g4⟩|⟨rfl,g4⟩:=Za h4
   ·skip
    refine QaK ?_
    refine QaK ?_
    refine QaN ?_
    refine QaK ?_
    refine Q4 ?_
    refine Yz Y ?_ by7 by5
    simp
   exact absurd Y g4
  intro c2 h2
  refine QV ?_
  exact Zg Y Y (Yv _) by5 ⟨⟨_,h2.trans ⟨False.elim,fun q=>q.1 Y⟩,Y⟩,Y⟩
 obtain ⟨b,hb⟩:=byte_get (s:=s) (i:=0) by16
 have HG:=small_c b.toNat
 have hne:s≠kE:=fun q=>h0 (by rw [q];rfl)
 have hu:lowP s↔s.size≤40∧smallC b.toNat=true∧namesP s∧¬ keyT s=true∧s≠kUn:=by
  unfold lowP
  rw [hb]
  constructor
  ·rintro ⟨_,h1,⟨c,hc,h2⟩,h3⟩
   cases hc
   exact ⟨h1,h2,h3⟩
  rintro ⟨h1,h2,h3⟩
  exact ⟨hne,h1,⟨_,Y,h2⟩,h3⟩
 refine Zc Try.func22 Y (by kernel_rfl) Y (Xb Y) ?_
 refine QaZ ?_
 refine Zt 2 (s.size≤40∧smallC b.toNat=true∧namesP s∧¬ keyT s=true∧s≠kUn) ?_ _ _ Y ?_
 ·skip
  refine Qb ?_
  refine QcJ ?_;intro c4 h4
  refine Qb ?_
  obtain ⟨rfl,g4⟩|⟨rfl,g4⟩:=Za h4
  ·skip
   refine QaK ?_
   refine QaK ?_
   refine QaN ?_
   refine QaK ?_
   refine Q4 ?_
   refine Yz Y ?_ by7 by5
   clear HG HN HK hu;first|(simp_all;done)|(simp_all;omega)|grind
  skip
  refine Qc ?_
  refine Qdg ?_
  refine QcK ?_;intro c8 h8
  refine Qp ?_
  obtain ⟨rfl,g8⟩|⟨rfl,g8⟩:=Za h8
  ·skip
   refine QaK ?_
   refine QaN ?_
   refine QaK ?_
   refine Q4 ?_
   refine Yz Y ?_ by7 by5
   clear HG HN HK hu;first|(simp_all;done)|(simp_all;omega)|grind
  skip
  refine Qc ?_
  refine QeE ?_
  refine Zk 13 Y Y Y Y Y (Zj (xs:=[.tmp 12]) Y Y (HG) by3 ?_);intro c13 h13
  refine Qp ?_
  obtain ⟨rfl,g13⟩|⟨rfl,g13⟩:=Za h13
  ·skip
   refine QaN ?_
   refine QaK ?_
   refine Q4 ?_
   refine Yz Y ?_ by7 by5
   clear HG HN HK hu;first|(simp_all;done)|(simp_all;omega)|grind
  skip
  refine Qc ?_
  refine Zk 17 Y Y Y Y Y (Zj (xs:=[.tmp 16]) Y Y (HN by16) by3 ?_);intro c17 h17
  refine Qp ?_
  obtain ⟨rfl,g17⟩|⟨rfl,g17⟩:=Za h17
  ·skip
   refine QaK ?_
   refine Q4 ?_
   refine Yz Y ?_ by7 by5
   clear HG HN HK hu;first|(simp_all;done)|(simp_all;omega)|grind
  skip
  refine Qc ?_
  refine Zk 21 Y Y Y Y Y (Zj (xs:=[.tmp 20]) Y Y (HK) by3 ?_);intro c21 h21
  refine QcG ?_;intro c22 h22
  try replace h22:=nott h22 h21
  refine Qp ?_
  obtain ⟨rfl,g22⟩|⟨rfl,g22⟩:=Za h22
  ·skip
   refine Q4 ?_
   refine Yz Y ?_ by7 by5
   clear HG HN HK hu;first|(simp_all;done)|(simp_all;omega)|grind
  skip
  refine Qc ?_
  refine Qcp ?_;intro c26 h26
  refine Qz ?_
  refine Yz Y ?_ by7 by5
  clear HG HN HK hu;first|(simp_all;done)|(simp_all;omega)|grind
 intro c2 h2
 refine QV ?_
 exact Zg Y Y (Yv _) by5 ⟨⟨_,h2.trans hu.symm,Y⟩,Y⟩
theorem ups_c (l:List ByteArray):BCall Try.prog 21 [.seq 1 (strs l)] (∀ s∈l,upP s):=by
 have hl:=strs_len l
 refine Zc Try.func21 Y (by kernel_rfl) Y (Xb Y) ?_
 refine Qan ?_
 refine c_lens (t:=0) Y (.seq _ _) (fun hmax=>?_)
 refine QC ?_
 refine QE ?_
 refine QM ?_
 apply Zw (rg [(1,15)]) (σ:=Nat) (fun zz=>match zz with|i=>[(3,.val (.int .i64 i))]) (fun zz=>match zz with|i=>i≤l.length∧∀ s∈l.take i,upP s) (fun zz=>match zz with|i=>l.length - i) (0)
 ·repeat' (first|exact Xe|apply Xc rfl|apply Xd rfl)
 ·exact ⟨Nat.zero_le _,by simp⟩
 ·exact by6
 rintro i hI
 try dsimp only [List.cons_append,List.nil_append] at hI ⊢
 obtain ⟨hi,hn⟩:=hI
 refine Qal ?_
 refine Qcs ?_;intro n6
 refine Qm ?_;intro c7 h7
 refine Qa ?_
 obtain ⟨rfl,g7⟩|⟨rfl,g7⟩:=Za h7
 ·refine Qbh ?_
  rw [List.take_of_length_le by16] at hn
  exact Zg Y Y (Yv _) by5 ⟨⟨_,iff_t hn,Y⟩,Y⟩
 refine QI ?_
 obtain ⟨q,hxq⟩:=Zn (l:=l) (i:=i) by9
 have hcq:=strs_get hxq
 have hmq:=Xf hxq
 have HU:=IsUp_c q
 have hsn:=Yk hxq
 refine QJ ?_
 refine Qdp ?_
 refine Qck ?_
 refine Zb 14 Y Y Y (Zj (xs:=[.tmp 13]) Y Y (HU) by3 ?_);intro c14 h14
 refine Qab ?_;intro c15 h15
 try replace h15:=nott h15 h14
 refine Qa ?_
 obtain ⟨rfl,g15⟩|⟨rfl,g15⟩:=Za h15
 ·refine Qaz ?_
  exact ⟨i+1,⟨by show i+1≤l.length;omega,fun c hc=>by
   rw [hsn] at hc
   rcases List.mem_append.1 hc with hc|hc
   ·exact hn c hc
   rw [List.mem_singleton] at hc;subst hc;exact Classical.not_not.1 g15⟩,by show l.length - (i+1)<l.length - i;omega,by6,by5⟩
 refine QD ?_
 exact Zg Y Y (Yv _) by5 ⟨⟨_,iff_f (fun h=>g15 (h _ hmq)),Y⟩,Y⟩
abbrev kArr:ByteArray:=⟨#[45,62]⟩
mutual
def Ty.good:Ty→Prop
 | .mk k s n ks=>Ty.goods ks∧n=0∧((k=1∧lowP s∧ks.length=0)∨(k=3∧(upP s∨(s=kArr∧ks.length=2))))
def Ty.goods:List Ty→Prop
 | []=>True
 | x::l=>x.good∧Ty.goods l
end
theorem Ty.goods_iff:∀ l:List Ty,Ty.goods l↔∀ x∈l,x.good
 | []=>by rw [Ty.goods];exact ⟨fun _ x h=>by simp at h,fun _=>trivial⟩
 | x::l=>by
  rw [Ty.goods,Ty.goods_iff l]
  exact ⟨fun h y hy=>(List.mem_cons.1 hy).elim (fun e=>e ▸ h.1) (h.2 y),fun h=>⟨h x by17,fun y hy=>h y (by simp [hy])⟩⟩
theorem GoodType_c (t:Ty):BCall Try.prog 23 [.agg t.cells] t.good:=by
 obtain ⟨tk,ts,tn,ks⟩:=t
 have IH:∀ x∈ks,BCall Try.prog 23 [.agg x.cells] x.good:=fun x hx=>GoodType_c x
 have HL:=IsLow_c ts
 have HU:=IsUp_c ts
 have hl:=Ty.cellss_len ks
 rw [Ty.good,Ty.goods_iff]
 refine Zc Try.func23 Y (by kernel_rfl) Y (Xb Y) ?_
 refine Qan ?_
 refine c_lena (t:=0) (j:=3) Y Y (.seq _ _) (fun hmax=>?_)
 refine Qn ?_
 refine Zb 1 Y Y Y (op_boxc (cs':=[_,_,_,_]) Y Y Y Y ?_)
 refine Qau ?_
 refine QM ?_
 apply Zw (rg [(0,1),(2,16)]) (σ:=Nat) (fun zz=>match zz with|i=>[(3,.val (.int .i64 i))]) (fun zz=>match zz with|i=>i≤ks.length∧∀ x∈ks.take i,x.good) (fun zz=>match zz with|i=>ks.length - i) (0)
 ·repeat' (first|exact Xe|apply Xc rfl|apply Xd rfl)
 ·exact ⟨Nat.zero_le _,by simp⟩
 ·exact by6
 rintro i hI
 try dsimp only [List.cons_append,List.nil_append] at hI ⊢
 obtain ⟨hi,hn⟩:=hI
 refine Q6 ?_
 refine QY ?_;intro n7
 refine Qm ?_;intro c8 h8
 refine Qa ?_
 obtain ⟨rfl,g8⟩|⟨rfl,g8⟩:=Za h8
 ·refine QbS ?_
  rw [List.take_of_length_le by16] at hn
  refine Qj ?_
  refine Ql ?_
  refine Q5 ?_;intro c20 h20
  refine Qa ?_
  obtain ⟨rfl,g20⟩|⟨rfl,g20⟩:=Za h20
  ·refine Qt ?_
   refine Qaw ?_
   refine Qi ?_;intro c23 h23
   refine Qa ?_
   obtain ⟨rfl,g23⟩|⟨rfl,g23⟩:=Za h23
   ·refine Qt ?_
    refine Zt 2 (tk=3∧(upP ts∨(ts=kArr∧ks.length=2))) ?_ _ _ Y ?_
    ·skip
     refine Ql ?_
     refine Qi ?_;intro c35 h35
     refine Qb ?_
     obtain ⟨rfl,g35⟩|⟨rfl,g35⟩:=Za h35
     ·skip
      refine Qh ?_
      refine QaL ?_
      refine QaL ?_
      refine QcA ?_
      refine Q1 ?_
      refine Qz ?_
      refine Yz Y ?_ by7 by5
      clear HL HU IH hn;first|(simp_all;done)|(simp_all;omega)|grind
     skip
     refine Qw ?_
     refine Zk 39 Y Y Y Y Y (Zj (xs:=[.tmp 38]) Y Y (HU) by3 ?_);intro c39 h39
     refine Qc ?_
     obtain ⟨rfl,g39⟩|⟨rfl,g39⟩:=Za h39
     ·skip
      refine Qw ?_
      refine Qdt ?_;intro c43 h43
      refine Qc ?_
      obtain ⟨rfl,g43⟩|⟨rfl,g43⟩:=Za h43
      ·skip
       refine Qh ?_
       refine QbD ?_
       refine Yz Y ?_ by7 by5
       clear HL HU IH hn;first|(simp_all;done)|(simp_all;omega)|grind
      skip
      refine Qw ?_
      refine Zk 47 Y Y Y Y Y (op_len Y tu_28 Y (.seq _ _) (fun n47=>?_))
      refine Qah ?_;intro c48 h48
      refine QbD ?_
      refine Yz Y ?_ by7 by5
      clear HL HU IH hn;first|(simp_all;done)|(simp_all;omega)|grind
     skip
     refine Qh ?_
     refine QaL ?_
     refine Qba ?_
     refine Qz ?_
     refine Yz Y ?_ by7 by5
     clear HL HU IH hn;first|(simp_all;done)|(simp_all;omega)|grind
    intro c2 h2
    refine QV ?_
    exact Zg Y Y (Yv _) by5 ⟨⟨_,h2.trans ⟨fun q=>⟨hn,Classical.not_not.1 g20,.inr q⟩,fun q=>q.2.2.elim (fun r=>absurd r.1 g23) id⟩,Y⟩,Y⟩
   refine Qbd ?_
   refine Zt 2 (lowP ts∧ks.length=0) ?_ _ _ Y ?_
   ·skip
    refine Ql ?_
    refine Zb 26 Y Y Y (Zj (xs:=[.tmp 25]) Y Y (HL) by3 ?_);intro c26 h26
    refine Qb ?_
    obtain ⟨rfl,g26⟩|⟨rfl,g26⟩:=Za h26
    ·skip
     refine Qh ?_
     refine Qz ?_
     refine Yz Y ?_ by7 by5
     clear HL HU IH hn;first|(simp_all;done)|(simp_all;omega)|grind
    skip
    refine Qw ?_
    refine Zk 30 Y Y Y Y Y (op_len Y tu_28 Y (.seq _ _) (fun n30=>?_))
    refine Qah ?_;intro c31 h31
    refine Qz ?_
    refine Yz Y ?_ by7 by5
    clear HL HU IH hn;first|(simp_all;done)|(simp_all;omega)|grind
   intro c2 h2
   refine QV ?_
   exact Zg Y Y (Yv _) by5 ⟨⟨_,h2.trans ⟨fun q=>⟨hn,Classical.not_not.1 g20,.inl ⟨g23,q⟩⟩,fun q=>q.2.2.elim (fun r=>r.2) (fun r=>absurd (g23.symm.trans r.1) by15)⟩,Y⟩,Y⟩
  refine QD ?_
  exact Zg Y Y (Yv _) by5 ⟨⟨_,iff_f (fun h=>g20 h.2.1),Y⟩,Y⟩
 refine QI ?_
 obtain ⟨⟨qk,qs,qn,ql⟩,hxq⟩:=Zn (l:=ks) (i:=i) by9
 have hcq:=Ty.cellss_get hxq
 have hmq:=Xf hxq
 have HQ:=IH _ hmq
 have hsn:=Yk hxq
 refine Qj ?_
 refine Qaa ?_
 refine Zb 14 Y Y Y (Zo Y te_28 Y (.seq _ _) Y Y (hcq) ?_)
 refine QeF ?_
 refine Zb 16 Y Y Y (Zj (xs:=[.tmp 15]) Y Y (HQ) by3 ?_);intro c16 h16
 refine Qab ?_;intro c17 h17
 try replace h17:=nott h17 h16
 refine Qa ?_
 obtain ⟨rfl,g17⟩|⟨rfl,g17⟩:=Za h17
 ·refine Qaz ?_
  exact ⟨i+1,⟨by show i+1≤ks.length;omega,fun c hc=>by
   rw [hsn] at hc
   rcases List.mem_append.1 hc with hc|hc
   ·exact hn c hc
   rw [List.mem_singleton] at hc;subst hc;exact Classical.not_not.1 g17⟩,by show ks.length - (i+1)<ks.length - i;omega,by6,by5⟩
 refine QD ?_
 exact Zg Y Y (Yv _) by5 ⟨⟨_,iff_f (fun h=>g17 (h.1 _ hmq)),Y⟩,Y⟩
termination_by SizeOf.sizeOf t
decreasing_by
 have:=List.sizeOf_lt_of_mem hx
 simp;omega
def gdP (d:Da):Prop:=upP d.s∧d.cs.length≠0∧(∀ s∈d.dv,upP s)∧(∀ s∈d.ps,lowP s)∧∀ c∈d.cs,upP c.s∧∀ t∈c.ts,t.good
theorem GoodData_c (d:Da):BCall Try.prog 9 [.agg d.cells] (gdP d):=by
 have HU:=IsUp_c d.s
 have HV:=ups_c d.dv
 obtain ⟨ds,dps,dcs,ddv,dp⟩:=d
 show BCall Try.prog _ _ (upP ds∧dcs.length≠0∧(∀ s∈ddv,upP s)∧(∀ s∈dps,lowP s)∧∀ c∈dcs,upP c.s∧∀ t∈c.ts,t.good)
 replace HU:BCall Try.prog 20 [.val (.string ds)] (upP ds):=HU
 replace HV:BCall Try.prog 21 [.seq 1 (strs ddv)] (∀ s∈ddv,upP s):=HV
 have hlc:=Cn.cellss_len dcs
 have hlp:=strs_len dps
 refine Zc Try.func9 Y (by kernel_rfl) Y (Xb Y) ?_
 refine Qan ?_
 refine c_lena (t:=0) (j:=1) Y Y (.seq _ _) (fun hmax=>?_)
 refine c_lena (t:=0) (j:=2) Y Y (.seq _ _) (fun hmax2=>?_)
 refine Qn ?_
 refine QcD ?_
 refine Qbx ?_
 refine Zt 21 (¬ (upP ds∧dcs.length≠0∧∀ s∈ddv,upP s)) ?_ _ _ Y ?_
 ·skip
  refine Ql ?_
  refine Zb 8 Y Y Y (Zj (xs:=[.tmp 7]) Y Y (HU) by3 ?_);intro c8 h8
  refine Qab ?_;intro c9 h9
  try replace h9:=nott h9 h8
  refine Qb ?_
  obtain ⟨rfl,g9⟩|⟨rfl,g9⟩:=Za h9
  ·skip
   refine Qw ?_
   refine Zk 13 Y Y Y Y Y (op_len Y tu_23 Y (.seq _ _) (fun n13=>?_))
   refine Qah ?_;intro c14 h14
   refine Qp ?_
   obtain ⟨rfl,g14⟩|⟨rfl,g14⟩:=Za h14
   ·skip
    refine Qw ?_
    refine Zk 19 Y Y Y Y Y (Zj (xs:=[.tmp 18]) Y Y (HV) by3 ?_);intro c19 h19
    refine QcG ?_;intro c20 h20
    try replace h20:=nott h20 h19
    refine Qf ?_
    refine Yz Y ?_ by7 by5
    clear HU HV;first|(simp_all;done)|(simp_all;omega)|grind
   skip
   refine Qh ?_
   refine Qf ?_
   refine Yz Y ?_ by7 by5
   clear HU HV;first|(simp_all;done)|(simp_all;omega)|grind
  skip
  refine Qh ?_
  refine Q9 ?_
  refine Qf ?_
  refine Yz Y ?_ by7 by5
  clear HU HV;first|(simp_all;done)|(simp_all;omega)|grind
 intro c21 h21
 refine Qe ?_
 obtain ⟨rfl,g21⟩|⟨rfl,g21⟩:=Za h21
 ·refine Qt ?_
  refine QM ?_
  apply Zw (rg [(0,1),(2,2),(6,30)]) (σ:=Nat) (fun zz=>match zz with|i=>[(3,.val (.int .i64 i))]) (fun zz=>match zz with|i=>i≤dps.length∧∀ s∈dps.take i,lowP s) (fun zz=>match zz with|i=>dps.length - i) (0)
  ·repeat' (first|exact Xe|apply Xc rfl|apply Xd rfl)
  ·exact ⟨Nat.zero_le _,by simp⟩
  ·exact by6
  rintro i hI
  try dsimp only [List.cons_append,List.nil_append] at hI ⊢
  obtain ⟨hi,hn⟩:=hI
  refine Q6 ?_
  refine Qcs ?_;intro n25
  refine Qm ?_;intro c26 h26
  refine Qa ?_
  obtain ⟨rfl,g26⟩|⟨rfl,g26⟩:=Za h26
  ·refine QbS ?_
   rw [List.take_of_length_le by16] at hn
   obtain ⟨e1,e2,e3⟩:=Classical.not_not.1 g21
   refine Qj ?_
   refine Qbj ?_
   apply Zw (rg [(0,1),(2,71)]) (σ:=Nat) (fun zz=>match zz with|i=>[(4,.val (.int .i64 i))]) (fun zz=>match zz with|i=>i≤dcs.length∧∀ c∈dcs.take i,upP c.s∧∀ t∈c.ts,t.good) (fun zz=>match zz with|i=>dcs.length - i) (0)
   ·repeat' (first|exact Xe|apply Xc rfl|apply Xd rfl)
   ·exact ⟨Nat.zero_le _,by simp⟩
   ·exact by6
   rintro i hI
   try dsimp only [List.cons_append,List.nil_append] at hI ⊢
   obtain ⟨hi2,hn2⟩:=hI
   refine Q6 ?_
   refine Qbq ?_;intro n39
   refine Qm ?_;intro c40 h40
   refine Qa ?_
   obtain ⟨rfl,g40⟩|⟨rfl,g40⟩:=Za h40
   ·refine QN ?_
    rw [List.take_of_length_le by16] at hn2
    refine Qj ?_
    refine Qu ?_
    exact Zg Y Y (Yv _) by5 ⟨⟨_,iff_t ⟨e1,e2,e3,hn,hn2⟩,Y⟩,Y⟩
   refine Qaf ?_
   refine QK ?_
   obtain ⟨⟨qs,qts,qp⟩,hxq⟩:=Zn (l:=dcs) (i:=i) by9
   have hcq:=Cn.cellss_get hxq
   have hmq:=Xf hxq
   have HUq:=IsUp_c qs
   have hsn:=Yk hxq
   have hlt:=Ty.cellss_len qts
   refine Qj ?_
   refine Qaa ?_
   refine QcS ?_
   refine Ql ?_
   refine Zb 49 Y Y Y (Zj (xs:=[.tmp 48]) Y Y (HUq) by3 ?_);intro c49 h49
   refine Qab ?_;intro c50 h50
   try replace h50:=nott h50 h49
   refine Qa ?_
   obtain ⟨rfl,g50⟩|⟨rfl,g50⟩:=Za h50
   ·refine QF ?_
    refine QM ?_
    apply Zw (rg [(0,1),(2,2),(5,31),(51,22)]) (σ:=Nat) (fun zz=>match zz with|j=>[(5,.val (.int .i64 j))]) (fun zz=>match zz with|j=>j≤qts.length∧∀ t∈qts.take j,t.good) (fun zz=>match zz with|j=>qts.length - j) (0)
    ·repeat' (first|exact Xe|apply Xc rfl|apply Xd rfl)
    ·exact ⟨Nat.zero_le _,by simp⟩
    ·exact by6
    rintro j hI
    try dsimp only [List.cons_append,List.nil_append] at hI ⊢
    obtain ⟨hj,hn3⟩:=hI
    refine Q6 ?_
    refine Qb ?_
    refine QcS ?_
    refine Ql ?_
    refine QY ?_;intro n58
    refine Qm ?_;intro c59 h59
    refine Qa ?_
    obtain ⟨rfl,g59⟩|⟨rfl,g59⟩:=Za h59
    ·refine QP ?_
     refine c_exit (x_code (x_lp (x_here ?_)))
     refine Qas ?_
     rw [List.take_of_length_le by16] at hn3
     exact ⟨i+1,⟨by show i+1≤dcs.length;omega,fun c hc=>by
      rw [hsn] at hc
      rcases List.mem_append.1 hc with hc|hc
      ·exact hn2 c hc
      rw [List.mem_singleton] at hc;subst hc;exact ⟨Classical.not_not.1 g50,hn3⟩⟩,by show dcs.length - (i+1)<dcs.length - i;omega,by6,by5⟩
    refine QI ?_
    obtain ⟨⟨zk,zs,zn,zl⟩,hxz⟩:=Zn (l:=qts) (i:=j) by9
    have hcz:=Ty.cellss_get hxz
    have hmz:=Xf hxz
    have HTz:=GoodType_c ⟨zk,zs,zn,zl⟩
    have hsn3:=Yk hxz
    refine Qj ?_
    refine Qaa ?_
    refine Zb 65 Y Y Y (Zo Y te_23 Y (.seq _ _) Y Y (by first|exact hcq|exact hcz) ?_)
    refine Qaa ?_
    refine Zb 69 Y Y Y (Zo Y te_28 Y (.seq _ _) Y Y (by first|exact hcq|exact hcz) ?_)
    refine QeF ?_
    refine Zb 71 Y Y Y (Zj (xs:=[.tmp 70]) Y Y (HTz) by3 ?_);intro c71 h71
    refine Qab ?_;intro c72 h72
    try replace h72:=nott h72 h71
    refine Qa ?_
    obtain ⟨rfl,g72⟩|⟨rfl,g72⟩:=Za h72
    ·refine Qaz ?_
     exact ⟨j+1,⟨by show j+1≤qts.length;omega,fun c hc=>by
      rw [hsn3] at hc
      rcases List.mem_append.1 hc with hc|hc
      ·exact hn3 c hc
      rw [List.mem_singleton] at hc;subst hc;exact Classical.not_not.1 g72⟩,by show qts.length - (j+1)<qts.length - j;omega,by6,by5⟩
    refine QD ?_
    exact Zg Y Y (Yv _) by5 ⟨⟨_,iff_f (fun h=>g72 ((h.2.2.2.2 _ hmq).2 _ hmz)),Y⟩,Y⟩
   refine QD ?_
   exact Zg Y Y (Yv _) by5 ⟨⟨_,iff_f (fun h=>g50 (h.2.2.2.2 _ hmq).1),Y⟩,Y⟩
  refine QI ?_
  obtain ⟨q,hxq⟩:=Zn (l:=dps) (i:=i) by9
  have hcq:=strs_get hxq
  have hmq:=Xf hxq
  have HL:=IsLow_c q
  have hsn:=Yk hxq
  refine Qj ?_
  refine Qaa ?_
  refine Qdp ?_
  refine Qck ?_
  refine Zb 34 Y Y Y (Zj (xs:=[.tmp 33]) Y Y (HL) by3 ?_);intro c34 h34
  refine Qab ?_;intro c35 h35
  try replace h35:=nott h35 h34
  refine Qa ?_
  obtain ⟨rfl,g35⟩|⟨rfl,g35⟩:=Za h35
  ·refine Qaz ?_
   exact ⟨i+1,⟨by show i+1≤dps.length;omega,fun c hc=>by
    rw [hsn] at hc
    rcases List.mem_append.1 hc with hc|hc
    ·exact hn c hc
    rw [List.mem_singleton] at hc;subst hc;exact Classical.not_not.1 g35⟩,by show dps.length - (i+1)<dps.length - i;omega,by6,by5⟩
  refine QD ?_
  exact Zg Y Y (Yv _) by5 ⟨⟨_,iff_f (fun h=>g35 (h.2.2.2.1 _ hmq)),Y⟩,Y⟩
 refine QD ?_
 exact Zg Y Y (Yv _) by5 ⟨⟨_,iff_f (fun h=>g21 ⟨h.1,h.2.1,h.2.2.1⟩),Y⟩,Y⟩
def smP (d:Da):Prop:=gdP d∧d.cs.length≤6∧d.ps.length≤6∧∀ c∈d.cs,c.ts.length≤8
theorem small18_c (d:Da):BCall Try.prog 5 [.agg d.cells] (smP d):=by
 have HG:=GoodData_c d
 unfold smP
 generalize gdP d=gd at *
 obtain ⟨ds,dps,dcs,ddv,dp⟩:=d
 show BCall Try.prog _ _ (gd∧dcs.length≤6∧dps.length≤6∧∀ c∈dcs,c.ts.length≤8)
 have hlc:=Cn.cellss_len dcs
 have hlp:=strs_len dps
 simp only [Da.cells] at HG ⊢
 refine Zc Try.func5 Y (by kernel_rfl) Y (Xb Y) ?_
 refine Qan ?_
 refine c_lena (t:=0) (j:=2) Y Y (.seq _ _) (fun hmax=>?_)
 refine Qn ?_
 refine QcD ?_
 refine Qbx ?_
 refine Zt 19 (¬ (gd∧dcs.length≤6∧dps.length≤6)) ?_ _ _ Y ?_
 ·skip
  refine Qbr ?_
  refine Zb 6 Y Y Y (Zj (xs:=[.tmp 5]) Y Y (HG) by3 ?_);intro c6 h6
  refine Qab ?_;intro c7 h7
  try replace h7:=nott h7 h6
  refine Qb ?_
  obtain ⟨rfl,g7⟩|⟨rfl,g7⟩:=Za h7
  ·skip
   refine Qw ?_
   refine Zk 11 Y Y Y Y Y (op_len Y tu_23 Y (.seq _ _) (fun n11=>?_))
   refine Qcc ?_;intro c12 h12
   refine Qp ?_
   obtain ⟨rfl,g12⟩|⟨rfl,g12⟩:=Za h12
   ·skip
    refine Qw ?_
    refine Zk 17 Y Y Y Y Y (op_len Y tu_22 Y (.seq _ _) (fun n17=>?_))
    refine Qcc ?_;intro c18 h18
    refine Qf ?_
    refine Yz Y ?_ by7 by5
    clear HG;first|(simp_all;done)|(simp_all;omega)|grind
   skip
   refine Qh ?_
   refine Qf ?_
   refine Yz Y ?_ by7 by5
   clear HG;first|(simp_all;done)|(simp_all;omega)|grind
  skip
  refine Qh ?_
  refine Q9 ?_
  refine Qf ?_
  refine Yz Y ?_ by7 by5
  clear HG;first|(simp_all;done)|(simp_all;omega)|grind
 intro c19 h19
 refine Qe ?_
 obtain ⟨rfl,g19⟩|⟨rfl,g19⟩:=Za h19
 ·refine Qt ?_
  refine Qaw ?_
  refine Qbq ?_;intro n22
  refine QbF ?_
  apply Zw (rg [(0,21),(23,9)]) (σ:=Nat) (fun zz=>match zz with|i=>[(23,.val (.int .i64 i))]) (fun zz=>match zz with|i=>i≤dcs.length∧∀ c∈dcs.take i,c.ts.length≤8) (fun zz=>match zz with|i=>dcs.length - i) (0)
  ·repeat' (first|exact Xe|apply Xc rfl|apply Xd rfl)
  ·exact ⟨Nat.zero_le _,by simp⟩
  ·exact by6
  rintro i hI
  try dsimp only [List.cons_append,List.nil_append] at hI ⊢
  obtain ⟨hi,hn⟩:=hI
  refine QbG ?_;intro c24 h24
  refine QL ?_
  obtain ⟨rfl,g24⟩|⟨rfl,g24⟩:=Za h24
  ·refine QN ?_
   rw [List.take_of_length_le by16] at hn
   obtain ⟨e1,e2,e3⟩:=Classical.not_not.1 g19
   refine Qj ?_
   refine Qu ?_
   exact Zg Y Y (Yv _) by5 ⟨⟨_,iff_t ⟨e1,e2,e3,hn⟩,Y⟩,Y⟩
  refine QI ?_
  obtain ⟨⟨qs,qts,qp⟩,hxq⟩:=Zn (l:=dcs) (i:=i) by9
  have hcq:=Cn.cellss_get hxq
  have hmq:=Xf hxq
  have hsn:=Yk hxq
  have hlt:=Ty.cellss_len qts
  refine Qj ?_
  refine QcS ?_
  refine Qcg ?_
  refine Qch ?_;intro b4
  refine Qci ?_
  refine QbE ?_
  refine QY ?_;intro n29
  refine Q8 ?_;intro c30 h30
  refine Qa ?_
  obtain ⟨rfl,g30⟩|⟨rfl,g30⟩:=Za h30
  ·refine QaD ?_
   refine Qa1 ?_
   exact ⟨i+1,⟨by show i+1≤dcs.length;omega,fun c hc=>by
    rw [hsn] at hc
    rcases List.mem_append.1 hc with hc|hc
    ·exact hn c hc
    rw [List.mem_singleton] at hc;subst hc;show qts.length≤8;omega⟩,by show dcs.length - (i+1)<dcs.length - i;omega,by6,by5⟩
  refine QD ?_
  exact Zg Y Y (Yv _) by5 ⟨⟨_,iff_f (fun h=>by have:qts.length≤8:=h.2.2.2 _ hmq;omega),Y⟩,Y⟩
 refine QD ?_
 exact Zg Y Y (Yv _) by5 ⟨⟨_,iff_f (fun h=>g19 ⟨h.1,h.2.1,h.2.2.1⟩),Y⟩,Y⟩
theorem smP.dtg {d:Da} (h:smP d):DtG d.cs:=by
 obtain ⟨⟨_,h1,_,_,h2⟩,h3,_,h4⟩:=h
 exact ⟨fun q=>h1 (by rw [q];rfl),h3,fun c hc=>⟨(h2 c hc).1.gn,h4 c hc⟩,fun c hc=>(h2 c hc).1.1⟩
theorem smP.ps {d:Da} (h:smP d):d.ps.length≤1000000:=by
 obtain ⟨_,_,h1,_⟩:=h
 omega
abbrev kA1:ByteArray:=⟨#[65]⟩
abbrev kB1:ByteArray:=⟨#[66]⟩
abbrev kT1:ByteArray:=⟨#[84]⟩
def daT:Da:=.mk kT1 [] [.mk kA1 [] 0,.mk kB1 [] 0] [] 0
theorem daT_s:DaS daT:=⟨by decide,by decide,fun c hc=>by
 simp only [daT,Da.cs,List.mem_cons,List.not_mem_nil,or_false] at hc
 rcases hc with rfl|rfl <;> exact ⟨by decide,by decide⟩⟩
theorem daT_inst:∃ p0 e0 p1 a1 a2,instR daT kcEq=(In.mk kcEq (.mk 3 kT1 0 []) [] [.mk kEqN (.mk 6 kX 0 ty0 [.mk 6 kY 0 ty0 [.mk 8 kE 0 ty0 [namE 3 kX 0] [.mk p0 e0,.mk p1 (.mk 8 kE 0 ty0 [namE 3 kY 0] [a1,a2] [] 0)] [] 0] [] [] 0] [] [] 0) 0] 0,0):=by
 unfold instR bindX
 rw [if_pos rfl]
 exact ⟨_,_,_,_,_,Y⟩
theorem awake18_c:PCall Try.prog 4 [] (.val (.bool true)):=by
 have HI:=Inst_c daT daT_s kcEq
 obtain ⟨⟨p0k,p0s,p0n,p0l,p0p⟩,⟨e0k,e0s,e0n,⟨e0tk,e0ts,e0tn,e0tl⟩,e0ks,e0al,e0bs,e0p⟩,⟨p1k,p1s,p1n,p1l,p1p⟩,⟨⟨b1k,b1s,b1n,b1l,b1p⟩,⟨c1k,c1s,c1n,⟨c1tk,c1ts,c1tn,c1tl⟩,c1ks,c1al,c1bs,c1p⟩⟩,⟨⟨b2k,b2s,b2n,b2l,b2p⟩,⟨c2k,c2s,c2n,⟨c2tk,c2ts,c2tn,c2tl⟩,c2ks,c2al,c2bs,c2p⟩⟩,he⟩:=daT_inst
 rw [he] at HI
 clear he
 have f1:∀ l:List Bi,(Bi.cellss l).length=l.length:=Bi.cellss_len
 have f2:∀ l:List Ex,(Ex.cellss l).length=l.length:=Ex.cellss_len
 have f3:∀ l:List Al,(Al.cellss l).length=l.length:=Al.cellss_len
 refine Zc Try.func4 Y (by kernel_rfl) Y (Xb Y) ?_
 refine Qat ?_
 refine Qn ?_
 refine Zb 5 Y Y Y (Zi (ns:=[0]) (xs:=[.const (.string ⟨#[65]⟩)]) Y tz_43 Y tfl_43 Y Y Y Y ?_)
 refine Zb 6 Y Y Y (Zi (ns:=[0]) (xs:=[.const (.string ⟨#[66]⟩)]) Y tz_43 Y tfl_43 Y Y Y Y ?_)
 refine Zb 7 Y Y Y (Ze (xs:=[.tmp 5,.tmp 6]) el_23 Y Y Y Y Y Y (Xb Y) (Zb 8 Y Y Y (Zi (ns:=[0,2]) (xs:=[.const (.string ⟨#[84]⟩),.tmp 7]) Y tz_25 Y tfl_25 Y Y Y Y ?_)))
 refine Zb 9 Y Y Y (Zd (xs:=[.tmp 8,.const (.string ⟨#[69,113]⟩)]) Y Y (HI) (by repeat' (first|exact Yw _|refine Yx ?_ ?_|exact Yv _|exact Le.own _ _ _|exact Le.nil _|refine Le.agg ?_|refine Le.own_seqL ?_|refine Le.seq ?_|exact Less.refl _|exact Less.nil|refine Less.cons ?_ Y ?_)) ?_)
 refine Qbc ?_
 refine Qcy ?_;intro b1
 refine QcT ?_
 refine Qbx ?_
 refine Zt 27 (False) ?_ _ _ Y ?_
 ·skip
  refine Qb ?_
  refine Q5 ?_;intro c13 h13
  refine Qb ?_
  obtain ⟨rfl,g13⟩|⟨rfl,g13⟩:=Za h13
  ·skip
   refine QaE ?_
   refine Qdq ?_;intro n17
   refine Qbe ?_;intro c18 h18
   refine Qp ?_
   obtain ⟨rfl,g18⟩|⟨rfl,g18⟩:=Za h18
   ·skip
    refine QaE ?_
    refine Zk 23 Y Y Y Y Y (Zo (i:=0) Y te_32 Y (.seq _ _) Y Y (by first|rfl|assumption) ?_)
    refine Qw ?_
    refine Qcp ?_;intro c26 h26
    refine Qf ?_
    refine Yz Y ?_ by7 by5
    simp_all;done
   skip
   refine Qh ?_
   refine Qae ?_
   refine Yz Y ?_ by7 by5
   simp_all;done
  skip
  refine Qh ?_
  refine Q9 ?_
  refine Qae ?_
  refine Yz Y ?_ by7 by5
  simp_all;done
 intro c27 h27
 refine Qe ?_
 obtain ⟨rfl,g27⟩|⟨rfl,g27⟩:=Za h27
 ·refine QF ?_
  refine Qag ?_
  refine Zb 30 Y Y Y (Zo (i:=0) Y te_32 Y (.seq _ _) Y Y (by first|rfl|assumption) ?_)
  refine QaS ?_
  refine Qa5 ?_
  refine QH ?_;intro b3
  refine QS ?_
  refine QL ?_
  refine Zt 0 (True) ?_ _ _ Y ?_
  ·skip
   refine Qa8 ?_
   refine Qi ?_;intro c35 h35
   refine Qb ?_
   obtain ⟨rfl,g35⟩|⟨rfl,g35⟩:=Za h35
   ·skip
    refine Qh ?_
    refine Qa9 ?_
    refine Q9 ?_
    refine Qh ?_
    refine QZ ?_
    refine Q9 ?_
    refine Qh ?_
    refine Qh ?_
    refine Q4 ?_
    refine Yz Y ?_ by7 by5
    simp_all;done
   skip
   refine QaE ?_
   refine Qdb ?_;intro n39
   refine Qah ?_;intro c40 h40
   refine Qp ?_
   obtain ⟨rfl,g40⟩|⟨rfl,g40⟩:=Za h40
   ·skip
    refine Qh ?_
    refine Qad ?_
    refine Q9 ?_
    refine Qh ?_
    refine QZ ?_
    refine Q9 ?_
    refine Qh ?_
    refine Qh ?_
    refine Q4 ?_
    refine Yz Y ?_ by7 by5
    simp_all;done
   skip
   refine QaE ?_
   refine Qc6 ?_
   refine Qw ?_
   refine Qdb ?_;intro n48
   refine Qah ?_;intro c49 h49
   refine Qp ?_
   obtain ⟨rfl,g49⟩|⟨rfl,g49⟩:=Za h49
   ·skip
    refine Qh ?_
    refine Qh ?_
    refine QZ ?_
    refine Q9 ?_
    refine Qh ?_
    refine Qh ?_
    refine Q4 ?_
    refine Yz Y ?_ by7 by5
    simp_all;done
   skip
   refine QaE ?_
   refine Qc6 ?_
   refine Qw ?_
   refine Qc6 ?_
   refine Qw ?_
   refine Qdc ?_;intro n60
   refine Qah ?_;intro c61 h61
   refine Qp ?_
   obtain ⟨rfl,g61⟩|⟨rfl,g61⟩:=Za h61
   ·skip
    refine Qh ?_
    refine Qh ?_
    refine Qh ?_
    refine Q4 ?_
    refine Yz Y ?_ by7 by5
    simp_all;done
   skip
   refine QaE ?_
   refine Qc6 ?_
   refine Qw ?_
   refine Qc6 ?_
   refine Qw ?_
   refine Zk 72 Y Y Y Y Y (Zo (i:=1) Y te_45 Y (.seq _ _) Y Y (by first|rfl|assumption) ?_)
   refine QcB ?_
   refine Qw ?_
   refine Qdc ?_;intro n76
   refine Qah ?_;intro c77 h77
   refine Qz ?_
   refine Yz Y ?_ by7 by5
   simp_all;done
  intro c0 h0
  refine QV ?_
  obtain rfl:c0=true:=h0.2 trivial
  exact Zg Y Y (Yv _) (Yr _) ⟨Y,Y⟩
 exact g27.elim
end Go.Proofs.Ytefbicnoddggnaa
namespace Go.Proofs.Ytefbicnoddggnaa
open Go.ChangeShapes Go.WideShapes Go.ChangeAt Go.RowKit
theorem inst_bs {d:Da} {cl:ByteArray} (hg:DtG d.cs) (h:(instR d cl).2=0):(∀ b∈(instR d cl).1.bs,b.e.pin (instR d cl).1.p=b.e∧b.e.wid)∧(instR d cl).1.bs.length≤1000:=by
 unfold instR at *
 cases hb:bindX d.p d.cs cl with
 | none=>rw [hb] at h;exact absurd (show (121:Int)=0 from h) by15
 | some x =>
  obtain ⟨nm,e⟩:=x
  refine ⟨fun b hm=>?_,Xb Y⟩
  rw [show (instX d cl nm e).bs=[.mk nm e d.p] from rfl,List.mem_singleton] at hm
  subst hm
  obtain ⟨y,q,_,h2,_⟩:=bindX_law hg hb
  refine ⟨?_,bindX_wid ⟨by have:=hg.len;omega,fun c hc=>by have:=(hg.cn c hc).2;omega⟩ hb⟩
  show e.pin d.p=e
  rw [← h2,Ex.pin_pin]
theorem inst_two {d:Da} {cl:ByteArray}:((instR d cl).2=0)∨((instR d cl).2=121∧(instR d cl).1.bs=[]):=by
 unfold instR
 cases hb:bindX d.p d.cs cl with
 | none=>exact .inr ⟨rfl,rfl⟩
 | some x=>exact .inl rfl
theorem DeriveInst_c (d:Da) (cl:ByteArray):ACall Try.prog 3 [.agg d.cells,.val (.string cl)] [] (fun v _=>v=.val (.bool true)):=by
 have HS:=small18_c d
 have HI:=fun (h:smP d)=>Inst_c d (h.dtg.das h.ps) cl
 have HR:=fun (h:smP d)=>rInst_c d h.dtg h.ps cl
 have HX:=fun (h:smP d) (h0:(instR d cl).2=0)=>same18_c (instR d cl).1 (inst_bs h.dtg h0).1 (inst_bs h.dtg h0).2
 have h2:=inst_two (d:=d) (cl:=cl)
 generalize smP d=sm at *
 obtain ⟨⟨⟨xc,⟨xk,xs,xn,xl⟩,xcx,xbs,xp⟩,code⟩,hi⟩:∃ r,instR d cl=r:=⟨_,rfl⟩
 rw [hi] at HI HR HX h2
 simp only [] at HI HR HX h2
 obtain ⟨ok,hok⟩:∃ b,decide (code=0)=b:=⟨_,rfl⟩
 rw [hok] at HR
 clear hi
 have hlb:=Bi.cellss_len xbs
 obtain ⟨ds,dps,dcs,ddv,dp⟩:=d
 refine Zc Try.func3 Y (by kernel_rfl) Y (Xb Y) ?_
 refine Qb9 ?_
 refine Qau ?_
 refine Qn ?_
 refine Zb 9 Y Y Y (Zd (xs:=[]) Y Y (awake18_c) by3 ?_)
 refine Qab ?_;intro c10 h10
 try replace h10:=nott h10 h9
 refine Qa ?_
 obtain ⟨rfl,g10⟩|⟨rfl,g10⟩:=Za h10
 ·refine Qt ?_
  refine Qn ?_
  refine Qbr ?_
  refine Zb 12 Y Y Y (Zj (xs:=[.tmp 11]) Y Y (HS) by3 ?_);intro c12 h12
  refine Qab ?_;intro c13 h13
  try replace h13:=nott h13 h12
  refine Qa ?_
  obtain ⟨rfl,g13⟩|⟨rfl,g13⟩:=Za h13
  ·refine Qt ?_
   have hsm:=Classical.not_not.1 g13
   have HI1:=HI hsm
   have HR1:=HR hsm
   refine Qj ?_
   refine Qbr ?_
   refine Qb ?_
   refine Zb 17 Y Y Y (Zd (xs:=[.tmp 15,.tmp 16]) Y Y (HI1) by3 ?_)
   refine Qbc ?_
   refine Qcy ?_;intro b5
   refine QcT ?_
   refine Qd ?_
   refine Qn ?_
   refine Qbr ?_
   refine Qb ?_
   refine Zb 23 Y Y Y (Zd (xs:=[.tmp 21,.tmp 22]) Y Y (HR1) by3 ?_)
   refine Qbc ?_
   refine Qcy ?_;intro b7
   refine QcT ?_
   refine Qbz ?_
   refine Qab ?_;intro c27 h27
   try replace h27:=nott h27 h25
   refine Qa ?_
   obtain ⟨rfl,g27⟩|⟨rfl,g27⟩:=Za h27
   ·refine Qt ?_
    obtain rfl:ok=true:=by
     cases ok with
     | true=>rfl
     | false=>exact absurd rfl g27
    have hc0:code=0:=of_decide_eq_true hok
    subst hc0
    have HX1:=HX hsm rfl
    refine Zt 4 (True) ?_ _ _ Y ?_
    ·skip
     refine QbU ?_;intro c37 h37
     refine Qb ?_
     obtain ⟨rfl,g37⟩|⟨rfl,g37⟩:=Za h37
     ·skip
      refine Qad ?_
      refine Qz ?_
      refine Yz Y ?_ by7 by5
      clear HS HI HR HX HX1;first|(simp_all;done)|(simp_all;omega)
     skip
     refine Zk 39 Y Y Y Y Y (Zx (cs':=[_,_,_,_,_,_,_,_]) (i:=1) Y ta_34 Y Y Y Y (Zk 40 Y Y Y Y Y (Zx (cs':=[_,_,_,_,_,_,_,_]) (i:=0) Y ta_34 Y Y Y Y (Zk 41 Y Y Y Y Y (Zd (xs:=[.tmp 39,.tmp 40]) Y Y (HX1) by3 ?_)))))
     refine Qz ?_
     refine Yz Y ?_ by7 by5
     clear HS HI HR HX HX1;first|(simp_all;done)|(simp_all;omega)
    intro c4 h4
    refine QV ?_
    obtain rfl:c4=true:=h4.2 trivial
    exact Zg Y Y (Yv _) (Yr _) Y
   refine Qbd ?_
   subst g27
   have hc0:code≠0:=of_decide_eq_false hok
   obtain ⟨e1,e2⟩:code=121∧xbs=[]:=h2.resolve_left hc0
   subst e1 e2
   have hlb0:(Bi.cellss []).length=0:=rfl
   refine Zt 4 (True) ?_ _ _ Y ?_
   ·skip
    refine QbU ?_;intro c29 h29
    refine Qb ?_
    obtain ⟨rfl,g29⟩|⟨rfl,g29⟩:=Za h29
    ·skip
     refine Qh ?_
     refine Qz ?_
     refine Yz Y ?_ by7 by5
     clear HS HI HR HX;first|(simp_all;done)|(simp_all;omega)
    skip
    refine QcC ?_
    refine Qc8 ?_
    refine Qdq ?_;intro n33
    refine Qah ?_;intro c34 h34
    refine Qz ?_
    refine Yz Y ?_ by7 by5
    clear HS HI HR HX;first|(simp_all;done)|(simp_all;omega)
   intro c4 h4
   refine QV ?_
   obtain rfl:c4=true:=h4.2 trivial
   exact Zg Y Y (Yv _) (Yr _) Y
  refine QD ?_
  exact Zg Y Y (Yv _) (Yr _) Y
 refine Qbd ?_
 exact absurd g10 by17
theorem deriveInst_own:ownKnob Try.prog.godebug=none:=by kernel_rfl
theorem deriveInst_laidOut:laidOutB Try.prog=true:=by kernel_rfl
theorem deriveInst_lifted (os:Os) (started:os.Started) (H:Type) (enc:TypeId × Value→H) :
    ReturnsInHanded {} Try.checked os 3 .any (Rows.deriveInstSpec.pre6 enc Try.prog Try.f3 Rows.deriveInstRow.domain false) (Rows.deriveInstSpec.post enc Try.prog Try.f3 false true false false):=by
 refine returnsInHanded_of_change_sized (C:=Try.checked) deriveInst_own started (by kernel_rfl) Try.func3
  (ChangeSpec.witness6 (enc:=enc) (C:=Try.checked) false ⟨#[],#[.agg #[.string ⟨#[]⟩,.slice none 0 0,.slice none 0 0,.slice none 0 0,.int .i64 0],.string ⟨#[]⟩],[]⟩ 8 (by kernel_rfl) (by kernel_rfl) (by kernel_rfl) (by kernel_rfl)) ?_
 intro W base args ds gs before hval0 hW hcnd hsz0 _
 have hval:∀ (j:Nat) t v,Try.f3.params[j]?=some t→args[j]?=some v→Value.okWide Try.prog W .any base t v:=hval0
 have hsz:(DataW.weightsEach Try.prog (Try.f3.params.toList++Rows.deriveInstSpec.plain.varTypes Try.prog) (ds++gs)).all (·≤reachBytes)=true:=hsz0
 have hW':=hW
 obtain ⟨p,q,hA0,hV,rfl,hfz,hnd⟩:=hW
 have hA:DataW.TrodAll enc Try.prog W 0 (fun _=>true) true Try.f3.params.toList args.toList ds p:=hA0
 rw [Try.params3] at hA hval hsz
 obtain ⟨rfl,rfl⟩:=trodVars_none hV
 obtain ⟨v0,v1,d0,d1,p0,p1,rfl,rfl,rfl,h0,h1⟩:=trodAll_two hA
 obtain ⟨f0,c0,s0,r0,o0⟩:=open_one closed18 by15 h0
 obtain ⟨d,rfl⟩:=shape_da s0
 obtain ⟨f1,c1,s1,r1,o1⟩:=open_one closed18 by15 h1
 obtain ⟨cl,l1,rfl⟩:=shape_str tu_9 s1
 refine (law_run (DeriveInst_c d cl) (.cons (rel_agg' (by rw [Da.cells_len'];decide) r0 o0) (.cons (rel_cell (okw_str Try.underlying9 (hval 1 9 v1 rfl rfl)) r1) .nil))).mono fun e W' ⟨he,hb⟩=>?_
 subst he
 exact ⟨_,Y,law_post (tb:=4) deriveInst_laidOut (by kernel_rfl) (by kernel_rfl) Try.underlying4 Y Y Y Y hW' hb⟩
theorem deriveInst_holds:Rows.DeriveInstSaid :=
 OpenClaim.holds_of_wide 3 Try.f3 rfl rfl rfl rfl rfl rfl rfl ⟨rfl,rfl,rfl,rfl,rfl⟩ rfl rfl rfl rfl rfl (by kernel_rfl) Try.func3 (by kernel_rfl)
  (of_decide_eq_true (by kernel_rfl)) (by unfold Func.isWrapper;first|(rw [if_pos by12];kernel_rfl)|(rw [if_neg by12];exact ⟨rfl,rfl⟩))
  (fun os started H enc _=>deriveInst_lifted os started H enc)
#print axioms deriveInst_holds
end Go.Proofs.Ytefbicnoddggnaa
