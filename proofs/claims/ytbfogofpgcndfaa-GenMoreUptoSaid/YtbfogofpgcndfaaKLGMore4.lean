/- GenMore (where what it reads is of bulk at most 1048576): a function more at the end does not turn the instructions of the others. -/
import Derived.Test.YtbfogofpgcndfaaKLGMore3
import Derived.Laws.StructEq
import Derived.Test.YtbfogofpgcndfaaChecked
import Derived.Test.YtbfogofpgcndfaaRows
set_option maxRecDepth 100000
set_option maxHeartbeats 4000000
namespace Go.Proofs.Ytbfogofpgcndfaa
open Go.RowKit
theorem tm_78:Try.prog.underlying 78=some (.map 9 4):=by kernel_rfl
def walkV (b4 b3 b5:Nat):AV:=.clo (.func 23) [] [.ptr b4 0,.ptr b3 0,.ptr b5 0]
def TM (bt b4 b3 b5:Nat) (out:List ByteArray) (M:Mem):Prop:=∃ v kvs,MetOk out kvs∧M=[.loc b4 [.val (.map (some bt))],mapR bt kvs,.loc b3 [.own v 1 (strs out)],.own 9 1 v,.loc b5 [walkV b4 b3 b5]]
def WalkC (N:Nat):Prop:=∀ (l:List St) (bt b4 b3 b5:Nat) (out:List ByteArray) (M:Mem),St.sizes l≤N→out.length+St.sizes l≤100000000→TM bt b4 b3 b5 out M →
    ACall Try.prog 23 [.seq 13 (St.cellss l),.ptr b4 0,.ptr b3 0,.ptr b5 0] M (fun _ M'=>TM bt b4 b3 b5 (bodT l out) M')
set_option maxHeartbeats 8000000 in
theorem walkStep_c (N:Nat) (IH:∀ K,K<N→WalkC K):WalkC N:=by
 intro l bt b4 b3 b5 out M hN hb hM
 obtain ⟨v0,kv0,hk0,rfl⟩:=hM
 have hll:=St.cellss_len l
 unfold walkV
 refine Zc Try.func23 V (by kernel_rfl) V (Yq V) ?_
 refine QJ ?_
 refine Qr ?_
 refine Qb8 ?_;intro n10
 refine Qv ?_
 apply c_loopk (rg [(0,1),(4,5),(11,34)]) (σ:=Nat × List ByteArray × Value × List (ByteArray × AV)) (fun zz=>match zz with|(j,oj,v,kvs)=>[(11,.val (.int .i64 (j:Nat)))]) (fun zz=>match zz with|(j,oj,v,kvs)=>[.loc b4 [.val (.map (some bt))],mapR bt kvs,.loc b3 [.own v 1 (strs oj)],.own 9 1 v,.loc b5 [.clo (.func 23) [] [.ptr b4 0,.ptr b3 0,.ptr b5 0]]]) (fun zz=>match zz with|(j,oj,v,kvs)=>j≤l.length∧MetOk oj kvs∧bodT l out=bodT (l.drop j) oj∧oj.length+St.sizes (l.drop j)≤100000000) (fun zz=>match zz with|(j,oj,v,kvs)=>l.length - j) ((0,out,v0,kv0))
 ·repeat' (first|exact Yt|apply Yr rfl|apply Ys rfl)
 ·exact ⟨Nat.zero_le _,hk0,V,hb⟩
 ·exact by2
 ·exact Yl V
 rintro ⟨j,oj,v,kvs⟩ hI
 try dsimp only [List.cons_append,List.nil_append] at hI ⊢
 obtain ⟨hj,hmk,hc,hsz⟩:=hI
 have hol:=strs_len oj
 refine Qw ?_;intro c12 h12
 refine Qg ?_
 obtain ⟨rfl,g12⟩|⟨rfl,g12⟩:=Za h12
 ·refine Qao ?_
  refine go_end ?_
  rw [List.drop_eq_nil_of_le by11,bodT] at hc
  exact out_none V (Yi _) ⟨v,kvs,by rw [hc];exact hmk,by rw [hc];rfl⟩
 refine Qp ?_
 obtain ⟨x,hx⟩:=Zh (l:=l) (i:=j) by11
 have hcx:=St.cellss_get hx
 have hsd:=sizes_drop hx
 have hsx:=St.sizes_get hx
 rw [bodT_drop hx] at hc
 obtain ⟨k,t,n,s,ar,fs,cp,d,arms⟩:=x
 obtain ⟨mb,hmb,hms⟩:=hmk s
 obtain ⟨o1,ho1⟩:∃ o1,(if k=2∧s∉oj then oj++[s] else oj)=o1:=⟨_,rfl⟩
 rw [stmT,ho1] at hc
 rw [St.size] at hsd hsx
 have hal:=St.cellsss_len arms
 obtain ⟨dk,da,dp,dcs,des⟩:=d
 simp only [St.cells,De.cells,List.cons_append,List.nil_append] at hcx
 refine Qk ?_
 refine QcK ?_
 refine QbS ?_
 refine QcL ?_;intro b6
 refine QcM ?_
 refine Qg ?_
 refine Qo ?_
 refine Zo 24 (k=2∧mb=false) ?_ _ _ V ?_
 ·skip
  refine Qt ?_
  refine Qx ?_;intro c17 h17
  refine Qa ?_
  obtain ⟨rfl,g17⟩|⟨rfl,g17⟩:=Za h17
  ·skip
   refine Qf ?_
   refine Qae ?_
   refine QH ?_
   refine Yp V ?_ by4 by1
   clear IH hc hcx hsd hsx hsz hk0 hmk ho1 hol;first|(cases mb <;> simp_all;done)|grind
  skip
  refine QaX ?_
  refine QL ?_
  refine Zg 22 V V V V V (op_lookupv (i:=2) V tm_78 tu_9 tz_4 V V V (hms) ?_)
  have h22:(mb=true↔mb=true):=Iff.rfl
  refine QU ?_;intro c23 h23
  try replace h23:=Yg h23 h22
  refine QH ?_
  refine Yp V ?_ by4 by1
  clear IH hc hcx hsd hsx hsz hk0 hmk ho1 hol;first|(cases mb <;> simp_all;done)|grind
 intro c24 h24
 refine Qj ?_
 apply c_joink [0,4,5,7,25,26,27,28,29,30,31,32,42] (σ:=Value × List (ByteArray × AV)) (fun zz=>match zz with|(v2,kv2)=>[]) (fun zz=>match zz with|(v2,kv2)=>[.loc b6 [.val (.int .i64 k),.val (.int .i64 t),.val (.int .i64 n),.val (.string s),.seq 2 (Ato.cellss ar),.seq 1 (nums fs),.seq 1 (Ato.cellsss cp),.val (.int .i64 dk),.val (.int .i64 da),.seq 1 (nums dp),.seq 8 (Dc.cellss dcs),.seq 5 (De.cellss des),.seq 1 (St.cellsss arms)],.loc b4 [.val (.map (some bt))],mapR bt kv2,.loc b3 [.own v2 1 (strs o1)],.own 9 1 v2,.loc b5 [.clo (.func 23) [] [.ptr b4 0,.ptr b3 0,.ptr b5 0]]]) (fun zz=>match zz with|(v2,kv2)=>MetOk o1 kv2∧o1.length≤oj.length+1)
 ·repeat' (first|exact Yt|apply Yr rfl|apply Ys rfl)
 ·skip
  obtain ⟨rfl,g24⟩|⟨rfl,g24⟩:=Za h24
  ·refine QB ?_
   refine go_lp ?_
   first
   | (rw [if_pos ⟨g24.1,fun q=>by rw [← hmb] at q;rw [g24.2] at q;exact absurd q by12⟩] at ho1
      subst ho1
      exact ⟨(u32,_),⟨met_put hmk s,by simp⟩,by2,Yj _ (Yj _ (Yj _ (MLe.loc _ (Yo (Le.own_eq (by simp [strs];rfl)) (Yn _)) (Yl V))))⟩)
   | (rw [if_neg (fun q=>g24 ⟨q.1,by have:=hmb.2;cases mb with
       | false=>rfl
       | true=>exact absurd (hmb.1 rfl) q.2⟩)] at ho1
      subst ho1
      exact ⟨(v,kvs),⟨hmk,by omega⟩,by2,Yl V⟩)
  refine Q6 ?_
  refine Qa7 ?_
  refine Qt ?_
  refine Zq V V (op_mapput (i:=2) V tm_78 tu_9 V V V V ?_)
  refine Qd ?_
  refine Qk ?_
  refine Zb 28 V V V (op_load_m1 (i:=3) V ta_32 V V V ?_)
  refine Qt ?_
  refine Zb 31 V V V (Zr (xs:=[.tmp 30]) el_32 V V V V V V (Yq V) (Zb 32 V V V (op_append (i:=4) el_32 V V V V (.seq _ _) by5 ?_)))
  intro u32
  refine Zq V V (Zm (i:=3) V ts_32 V V V V V (Yq V) V ?_)
  refine Qz ?_
  refine go_lp ?_
  first
  | (rw [if_pos ⟨g24.1,fun q=>by rw [← hmb] at q;rw [g24.2] at q;exact absurd q by12⟩] at ho1
     subst ho1
     exact ⟨(u32,_),⟨met_put hmk s,by simp⟩,by2,Yj _ (Yj _ (Yj _ (MLe.loc _ (Yo (Le.own_eq (by simp [strs];rfl)) (Yn _)) (Yl V))))⟩)
  | (rw [if_neg (fun q=>g24 ⟨q.1,by have:=hmb.2;cases mb with
      | false=>rfl
      | true=>exact absurd (hmb.1 rfl) q.2⟩)] at ho1
     subst ho1
     exact ⟨(v,kvs),⟨hmk,by omega⟩,by2,Yl V⟩)
 rintro ⟨v2,kv2⟩ hI
 try dsimp only [List.cons_append,List.nil_append] at hI ⊢
 refine QV ?_
 obtain ⟨hmk2,ho2⟩:=hI
 refine ACode.perm (pick_perm (is:=[1,1,1,1,1]) V) ?_
 refine Qk ?_
 refine QC ?_
 refine Zb 34 V V V (op_load_m1 (i:=5) V ta_49 V V V ?_)
 refine QbF ?_;intro n35
 refine Qv ?_
 apply c_loopk (rg [(0,1),(4,2),(7,2),(36,8)]) (σ:=Nat × List ByteArray × Value × List (ByteArray × AV)) (fun zz=>match zz with|(i,oi,v3,kv3)=>[(36,.val (.int .i64 (i:Nat)))]) (fun zz=>match zz with|(i,oi,v3,kv3)=>[.loc b4 [.val (.map (some bt))],mapR bt kv3,.loc b3 [.own v3 1 (strs oi)],.own 9 1 v3,.loc b5 [.clo (.func 23) [] [.ptr b4 0,.ptr b3 0,.ptr b5 0]],.loc b6 [.val (.int .i64 k),.val (.int .i64 t),.val (.int .i64 n),.val (.string s),.seq 2 (Ato.cellss ar),.seq 1 (nums fs),.seq 1 (Ato.cellsss cp),.val (.int .i64 dk),.val (.int .i64 da),.seq 1 (nums dp),.seq 8 (Dc.cellss dcs),.seq 5 (De.cellss des),.seq 1 (St.cellsss arms)]]) (fun zz=>match zz with|(i,oi,v3,kv3)=>i≤arms.length∧MetOk oi kv3∧armT arms o1=armT (arms.drop i) oi∧oi.length+St.sizess (arms.drop i)≤oj.length+1+St.sizess arms) (fun zz=>match zz with|(i,oi,v3,kv3)=>arms.length - i) ((0,o1,v2,kv2))
 ·repeat' (first|exact Yt|apply Yr rfl|apply Ys rfl)
 ·exact ⟨Nat.zero_le _,hmk2,V,by show o1.length+St.sizess arms≤_;omega⟩
 ·exact by2
 ·exact Yl V
 rintro ⟨i,oi,v3,kv3⟩ hI
 try dsimp only [List.cons_append,List.nil_append] at hI ⊢
 obtain ⟨hi,hmk3,hc3,hs3⟩:=hI
 refine Qw ?_;intro c37 h37
 refine Qg ?_
 obtain ⟨rfl,g37⟩|⟨rfl,g37⟩:=Za h37
 ·refine Qao ?_
  refine QT ?_
  rw [List.drop_eq_nil_of_le (show arms.length≤i by omega),armT] at hc3
  rw [List.drop_eq_nil_of_le (show arms.length≤i by omega),St.sizess] at hs3
  rw [hc3] at hc
  exact ⟨(j+1,oi,v3,kv3),⟨by show j+1≤l.length;omega,hmk3,hc,by show oi.length+St.sizes (l.drop (j+1))≤_;omega⟩,by show l.length - (j+1)<l.length - j;omega,by2,MLe.pre [_,_,_,_,_] [_]⟩
 refine Qp ?_
 obtain ⟨y,hy⟩:=Zh (l:=arms) (i:=i) by11
 have hcy:=St.cellsss_get hy
 have hsy:=sizess_drop hy
 have hgy:=St.sizess_get hy
 rw [armT_drop hy] at hc3
 have hbl:=bodT_len y oi
 have HW:=IH (St.sizes y) by11 y bt b4 b3 b5 oi _ (Nat.le_refl _) by11 ⟨v3,kv3,hmk3,rfl⟩
 refine Qk ?_
 refine Zb 38 V V V (Zj V te_49 V (.seq _ _) V V (hcy) ?_)
 refine QR ?_
 refine Qb ?_
 refine Qk ?_
 refine Zb 40 V V V (op_load_m1 (i:=4) V ta_63 V V V ?_)
 refine Qa ?_
 refine Zb 42 V V V (op_callvat [0,0,0,0,0] (xs:=[.tmp 41])  V V V V HW by0 (fun v42 M42 h42=>?_))
 refine Qz ?_
 refine QT ?_
 obtain ⟨v4,kv4,hmk4,rfl⟩:=h42
 exact ⟨(i+1,bodT y oi,v4,kv4),⟨by show i+1≤arms.length;omega,hmk4,hc3,by show (bodT y oi).length+St.sizess (arms.drop (i+1))≤_;omega⟩,by show arms.length - (i+1)<arms.length - i;omega,by2,Yl V⟩
theorem gwalk_c (N:Nat):WalkC N:=by
 induction N using Nat.strongRecOn with
 | _ N ih=>exact walkStep_c N ih
def FuS:List Fu→Nat
 | []=>0
 | f::fs=>2+St.sizes f.b+FuS fs
theorem fuS_drop {l:List Fu} {j:Nat} {x:Fu} (h:l[j]?=some x):FuS (l.drop j)=2+St.sizes x.b+FuS (l.drop (j+1)):=by
 rw [List.drop_eq_getElem_cons (getl h)]
 rw [List.getElem?_eq_getElem (getl h)] at h
 rw [Option.some.inj h,FuS]
theorem textsF_drop {l:List Fu} {j:Nat} {x:Fu} (h:l[j]?=some x) (out:List ByteArray):textsF (l.drop j) out=textsF (l.drop (j+1)) (bodT x.b out):=by
 rw [List.drop_eq_getElem_cons (getl h)]
 rw [List.getElem?_eq_getElem (getl h)] at h
 rw [Option.some.inj h,textsF]
set_option maxHeartbeats 8000000 in
theorem gTexts_c (a:Af) (hs:FuS a.fu≤50000000):PCall Try.prog 10 [.agg a.cells] (.seq 1 (strs (textsF a.fu []))):=by
 obtain ⟨fu,gl,ys,no⟩:=a
 have hs:FuS fu≤50000000:=hs
 show PCall _ _ _ (.seq 1 (strs (textsF fu [])))
 have hfl:=Fu.cellss_len fu
 refine Zc Try.func10 V (by kernel_rfl) V (Yq V) ?_
 refine Qi ?_
 refine Qbz ?_
 refine Q3 ?_
 refine Zb 3 V V V (Zv (cs':=[_]) V tz_32 V V ?_);intro b3
 refine QaE ?_
 refine Zb 8 V V V (op_makeMap V ?_);intro b8
 refine Zb 4 V V V (Zv (cs':=[_]) V tz_78 V V ?_);intro b4
 refine Zq V V (Zm (cs':=[_]) (i:=0) V ts_78 V V V V V (Yq V) V ?_)
 refine QaE ?_
 refine Zb 5 V V V (Zv (cs':=[_]) V tz_63 V V ?_);intro b5
 refine QaE ?_
 refine Zb 9 V V V (Yf (fs:=[]) (cs:=[.tmp 4,.tmp 3,.tmp 5]) V V V (Zq V V (Zm (cs':=[_]) (i:=0) V ts_63 V V V V V (Yq V) V ?_)))
 refine Qg ?_
 refine Qba ?_
 refine QbR ?_;intro n12
 refine Qv ?_
 refine c_ownF 9 1 (c_le (SLe.refl _) (Yj _ (Yj _ (Yj _ (Yj _ (MLe.loc _ (Yo (Le.nilOwn 1) (Yn _)) (Yi _)))))) (ACode.perm (pick_perm (is:=[2,2,2,0,0]) V) ?_))
 apply c_loopk (rg [(0,2),(4,1),(6,5),(13,9)]) (σ:=Nat × List ByteArray × Value × List (ByteArray × AV)) (fun zz=>match zz with|(j,oj,v,kvs)=>[(13,.val (.int .i64 (j:Nat)))]) (fun zz=>match zz with|(j,oj,v,kvs)=>[.loc b4 [.val (.map (some b8))],mapR b8 kvs,.loc b3 [.own v 1 (strs oj)],.own 9 1 v,.loc b5 [.clo (.func 23) [] [.ptr b4 0,.ptr b3 0,.ptr b5 0]]]) (fun zz=>match zz with|(j,oj,v,kvs)=>j≤fu.length∧MetOk oj kvs∧textsF fu []=textsF (fu.drop j) oj∧oj.length+FuS (fu.drop j)≤50000000) (fun zz=>match zz with|(j,oj,v,kvs)=>fu.length - j) ((0,[],.slice none 0 0,[]))
 ·repeat' (first|exact Yt|apply Yr rfl|apply Ys rfl)
 ·exact ⟨Nat.zero_le _,met_nil,V,by show 0+FuS fu≤_;omega⟩
 ·exact by2
 ·exact Yl V
 rintro ⟨j,oj,v,kvs⟩ hI
 try dsimp only [List.cons_append,List.nil_append] at hI ⊢
 obtain ⟨hj,hmk,hc,hsz⟩:=hI
 have hol:=strs_len oj
 refine Qw ?_;intro c14 h14
 refine Qg ?_
 obtain ⟨rfl,g14⟩|⟨rfl,g14⟩:=Za h14
 ·refine Qac ?_
  rw [List.drop_eq_nil_of_le by11,textsF] at hc
  rw [hc]
  refine Qk ?_
  refine QbJ ?_
  refine Qe ?_
  exact Zd V V (Le.own _ _ _) (MLe.none _) ⟨V,V⟩
 refine Qp ?_
 obtain ⟨⟨sl,cp,body⟩,hx⟩:=Zh (l:=fu) (i:=j) by11
 have hcx:=Fu.cellss_get hx
 have hsd:=fuS_drop hx
 rw [textsF_drop hx] at hc
 have hsd:FuS (fu.drop j)=2+St.sizes body+FuS (fu.drop (j+1)):=hsd
 have hc:textsF fu []=textsF (fu.drop (j+1)) (bodT body oj):=hc
 have HW:=gwalk_c (St.sizes body) body b8 b4 b3 b5 oj _ (Nat.le_refl _) by11 ⟨v,kvs,hmk,rfl⟩
 have hbl:=bodT_len body oj
 simp only [Fu.cells] at hcx
 refine Qk ?_
 refine Zb 15 V V V (Zj V te_22 V (.seq _ _) V V (hcx) ?_)
 refine Qb7 ?_
 refine QcW ?_;intro b7
 refine QcX ?_
 refine Qd ?_
 refine Qk ?_
 refine Zb 17 V V V (op_load_m1 (i:=5) V ta_63 V V V ?_)
 refine Qt ?_
 refine Zb 20 V V V (op_callvat [1,1,1,1,1] (xs:=[.tmp 19])  V V V V HW by0 (fun v20 M20 h20=>?_))
 refine Qz ?_
 refine QT ?_
 obtain ⟨v4,kv4,hmk4,rfl⟩:=h20
 exact ⟨(j+1,bodT body oj,v4,kv4),⟨by show j+1≤fu.length;omega,hmk4,hc,by show (bodT body oj).length+FuS (fu.drop (j+1))≤_;omega⟩,by show fu.length - (j+1)<fu.length - j;omega,by2,MLe.pre [_,_,_,_,_] [_]⟩
theorem ACode.frzc {ro:Option Nat} {n:Nat} {Q:Exit→Sl→Mem→Prop} {c:Code} {al:Sl} {R:Mem} {P:Program} {b m:Nat} {e:TypeId} {u:Value} {es:List (List AV)} {cs:List AV}
    (h:ACode ro P n c Q al (.loc b (.seq m es::cs)::R)):ACode ro P n c Q al (.loc b (.val u::cs)::.row e m u es::R):=by
 intro B F Mf a w hi hsl
 have hi2:Inv B F (.row e m u es::(.loc b (.val u::cs)::(R++Mf))) w:=hi.perm (List.Perm.swap _ _ _)
 obtain ⟨zs,hown,hslack,hrx,hox,hwx⟩:=hi2.ok _ (List.mem_cons_self)
 have hfar:=hi2.far
 rw [List.pairwise_cons] at hfar
 have hext:Ext F (F.grow u.ownBlock zs):=by
  intro b j x h
  unfold EH.grow
  split
  ·rename_i hh
   rw [hslack b j hh.1.symm] at h;simp at h
  exact h
 have hinv:Inv B (F.grow u.ownBlock zs) (.loc b (.val u::cs)::(R++Mf)) w:=by
  refine ⟨hi.base,fun b j x h=>?_,fun r hr'=>?_,hfar.2⟩
  ·unfold EH.grow at h
   split at h
   ·rename_i hh
    obtain ⟨hb,hj⟩:=hh
    obtain ⟨rfl,_⟩|⟨g,cap,cur,rfl,_⟩:=hown.2
    ·simp [Value.ownBlock] at hb
    simp [Value.ownBlock] at hb
    subst hb
    rw [hown.cellAt j (by rw [← hown.1];exact hj)];exact h
   exact hi.fix b j x h
  refine (hi2.ok r (List.mem_cons_of_mem _ hr')).stay hext (fun b' hb'=>⟨V,fun j=>?_⟩)
  unfold EH.grow
  rw [if_neg]
  rintro ⟨e,_⟩
  rcases hfar.1 r hr' with k|k
  ·simp [Res.blk] at k
   rw [k] at e;simp at e
  exact k (by rw [hb'];exact e.symm)
 have hu:Rel (F.grow u.ownBlock zs) (.seq m es) u:=by
  obtain ⟨rfl,h0⟩|⟨g,cap,cur,rfl,_,_,hnc,hcm,_⟩:=hown.2
  ·have:es=[]:=List.eq_nil_of_length_eq_zero h0
   subst this
   exact .seq0 m none 0 (fun _=>V)
  refine .seq (vs:=zs) g 0 cap hwx by11 (fun j x hx=>?_) (hrx.mono hext) hox by11
  have hj:=get_lt hx
  unfold EH.grow
  rw [if_pos ⟨by rw [Value.ownBlock],by omega⟩,Nat.zero_add]
  exact hx
 have hinv2:Inv B (F.grow u.ownBlock zs) (.loc b (.seq m es::cs)::R++Mf) w:=by
  refine ⟨hinv.base,hinv.fix,fun r hr=>?_,by have hp:=hinv.far;rw [List.pairwise_cons] at hp;exact List.pairwise_cons.2 ⟨fun r hr=>hp.1 r hr,hp.2⟩⟩
  rcases List.mem_cons.1 hr with rfl|hr
  ·obtain ⟨k1,k2,vs,T,k3,k4,k5⟩:=hinv.ok _ (List.mem_cons_self)
   refine ⟨k1,k2,vs,T,k3,?_,k5⟩
   cases k4 with
   | cons q1 q2=>cases q1;exact .cons hu q2
  exact hinv.ok r (List.mem_cons_of_mem _ hr)
 have:=h B (F.grow u.ownBlock zs) Mf a w hinv2 ⟨hsl.1,fun t' v' e=>?_⟩
 ·exact Code.wpIn_mono (fun e a w hp=>PostD.next (Ds:=[]) hext (Below.refl _ _) hp) this
 obtain ⟨h4,h5⟩:=hsl.2 t' v' e
 exact ⟨h4,h5.mono hext⟩
section
variable {P:Program} {al:Sl} {M:Mem} {K:AV→Mem→Prop} {o:Oper}
theorem op_clip {x hi mx:Operand} {t e:TypeId} {m:Nat} {v:AV} {es:List (List AV)} {k1 k2:IntKind} {a b:Int} (ho:o.op=.slice t x none (some hi) (some mx)) (ht:tyElem P t=some (e,m)) (hx:al.ev x=some v) (hv:IsSeq v m es) (h1:al.ev hi=some (.val (.int k1 a))) (h2:al.ev mx=some (.val (.int k2 b))) (ha:a=es.length) (hb:b=es.length)
    (q:K (.seq m es) M):OpT P o al M K:=by
 intro n B F Mf ac w hi' hsl ro
 have hrel:=hv.rel (hsl.ev hx)
 obtain ⟨hund,inf,hinf,rfl⟩:=tyElem_run ht
 have e1:=ev_int hsl h1
 have e2:=ev_int hsl h2
 subst ha hb
 generalize hu:ac.eval x=uu at hrel
 cases hrel with
 | seq0 _ ao cap h =>
  have e1:ac.eval hi=.int k1 0:=e1
  have e2:ac.eval mx=.int k2 0:=e2
  exact wpR_value (w':=w) (u:=.slice ao 0 0) (by simp [execOp,ho,hu,e1,e2,Instr.sliceAt,Instr.slice,underlying,hund,Instr.sliceBounds,Instr.sliceBound,asIntOf,sizeOf,typeInfo,hinf]) ⟨_,_,_,F,V,q,.seq0 _ ao 0 (fun _=>V),Ext.refl F,hi',Below.refl _ _⟩
 | seq b off cap hm hn hl h h1 hcq =>
  have e0:(⟨b,off,none⟩:Addr).add 0=⟨b,off,none⟩:=by rw [addr_add0];rfl
  exact wpR_value (w':=w) (u:=.slice (some ⟨b,off,none⟩) es.length es.length) (by simp [execOp,ho,hu,e1,e2,Instr.sliceAt,Instr.slice,underlying,hund,Instr.sliceBounds,Instr.sliceBound,asIntOf,sizeOf,typeInfo,hinf,hcq,e0]) ⟨_,_,_,F,V,q,.seq b off es.length hm hn hl h h1 (Nat.le_refl _),Ext.refl F,hi',Below.refl _ _⟩
end
theorem op_index_rowo {P:Program} {al:Sl} {M:Mem} {K:AV→Mem→Prop} {o:Oper} {x y:Operand} {t e:TypeId} {ik:IntKind} {m i n k:Nat} {j:Int} {u:Value} {es:List (List AV)} (ho:o.op=.indexAddr t x y) (ht:tyElem P t=some (e,m)) (hx:al.ev x=some (.val u)) (hm:M[i]?=some (.row e m u es)) (hy:al.ev y=some (.val (.int ik j))) (hj:j=k) (hlt:k<es.length) (hu:∃ gb cap,u=rowv gb n cap) (q:∀ gb cap,u=rowv gb n cap→K (.ptr gb (k * m)) M):OpT P o al M K:=by
 obtain ⟨gb,cap,rfl⟩:=hu
 exact op_index_row ho ht hx hm hy hj hlt (q gb cap V)
theorem Clip_c (es:List (List AV)):PCall Try.prog 14 [.seq 7 es] (.seq 7 es):=by
 refine Zc Try.func14 V (by kernel_rfl) V (Yq V) ?_
 refine QaM ?_
 refine Qbw ?_;intro n5
 refine Qa ?_
 refine Qbw ?_;intro n7
 refine Zb 8 V V V (op_clip V te_30 V (.seq _ _) V V V V ?_)
 refine Qe ?_
 exact Zd V V (Ym _) by1 ⟨V,V⟩
theorem c_rowF {ro:Option Nat} {P:Program} {n:Nat} {ks:List Kont} {Q:Exit→Sl→Mem→Prop} {c:Code} {al:Sl} {M:Mem} (e:TypeId) (m:Nat) (h:ACode ro P n c (after ro P n ks Q) al (.row e m (.slice none 0 0) []::M)):ACode ro P n c (after ro P n ks Q) al M:=fun B F Mf a w hi hs =>
 h B F Mf a w (MImp.rowNil e m M B F Mf w hi) hs
mutual
theorem stmT_nd:∀ (x:St) (out:List ByteArray),out.Nodup→(stmT x out).Nodup
 | .mk k t n s ar fs cp d arms,out,h=>by
  rw [stmT]
  refine armT_nd arms _ ?_
  split
  ·rename_i q
   rw [List.nodup_append]
   exact ⟨h,by simp,fun a ha b hb e=>by rw [List.mem_singleton.1 hb] at e;subst e;exact q.2 ha⟩
  exact h
theorem bodT_nd:∀ (l:List St) (out:List ByteArray),out.Nodup→(bodT l out).Nodup
 | [],out,h=>by rw [bodT];exact h
 | x::l,out,h=>by rw [bodT];exact bodT_nd l _ (stmT_nd x out h)
theorem armT_nd:∀ (l:List (List St)) (out:List ByteArray),out.Nodup→(armT l out).Nodup
 | [],out,h=>by rw [armT];exact h
 | x::l,out,h=>by rw [armT];exact armT_nd l _ (bodT_nd x out h)
end
theorem textsF_nd:∀ (fs:List Fu) (out:List ByteArray),out.Nodup→(textsF fs out).Nodup
 | [],out,h=>h
 | f::fs,out,h=>by rw [textsF];exact textsF_nd fs _ (bodT_nd f.b out h)
theorem textsF_len:∀ (fs:List Fu) (out:List ByteArray),(textsF fs out).length≤out.length+FuS fs
 | [],out=>by rw [textsF];exact Nat.le_add_right _ _
 | f::fs,out=>by
  rw [textsF,FuS]
  have h1:=bodT_len f.b out
  have h2:=textsF_len fs (bodT f.b out)
  omega
theorem idxT_get:∀ {l:List ByteArray} {i:Nat} {s:ByteArray},l.Nodup→l[i]?=some s→idxT s l=i
 | x::l,0,s,_,h=>by simp at h;rw [idxT,if_pos h]
 | x::l,i+1,s,hn,h=>by
  have h:l[i]?=some s:=by simpa using h
  rw [List.nodup_cons] at hn
  rw [idxT,if_neg (fun e=>hn.1 (by rw [e];exact Yu h)),idxT_get hn.2 h]
def MapTo (tx:List ByteArray) (i:Nat) (kvs:List (ByteArray × AV)):Prop:=∀ s,mget s kvs=if s∈tx.take i then some (.val (.int .i64 ((idxT s tx:Nat):Int))) else none
theorem mapTo_put {tx:List ByteArray} {i:Nat} {kvs:List (ByteArray × AV)} {s:ByteArray} (hn:tx.Nodup) (h:MapTo tx i kvs) (hs:tx[i]?=some s):MapTo tx (i+1) (mput s (.val (.int .i64 ((i:Nat):Int))) kvs):=by
 intro s2
 rw [mget_mput,List.take_add_one,hs]
 by_cases e:s2=s
 ·subst e
  rw [if_pos rfl,if_pos by12,idxT_get hn hs]
 rw [if_neg e,h s2]
 by_cases q:s2∈tx.take i
 ·rw [if_pos q,if_pos (by simp [q])]
 rw [if_neg q,if_neg (by simp [q,e])]
theorem mapTo_ok {tx:List ByteArray} {i:Nat} {kvs:List (ByteArray × AV)} (h:MapTo tx i kvs) (hi:tx.length≤i):MapOk tx kvs:=by
 intro s
 rw [h s,List.take_of_length_le hi]
 unfold textI
 by_cases q:s∈tx
 ·rw [if_pos q,if_pos q];rfl
 rw [if_neg q,if_neg q];rfl
theorem funsF_drop {tx:List ByteArray} {fu:List Fu} {j:Nat} {f:Fu} (h:fu[j]?=some f) (l:List Is):funsF tx (fu.drop j) l=((funsF tx (fu.drop (j+1)) (funF tx f l)).1,.mk (((funF tx f l).length - l.length:Nat):Int) f.sl f.cp::(funsF tx (fu.drop (j+1)) (funF tx f l)).2):=by
 rw [List.drop_eq_getElem_cons (getl h)]
 rw [List.getElem?_eq_getElem (getl h)] at h
 rw [Option.some.inj h,funsF]
def zCd:List AV:=[.val (.slice none 0 0),.val (.slice none 0 0),.val (.slice none 0 0),.val (.int .i64 0),.val (.int .i64 0),.val (.int .i64 0)]
def GenP (a:Af) (K:Prop) (v:AV):Prop:=(K∧v=.tup [.agg (genF a).cells,.val (.int .i64 0)])∨(¬ K∧v=.tup [.agg zCd,.val (.int .i64 160)])
theorem fuS_len:∀ l:List Fu,2 * l.length≤FuS l
 | []=>Nat.le_refl _
 | f::l=>by
  have:=fuS_len l
  rw [FuS,List.length_cons];omega
set_option maxHeartbeats 8000000 in
theorem Gen_c (a:Af) (K1 K2:Prop) (hs:FuS a.fu≤10000000) (HR:BCall Try.prog 9 [.agg a.cells] K1) (hW:K1→∀ f∈a.fu,St.wfs f.b) (HC:BCall Try.prog 15 [.agg (genF a).cells] K2) :
    ACall Try.prog 6 [.agg a.cells] [] (fun v M'=>GenP a (K1∧K2) v∧M'=[]):=by
 have HT:=gTexts_c a by11
 have htl:=textsF_len a.fu []
 have hnd:=textsF_nd a.fu [] List.nodup_nil
 unfold GenP
 obtain ⟨fu,gl,ys,no⟩:=a
 have hg:genF (.mk fu gl ys no)=.mk (funsF (textsF fu []) fu []).1 (funsF (textsF fu []) fu []).2 (textsF fu []) gl ys no:=rfl
 rw [hg] at HC ⊢
 simp only [Af.fu,Af.cells,Cd.cells] at *
 clear hg
 obtain ⟨tx,htx⟩:∃ tx,textsF fu []=tx:=⟨_,rfl⟩
 rw [htx] at HT HC htl hnd ⊢
 have htn:=strs_len tx
 have hfn:=Fu.cellss_len fu
 have hful:=fuS_len fu
 have htl:tx.length≤FuS fu:=by simpa using htl
 refine Zc Try.func6 V (by kernel_rfl) V (Yq V) ?_
 refine Qi ?_
 refine Qbz ?_
 refine Qcl ?_;intro b2
 refine Qu ?_
 refine Qy ?_
 refine Qcm ?_
 refine Zb 13 V V V (Zk (xs:=[.tmp 12]) V V (HR) by0 ?_);intro c13 h13
 refine QG ?_;intro c14 h14
 try replace h14:=Yg h14 h13
 refine Qd ?_
 obtain ⟨rfl,g14⟩|⟨rfl,g14⟩:=Za h14
 ·refine Q7 ?_
  have hK1:K1:=Classical.not_not.1 g14
  have hwf:=hW hK1
  refine Qk ?_
  refine Zb 16 V V V (op_makeMap V ?_);intro b16
  refine Qcm ?_
  refine Zb 18 V V V (Zl (xs:=[.tmp 17]) V V (HT) by0 ?_)
  refine Zb 19 V V V (Zn (ns:=[1,2]) (xs:=[.tmp 16,.tmp 18]) V tz_62 V tfl_62 V V V V ?_)
  refine Qbr ?_;intro b20
  refine Qu ?_
  refine Qr ?_
  refine Qan ?_
  refine Qt ?_
  refine QbP ?_;intro n25
  refine Qv ?_
  apply c_loopk (rg [(0,1),(5,2),(8,1),(12,12),(26,12),(67,1),(98,1)]) (σ:=Nat × List (ByteArray × AV)) (fun zz=>match zz with|(i,kvs)=>[(26,.val (.int .i64 (i:Nat)))]) (fun zz=>match zz with|(i,kvs)=>[.loc b20 [.val (.slice none 0 0),.val (.map (some b16)),.seq 1 (strs tx),.val (.int .i64 0)],mapR b16 kvs,.loc b2 zCd]) (fun zz=>match zz with|(i,kvs)=>i≤tx.length∧MapTo tx i kvs) (fun zz=>match zz with|(i,kvs)=>tx.length - i) ((0,[]))
  ·repeat' (first|exact Yt|apply Yr rfl|apply Ys rfl)
  ·exact ⟨Nat.zero_le _,fun s=>by simp [mget]⟩
  ·exact by2
  ·exact Yl V
  rintro ⟨i,kvs⟩ hI
  try dsimp only [List.cons_append,List.nil_append] at hI ⊢
  obtain ⟨hi,hmt⟩:=hI
  refine Qw ?_;intro c27 h27
  refine Qg ?_
  obtain ⟨rfl,g27⟩|⟨rfl,g27⟩:=Za h27
  ·refine Qac ?_
   have hmo:=mapTo_ok hmt by11
   refine Yh [0,1,2,3,4,5,6,7,8,9,10,11,12] [11,12] [[],[0],[0,1],[0,1,2],[],[4],[],[6],[],[8],[0,1,2,3,4,5,6,7,8,9],[],[0,1,2,3,4,5,6,7,8,9,10,11]] tmix V ?_
   refine QD ?_
   refine Qbk ?_
   refine Qa8 ?_
   refine QaF ?_
   refine QaF ?_
   refine QaF ?_
   refine Zf 48 (none) (i:=10) V V V V V (Zn (ns:=[2,3,4,5]) (xs:=[.tmp 41,.tmp 43,.tmp 45,.tmp 47]) V tz_34 V tfl_34 V V V V ⟨V,V⟩) ?_
   refine EOps.nw (i:=11) V V V (Zv (cs':=[_,_,_,_,_,_]) V tz_34 V V (fun b7=>⟨_,V,?_⟩))
   refine EOps.w 3 (i:=12) V V V V V (Zm (cs':=[_,_,_,_,_,_]) (i:=0) V ts_34 V V V V V (Yq V) V ⟨_,V,?_⟩)
   show AGo _ _ _ _ _ _ _
   refine QV ?_
   refine Qba ?_
   refine QbR ?_;intro n51
   refine Qv ?_
   refine c_ownF 55 3 (c_rowF 53 7 (ACode.perm (pick_perm (is:=[2,0,1,2,0,0]) V) ?_))
   apply c_loopk (rg [(0,2),(5,2),(8,26),(35,15),(52,65)]) (σ:=Nat × List Is × Nat × Value × List Cf × Value) (fun zz=>match zz with|(j,lj,mo,u,cfs,w)=>[(52,.val (.int .i64 (j:Nat)))]) (fun zz=>match zz with|(j,lj,mo,u,cfs,w)=>[.loc b20 [.val u,.val (.map (some b16)),.seq 1 (strs tx),.val (.int .i64 (mo:Nat))],.row 53 7 u (Is.cellss lj),mapR b16 kvs,.loc b7 [.val (.slice none 0 0),.own w 3 (Cf.cellss cfs),.seq 1 (strs tx),.val (.int .i64 gl),.val (.int .i64 ys),.val (.int .i64 no)],.own 55 3 w,.loc b2 zCd]) (fun zz=>match zz with|(j,lj,mo,u,cfs,w)=>j≤fu.length∧((u=.slice none 0 0∧lj=[])∨∃ gb cap,u=rowv gb lj.length cap)∧funsF tx fu []=((funsF tx (fu.drop j) lj).1,cfs++(funsF tx (fu.drop j) lj).2)∧lj.length+2 * FuS (fu.drop j)≤20000000∧cfs.length=j) (fun zz=>match zz with|(j,lj,mo,u,cfs,w)=>fu.length - j) ((0,[],0,.slice none 0 0,[],.slice none 0 0))
   ·repeat' (first|exact Yt|apply Yr rfl|apply Ys rfl)
   ·exact ⟨Nat.zero_le _,.inl ⟨V,V⟩,by simp,by show 0+2 * FuS fu≤_;omega,V⟩
   ·exact by2
   ·exact Yj _ (Yj _ (Yj _ (MLe.loc _ (Yo (Ym _) (Yo (Le.nilOwn 3) (Yn _))) (Yl V))))
   rintro ⟨j,lj,mo,u,cfs,w⟩ hI
   try dsimp only [List.cons_append,List.nil_append] at hI ⊢
   obtain ⟨hj,hu,hc,hsz,hcl⟩:=hI
   have hcn:=Cf.cellss_len cfs
   have hln:=Is.cellss_len lj
   refine Qw ?_;intro c53 h53
   refine Qg ?_
   obtain ⟨rfl,g53⟩|⟨rfl,g53⟩:=Za h53
   ·refine Qac ?_
    rw [List.drop_eq_nil_of_le by11,funsF] at hc
    simp only [List.append_nil] at hc
    rw [hc] at HC ⊢
    refine ACode.frzc ?_
    refine Qn ?_
    refine Qan ?_
    refine Qt ?_
    refine Zb 121 V V V (Zl (xs:=[.tmp 120]) V V (Clip_c (Is.cellss lj)) by0 ?_)
    refine QC ?_
    refine Zq V V (Zm (cs':=[_,_,_,_,_,_]) (i:=2) V ts_30 V V V V V (Yq V) V ?_)
    refine Qg ?_
    refine Qy ?_
    refine Qde ?_
    refine Zb 124 V V V (Zk (xs:=[.tmp 123]) V V (HC) by0 ?_);intro c124 h124
    refine QG ?_;intro c125 h125
    try replace h125:=Yg h125 h124
    refine Qd ?_
    obtain ⟨rfl,g125⟩|⟨rfl,g125⟩:=Za h125
    ·refine QB ?_
     refine Q2 ?_
     refine Qde ?_
     refine Qdf ?_
     refine Qe ?_
     exact out_ct (i:=4) V V V V ta_34 V (by repeat' (first|exact Ym _|exact Le.own _ _ _|exact Le.nil _|refine Le.agg ?_|refine Le.tup ?_|exact Yn _|refine Yo ?_ ?_|refine Le.seq ?_|exact Less.refl _|exact Less.nil|refine Less.cons ?_ V ?_)) (MLe.none _) ⟨.inl ⟨⟨hK1,Classical.not_not.1 g125⟩,V⟩,V⟩
    refine Q6 ?_
    refine Qdg ?_
    refine Qdf ?_
    refine Qe ?_
    exact out_ct (i:=4) V V V V ta_34 V (Ym _) (MLe.none _) ⟨.inr ⟨fun q=>g125 q.2,V⟩,V⟩
   refine Qp ?_
   obtain ⟨f,hf⟩:=Zh (l:=fu) (i:=j) by11
   have hcf:=Fu.cellss_get hf
   have hsd:=fuS_drop hf
   rw [funsF_drop hf] at hc
   have hfl:=fun_len tx f lj
   have hwx:=hwf f (Yu hf)
   have HB:=body_c (St.sizes f.b) f.b b20 b16 (.seq 1 (strs tx)) tx kvs ⟨lj,0⟩ _ (Nat.le_refl _) hwx (by show lj.length+2 * St.sizes f.b≤_;omega) hmo ⟨u,hu,rfl⟩
   have hbg:=bod_ge tx f.b ⟨lj,0⟩
   obtain ⟨fn,hfn2⟩:∃ fn,funF tx f lj=fn:=⟨_,rfl⟩
   have hfe:=hfn2
   unfold funF at hfe
   obtain ⟨g2,hg2⟩:∃ g2,bodF tx f.b ⟨lj,0⟩=g2:=⟨_,rfl⟩
   rw [hg2] at HB hfe hbg
   rw [hfn2] at hc hfl
   have hbg:lj.length≤g2.ins.length:=hbg
   have hg2n:=Is.cellss_len g2.ins
   have hbl2:=bod_len tx f.b ⟨lj,0⟩
   rw [hg2] at hbl2
   have hbl2:g2.ins.length≤lj.length+2 * St.sizes f.b:=hbl2
   obtain ⟨sl,cp,body⟩:=f
   simp only [Fu.cells,Fu.b,Fu.sl,Fu.cp] at *
   refine Qk ?_
   refine Zb 54 V V V (Zj V te_22 V (.seq _ _) V V (hcf) ?_)
   refine Qb7 ?_
   refine QcW ?_;intro b9
   refine QcX ?_
   refine Qd ?_
   refine Qr ?_
   refine Qan ?_
   refine QC ?_
   refine Qa7 ?_
   refine Zb 60 V V V (op_len_row (i:=2) V tu_30 V V (fun n60=>?_))
   refine Qb ?_
   refine Qr ?_
   refine Qan ?_
   refine QC ?_
   refine Zq V V (Zm (i:=1) V ts_3 V V V V V (Yq V) V ?_)
   refine Qd ?_
   refine Qr ?_
   refine Qt ?_
   refine Zb 67 V V V (Yd [1,1,1] (xs:=[.tmp 64,.tmp 66])  V V V HB by0 (fun v67 M67 h67=>?_))
   refine Qg ?_
   refine Qo ?_
   obtain ⟨M1,rfl,u2,hu2,rfl⟩:=h67
   obtain ⟨i2,hi2⟩:∃ i2:Is,g2.ins.length≠0→g2.ins[g2.ins.length - 1]?=some i2:=by
    by_cases q:g2.ins.length=0
    ·exact ⟨.mk 0 0 0 0 [] [] [],fun h=>absurd q h⟩
    obtain ⟨i,hi⟩:=Zh (l:=g2.ins) (i:=g2.ins.length - 1) by11
    exact ⟨i,fun _=>hi⟩
   have hci:=fun h=>Is.cellss_get (hi2 h)
   have HE:=gends_c i2
   have hop:opn lj.length g2↔(g2.ins.length=lj.length∨¬ endOp i2.op∨g2.mo=g2.ins.length):=by
    unfold opn
    by_cases q:g2.ins.length=0
    ·exact ⟨fun _=>.inl by11,fun _=>.inl by11⟩
    rw [hi2 q];simp
   obtain ⟨iop,ia,ib,iN,iar,ifs,icp⟩:=i2
   simp only [Is.cells,Is.op] at hci HE hop
   refine Qn ?_
   refine Qan ?_
   refine Qt ?_
   refine Qb3 ?_;intro n72
   refine Qu ?_
   refine Zo 95 (opn lj.length g2) ?_ _ _ V ?_
   ·skip
    refine Qa ?_
    refine Qa ?_
    refine Qx ?_;intro c75 h75
    refine Qa ?_
    obtain ⟨rfl,g75⟩|⟨rfl,g75⟩:=Za h75
    ·skip
     refine QE ?_
     refine Qck ?_
     refine QL ?_
     refine QE ?_
     refine QbW ?_
     refine Zg 83 V V V V V (op_index_rowo (i:=1) (k:=(g2.ins.length - 1)) V te_30 V V V by7 (by11) ((hu2.resolve_left (fun q=>by have q3:g2.ins.length=0:=(by rw [q.2];rfl);omega))) ?_)
     intro rg83 rc83 re83;subst re83
     refine Zg 84 V V V V V (op_load_row (i:=1) (k:=(g2.ins.length - 1)) V Zi V V V (hci by11) ?_)
     refine Zg 85 V V V V V (Zk (xs:=[.tmp 84]) V V (HE) by0 ?_);intro c85 h85
     refine QU ?_;intro c86 h86
     try replace h86:=Yg h86 h85
     refine Qh ?_
     obtain ⟨rfl,g86⟩|⟨rfl,g86⟩:=Za h86
     ·skip
      refine QE ?_
      refine Qck ?_
      refine QL ?_
      refine QE ?_
      refine QbB ?_;intro c94 h94
      refine QH ?_
      refine Yp V ?_ by4 by1
      clear HB HE HC HR HT hc hfe hmo hwf hwx hcf hnd hmt hsd hci hi2;rw [hop];first|grind|(constructor <;> intro q <;> first|omega|grind)
     skip
     refine Qa0 ?_
     refine Yp V ?_ by4 by1
     clear HB HE HC HR HT hc hfe hmo hwf hwx hcf hnd hmt hsd hci hi2;rw [hop];first|grind|(constructor <;> intro q <;> first|omega|grind)
    skip
    refine Qf ?_
    refine Qf ?_
    refine Qag ?_
    refine QX ?_
    refine Qaq ?_
    refine Yp V ?_ by4 by1
    clear HB HE HC HR HT hc hfe hmo hwf hwx hcf hnd hmt hsd hci hi2;rw [hop];first|grind|(constructor <;> intro q <;> first|omega|grind)
   intro c95 h95
   refine Qj ?_
   apply c_joink (rg [(0,2),(5,2),(8,1),(12,22),(35,15),(67,1),(96,3)]) (σ:=Nat × Value) (fun zz=>match zz with|(mo3,u3)=>[]) (fun zz=>match zz with|(mo3,u3)=>[.loc b20 [.val u3,.val (.map (some b16)),.seq 1 (strs tx),.val (.int .i64 (mo3:Nat))],.row 53 7 u3 (Is.cellss fn),mapR b16 kvs,.loc b9 [.val (.int .i64 sl),.val (.int .i64 cp),.seq 13 (St.cellss body)],.loc b7 [.val (.slice none 0 0),.own w 3 (Cf.cellss cfs),.seq 1 (strs tx),.val (.int .i64 gl),.val (.int .i64 ys),.val (.int .i64 no)],.own 55 3 w,.loc b2 zCd]) (fun zz=>match zz with|(mo3,u3)=>(u3=.slice none 0 0∧fn=[])∨∃ gb cap,u3=rowv gb fn.length cap)
   ·repeat' (first|exact Yt|apply Yr rfl|apply Ys rfl)
   ·skip
    obtain ⟨rfl,g95⟩|⟨rfl,g95⟩:=Za h95
    ·refine QB ?_
     refine go_lp ?_
     first
     | (rw [if_neg g95] at hfe
        subst hfe
        exact ⟨(g2.mo,u2),hu2,by2,Yl V⟩)
     | (rw [if_pos g95] at hfe
        subst hfe
        obtain ⟨u3,hu3,rfl⟩:=h98
        exact ⟨((addF g2 iFail).mo,u3),hu3,by2,Yl V⟩)
    refine QO ?_
    have HA:=add_c b20 (.val (.map (some b16))) (.seq 1 (strs tx)) g2 iFail _ ⟨u2,hu2,rfl⟩ by11
    refine Qn ?_
    refine QcS ?_
    refine Zb 98 V V V (Yd [0,0] (xs:=[.tmp 96,.tmp 97])  V V V HA by0 (fun v98 M98 h98=>?_))
    refine Qz ?_
    refine go_lp ?_
    first
    | (rw [if_neg g95] at hfe
       subst hfe
       exact ⟨(g2.mo,u2),hu2,by2,Yl V⟩)
    | (rw [if_pos g95] at hfe
       subst hfe
       obtain ⟨u3,hu3,rfl⟩:=h98
       exact ⟨((addF g2 iFail).mo,u3),hu3,by2,Yl V⟩)
   rintro ⟨mo3,u3⟩ hI
   try dsimp only [List.cons_append,List.nil_append] at hI ⊢
   refine Qj ?_
   have hfnl:=Is.cellss_len fn
   have hfg:lj.length≤fn.length:=by
    rw [← hfe]
    split
    ·rw [addF_len];omega
    exact hbg
   refine Yh [0,1,2,3,4,5,6,7,8,9,10,11,12,13,14,15,16,17] [15,17] [[],[0],[],[2],[2,3],[2,3,4],[2,3,4,5],[],[2,3,4,5,6,7],[],[9],[],[11],[2,3,4,5,6,7,8,9,10,11,12],[2,3,4,5,6,7,8,9,10,11,12,13],[0,1,2,3,4,5,6,7,8,9,10,11,12,13,14],[0,1,2,3,4,5,6,7,8,9,10,11,12,13,14,15],[0,1,2,3,4,5,6,7,8,9,10,11,12,13,14,15,16]] tmix V ?_
   refine QA ?_
   refine Zf 100 (some 4) (i:=1) V V V V V (op_load_m1 (i:=0) V ta_31 V V V ⟨V,V⟩) ?_
   refine QD ?_
   refine Qbk ?_
   refine Qa8 ?_
   refine Qda ?_
   refine QD ?_
   refine Zf 107 (none) (i:=8) V V V V V (op_sub V V V (IntWalk.i64_in _ by11) ⟨V,V⟩) ?_
   refine QA ?_
   refine Qdh ?_
   refine QA ?_
   refine Qdh ?_
   refine Zf 112 (none) (i:=13) V V V V V (Zn (ns:=[0,1,2]) (xs:=[.tmp 107,.tmp 109,.tmp 111]) V tz_55 V tfl_55 V V V V ⟨V,V⟩) ?_
   refine Zf 113 (none) (i:=14) V V V V V (Zr (xs:=[.tmp 112]) el_31 V V V V V V (Yq V) ⟨V,V⟩) ?_
   refine EOps.w 5 (i:=15) V V V V V (op_append (i:=0) el_31 V V V V (.seq _ _) by5 (fun u114=>⟨_,V,?_⟩))
   refine QA ?_
   refine EOps.w 4 (i:=17) V V V V V (Zm (cs':=[_,_,_,_,_,_]) (i:=0) V ts_31 V V V V V (Yq V) V ⟨_,V,?_⟩)
   show AGo _ _ _ _ _ _ _
   refine QT ?_
   have e2:((fn.length:Nat):Int) - ((lj.length:Nat):Int)=((fn.length - lj.length:Nat):Int):=by omega
   exact ⟨(j+1,fn,mo3,u3,cfs++[.mk ((fn.length - lj.length:Nat):Int) sl cp],u114),⟨by show j+1≤fu.length;omega,hI,by rw [hc];simp,by show fn.length+2 * FuS (fu.drop (j+1))≤_;omega,by simp [hcl]⟩,by show fu.length - (j+1)<fu.length - j;omega,by2,Yj _ (Yj _ (Yj _ (Yk _ (MLe.loc _ (Yo (Ym _) (Yo (Le.own_eq (by simp [Cf.cellss,Cf.cells,hfnl,hln,e2];rfl)) (Yn _))) (Yl V)))))⟩
  refine Qp ?_
  obtain ⟨s,hsx⟩:=Zh (l:=tx) (i:=i) by11
  have hcs:=strs_get hsx
  have hmp:=mapTo_put hnd hmt hsx
  refine Qn ?_
  refine Zb 29 V V V (Zj V te_32 V (.seq _ _) V V (hcs) ?_)
  refine QR ?_
  refine Qa3 ?_
  refine Qb ?_
  refine Qn ?_
  refine Qan ?_
  refine Qt ?_
  refine Qa ?_
  refine Qa ?_
  refine Zq V V (op_mapput (i:=1) V tm_59 tu_9 V V V V ?_)
  refine Qz ?_
  refine QT ?_
  exact ⟨(i+1,_),⟨by show i+1≤tx.length;omega,hmp⟩,by show tx.length - (i+1)<tx.length - i;omega,by2,Yl V⟩
 refine Q6 ?_
 refine Qdg ?_
 refine Qcn ?_
 refine Qe ?_
 exact out_ct (i:=0) V V V V ta_34 V (Ym _) (MLe.none _) ⟨.inr ⟨fun q=>by simp_all,V⟩,V⟩
theorem Small28_z (a:Af) (hb:∀ f∈a.fu,St.ws f.b≤100000000):ZCall Try.prog 5 [.agg a.cells,.val (.int .i64 8000)]:=by
 obtain ⟨fu,gl,ys,no⟩:=a
 have hb:∀ f∈fu,St.ws f.b≤100000000:=hb
 have hfn:=Fu.cellss_len fu
 refine Zc Try.func5 V (by kernel_rfl) V (Yq V) ?_
 refine QJ ?_
 refine c_lena (t:=0) (j:=0) V V (.seq _ _) (fun hmax=>?_)
 refine Qy ?_
 refine Qbz ?_
 refine Q3 ?_
 refine QaS ?_
 refine QbR ?_;intro n10
 refine Qv ?_
 apply Zu (rg [(0,1),(2,7),(11,17)]) (σ:=Nat × Int) (fun zz=>match zz with|(i,n)=>[(11,.val (.int .i64 (i:Nat))),(5,.val (.int .i64 n))]) (fun zz=>match zz with|(i,n)=>i≤fu.length∧0≤n∧n≤8000) (fun zz=>match zz with|(i,n)=>fu.length - i) ((0,0))
 ·repeat' (first|exact Yt|apply Yr rfl|apply Ys rfl)
 ·exact ⟨Nat.zero_le _,by show (0:Int)≤0;omega,by show (0:Int)≤8000;omega⟩
 ·exact by2
 rintro ⟨i,n⟩ hI
 try dsimp only [List.cons_append,List.nil_append] at hI ⊢
 obtain ⟨hi,hn0,hnm⟩:=hI
 refine Qw ?_;intro c12 h12
 refine Qg ?_
 obtain ⟨rfl,g12⟩|⟨rfl,g12⟩:=Za h12
 ·refine Q9 ?_
  exact Zd V V (Ym _) by1 ⟨⟨_,V⟩,V⟩
 refine Qp ?_
 obtain ⟨x,hx⟩:=Zh (l:=fu) (i:=i) by11
 have hcx:=Fu.cellss_get hx
 have hw:=hb x (Yu hx)
 have HC:=scount_c (St.ws x.b) by11 x.b (8000 - n) (Nat.le_refl _) by11 by11
 have hcb:=St.cnts_b x.b 0 (8000 - n)
 generalize St.cnts x.b 0 (8000 - n)=r at *
 obtain ⟨sl,cp,b⟩:=x
 simp only [Fu.b] at HC
 simp only [Fu.cells] at hcx
 refine Qk ?_
 refine Zb 13 V V V (Zj V te_22 V (.seq _ _) V V (hcx) ?_)
 refine Qb7 ?_
 refine QcW ?_;intro b7
 refine QcX ?_
 refine Qd ?_
 refine Qr ?_
 refine Qt ?_
 refine Qa ?_
 refine Qa ?_
 refine QbZ ?_
 refine Zb 21 V V V (Zl (xs:=[.tmp 17,.tmp 20]) V V (HC) by0 ?_)
 refine QS ?_
 refine QS ?_
 refine QaK ?_
 refine QbV ?_;intro c26 h26
 refine Qd ?_
 obtain ⟨rfl,g26⟩|⟨rfl,g26⟩:=Za h26
 ·refine Qaa ?_
  exact ⟨(i+1,n+(1+r)),⟨by show i+1≤fu.length;omega,by show 0≤n+(1+r);omega,by show n+(1+r)≤8000;omega⟩,by show fu.length - (i+1)<fu.length - i;omega,by2,by1⟩
 refine Qq ?_
 exact Zd V V (Ym _) by1 ⟨⟨_,V⟩,V⟩
theorem funs_lim {tx:List ByteArray} (ht:tx.length≤1000000000):∀ (fs:List Fu) (l:List Is),(∀ f∈fs,f.Lim)→AllIL l→l.length+2 * FuS fs≤1000000000→AllIL (funsF tx fs l).1∧(∀ c∈(funsF tx fs l).2,c.Lim)∧(funsF tx fs l).1.length≤l.length+2 * FuS fs∧(funsF tx fs l).2.length=fs.length
 | [],l,_,hl,_=>⟨hl,fun c hc=>(by cases hc),Nat.le_add_right _ _,rfl⟩
 | f::fs,l,hf,hl,hb=>by
  rw [FuS] at hb
  have hf1:=hf f by12
  have e1:=fun_len tx f l
  have e2:=fun_lim ht f l hf1.2.2 hl by11
  obtain ⟨r1,r2,r3,r4⟩:=funs_lim ht fs (funF tx f l) (fun g hg=>hf g (by simp [hg])) e2 by11
  refine ⟨r1,fun c hc=>?_,by rw [FuS];show (funsF tx fs (funF tx f l)).1.length≤l.length+2 * (2+St.sizes f.b+FuS fs);omega,by show ((funsF tx fs (funF tx f l)).2).length+1=fs.length+1;omega⟩
  rcases List.mem_cons.1 hc with q|q
  ·subst q
   exact ⟨i64_nat by11,hf1.1,hf1.2.1⟩
  exact r2 c q
theorem genF_lim (a:Af) (h:a.Lim) (hs:FuS a.fu≤10000000):(genF a).Lim:=by
 have htl:=textsF_len a.fu []
 have htl:(textsF a.fu []).length≤FuS a.fu:=by simpa using htl
 obtain ⟨r1,r2,r3,r4⟩:=funs_lim (tx:=textsF a.fu []) by11 a.fu [] h.1 (fun x hx=>(by cases hx)) by8
 have hl:=fuS_len a.fu
 have r3:(funsF (textsF a.fu []) a.fu []).1.length≤2 * FuS a.fu:=by simpa using r3
 exact ⟨⟨by omega,r1⟩,⟨by omega,r2⟩,by omega,h.2.1,h.2.2.1,h.2.2.2⟩
theorem fuS_mem {f:Fu}:∀ {l:List Fu},f∈l→St.sizes f.b≤FuS l
 | g::l,h=>by
  rw [FuS]
  rcases List.mem_cons.1 h with q|q
  ·subst q;omega
  have:=fuS_mem q;omega
theorem GenA_c (a:Af) (hl:a.Lim) (hs:FuS a.fu≤10000000):ACall Try.prog 6 [.agg a.cells] [] (fun v M'=>GenP a (RightA prims a∧RightP (genF a)) v∧M'=[]) :=
 Gen_c a (RightA prims a) (RightP (genF a)) hs (aRight_c a (fun f hf=>by have:=fuS_mem hf;omega)) rightA_wf (Right_c (genF a) (genF_lim a hl hs))
abbrev exD:De:=.mk 0 0 [] [] []
abbrev exS:St:=.mk 7 0 0 ⟨#[]⟩ [.mk 1 0] [] [] exD []
abbrev exF:Fu:=.mk 1 0 [exS]
abbrev exA:Af:=.mk [exF] 0 0 0
abbrev exI:Is:=.mk 7 0 0 0 [.mk 1 0] [] []
abbrev exC:Cd:=.mk [exI] [.mk 1 1 0] [] 0 0 0
theorem ex_gen:genF exA=exC:=by
 have h1:textsF [exF] []=[]:=by simp [textsF,bodT,stmT,armT,Fu.b]
 have h2:∀ tx,bodF tx [exS] ⟨[],0⟩=⟨[exI],0⟩:=fun tx=>by simp [bodF,stmF,plainF,addF]
 have h3:∀ tx,funF tx exF []=[exI]:=fun tx=>by
  unfold funF
  simp only [Fu.b]
  simp only [h2]
  rw [if_neg]
  simp [opn,endOp,Is.op]
 unfold genF
 simp only [Af.fu,Af.gl,Af.ys,Af.no]
 rw [h1,funsF,h3]
 simp [funsF,Fu.sl,Fu.cp]
theorem ex_right:RightA prims exA:=by
 simp [RightA,FunR,St.rights,St.right,argN,AtP,TgtF,Af.fu,Af.gl,Af.ys,Af.no,Fu.sl,Fu.cp,Fu.b]
theorem ex_code:RightP exC:=by
 simp [RightP,HeadP,FunsP,RefP,FixP,endP,AtomP,Cd.fu,Cd.tx,Cd.is,Cd.gl,Cd.ys,Cd.no,Cf.cp,Cf.len,Cf.sl,Is.op,Is.ar,Is.a,Is.b,Is.n,Is.fs,Is.cp,Ato.k,opA,opB,opN,one1,two2,lst3]
theorem ex_lim:exA.Lim:=by
 refine ⟨fun f hf=>?_,i64_0,i64_0,i64_0⟩
 rw [List.mem_singleton.1 hf]
 simp [Fu.Lim,St.Lims,St.Lim,De.Lim,Dc.Lims,De.Lims,St.Limss,Fu.sl,Fu.cp,Fu.b,I64,Ato.Lim]
theorem exGen_c:PCall Try.prog 6 [.agg exA.cells] (.tup [.agg exC.cells,.val (.int .i64 0)]) :=
 (GenA_c exA ex_lim (by simp [FuS,Af.fu,Fu.b,St.sizes,St.size,De.size,Dc.sizes,De.sizes,St.sizess])).weak (by
  rintro v M' ⟨⟨_,rfl⟩|⟨q,_⟩,rfl⟩
  ·exact ⟨_,[],by rw [ex_gen];exact Ym _,Yi _,V,V⟩
  exact absurd ⟨ex_right,by rw [ex_gen];exact ex_code⟩ q)
theorem awake30_c:PCall Try.prog 4 [] (.val (.bool true)):=by
 have HG:=exGen_c
 simp only [Af.cells,Fu.cellss,Fu.cells,St.cellss,St.cells,De.cells,St.cellsss,Dc.cellss,De.cellss,Ato.cellss,Ato.cells,Ato.cellsss,nums,List.map_cons,List.map_nil,List.cons_append,List.nil_append,Cd.cells,Is.cellss,Is.cells,Cf.cellss,Cf.cells,strs] at HG
 refine Zc Try.func4 V (by kernel_rfl) V (Yq V) ?_
 refine Qi ?_
 refine Q3 ?_
 refine Zb 4 V V V (Zn (ns:=[0]) (xs:=[.const (.int .i64 1)]) V tz_41 V tfl_41 V V V V (Zb 5 V V V (Zr (xs:=[.tmp 4]) el_42 V V V V V V (Yq V) (Zb 6 V V V (Zn (ns:=[0,4]) (xs:=[.const (.int .i64 7),.tmp 5]) V tz_51 V tfl_51 V V V V (Zb 7 V V V (Zr (xs:=[.tmp 6]) el_25 V V V V V V (Yq V) (Zb 8 V V V (Zn (ns:=[0,2]) (xs:=[.const (.int .i64 1),.tmp 7]) V tz_27 V tfl_27 V V V V (Zb 9 V V V (Zr (xs:=[.tmp 8]) el_22 V V V V V V (Yq V) (Zb 10 V V V (Zn (ns:=[0]) (xs:=[.tmp 9]) V tz_24 V tfl_24 V V V V ?_)))))))))))))
 refine Zb 11 V V V (Zl (xs:=[.tmp 10]) V V (HG) (by repeat' (first|exact Yn _|refine Yo ?_ ?_|exact Ym _|exact Le.own _ _ _|exact Le.nil _|refine Le.agg ?_|refine Le.own_seqL ?_|refine Le.seq ?_|exact Less.refl _|exact Less.nil|refine Less.cons ?_ V ?_)) ?_)
 refine Qa ?_
 refine QaW ?_
 refine QaW ?_
 refine Qcl ?_;intro b1
 refine Qcn ?_
 refine Qu ?_
 refine Zo 0 (True) ?_ _ _ V ?_
 ·skip
  refine Qa ?_
  refine Qx ?_;intro c15 h15
  refine Qa ?_
  obtain ⟨rfl,g15⟩|⟨rfl,g15⟩:=Za h15
  ·skip
   refine Qf ?_
   refine QX ?_
   refine Qag ?_
   refine QaD ?_
   refine Qat ?_
   refine Yp V ?_ by4 by1
   simp_all;done
  skip
  refine QL ?_
  refine Qb1 ?_;intro n19
  refine QbB ?_;intro c20 h20
  refine Qh ?_
  obtain ⟨rfl,g20⟩|⟨rfl,g20⟩:=Za h20
  ·skip
   refine Qf ?_
   refine Qag ?_
   refine QaD ?_
   refine Qat ?_
   refine Yp V ?_ by4 by1
   simp_all;done
  skip
  refine QL ?_
  refine Zg 25 V V V V V (Zj (i:=0) V te_30 V (.seq _ _) V V (by first|rfl|assumption) ?_)
  refine Qab ?_;intro c28 h28
  refine Qh ?_
  obtain ⟨rfl,g28⟩|⟨rfl,g28⟩:=Za h28
  ·skip
   refine Qf ?_
   refine QX ?_
   refine Qat ?_
   refine Yp V ?_ by4 by1
   simp_all;done
  skip
  refine QL ?_
  refine QbL ?_;intro n33
  refine QbB ?_;intro c34 h34
  refine Qh ?_
  obtain ⟨rfl,g34⟩|⟨rfl,g34⟩:=Za h34
  ·skip
   refine Qf ?_
   refine Qat ?_
   refine Yp V ?_ by4 by1
   simp_all;done
  skip
  refine QL ?_
  refine Zg 39 V V V V V (Zj (i:=0) V te_31 V (.seq _ _) V V (by first|rfl|assumption) ?_)
  refine Qab ?_;intro c42 h42
  refine Qm ?_
  refine Yp V ?_ by4 by1
  simp_all;done
 intro c0 h0
 refine Qs ?_
 exact Zd V V (Le.beq (h0.2 trivial)) by1 ⟨V,V⟩
theorem GenV_c (a:Af) (hl:a.Lim) (hs:FuS a.fu≤10000000):∃ (x1 x2 x3 x4 x5 x6:AV) (e:Int),PCall Try.prog 6 [.agg a.cells] (.tup [.agg [x1,x2,x3,x4,x5,x6],.val (.int .i64 e)])∧(e=0→[x1,x2,x3,x4,x5,x6]=(genF a).cells):=by
 have H:=GenA_c a hl hs
 by_cases q:RightA prims a∧RightP (genF a)
 ·cases hg:genF a with|mk is fu tx gl ys no =>
  refine ⟨.seq 7 (Is.cellss is),.seq 3 (Cf.cellss fu),.seq 1 (strs tx),.val (.int .i64 gl),.val (.int .i64 ys),.val (.int .i64 no),0,H.weak ?_,fun _=>V⟩
  rintro v M' ⟨⟨_,rfl⟩|⟨q',_⟩,rfl⟩
  ·exact ⟨_,[],by rw [hg];exact Ym _,Yi _,V,V⟩
  exact absurd q q'
 refine ⟨.val (.slice none 0 0),.val (.slice none 0 0),.val (.slice none 0 0),.val (.int .i64 0),.val (.int .i64 0),.val (.int .i64 0),160,H.weak ?_,fun h=>absurd h by10⟩
 rintro v M' ⟨⟨q',_⟩|⟨_,rfl⟩,rfl⟩
 ·exact absurd q' q
 exact ⟨_,[],Ym _,Yi _,V,V⟩
end Go.Proofs.Ytbfogofpgcndfaa
namespace Go.Proofs.Ytbfogofpgcndfaa
open Go.RowKit
theorem rsameAtoms_c (xs ys:List Ato):BCall Try.prog 16 [.seq 2 (Ato.cellss xs),.seq 2 (Ato.cellss ys)] (xs=ys):=by
 have hlx:=Ato.cellss_len xs
 have hly:=Ato.cellss_len ys
 refine Zc Try.func16 V (by kernel_rfl) V (Yq V) ?_
 refine QJ ?_
 refine c_lens (t:=0) V (.seq _ _) (fun hmax=>?_)
 refine QaL ?_
 refine Qbv ?_;intro n7
 refine Qa ?_
 refine Qbv ?_;intro n9
 refine Qbx ?_;intro c10 h10
 refine Qd ?_
 obtain ⟨rfl,g10⟩|⟨rfl,g10⟩:=Za h10
 ·refine Q7 ?_
  refine Qy ?_
  refine Qb ?_
  refine QN ?_
  apply Zu (rg [(2,39)]) (σ:=Nat) (fun zz=>match zz with|i=>[(5,.val (.int .i64 i))]) (fun zz=>match zz with|i=>i≤xs.length∧Upto xs ys i) (fun zz=>match zz with|i=>xs.length - i) (0)
  ·repeat' (first|exact Yt|apply Yr rfl|apply Ys rfl)
  ·exact ⟨by omega,Upto.zero _ _⟩
  ·exact by2
  rintro i hI
  try dsimp only [List.cons_append,List.nil_append] at hI ⊢
  obtain ⟨hi,hu⟩:=hI
  refine Qo ?_
  refine Qr ?_
  refine Qa ?_
  refine Qbv ?_;intro n13
  refine Qav ?_;intro c14 h14
  refine Qd ?_
  obtain ⟨rfl,g14⟩|⟨rfl,g14⟩:=Za h14
  ·refine Q9 ?_
   exact Zd V V (Ym _) by1 ⟨⟨_,iff_t (hu.eq by11 by11),V⟩,V⟩
  refine Qp ?_
  obtain ⟨⟨xk,xn⟩,hxx⟩:=Zh (l:=xs) (i:=i) by6
  have hcx:=Ato.cellss_get hxx
  have hmx:=Yu hxx
  obtain ⟨⟨yk,yn⟩,hxy⟩:=Zh (l:=ys) (i:=i) by6
  have hcy:=Ato.cellss_get hxy
  have hmy:=Yu hxy
  refine c_boold 40 (¬ (xk=yk∧xn=yn)) tmix V ?_ _ _ V ?_
  ·skip
   refine QF ?_
   refine QF ?_
   refine Qdi ?_
   refine QaU ?_
   refine QF ?_
   refine QF ?_
   refine Qdi ?_
   refine QaU ?_
   refine DOps.cm 27 V V (fun _ q=>op_neq V V V q) ?_;intro c27 h27
   refine QF ?_
   obtain ⟨rfl,g27⟩|⟨rfl,g27⟩:=Za h27
   ·skip
    refine QbC ?_
    refine QbC ?_
    refine Qdj ?_
    refine QaC ?_
    refine QbC ?_
    refine Qdj ?_
    refine QY ?_
    refine Yc 39 V V V V (fun _ q=>op_neq V V V q) ?_;intro c39 h39
    refine Qaj ?_
    show BoolQ _ _ _ _ _ _
    refine Yp V ?_ by4 by1
    simp_all;done
   skip
   refine Qbb ?_
   refine Qay ?_
   refine Qa1 ?_
   show BoolQ _ _ _ _ _ _
   refine Yp V ?_ by4 by1
   simp_all;done
  intro c40 h40
  refine Qj ?_
  obtain ⟨rfl,g40⟩|⟨rfl,g40⟩:=Za h40
  ·refine QB ?_
   refine QaJ ?_
   refine Qn ?_
   refine Qau ?_
   refine go_lp ?_
   exact ⟨i+1,⟨by omega,hu.succ hxx hxy (by obtain ⟨rfl,rfl⟩:=Classical.not_not.1 g40;rfl)⟩,by simp;omega,by2,by1⟩
  refine Qq ?_
  exact Zd rfl rfl (Ym _) by1 ⟨⟨_,iff_f (fun e=>g40 (by subst e;rw [hxx] at hxy;cases hxy;exact ⟨rfl,rfl⟩)),rfl⟩,rfl⟩
 refine Qq ?_
 exact Zd rfl rfl (Ym _) by1 ⟨⟨_,iff_f (fun e=>by subst e;omega),rfl⟩,rfl⟩
theorem rSame29_c (a b:Cd):BCall Try.prog 7 [.agg a.cells,.agg b.cells] (a=b):=by
 obtain ⟨is1,fu1,tx1,gl1,ys1,no1⟩:=a
 obtain ⟨is2,fu2,tx2,gl2,ys2,no2⟩:=b
 have hk:((Cd.mk is1 fu1 tx1 gl1 ys1 no1)=(Cd.mk is2 fu2 tx2 gl2 ys2 no2))=(gl1=gl2∧ys1=ys2∧no1=no2∧tx1=tx2∧fu1=fu2∧is1=is2):=propext (by constructor;(intro e;cases e;exact ⟨rfl,rfl,rfl,rfl,rfl,rfl⟩);(rintro ⟨rfl,rfl,rfl,rfl,rfl,rfl⟩;rfl))
 rw [hk]
 have hl1:=Is.cellss_len is1
 have hl2:=Is.cellss_len is2
 have hl3:=Cf.cellss_len fu1
 have hl4:=Cf.cellss_len fu2
 have hl5:=strs_len tx1
 have hl6:=strs_len tx2
 refine Zc Try.func7 V (by kernel_rfl) V (Yq V) ?_
 refine QJ ?_
 refine c_lena (t:=0) (j:=0) V V (.seq _ _) (fun hmax=>?_)
 refine c_lena (t:=0) (j:=1) V V (.seq _ _) (fun hmax2=>?_)
 refine c_lena (t:=0) (j:=2) V V (.seq _ _) (fun hmax3=>?_)
 refine Qy ?_
 refine QcH ?_
 refine QcH ?_
 refine Qbj ?_
 refine Zo 57 (¬ (gl1=gl2∧ys1=ys2∧no1=no2∧tx1.length=tx2.length∧fu1.length=fu2.length∧is1.length=is2.length)) ?_ _ _ V ?_
 ·skip
  refine Ql ?_
  refine Ql ?_
  refine Qbx ?_;intro c16 h16
  refine Qa ?_
  obtain ⟨rfl,g16⟩|⟨rfl,g16⟩:=Za h16
  ·skip
   refine Qc ?_
   refine Qbh ?_;intro c22 h22
   refine Qh ?_
   obtain ⟨rfl,g22⟩|⟨rfl,g22⟩:=Za h22
   ·skip
    refine Qc ?_
    refine Qbh ?_;intro c29 h29
    refine Qh ?_
    obtain ⟨rfl,g29⟩|⟨rfl,g29⟩:=Za h29
    ·skip
     refine Qc ?_
     refine Qb0 ?_;intro n34
     refine Qc ?_
     refine Qb0 ?_;intro n37
     refine Qal ?_;intro c38 h38
     refine Qh ?_
     obtain ⟨rfl,g38⟩|⟨rfl,g38⟩:=Za h38
     ·skip
      refine Qc ?_
      refine QbL ?_;intro n43
      refine Qc ?_
      refine QbL ?_;intro n46
      refine Qal ?_;intro c47 h47
      refine Qh ?_
      obtain ⟨rfl,g47⟩|⟨rfl,g47⟩:=Za h47
      ·skip
       refine Qc ?_
       refine Qb1 ?_;intro n52
       refine Qc ?_
       refine Qb1 ?_;intro n55
       refine Qal ?_;intro c56 h56
       refine QH ?_
       refine Yp V ?_ by4 by1
       rw [h56];omega
      skip
      refine Qf ?_
      refine Qbc ?_
      refine Yp V ?_ by4 by1
      simp only [true_iff];omega
     skip
     refine Qf ?_
     refine Qbl ?_
     refine Yp V ?_ by4 by1
     simp only [true_iff];omega
    skip
    refine Qf ?_
    refine QZ ?_
    refine Qbl ?_
    refine Yp V ?_ by4 by1
    simp only [true_iff];omega
   skip
   refine Qf ?_
   refine Qad ?_
   refine QZ ?_
   refine Qbl ?_
   refine Yp V ?_ by4 by1
   simp only [true_iff];omega
  skip
  refine Qf ?_
  refine Qad ?_
  refine Qad ?_
  refine QZ ?_
  refine Qbl ?_
  refine Yp V ?_ by4 by1
  simp only [true_iff];omega
 intro c57 h57
 refine Qj ?_
 obtain ⟨rfl,g57⟩|⟨rfl,g57⟩:=Za h57
 ·refine QaO ?_
  obtain ⟨e1,e2,e3,e4,e5,e6⟩:=Classical.not_not.1 g57
  refine Qk ?_
  refine Qb ?_
  refine QN ?_
  apply Zu (rg [(0,2),(4,2),(12,64)]) (σ:=Nat) (fun zz=>match zz with|i=>[(5,.val (.int .i64 i))]) (fun zz=>match zz with|i=>i≤tx1.length∧Upto tx1 tx2 i) (fun zz=>match zz with|i=>tx1.length - i) (0)
  ·repeat' (first|exact Yt|apply Yr rfl|apply Ys rfl)
  ·exact ⟨by omega,Upto.zero _ _⟩
  ·exact by2
  rintro i hI
  try dsimp only [List.cons_append,List.nil_append] at hI ⊢
  obtain ⟨hi,hu⟩:=hI
  refine Qo ?_
  refine Qr ?_
  refine Ql ?_
  refine QbP ?_;intro n61
  refine Qav ?_;intro c62 h62
  refine Qd ?_
  obtain ⟨rfl,g62⟩|⟨rfl,g62⟩:=Za h62
  ·refine Qac ?_
   refine Qo ?_
   have etx:=hu.eq by11 by11
   refine Qk ?_
   refine Qb ?_
   refine QN ?_
   apply Zu (rg [(0,2),(4,3),(12,114)]) (σ:=Nat) (fun zz=>match zz with|i=>[(6,.val (.int .i64 i))]) (fun zz=>match zz with|i=>i≤fu1.length∧Upto fu1 fu2 i) (fun zz=>match zz with|i=>fu1.length - i) (0)
   ·repeat' (first|exact Yt|apply Yr rfl|apply Ys rfl)
   ·exact ⟨by omega,Upto.zero _ _⟩
   ·exact by2
   rintro i hI
   try dsimp only [List.cons_append,List.nil_append] at hI ⊢
   obtain ⟨hi,hu⟩:=hI
   refine Qo ?_
   refine Qr ?_
   refine Ql ?_
   refine QcI ?_;intro n79
   refine Qav ?_;intro c80 h80
   refine Qd ?_
   obtain ⟨rfl,g80⟩|⟨rfl,g80⟩:=Za h80
   ·refine Qac ?_
    refine Qo ?_
    have efu:=hu.eq by11 by11
    refine Qk ?_
    refine Qb ?_
    refine QN ?_
    apply Zu (rg [(0,2),(4,228)]) (σ:=Nat) (fun zz=>match zz with|i=>[(7,.val (.int .i64 i))]) (fun zz=>match zz with|i=>i≤is1.length∧Upto is1 is2 i) (fun zz=>match zz with|i=>is1.length - i) (0)
    ·repeat' (first|exact Yt|apply Yr rfl|apply Ys rfl)
    ·exact ⟨by omega,Upto.zero _ _⟩
    ·exact by2
    rintro i hI
    try dsimp only [List.cons_append,List.nil_append] at hI ⊢
    obtain ⟨hi,hu⟩:=hI
    refine Qo ?_
    refine Qr ?_
    refine Ql ?_
    refine Qbw ?_;intro n129
    refine Qav ?_;intro c130 h130
    refine Qd ?_
    obtain ⟨rfl,g130⟩|⟨rfl,g130⟩:=Za h130
    ·refine Q9 ?_
     exact Zd V V (Ym _) by1 ⟨⟨_,iff_t ⟨e1,e2,e3,etx,efu,hu.eq by11 by11⟩,V⟩,V⟩
    refine Qp ?_
    obtain ⟨⟨xop,xa,xb,xn,xar,xfs,xcp⟩,hxx⟩:=Zh (l:=is1) (i:=i) by6
    have hcx:=Is.cellss_get hxx
    have hmx:=Yu hxx
    obtain ⟨⟨yop,ya,yb,yn,yar,yfs,ycp⟩,hxy⟩:=Zh (l:=is2) (i:=i) by6
    have hcy:=Is.cellss_get hxy
    have hmy:=Yu hxy
    have hf1:=nums_len xfs
    have hf2:=nums_len yfs
    have hc1:=Ato.cellsss_len xcp
    have hc2:=Ato.cellsss_len ycp
    have hne:¬ (⟨xop,xa,xb,xn,xar,xfs,xcp⟩:Is)=⟨yop,ya,yb,yn,yar,yfs,ycp⟩→¬ is1=is2:=fun q e=>q (by subst e;rw [hxx] at hxy;exact Option.some.inj hxy)
    refine QaV ?_
    refine Qa ?_
    refine Qcu ?_
    refine Qb6 ?_
    refine Qcj ?_;intro b8
    refine QcN ?_
    refine Qd ?_
    refine Qba ?_
    refine Qa ?_
    refine Qcu ?_
    refine Qb6 ?_
    refine Qcj ?_;intro b9
    refine QcN ?_
    refine Qg ?_
    refine Qo ?_
    refine Zo 194 (¬ (xop=yop∧xa=ya∧xb=yb∧xn=yn∧xar=yar∧xfs.length=yfs.length∧xcp.length=ycp.length)) ?_ _ _ V ?_
    ·skip
     refine QC ?_
     refine Qa7 ?_
     refine Qt ?_
     refine Qbx ?_;intro c147 h147
     refine Qa ?_
     obtain ⟨rfl,g147⟩|⟨rfl,g147⟩:=Za h147
     ·skip
      refine Qa5 ?_
      refine QaX ?_
      refine QL ?_
      refine Qal ?_;intro c153 h153
      refine Qh ?_
      obtain ⟨rfl,g153⟩|⟨rfl,g153⟩:=Za h153
      ·skip
       refine Qa5 ?_
       refine QaX ?_
       refine QL ?_
       refine Qal ?_;intro c160 h160
       refine Qh ?_
       obtain ⟨rfl,g160⟩|⟨rfl,g160⟩:=Za h160
       ·skip
        refine Qa5 ?_
        refine QaX ?_
        refine QL ?_
        refine Qal ?_;intro c167 h167
        refine Qh ?_
        obtain ⟨rfl,g167⟩|⟨rfl,g167⟩:=Za h167
        ·skip
         refine Qa5 ?_
         refine QaX ?_
         refine QL ?_
         refine Zg 174 V V V V V (Zk (xs:=[.tmp 171,.tmp 173]) V V (rsameAtoms_c xar yar) by0 ?_);intro c174 h174
         refine QU ?_;intro c175 h175
         try replace h175:=Yg h175 h174
         refine Qh ?_
         obtain ⟨rfl,g175⟩|⟨rfl,g175⟩:=Za h175
         ·skip
          refine Qa5 ?_
          refine QaX ?_
          refine QbI ?_;intro n180
          refine QL ?_
          refine QbI ?_;intro n183
          refine Qal ?_;intro c184 h184
          refine Qh ?_
          obtain ⟨rfl,g184⟩|⟨rfl,g184⟩:=Za h184
          ·skip
           refine Qa5 ?_
           refine QaX ?_
           refine Qcd ?_;intro n189
           refine QL ?_
           refine Qcd ?_;intro n192
           refine Qal ?_;intro c193 h193
           refine QH ?_
           refine Yp V ?_ by4 by1
           simp_all;omega
          skip
          refine Qf ?_
          refine Qbc ?_
          refine Yp V ?_ by4 by1
          simp_all;omega
         skip
         refine Qf ?_
         refine Qbl ?_
         refine Yp V ?_ by4 by1
         simp_all;done
        skip
        refine Qf ?_
        refine Qag ?_
        refine QX ?_
        refine Qbl ?_
        refine Yp V ?_ by4 by1
        simp_all;done
       skip
       refine Qf ?_
       refine Qad ?_
       refine Qag ?_
       refine QX ?_
       refine Qbl ?_
       refine Yp V ?_ by4 by1
       simp_all;done
      skip
      refine Qf ?_
      refine Qad ?_
      refine Qad ?_
      refine Qag ?_
      refine QX ?_
      refine Qbl ?_
      refine Yp V ?_ by4 by1
      simp_all;done
     skip
     refine Qf ?_
     refine Qad ?_
     refine Qad ?_
     refine Qad ?_
     refine Qag ?_
     refine QX ?_
     refine Qbl ?_
     refine Yp V ?_ by4 by1
     simp_all;done
    intro c194 h194
    refine Qj ?_
    obtain ⟨rfl,g194⟩|⟨rfl,g194⟩:=Za h194
    ·refine QaO ?_
     obtain ⟨d1,d2,d3,d4,d5,d6,d7⟩:=Classical.not_not.1 g194
     refine Qk ?_
     refine Qb ?_
     refine QN ?_
     apply Zu (rg [(0,2),(4,3),(10,1),(12,114),(195,18)]) (σ:=Nat) (fun zz=>match zz with|j=>[(10,.val (.int .i64 j))]) (fun zz=>match zz with|j=>j≤xfs.length∧Upto xfs yfs j) (fun zz=>match zz with|j=>xfs.length - j) (0)
     ·repeat' (first|exact Yt|apply Yr rfl|apply Ys rfl)
     ·exact ⟨by omega,Upto.zero _ _⟩
     ·exact by2
     rintro j hI
     try dsimp only [List.cons_append,List.nil_append] at hI ⊢
     obtain ⟨hj,hv⟩:=hI
     refine Qo ?_
     refine Qr ?_
     refine QC ?_
     refine Qa7 ?_
     refine Qa6 ?_;intro n198
     refine Qav ?_;intro c199 h199
     refine Qd ?_
     obtain ⟨rfl,g199⟩|⟨rfl,g199⟩:=Za h199
     ·refine Qac ?_
      have efs:=hv.eq by11 by11
      refine Qk ?_
      refine Qb ?_
      refine QN ?_
      apply Zu (rg [(0,2),(4,3),(11,115),(213,19)]) (σ:=Nat) (fun zz=>match zz with|j=>[(11,.val (.int .i64 j))]) (fun zz=>match zz with|j=>j≤xcp.length∧Upto xcp ycp j) (fun zz=>match zz with|j=>xcp.length - j) (0)
      ·repeat' (first|exact Yt|apply Yr rfl|apply Ys rfl)
      ·exact ⟨by omega,Upto.zero _ _⟩
      ·exact by2
      rintro j hI
      try dsimp only [List.cons_append,List.nil_append] at hI ⊢
      obtain ⟨hj,hv⟩:=hI
      refine Qo ?_
      refine Qr ?_
      refine QC ?_
      refine Qa7 ?_
      refine QcB ?_;intro n216
      refine Qav ?_;intro c217 h217
      refine Qd ?_
      obtain ⟨rfl,g217⟩|⟨rfl,g217⟩:=Za h217
      ·refine Qao ?_
       refine QaJ ?_
       refine Qn ?_
       refine Qau ?_
       refine go_lp ?_
       exact ⟨i+1,⟨by omega,hu.succ hxx hxy (by have ecp:=hv.eq by11 by11;subst d1 d2 d3 d4 d5 efs ecp;rfl)⟩,by simp;omega,by2,by1⟩
      refine Qp ?_
      obtain ⟨l1,hq1⟩:=Zh (l:=xcp) (i:=j) by11
      obtain ⟨l2,hq2⟩:=Zh (l:=ycp) (i:=j) by11
      have hcq1:=Ato.cellsss_get hq1
      have hcq2:=Ato.cellsss_get hq2
      refine c_drawn tmix V ?_
      refine Qbt ?_
      refine QcJ ?_
      refine QF ?_
      refine Qdk ?_
      refine Qbu ?_
      refine Qbt ?_
      refine Qci ?_
      refine QF ?_
      refine Qdk ?_
      refine Qbu ?_
      refine DOps.cm 230 V V (fun _ q=>Zk (xs:=[.tmp 224,.tmp 229]) V V (rsameAtoms_c l1 l2) by0 q) ?_;intro c230 h230
      refine DOps.cm 231 V V (fun _ q=>op_notc V V q) ?_;intro c231 h231
      try replace h231:=Yg h231 h230
      show AGo _ _ _ _ _ _ _
      refine Qj ?_
      obtain ⟨rfl,g231⟩|⟨rfl,g231⟩:=Za h231
      ·refine QB ?_
       refine QaJ ?_
       refine Qn ?_
       refine Qau ?_
       refine go_lp ?_
       exact ⟨j+1,⟨by omega,hv.succ hq1 hq2 (Classical.not_not.1 g231)⟩,by simp;omega,by2,by1⟩
      refine Qq ?_
      exact Zd V V (Ym _) by1 ⟨⟨_,iff_f (fun e=>hne (fun q=>g231 (by cases q;rw [hq1] at hq2;cases hq2;rfl)) e.2.2.2.2.2),V⟩,V⟩
     refine Qp ?_
     obtain ⟨p,hxp⟩:=Zh (l:=xfs) (i:=j) by6
     have hcp:=nums_get hxp
     have hmp:=Yu hxp
     obtain ⟨r,hxr⟩:=Zh (l:=yfs) (i:=j) by6
     have hcr:=nums_get hxr
     have hmr:=Yu hxr
     refine c_drawn tmix V ?_
     refine Qbt ?_
     refine QcJ ?_
     refine QF ?_
     refine Qdl ?_
     refine Qbu ?_
     refine Qbt ?_
     refine Qci ?_
     refine QF ?_
     refine Qdl ?_
     refine Qbu ?_
     refine DOps.cm 212 V V (fun _ q=>op_neq V V V q) ?_;intro c212 h212
     show AGo _ _ _ _ _ _ _
     refine Qj ?_
     obtain ⟨rfl,g212⟩|⟨rfl,g212⟩:=Za h212
     ·refine QB ?_
      refine QaJ ?_
      refine Qn ?_
      refine Qau ?_
      refine go_lp ?_
      exact ⟨j+1,⟨by omega,hv.succ hxp hxr (Classical.not_not.1 g212)⟩,by simp;omega,by2,by1⟩
     refine Qq ?_
     exact Zd V V (Ym _) by1 ⟨⟨_,iff_f (fun e=>hne (fun q=>g212 (by cases q;rw [hxp] at hxr;cases hxr;rfl)) e.2.2.2.2.2),V⟩,V⟩
    refine Qq ?_
    exact Zd V V (Ym _) by1 ⟨⟨_,iff_f (fun e=>hne (fun q=>by cases q;exact g194 ⟨V,V,V,V,V,V,V⟩) e.2.2.2.2.2),V⟩,V⟩
   refine Qp ?_
   obtain ⟨⟨xlen,xsl,xcp⟩,hxx⟩:=Zh (l:=fu1) (i:=i) by6
   have hcx:=Cf.cellss_get hxx
   have hmx:=Yu hxx
   obtain ⟨⟨ylen,ysl,ycp⟩,hxy⟩:=Zh (l:=fu2) (i:=i) by6
   have hcy:=Cf.cellss_get hxy
   have hmy:=Yu hxy
   refine c_boold 125 (¬ (xlen=ylen∧xsl=ysl∧xcp=ycp)) tmix V ?_ _ _ V ?_
   ·skip
    refine QaU ?_
    refine QF ?_
    refine Qdm ?_
    refine QaU ?_
    refine QaU ?_
    refine QF ?_
    refine Qdm ?_
    refine QaU ?_
    refine DOps.cm 95 V V (fun _ q=>op_neq V V V q) ?_;intro c95 h95
    refine QF ?_
    obtain ⟨rfl,g95⟩|⟨rfl,g95⟩:=Za h95
    ·skip
     refine QaC ?_
     refine Qco ?_
     refine QY ?_
     refine QaC ?_
     refine Qco ?_
     refine QY ?_
     refine Yc 109 V V V V (fun _ q=>op_neq V V V q) ?_;intro c109 h109
     refine Q5 ?_
     obtain ⟨rfl,g109⟩|⟨rfl,g109⟩:=Za h109
     ·skip
      refine QaC ?_
      refine Qco ?_
      refine QY ?_
      refine QaC ?_
      refine Qco ?_
      refine QY ?_
      refine Yc 124 V V V V (fun _ q=>op_neq V V V q) ?_;intro c124 h124
      refine Qaj ?_
      show BoolQ _ _ _ _ _ _
      refine Yp V ?_ by4 by1
      simp_all;done
     skip
     refine Qbi ?_
     refine Qa1 ?_
     show BoolQ _ _ _ _ _ _
     refine Yp V ?_ by4 by1
     simp_all;done
    skip
    refine Qbi ?_
    refine DOps.gf 109 V V V V ?_
    refine Q5 ?_
    refine Qbi ?_
    refine Qa1 ?_
    show BoolQ _ _ _ _ _ _
    refine Yp V ?_ by4 by1
    simp_all;done
   intro c125 h125
   refine Qj ?_
   obtain ⟨rfl,g125⟩|⟨rfl,g125⟩:=Za h125
   ·refine QB ?_
    refine QaJ ?_
    refine Qn ?_
    refine Qau ?_
    refine go_lp ?_
    exact ⟨i+1,⟨by omega,hu.succ hxx hxy (by obtain ⟨rfl,rfl,rfl⟩:=Classical.not_not.1 g125;rfl)⟩,by simp;omega,by2,by1⟩
   refine Qq ?_
   exact Zd rfl rfl (Ym _) by1 ⟨⟨_,iff_f (fun e=>g125 (by have q:=e.2.2.2.2.1;subst q;rw [hxx] at hxy;cases hxy;exact ⟨rfl,rfl,rfl⟩)),rfl⟩,rfl⟩
  refine Qp ?_
  obtain ⟨x,hxx⟩:=Zh (l:=tx1) (i:=i) by6
  have hcx:=strs_get hxx
  have hmx:=Yu hxx
  obtain ⟨y,hxy⟩:=Zh (l:=tx2) (i:=i) by6
  have hcy:=strs_get hxy
  have hmy:=Yu hxy
  refine c_drawn tmix V ?_
  refine QaU ?_
  refine QF ?_
  refine Qdn ?_
  refine Qbu ?_
  refine QaU ?_
  refine QF ?_
  refine Qdn ?_
  refine Qbu ?_
  refine DOps.cm 75 V V (fun _ q=>op_sneq V V V q) ?_;intro c75 h75
  show AGo _ _ _ _ _ _ _
  refine Qj ?_
  obtain ⟨rfl,g75⟩|⟨rfl,g75⟩:=Za h75
  ·refine QB ?_
   refine QaJ ?_
   refine Qn ?_
   refine Qau ?_
   refine go_lp ?_
   exact ⟨i+1,⟨by omega,hu.succ hxx hxy (Classical.not_not.1 g75)⟩,by simp;omega,by2,by1⟩
  refine Qq ?_
  exact Zd rfl rfl (Ym _) by1 ⟨⟨_,iff_f (fun e=>g75 (by have q:=e.2.2.2.1;subst q;rw [hxx] at hxy;cases hxy;rfl)),rfl⟩,rfl⟩
 refine Qq ?_
 exact Zd rfl rfl (Ym _) by1 ⟨⟨_,iff_f (fun ⟨q1,q2,q3,q4,q5,q6⟩=>g57 ⟨q1,q2,q3,by rw [q4],by rw [q5],by rw [q6]⟩),rfl⟩,rfl⟩
theorem fuS_snoc (f:Fu):∀ l:List Fu,FuS (l++[f])=FuS l+(2+St.sizes f.b)
 | []=>by simp [FuS]
 | g::l=>by rw [List.cons_append,FuS,FuS,fuS_snoc f l];omega
theorem Fu.cellss_snoc (l:List Fu) (f:Fu):Fu.cellss (l++[f])=Fu.cellss l++[f.cells]:=by simp [Fu.cellss]
set_option maxHeartbeats 8000000 in
theorem GenMore_c (a:Af) (f:Fu) (hl:a.Lim) (hf:f.Lim) (hs:FuS a.fu+(2+St.sizes f.b)≤10000000) (hw:∀ g∈a.fu++[f],St.ws g.b≤100000000):PCall Try.prog 3 [.agg a.cells,.agg f.cells] (.val (.bool true)):=by
 obtain ⟨fu,gl,ys,no⟩:=a
 have hs1:FuS fu+(2+St.sizes f.b)≤10000000:=hs
 have hlen:=fuS_len fu
 have hL2:(Af.mk (fu++[f]) gl ys no).Lim:=⟨fun g hg=>by
  rcases List.mem_append.1 hg with q|q
  ·exact hl.1 g q
  rw [List.mem_singleton.1 q];exact hf,hl.2⟩
 obtain ⟨x1,x2,x3,x4,x5,x6,e1,H1,hx⟩:=GenV_c (.mk fu gl ys no) hl (by show FuS fu≤_;omega)
 obtain ⟨y1,y2,y3,y4,y5,y6,e2,H2,hy⟩:=GenV_c (.mk (fu++[f]) gl ys no) hL2 (by show FuS (fu++[f])≤_;rw [fuS_snoc];omega)
 have HS:=Small28_z (.mk (fu++[f]) gl ys no) hw
 obtain ⟨i,c,t,hi0,hm⟩:=gen_more fu f gl ys no
 have HR:=rSame29_c (genF (.mk fu gl ys no)) (genF (.mk fu gl ys no))
 obtain ⟨is1,fu1,tx1,gl1,ys1,no1,hg⟩:∃ is1 fu1 tx1 gl1 ys1 no1,genF (.mk fu gl ys no)=.mk is1 fu1 tx1 gl1 ys1 no1:=by
  cases genF (.mk fu gl ys no) with|mk a b c d e f=>exact ⟨_,_,_,_,_,_,rfl⟩
 have hg2:gl1=gl∧ys1=ys∧no1=no:=by
  have:genF (.mk fu gl ys no)=.mk _ _ _ gl ys no:=rfl
  rw [hg] at this
  cases this
  exact ⟨V,V,V⟩
 obtain ⟨rfl,rfl,rfl⟩:=hg2
 have hgl:=(genF_lim (.mk fu gl1 ys1 no1) hl (by show FuS fu≤_;omega))
 rw [hg] at hm hx HR hgl
 have hgl:fu1.length≤140737488355328:=hgl.2.1.1
 rw [hm] at hy
 simp only [Cd.is,Cd.fu,Cd.tx] at hy
 clear hm hg hl hf hs hw hL2
 have hfn:=Fu.cellss_len fu
 have hq1:=Is.cellss_len is1
 have hq2:=Cf.cellss_len fu1
 have hq3:=strs_len tx1
 have hq4:=Is.cellss_len (is1++i)
 have hq5:=Cf.cellss_len (fu1++[c])
 have hq6:=strs_len (tx1++t)
 rw [List.length_append] at hq4 hq5 hq6
 rw [List.length_singleton] at hq5
 have ht1:(Is.cellss (is1++i)).take (Is.cellss is1).length=Is.cellss is1:=by simp [Is.cellss]
 have ht2:(Cf.cellss (fu1++[c])).take (Cf.cellss fu1).length=Cf.cellss fu1:=by simp [Cf.cellss]
 have ht3:(strs (tx1++t)).take (strs tx1).length=strs tx1:=by simp [strs]
 simp only [Af.cells,Fu.cellss_snoc] at H1 H2 HS ⊢
 simp only [Cd.cells] at hx hy HR
 obtain ⟨sl,cp,b⟩:=f
 simp only [Fu.cells] at H1 H2 HS ⊢
 refine Zc Try.func3 V (by kernel_rfl) V (Yq V) ?_
 refine Qi ?_
 refine Qbz ?_
 refine Zb 3 V V V (op_boxc (cs':=[_,_,_]) V V V V ?_)
 refine Qu ?_
 refine Qy ?_
 refine Zb 10 V V V (Zl (xs:=[]) V V (awake30_c) by0 ?_)
 refine QG ?_;intro c11 h11
 try replace h11:=Yg h11 h10
 refine Qd ?_
 obtain ⟨rfl,g11⟩|⟨rfl,g11⟩:=Za h11
 ·refine QB ?_
  refine Q2 ?_
  refine Qcm ?_
  refine Zb 5 V V V (Zv (cs':=[_,_,_,_]) V tz_24 V V ?_);intro b5
  refine Zq V V (Zm (cs':=[_,_,_,_]) (i:=0) V ts_24 V V V V V (Yq V) V ?_)
  refine Qg ?_
  refine Yh [1,2,4,5,0,3,6,7,8] [0,3,6,8] [[],[],[1],[0,1,2],[],[4],[0,1,2,3,4,5],[0,1,2,3,4,5,6],[0,1,2,3,4,5,6,7]] tmix V ?_
  refine QaF ?_
  refine Zf 17 (none) (i:=4) V V V V V (Zp (cs':=[_,_,_]) V ta_27 V V V ⟨V,V⟩) ?_
  refine Zf 18 (none) (i:=5) V V V V V (Zr (xs:=[.tmp 17]) el_22 V V V V V V (Yq V) ⟨V,V⟩) ?_
  refine EOps.nw (i:=0) V V V (op_buildSlice_own (xs:=[]) el_22 V V V V V V (Yq V) (fun u13=>⟨_,V,?_⟩))
  refine EOps.w 1 (i:=3) V V V V V (op_append (i:=0) el_22 V V V V (.seq _ _) by5 (fun u16=>⟨_,V,?_⟩))
  refine EOps.w 1 (i:=6) V V V V V (op_append (i:=0) el_22 V V V V (.seq _ _) by5 (fun u19=>⟨_,V,?_⟩))
  refine QA ?_
  refine EOps.w 0 (i:=8) V V V V V (Zm (cs':=[_,_,_,_]) (i:=0) V ts_22 V V V V V (Yq V) V ⟨_,V,?_⟩)
  show AGo _ _ _ _ _ _ _
  refine QV ?_
  refine Qy ?_
  refine Zb 21 V V V (Zs (cs':=[_,_,_,_]) (i:=0) V ta_24 V V V V (Zb 22 V V V (op_callz (xs:=[.tmp 21,.const (.int .i64 8000)]) V V (HS) by0 ?_)));intro c22 h22
  refine QG ?_;intro c23 h23
  try replace h23:=Yg h23 h22
  refine Qd ?_
  obtain ⟨rfl,g23⟩|⟨rfl,g23⟩:=Za h23
  ·refine QB ?_
   refine Q2 ?_
   refine Qcm ?_
   refine Zb 26 V V V (Zl (xs:=[.tmp 25]) V V (H1) by0 ?_)
   refine Qa ?_
   refine QaW ?_
   refine QaW ?_
   refine Qcl ?_;intro b6
   refine Qcn ?_
   refine Q3 ?_
   refine Zb 30 V V V (Zs (cs':=[_,_,_,_]) (i:=1) V ta_24 V V V V (Zb 31 V V V (Zl (xs:=[.tmp 30]) V V (H2) by0 ?_)))
   refine Qa ?_
   refine QaW ?_
   refine QaW ?_
   refine Qcl ?_;intro b8
   refine Qcn ?_
   refine Qbj ?_
   refine Zo 39 (¬ (e1=0∧e2=0)) ?_ _ _ V ?_
   ·skip
    refine Qa ?_
    refine Qbx ?_;intro c35 h35
    refine Qa ?_
    obtain ⟨rfl,g35⟩|⟨rfl,g35⟩:=Za h35
    ·skip
     refine QE ?_
     refine Qal ?_;intro c38 h38
     refine QH ?_
     refine Yp V ?_ by4 by1
     simp_all;done
    skip
    refine Qaq ?_
    refine Yp V ?_ by4 by1
    simp_all;done
   intro c39 h39
   refine Qj ?_
   obtain ⟨rfl,g39⟩|⟨rfl,g39⟩:=Za h39
   ·refine QaO ?_
    obtain ⟨z1,z2⟩:=Classical.not_not.1 g39
    replace hx:=hx z1
    replace hy:=hy z2
    simp only [List.cons.injEq,and_true] at hx hy
    obtain ⟨rfl,rfl,rfl,rfl,rfl,rfl⟩:=hx
    obtain ⟨rfl,rfl,rfl,rfl,rfl,rfl⟩:=hy
    refine Zo 65 (False) ?_ _ _ V ?_
    ·skip
     refine Qt ?_
     refine Qbw ?_;intro n42
     refine QC ?_
     refine Qa7 ?_
     refine Qbw ?_;intro n45
     refine Zb 46 V V V (op_leq V V V ?_);intro c46 h46
     refine Qa ?_
     obtain ⟨rfl,g46⟩|⟨rfl,g46⟩:=Za h46
     ·skip
      refine QL ?_
      refine QbL ?_;intro n50
      refine Qa5 ?_
      refine QaX ?_
      refine QbL ?_;intro n53
      refine Zg 54 V V V V V (op_add V V V (IntWalk.i64_in _ by11) ?_)
      refine Qal ?_;intro c55 h55
      refine Qh ?_
      obtain ⟨rfl,g55⟩|⟨rfl,g55⟩:=Za h55
      ·skip
       refine QL ?_
       refine Qb0 ?_;intro n60
       refine Qa5 ?_
       refine QaX ?_
       refine Qb0 ?_;intro n63
       refine Qbm ?_;intro c64 h64
       refine QH ?_
       refine Yp V ?_ by4 by1
       rw [h64,iff_false];omega
      skip
      refine Qf ?_
      refine Qbc ?_
      refine Yp V ?_ by4 by1
      exfalso;omega
     skip
     refine Qf ?_
     refine Qf ?_
     refine QX ?_
     refine Qbc ?_
     refine Yp V ?_ by4 by1
     exfalso;omega
    intro c65 h65
    refine Qj ?_
    obtain ⟨rfl,g65⟩|⟨rfl,g65⟩:=Za h65
    ·refine Q7 ?_
     refine Yh [0,1,2,3,4,5,6,7,8,9,10,11,12,13,14,15,16,17,18,19,20,21,22,23] [19,21,23] [[],[0],[],[2],[2,3],[0,1,2,3,4],[],[6],[],[8],[8,9],[6,7,8,9,10],[],[12],[],[14],[14,15],[12,13,14,15,16],[0,1,2,3,4,5,6,7,12,13],[0,1,2,3,4,5,6,7,12,13,18],[0,1,2,3,4,5,6,7,8,9,10,11,12,13,18,19],[0,1,2,3,4,5,6,7,8,9,10,11,12,13,18,19,20],[0,1,2,3,4,5,6,7,8,9,10,11,12,13,14,15,16,17,18,19,20,21],[0,1,2,3,4,5,6,7,8,9,10,11,12,13,14,15,16,17,18,19,20,21,22]] tmix V ?_
     refine QA ?_
     refine Qa8 ?_
     refine QA ?_
     refine Qch ?_
     refine Zf 70 none (i:=4) V V V V V (Ya V tu_30 V (.seq _ _) (fun _=>⟨V,V⟩)) ?_
     refine Zf 71 (none) (i:=5) V V V V V (op_cuth V te_30 V (.seq _ _) V V by11 ⟨V,V⟩) ?_
     refine QA ?_
     refine Qa8 ?_
     refine QA ?_
     refine Qch ?_
     refine Zf 76 none (i:=10) V V V V V (Ya V tu_31 V (.seq _ _) (fun _=>⟨V,V⟩)) ?_
     refine Zf 77 (none) (i:=11) V V V V V (op_cuth V te_31 V (.seq _ _) V V by11 ⟨V,V⟩) ?_
     refine QA ?_
     refine Qa8 ?_
     refine QA ?_
     refine Qch ?_
     refine Zf 82 none (i:=16) V V V V V (Ya V tu_32 V (.seq _ _) (fun _=>⟨V,V⟩)) ?_
     refine Zf 83 (none) (i:=17) V V V V V (op_cuth V te_32 V (.seq _ _) V V by11 ⟨V,V⟩) ?_
     refine QA ?_
     refine EOps.w 0 (i:=19) V V V V V (Zm (cs':=[_,_,_,_,_,_]) (i:=0) V ts_30 V V V V V (Yq V) V ⟨_,V,?_⟩)
     refine QA ?_
     refine EOps.w 0 (i:=21) V V V V V (Zm (cs':=[_,_,_,_,_,_]) (i:=0) V ts_31 V V V V V (Yq V) V ⟨_,V,?_⟩)
     refine QA ?_
     refine EOps.w 0 (i:=23) V V V V V (Zm (cs':=[_,_,_,_,_,_]) (i:=0) V ts_32 V V V V V (Yq V) V ⟨_,V,?_⟩)
     show AGo _ _ _ _ _ _ _
     refine QV ?_
     rw [ht1,ht2,ht3]
     refine Qk ?_
     refine Zb 87 V V V (Zs (cs':=[_,_,_,_,_,_]) (i:=1) V ta_34 V V V V (Zb 88 V V V (Zs (cs':=[_,_,_,_,_,_]) (i:=0) V ta_34 V V V V (Zb 89 V V V (Zk (xs:=[.tmp 87,.tmp 88]) V V (HR) by0 ?_)))));intro c89 h89
     refine Qe ?_
     exact Zd V V (Le.beq (h89.2 trivial)) (MLe.none _) ⟨V,V⟩
    refine Qas ?_
    exact g65.elim
   refine Qq ?_
   exact Zd V V (Ym _) (MLe.none _) ⟨V,V⟩
  refine Qq ?_
  exact Zd V V (Ym _) (MLe.none _) ⟨V,V⟩
 refine Qas ?_
 exact absurd g11 by12
end Go.Proofs.Ytbfogofpgcndfaa
namespace Go.Proofs.Ytbfogofpgcndfaa
open Go.ChangeShapes Go.WideShapes Go.ChangeAt Go.RowKit
theorem rel_agg30 {F:EH} {v:Value} {cs:List AV} (hl:cs.length≠1) (h:Rels F cs v.cells.toList) (h1:Ones v.cells.toList):Rel F (.agg cs) v:=by
 refine rel_agg ?_ h h1
 have:=h.len
 cases v <;> first|exact ⟨_,rfl⟩|(exfalso;exact hl (by rw [this];rfl))
theorem fuS_bulk:∀ l:List Fu,FuS l≤2 * bulkss (Fu.cellss l)∧∀ g∈l,St.ws g.b≤bulkss (Fu.cellss l)
 | []=>⟨Nat.zero_le _,by simp⟩
 | .mk sl cp b::l=>by
  have h1:=St.bulks b
  have h2:=fuS_bulk l
  simp only [FuS,Fu.b,Fu.cellss,List.map_cons,bulkss,Fu.cells,bulks,AV.bulk] at h2 ⊢
  refine ⟨by omega,fun g hg=>?_⟩
  rcases List.mem_cons.1 hg with r|r
  ·subst r
   simp only []
   omega
  have:=h2.2 g r
  omega
theorem genMore_own:ownKnob Try.prog.godebug=none:=by kernel_rfl
theorem genMore_laidOut:laidOutB Try.prog=true:=by kernel_rfl
theorem genMore_lifted (os:Os) (started:os.Started) (H:Type) (enc:TypeId × Value→H) (F0:Stop.Interp) :
    ReturnsInHanded {} Try.checked os 3 .any ((Rows.OpenSpec.upto Rows.genMoreSpec).pre6 enc Try.prog Try.f3 Rows.genMoreUptoRow.domain false) (((Rows.OpenSpec.upto Rows.genMoreSpec).at F0).post enc Try.prog Try.f3 false true false false):=by
 refine returnsInHanded_of_cond_sized (C:=Try.checked) (s:=(Rows.OpenSpec.upto Rows.genMoreSpec)) (k:=Rows.uptoSmall) V genMore_own started (by kernel_rfl) Try.func3
  (upto_witness (enc:=enc) (C:=Try.checked) (s:=(Rows.OpenSpec.upto Rows.genMoreSpec)) (k:=Rows.uptoSmall) rfl false ⟨#[],#[.agg #[.slice none 0 0,.int .i64 0,.int .i64 0,.int .i64 0],.agg #[.int .i64 0,.int .i64 0,.slice none 0 0]],[]⟩ 8 (by kernel_rfl) (by kernel_rfl) (by kernel_rfl) (by kernel_rfl) (by kernel_rfl)) ?_
 intro W base args ds gs before hval0 hW hcnd hk hsz0 _
 have hval:∀ (j:Nat) t v,Try.f3.params[j]?=some t→args[j]?=some v→Value.okWide Try.prog W .any base t v:=hval0
 have hsz:(DataW.weightsEach Try.prog (Try.f3.params.toList++Rows.genMoreSpec.plain.varTypes Try.prog) (ds++gs)).all (·≤reachBytes)=true:=hsz0
 have hW':=hW
 obtain ⟨p,q,hA0,hV,rfl,hfz,hnd⟩:=hW
 have hA:DataW.TrodAll enc Try.prog W 0 (fun _=>true) true Try.f3.params.toList args.toList ds p:=hA0
 rw [Try.params3] at hA hval hsz
 obtain ⟨rfl,rfl⟩:=trodVars_none hV
 obtain ⟨v0,v1,d0,d1,p0,p1,rfl,rfl,rfl,h0,h1⟩:=trodAll_two hA
 obtain ⟨f0,c0,s0,r0,o0,b0⟩:=open_two closed30 hsz 0 rfl rfl by10 h0
 obtain ⟨f1,c1,s1,r1,o1,b1⟩:=open_two closed30 hsz 1 rfl rfl by10 h1
 have hu:=upto_le (j:=0) hk rfl
 have hu2:=upto_le (j:=1) hk rfl
 obtain ⟨a,rfl,ha⟩:=shapeL_Af by10 s0
 obtain ⟨f,rfl,hf⟩:=shapeL_Fu by10 s1
 have ka:bulkss (Fu.cellss a.fu)≤bulks a.cells:=by
  cases a with|mk fu gl ys no=>simp only [Af.fu,Af.cells,bulks,AV.bulk];omega
 have kf:bulkss (St.cellss f.b)≤bulks f.cells:=by
  cases f with|mk sl cp b=>simp only [Fu.b,Fu.cells,bulks,AV.bulk];omega
 have q1:=fuS_bulk a.fu
 have q2:=St.bulks f.b
 refine (law_run ((GenMore_c a f ha hf by11 (fun g hg=>by
  rcases List.mem_append.1 hg with r|r
  ·have:=q1.2 g r
   omega
  rw [List.mem_singleton.1 r]
  omega)).mono fun _ _ h=>h.1) (.cons (rel_agg30 (by cases a;simp [Af.cells]) r0 o0) (.cons (rel_agg30 (by cases f;simp [Fu.cells]) r1 o1) .nil))).mono fun e W' ⟨he,hb⟩=>?_
 subst he
 exact ⟨_,V,law_post (s:=Rows.genMoreSpec) (tb:=4) genMore_laidOut (by kernel_rfl) (by kernel_rfl) Try.underlying4 V V V V hW' hb⟩
theorem genMore_holds:Rows.GenMoreUptoSaid :=
 OpenClaim.holds_of_cond 3 Try.f3 rfl rfl rfl rfl rfl rfl rfl ⟨rfl,rfl,rfl,rfl,rfl⟩ rfl rfl rfl rfl rfl (by kernel_rfl) Try.func3 (by kernel_rfl)
  (of_decide_eq_true (by kernel_rfl)) (by unfold Func.isWrapper;first|(rw [if_pos (by decide +kernel)];kernel_rfl)|(rw [if_neg (by decide +kernel)];exact ⟨rfl,rfl⟩))
  (fun os started H enc _ F0=>genMore_lifted os started H enc F0)
#print axioms genMore_holds
end Go.Proofs.Ytbfogofpgcndfaa
