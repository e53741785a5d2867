/- Parts of a proof: spec.walk.exp; spec.Names, spec.Swap; What stands for a name, by its first place.; spec.Swap; Free names are no more than there are nodes; what a search finds, part by part.; tree.search.exp, tree.Free; sameness of types, patterns, expressions: tree.SameType, SamePat, Same, sameBind, and the document's; tree.parts as an iterator; tree.Size and tree.Deep; cognateref05.Parts, Size, Deep; tree.Value, cognateref05.Value; cognatelaw05.Awake; cognatelaw05.Awake; cognateref05.Parts, Size, Deep; cognatelaw05.Count, Small; cognateref05.Size, Deep; cognatelaw05.Count, Small; cognatelaw05.Count, Small; cognateref05.Bound, Without, Join, frees, Free; cognateref25: Bound, less, Names; cognateref25.Names; Bytes as a text.; The logic of trees, part 18: calls of what Go gives without a body; texts, greater.; The logic of trees, part 19: calls that turn one piece of the memory; a nil as a slice of the call's own.; cognateref25.Swap; the document's sameness of core expressions; cognatelaw08.count, Small; count, Small of layer 21 -/
import Derived.Test.YtlkagbbbhkkogaaGreatDoorKLKSpec3
import Derived.Laws.BytesArg
import Derived.Lib.Bytealg
set_option maxRecDepth 100000
set_option maxHeartbeats 4000000
namespace Go.Proofs.YtlkagbbbhkkogaaGreatDoor
open Go.RowKit
section
variable {σ:Type}
noncomputable def wkR (g:Co→σ→Co × σ) (k n:Int) (s:Txt) (ks:List Co) (bs:List Cb) (bd:List Txt) (st:σ):List Co × List Cb × σ :=
 if k=7 then ((Co.wks g ks (bd++Cb.names bs) (Cb.wks g bs (if n=1 then bd++Cb.names bs else bd) st).2).1,(Cb.wks g bs (if n=1 then bd++Cb.names bs else bd) st).1,(Co.wks g ks (bd++Cb.names bs) (Cb.wks g bs (if n=1 then bd++Cb.names bs else bd) st).2).2)
 else ((Co.wks g ks (if k=6 then bd++[s] else bd) st).1,bs,(Co.wks g ks (if k=6 then bd++[s] else bd) st).2)
theorem wk_eq {g:Co→σ→Co × σ} {k n:Int} {s:Txt} {t:Ty} {ts:List Ty} {ks:List Co} {al:List Ca} {bs:List Cb} {bd:List Txt} {st:σ} (h:k≠1) :
    (Co.mk k s n t ts ks al bs).wk g bd st=(.mk k s n t ts (wkR g k n s ks bs bd st).1 (Ca.wks g al bd (wkR g k n s ks bs bd st).2.2).1 (wkR g k n s ks bs bd st).2.1,(Ca.wks g al bd (wkR g k n s ks bs bd st).2.2).2):=by
 rw [Co.wk,if_neg h]
 unfold wkR
 split <;> rfl
theorem exp25_c {ff:FuncId} {fc:List AV} {fr:σ→Mem→Prop} {g:Co→σ→Co × σ} {ln:σ→Nat} {b:Nat} (hg:∀ e st,ln (g e st).2≤ln st+1) (hF:∀ (e:Co) st Mf,fr st Mf→ln st+1≤10000000000→ACall Tryz.prog ff (.agg e.cells::fc) Mf (fun v M'=>v=.agg (g e st).1.cells∧fr (g e st).2 M')) (e:Co):∀ bd,ExpC ff fc fr g ln b bd e:=by
 obtain ⟨k,s,n,⟨tk,tS,tn,tl⟩,ts,ks,al,bs⟩:=e
 intro bd
 have IHk:∀ x∈ks,∀ bd':List Txt,ExpC ff fc fr g ln b bd' x:=fun x hx bd'=>exp25_c hg hF x bd'
 have IHb:∀ x∈bs,∀ bd':List Txt,ExpC ff fc fr g ln b bd' x.e:=fun x hx bd'=>exp25_c hg hF x.e bd'
 have IHa:∀ x∈al,∀ bd':List Txt,ExpC ff fc fr g ln b bd' x.e:=fun x hx bd'=>exp25_c hg hF x.e bd'
 intro st M hM hw
 rw [Co.w] at hw
 have hbl:=Cb.ws_len bs
 have hkl:=Co.ws_len ks
 have hal:=Ca.ws_len al
 have hl1:=Cb.cellss_len bs
 have hl2:=Ca.cellss_len al
 have hnl:(Cb.names bs).length=bs.length:=by simp [Cb.names]
 have HK:=fun (be:Nat) (bs':List Cb) (bd':List Txt) (st':σ) (h:bd'.length+ln st'+Co.ws ks≤10000000000)=>kids25_c (ff:=ff) (fc:=fc) (fr:=fr) hg (b:=b) (be:=be) (bd:=bd') (st:=st') (k:=k) (n:=n) (s:=s) (t:=⟨tk,tS,tn,tl⟩) (ts:=ts) (al:=al) (bs:=bs') (fun x hx=>IHk x hx bd') h
 have HB:=fun (be:Nat) (bd':List Txt) (st':σ) (h:bd'.length+ln st'+Cb.ws bs≤10000000000)=>binds25_c (ff:=ff) (fc:=fc) (fr:=fr) hg (b:=b) (be:=be) (bd:=bd') (st:=st') (k:=k) (n:=n) (s:=s) (t:=⟨tk,tS,tn,tl⟩) (ts:=ts) (al:=al) (ks:=ks) (fun x hx=>IHb x hx bd') h
 clear IHk IHb
 have HCl:=CloneCa_row al by7
 obtain ⟨W,hW⟩:∃ W,(Co.mk k s n ⟨tk,tS,tn,tl⟩ ts ks al bs).wk g bd st=W:=⟨_,rfl⟩
 rw [hW]
 refine Zd Tryz.func23 V (by kernel_rfl) V (Yh V) ?_
 refine Qac ?_
 refine Qbc ?_
 refine Zb 3 V V V (op_boxe (cs':=[_,_,_,_,_,_,_,_,_,_,_]) V V V V ?_);intro b3
 refine Qai ?_;intro b4
 refine QR ?_
 refine Qd ?_
 refine Qad ?_
 refine Qz ?_;intro c13 h13
 refine Qb ?_
 obtain ⟨rfl,g13⟩|⟨rfl,g13⟩:=Za h13
 ·refine Qw ?_
  refine Qc ?_
  refine Qg ?_
  refine Qe ?_
  refine Qd ?_
  refine Qad ?_
  refine Qav ?_;intro n30
  refine Qam ?_
  refine ACode.ownNil (t:=5) 9 1 V ?_
  rw [wk_eq g13] at hW
  obtain ⟨⟨ks2,bs2,st2⟩,hr⟩:∃ r,wkR g k n s ks bs bd st=r:=⟨_,rfl⟩
  rw [hr] at hW
  subst hW
  refine Zy (σ:=Nat × Value) (fun zz=>match zz with|(i,u)=>[(2,.cptr [.ptr b 0]),(3,.ptr b3 0),(4,.ptr b4 0),(5,.own u 1 (strs (Cb.names (bs.take i)))),(29,.seq 17 (Cb.cellss bs)),(30,.val (.int .i64 (Cb.cellss bs).length)),(31,.val (.int .i64 i))]) (fun zz=>match zz with|(i,u)=>.own 9 1 u::.loc b4 zC25::.loc b3 (Co.mk k s n ⟨tk,tS,tn,tl⟩ ts ks al bs).cells::M) (fun zz=>match zz with|(i,u)=>i≤bs.length) (fun zz=>match zz with|(i,u)=>bs.length - i) ((0,.slice none 0 0)) ?_ ?_ ?_ ?_
  ·simp
  ·exact by3
  ·exact by2
  rintro ⟨i,u⟩ hI
  try dsimp only [List.cons_append,List.nil_append] at hI ⊢
  refine Qan ?_;intro c32 h32
  refine QR ?_
  obtain ⟨rfl,g32⟩|⟨rfl,g32⟩:=Za h32
  ·refine QH ?_
   have f1:=fun b1 s1=>Co.wks_ln hg ks b1 s1
   have f2:=fun b1 s1=>Cb.wks_ln hg bs b1 s1
   refine c_join (σ:=Mem) (fun zz=>match zz with|M=>[(2,.cptr [.ptr b 0]),(3,.ptr b3 0),(4,.ptr b4 0)]) (fun zz=>match zz with|M=>.loc b4 zC25::.loc b3 (Co.mk k s n ⟨tk,tS,tn,tl⟩ ts ks2 al bs2).cells::M) (fun zz=>match zz with|M=>WMem ff fc fr b bd st2 M∧ln st2≤ln st+Co.ws ks+Cb.ws bs) ?_ ?_
   ·skip
    refine c_block ?_
    refine Qe ?_
    rw [List.take_of_length_le (show bs.length≤i from by omega)]
    refine c_bool 43 (k=7∧n=1) ?_ _ _ V ?_
    ·skip
     refine Qn ?_
     refine QaO ?_
     refine Qz ?_;intro c46 h46
     refine Qa ?_
     obtain ⟨rfl,g46⟩|⟨rfl,g46⟩:=Za h46
     ·skip
      refine Qj ?_
      refine Qar ?_
      refine Qas ?_
      refine Q1 ?_
      refine Yf V ?_ by4 by2
      simp_all
     skip
     refine Qag ?_
     refine Zp 49 V V V V V (op_load_m1 (i:=2) V ta_2 V V V ?_)
     refine QaX ?_;intro c50 h50
     refine Qas ?_
     refine Q1 ?_
     refine Yf V ?_ by4 by2
     simp_all
    intro c43 h43
    refine Qc ?_
    obtain ⟨rfl,g43⟩|⟨rfl,g43⟩:=Za h43
    ·refine Qat ?_
     refine Qd ?_
     refine Qn ?_
     refine QaO ?_
     refine Qz ?_;intro c59 h59
     refine Qh ?_
     obtain ⟨rfl,g59⟩|⟨rfl,g59⟩:=Za h59
     ·refine Qat ?_
      refine Qd ?_
      refine Qn ?_
      refine QaO ?_
      refine Qz ?_;intro c69 h69
      refine Qh ?_
      obtain ⟨rfl,g69⟩|⟨rfl,g69⟩:=Za h69
      ·refine Qat ?_
       have h7:¬ k=7:=g59
       have h6:¬ k=6:=g69
       have e:=hr
       rw [wkR,if_neg h7,if_neg h6] at e
       cases e
       have a1:=f1 bd st
       have HK1:=HK b3 bs bd st by7 M hM
       refine Q4 ?_
       refine Zb 42 V V V (op_callm (xs:=[.tmp 41,.tmp 3])  [_,_] V V V HK1 by1 (fun v42 M42 h42=>?_))
       obtain ⟨-,M1,h1,rfl⟩:=h42
       refine Qs ?_
       refine go_blk (go_lp ?_)
       first
       | exact ⟨M2,⟨h2,by omega⟩,by3,MLe.drop _ (Yd _)⟩
       | exact ⟨M1,⟨h1,by omega⟩,by3,MLe.drop _ (Yd _)⟩
      refine Qf ?_
      have h6:k=6:=g69
      have e:=hr
      rw [wkR,if_neg (show ¬ k=7 by omega),if_pos h6] at e
      cases e
      have a1:=f1 (bd++[s]) st
      have la:(bd++[s]).length=bd.length+1:=by simp
      have HU:=under25_c (fs:=[]) (cs:=[.cptr [.ptr b 0],.ptr b3 0]) (bd:=bd) (names:=[s]) (by show bd.length+1≤_;omega) (kids_e3 (e:=Co.mk k s n ⟨tk,tS,tn,tl⟩ ts ks al bs) (HK b3 _ (bd++[s]) st by7)) M hM
      refine Q4 ?_
      refine Qn ?_
      refine QaO ?_
      refine Zb 73 V V V (Zk (xs:=[.tmp 72]) el_30 V V V V V V (Yh V) ?_)
      refine Qbd ?_
      refine Zb 75 V V V (op_callm (xs:=[.tmp 70,.tmp 73,.tmp 74])  [_,_] V V V HU by1 (fun v75 M75 h75=>?_))
      obtain ⟨-,M1,h1,rfl⟩:=h75
      refine Qs ?_
      refine go_blk (go_lp ?_)
      first
      | exact ⟨M2,⟨h2,by omega⟩,by3,MLe.drop _ (Yd _)⟩
      | exact ⟨M1,⟨h1,by omega⟩,by3,MLe.drop _ (Yd _)⟩
     refine Qf ?_
     refine Qe ?_
     have h7:k=7:=g59
     have hn1:¬ n=1:=fun q=>g43 ⟨h7,q⟩
     have e:=hr
     rw [wkR,if_pos h7,if_neg hn1] at e
     cases e
     have a1:=f1 (bd++Cb.names bs) (Cb.wks g bs bd st).2
     have a2:=f2 bd st
     have la:(bd++Cb.names bs).length=bd.length+bs.length:=by rw [List.length_append,hnl]
     have HB1:=HB b3 bd st by7 M hM
     refine Q4 ?_
     refine Zb 61 V V V (op_callm (xs:=[.tmp 60,.tmp 3])  [_,_] V V V HB1 by1 (fun v61 M61 h61=>?_))
     obtain ⟨-,M1,h1,rfl⟩:=h61
     refine Qb ?_
     have HU:=under25_c (fs:=[]) (cs:=[.cptr [.ptr b 0],.ptr b3 0]) (bd:=bd) (names:=Cb.names bs) by7 (kids_e2 (e:=Co.mk k s n ⟨tk,tS,tn,tl⟩ ts ks al (Cb.wks g bs bd st).1) (HK b3 _ (bd++Cb.names bs) (Cb.wks g bs bd st).2 by7)) M1 h1
     refine Q4 ?_
     refine Qa ?_
     refine Qbd ?_
     refine Zb 65 V V V (op_callm (xs:=[.tmp 62,.tmp 63,.tmp 64])  [_,_] V V V HU by1 (fun v65 M65 h65=>?_))
     obtain ⟨-,M2,h2,rfl⟩:=h65
     refine Qs ?_
     refine go_blk (go_lp ?_)
     first
     | exact ⟨M2,⟨h2,by omega⟩,by3,MLe.drop _ (Yd _)⟩
     | exact ⟨M1,⟨h1,by omega⟩,by3,MLe.drop _ (Yd _)⟩
    refine Qf ?_
    have e:=hr
    rw [wkR,if_pos g43.1,if_pos g43.2] at e
    cases e
    have a1:=f1 (bd++Cb.names bs) (Cb.wks g bs (bd++Cb.names bs) st).2
    have a2:=f2 (bd++Cb.names bs) st
    have la:(bd++Cb.names bs).length=bd.length+bs.length:=by rw [List.length_append,hnl]
    have HU:=under25_c (fs:=[]) (cs:=[.cptr [.ptr b 0],.ptr b3 0]) (bd:=bd) (names:=Cb.names bs) by7 (both_e1 (HB b3 (bd++Cb.names bs) st by7) (HK b3 _ (bd++Cb.names bs) (Cb.wks g bs (bd++Cb.names bs) st).2 by7)) M hM
    refine Q4 ?_
    refine Qa ?_
    refine Qbd ?_
    refine Zb 55 V V V (op_callm (xs:=[.tmp 52,.tmp 53,.tmp 54])  [_,_] V V V HU by1 (fun v55 M55 h55=>?_))
    obtain ⟨-,M1,h1,rfl⟩:=h55
    refine Qs ?_
    refine go_blk (go_lp ?_)
    first
    | exact ⟨M2,⟨h2,by omega⟩,by3,MLe.drop _ (Yd _)⟩
    | exact ⟨M1,⟨h1,by omega⟩,by3,MLe.drop _ (Yd _)⟩
   rintro M hI
   try dsimp only [List.cons_append,List.nil_append] at hI ⊢
   obtain ⟨hJ0,hln2⟩:=hI
   refine Qc ?_
   refine Qd ?_
   refine Qad ?_
   refine Zb 78 V V V (op_callg (xs:=[.tmp 77])  V V HCl by1 (by exact List.Perm.refl _) (fun v78 M78 h78=>?_))
   obtain ⟨_,⟨ua,un,uc,rfl⟩,rfl,rfl⟩:=h78
   refine Zb 8 V V V (op_alloce (cs':=[_]) V tz_26 V V ?_);intro b8
   refine AOps.st0 V V (Yc (cs':=[_]) (i:=0) V ts_26 V V V V V (Yh V) V ?_)
   refine Qb ?_
   refine Qy ?_
   refine c_rowok 1 V (fun hu=>?_)
   rw [Ca.cellss_len] at hu
   refine c_fixl 8 0 V V (ACode.perm (pick_perm (is:=[1,1]) V) ?_)
   refine Q4 ?_
   refine Zb 80 V V V (op_len_row (i:=2) V tu_26 V V (fun n80=>?_))
   refine Qam ?_
   refine Zy (σ:=Nat × Mem) (fun zz=>match zz with|(j,M)=>[(2,.cptr [.ptr b 0]),(3,.ptr b3 0),(4,.ptr b4 0),(8,.cptr [.val (.slice ua un uc)]),(79,.val (.slice ua un uc)),(80,.val (.int .i64 (Ca.cellss al).length)),(81,.val (.int .i64 j))]) (fun zz=>match zz with|(j,M)=>.loc b4 zC25::.loc b3 (Co.mk k s n ⟨tk,tS,tn,tl⟩ ts ks2 al bs2).cells::.row 66 16 (.slice ua un uc) (Ca.cellss ((Ca.wks g (al.take j) bd st2).1++al.drop j))::M) (fun zz=>match zz with|(j,M)=>j≤al.length∧WMem ff fc fr b bd (Ca.wks g (al.take j) bd st2).2 M) (fun zz=>match zz with|(j,M)=>al.length - j) ((0,M)) ?_ ?_ ?_ ?_
   ·exact ⟨Nat.zero_le _,by rw [List.take_zero,Ca.wks];exact hJ0⟩
   ·exact by3
   ·exact MLe.of_eq (by show _=Res.loc b4 zC25::.loc b3 (Co.mk k s n ⟨tk,tS,tn,tl⟩ ts ks2 al bs2).cells::.row 66 16 (.slice ua un uc) (Ca.cellss ((Ca.wks g (al.take 0) bd st2).1++al.drop 0))::M;rw [List.take_zero,Ca.wks];rfl)
   rintro ⟨j,M⟩ hI
   try dsimp only [List.cons_append,List.nil_append] at hI ⊢
   obtain ⟨hj,hJ⟩:=hI
   have hlj:=Ca.wks_len g (al.take j) bd st2
   rw [List.length_take,Nat.min_eq_left hj] at hlj
   have hrl:(Ca.cellss ((Ca.wks g (al.take j) bd st2).1++al.drop j)).length=al.length:=by rw [Ca.cellss_len,List.length_append,hlj,List.length_drop];omega
   refine Qan ?_;intro c82 h82
   refine QR ?_
   obtain ⟨rfl,g82⟩|⟨rfl,g82⟩:=Za h82
   ·refine QH ?_
    obtain rfl:j=al.length:=by omega
    rw [List.take_length,List.drop_length,List.append_nil] at *
    refine Q4 ?_
    refine Qn ?_
    refine AOps.st0 V V (Yc (cs':=[_,_,_,_,_,_,_,_,_,_,_]) (i:=1) V ts_26 V V V V V (Yh V) V ?_)
    refine QR ?_
    refine c_frzl (i:=2) (j:=1) (k:=9) V V V ?_
    refine Qm ?_
    refine Qbe ?_
    refine Qaq ?_
    exact out_cell (i:=0) V V V ta_29 V by0 (MLe.drop _ (MLe.drop _ (Yd _))) ⟨V,hJ⟩
   refine Qq ?_
   obtain ⟨cap,gg,e⟩:∃ cap gg,(.slice ua un uc:Value)=rowv gg al.length cap:=by
       obtain ⟨_,h0⟩|⟨gg,cap,e⟩:=hu
       ·omega
       exact ⟨cap,gg,e⟩
   obtain ⟨rfl,rfl,rfl⟩:ua=some ⟨gg,0,none⟩∧un=al.length∧cap=uc:=by cases e;exact ⟨rfl,rfl,rfl⟩
   obtain ⟨x,hx⟩:=Ze (l:=al) (i:=j) by7
   have hle:=Ca.wks_ln hg (al.take j) bd st2
   have hwx:=Ca.ws_at hx
   have htk:=Ca.wks_take g hx bd st2
   have hdr:=drop_cons hx
   have hgx:(Ca.cellss ((Ca.wks g (al.take j) bd st2).1++al.drop j))[j]?=some x.cells:=by
    rw [hdr]
    refine Ca.cellss_get ?_
    rw [List.getElem?_append_right by7,hlj,Nat.sub_self];rfl
   have hxw:x.w=x.q.size+x.e.w:=by cases x;rw [Ca.w,Ca.e,Ca.q]
   have hql:=Pa.names_len x.q
   have HN:=(tNames_c x.q by7).pure
   have hlb:(bd++x.q.names).length=bd.length+x.q.names.length:=List.length_append
   have hwk:x.wk g bd (Ca.wks g (al.take j) bd st2).2=(.mk x.q (x.e.wk g (bd++x.q.names) (Ca.wks g (al.take j) bd st2).2).1,(x.e.wk g (bd++x.q.names) (Ca.wks g (al.take j) bd st2).2).2):=by cases x;rw [Ca.wk,Ca.e,Ca.q]
   rw [hwk] at htk
   have HU:=under25_c (fs:=[]) (cs:=[.cptr [.ptr b 0],.cptr x.cells,.cptr [.val (rowv gg al.length cap)],.cptr [.val (.int .i64 j)]]) (bd:=bd) (names:=x.q.names) by7 (alt25_c (ff:=ff) (fc:=fc) (fr:=fr) (g:=g) (ln:=ln) (b:=b) (bd:=bd++x.q.names) (st:=(Ca.wks g (al.take j) bd st2).2) (x:=x) (gg:=gg) (cap:=cap) (l:=(Ca.wks g (al.take j) bd st2).1) (r:=al.drop (j+1)) hlj (m:=al.length) (by rw [← hdr];rw [Ca.cellss_len] at hrl;exact hrl) (IHa x (Yi hx) _) by7)
   rw [← hdr] at HU
   have htk1:(Ca.wks g (al.take (j+1)) bd st2).1++al.drop (j+1)=(Ca.wks g (al.take j) bd st2).1++Ca.mk x.q (x.e.wk g (bd++x.q.names) (Ca.wks g (al.take j) bd st2).2).1::al.drop (j+1):=by rw [htk,List.append_assoc];rfl
   rw [← htk1] at HU
   have htk2:(x.e.wk g (bd++x.q.names) (Ca.wks g (al.take j) bd st2).2).2=(Ca.wks g (al.take (j+1)) bd st2).2:=by rw [htk]
   rw [htk2] at HU
   clear hwk htk htk1 htk2 hle
   have HU:=HU M hJ
   obtain ⟨⟨zk,zs,zn,zks,zp⟩,⟨xk,xs,xn,⟨xtk,xtS,xtn,xtl⟩,xts,xks,xal,xbs⟩⟩:=x
   simp only [Ca.q] at HN HU
   generalize (Pa.mk zk zs zn zks zp).names=nm at *
   refine Qt ?_
   refine Zb 84 V V V (op_index_row (i:=2) (k:=j) V te_26 V V V (by first|rfl|omega) by7 ?_)
   refine Zb 85 V V V (op_load_row (i:=2) (k:=j) V ta_66 V V V (hgx) (Zb 9 V V V (op_alloce (cs':=[_]) V tz_3 V V ?_)));intro b9
   refine Zb 10 V V V (op_alloce (cs':=[_,_,_,_,_,_,_,_,_,_,_,_,_,_,_,_]) V tz_66 V V ?_);intro b10
   refine AOps.st0 V V (Yc (cs':=[_]) (i:=1) V ts_3 V V V V V (Yh V) V (AOps.st0 V V (Yc (cs':=[_,_,_,_,_,_,_,_,_,_,_,_,_,_,_,_]) (i:=0) V ts_66 V V V V V (Yh V) V ?_)))
   refine Qb ?_
   refine c_fixl 10 0 V V (c_fixl 9 0 V V ?_)
   refine c_drawnG (some 5) (fun M'=>∃ M1,WMem ff fc fr b bd (Ca.wks g (al.take (j+1)) bd st2).2 M1∧M'=.loc b4 zC25::.loc b3 (Co.mk k s n ⟨tk,tS,tn,tl⟩ ts ks2 al bs2).cells::.row 66 16 (rowv gg al.length cap) (Ca.cellss ((Ca.wks g (al.take (j+1)) bd st2).1++al.drop (j+1)))::M1) [0,1,2,3,4,5] [] [] [] [[],[],[1],[1,2],[],[0,1,2,3,4]] ([]) tmix V V ?_
   refine EOpsG.d 86 (none) (i:=0) V V V V V (op_load_c1 V ta_55 V V ⟨V,V⟩) ?_
   refine EOpsG.d 87 (none) (i:=1) V V V V V (op_fieldAddr_c V tf_66_0 V V ⟨V,V⟩) ?_
   refine EOpsG.d 88 (none) (i:=2) V V V V V (Zs (cs':=[_,_,_,_,_]) V ta_64 V V V ⟨V,V⟩) ?_
   refine EOpsG.d 89 (none) (i:=3) V V V V V (Zi (xs:=[.tmp 88]) V V (HN) by1 ⟨V,V⟩) ?_
   refine EOpsG.d 90 (none) (i:=4) V V V V V (op_makeFunc (fs:=[]) (cs:=[.tmp 2,.tmp 10,.tmp 8,.tmp 9]) V V V ⟨V,V⟩) ?_
   refine EOpsG.c (v:=.tup []) 91 rfl rfl rfl rfl (op_callm (xs:=[.tmp 86,.tmp 89,.tmp 90]) [_,_] rfl rfl rfl HU by1 (fun v91 M91 h91=>by obtain ⟨rfl,M1,k1,rfl⟩:=h91;exact ⟨rfl,M1,k1,rfl⟩)) ?_
   refine ⟨(fun _ _=>V),trivial,fun M5 h5=>?_⟩
   obtain ⟨M91,h91,rfl⟩:=h5 _ rfl
   show AGo _ _ _ _ _ _ _
   refine Qao ?_
   exact ⟨(j+1,M91),⟨by omega,h91⟩,by show al.length - (j+1)<al.length - j;omega,by3,Yd _⟩
  refine Qq ?_
  obtain ⟨⟨yb,yvs,⟨ywk,ywS,ywn,ywl⟩,⟨yk,ys,yn,⟨ytk,ytS,ytn,ytl⟩,yts,yks,yal,ybs⟩⟩,hx⟩:=Ze (l:=bs) (i:=i) by7
  have hcx:=Cb.cellss_get hx
  have e:strs (Cb.names (bs.take i))++[[AV.val (.string yb)]]=strs (Cb.names (bs.take (i+1))):=by rw [List.take_add_one,hx];simp [Cb.names,strs,Cb.s]
  refine Qm ?_
  refine Qa1 ?_
  refine Qbu ?_
  refine Qbv ?_;intro b7
  refine Qbw ?_
  refine Qb ?_
  refine Qt ?_
  refine Qn ?_
  refine Qaz ?_
  refine Zb 38 V V V (Zk (xs:=[.tmp 37]) el_30 V V V V V V (Yh V) ?_)
  refine Zb 39 V V V (Yb (i:=1) el_30 V V V V (.seq _ _) (by rw [Zm];simp [Cb.names];omega) ?_)
  intro u39
  refine Q1 ?_
  refine Qao ?_
  exact ⟨(i+1,u39),by simp;omega,by simp;omega,(by repeat' (first|exact SLe.nil _|refine SLe.cons V ?_ ?_|exact Ye _|exact Le.own _ _ _|exact Le.nil _|(refine Yg ?_;exact e)|(refine Le.own_seq ?_;exact e)|(refine Le.seq_eq ?_;exact e))),MLe.drop _ (Yd _)⟩
 refine Qf ?_
 refine Qy ?_
 obtain ⟨ao,cap,Mf,hfr,rfl⟩:=hM
 rw [Co.wk,if_pos g13] at hW
 refine c_fixl 3 1 V V (c_boold 20 (s∈bd) tmix V ?_ _ _ V ?_)
 ·skip
  refine QZ ?_
  refine Zl 15 V V (op_nilCheck_m V V ⟨V,V⟩) ?_
  refine Zl 16 V V (op_fieldAddr_m V tf_59_0 V ⟨V,V⟩) ?_
  refine Zl 17 V V (op_load_m1 (i:=1) V ta_30 V V V ⟨V,V⟩) ?_
  refine QM ?_
  refine QZ ?_
  refine DOps.cm 20 V V (fun _ q=>op_callbrb (xs:=[.tmp 17,.tmp 19]) 2 V V V (ContainsS_c bd s) (by repeat' (first|exact Bor.nil|refine Bor.row ?_|refine Bor.le (Ye _) ?_|refine Bor.le (Le.own _ _ _) ?_)) q) ?_;intro c20 h20
  show BoolQ _ _ _ _ _ _
  refine Yf V ?_ by4 by2
  simp_all;done
 intro c20 h20
 refine Qc ?_
 obtain ⟨rfl,g20⟩|⟨rfl,g20⟩:=Za h20
 ·refine QO ?_
  rw [if_neg g20] at hW
  obtain ⟨⟨⟨yk,ys,yn,⟨ytk,ytS,ytn,ytl⟩,yts,yks,yal,ybs⟩,st2⟩,hG⟩:∃ r,g (Co.mk k s n ⟨tk,tS,tn,tl⟩ ts ks al bs) st=r:=⟨_,rfl⟩
  rw [hG] at hW
  subst hW
  refine c_le (al':=[(2,.cptr [.ptr b 0]),(3,.cptr (Co.mk k s n ⟨tk,tS,tn,tl⟩ ts ks al bs).cells),(4,.ptr b4 0)]) by3 (Yd _) ?_
  refine c_treef 7 [false,false,false,false,false,false,false] tmix V V ?_
  refine ADraw.via [(26,.agg (Co.mk k s n ⟨tk,tS,tn,tl⟩ ts ks al bs).cells),(25,.clo (.func ff) [] fc)] 2 [true,true,true,true,true,false,false] (fun H=>?_) ?_
  ·skip
   refine ADraw.step [0,4] (by kernel_rfl) V ⟨?_,?_,trivial⟩
   ·refine ⟨_,V,V,V,op_load_c1 V ta_55 V V ?_⟩
    refine ADraw.step [1,4] (by kernel_rfl) V ⟨?_,?_,trivial⟩
    ·refine ⟨_,V,V,V,op_nilCheck_m V V ?_⟩
     refine ADraw.step [2,4] (by kernel_rfl) V ⟨?_,?_,trivial⟩
     ·refine ⟨_,V,V,V,op_fieldAddr_m V tf_59_1 V ?_⟩
      refine ADraw.step [3,4] (by kernel_rfl) V ⟨?_,?_,trivial⟩
      ·refine ⟨_,V,V,V,op_load_m1 (i:=1) V ta_57 V V V ?_⟩
       refine ADraw.step [4] (by kernel_rfl) V ⟨?_,trivial⟩
       refine ⟨_,V,V,V,Zs (cs':=[_,_,_,_,_,_,_,_,_,_,_]) V ta_29 V V V ?_⟩
       exact H _ by3
      refine ⟨_,V,V,V,Zs (cs':=[_,_,_,_,_,_,_,_,_,_,_]) V ta_29 V V V ?_⟩
      refine Qa2 ?_
      refine ⟨_,V,V,V,op_load_m1 (i:=1) V ta_57 V V V ?_⟩
      exact H _ by3
     refine ⟨_,V,V,V,Zs (cs':=[_,_,_,_,_,_,_,_,_,_,_]) V ta_29 V V V ?_⟩
     refine Qbf ?_
     refine ⟨_,V,V,V,op_fieldAddr_m V tf_59_1 V ?_⟩
     refine Qa2 ?_
     refine ⟨_,V,V,V,op_load_m1 (i:=1) V ta_57 V V V ?_⟩
     exact H _ by3
    refine ⟨_,V,V,V,Zs (cs':=[_,_,_,_,_,_,_,_,_,_,_]) V ta_29 V V V ?_⟩
    refine ADraw.step [1] (by kernel_rfl) V ⟨?_,trivial⟩
    refine ⟨_,V,V,V,op_nilCheck_m V V ?_⟩
    refine Qbf ?_
    refine ⟨_,V,V,V,op_fieldAddr_m V tf_59_1 V ?_⟩
    refine Qa2 ?_
    refine ⟨_,V,V,V,op_load_m1 (i:=1) V ta_57 V V V ?_⟩
    exact H _ by3
   refine ⟨_,V,V,V,Zs (cs':=[_,_,_,_,_,_,_,_,_,_,_]) V ta_29 V V V ?_⟩
   refine ADraw.step [0] (by kernel_rfl) V ⟨?_,trivial⟩
   refine ⟨_,V,V,V,op_load_c1 V ta_55 V V ?_⟩
   refine ADraw.step [1] (by kernel_rfl) V ⟨?_,trivial⟩
   refine ⟨_,V,V,V,op_nilCheck_m V V ?_⟩
   refine Qbf ?_
   refine ⟨_,V,V,V,op_fieldAddr_m V tf_59_1 V ?_⟩
   refine Qa2 ?_
   refine ⟨_,V,V,V,op_load_m1 (i:=1) V ta_57 V V V ?_⟩
   exact H _ by3
  refine ADraw.step [5] (by kernel_rfl) V ⟨⟨_,V,V,V,op_callvm (xs:=[.tmp 26]) [_,_,_] V V V V (hF _ st Mf hfr by7) (by exact Les.refl _) (fun v27 M27 h27=>?_)⟩,trivial⟩
  obtain ⟨rfl,h27⟩:=h27
  rw [hG] at h27 ⊢
  refine ADraw.step [6] (by kernel_rfl) V ⟨⟨_,V,V,V,Yc (i:=0) V ts_29 V V V V V (Yh V) V ?_⟩,trivial⟩
  refine ADraw.done (by kernel_rfl) ?_
  show AGo _ _ _ _ _ _ _
  refine Qc ?_
  refine c_ret ?_
  exact out_cell (i:=0) V V V ta_29 V by0 (MLe.drop _ (Yd _)) ⟨V,_,_,_,h27,V⟩
 refine Qf ?_
 refine Qd ?_
 refine QA ?_
 refine Qaq ?_
 rw [if_pos g20] at hW
 subst hW
 exact out_cell (i:=0) V V V ta_29 V by0 (MLe.drop _ (Yd _)) ⟨V,_,_,Mf,hfr,V⟩
termination_by SizeOf.sizeOf e
decreasing_by
 ·exact Co.lt_kid hx
 ·exact Nat.lt_trans (Cb.lt_e x) (Co.lt_bind hx)
 exact Nat.lt_trans (Ca.lt_e x) (Co.lt_alt hx)
end
def frN (bo:Nat) (out:List Txt) (M:Mem):Prop:=∃ uo,M=[.loc bo [.own uo 1 (strs out)],.own 9 1 uo]
theorem freeN_c (bo:Nat) (e:Co) (out:List Txt) (Mf:Mem) (h:frN bo out Mf) (hl:out.length+1≤10000000000):ACall Tryz.prog 21 (.agg e.cells::[.ptr bo 0]) Mf (fun v M'=>v=.agg (gN e out).1.cells∧frN bo (gN e out).2 M'):=by
 obtain ⟨uo,rfl⟩:=h
 obtain ⟨W,hW⟩:∃ W,gN e out=W:=⟨_,rfl⟩
 rw [hW]
 obtain ⟨k,s,n,⟨tk,tS,tn,tl⟩,ts,ks,al,bs⟩:=e
 have hy:s∈out→W=(Co.mk k s n ⟨tk,tS,tn,tl⟩ ts ks al bs,out):=fun h=>by rw [← hW,gN,if_pos (show (Co.mk k s n ⟨tk,tS,tn,tl⟩ ts ks al bs).s∈out from h)]
 have hn:s∉out→W=(Co.mk k s n ⟨tk,tS,tn,tl⟩ ts ks al bs,out++[s]):=fun h=>by rw [← hW,gN,if_neg (show (Co.mk k s n ⟨tk,tS,tn,tl⟩ ts ks al bs).s∉out from h)];rfl
 clear hW
 have HC:=ContainsS_c out s
 have hlo:=Zm out
 refine Zd Tryz.func21 V (by kernel_rfl) V (Yh V) ?_
 refine Qac ?_
 refine Q0 ?_
 refine Qai ?_;intro b3
 refine QR ?_
 refine Qd ?_
 refine Qa8 ?_
 refine Qk ?_
 refine Zb 7 V V V (Zq (xs:=[.tmp 4,.tmp 6]) V V (HC) by1 ?_);intro c7 h7
 refine Q8 ?_;intro c8 h8
 try replace h8:=nott h8 h7
 refine Qb ?_
 refine c_join (σ:=List Txt × Value) (fun zz=>match zz with|(o1,u)=>[(2,.cptr (Co.mk k s n ⟨tk,tS,tn,tl⟩ ts ks al bs).cells),(3,.ptr b3 0)]) (fun zz=>match zz with|(o1,u)=>[.loc b3 zC25,.loc bo [.own u 1 (strs o1)],.own 9 1 u]) (fun zz=>match zz with|(o1,u)=>W=(Co.mk k s n ⟨tk,tS,tn,tl⟩ ts ks al bs,o1)) ?_ ?_
 ·skip
  obtain ⟨rfl,g8⟩|⟨rfl,g8⟩:=Za h8
  ·refine Qw ?_
   refine go_lp ?_
   first
   | exact ⟨(out++[s],u13),hn g8,by3,MLe.of_eq (by show _=[Res.loc b3 zC25,.loc bo [.own u13 1 (strs (out++[s]))],.own 9 1 u13];rw [Zt];rfl)⟩
   | exact ⟨(out,uo),hy (Classical.not_not.1 g8),by3,MLe.of_eq rfl⟩
  refine Qf ?_
  refine Qm ?_
  refine Qa8 ?_
  refine Qk ?_
  refine Qbq ?_
  refine Zb 13 V V V (Yb (i:=2) el_30 V V V V (.seq _ _) (by first|(simp;done)|(simp;omega)|omega) ?_)
  intro u13
  refine Qba ?_
  refine Qs ?_
  refine go_lp ?_
  first
  | exact ⟨(out++[s],u13),hn g8,by3,MLe.of_eq (by show _=[Res.loc b3 zC25,.loc bo [.own u13 1 (strs (out++[s]))],.own 9 1 u13];rw [Zt];rfl)⟩
  | exact ⟨(out,uo),hy (Classical.not_not.1 g8),by3,MLe.of_eq rfl⟩
 rintro ⟨o1,u⟩ hI
 try dsimp only [List.cons_append,List.nil_append] at hI ⊢
 subst hI
 refine Qc ?_
 refine Qd ?_
 refine QA ?_
 refine Qaq ?_
 exact out_cell (i:=0) V V V ta_29 V by0 (MLe.drop _ (Yd _)) ⟨V,u,V⟩
theorem wm_start (bo b:Nat) (ff:FuncId) (fc:List AV):MImp [.loc b [.val (.slice none 0 0),.clo (.func ff) [] fc],.loc bo [.val (.slice none 0 0)]] [.loc b [.val (.slice none (strs []).length 0),.clo (.func ff) [] fc],.row 9 1 (.slice none (strs []).length 0) (strs []),.loc bo [.own (.slice none 0 0) 1 (strs [])],.own 9 1 (.slice none 0 0)]:=fun B F Mf w x=>by
 have h:=(MImp.rowNil 9 1 [.own 9 1 (.slice none 0 0),.loc b [.val (.slice none 0 0),.clo (.func ff) [] fc],.loc bo [.val (.slice none 0 0)]]) B F Mf w (x.ownNil 9 1)
 have h2:Inv B F (.row 9 1 (.slice none 0 0) []::.own 9 1 (.slice none 0 0)::.loc b [.val (.slice none 0 0),.clo (.func ff) [] fc]::.loc bo [.own (.slice none 0 0) 1 []]::Mf) w:=by
  refine ⟨h.base,h.fix,fun r hr=>?_,?_⟩
  ·simp only [List.mem_cons] at hr
   rcases hr with rfl|rfl|rfl|rfl|hr
   ·exact h.ok _ by8
   ·exact h.ok _ by8
   ·exact h.ok _ by8
   ·obtain ⟨h1,h2,vs,T,h3,h4,h5⟩:=h.ok (.loc bo [.val (.slice none 0 0)]) by8
    refine ⟨h1,h2,vs,T,h3,?_,h5⟩
    cases h4 with
    | cons k ks =>
     cases k
     exact .cons (.own _ (.seq0 1 none 0 (fun _=>V))) ks
   exact h.ok r (by simp [hr])
  have:=h.far
  rw [far_map] at this ⊢
  simpa [Res.blk] using this
 exact h2.perm ((pick_perm (is:=[2,0,1,0]) (M:=[.row 9 1 (.slice none 0 0) [],.own 9 1 (.slice none 0 0),.loc b [.val (.slice none 0 0),.clo (.func ff) [] fc],.loc bo [.own (.slice none 0 0) 1 []]]) V).append_right Mf)
theorem Names25_c (e:Co) (hw:e.w≤1000000000):OCall Tryz.prog 8 [.agg e.cells] 9 1 (strs (e.fn [] [])):=by
 have H:=fun b bo M (hM:WMem 21 [.ptr bo 0] (frN bo) b [] [] M)=>exp25_c (ff:=21) (fc:=[.ptr bo 0]) (fr:=frN bo) (g:=gN) (ln:=fun l=>l.length) (b:=b) (fun e st=>by unfold gN;dsimp only;split <;> simp) (fun e st Mf h hl=>freeN_c bo e st Mf h hl) e [] [] M hM by5
 simp only [Co.wk_fn] at H
 generalize e.fn [] []=r at *
 generalize (Co.wk gN e [] []).1=e1 at *
 obtain ⟨k,s,n,⟨tk,tS,tn,tl⟩,ts,ks,al,bs⟩:=e
 refine Zd Tryz.func8 V (by kernel_rfl) V (Yh V) ?_
 refine Qac ?_
 refine Q0 ?_
 refine Qh ?_
 refine Qd ?_
 refine Zb 3 V V V (op_alloce (cs':=[_]) V tz_30 V V ?_);intro b3
 refine Qb ?_
 refine Qd ?_
 refine Zb 5 V V V (op_makeFunc (fs:=[]) (cs:=[.tmp 3]) V V V (Zb 6 V V V (op_build (ns:=[1]) (xs:=[.tmp 5]) (cs':=[_,_]) V tz_59 V tfl_59 V V V V (Zb 7 V V V (op_boxe (cs':=[_,_]) V V V V ?_)))));intro b7
 refine QP ?_
 refine c_mem (wm_start b3 b7 _ _) ?_
 refine Qt ?_
 refine QA ?_
 refine Zb 10 V V V (op_callm (xs:=[.tmp 8,.tmp 9])  [] V V V (H b7 b3 _ ⟨none,0,_,⟨_,V⟩,V⟩) by1 (fun v10 M10 h10=>?_))
 obtain ⟨rfl,ao,cap,Mf,⟨uo,rfl⟩,rfl⟩:=h10
 refine Qb ?_
 refine Qd ?_
 refine QaO ?_
 refine QG ?_
 exact Zg V V (Ye _) (MLe.drop _ (MLe.drop _ (MLe.drop _ (Yd _)))) ⟨_,V,V⟩
theorem firstAt_ge {s:Txt}:∀ (l:List Txt) (k:Nat),s∈l→(k:Int)≤firstAt s l k
 | [],k,h=>by simp at h
 | x::l,k,h=>by
  rw [firstAt]
  split
  ·omega
  have:=firstAt_ge l (k+1) ((List.mem_cons.1 h).resolve_left ‹_›)
  omega
theorem lkC_first {s:Txt}:∀ (l:List Txt) (r:List Co) (k j:Nat),firstAt s l k=((k+j:Nat):Int)→lkC l r s=r[j]?
 | [],r,k,j,h=>by rw [firstAt] at h;omega
 | x::l,r,k,j,h=>by
  rw [firstAt] at h
  by_cases hx:x=s
  ·rw [if_pos hx.symm] at h
   obtain rfl:j=0:=by omega
   cases r with
   | nil=>rw [lkC.eq_def];simp
   | cons a r=>rw [lkC,if_pos hx];simp
  rw [if_neg (fun q=>hx q.symm)] at h
  have hk:k+1≤k+j:=by
   rcases Nat.lt_or_ge j 1 with q|q
   ·exfalso
    have hm:s∈l:=(firstAt_nonneg s l (k+1)).1 (by rw [h];omega)
    have:=firstAt_ge l (k+1) hm
    rw [h] at this;omega
   omega
  obtain ⟨j,rfl⟩:∃ i,j=i+1:=⟨j - 1,by omega⟩
  have ih:=lkC_first l (r.drop 1) (k+1) j (by rw [h];congr 1;omega)
  cases r with
  | nil=>rw [lkC.eq_def];simp
  | cons a r =>
   rw [lkC,if_neg hx]
   simpa using ih
theorem lkC_neg {s:Txt} {l:List Txt} {r:List Co} (h:firstAt s l 0<0):lkC l r s=none:=lkC_out fun q=>by
 have:=(firstAt_nonneg s l 0).2 q
 omega
def frS (_:Unit) (M:Mem):Prop:=M=[]
theorem freeS_c (names:List Txt) (rr:List Co) (e:Co) (st:Unit) (Mf:Mem) (h:frS st Mf):ACall Tryz.prog 31 (.agg e.cells::[.cptr [.seq 1 (strs names)],.cptr [.seq 11 (Co.cellss rr)]]) Mf (fun v M'=>v=.agg (gS (lkC names rr) e st).1.cells∧frS (gS (lkC names rr) e st).2 M'):=by
 cases h
 obtain ⟨W,hW⟩:∃ W,gS (lkC names rr) e st=W:=⟨_,rfl⟩
 rw [hW]
 obtain ⟨k,s,n,⟨tk,tS,tn,tl⟩,ts,ks,al,bs⟩:=e
 have hW:((lkC names rr s).getD (Co.mk k s n ⟨tk,tS,tn,tl⟩ ts ks al bs),())=W:=hW
 have HI:=IndexS_c names s
 have hla:=Co.cellss_len rr
 have h1:firstAt s names 0<0→lkC names rr s=none:=lkC_neg
 have h2:∀ j:Nat,firstAt s names 0=j→lkC names rr s=rr[j]?:=fun j h=>lkC_first names rr 0 j (by rw [h];congr 1;omega)
 generalize lkC names rr s=o at *
 generalize firstAt s names 0=a at *
 refine Zd Tryz.func31 V (by kernel_rfl) V (Yh V) ?_
 refine Qac ?_
 refine Q0 ?_
 refine Qai ?_;intro b4
 refine Qb ?_
 refine Qd ?_
 refine QL ?_
 refine Qk ?_
 refine Zb 9 V V V (Zi (xs:=[.tmp 6,.tmp 8]) V V (HI) by1 ?_)
 refine Qh ?_
 refine Qy ?_
 refine c_bool 17 (a<0∨(rr.length:Int)≤a) ?_ _ _ V ?_
 ·skip
  refine Qa ?_
  refine Qi ?_;intro c11 h11
  refine Qa ?_
  obtain ⟨rfl,g11⟩|⟨rfl,g11⟩:=Za h11
  ·skip
   refine QB ?_
   refine Qa6 ?_
   refine QaP ?_;intro n15
   refine Zp 16 V V V V V (op_geq V V V ?_);intro c16 h16
   refine Qp ?_
   refine Yf V ?_ by4 by2
   first|(simp_all;done)|(simp_all;omega)|grind
  skip
  refine Qj ?_
  refine Qj ?_
  refine Qp ?_
  refine Yf V ?_ by4 by2
  first|(simp_all;done)|(simp_all;omega)|grind
 intro c17 h17
 refine Qc ?_
 obtain ⟨rfl,g17⟩|⟨rfl,g17⟩:=Za h17
 ·refine QO ?_
  obtain ⟨x,hx⟩:=Ze (l:=rr) (i:=a.toNat) by7
  have ho:=h2 a.toNat by7
  rw [hx] at ho
  subst ho
  subst hW
  have hcx:=Co.cellss_get hx
  obtain ⟨xk,xs,xn,⟨xtk,xtS,xtn,xtl⟩,xts,xks,xal,xbs⟩:=x
  refine Q4 ?_
  refine Qa ?_
  refine Zb 21 V V V (Zn (i:=a.toNat) V te_25 V (.seq _ _) V (by first|rfl|omega) (hcx) ?_)
  refine QA ?_
  refine Qaq ?_
  exact out_cell (i:=0) V V V ta_29 V by0 (MLe.none _) ⟨V,V⟩
 refine Qf ?_
 refine Qd ?_
 refine QA ?_
 refine Qaq ?_
 have ho:o=none:=by
  rcases g17 with q|q
  ·exact h1 q
  have:=h2 a.toNat by7
  rw [this]
  exact List.getElem?_eq_none by7
 subst ho
 subst hW
 exact out_cell (i:=0) V V V ta_29 V by0 (MLe.none _) ⟨V,V⟩
theorem wm_start0 (x:Res) (b:Nat) (ff:FuncId) (fc:List AV):MImp [.loc b [.val (.slice none 0 0),.clo (.func ff) [] fc],x] [x,.loc b [.val (.slice none (strs []).length 0),.clo (.func ff) [] fc],.row 9 1 (.slice none (strs []).length 0) (strs [])]:=fun B F Mf w hx=>by
 have h:=(MImp.rowNil 9 1 [.loc b [.val (.slice none 0 0),.clo (.func ff) [] fc],x]) B F Mf w hx
 exact h.perm ((pick_perm (is:=[2,1,0]) (M:=[.row 9 1 (.slice none 0 0) [],.loc b [.val (.slice none 0 0),.clo (.func ff) [] fc],x]) V).append_right Mf)
theorem Swap25_c (names:List Txt) (rr:List Co) (e:Co) (hw:e.w≤1000000000):PCall Tryz.prog 11 [.seq 1 (strs names),.seq 11 (Co.cellss rr),.agg e.cells] (.agg (e.so (lkC names rr)).cells):=by
 have H:=fun b M (hM:WMem 31 [.cptr [.seq 1 (strs names)],.cptr [.seq 11 (Co.cellss rr)]] frS b [] () M)=>exp25_c (ff:=31) (fc:=[.cptr [.seq 1 (strs names)],.cptr [.seq 11 (Co.cellss rr)]]) (fr:=frS) (g:=gS (lkC names rr)) (ln:=fun _=>0) (b:=b) (fun e st=>Nat.zero_le _) (fun e st Mf h hl=>freeS_c names rr e st Mf h) e [] () M hM (by show 0+0+e.w≤_;omega)
 simp only [Co.wk_so,lessO_nil] at H
 generalize (e.wk (gS (lkC names rr)) [] ()).2=st1 at *
 generalize e.so (lkC names rr)=r at *
 obtain ⟨rk,rs,rn,⟨rtk,rtS,rtn,rtl⟩,rts,rks,ral,rbs⟩:=r
 obtain ⟨k,s,n,⟨tk,tS,tn,tl⟩,ts,ks,al,bs⟩:=e
 refine Zd Tryz.func11 V (by kernel_rfl) V (Yh V) ?_
 refine Qac ?_
 refine Qbc ?_
 refine Qbc ?_
 refine Q0 ?_
 refine Qai ?_;intro b6
 refine Qb ?_
 refine Qd ?_
 refine Zb 8 V V V (op_makeFunc (fs:=[]) (cs:=[.tmp 3,.tmp 4]) V V V (Zb 9 V V V (op_build (ns:=[1]) (xs:=[.tmp 8]) (cs':=[_,_]) V tz_59 V tfl_59 V V V V (Zb 10 V V V (op_boxe (cs':=[_,_]) V V V V ?_)))));intro b10
 refine QP ?_
 refine c_mem (wm_start0 _ b10 _ _) ?_
 refine Qt ?_
 refine QA ?_
 refine Zb 13 V V V (op_callm (xs:=[.tmp 11,.tmp 12])  [_] V V V (H b10 _ ⟨none,0,_,V,V⟩) by1 (fun v13 M13 h13=>?_))
 obtain ⟨rfl,ao,cap,Mf,rfl,rfl⟩:=h13
 refine Qaq ?_
 exact out_cell (i:=0) V V V ta_29 V by0 (MLe.none _) ⟨V,V⟩
theorem Cb.rn_e (x:Cb):x.rn=x.e.rn:=by cases x;rw [Cb.rn,Cb.e]
theorem Ca.rn_e (x:Ca):x.rn=wo x.e.rn x.q.names:=by cases x;rw [Ca.rn,Ca.e,Ca.q]
mutual
theorem Co.rn_len:∀ e:Co,e.rn.length≤e.w
 | .mk k s n t ts ks al bs=>by
  rw [Co.rn,Co.w]
  have h1:=Co.rns_len ks []
  have h2:=Cb.rns_len bs []
  have h3:=fun o=>Ca.rns_len al o
  simp only [List.length_nil,Nat.zero_add] at h1 h2
  split
  ·simp
   omega
  refine Nat.le_trans (h3 _) ?_
  have h4:=jn_len (if k=7 then (if n=1 then wo (Cb.rns bs []) (Cb.names bs) else Cb.rns bs []) else []) (if k=6 then wo (Co.rns ks []) [s] else if k=7 then wo (Co.rns ks []) (Cb.names bs) else Co.rns ks [])
  have h5:(if k=7 then (if n=1 then wo (Cb.rns bs []) (Cb.names bs) else Cb.rns bs []) else []).length≤Cb.ws bs:=by
   have:=wo_len (Cb.rns bs []) (Cb.names bs)
   split
   ·split <;> omega
   simp
  have h6:(if k=6 then wo (Co.rns ks []) [s] else if k=7 then wo (Co.rns ks []) (Cb.names bs) else Co.rns ks []).length≤Co.ws ks:=by
   have:=wo_len (Co.rns ks []) [s]
   have:=wo_len (Co.rns ks []) (Cb.names bs)
   split
   ·omega
   split <;> omega
  omega
theorem Co.rns_len:∀ (l:List Co) (o:List Txt),(Co.rns l o).length≤o.length+Co.ws l
 | [],o=>by rw [Co.rns,Co.ws];exact Nat.le_refl _
 | x::l,o=>by
  rw [Co.rns,Co.ws]
  have:=Co.rns_len l (jn o x.rn)
  have:=jn_len o x.rn
  have:=Co.rn_len x
  omega
theorem Ca.rns_len:∀ (l:List Ca) (o:List Txt),(Ca.rns l o).length≤o.length+Ca.ws l
 | [],o=>by rw [Ca.rns,Ca.ws];exact Nat.le_refl _
 | .mk q e::l,o=>by
  rw [Ca.rns,Ca.ws,Ca.rn,Ca.w]
  have:=Ca.rns_len l (jn o (wo e.rn q.names))
  have:=jn_len o (wo e.rn q.names)
  have:=wo_len e.rn q.names
  have:=Co.rn_len e
  omega
theorem Cb.rns_len:∀ (l:List Cb) (o:List Txt),(Cb.rns l o).length≤o.length+Cb.ws l
 | [],o=>by rw [Cb.rns,Cb.ws];exact Nat.le_refl _
 | .mk s vs t e::l,o=>by
  rw [Cb.rns,Cb.ws,Cb.rn,Cb.w]
  have:=Cb.rns_len l (jn o e.rn)
  have:=jn_len o e.rn
  have:=Co.rn_len e
  omega
end
theorem SM.start (b:Nat):MImp [.loc b [.val (.slice none 0 0),.val (.slice none 0 0)]] [.loc b [.own (.slice none 0 0) 1 (strs []),.val (.slice none (strs []).length 0)],.own 9 1 (.slice none 0 0),.row 9 1 (.slice none (strs []).length 0) (strs [])]:=fun B F Mf w x=>by
 have h:=(MImp.rowNil 9 1 [.own 9 1 (.slice none 0 0),.loc b [.val (.slice none 0 0),.val (.slice none 0 0)]]) B F Mf w (x.ownNil 9 1)
 have h2:Inv B F (.row 9 1 (.slice none 0 0) []::.own 9 1 (.slice none 0 0)::.loc b [.own (.slice none 0 0) 1 [],.val (.slice none 0 0)]::Mf) w:=by
  refine ⟨h.base,h.fix,fun r hr=>?_,?_⟩
  ·simp only [List.mem_cons] at hr
   rcases hr with rfl|rfl|rfl|hr
   ·exact h.ok _ by8
   ·exact h.ok _ by8
   ·obtain ⟨h1,h2,vs,T,h3,h4,h5⟩:=h.ok (.loc b [.val (.slice none 0 0),.val (.slice none 0 0)]) by8
    refine ⟨h1,h2,vs,T,h3,?_,h5⟩
    cases h4 with
    | cons k ks =>
     cases k
     exact .cons (.own _ (.seq0 1 none 0 (fun _=>V))) ks
   exact h.ok r (by simp [hr])
  have:=h.far
  rw [far_map] at this ⊢
  simpa [Res.blk] using this
 refine h2.perm ?_
 have e:=List.reverse_perm [Res.loc b [.own (.slice none 0 0) 1 [],.val (.slice none 0 0)],.own 9 1 (.slice none 0 0),.row 9 1 (.slice none 0 0) []]
 exact e.append_right Mf
theorem MLe.left:∀ A B:Mem,MLe (A++B) A
 | [],_=>MLe.none _
 | _::A,B=>MLe.cons _ (MLe.left A B)
theorem Bi.room {x:Bi} {bs:List Bi} (h:x∈bs):x.e.w+bs.length≤Bi.ws bs:=by
 induction bs with
 | nil=>simp at h
 | cons y bs ih =>
  have h2:=Bi.len_ws bs
  rw [Bi.ws,List.length_cons]
  rcases List.mem_cons.1 h with rfl|h
  ·cases x;simp only [Bi.e,Bi.w];omega
  have:=ih h
  cases y;rw [Bi.w];omega
def Ex.kind:Ex→Int|.mk k _ _ _ _ _ _ _=>k
theorem rSamePat_c (a:Pa):∀ b:Pa,BCall Tryz.prog 30 [.agg a.cells,.agg b.cells] (a.bare=b.bare):=by
 obtain ⟨k1,s1,n1,ks1,p1⟩:=a
 rintro ⟨k2,s2,n2,ks2,p2⟩
 have IH:∀ x∈ks1,∀ y:Pa,BCall Tryz.prog 30 [.agg x.cells,.agg y.cells] (x.bare=y.bare):=fun x hx y=>rSamePat_c x y
 have hl1:=Pa.cellss_len ks1
 have hl2:=Pa.cellss_len ks2
 refine Zd Tryz.func30 V (by kernel_rfl) V (Yh V) ?_
 refine Ql ?_
 refine c_lena (t:=0) (j:=3) V V (.seq _ _) (fun hmax=>?_)
 refine Qd ?_
 refine QaY ?_
 refine QaY ?_
 refine Qh ?_
 refine Qy ?_
 refine c_bool 33 (¬ (k1=k2∧s1=s2∧n1=n2∧ks1.length=ks2.length)) ?_ _ _ V ?_
 ·skip
  refine Qk ?_
  refine Qk ?_
  refine QaJ ?_;intro c10 h10
  refine Qa ?_
  obtain ⟨rfl,g10⟩|⟨rfl,g10⟩:=Za h10
  ·skip
   refine Qu ?_
   refine Qu ?_
   refine Zp 16 V V V V V (op_sneq V V V ?_);intro c16 h16
   refine Qo ?_
   obtain ⟨rfl,g16⟩|⟨rfl,g16⟩:=Za h16
   ·skip
    refine Qu ?_
    refine Qu ?_
    refine QaF ?_;intro c23 h23
    refine Qo ?_
    obtain ⟨rfl,g23⟩|⟨rfl,g23⟩:=Za h23
    ·skip
     refine Qu ?_
     refine Zp 28 V V V V V (op_len V tu_62 V (.seq _ _) (fun n28=>?_))
     refine Qu ?_
     refine Zp 31 V V V V V (op_len V tu_62 V (.seq _ _) (fun n31=>?_))
     refine QaF ?_;intro c32 h32
     refine Qp ?_
     refine Yf V ?_ by4 by2
     simp_all;omega
    skip
    refine QE ?_
    refine QS ?_
    refine Yf V ?_ by4 by2
    simp_all;done
   skip
   refine Qj ?_
   refine Qj ?_
   refine QI ?_
   refine QS ?_
   refine Yf V ?_ by4 by2
   simp_all;done
  skip
  refine Qal ?_
  refine Qo ?_
  refine Qj ?_
  refine Qj ?_
  refine QI ?_
  refine QS ?_
  refine Yf V ?_ by4 by2
  simp_all;done
 intro c33 h33
 refine Qc ?_
 obtain ⟨rfl,g33⟩|⟨rfl,g33⟩:=Za h33
 ·refine QO ?_
  refine Qx ?_
  refine Zy (σ:=Nat) (fun zz=>match zz with|i=>[(2,.cptr (Pa.mk k1 s1 n1 ks1 p1).cells),(3,.cptr (Pa.mk k2 s2 n2 ks2 p2).cells),(5,.val (.int .i64 i))]) (fun zz=>match zz with|i=>[]) (fun zz=>match zz with|i=>i≤ks1.length∧Upto (ks1.map Pa.bare) (ks2.map Pa.bare) i) (fun zz=>match zz with|i=>ks1.length - i) (0) ?_ ?_ ?_ ?_
  ·exact ⟨by omega,Upto.zero _ _⟩
  ·exact by3
  ·exact by2
  rintro i hI
  try dsimp only [List.cons_append,List.nil_append] at hI ⊢
  obtain ⟨hi,hu⟩:=hI
  obtain ⟨e1,e2,e3,e4⟩:=Classical.not_not.1 g33
  refine Qaf ?_
  refine QaL ?_;intro n37
  refine Qi ?_;intro c38 h38
  refine Qb ?_
  obtain ⟨rfl,g38⟩|⟨rfl,g38⟩:=Za h38
  ·refine Q2 ?_
   refine Qg ?_
   refine c_ret (Zg V V (Ye _) by2 ⟨⟨_,iff_t ?_,V⟩,V⟩)
   rw [Pa.bare_iff]
   exact ⟨e1,e2,e3,hu.eq (by simpa using e4) by5⟩
  refine Qq ?_
  obtain ⟨⟨xk,xs,xn,xks,xp⟩,hx⟩:=Ze (l:=ks1) (i:=i) by7
  obtain ⟨⟨yk,ys,yn,yks,yp⟩,hy⟩:=Ze (l:=ks2) (i:=i) by7
  have hcx:=Pa.cellss_get hx
  have hcy:=Pa.cellss_get hy
  refine Qau ?_
  refine QT ?_
  refine Qbx ?_
  refine QaR ?_
  refine QT ?_
  refine Qbx ?_
  refine QaR ?_
  refine DOps.cm 51 V V (fun _ q=>Zq (xs:=[.tmp 45,.tmp 50]) V V (IH _ (Yi hx) ⟨yk,ys,yn,yks,yp⟩) by1 q) ?_;intro c51 h51
  refine DOps.cm 52 V V (fun _ q=>op_notc V V q) ?_;intro c52 h52
  try replace h52:=nott h52 h51
  show AGo _ _ _ _ _ _ _
  refine Qc ?_
  obtain ⟨rfl,g52⟩|⟨rfl,g52⟩:=Za h52
  ·refine QW ?_
   exact ⟨i+1,⟨by omega,upto_map Pa.bare hu hx hy (Classical.not_not.1 g52)⟩,by simp;omega,by3,by2⟩
  refine QK ?_
  refine Zg V V (Ye _) by2 ⟨⟨_,iff_f (fun q=>?_),V⟩,V⟩
  rw [Pa.bare_iff] at q
  exact map_ne Pa.bare hx hy g52 q.2.2.2
 refine QK ?_
 refine Zg V V (Ye _) by2 ⟨⟨_,iff_f (fun q=>g33 ?_),V⟩,V⟩
 rw [Pa.bare_iff] at q
 exact ⟨q.1,q.2.1,q.2.2.1,by simpa using congrArg List.length q.2.2.2⟩
termination_by SizeOf.sizeOf a
decreasing_by exact Pa.lt_kid hx
end Go.Proofs.YtlkagbbbhkkogaaGreatDoor
namespace Go.Proofs.YtlkagbbbhkkogaaGreatDoor
open Go.RowKit
theorem two_of {α:Type} {l:List α} (h:l.length=2):∃ a b,l=[a,b]:=by
 match l,h with
 | [a,b],_=>exact ⟨a,b,rfl⟩
theorem one_of {α:Type} {l:List α} (h:l.length=1):∃ a,l=[a]:=by
 match l,h with
 | [a],_=>exact ⟨a,rfl⟩
end Go.Proofs.YtlkagbbbhkkogaaGreatDoor
namespace Go.Proofs.YtlkagbbbhkkogaaGreatDoor
open Go.RowKit
theorem Le.of_eq {a b:AV} (h:a=b):Le a b:=h ▸ Ye _
end Go.Proofs.YtlkagbbbhkkogaaGreatDoor
namespace Go.Proofs.YtlkagbbbhkkogaaGreatDoor
open Go.RowKit
theorem Join_c (l more:List Txt) (hb:l.length+more.length≤10000000000):OCall Tryz.prog 24 [.seq 1 (strs l),.seq 1 (strs more)] 9 1 (strs (jn l more)):=by
 have hl1:=Zm l
 have hl2:=Zm more
 refine Zd Tryz.func24 V (by kernel_rfl) V (Yh V) ?_
 refine Ql ?_
 refine c_lens (t:=1) V (.seq _ _) (fun hmax=>?_)
 refine Qg ?_
 refine Qg ?_
 refine Qe ?_
 refine ACode.ownNil (t:=5) 9 1 V ?_
 refine QF ?_
 refine Zb 9 V V V (Yb (i:=0) el_30 V V V V (.seq _ _) (by simp only [List.length_nil];omega) ?_)
 intro u9
 refine QP ?_
 refine Qx ?_
 refine Zy (σ:=Nat × List Txt × Value) (fun zz=>match zz with|(i,o,u)=>[(1,.seq 1 (strs more)),(5,.own u 1 (strs o)),(6,.val (.int .i64 i))]) (fun zz=>match zz with|(i,o,u)=>[.own 9 1 u]) (fun zz=>match zz with|(i,o,u)=>i≤more.length∧o.length≤l.length+i∧jn o (more.drop i)=jn l more) (fun zz=>match zz with|(i,o,u)=>more.length - i) ((0,l,u9)) ?_ ?_ ?_ ?_
 ·exact ⟨by omega,by omega,V⟩
 ·exact by3
 ·exact by2
 rintro ⟨i,o,u⟩ hI
 try dsimp only [List.cons_append,List.nil_append] at hI ⊢
 obtain ⟨hi,ho,hj⟩:=hI
 refine Qak ?_
 refine Q6 ?_;intro n12
 refine Qi ?_;intro c13 h13
 refine Qb ?_
 obtain ⟨rfl,g13⟩|⟨rfl,g13⟩:=Za h13
 ·refine Qap ?_
  refine Zg V V (Yg ?_) by2 ⟨_,V,V⟩
  rw [← hj,List.drop_eq_nil_of_le by7,jn_nil]
 refine Qq ?_
 obtain ⟨x,hx⟩:=Ze (l:=more) (i:=i) by7
 have hcx:=strs_get hx
 have hlo:=Zm o
 have hst:jn o (more.drop i)=jn (if x∈o then o else o++[x]) (more.drop (i+1)):=by rw [drop_get hx,jn_cons]
 refine QX ?_
 refine QaE ?_
 refine QL ?_
 refine Zb 21 V V V (Zq (xs:=[.tmp 16,.tmp 20]) V V (Has_c o x) by1 ?_);intro c21 h21
 refine Q8 ?_;intro c22 h22
 try replace h22:=nott h22 h21
 refine Qb ?_
 obtain ⟨rfl,g22⟩|⟨rfl,g22⟩:=Za h22
 ·refine QW ?_
  first|exact ⟨(i+1,o++[x],u29),⟨by dsimp only;omega,by rw [List.length_append,List.length_singleton];dsimp only;omega,by rw [← hj,hst,if_neg g22]⟩,by simp;omega,(by repeat' (first|exact SLe.nil _|refine SLe.cons rfl ?_ ?_|exact Ye _|exact Le.own _ _ _|exact Le.nil _|(refine Yg ?_;(rw [Zt];rfl))|(refine Le.own_seq ?_;(rw [Zt];rfl))|(refine Le.seq_eq ?_;(rw [Zt];rfl)))),by2⟩|exact ⟨(i+1,o,u),⟨by dsimp only;omega,by dsimp only;omega,by rw [← hj,hst,if_pos (Classical.not_not.1 g22)]⟩,by simp;omega,by3,by2⟩
 refine Qf ?_
 refine QX ?_
 refine QaE ?_
 refine QL ?_
 refine Zb 28 V V V (Zk (xs:=[.tmp 27]) el_30 V V V V V V (Yh V) ?_)
 refine Qby ?_
 intro u29
 refine Q3 ?_
 first|exact ⟨(i+1,o++[x],u29),⟨by dsimp only;omega,by rw [List.length_append,List.length_singleton];dsimp only;omega,by rw [← hj,hst,if_neg g22]⟩,by simp;omega,(by repeat' (first|exact SLe.nil _|refine SLe.cons rfl ?_ ?_|exact Ye _|exact Le.own _ _ _|exact Le.nil _|(refine Yg ?_;(rw [Zt];rfl))|(refine Le.own_seq ?_;(rw [Zt];rfl))|(refine Le.seq_eq ?_;(rw [Zt];rfl)))),by2⟩|exact ⟨(i+1,o,u),⟨by dsimp only;omega,by dsimp only;omega,by rw [← hj,hst,if_pos (Classical.not_not.1 g22)]⟩,by simp;omega,by3,by2⟩
theorem Without_c (l gone:List Txt) (hb:l.length≤10000000000):OCall Tryz.prog 25 [.seq 1 (strs l),.seq 1 (strs gone)] 9 1 (strs (wo l gone)):=by
 have hl1:=Zm l
 refine Zd Tryz.func25 V (by kernel_rfl) V (Yh V) ?_
 refine Ql ?_
 refine c_lens (t:=0) V (.seq _ _) (fun hmax=>?_)
 refine Qg ?_
 refine Qg ?_
 refine Qy ?_
 refine ACode.ownNil (t:=5) 9 1 V ?_
 refine Qm ?_
 refine Qh ?_
 refine c_block ?_
 refine Zy (σ:=Nat × List Txt × Value) (fun zz=>match zz with|(i,o,u)=>[(0,.seq 1 (strs l)),(1,.seq 1 (strs gone)),(5,.own u 1 (strs o)),(6,.val (.int .i64 i))]) (fun zz=>match zz with|(i,o,u)=>[.own 9 1 u]) (fun zz=>match zz with|(i,o,u)=>i≤l.length∧o.length≤i∧o++wo (l.drop i) gone=wo l gone) (fun zz=>match zz with|(i,o,u)=>l.length - i) ((0,[],.slice none 0 0)) ?_ ?_ ?_ ?_
 ·exact ⟨by omega,by simp,V⟩
 ·exact by3
 ·exact by2
 rintro ⟨i,o,u⟩ hI
 try dsimp only [List.cons_append,List.nil_append] at hI ⊢
 obtain ⟨hi,ho,hj⟩:=hI
 refine Qak ?_
 refine Q6 ?_;intro n9
 refine Qi ?_;intro c10 h10
 refine Qb ?_
 obtain ⟨rfl,g10⟩|⟨rfl,g10⟩:=Za h10
 ·refine Qap ?_
  refine Zg V V (Yg ?_) by2 ⟨_,V,V⟩
  rw [← hj,List.drop_eq_nil_of_le by7]
  simp [wo]
 refine Qq ?_
 obtain ⟨x,hx⟩:=Ze (l:=l) (i:=i) by7
 have hcx:=strs_get hx
 have hlo:=Zm o
 have hst:wo (l.drop i) gone=(if x∈gone then [] else [x])++wo (l.drop (i+1)) gone:=by
  rw [drop_get hx]
  by_cases q:x∈gone <;> simp [wo,q]
 refine QX ?_
 refine QaE ?_
 refine QL ?_
 refine Zb 18 V V V (Zq (xs:=[.tmp 13,.tmp 17]) V V (Has_c gone x) by1 ?_);intro c18 h18
 refine Q8 ?_;intro c19 h19
 try replace h19:=nott h19 h18
 refine Qb ?_
 obtain ⟨rfl,g19⟩|⟨rfl,g19⟩:=Za h19
 ·refine QW ?_
  first|exact ⟨(i+1,o++[x],u26),⟨by dsimp only;omega,by rw [List.length_append,List.length_singleton];dsimp only;omega,by rw [← hj,hst,if_neg g19];simp⟩,by simp;omega,(by repeat' (first|exact SLe.nil _|refine SLe.cons rfl ?_ ?_|exact Ye _|exact Le.own _ _ _|exact Le.nil _|(refine Yg ?_;(rw [Zt];rfl))|(refine Le.own_seq ?_;(rw [Zt];rfl))|(refine Le.seq_eq ?_;(rw [Zt];rfl)))),by2⟩|exact ⟨(i+1,o,u),⟨by dsimp only;omega,by dsimp only;omega,by rw [← hj,hst,if_pos (Classical.not_not.1 g19)];simp⟩,by simp;omega,by3,by2⟩
 refine Qf ?_
 refine QX ?_
 refine QaE ?_
 refine QL ?_
 refine Zb 25 V V V (Zk (xs:=[.tmp 24]) el_30 V V V V V V (Yh V) ?_)
 refine Qby ?_
 intro u26
 refine Q3 ?_
 first|exact ⟨(i+1,o++[x],u26),⟨by dsimp only;omega,by rw [List.length_append,List.length_singleton];dsimp only;omega,by rw [← hj,hst,if_neg g19];simp⟩,by simp;omega,(by repeat' (first|exact SLe.nil _|refine SLe.cons rfl ?_ ?_|exact Ye _|exact Le.own _ _ _|exact Le.nil _|(refine Yg ?_;(rw [Zt];rfl))|(refine Le.own_seq ?_;(rw [Zt];rfl))|(refine Le.seq_eq ?_;(rw [Zt];rfl)))),by2⟩|exact ⟨(i+1,o,u),⟨by dsimp only;omega,by dsimp only;omega,by rw [← hj,hst,if_pos (Classical.not_not.1 g19)];simp⟩,by simp;omega,by3,by2⟩
theorem Bound25_c (bs:List Cb) (hb:bs.length≤10000000000):PCall Tryz.prog 26 [.seq 17 (Cb.cellss bs)] (.seq 1 (strs (Cb.names bs))):=by
 have hl:=Cb.cellss_len bs
 refine Zd Tryz.func26 V (by kernel_rfl) V (Yh V) ?_
 refine Ql ?_
 refine c_lens (t:=0) V (.seq _ _) (fun hmax=>?_)
 refine Qg ?_
 refine Qg ?_
 refine Qe ?_
 refine Qx ?_
 refine ACode.ownNil (t:=3) 9 1 V ?_
 refine Zy (σ:=Nat × Value) (fun zz=>match zz with|(i,u)=>[(0,.seq 17 (Cb.cellss bs)),(3,.own u 1 (strs (Cb.names (bs.take i)))),(4,.val (.int .i64 i))]) (fun zz=>match zz with|(i,u)=>[.own 9 1 u]) (fun zz=>match zz with|(i,u)=>i≤bs.length) (fun zz=>match zz with|(i,u)=>bs.length - i) ((0,.slice none 0 0)) ?_ ?_ ?_ ?_
 ·simp
 ·exact by3
 ·exact by2
 rintro ⟨i,u⟩ hI
 try dsimp only [List.cons_append,List.nil_append] at hI ⊢
 refine Qak ?_
 refine Qav ?_;intro n7
 refine Qi ?_;intro c8 h8
 refine Qb ?_
 obtain ⟨rfl,g8⟩|⟨rfl,g8⟩:=Za h8
 ·refine Qap ?_
  exact Zg V V (Le.own_seq (by rw [List.take_of_length_le (show bs.length≤i by omega)])) (MLe.none _) ⟨V,V⟩
 refine QU ?_
 obtain ⟨⟨yb,yvs,⟨ywk,ywS,ywn,ywl⟩,⟨yk,ys,yn,⟨ytk,ytS,ytn,ytl⟩,yts,yks,yal,ybs⟩⟩,hx⟩:=Ze (l:=bs) (i:=i) by7
 have hcx:=Cb.cellss_get hx
 have e:strs (Cb.names (bs.take i))++[[AV.val (.string yb)]]=strs (Cb.names (bs.take (i+1))):=by rw [List.take_add_one,hx];simp [Cb.names,strs,Cb.s]
 have hln:(Cb.names (bs.take i)).length≤bs.length:=by simp [Cb.names];omega
 refine QX ?_
 refine Qa1 ?_
 refine Qk ?_
 refine Zb 17 V V V (Zk (xs:=[.tmp 16]) el_30 V V V V V V (Yh V) ?_)
 refine Zb 18 V V V (Yb (i:=0) el_30 V V V V (.seq _ _) (by rw [Zm];simp;omega) ?_)
 intro u18
 refine Q3 ?_
 exact ⟨(i+1,u18),by show i+1≤bs.length;omega,by show bs.length - (i+1)<bs.length - i;omega,(by repeat' (first|exact SLe.nil _|refine SLe.cons V ?_ ?_|exact Ye _|exact Le.own _ _ _|exact Le.nil _|(refine Yg ?_;exact e)|(refine Le.own_seq ?_;exact e)|(refine Le.seq_eq ?_;exact e))),by2⟩
theorem less25_c (names:List Txt) (rr:List Co) (g:List Txt) (hn:names.length≤10000000000):PCall Tryz.prog 34 [.seq 1 (strs names),.seq 11 (Co.cellss rr),.seq 1 (strs g)] (.tup [.seq 1 (strs (less25 g names rr [] []).1),.seq 11 (Co.cellss (less25 g names rr [] []).2)]):=by
 obtain ⟨R,hR⟩:∃ R,less25 g names rr [] []=R:=⟨_,rfl⟩
 rw [hR]
 have hl:=Co.cellss_len rr
 have hls:=Zm names
 refine Zd Tryz.func34 V (by kernel_rfl) V (Yh V) ?_
 refine Ql ?_
 refine c_lens (t:=0) V (.seq _ _) (fun hmax=>?_)
 refine c_lens (t:=1) V (.seq _ _) (fun hmax2=>?_)
 refine Qd ?_
 refine Q5 ?_
 refine Qh ?_
 refine Qg ?_
 refine Qg ?_
 refine Qe ?_
 refine Qx ?_
 refine ACode.ownNil (t:=8) 9 1 V (ACode.ownNil (t:=9) 29 11 V ?_)
 refine Zy (σ:=Nat × List Txt × List Co × Value × Value) (fun zz=>match zz with|(i,o,p,u,v)=>[(0,.seq 1 (strs names)),(1,.seq 11 (Co.cellss rr)),(2,.seq 1 (strs g)),(8,.own u 1 (strs o)),(9,.own v 11 (Co.cellss p)),(10,.val (.int .i64 i))]) (fun zz=>match zz with|(i,o,p,u,v)=>[.own 29 11 v,.own 9 1 u]) (fun zz=>match zz with|(i,o,p,u,v)=>i≤names.length∧less25 g (names.drop i) (rr.drop i) o p=R∧o.length≤i∧p.length≤i) (fun zz=>match zz with|(i,o,p,u,v)=>names.length - i) ((0,[],[],.slice none 0 0,.slice none 0 0)) ?_ ?_ ?_ ?_
 ·exact ⟨Nat.zero_le _,hR,Nat.le_refl _,Nat.le_refl _⟩
 ·exact by3
 ·exact by2
 rintro ⟨i,o,p,u,v⟩ hI
 try dsimp only [List.cons_append,List.nil_append] at hI ⊢
 obtain ⟨hi,hA,ho,hp⟩:=hI
 have hpl:=Co.cellss_len p
 have hol:=Zm o
 refine Qy ?_
 refine c_bool 20 (i<names.length∧i<rr.length) ?_ _ _ V ?_
 ·skip
  refine Qa ?_
  refine Qa ?_
  refine Q6 ?_;intro n13
  refine Qi ?_;intro c14 h14
  refine Qa ?_
  obtain ⟨rfl,g14⟩|⟨rfl,g14⟩:=Za h14
  ·skip
   refine Qj ?_
   refine Qj ?_
   refine Qp ?_
   refine Yf V ?_ by4 by2
   first|(simp_all;done)|(simp_all;omega)|grind
  skip
  refine QB ?_
  refine QB ?_
  refine QaP ?_;intro n18
  refine QaS ?_;intro c19 h19
  refine Qp ?_
  refine Yf V ?_ by4 by2
  first|(simp_all;done)|(simp_all;omega)|grind
 intro c20 h20
 refine Qc ?_
 obtain ⟨rfl,g20⟩|⟨rfl,g20⟩:=Za h20
 ·refine QH ?_
  have hE:R=(o,p):=by
   rw [← hA]
   by_cases h1:i<names.length
   ·have h2:rr.length≤i:=Classical.byContradiction fun q=>g20 ⟨h1,by omega⟩
    rw [List.drop_of_length_le h2,less25.eq_def]
    cases names.drop i <;> rfl
   rw [List.drop_of_length_le (show names.length≤i by omega),less25.eq_def]
  subst hE
  refine QF ?_
  refine Q5 ?_
  refine QG ?_
  exact out_tt V V V (Le.tup (Les.cons (Le.own _ _ _) (Les.cons (Le.own _ _ _) (Les.refl _)))) (MLe.none _) ⟨V,V⟩
 refine Qq ?_
 obtain ⟨hi1,hi2⟩:=g20
 obtain ⟨x,hx⟩:=Ze (l:=names) (i:=i) hi1
 obtain ⟨y,hy⟩:=Ze (l:=rr) (i:=i) hi2
 have hcx:=strs_get hx
 have hcy:=Co.cellss_get hy
 have H1:=Has_c g x
 have H2:=Has_c o x
 rw [drop_cons hx,drop_cons hy,less25] at hA
 obtain ⟨yk,ys,yn,⟨ytk,ytS,ytn,ytl⟩,yts,yks,yal,ybs⟩:=y
 refine c_bool 38 (x∉g∧x∉o) ?_ _ _ V ?_
 ·skip
  refine Qa ?_
  refine Qa ?_
  refine Qa ?_
  refine Qbg ?_
  refine QL ?_
  refine Zb 28 V V V (Zq (xs:=[.tmp 23,.tmp 27]) V V (H1) by1 ?_);intro c28 h28
  refine Q8 ?_;intro c29 h29
  try replace h29:=nott h29 h28
  refine Qa ?_
  obtain ⟨rfl,g29⟩|⟨rfl,g29⟩:=Za h29
  ·skip
   refine QE ?_
   refine QS ?_
   refine Yf V ?_ by4 by2
   clear H1 H2 hA;first|(simp_all;done)|(simp_all;omega)|grind
  skip
  refine QB ?_
  refine QB ?_
  refine QB ?_
  refine Zp 34 V V V V V (Zn V te_30 V (.seq _ _) V V (hcx) ?_)
  refine Qa6 ?_
  refine Zp 36 V V V V V (Zq (xs:=[.tmp 31,.tmp 35]) V V (H2) by1 ?_);intro c36 h36
  refine Qa3 ?_;intro c37 h37
  try replace h37:=nott h37 h36
  refine Qp ?_
  refine Yf V ?_ by4 by2
  clear H1 H2 hA;first|(simp_all;done)|(simp_all;omega)|grind
 intro c38 h38
 refine Qc ?_
 obtain ⟨rfl,g38⟩|⟨rfl,g38⟩:=Za h38
 ·refine QW ?_
  first
  | exact ⟨(i+1,o++[x],p++[Co.mk yk ys yn ⟨ytk,ytS,ytn,ytl⟩ yts yks yal ybs],u45,u52),⟨by show i+1≤names.length;omega,hA,by simp;omega,by simp;omega⟩,by show names.length - (i+1)<names.length - i;omega,(by repeat' (first|exact SLe.nil _|refine SLe.cons rfl ?_ ?_|exact Ye _|exact Le.own _ _ _|exact Le.nil _|(refine Yg ?_;first|exact e1|exact e2)|(refine Le.own_seq ?_;first|exact e1|exact e2)|(refine Le.seq_eq ?_;first|exact e1|exact e2))),by2⟩
  | exact ⟨(i+1,o,p,u,v),⟨by show i+1≤names.length;omega,by rw [if_neg g38] at hA;exact hA,by show o.length≤i+1;omega,by show p.length≤i+1;omega⟩,by show names.length - (i+1)<names.length - i;omega,by3,by2⟩
 refine Qf ?_
 refine Qe ?_
 rw [if_pos g38] at hA
 have e1:strs o++[[AV.val (.string x)]]=strs (o++[x]):=by rw [Zt];rfl
 have e2:Co.cellss p++[(Co.mk yk ys yn ⟨ytk,ytS,ytn,ytl⟩ yts yks yal ybs).cells]=Co.cellss (p++[Co.mk yk ys yn ⟨ytk,ytS,ytn,ytl⟩ yts yks yal ybs]):=by rw [Co.cellss_app];rfl
 refine QX ?_
 refine Qbg ?_
 refine QL ?_
 refine Zb 44 V V V (Zk (xs:=[.tmp 43]) el_30 V V V V V V (Yh V) ?_)
 refine Zb 45 V V V (Yb (i:=1) el_30 V V V V (.seq _ _) (by rw [hol];simp;omega) ?_)
 intro u45
 refine Qh ?_
 refine QX ?_
 refine Zb 49 V V V (Zn V te_25 V (.seq _ _) V V (hcy) ?_)
 refine QA ?_
 refine Zb 51 V V V (Zk (xs:=[.tmp 50]) el_25 V V V V V V (Yh V) ?_)
 refine Zb 52 V V V (Yb (i:=0) el_25 V V V V (.seq _ _) (by rw [hpl];simp;omega) ?_)
 intro u52
 refine Q3 ?_
 first
 | exact ⟨(i+1,o++[x],p++[Co.mk yk ys yn ⟨ytk,ytS,ytn,ytl⟩ yts yks yal ybs],u45,u52),⟨by show i+1≤names.length;omega,hA,by simp;omega,by simp;omega⟩,by show names.length - (i+1)<names.length - i;omega,(by repeat' (first|exact SLe.nil _|refine SLe.cons rfl ?_ ?_|exact Ye _|exact Le.own _ _ _|exact Le.nil _|(refine Yg ?_;first|exact e1|exact e2)|(refine Le.own_seq ?_;first|exact e1|exact e2)|(refine Le.seq_eq ?_;first|exact e1|exact e2))),by2⟩
 | exact ⟨(i+1,o,p,u,v),⟨by show i+1≤names.length;omega,by rw [if_neg g38] at hA;exact hA,by show o.length≤i+1;omega,by show p.length≤i+1;omega⟩,by show names.length - (i+1)<names.length - i;omega,by3,by2⟩
theorem rNames25_c (e:Co):e.w≤1000000000→PCall Tryz.prog 9 [.agg e.cells] (.seq 1 (strs e.rn)):=by
 obtain ⟨k,s,n,⟨tk,tS,tn,tl⟩,ts,ks,al,bs⟩:=e
 intro hw
 rw [Co.w] at hw
 have IHk:∀ x∈ks,x.w≤1000000000→PCall Tryz.prog 9 [.agg x.cells] (.seq 1 (strs x.rn)):=fun x hx h=>rNames25_c x h
 have IHb:∀ x∈bs,x.e.w≤1000000000→PCall Tryz.prog 9 [.agg x.e.cells] (.seq 1 (strs x.e.rn)):=fun x hx h=>rNames25_c x.e h
 have IHa:∀ x∈al,x.e.w≤1000000000→PCall Tryz.prog 9 [.agg x.e.cells] (.seq 1 (strs x.e.rn)):=fun x hx h=>rNames25_c x.e h
 have hbl:=Cb.ws_len bs
 have hkl:=Co.ws_len ks
 have hal:=Ca.ws_len al
 have hl1:=Cb.cellss_len bs
 have hl2:=Ca.cellss_len al
 have hl3:=Co.cellss_len ks
 have HB:=Bound25_c bs by7
 have hln:(Cb.names bs).length=bs.length:=by simp [Cb.names]
 obtain ⟨W,hW⟩:∃ W,(Co.mk k s n ⟨tk,tS,tn,tl⟩ ts ks al bs).rn=W:=⟨_,rfl⟩
 rw [hW]
 rw [Co.rn] at hW
 refine Zd Tryz.func9 V (by kernel_rfl) V (Yh V) ?_
 refine Ql ?_
 refine c_lena (t:=0) (j:=8) V V (.seq _ _) (fun hmax=>?_)
 refine c_lena (t:=0) (j:=9) V V (.seq _ _) (fun hmax2=>?_)
 refine c_lena (t:=0) (j:=10) V V (.seq _ _) (fun hmax3=>?_)
 refine Qd ?_
 refine Q0 ?_
 refine QP ?_
 refine QY ?_
 refine Qz ?_;intro c11 h11
 refine Qb ?_
 obtain ⟨rfl,g11⟩|⟨rfl,g11⟩:=Za h11
 ·refine Qw ?_
  refine Qc ?_
  refine Qg ?_
  refine Qe ?_
  refine Qx ?_
  refine Zy (σ:=Nat) (fun zz=>match zz with|i=>[(1,.cptr (Co.mk k s n ⟨tk,tS,tn,tl⟩ ts ks al bs).cells),(3,.seq 1 (strs (Cb.rns (bs.take i) []))),(4,.val (.int .i64 i))]) (fun zz=>match zz with|i=>[]) (fun zz=>match zz with|i=>i≤bs.length∧(k=7∨i=0)) (fun zz=>match zz with|i=>bs.length - i) (0) ?_ ?_ ?_ ?_
  ·exact ⟨Nat.zero_le _,.inr V⟩
  ·exact (by repeat' (first|exact SLe.nil _|refine SLe.cons V ?_ ?_|exact Ye _|exact Le.own _ _ _|exact Le.nil _|(refine Yg ?_;(rw [List.take_zero,Cb.rns];exact Le.nil _))|(refine Le.own_seq ?_;(rw [List.take_zero,Cb.rns];exact Le.nil _))|(refine Le.seq_eq ?_;(rw [List.take_zero,Cb.rns];exact Le.nil _))))
  ·exact by2
  rintro i hI
  try dsimp only [List.cons_append,List.nil_append] at hI ⊢
  obtain ⟨hi,hk7⟩:=hI
  refine Qy ?_
  refine c_bool 24 (i<bs.length∧k=7) ?_ _ _ V ?_
  ·skip
   refine Qa ?_
   refine Qk ?_
   refine Qav ?_;intro n18
   refine Qi ?_;intro c19 h19
   refine Qa ?_
   obtain ⟨rfl,g19⟩|⟨rfl,g19⟩:=Za h19
   ·skip
    refine Qj ?_
    refine QS ?_
    refine Yf V ?_ by4 by2
    first|(simp_all;done)|(simp_all;omega)|grind
   skip
   refine Qu ?_
   refine QaX ?_;intro c23 h23
   refine Qp ?_
   refine Yf V ?_ by4 by2
   first|(simp_all;done)|(simp_all;omega)|grind
  intro c24 h24
  refine Qc ?_
  obtain ⟨rfl,g24⟩|⟨rfl,g24⟩:=Za h24
  ·refine QH ?_
   obtain ⟨B0,hB0,hB0l⟩:∃ B0,Cb.rns (bs.take i) []=B0∧B0=(if k=7 then Cb.rns bs [] else []):=by
    refine ⟨_,V,?_⟩
    by_cases h7:k=7
    ·rw [if_pos h7,List.take_of_length_le (Nat.le_of_not_lt fun q=>g24 ⟨q,h7⟩)]
    rw [if_neg h7,hk7.resolve_left h7,List.take_zero,Cb.rns]
   rw [hB0]
   clear hB0
   refine Qm ?_
   refine QP ?_
   refine Qx ?_
   refine Zy (σ:=Nat) (fun zz=>match zz with|j=>[(1,.cptr (Co.mk k s n ⟨tk,tS,tn,tl⟩ ts ks al bs).cells),(3,.seq 1 (strs B0)),(5,.seq 1 (strs (Co.rns (ks.take j) []))),(6,.val (.int .i64 j))]) (fun zz=>match zz with|j=>[]) (fun zz=>match zz with|j=>j≤ks.length) (fun zz=>match zz with|j=>ks.length - j) (0) ?_ ?_ ?_ ?_
   ·exact Nat.zero_le _
   ·exact (by repeat' (first|exact SLe.nil _|refine SLe.cons V ?_ ?_|exact Ye _|exact Le.own _ _ _|exact Le.nil _|(refine Yg ?_;(rw [List.take_zero,Co.rns];exact Le.nil _))|(refine Le.own_seq ?_;(rw [List.take_zero,Co.rns];exact Le.nil _))|(refine Le.seq_eq ?_;(rw [List.take_zero,Co.rns];exact Le.nil _))))
   ·exact by2
   rintro j hI
   try dsimp only [List.cons_append,List.nil_append] at hI ⊢
   have hj:=hI
   refine Qaf ?_
   refine Qah ?_;intro n39
   refine Qi ?_;intro c40 h40
   refine Qb ?_
   obtain ⟨rfl,g40⟩|⟨rfl,g40⟩:=Za h40
   ·refine QH ?_
    refine Qe ?_
    rw [List.take_of_length_le (l:=ks) by7]
    have hrk:=Co.rns_len ks []
    have hrb:=Cb.rns_len bs []
    rw [List.length_nil] at hrk hrb
    have hB0len:B0.length≤Cb.ws bs:=by
     rw [hB0l]
     split
     ·omega
     simp
    generalize hK0:Co.rns ks []=K0 at *
    refine Qm ?_
    refine Qk ?_
    refine Qz ?_;intro c53 h53
    refine Qb ?_
    refine c_join (σ:=List Txt) (fun zz=>match zz with|K1=>[(1,.cptr (Co.mk k s n ⟨tk,tS,tn,tl⟩ ts ks al bs).cells),(3,.seq 1 (strs B0)),(5,.seq 1 (strs K1))]) (fun zz=>match zz with|K1=>[]) (fun zz=>match zz with|K1=>(k=6→K1=wo K0 [s])∧(k≠6→K1=K0)∧K1.length≤Co.ws ks) ?_ ?_
    ·skip
     obtain ⟨rfl,g53⟩|⟨rfl,g53⟩:=Za h53
     ·refine Qw ?_
      refine go_lp ?_
      first
      | exact ⟨wo K0 [s],⟨fun _=>rfl,fun q=>absurd g53 q,by omega⟩,by3,by2⟩
      | exact ⟨K0,⟨fun q=>absurd q g53,fun _=>rfl,by omega⟩,by3,by2⟩
     refine Qf ?_
     have HW:=(Without_c K0 [s] by7).pure
     have hwl:=wo_len K0 [s]
     refine Qae ?_
     refine Zb 57 V V V (Zk (xs:=[.tmp 56]) el_30 V V V V V V (Yh V) (Zb 58 V V V (Zi (xs:=[.tmp 54,.tmp 57]) V V (HW) by1 ?_)))
     refine QV ?_
     first
     | exact ⟨wo K0 [s],⟨fun _=>rfl,fun q=>absurd g53 q,by omega⟩,by3,by2⟩
     | exact ⟨K0,⟨fun q=>absurd q g53,fun _=>rfl,by omega⟩,by3,by2⟩
    rintro K1 hI
    try dsimp only [List.cons_append,List.nil_append] at hI ⊢
    obtain ⟨hK1,hK2,hK1l⟩:=hI
    refine Qc ?_
    refine Qe ?_
    refine QY ?_
    refine Qz ?_;intro c61 h61
    refine Qb ?_
    refine c_join (σ:=List Txt × List Txt) (fun zz=>match zz with|(B2,K2)=>[(1,.cptr (Co.mk k s n ⟨tk,tS,tn,tl⟩ ts ks al bs).cells),(3,.seq 1 (strs B2)),(5,.seq 1 (strs K2))]) (fun zz=>match zz with|(B2,K2)=>[]) (fun zz=>match zz with|(B2,K2)=>(k=7→K2=wo K1 (Cb.names bs)∧B2=if n=1 then wo B0 (Cb.names bs) else B0)∧(k≠7→K2=K1∧B2=B0)∧K2.length≤Co.ws ks∧B2.length≤Cb.ws bs) ?_ ?_
    ·skip
     obtain ⟨rfl,g61⟩|⟨rfl,g61⟩:=Za h61
     ·refine Qw ?_
      refine go_lp ?_
      first
      | exact ⟨(wo B0 (Cb.names bs),wo K1 (Cb.names bs)),⟨fun _=>⟨rfl,by rw [if_pos g69]⟩,fun q=>absurd g61 q,by show (wo K1 (Cb.names bs)).length≤_;omega,by show (wo B0 (Cb.names bs)).length≤_;omega⟩,by3,by2⟩
      | exact ⟨(B0,wo K1 (Cb.names bs)),⟨fun _=>⟨rfl,by rw [if_neg g69]⟩,fun q=>absurd g61 q,by show (wo K1 (Cb.names bs)).length≤_;omega,hB0len⟩,by3,by2⟩
      | exact ⟨(B0,K1),⟨fun q=>absurd q g61,fun _=>⟨rfl,rfl⟩,hK1l,hB0len⟩,by3,by2⟩
     refine Qf ?_
     refine Qe ?_
     have HW1:=(Without_c K1 (Cb.names bs) by7).pure
     have HW2:=(Without_c B0 (Cb.names bs) by7).pure
     have hwl1:=wo_len K1 (Cb.names bs)
     have hwl2:=wo_len B0 (Cb.names bs)
     refine Qae ?_
     refine Zb 65 V V V (Zi (xs:=[.tmp 64]) V V (HB) by1 ?_)
     refine Zb 66 V V V (Zi (xs:=[.tmp 62,.tmp 65]) V V (HW1) by1 ?_)
     refine Qh ?_
     refine QY ?_
     refine Qz ?_;intro c69 h69
     refine Qb ?_
     obtain ⟨rfl,g69⟩|⟨rfl,g69⟩:=Za h69
     ·refine Qw ?_
      refine go_lp ?_
      first
      | exact ⟨(wo B0 (Cb.names bs),wo K1 (Cb.names bs)),⟨fun _=>⟨rfl,by rw [if_pos g69]⟩,fun q=>absurd g61 q,by show (wo K1 (Cb.names bs)).length≤_;omega,by show (wo B0 (Cb.names bs)).length≤_;omega⟩,by3,by2⟩
      | exact ⟨(B0,wo K1 (Cb.names bs)),⟨fun _=>⟨rfl,by rw [if_neg g69]⟩,fun q=>absurd g61 q,by show (wo K1 (Cb.names bs)).length≤_;omega,hB0len⟩,by3,by2⟩
      | exact ⟨(B0,K1),⟨fun q=>absurd q g61,fun _=>⟨rfl,rfl⟩,hK1l,hB0len⟩,by3,by2⟩
     refine Qf ?_
     refine Qae ?_
     refine Zb 73 V V V (Zi (xs:=[.tmp 72]) V V (HB) by1 ?_)
     refine Zb 74 V V V (Zi (xs:=[.tmp 70,.tmp 73]) V V (HW2) by1 ?_)
     refine QV ?_
     first
     | exact ⟨(wo B0 (Cb.names bs),wo K1 (Cb.names bs)),⟨fun _=>⟨rfl,by rw [if_pos g69]⟩,fun q=>absurd g61 q,by show (wo K1 (Cb.names bs)).length≤_;omega,by show (wo B0 (Cb.names bs)).length≤_;omega⟩,by3,by2⟩
     | exact ⟨(B0,wo K1 (Cb.names bs)),⟨fun _=>⟨rfl,by rw [if_neg g69]⟩,fun q=>absurd g61 q,by show (wo K1 (Cb.names bs)).length≤_;omega,hB0len⟩,by3,by2⟩
     | exact ⟨(B0,K1),⟨fun q=>absurd q g61,fun _=>⟨rfl,rfl⟩,hK1l,hB0len⟩,by3,by2⟩
    rintro ⟨B2,K2⟩ hI
    try dsimp only [List.cons_append,List.nil_append] at hI ⊢
    obtain ⟨h27,h2n,hK2l,hB2l⟩:=hI
    refine Qc ?_
    refine Qe ?_
    have HJ:=(Join_c B2 K2 by7).pure
    have hjl:=jn_len B2 K2
    have hWJ:Ca.rns al (jn B2 K2)=W:=by
     rw [if_neg g11] at hW
     rw [← hW]
     congr 1
     by_cases h6:k=6
     ·have e7:k≠7:=by omega
      rw [(h2n e7).1,(h2n e7).2,hK1 h6,if_pos h6,hB0l,if_neg e7,if_neg e7]
     by_cases h7:k=7
     ·rw [(h27 h7).1,(h27 h7).2,hK2 h6,if_neg h6,if_pos h7,hB0l,if_pos h7,if_pos h7]
     rw [(h2n h7).1,(h2n h7).2,hK2 h6,if_neg h6,if_neg h7,hB0l,if_neg h7,if_neg h7]
    clear h27 h2n hK1 hK2
    generalize jn B2 K2=X at *
    refine QF ?_
    refine Zb 77 V V V (Zi (xs:=[.tmp 75,.tmp 76]) V V (HJ) by1 ?_)
    refine QP ?_
    refine Qx ?_
    refine Zy (σ:=Nat) (fun zz=>match zz with|z=>[(1,.cptr (Co.mk k s n ⟨tk,tS,tn,tl⟩ ts ks al bs).cells),(7,.seq 1 (strs (Ca.rns (al.take z) X))),(8,.val (.int .i64 z))]) (fun zz=>match zz with|z=>[]) (fun zz=>match zz with|z=>z≤al.length) (fun zz=>match zz with|z=>al.length - z) (0) ?_ ?_ ?_ ?_
    ·exact Nat.zero_le _
    ·exact (by repeat' (first|exact SLe.nil _|refine SLe.cons V ?_ ?_|exact Ye _|exact Le.own _ _ _|exact Le.nil _|(refine Yg ?_;(rw [List.take_zero,Ca.rns];exact Ye _))|(refine Le.own_seq ?_;(rw [List.take_zero,Ca.rns];exact Ye _))|(refine Le.seq_eq ?_;(rw [List.take_zero,Ca.rns];exact Ye _))))
    ·exact by2
    rintro z hI
    try dsimp only [List.cons_append,List.nil_append] at hI ⊢
    have hz:=hI
    refine Qaf ?_
    refine Qa4 ?_;intro n81
    refine Qi ?_;intro c82 h82
    refine Qb ?_
    obtain ⟨rfl,g82⟩|⟨rfl,g82⟩:=Za h82
    ·refine QH ?_
     rw [List.take_of_length_le (l:=al) by7,hWJ]
     refine Qt ?_
     refine QG ?_
     exact Zg V V (Ye _) (MLe.none _) ⟨V,V⟩
    refine QU ?_
    obtain ⟨x,hx⟩:=Ze (l:=al) (i:=z) by7
    have hcx:=Ca.cellss_get hx
    have hwx:=Ca.ws_at hx
    have hxw:x.w=x.q.size+x.e.w:=by cases x;rw [Ca.w,Ca.e,Ca.q]
    have H1:=IHa x (Yi hx) by7
    have h2:=Ca.rns_len (al.take z) X
    have h3:=Co.rn_len x.e
    have H3:=(rNames_c x.q by7).pure
    have H4:=(Without_c x.e.rn x.q.names by7).pure
    have h5:=wo_len x.e.rn x.q.names
    have H2:=(Join_c (Ca.rns (al.take z) X) (wo x.e.rn x.q.names) by7).pure
    have htk:=Ca.rns_take (out:=X) hx
    rw [Ca.rn_e] at htk
    rw [← htk] at H2
    obtain ⟨⟨zk,zs,zn,zks,zp⟩,⟨xk,xs,xn,⟨xtk,xtS,xtn,xtl⟩,xts,xks,xal,xbs⟩⟩:=x
    simp only [Ca.e,Ca.q] at H1 H2 H3 H4
    generalize (Co.mk xk xs xn ⟨xtk,xtS,xtn,xtl⟩ xts xks xal xbs).rn=xr at *
    generalize (Pa.mk zk zs zn zks zp).names=pn at *
    refine Qau ?_
    refine QD ?_
    refine QT ?_
    refine Qbz ?_
    refine QM ?_
    refine QaA ?_
    refine Zl 92 V V (Zi (xs:=[.tmp 91]) V V (H1) by1 ⟨V,V⟩) ?_
    refine QT ?_
    refine Qbz ?_
    refine QM ?_
    refine QaR ?_
    refine Zl 99 V V (Zi (xs:=[.tmp 98]) V V (H3) by1 ⟨V,V⟩) ?_
    refine Zl 100 V V (Zi (xs:=[.tmp 92,.tmp 99]) V V (H4) by1 ⟨V,V⟩) ?_
    refine Zl 101 V V (Zi (xs:=[.tmp 85,.tmp 100]) V V (H2) by1 ⟨V,V⟩) ?_
    refine QaT ?_
    show AGo _ _ _ _ _ _ _
    refine Qaj ?_
    refine Qt ?_
    refine QJ ?_
    refine QV ?_
    exact ⟨z+1,by show z+1≤al.length;omega,by show al.length - (z+1)<al.length - z;omega,by3,by2⟩
   refine QU ?_
   obtain ⟨x,hx⟩:=Ze (l:=ks) (i:=j) by7
   have hcx:=Co.cellss_get hx
   have hwx:=Co.ws_at hx
   have H1:=IHk x (Yi hx) by7
   have h2:=Co.rns_len (ks.take j) []
   have h3:=Co.rn_len x
   rw [List.length_nil] at h2
   have H2:=(Join_c (Co.rns (ks.take j) []) x.rn by7).pure
   have htk:=Co.rns_take (out:=[]) hx
   rw [← htk] at H2
   obtain ⟨xk,xs,xn,⟨xtk,xtS,xtn,xtl⟩,xts,xks,xal,xbs⟩:=x
   generalize (Co.mk xk xs xn ⟨xtk,xtS,xtn,xtl⟩ xts xks xal xbs).rn=xr at *
   refine Qae ?_
   refine Qa ?_
   refine Qbb ?_
   refine QA ?_
   refine Zb 49 V V V (Zi (xs:=[.tmp 48]) V V (H1) by1 ?_)
   refine Zb 50 V V V (Zi (xs:=[.tmp 43,.tmp 49]) V V (H2) by1 ?_)
   refine Q3 ?_
   exact ⟨j+1,by show j+1≤ks.length;omega,by show ks.length - (j+1)<ks.length - j;omega,by3,by2⟩
  refine QU ?_
  obtain ⟨hi1,h7⟩:=g24
  obtain ⟨x,hx⟩:=Ze (l:=bs) (i:=i) hi1
  have hcx:=Cb.cellss_get hx
  have hwx:=Cb.ws_at hx
  have hxw:x.w=x.e.w:=by cases x;rw [Cb.w,Cb.e]
  have H1:=IHb x (Yi hx) by7
  have h2:=Cb.rns_len (bs.take i) []
  have h3:=Co.rn_len x.e
  rw [List.length_nil] at h2
  have H2:=(Join_c (Cb.rns (bs.take i) []) x.e.rn by7).pure
  have htk:=Cb.rns_take (out:=[]) hx
  rw [Cb.rn_e] at htk
  rw [← htk] at H2
  obtain ⟨xb,xvs,⟨xwk,xwS,xwn,xwl⟩,⟨xk,xs,xn,⟨xtk,xtS,xtn,xtl⟩,xts,xks,xal,xbs⟩⟩:=x
  simp only [Cb.e] at H1 H2
  generalize (Co.mk xk xs xn ⟨xtk,xtS,xtn,xtl⟩ xts xks xal xbs).rn=xr at *
  refine Qae ?_
  refine Qa ?_
  refine Qa1 ?_
  refine QaC ?_
  refine QA ?_
  refine Zb 34 V V V (Zi (xs:=[.tmp 33]) V V (H1) by1 ?_)
  refine Zb 35 V V V (Zi (xs:=[.tmp 27,.tmp 34]) V V (H2) by1 ?_)
  refine Q3 ?_
  exact ⟨i+1,⟨by show i+1≤bs.length;omega,.inl h7⟩,by show bs.length - (i+1)<bs.length - i;omega,by3,by2⟩
 refine Qf ?_
 refine QY ?_
 refine Zb 14 V V V (Zk (xs:=[.tmp 13]) el_30 V V V V V V (Yh V) ?_)
 refine QG ?_
 rw [if_pos g11] at hW
 subst hW
 exact Zg V V (Ye _) (MLe.none _) ⟨V,V⟩
termination_by SizeOf.sizeOf e
decreasing_by
 ·exact Co.lt_kid hx
 ·exact Nat.lt_trans (Cb.lt_e x) (Co.lt_bind hx)
 exact Nat.lt_trans (Ca.lt_e x) (Co.lt_alt hx)
section
variable {P:Program} {n:Nat} {al:Sl} {M:Mem} {o:Oper} {K:AV→Mem→Prop}
end
section
variable {P:Program} {al:Sl} {M:Mem} {K:AV→Mem→Prop} {o:Oper}
end
section
variable {P:Program} {al:Sl} {M:Mem} {K:AV→Mem→Prop} {o:Oper}
theorem Le.nilOwn (m:Nat):Le (.val (.slice none 0 0)) (.own (.slice none 0 0) m []):=fun F u h=>by
 cases h;exact .own _ (.seq0 m none 0 (fun _=>rfl))
end
theorem bz_len {p:Prop} [Decidable p] {bs:List Cb} {f:Sg}:(if p then Cb.sos bs f else bs).length=bs.length:=by
 split
 ·rw [Cb.sos_map,List.length_map]
 rfl
theorem bz_get {p:Prop} [Decidable p] {bs:List Cb} {f:Sg} {i:Nat} {x:Cb} (h:bs[i]?=some x):(if p then Cb.sos bs f else bs)[i]?=some (.mk x.s x.vs x.t (if p then x.e.so f else x.e)):=by
 split
 ·rw [Cb.sos_map,List.getElem?_map,h];cases x;simp [Cb.so,Cb.s,Cb.vs,Cb.t,Cb.e]
 rw [h];cases x;rfl
theorem kz_get {ks:List Co} {f:Sg} {i:Nat} {x:Co} (h:ks[i]?=some x):(Co.sos ks f)[i]?=some (x.so f):=by rw [Co.sos_map,List.getElem?_map,h];rfl
theorem az_get {al:List Ca} {f:Sg} {i:Nat} {x:Ca} (h:al[i]?=some x):(Ca.sos al f)[i]?=some (.mk x.q (x.e.so (lessO f x.q.names))):=by rw [Ca.sos_map,List.getElem?_map,h];cases x;simp [Ca.so,Ca.q,Ca.e]
abbrev swC (k:Int) (s:Txt) (n tk:Int) (tS:Txt) (tn:Int) (tl ts:List Ty) (K A B:AV):List AV:=[.val (.int .i64 k),.val (.string s),.val (.int .i64 n),.val (.int .i64 tk),.val (.string tS),.val (.int .i64 tn),.seq 4 (Ty.cellss tl),.seq 4 (Ty.cellss ts),K,A,B]
theorem sw_les {k:Int} {s:Txt} {n tk:Int} {tS:Txt} {tn:Int} {tl ts:List Ty} {K A B K' A' B':AV} (h1:Le K K') (h2:Le A A') (h3:Le B B'):Les (swC k s n tk tS tn tl ts K A B) (swC k s n tk tS tn tl ts K' A' B') :=
 Les.cons (Ye _) (Les.cons (Ye _) (Les.cons (Ye _) (Les.cons (Ye _) (Les.cons (Ye _) (Les.cons (Ye _) (Les.cons (Ye _) (Les.cons (Ye _) (Les.cons h1 (Les.cons h2 (Les.cons h3 (Les.refl _)))))))))))
abbrev zC25b:List AV:=[.val (.int .i64 0),.val (.string ⟨#[]⟩),.val (.int .i64 0),.val (.int .i64 0),.val (.string ⟨#[]⟩),.val (.int .i64 0),.val (.slice none 0 0),.val (.slice none 0 0),.val (.slice none 0 0),.val (.slice none 0 0),.val (.slice none 0 0)]
set_option maxHeartbeats 8000000 in
theorem rSwap25_c (e:Co):∀ (names:List Txt) (rr:List Co),names.length≤1000000000→e.w≤1000000000→PCall Tryz.prog 12 [.seq 1 (strs names),.seq 11 (Co.cellss rr),.agg e.cells] (.agg (e.so (lkC names rr)).cells):=by
 obtain ⟨k,s,n,⟨tk,tS,tn,tl⟩,ts,ks,al,bs⟩:=e
 intro names rr hnl hw
 rw [Co.w] at hw
 have IHk:∀ x∈ks,∀ (names:List Txt) (rr:List Co),names.length≤1000000000→x.w≤1000000000→PCall Tryz.prog 12 [.seq 1 (strs names),.seq 11 (Co.cellss rr),.agg x.cells] (.agg (x.so (lkC names rr)).cells):=fun x hx=>rSwap25_c x
 have IHb:∀ x∈bs,∀ (names:List Txt) (rr:List Co),names.length≤1000000000→x.e.w≤1000000000→PCall Tryz.prog 12 [.seq 1 (strs names),.seq 11 (Co.cellss rr),.agg x.e.cells] (.agg (x.e.so (lkC names rr)).cells):=fun x hx=>rSwap25_c x.e
 have IHa:∀ x∈al,∀ (names:List Txt) (rr:List Co),names.length≤1000000000→x.e.w≤1000000000→PCall Tryz.prog 12 [.seq 1 (strs names),.seq 11 (Co.cellss rr),.agg x.e.cells] (.agg (x.e.so (lkC names rr)).cells):=fun x hx=>rSwap25_c x.e
 have hbl:=Cb.ws_len bs
 have hkl:=Co.ws_len ks
 have hal:=Ca.ws_len al
 have hl1:=Cb.cellss_len bs
 have hl2:=Ca.cellss_len al
 have hl3:=Co.cellss_len ks
 have hlr:=Co.cellss_len rr
 have hls:=Zm names
 have HB:=Bound25_c bs by7
 obtain ⟨W,hW⟩:∃ W,(Co.mk k s n ⟨tk,tS,tn,tl⟩ ts ks al bs).so (lkC names rr)=W:=⟨_,rfl⟩
 rw [hW]
 rw [Co.so] at hW
 refine Zd Tryz.func12 V (by kernel_rfl) V (Yh V) ?_
 refine Ql ?_
 refine c_lens (t:=0) V (.seq _ _) (fun hmx0=>?_)
 refine c_lens (t:=1) V (.seq _ _) (fun hmx1=>?_)
 refine c_lena (t:=2) (j:=8) V V (.seq _ _) (fun hmax=>?_)
 refine c_lena (t:=2) (j:=9) V V (.seq _ _) (fun hmax2=>?_)
 refine c_lena (t:=2) (j:=10) V V (.seq _ _) (fun hmax3=>?_)
 refine Qd ?_
 refine Q0 ?_
 refine Qai ?_;intro b6
 refine QR ?_
 refine QY ?_
 refine Qz ?_;intro c24 h24
 refine Qb ?_
 obtain ⟨rfl,g24⟩|⟨rfl,g24⟩:=Za h24
 ·refine Qw ?_
  refine Qc ?_
  refine Qg ?_
  refine Qaa ?_
  refine Qah ?_;intro n49
  refine Qh ?_
  refine c_block (ACode.ownNil (t:=8) 9 1 V ?_)
  refine Zy (σ:=Nat × List Txt × Value) (fun zz=>match zz with|(i,g,u)=>[(0,.seq 1 (strs names)),(1,.seq 11 (Co.cellss rr)),(5,.cptr (Co.mk k s n ⟨tk,tS,tn,tl⟩ ts ks al bs).cells),(6,.ptr b6 0),(8,.own u 1 (strs g)),(9,.val (.int .i64 i))]) (fun zz=>match zz with|(i,g,u)=>[.own 9 1 u,.loc b6 zC25b]) (fun zz=>match zz with|(i,g,u)=>rr.length≤i∧(i≤names.length∨i=rr.length)∧(∀ x∈g,x∉names.take rr.length)∧g.length+rr.length≤i) (fun zz=>match zz with|(i,g,u)=>names.length - i) (((Co.cellss rr).length,[],.slice none 0 0)) ?_ ?_ ?_ ?_
  ·exact ⟨by rw [hlr];exact Nat.le_refl _,.inr hlr,by simp,by rw [hlr];simp⟩
  ·exact by3
  ·exact by2
  rintro ⟨i,g,u⟩ hI
  try dsimp only [List.cons_append,List.nil_append] at hI ⊢
  obtain ⟨hi,hi2,hgo,hgl⟩:=hI
  have hsg:=Zm g
  refine Qak ?_
  refine Q6 ?_;intro n52
  refine Qi ?_;intro c53 h53
  refine Qb ?_
  obtain ⟨rfl,g53⟩|⟨rfl,g53⟩:=Za h53
  ·refine QH ?_
   have HL:=less25_c names rr g by7
   have hf1:=less25_eq g names rr
   rw [lkC_gone hgo] at hf1
   have hln1:=(less25_len g names rr [] [] rfl).2
   rw [List.length_nil,Nat.zero_add] at hln1
   generalize (less25 g names rr [] []).1=n1 at *
   generalize (less25 g names rr [] []).2=a1 at *
   rw [if_neg g24,← hf1] at hW
   clear hf1
   refine QX ?_
   refine Zb 77 V V V (Zi (xs:=[.tmp 74,.tmp 75,.tmp 76]) V V (HL) by1 ?_)
   refine Qa ?_
   refine Qaw ?_
   refine Qaw ?_
   refine Q5 ?_
   refine Qh ?_
   refine QY ?_
   refine Qk ?_
   refine Qk ?_
   refine QaC ?_
   refine QaU ?_
   refine Qk ?_
   refine Zb 90 V V V (op_build (ns:=[0,1,2,3,4]) (xs:=[.tmp 81,.tmp 83,.tmp 85,.tmp 87,.tmp 89]) (cs':=[_,_,_,_,_,_,_,_,_,_,_]) V tz_29 V tfl_29 V V V V ?_)
   refine Qai ?_;intro b12
   refine Qay ?_
   refine Qb ?_
   refine QC ?_
   refine Qa ?_
   refine Q5 ?_
   refine QP ?_
   refine QY ?_
   refine Qz ?_;intro c95 h95
   refine Qb ?_
   refine c_join (σ:=List Txt × List Co) (fun zz=>match zz with|(n2,a2)=>[(5,.cptr (Co.mk k s n ⟨tk,tS,tn,tl⟩ ts ks al bs).cells),(6,.ptr b6 0),(10,.seq 1 (strs n1)),(11,.seq 11 (Co.cellss a1)),(12,.ptr b12 0),(13,.seq 1 (strs n2)),(14,.seq 11 (Co.cellss a2))]) (fun zz=>match zz with|(n2,a2)=>[.loc b12 (swC k s n tk tS tn tl ts (.val (.slice none 0 0)) (.val (.slice none 0 0)) (.val (.slice none 0 0))),.loc b6 zC25b]) (fun zz=>match zz with|(n2,a2)=>(k=6→lkC n2 a2=lessO (lkC n1 a1) [s])∧(k≠6→n2=n1∧a2=a1)∧n2.length≤names.length) ?_ ?_
   ·skip
    obtain ⟨rfl,g95⟩|⟨rfl,g95⟩:=Za h95
    ·refine Qw ?_
     refine go_lp ?_
     first
     | exact ⟨(n6,a6),⟨fun _=>hf6,fun q=>absurd g95 q,by show n6.length≤_;omega⟩,by3,by2⟩
     | exact ⟨(n1,a1),⟨fun q=>absurd q g95,fun _=>⟨rfl,rfl⟩,hln1⟩,by3,by2⟩
    refine Qf ?_
    have HL6:=less25_c n1 a1 [s] by7
    have hf6:=less25_eq [s] n1 a1
    have hln6:=(less25_len [s] n1 a1 [] [] rfl).2
    rw [List.length_nil,Nat.zero_add] at hln6
    generalize (less25 [s] n1 a1 [] []).1=n6 at *
    generalize (less25 [s] n1 a1 [] []).2=a6 at *
    refine QF ?_
    refine Qk ?_
    refine Zb 101 V V V (Zk (xs:=[.tmp 100]) el_30 V V V V V V (Yh V) (Zb 102 V V V (Zi (xs:=[.tmp 97,.tmp 98,.tmp 101]) V V (HL6) by1 ?_)))
    refine Qa ?_
    refine Qaw ?_
    refine Qaw ?_
    refine Q5 ?_
    refine QV ?_
    first
    | exact ⟨(n6,a6),⟨fun _=>hf6,fun q=>absurd g95 q,by show n6.length≤_;omega⟩,by3,by2⟩
    | exact ⟨(n1,a1),⟨fun q=>absurd q g95,fun _=>⟨rfl,rfl⟩,hln1⟩,by3,by2⟩
   rintro ⟨n2,a2⟩ hI
   try dsimp only [List.cons_append,List.nil_append] at hI ⊢
   obtain ⟨h26,h2n,hl2n⟩:=hI
   refine Qc ?_
   refine Qe ?_
   refine QY ?_
   refine Qz ?_;intro c107 h107
   refine Qb ?_
   refine c_join (σ:=List Txt × List Co) (fun zz=>match zz with|(n3,a3)=>[(5,.cptr (Co.mk k s n ⟨tk,tS,tn,tl⟩ ts ks al bs).cells),(6,.ptr b6 0),(10,.seq 1 (strs n1)),(11,.seq 11 (Co.cellss a1)),(12,.ptr b12 0),(13,.seq 1 (strs n3)),(14,.seq 11 (Co.cellss a3))]) (fun zz=>match zz with|(n3,a3)=>[.loc b12 (swC k s n tk tS tn tl ts (.val (.slice none 0 0)) (.val (.slice none 0 0)) (.val (.slice none 0 0))),.loc b6 zC25b]) (fun zz=>match zz with|(n3,a3)=>lkC n3 a3=(if k=6 then lessO (lkC n1 a1) [s] else if k=7 then lessO (lkC n1 a1) (Cb.names bs) else lkC n1 a1)∧n3.length≤names.length) ?_ ?_
   ·skip
    obtain ⟨rfl,g107⟩|⟨rfl,g107⟩:=Za h107
    ·refine Qw ?_
     refine go_lp ?_
     first
     | exact ⟨(n7,a7),⟨by show lkC n7 a7=_;rw [if_neg (show ¬ k=6 by omega),if_pos g107];exact hf7,by show n7.length≤_;omega⟩,by3,by2⟩
     | exact ⟨(n2,a2),⟨by
         show lkC n2 a2=_
         by_cases h6:k=6
         ·rw [if_pos h6];exact h26 h6
         rw [if_neg h6,if_neg g107,(h2n h6).1,(h2n h6).2],hl2n⟩,by3,by2⟩
    refine Qf ?_
    have HL7:=less25_c n1 a1 (Cb.names bs) by7
    have hf7:=less25_eq (Cb.names bs) n1 a1
    have hln7:=(less25_len (Cb.names bs) n1 a1 [] [] rfl).2
    rw [List.length_nil,Nat.zero_add] at hln7
    generalize (less25 (Cb.names bs) n1 a1 [] []).1=n7 at *
    generalize (less25 (Cb.names bs) n1 a1 [] []).2=a7 at *
    refine QF ?_
    refine Qk ?_
    refine Zb 113 V V V (Zi (xs:=[.tmp 112]) V V (HB) by1 ?_)
    refine Zb 114 V V V (Zi (xs:=[.tmp 109,.tmp 110,.tmp 113]) V V (HL7) by1 ?_)
    refine Qa ?_
    refine Qaw ?_
    refine Qaw ?_
    refine Q5 ?_
    refine QV ?_
    first
    | exact ⟨(n7,a7),⟨by show lkC n7 a7=_;rw [if_neg (show ¬ k=6 by omega),if_pos g107];exact hf7,by show n7.length≤_;omega⟩,by3,by2⟩
    | exact ⟨(n2,a2),⟨by
        show lkC n2 a2=_
        by_cases h6:k=6
        ·rw [if_pos h6];exact h26 h6
        rw [if_neg h6,if_neg g107,(h2n h6).1,(h2n h6).2],hl2n⟩,by3,by2⟩
   rintro ⟨n3,a3⟩ hI
   try dsimp only [List.cons_append,List.nil_append] at hI ⊢
   obtain ⟨h3,hl3n⟩:=hI
   rw [← h3] at hW
   refine Qc ?_
   refine Qe ?_
   refine Qx ?_
   clear h26 h2n
   obtain ⟨B,hB⟩:∃ B,(if k=7 then Cb.sos bs (if n=1 then lessO (lkC n1 a1) (Cb.names bs) else lkC n1 a1) else bs)=B:=⟨_,rfl⟩
   rw [hB] at hW
   have hBl:B.length=bs.length:=by rw [← hB];exact bz_len
   have hBg:=fun i x (h:bs[i]?=some x)=>bz_get (p:=k=7) (f:=if n=1 then lessO (lkC n1 a1) (Cb.names bs) else lkC n1 a1) h
   rw [hB] at hBg
   clear hB
   refine c_ownA 53 17 (c_le (SLe.refl _) (MLe.cons _ (MLe.loc _ (sw_les (Ye _) (Ye _) (Le.nilOwn 17)) (Yd _))) ?_)
   refine Zy (σ:=Nat × Value) (fun zz=>match zz with|(i,u)=>[(5,.cptr (Co.mk k s n ⟨tk,tS,tn,tl⟩ ts ks al bs).cells),(6,.ptr b6 0),(10,.seq 1 (strs n1)),(11,.seq 11 (Co.cellss a1)),(12,.ptr b12 0),(13,.seq 1 (strs n3)),(14,.seq 11 (Co.cellss a3)),(15,.val (.int .i64 i))]) (fun zz=>match zz with|(i,u)=>[.own 53 17 u,.loc b12 (swC k s n tk tS tn tl ts (.val (.slice none 0 0)) (.val (.slice none 0 0)) (.own u 17 (Cb.cellss (B.take i)))),.loc b6 zC25b]) (fun zz=>match zz with|(i,u)=>i≤bs.length) (fun zz=>match zz with|(i,u)=>bs.length - i) ((0,.slice none 0 0)) ?_ ?_ ?_ ?_
   ·exact Nat.zero_le _
   ·exact by3
   ·exact MLe.of_eq (by show _=[Res.own 53 17 (.slice none 0 0),.loc b12 (swC k s n tk tS tn tl ts (.val (.slice none 0 0)) (.val (.slice none 0 0)) (.own (.slice none 0 0) 17 (Cb.cellss (B.take 0)))),.loc b6 zC25b];rw [List.take_zero];rfl)
   rintro ⟨i,u⟩ hI
   try dsimp only [List.cons_append,List.nil_append] at hI ⊢
   have hi:=hI
   refine Qaf ?_
   refine Qav ?_;intro n120
   refine Qi ?_;intro c121 h121
   refine Qb ?_
   obtain ⟨rfl,g121⟩|⟨rfl,g121⟩:=Za h121
   ·refine QH ?_
    refine Qe ?_
    rw [List.take_of_length_le (l:=B) by7]
    refine Qm ?_
    refine Qh ?_
    refine c_block (c_ownA 29 11 (c_le (SLe.refl _) (MLe.cons _ (MLe.cons _ (MLe.loc _ (sw_les (Le.nilOwn 11) (Ye _) (Ye _)) (Yd _)))) ?_))
    refine Zy (σ:=Nat × Value) (fun zz=>match zz with|(j,v)=>[(5,.cptr (Co.mk k s n ⟨tk,tS,tn,tl⟩ ts ks al bs).cells),(6,.ptr b6 0),(10,.seq 1 (strs n1)),(11,.seq 11 (Co.cellss a1)),(12,.ptr b12 0),(13,.seq 1 (strs n3)),(14,.seq 11 (Co.cellss a3)),(18,.val (.int .i64 j))]) (fun zz=>match zz with|(j,v)=>[.own 29 11 v,.own 53 17 u,.loc b12 (swC k s n tk tS tn tl ts (.own v 11 (Co.cellss ((Co.sos ks (lkC n3 a3)).take j))) (.val (.slice none 0 0)) (.own u 17 (Cb.cellss B))),.loc b6 zC25b]) (fun zz=>match zz with|(j,v)=>j≤ks.length) (fun zz=>match zz with|(j,v)=>ks.length - j) ((0,.slice none 0 0)) ?_ ?_ ?_ ?_
    ·exact Nat.zero_le _
    ·exact by3
    ·exact MLe.of_eq (by show _=[Res.own 29 11 (.slice none 0 0),.own 53 17 u,.loc b12 (swC k s n tk tS tn tl ts (.own (.slice none 0 0) 11 (Co.cellss ((Co.sos ks (lkC n3 a3)).take 0))) (.val (.slice none 0 0)) (.own u 17 (Cb.cellss B))),.loc b6 zC25b];rw [List.take_zero];rfl)
    rintro ⟨j,v⟩ hI
    try dsimp only [List.cons_append,List.nil_append] at hI ⊢
    have hj:=hI
    refine Qaf ?_
    refine Qah ?_;intro n168
    refine Qi ?_;intro c169 h169
    refine Qb ?_
    obtain ⟨rfl,g169⟩|⟨rfl,g169⟩:=Za h169
    ·refine QH ?_
     refine Qe ?_
     rw [List.take_of_length_le (l:=Co.sos ks (lkC n3 a3)) (by rw [Co.sos_map,List.length_map];omega)]
     refine Qm ?_
     refine Qh ?_
     refine c_block (c_ownA 66 16 (c_le (SLe.refl _) (MLe.cons _ (MLe.cons _ (MLe.cons _ (MLe.loc _ (sw_les (Ye _) (Le.nilOwn 16) (Ye _)) (Yd _))))) ?_))
     refine Zy (σ:=Nat × Value) (fun zz=>match zz with|(z,w)=>[(5,.cptr (Co.mk k s n ⟨tk,tS,tn,tl⟩ ts ks al bs).cells),(6,.ptr b6 0),(10,.seq 1 (strs n1)),(11,.seq 11 (Co.cellss a1)),(12,.ptr b12 0),(19,.val (.int .i64 z))]) (fun zz=>match zz with|(z,w)=>[.own 66 16 w,.own 29 11 v,.own 53 17 u,.loc b12 (swC k s n tk tS tn tl ts (.own v 11 (Co.cellss (Co.sos ks (lkC n3 a3)))) (.own w 16 (Ca.cellss ((Ca.sos al (lkC n1 a1)).take z))) (.own u 17 (Cb.cellss B))),.loc b6 zC25b]) (fun zz=>match zz with|(z,w)=>z≤al.length) (fun zz=>match zz with|(z,w)=>al.length - z) ((0,.slice none 0 0)) ?_ ?_ ?_ ?_
     ·exact Nat.zero_le _
     ·exact by3
     ·exact MLe.of_eq (by show _=[Res.own 66 16 (.slice none 0 0),.own 29 11 v,.own 53 17 u,.loc b12 (swC k s n tk tS tn tl ts (.own v 11 (Co.cellss (Co.sos ks (lkC n3 a3)))) (.own (.slice none 0 0) 16 (Ca.cellss ((Ca.sos al (lkC n1 a1)).take 0))) (.own u 17 (Cb.cellss B))),.loc b6 zC25b];rw [List.take_zero];rfl)
     rintro ⟨z,w⟩ hI
     try dsimp only [List.cons_append,List.nil_append] at hI ⊢
     have hz:=hI
     refine Qaf ?_
     refine Qa4 ?_;intro n188
     refine Qi ?_;intro c189 h189
     refine Qb ?_
     obtain ⟨rfl,g189⟩|⟨rfl,g189⟩:=Za h189
     ·refine QH ?_
      rw [List.take_of_length_le (l:=Ca.sos al (lkC n1 a1)) (by rw [Ca.sos_map,List.length_map];omega)]
      subst hW
      refine Qm ?_
      refine Zb 226 V V V (op_load_m (cs':=[_,_,_,_,_,_,_,_,_,_,_]) (i:=3) V ta_29 V V V V (AOps.st0 V V (Yc (cs':=[_,_,_,_,_,_,_,_,_,_,_]) (i:=4) V ts_29 V V V V V (Yh V) V ?_)))
      refine Qb ?_
      refine c_ret ?_
      exact out_cell (i:=4) V V V ta_29 V (Le.agg (sw_les (Le.own _ _ _) (Le.own _ _ _) (Le.own _ _ _))) (MLe.none _) ⟨V,V⟩
     refine Qq ?_
     obtain ⟨x,hx⟩:=Ze (l:=al) (i:=z) by7
     have hcx:=Ca.cellss_get hx
     have hwx:=Ca.ws_at hx
     have hxw:x.w=x.q.size+x.e.w:=by cases x;rw [Ca.w,Ca.e,Ca.q]
     have HN:=(rNames_c x.q by7).pure
     have hql:=Pa.names_len x.q
     have HL4:=less25_c n1 a1 x.q.names by7
     have hf4:=less25_eq x.q.names n1 a1
     have hln4:=(less25_len x.q.names n1 a1 [] [] rfl).2
     rw [List.length_nil,Nat.zero_add] at hln4
     generalize (less25 x.q.names n1 a1 [] []).1=n4 at *
     generalize (less25 x.q.names n1 a1 [] []).2=a4 at *
     have HS:=IHa x (Yi hx) n4 a4 by7 by7
     have hb:(Ca.cellss ((Ca.sos al (lkC n1 a1)).take z)).length≤1000000000:=by rw [Ca.cellss_len,List.length_take];omega
     have hE:Ca.cellss ((Ca.sos al (lkC n1 a1)).take (z+1))=Ca.cellss ((Ca.sos al (lkC n1 a1)).take z)++[(Ca.mk x.q (x.e.so (lessO (lkC n1 a1) x.q.names))).cells]:=by rw [take_snoc (az_get hx),Ca.cellss_app];rfl
     rw [hf4] at HS
     generalize x.e.so (lessO (lkC n1 a1) x.q.names)=y at *
     clear hf4
     obtain ⟨⟨zk,zs,zn,zks,zp⟩,⟨xk,xs,xn,⟨xtk,xtS,xtn,xtl⟩,xts,xks,xal,xbs⟩⟩:=x
     simp only [Ca.q,Ca.e] at HN HL4 HS hE
     generalize (Pa.mk zk zs zn zks zp).names=pn at *
     obtain ⟨yk,ys,yn,⟨ytk,ytS,ytn,ytl⟩,yts,yks,yal,ybs⟩:=y
     refine QF ?_
     refine Qk ?_
     refine Qa ?_
     refine Zb 198 V V V (Zn V te_26 V (.seq _ _) V V (hcx) ?_)
     refine QaC ?_
     refine QaM ?_
     refine Zb 201 V V V (Zi (xs:=[.tmp 200]) V V (HN) by1 ?_)
     refine Zb 202 V V V (Zi (xs:=[.tmp 193,.tmp 194,.tmp 201]) V V (HL4) by1 ?_)
     refine Qa ?_
     refine Qaw ?_
     refine Qaw ?_
     refine Q5 ?_
     refine Qh ?_
     refine c_drawnE [0,1,2,3,4,5,6,7,8,9,10,11,12,13,14,15,16,17,18,19,20,21] [19,21] [[],[0],[],[2],[],[2,3,4],[2,3,4,5],[2,3,4,5,6],[],[],[],[10],[],[10,11,12],[10,11,12,13],[10,11,12,13,14],[8,9,10,11,12,13,14,15],[2,3,4,5,6,7,8,9,10,11,12,13,14,15,16],[2,3,4,5,6,7,8,9,10,11,12,13,14,15,16,17],[0,1,2,3,4,5,6,7,8,9,10,11,12,13,14,15,16,17,18],[0,1,2,3,4,5,6,7,8,9,10,11,12,13,14,15,16,17,18,19],[0,1,2,3,4,5,6,7,8,9,10,11,12,13,14,15,16,17,18,19,20]] tmix V ?_
     refine QaN ?_
     refine EOps.d 206 (some 3) (i:=1) V V V V V (op_load_m1 (i:=0) V ta_26 V V V ⟨V,V⟩) ?_
     refine QaV ?_
     refine Qbh ?_
     refine QaB ?_
     refine QbA ?_
     refine QaV ?_
     refine EOps.d 212 (none) (i:=7) V V V V V (Zs (cs':=[_,_,_,_,_]) V ta_64 V V V ⟨V,V⟩) ?_
     refine QaB ?_
     refine QaB ?_
     refine QaV ?_
     refine Qbh ?_
     refine QaB ?_
     refine QbA ?_
     refine QaV ?_
     refine QbB ?_
     refine EOps.d 221 (none) (i:=16) V V V V V (Zi (xs:=[.tmp 213,.tmp 214,.tmp 220]) V V (HS) by1 ⟨V,V⟩) ?_
     refine EOps.d 222 (none) (i:=17) V V V V V (op_build (ns:=[0,1]) (xs:=[.tmp 212,.tmp 221]) (cs':=[_,_,_,_,_,_,_,_,_,_,_,_,_,_,_,_]) V tz_66 V tfl_66 V V V V ⟨V,V⟩) ?_
     refine EOps.d 223 (none) (i:=18) V V V V V (Zk (xs:=[.tmp 222]) el_26 V V V V V V (Yh V) ⟨V,V⟩) ?_
     refine EOps.w 0 (i:=19) V V V V V (Yb (i:=0) el_26 V V V V (.seq _ _) (by show (Ca.cellss ((Ca.sos al (lkC n1 a1)).take z)).length+1≤100000000000;omega) (fun u224=>⟨_,V,?_⟩))
     refine QaN ?_
     refine EOps.w 3 (i:=21) V V V V V (Yc (cs':=[_,_,_,_,_,_,_,_,_,_,_]) (i:=0) V ts_26 V V V V V (Yh V) V ⟨_,V,?_⟩)
     show AGo _ _ _ _ _ _ _
     refine Qaj ?_
     refine Qt ?_
     refine QJ ?_
     refine QV ?_
     exact ⟨(z+1,u224),by show z+1≤al.length;omega,by show al.length - (z+1)<al.length - z;omega,by3,MLe.cons _ (MLe.cons _ (MLe.cons _ (MLe.loc _ (sw_les (Ye _) (Yg hE.symm) (Ye _)) (Yd _))))⟩
    refine QU ?_
    obtain ⟨x,hx⟩:=Ze (l:=ks) (i:=j) by7
    have hcx:=Co.cellss_get hx
    have hwx:=Co.ws_at hx
    have HS:=IHk x (Yi hx) n3 a3 by7 by7
    have hb:(Co.cellss ((Co.sos ks (lkC n3 a3)).take j)).length≤1000000000:=by rw [Co.cellss_len,List.length_take];omega
    have hE:Co.cellss ((Co.sos ks (lkC n3 a3)).take (j+1))=Co.cellss ((Co.sos ks (lkC n3 a3)).take j)++[(x.so (lkC n3 a3)).cells]:=by rw [take_snoc (kz_get hx),Co.cellss_app];rfl
    generalize x.so (lkC n3 a3)=y at *
    obtain ⟨xk,xs,xn,⟨xtk,xtS,xtn,xtl⟩,xts,xks,xal,xbs⟩:=x
    obtain ⟨yk,ys,yn,⟨ytk,ytS,ytn,ytl⟩,yts,yks,yal,ybs⟩:=y
    refine c_drawnE [0,1,2,3,4,5,6,7,8,9,10,11,12,13] [11,13] [[],[0],[],[],[],[4],[],[4,5,6],[4,5,6,7],[2,3,4,5,6,7,8],[2,3,4,5,6,7,8,9],[0,1,2,3,4,5,6,7,8,9,10],[0,1,2,3,4,5,6,7,8,9,10,11],[0,1,2,3,4,5,6,7,8,9,10,11,12]] tmix V ?_
    refine QaN ?_
    refine EOps.d 173 (some 2) (i:=1) V V V V V (op_load_m1 (i:=0) V ta_25 V V V ⟨V,V⟩) ?_
    refine QaB ?_
    refine QaB ?_
    refine QaV ?_
    refine Qbh ?_
    refine QaB ?_
    refine EOps.d 179 (none) (i:=7) V V V V V (Zn V te_25 V (.seq _ _) V V (hcx) ⟨V,V⟩) ?_
    refine QbB ?_
    refine EOps.d 181 (none) (i:=9) V V V V V (Zi (xs:=[.tmp 174,.tmp 175,.tmp 180]) V V (HS) by1 ⟨V,V⟩) ?_
    refine EOps.d 182 (none) (i:=10) V V V V V (Zk (xs:=[.tmp 181]) el_25 V V V V V V (Yh V) ⟨V,V⟩) ?_
    refine EOps.w 0 (i:=11) V V V V V (Yb (i:=0) el_25 V V V V (.seq _ _) (by show (Co.cellss ((Co.sos ks (lkC n3 a3)).take j)).length+1≤100000000000;omega) (fun u183=>⟨_,V,?_⟩))
    refine QaN ?_
    refine EOps.w 2 (i:=13) V V V V V (Yc (cs':=[_,_,_,_,_,_,_,_,_,_,_]) (i:=0) V ts_25 V V V V V (Yh V) V ⟨_,V,?_⟩)
    show AGo _ _ _ _ _ _ _
    refine Qaj ?_
    refine Qt ?_
    refine QJ ?_
    refine QV ?_
    exact ⟨(j+1,u183),by show j+1≤ks.length;omega,by show ks.length - (j+1)<ks.length - j;omega,by3,MLe.cons _ (MLe.cons _ (MLe.loc _ (sw_les (Yg hE.symm) (Ye _) (Ye _)) (Yd _)))⟩
   refine Qq ?_
   obtain ⟨x,hx⟩:=Ze (l:=bs) (i:=i) by7
   have hcx:=Cb.cellss_get hx
   have hwx:=Cb.ws_at hx
   have hxw:x.w=x.e.w:=by cases x;rw [Cb.w,Cb.e]
   have hBx:=hBg i x hx
   have H1:=IHb x (Yi hx) n1 a1 by7 by7
   have H3:=IHb x (Yi hx) n3 a3 by7 by7
   have hb:(Cb.cellss (B.take i)).length≤1000000000:=by rw [Cb.cellss_len,List.length_take];omega
   obtain ⟨y,hy⟩:∃ y,(if k=7 then x.e.so (if n=1 then lessO (lkC n1 a1) (Cb.names bs) else lkC n1 a1) else x.e)=y:=⟨_,rfl⟩
   rw [hy] at hBx
   have hE:Cb.cellss (B.take (i+1))=Cb.cellss (B.take i)++[(Cb.mk x.s x.vs x.t y).cells]:=by rw [take_snoc hBx,Cb.cellss_app];rfl
   have hY3:k=7∧n=1→PCall Tryz.prog 12 [.seq 1 (strs n3),.seq 11 (Co.cellss a3),.agg x.e.cells] (.agg y.cells):=fun q=>by
    rw [h3,if_neg (show ¬ k=6 by omega),if_pos q.1] at H3
    rw [← hy,if_pos q.1,if_pos q.2];exact H3
   have hY1:k=7→¬ n=1→PCall Tryz.prog 12 [.seq 1 (strs n1),.seq 11 (Co.cellss a1),.agg x.e.cells] (.agg y.cells):=fun q q1=>by
    rw [← hy,if_pos q,if_neg q1];exact H1
   have hY0:¬ k=7→x.e=y:=fun q=>by rw [← hy,if_neg q]
   clear H1 H3 hy hBx
   obtain ⟨xb,xvs,⟨xwk,xwS,xwn,xwl⟩,⟨xk,xs,xn,⟨xtk,xtS,xtn,xtl⟩,xts,xks,xal,xbs⟩⟩:=x
   simp only [Cb.e,Cb.s,Cb.vs,Cb.t] at hY3 hY1 hY0 hE
   obtain ⟨yk,ys,yn,⟨ytk,ytS,ytn,ytl⟩,yts,yks,yal,ybs⟩:=y
   refine Qm ?_
   refine Qk ?_
   refine Qa ?_
   refine Qa1 ?_
   refine Qbu ?_
   refine Qbv ?_;intro b16
   refine Qbw ?_
   refine Qb ?_
   refine Qd ?_
   refine Qn ?_
   refine Qa0 ?_
   refine Qai ?_;intro b17
   refine Qay ?_
   refine Qb ?_
   refine Qy ?_
   refine c_bool 138 (k=7∧n=1) ?_ _ _ V ?_
   ·skip
    refine Qk ?_
    refine Qz ?_;intro c133 h133
    refine Qa ?_
    obtain ⟨rfl,g133⟩|⟨rfl,g133⟩:=Za h133
    ·skip
     refine Qj ?_
     refine QS ?_
     refine Yf V ?_ by4 by2
     clear hW HB IHk IHb IHa hY3 hY1 hY0 hE;first|(simp_all;done)|grind
    skip
    refine Qu ?_
    refine QaX ?_;intro c137 h137
    refine Qp ?_
    refine Yf V ?_ by4 by2
    clear hW HB IHk IHb IHa hY3 hY1 hY0 hE;first|(simp_all;done)|grind
   intro c138 h138
   refine Qc ?_
   refine c_join (σ:=Co) (fun zz=>match zz with|z=>[(5,.cptr (Co.mk k s n ⟨tk,tS,tn,tl⟩ ts ks al bs).cells),(6,.ptr b6 0),(10,.seq 1 (strs n1)),(11,.seq 11 (Co.cellss a1)),(12,.ptr b12 0),(13,.seq 1 (strs n3)),(14,.seq 11 (Co.cellss a3)),(15,.val (.int .i64 i)),(16,.ptr b16 0),(17,.ptr b17 0)]) (fun zz=>match zz with|z=>[.loc b17 z.cells,.loc b16 (Cb.mk xb xvs ⟨xwk,xwS,xwn,xwl⟩ (.mk xk xs xn ⟨xtk,xtS,xtn,xtl⟩ xts xks xal xbs)).cells,.own 53 17 u,.loc b12 (swC k s n tk tS tn tl ts (.val (.slice none 0 0)) (.val (.slice none 0 0)) (.own u 17 (Cb.cellss (B.take i)))),.loc b6 zC25b]) (fun zz=>match zz with|z=>z=.mk yk ys yn ⟨ytk,ytS,ytn,ytl⟩ yts yks yal ybs) ?_ ?_
   ·skip
    obtain ⟨rfl,g138⟩|⟨rfl,g138⟩:=Za h138
    ·refine Qat ?_
     refine QY ?_
     refine Qz ?_;intro c146 h146
     refine Qb ?_
     obtain ⟨rfl,g146⟩|⟨rfl,g146⟩:=Za h146
     ·refine Qw ?_
      refine go_lp ?_
      first
      | exact ⟨.mk yk ys yn ⟨ytk,ytS,ytn,ytl⟩ yts yks yal ybs,rfl,by3,Yd _⟩
      | exact ⟨.mk xk xs xn ⟨xtk,xtS,xtn,xtl⟩ xts xks xal xbs,hY0 g146,by3,Yd _⟩
     refine Qf ?_
     have HS:=hY1 g146 (fun q=>g138 ⟨g146,q⟩)
     refine QF ?_
     refine Qn ?_
     refine Qbe ?_
     refine Zb 151 V V V (Zi (xs:=[.tmp 147,.tmp 148,.tmp 150]) V V (HS) by1 ?_)
     refine Qay ?_
     refine Qs ?_
     refine go_lp ?_
     first
     | exact ⟨.mk yk ys yn ⟨ytk,ytS,ytn,ytl⟩ yts yks yal ybs,rfl,by3,Yd _⟩
     | exact ⟨.mk xk xs xn ⟨xtk,xtS,xtn,xtl⟩ xts xks xal xbs,hY0 g146,by3,Yd _⟩
    refine Qf ?_
    have HS:=hY3 g138
    refine QF ?_
    refine Qn ?_
    refine Qbe ?_
    refine Zb 143 V V V (Zi (xs:=[.tmp 139,.tmp 140,.tmp 142]) V V (HS) by1 ?_)
    refine Qay ?_
    refine Qs ?_
    refine go_lp ?_
    first
    | exact ⟨.mk yk ys yn ⟨ytk,ytS,ytn,ytl⟩ yts yks yal ybs,rfl,by3,Yd _⟩
    | exact ⟨.mk xk xs xn ⟨xtk,xtS,xtn,xtl⟩ xts xks xal xbs,hY0 g146,by3,Yd _⟩
   rintro z hI
   try dsimp only [List.cons_append,List.nil_append] at hI ⊢
   subst hI
   refine Qc ?_
   refine Qm ?_
   refine Qn ?_
   refine Zb 153 V V V (op_load_m1 (i:=3) V ta_27 V V V ?_)
   refine Qad ?_
   refine Qad ?_
   refine Qn ?_
   refine Zb 159 V V V (op_load_m (cs':=[_,_,_,_]) (i:=1) V ta_24 V V V V ?_)
   refine Qa0 ?_
   refine Zb 161 V V V (op_build (ns:=[0,1,2,3]) (xs:=[.tmp 155,.tmp 157,.tmp 159,.tmp 160]) (cs':=[_,_,_,_,_,_,_,_,_,_,_,_,_,_,_,_,_]) V tz_53 V tfl_53 V V V V (Zb 162 V V V (Zk (xs:=[.tmp 161]) el_27 V V V V V V (Yh V) ?_)))
   refine Zb 163 V V V (Yb (i:=2) el_27 V V V V (.seq _ _) (by show (Cb.cellss (B.take i)).length+1≤100000000000;omega) ?_)
   intro u163
   refine Qn ?_
   refine AOps.st0 V V (Yc (cs':=[_,_,_,_,_,_,_,_,_,_,_]) (i:=3) V ts_27 V V V V V (Yh V) V ?_)
   refine Qs ?_
   refine Qaj ?_
   refine Qt ?_
   refine QJ ?_
   refine QV ?_
   exact ⟨(i+1,u163),by show i+1≤bs.length;omega,by show bs.length - (i+1)<bs.length - i;omega,by3,MLe.drop _ (MLe.drop _ (MLe.cons _ (MLe.loc _ (sw_les (Ye _) (Ye _) (Yg hE.symm)) (Yd _))))⟩
  refine Qq ?_
  obtain ⟨x,hx⟩:=Ze (l:=names) (i:=i) by7
  have hcx:=strs_get hx
  have HH:=Has_c (names.take rr.length) x
  rw [show strs (names.take rr.length)=(strs names).take rr.length from List.map_take] at HH
  refine c_boold 65 (x∉names.take rr.length) tmix V ?_ _ _ V ?_
  ·skip
   refine Qab ?_
   refine Zl 58 V V (op_len V tu_25 V (.seq _ _) (fun _=>⟨V,V⟩)) ?_
   refine Zl 59 V V (op_cuth (k:=rr.length) V te_30 V (.seq _ _) V by7 by7 ⟨V,V⟩) ?_
   refine Qab ?_
   refine QbC ?_
   refine QZ ?_
   refine DOps.cm 64 V V (fun _ q=>Zq (xs:=[.tmp 59,.tmp 63]) V V (HH) by1 q) ?_;intro c64 h64
   refine DOps.cm 65 V V (fun _ q=>op_notc V V q) ?_;intro c65 h65
   try replace h65:=nott h65 h64
   show BoolQ _ _ _ _ _ _
   refine Yf V ?_ by4 by2
   clear HH hW HB IHk IHb IHa;first|(simp_all;done)|grind
  intro c65 h65
  refine Qc ?_
  obtain ⟨rfl,g65⟩|⟨rfl,g65⟩:=Za h65
  ·refine QW ?_
   first
   | exact ⟨(i+1,g++[x],u72),⟨by show rr.length≤i+1;omega,.inl (by show i+1≤names.length;omega),fun y hy=>by
       rcases List.mem_append.1 hy with q|q
       ·exact hgo y q
       rw [List.mem_singleton.1 q];exact g65,by simp;omega⟩,by show names.length - (i+1)<names.length - i;omega,(by repeat' (first|exact SLe.nil _|refine SLe.cons rfl ?_ ?_|exact Ye _|exact Le.own _ _ _|exact Le.nil _|(refine Yg ?_;exact e1)|(refine Le.own_seq ?_;exact e1)|(refine Le.seq_eq ?_;exact e1))),by2⟩
   | exact ⟨(i+1,g,u),⟨by show rr.length≤i+1;omega,.inl (by show i+1≤names.length;omega),hgo,by show g.length+rr.length≤i+1;omega⟩,by show names.length - (i+1)<names.length - i;omega,by3,by2⟩
  refine Qf ?_
  have e1:strs g++[[AV.val (.string x)]]=strs (g++[x]):=by rw [Zt];rfl
  refine QX ?_
  refine Qbg ?_
  refine QL ?_
  refine Zb 71 V V V (Zk (xs:=[.tmp 70]) el_30 V V V V V V (Yh V) ?_)
  refine Zb 72 V V V (Yb (i:=0) el_30 V V V V (.seq _ _) (by rw [hsg];simp;omega) ?_)
  intro u72
  refine Q3 ?_
  first
  | exact ⟨(i+1,g++[x],u72),⟨by show rr.length≤i+1;omega,.inl (by show i+1≤names.length;omega),fun y hy=>by
      rcases List.mem_append.1 hy with q|q
      ·exact hgo y q
      rw [List.mem_singleton.1 q];exact g65,by simp;omega⟩,by show names.length - (i+1)<names.length - i;omega,(by repeat' (first|exact SLe.nil _|refine SLe.cons rfl ?_ ?_|exact Ye _|exact Le.own _ _ _|exact Le.nil _|(refine Yg ?_;exact e1)|(refine Le.own_seq ?_;exact e1)|(refine Le.seq_eq ?_;exact e1))),by2⟩
  | exact ⟨(i+1,g,u),⟨by show rr.length≤i+1;omega,.inl (by show i+1≤names.length;omega),hgo,by show g.length+rr.length≤i+1;omega⟩,by show names.length - (i+1)<names.length - i;omega,by3,by2⟩
 refine Qf ?_
 refine Qe ?_
 refine Qx ?_
 refine Zy (σ:=Nat) (fun zz=>match zz with|i=>[(0,.seq 1 (strs names)),(1,.seq 11 (Co.cellss rr)),(5,.cptr (Co.mk k s n ⟨tk,tS,tn,tl⟩ ts ks al bs).cells),(6,.ptr b6 0),(7,.val (.int .i64 i))]) (fun zz=>match zz with|i=>[.loc b6 zC25b]) (fun zz=>match zz with|i=>i≤names.length∧∀ j,j<i→names[j]?≠some s) (fun zz=>match zz with|i=>names.length - i) (0) ?_ ?_ ?_ ?_
 ·exact ⟨Nat.zero_le _,fun j hj=>by omega⟩
 ·exact by3
 ·exact by2
 rintro i hI
 try dsimp only [List.cons_append,List.nil_append] at hI ⊢
 obtain ⟨hi,hu⟩:=hI
 refine Qak ?_
 refine Q6 ?_;intro n27
 refine Qi ?_;intro c28 h28
 refine Qb ?_
 obtain ⟨rfl,g28⟩|⟨rfl,g28⟩:=Za h28
 ·refine Q2 ?_
  refine Qd ?_
  refine QA ?_
  refine Qaq ?_
  rw [if_pos g24,lkC_out (fun q=>by
   obtain ⟨j,hj⟩:=List.getElem?_of_mem q
   have:=get_lt hj
   exact hu j by7 hj)] at hW
  subst hW
  exact out_cell (i:=0) V V V ta_29 V by0 (MLe.none _) ⟨V,V⟩
 refine Qq ?_
 obtain ⟨x,hx⟩:=Ze (l:=names) (i:=i) by7
 have hcx:=strs_get hx
 refine Qau ?_
 refine Qab ?_
 refine QbC ?_
 refine QZ ?_
 refine QM ?_
 refine QZ ?_
 refine DOps.cm 37 V V (fun _ q=>op_seql V V V q) ?_;intro c37 h37
 show AGo _ _ _ _ _ _ _
 refine Qc ?_
 obtain ⟨rfl,g37⟩|⟨rfl,g37⟩:=Za h37
 ·refine QW ?_
  exact ⟨i+1,⟨by show i+1≤names.length;omega,fun j hj=>by
   rcases Nat.lt_or_ge j i with q|q
   ·exact hu j q
   obtain rfl:j=i:=by omega
   rw [hx]
   exact fun q=>g37 (Option.some.inj q)⟩,by show names.length - (i+1)<names.length - i;omega,by3,by2⟩
 refine Qf ?_
 refine Qy ?_
 have hat:=lkC_at (r:=rr) (s:=s) (i:=i) (by rw [← g37];exact hx) hu
 rw [if_pos g24,hat] at hW
 refine QF ?_
 refine Qah ?_;intro n40
 refine Qi ?_;intro c41 h41
 refine Qb ?_
 obtain ⟨rfl,g41⟩|⟨rfl,g41⟩:=Za h41
 ·refine Qw ?_
  refine Qc ?_
  refine Qd ?_
  refine QA ?_
  refine Qaq ?_
  rw [List.getElem?_eq_none by7] at hW
  subst hW
  exact out_cell (i:=0) V V V ta_29 V by0 (MLe.none _) ⟨V,V⟩
 refine Qf ?_
 refine Qe ?_
 obtain ⟨y,hy⟩:=Ze (l:=rr) (i:=i) by7
 have hcy:=Co.cellss_get hy
 rw [hy] at hW
 subst hW
 obtain ⟨yk,ys,yn,⟨ytk,ytS,ytn,ytl⟩,yts,yks,yal,ybs⟩:=y
 refine QF ?_
 refine Zb 44 V V V (Zn V te_25 V (.seq _ _) V V (hcy) ?_)
 refine QA ?_
 refine Qaq ?_
 exact out_cell (i:=0) V V V ta_29 V by0 (MLe.none _) ⟨V,V⟩
termination_by SizeOf.sizeOf e
decreasing_by
 ·exact Co.lt_kid hx
 ·exact Nat.lt_trans (Cb.lt_e x) (Co.lt_bind hx)
 exact Nat.lt_trans (Ca.lt_e x) (Co.lt_alt hx)
theorem rcoBinds_of (xs ys:List Cb) (IH:∀ x∈xs,∀ y:Co,BCall Tryz.prog 10 [.agg x.e.cells,.agg y.cells] (x.e.bare=y.bare)):BCall Tryz.prog 29 [.seq 17 (Cb.cellss xs),.seq 17 (Cb.cellss ys)] (xs.map Cb.bare=ys.map Cb.bare):=by
 have hlx:=Cb.cellss_len xs
 have hly:=Cb.cellss_len ys
 refine Zd Tryz.func29 V (by kernel_rfl) V (Yh V) ?_
 refine Ql ?_
 refine c_lens (t:=0) V (.seq _ _) (fun hmax=>?_)
 refine Qg ?_
 refine Qaa ?_
 refine Qav ?_;intro n7
 refine Qa ?_
 refine Qav ?_;intro n9
 refine QaJ ?_;intro c10 h10
 refine Qb ?_
 obtain ⟨rfl,g10⟩|⟨rfl,g10⟩:=Za h10
 ·refine QO ?_
  refine Qx ?_
  apply c_loopkm (rg [(2,68)]) (σ:=Nat) (fun zz=>match zz with|i=>[(5,.val (.int .i64 i))]) (fun zz=>match zz with|i=>i≤xs.length∧Upto (xs.map Cb.bare) (ys.map Cb.bare) i) (fun zz=>match zz with|i=>xs.length - i) (0)
  ·repeat' (first|exact Drops.nil|apply Drops.keep rfl|apply Drops.skip rfl)
  ·exact ⟨by omega,Upto.zero _ _⟩
  ·exact by3
  rintro i hI
  try dsimp only [List.cons_append,List.nil_append] at hI ⊢
  obtain ⟨hi,hu⟩:=hI
  refine Qak ?_
  refine Qav ?_;intro n13
  refine Qi ?_;intro c14 h14
  refine Qb ?_
  obtain ⟨rfl,g14⟩|⟨rfl,g14⟩:=Za h14
  ·refine Q2 ?_
   refine Qg ?_
   exact c_ret (Zg V V (Ye _) by2 ⟨⟨_,iff_t (hu.eq by5 by5),V⟩,V⟩)
  refine Qq ?_
  obtain ⟨⟨bs1,vs1,⟨wk1,ws1,wn1,wl1⟩,⟨k1,s1,n1,⟨tk1,ts1,tn1,tks1⟩,us1,ks1,al1,bb1⟩⟩,hx⟩:=Ze (l:=xs) (i:=i) by7
  obtain ⟨⟨bs2,vs2,⟨wk2,ws2,wn2,wl2⟩,⟨k2,s2,n2,⟨tk2,ts2,tn2,tks2⟩,us2,ks2,al2,bb2⟩⟩,hy⟩:=Ze (l:=ys) (i:=i) by7
  have hcx:=Cb.cellss_get hx
  have hcy:=Cb.cellss_get hy
  have HS:=IH _ (Yi hx) ⟨k2,s2,n2,⟨tk2,ts2,tn2,tks2⟩,us2,ks2,al2,bb2⟩
  have HV:=Texts_c vs1 vs2
  have HT:=SameType_c ⟨wk1,ws1,wn1,wl1⟩ ⟨wk2,ws2,wn2,wl2⟩
  have hne:=fun e=>map_ne Cb.bare hx hy e
  have heq:=fun e=>upto_map Cb.bare hu hx hy e
  rw [Cb.bare_iff] at hne heq
  simp only [Cb.e] at HS
  generalize (Co.mk k1 s1 n1 ⟨tk1,ts1,tn1,tks1⟩ us1 ks1 al1 bb1).bare=e1 at *
  generalize (Co.mk k2 s2 n2 ⟨tk2,ts2,tn2,tks2⟩ us2 ks2 al2 bb2).bare=e2 at *
  refine c_boold 69 (¬ (bs1=bs2∧vs1=vs2∧Ty.mk wk1 ws1 wn1 wl1=Ty.mk wk2 ws2 wn2 wl2∧e1=e2)) tmix V ?_ _ _ V ?_
  ·skip
   refine Qab ?_
   refine QbD ?_
   refine QT ?_
   refine QD ?_
   refine QbD ?_
   refine QM ?_
   refine QZ ?_
   refine DOps.cm 27 V V (fun _ q=>op_sneq V V V q) ?_;intro c27 h27
   refine QD ?_
   obtain ⟨rfl,g27⟩|⟨rfl,g27⟩:=Za h27
   ·skip
    refine Qv ?_
    refine Qv ?_
    refine QaG ?_
    refine Q9 ?_
    refine Qa5 ?_
    refine Qv ?_
    refine Qv ?_
    refine QaG ?_
    refine Q9 ?_
    refine Qa5 ?_
    refine DOps.gtc 39 V V V V (fun _ q=>Zq (xs:=[.tmp 33,.tmp 38]) V V (HV) by1 q) ?_;intro c39 h39
    refine DOps.gtc 40 V V V V (fun _ q=>op_notc V V q) ?_;intro c40 h40
    try replace h40:=nott h40 h39
    refine QN ?_
    refine QD ?_
    obtain ⟨rfl,g40⟩|⟨rfl,g40⟩:=Za h40
    ·skip
     refine Qv ?_
     refine Qv ?_
     refine QaG ?_
     refine Q9 ?_
     refine QbE ?_
     refine Qv ?_
     refine Qv ?_
     refine QaG ?_
     refine Q9 ?_
     refine QbE ?_
     refine DOps.gtc 53 V V V V (fun _ q=>Zq (xs:=[.tmp 47,.tmp 52]) V V (HT) by1 q) ?_;intro c53 h53
     refine DOps.gtc 54 V V V V (fun _ q=>op_notc V V q) ?_;intro c54 h54
     try replace h54:=nott h54 h53
     refine QN ?_
     refine QD ?_
     obtain ⟨rfl,g54⟩|⟨rfl,g54⟩:=Za h54
     ·skip
      refine Qv ?_
      refine Qv ?_
      refine QaG ?_
      refine Q9 ?_
      refine QaH ?_
      refine Qv ?_
      refine Qv ?_
      refine QaG ?_
      refine Q9 ?_
      refine QaH ?_
      refine DOps.gtc 67 V V V V (fun _ q=>Zq (xs:=[.tmp 61,.tmp 66]) V V (HS) by1 q) ?_;intro c67 h67
      refine DOps.gtc 68 V V V V (fun _ q=>op_notc V V q) ?_;intro c68 h68
      try replace h68:=nott h68 h67
      refine QN ?_
      show BoolQ _ _ _ _ _ _
      refine Yf V ?_ by4 by2
      simp_all
     skip
     refine Qr ?_
     refine Qr ?_
     refine Qr ?_
     refine QN ?_
     show BoolQ _ _ _ _ _ _
     refine Yf V ?_ by4 by2
     simp_all
    skip
    refine Qr ?_
    refine Qr ?_
    refine Qr ?_
    refine QN ?_
    refine QD ?_
    refine Qr ?_
    refine Qr ?_
    refine Qr ?_
    refine QN ?_
    show BoolQ _ _ _ _ _ _
    refine Yf V ?_ by4 by2
    simp_all
   skip
   refine Qr ?_
   refine Qr ?_
   refine Qr ?_
   refine QN ?_
   refine QD ?_
   refine Qr ?_
   refine Qr ?_
   refine Qr ?_
   refine QN ?_
   refine QD ?_
   refine Qr ?_
   refine Qr ?_
   refine Qr ?_
   refine QN ?_
   show BoolQ _ _ _ _ _ _
   refine Yf V ?_ by4 by2
   simp_all
  intro c69 h69
  refine Qc ?_
  obtain ⟨rfl,g69⟩|⟨rfl,g69⟩:=Za h69
  ·refine QW ?_
   exact ⟨i+1,⟨by omega,heq (Classical.not_not.1 g69)⟩,by simp;omega,by3,by2⟩
  refine QK ?_
  exact Zg V V (Ye _) by2 ⟨⟨_,iff_f (hne g69),V⟩,V⟩
 refine QK ?_
 exact Zg V V (Ye _) by2 ⟨⟨_,iff_f (map_len_ne _ by7),V⟩,V⟩
theorem rcoSame_c (a:Co):∀ b:Co,BCall Tryz.prog 10 [.agg a.cells,.agg b.cells] (a.bare=b.bare):=by
 obtain ⟨k1,s1,n1,⟨tk1,ts1,tn1,tks1⟩,us1,ks1,al1,bb1⟩:=a
 rintro ⟨k2,s2,n2,⟨tk2,ts2,tn2,tks2⟩,us2,ks2,al2,bb2⟩
 have HK:∀ x∈ks1,∀ y:Co,BCall Tryz.prog 10 [.agg x.cells,.agg y.cells] (x.bare=y.bare):=fun x hx y=>rcoSame_c x y
 have HA:∀ x∈al1,∀ y:Co,BCall Tryz.prog 10 [.agg x.e.cells,.agg y.cells] (x.e.bare=y.bare):=fun x hx y=>rcoSame_c x.e y
 have HB:=rcoBinds_of bb1 bb2 (fun x hx y=>rcoSame_c x.e y)
 have HT:=SameType_c ⟨tk1,ts1,tn1,tks1⟩ ⟨tk2,ts2,tn2,tks2⟩
 have HU:=SameTypes_c us1 us2
 have hk1:=Co.cellss_len ks1
 have hk2:=Co.cellss_len ks2
 have ha1:=Ca.cellss_len al1
 have ha2:=Ca.cellss_len al2
 rw [Co.bare_iff]
 generalize bb1.map Cb.bare=mb1 at *
 generalize bb2.map Cb.bare=mb2 at *
 refine Zd Tryz.func10 V (by kernel_rfl) V (Yh V) ?_
 refine Ql ?_
 refine c_lena (t:=0) (j:=8) V V (.seq _ _) (fun hmax=>?_)
 refine c_lena (t:=0) (j:=9) V V (.seq _ _) (fun hmax2=>?_)
 refine Qd ?_
 refine Q0 ?_
 refine Q0 ?_
 refine Qh ?_
 refine Qy ?_
 refine c_bool 67 (¬ (k1=k2∧s1=s2∧n1=n2∧Ty.mk tk1 ts1 tn1 tks1=Ty.mk tk2 ts2 tn2 tks2∧us1=us2∧ks1.length=ks2.length∧al1.length=al2.length∧mb1=mb2)) ?_ _ _ V ?_
 ·skip
  refine Qk ?_
  refine Qk ?_
  refine QaJ ?_;intro c11 h11
  refine Qa ?_
  obtain ⟨rfl,g11⟩|⟨rfl,g11⟩:=Za h11
  ·skip
   refine Qu ?_
   refine Qu ?_
   refine Zp 17 V V V V V (op_sneq V V V ?_);intro c17 h17
   refine Qo ?_
   obtain ⟨rfl,g17⟩|⟨rfl,g17⟩:=Za h17
   ·skip
    refine Qu ?_
    refine Qu ?_
    refine QaF ?_;intro c24 h24
    refine Qo ?_
    obtain ⟨rfl,g24⟩|⟨rfl,g24⟩:=Za h24
    ·skip
     refine Qa7 ?_
     refine QbF ?_
     refine Qa7 ?_
     refine QbF ?_
     refine Zp 31 V V V V V (Zq (xs:=[.tmp 28,.tmp 30]) V V (HT) by1 ?_);intro c31 h31
     refine Qa3 ?_;intro c32 h32
     try replace h32:=nott h32 h31
     refine Qo ?_
     obtain ⟨rfl,g32⟩|⟨rfl,g32⟩:=Za h32
     ·skip
      refine Qu ?_
      refine Qu ?_
      refine Zp 39 V V V V V (Zq (xs:=[.tmp 36,.tmp 38]) V V (HU) by1 ?_);intro c39 h39
      refine Qa3 ?_;intro c40 h40
      try replace h40:=nott h40 h39
      refine Qo ?_
      obtain ⟨rfl,g40⟩|⟨rfl,g40⟩:=Za h40
      ·skip
       refine Qu ?_
       refine QaP ?_;intro n45
       refine Qu ?_
       refine QaP ?_;intro n48
       refine QaF ?_;intro c49 h49
       refine Qo ?_
       obtain ⟨rfl,g49⟩|⟨rfl,g49⟩:=Za h49
       ·skip
        refine Qu ?_
        refine Zp 54 V V V V V (op_len V tu_26 V (.seq _ _) (fun n54=>?_))
        refine Qu ?_
        refine Zp 57 V V V V V (op_len V tu_26 V (.seq _ _) (fun n57=>?_))
        refine QaF ?_;intro c58 h58
        refine Qo ?_
        obtain ⟨rfl,g58⟩|⟨rfl,g58⟩:=Za h58
        ·skip
         refine Qu ?_
         refine Qu ?_
         refine Zp 65 V V V V V (Zq (xs:=[.tmp 62,.tmp 64]) V V (HB) by1 ?_);intro c65 h65
         refine Qa3 ?_;intro c66 h66
         try replace h66:=nott h66 h65
         refine Qp ?_
         refine Yf V ?_ by4 by2
         (have w1:ks1.length=ks2.length:=by7);(have w2:al1.length=al2.length:=by7);simp_all;done
        skip
        refine QE ?_
        refine Qp ?_
        refine Yf V ?_ by4 by2
        simp_all;omega
       skip
       refine QE ?_
       refine QI ?_
       refine Qp ?_
       refine Yf V ?_ by4 by2
       simp_all;omega
      skip
      refine QE ?_
      refine QI ?_
      refine QI ?_
      refine Qp ?_
      refine Yf V ?_ by4 by2
      simp_all;done
     skip
     refine QE ?_
     refine Qo ?_
     refine QE ?_
     refine QI ?_
     refine QI ?_
     refine Qp ?_
     refine Yf V ?_ by4 by2
     simp_all;done
    skip
    refine QE ?_
    refine Qo ?_
    refine QE ?_
    refine Qo ?_
    refine QE ?_
    refine QI ?_
    refine QI ?_
    refine Qp ?_
    refine Yf V ?_ by4 by2
    simp_all;done
   skip
   refine Qj ?_
   refine Qj ?_
   refine QI ?_
   refine Qo ?_
   refine QE ?_
   refine Qo ?_
   refine QE ?_
   refine QI ?_
   refine QI ?_
   refine Qp ?_
   refine Yf V ?_ by4 by2
   simp_all;done
  skip
  refine Qal ?_
  refine Qo ?_
  refine Qj ?_
  refine Qj ?_
  refine QI ?_
  refine Qo ?_
  refine QE ?_
  refine Qo ?_
  refine QE ?_
  refine QI ?_
  refine QI ?_
  refine Qp ?_
  refine Yf V ?_ by4 by2
  simp_all;done
 intro c67 h67
 refine Qc ?_
 obtain ⟨rfl,g67⟩|⟨rfl,g67⟩:=Za h67
 ·refine QO ?_
  refine Qx ?_
  obtain ⟨e1,e2,e3,e4,e5,e6,e7,e8⟩:=Classical.not_not.1 g67
  apply c_loopkm (rg [(0,2),(4,2),(7,80)]) (σ:=Nat) (fun zz=>match zz with|i=>[(5,.val (.int .i64 i))]) (fun zz=>match zz with|i=>i≤ks1.length∧Upto (ks1.map Co.bare) (ks2.map Co.bare) i) (fun zz=>match zz with|i=>ks1.length - i) (0)
  ·repeat' (first|exact Drops.nil|apply Drops.keep rfl|apply Drops.skip rfl)
  ·exact ⟨by omega,Upto.zero _ _⟩
  ·exact by3
  rintro i hI
  try dsimp only [List.cons_append,List.nil_append] at hI ⊢
  obtain ⟨hi,hu⟩:=hI
  refine Qaf ?_
  refine Qah ?_;intro n71
  refine Qi ?_;intro c72 h72
  refine Qb ?_
  obtain ⟨rfl,g72⟩|⟨rfl,g72⟩:=Za h72
  ·refine QH ?_
   refine Qx ?_
   have hks:=hu.eq (by simpa using e6) by5
   apply c_loopkm (rg [(0,2),(4,120)]) (σ:=Nat) (fun zz=>match zz with|j=>[(6,.val (.int .i64 j))]) (fun zz=>match zz with|j=>j≤al1.length∧Upto (al1.map Ca.bare) (al2.map Ca.bare) j) (fun zz=>match zz with|j=>al1.length - j) (0)
   ·repeat' (first|exact Drops.nil|apply Drops.keep rfl|apply Drops.skip rfl)
   ·exact ⟨by omega,Upto.zero _ _⟩
   ·exact by3
   rintro j hI
   try dsimp only [List.cons_append,List.nil_append] at hI ⊢
   obtain ⟨hj,hv⟩:=hI
   refine Qaf ?_
   refine Qa4 ?_;intro n90
   refine Qi ?_;intro c91 h91
   refine Qb ?_
   obtain ⟨rfl,g91⟩|⟨rfl,g91⟩:=Za h91
   ·refine Q2 ?_
    refine Qg ?_
    exact c_ret (Zg V V (Ye _) by2 ⟨⟨_,iff_t ⟨e1,e2,e3,e4,e5,hks,hv.eq (by simpa using e7) by5,e8⟩,V⟩,V⟩)
   refine Qq ?_
   obtain ⟨⟨⟨xqk,xqs,xqn,xqks,xqp⟩,⟨xk,xs,xn,⟨xtk,xts,xtn,xtks⟩,xus,xks,xal,xbs⟩⟩,hx⟩:=Ze (l:=al1) (i:=j) by7
   obtain ⟨⟨⟨yqk,yqs,yqn,yqks,yqp⟩,⟨yk,ys,yn,⟨ytk,yts,ytn,ytks⟩,yus,yks,yal,ybs⟩⟩,hy⟩:=Ze (l:=al2) (i:=j) by7
   have hcx:=Ca.cellss_get hx
   have hcy:=Ca.cellss_get hy
   have HS:=HA _ (Yi hx) ⟨yk,ys,yn,⟨ytk,yts,ytn,ytks⟩,yus,yks,yal,ybs⟩
   have HP:=rSamePat_c ⟨xqk,xqs,xqn,xqks,xqp⟩ ⟨yqk,yqs,yqn,yqks,yqp⟩
   have hne:=fun e=>map_ne Ca.bare hx hy e
   have heq:=fun e=>upto_map Ca.bare hv hx hy e
   rw [Ca.bare_iff] at hne heq
   simp only [Ca.e] at HS
   generalize (Co.mk xk xs xn ⟨xtk,xts,xtn,xtks⟩ xus xks xal xbs).bare=ex at *
   generalize (Co.mk yk ys yn ⟨ytk,yts,ytn,ytks⟩ yus yks yal ybs).bare=ey at *
   generalize (Pa.mk xqk xqs xqn xqks xqp).bare=qx at *
   generalize (Pa.mk yqk yqs yqn yqks yqp).bare=qy at *
   refine c_boold 123 (¬ (qx=qy∧ex=ey)) tmix V ?_ _ _ V ?_
   ·skip
    refine QT ?_
    refine QbG ?_
    refine QM ?_
    refine QaR ?_
    refine QT ?_
    refine QbG ?_
    refine QM ?_
    refine QaR ?_
    refine DOps.cm 106 V V (fun _ q=>Zq (xs:=[.tmp 99,.tmp 105]) V V (HP) by1 q) ?_;intro c106 h106
    refine DOps.cm 107 V V (fun _ q=>op_notc V V q) ?_;intro c107 h107
    try replace h107:=nott h107 h106
    refine QD ?_
    obtain ⟨rfl,g107⟩|⟨rfl,g107⟩:=Za h107
    ·skip
     refine Q9 ?_
     refine Qa5 ?_
     refine Qv ?_
     refine QbH ?_
     refine Q9 ?_
     refine QaH ?_
     refine Q9 ?_
     refine Qa5 ?_
     refine Qv ?_
     refine QbH ?_
     refine Q9 ?_
     refine QaH ?_
     refine DOps.gtc 121 V V V V (fun _ q=>Zq (xs:=[.tmp 114,.tmp 120]) V V (HS) by1 q) ?_;intro c121 h121
     refine DOps.gtc 122 V V V V (fun _ q=>op_notc V V q) ?_;intro c122 h122
     try replace h122:=nott h122 h121
     refine QN ?_
     show BoolQ _ _ _ _ _ _
     refine Yf V ?_ by4 by2
     simp_all
    skip
    refine Qr ?_
    refine Qr ?_
    refine Qr ?_
    refine Qax ?_
    refine Qax ?_
    refine QN ?_
    show BoolQ _ _ _ _ _ _
    refine Yf V ?_ by4 by2
    simp_all
   intro c123 h123
   refine Qc ?_
   obtain ⟨rfl,g123⟩|⟨rfl,g123⟩:=Za h123
   ·refine QW ?_
    exact ⟨j+1,⟨by omega,heq (Classical.not_not.1 g123)⟩,by simp;omega,by3,by2⟩
   refine QK ?_
   exact Zg V V (Ye _) by2 ⟨⟨_,iff_f (fun q=>hne g123 q.2.2.2.2.2.2.1),V⟩,V⟩
  refine Qq ?_
  obtain ⟨⟨xk,xs,xn,⟨xtk,xts,xtn,xtks⟩,xus,xks,xal,xbs⟩,hx⟩:=Ze (l:=ks1) (i:=i) by7
  obtain ⟨⟨yk,ys,yn,⟨ytk,yts,ytn,ytks⟩,yus,yks,yal,ybs⟩,hy⟩:=Ze (l:=ks2) (i:=i) by7
  have hcx:=Co.cellss_get hx
  have hcy:=Co.cellss_get hy
  refine Qau ?_
  refine QT ?_
  refine QbI ?_
  refine QaA ?_
  refine QT ?_
  refine QbI ?_
  refine QaA ?_
  refine DOps.cm 85 V V (fun _ q=>Zq (xs:=[.tmp 79,.tmp 84]) V V (HK _ (Yi hx) ⟨yk,ys,yn,⟨ytk,yts,ytn,ytks⟩,yus,yks,yal,ybs⟩) by1 q) ?_;intro c85 h85
  refine DOps.cm 86 V V (fun _ q=>op_notc V V q) ?_;intro c86 h86
  try replace h86:=nott h86 h85
  show AGo _ _ _ _ _ _ _
  refine Qc ?_
  obtain ⟨rfl,g86⟩|⟨rfl,g86⟩:=Za h86
  ·refine QW ?_
   exact ⟨i+1,⟨by omega,upto_map Co.bare hu hx hy (Classical.not_not.1 g86)⟩,by simp;omega,by3,by2⟩
  refine QK ?_
  exact Zg V V (Ye _) by2 ⟨⟨_,iff_f (fun q=>map_ne Co.bare hx hy g86 q.2.2.2.2.2.1),V⟩,V⟩
 refine QK ?_
 exact Zg V V (Ye _) by2 ⟨⟨_,iff_f (fun q=>g67 ⟨q.1,q.2.1,q.2.2.1,q.2.2.2.1,q.2.2.2.2.1,by simpa using congrArg List.length q.2.2.2.2.2.1,by simpa using congrArg List.length q.2.2.2.2.2.2.1,q.2.2.2.2.2.2.2⟩),V⟩,V⟩
termination_by SizeOf.sizeOf a
decreasing_by
 ·exact Co.lt_kid hx
 ·exact Nat.lt_trans (Ca.lt_e x) (Co.lt_alt hx)
 exact Nat.lt_trans (Cb.lt_e x) (Co.lt_bind hx)
theorem count_c (d:Nat):∀ (t:Ty) (most:Int),t.size≤d→1≤most→most≤1000000→PCall Tryz.prog 37 [.agg t.cells,.val (.int .i64 most)] (.val (.int .i64 (t.cnt most))):=by
 induction d with
 | zero=>intro t most hd;have:=Ty.size_pos t;omega
 | succ d ih =>
  rintro ⟨k,s,n,ks⟩ most hd h1 h2
  have hl:=Ty.cellss_len ks
  rw [Ty.size] at hd
  refine Zd Tryz.func37 V (by kernel_rfl) V (Yh V) ?_
  refine Ql ?_
  refine c_lena (t:=0) (j:=3) V V (.seq _ _) (fun hmax=>?_)
  refine Qd ?_
  refine QaW ?_;intro b2
  refine Qh ?_
  refine Qg ?_
  refine Qy ?_
  refine c_bool 20 (k=1∧(0<ks.length∨n≠0)) ?_ _ _ V ?_
  ·skip
   refine Qn ?_
   refine Qaz ?_
   refine Qz ?_;intro c9 h9
   refine Qa ?_
   obtain ⟨rfl,g9⟩|⟨rfl,g9⟩:=Za h9
   ·skip
    refine Qal ?_
    refine AOps.gu 16 V V V V V (AOps.gu 17 V V V V V (AOps.gu 18 V V V V V ?_))
    refine QS ?_
    refine Yf V ?_ by4 by2
    simp_all
   skip
   refine Qag ?_
   refine QaK ?_
   refine Zp 13 V V V V V (op_len V tu_22 V (.seq _ _) (fun n13=>?_))
   refine Qbi ?_;intro c14 h14
   refine QB ?_
   obtain ⟨rfl,g14⟩|⟨rfl,g14⟩:=Za h14
   ·skip
    refine Qag ?_
    refine QaK ?_
    refine QaF ?_;intro c18 h18
    refine Zp 19 V V V V V (op_pick V V V ?_)
    refine Qp ?_
    refine Yf V ?_ by4 by2
    simp_all
   skip
   refine Qj ?_
   refine Qar ?_
   refine Zp 19 V V V V V (op_pick V V V ?_)
   refine Qp ?_
   refine Yf V ?_ by4 by2
   simp_all
  intro c20 h20
  refine Qc ?_
  obtain ⟨rfl,g20⟩|⟨rfl,g20⟩:=Za h20
  ·refine QO ?_
   refine Qx ?_
   refine Zy (σ:=Nat × Int) (fun zz=>match zz with|(i,m)=>[(2,.ptr b2 0),(1,.val (.int .i64 most)),(5,.val (.int .i64 m)),(6,.val (.int .i64 i))]) (fun zz=>match zz with|(i,m)=>[.loc b2 [.val (.int .i64 k),.val (.string s),.val (.int .i64 n),.seq 4 (Ty.cellss ks)]]) (fun zz=>match zz with|(i,m)=>i≤ks.length∧1≤m∧m≤most∧Ty.cnts (ks.drop i) m most=Ty.cnt (.mk k s n ks) most) (fun zz=>match zz with|(i,m)=>ks.length - i) ((0,1)) ?_ ?_ ?_ ?_
   ·exact ⟨by omega,by omega,h1,by rw [List.drop_zero,Ty.cnt_not (by simpa [Ty.kind,Ty.kids,Ty.num,List.length_pos_iff] using g20)];rfl⟩
   ·exact by3
   ·exact by2
   rintro ⟨i,m⟩ hI
   try dsimp only [List.cons_append,List.nil_append] at hI ⊢
   obtain ⟨hi,m1,m2,hc⟩:=hI
   refine Qy ?_
   refine c_bool 31 (i<ks.length∧m<most) ?_ _ _ V ?_
   ·skip
    refine Qa ?_
    refine Qn ?_
    refine Qaz ?_
    refine QaD ?_;intro n25
    refine Qi ?_;intro c26 h26
    refine Qa ?_
    obtain ⟨rfl,g26⟩|⟨rfl,g26⟩:=Za h26
    ·skip
     refine Qj ?_
     refine QS ?_
     refine Yf V ?_ by4 by2
     simp_all;done
    skip
    refine QB ?_
    refine QB ?_
    refine QaS ?_;intro c30 h30
    refine Qp ?_
    refine Yf V ?_ by4 by2
    simp_all;done
   intro c31 h31
   refine Qc ?_
   obtain ⟨rfl,g31⟩|⟨rfl,g31⟩:=Za h31
   ·refine Qap ?_
    refine Zg V V (Ye _) by2 ⟨?_,V⟩
    rw [← hc]
    by_cases e:i<ks.length
    ·obtain ⟨x,hx⟩:=Ze e
     rw [drop_at hx,Ty.cnts,if_neg (fun q=>g31 ⟨e,q⟩)]
    rw [List.drop_eq_nil_of_le by7,Ty.cnts]
   refine QU ?_
   obtain ⟨⟨k',s',n',ks'⟩,hx⟩:=Ze g31.1
   have hcx:=Ty.cellss_get hx
   have hsz:=Ty.size_at hx
   have hb:=Ty.cnt_bd (.mk k' s' n' ks') (most - m) by7
   refine Qt ?_
   refine Qn ?_
   refine Qaz ?_
   refine Qa ?_
   refine Zb 38 V V V (Zn V te_22 V (.seq _ _) V V (by assumption) ?_)
   refine QaU ?_
   refine Qa ?_
   refine Qa ?_
   refine Zb 42 V V V (op_sub V V V (IntWalk.i64_in _ by7) ?_)
   refine Zb 43 V V V (Zi (xs:=[.tmp 39,.tmp 42]) V V (ih (.mk k' s' n' ks') (most - m) by7 by7 by7) by1 ?_)
   refine QJ ?_
   refine Q3 ?_
   refine ⟨(i+1,m+Ty.cnt (.mk k' s' n' ks') (most - m)),⟨by omega,by omega,by omega,?_⟩,by simp;omega,by3,by2⟩
   rw [← hc,drop_at hx,Ty.cnts,if_pos g31.2]
  refine Qf ?_
  refine QC ?_
  refine QG ?_
  exact Zg V V (Ye _) by2 ⟨by rw [Ty.cnt_var (by simpa [Ty.kind,Ty.kids,Ty.num,List.length_pos_iff] using g20)],V⟩
theorem Small_c (t:Ty) (most:Int) (h1:0≤most) (h2:most≤100000):BCall Tryz.prog 14 [.agg t.cells,.val (.int .i64 most)] (t.small most=true):=by
 obtain ⟨k,s,n,ks⟩:=t
 have hb:=Ty.cnt_bd (.mk k s n ks) (most+1) by7
 refine Zd Tryz.func14 V (by kernel_rfl) V (Yh V) ?_
 refine Qac ?_
 refine QaW ?_;intro b2
 refine Qh ?_
 refine Qd ?_
 refine QbJ ?_
 refine Qa ?_
 refine QJ ?_
 refine Zb 8 V V V (Zi (xs:=[.tmp 5,.tmp 7]) V V (count_c _ (.mk k s n ks) (most+1) (Nat.le_refl _) by7 by7) by1 ?_)
 refine Qa ?_
 refine Zb 10 V V V (op_leq V V V ?_);intro c10 h10
 refine QG ?_
 exact Zg V V (Ye _) by2 ⟨⟨_,h10.trans (by simp [Ty.small]),V⟩,V⟩
theorem all_drop {α:Type} {f:α→Bool} {l:List α} {i:Nat} {x:α} (h:l[i]?=some x):(l.drop i).all f=(f x && (l.drop (i+1)).all f):=by
 rw [drop_get h,List.all_cons]
theorem coCount_c (d:Nat):∀ (e:Co) (m:Int),e.size≤d→e.Lim→1≤m→m≤2000→PCall Tryz.prog 20 [.agg e.cells,.val (.int .i64 m)] (.val (.int .i64 (e.cnt m))):=by
 induction d with
 | zero=>intro e m hd;cases e;rw [Co.size] at hd;omega
 | succ d ih =>
  rintro ⟨k,s,n,⟨tk,ts,tn,tl⟩,us,ks,al,bs⟩ m hd hlim h1 h2
  obtain ⟨Z,hZ⟩:∃ Z,(Co.mk k s n ⟨tk,ts,tn,tl⟩ us ks al bs).cnt m=Z:=⟨_,rfl⟩
  rw [hZ]
  rw [Co.cnt] at hZ
  rw [Co.size] at hd
  rw [Co.Lim] at hlim
  obtain ⟨lu,lk,la,lb⟩:=hlim
  have HS:=fun t:Ty=>Small_c t 60 by6 by6
  have HSt:=HS ⟨tk,ts,tn,tl⟩
  have hlu:=Ty.cellss_len us
  have hlk:=Co.cellss_len ks
  have hla:=Ca.cellss_len al
  have hlb:=Cb.cellss_len bs
  refine Zd Tryz.func20 V (by kernel_rfl) V (Yh V) ?_
  refine Ql ?_
  refine c_lena (t:=0) (j:=8) V V (.seq _ _) (fun hmax=>?_)
  refine c_lena (t:=0) (j:=9) V V (.seq _ _) (fun hmax2=>?_)
  refine c_lena (t:=0) (j:=10) V V (.seq _ _) (fun hmax3=>?_)
  refine Qd ?_
  refine Q0 ?_
  refine Qh ?_
  refine QY ?_
  refine QaD ?_;intro n13
  refine QJ ?_
  refine QP ?_
  refine Qd ?_
  refine QaC ?_
  refine QaU ?_
  refine Zb 17 V V V (Zq (xs:=[.tmp 16,.const (.int .i64 60)]) V V (HSt) by1 ?_);intro c17 h17
  refine Q8 ?_;intro c18 h18
  try replace h18:=nott h18 h17
  refine Qb ?_
  obtain ⟨rfl,g18⟩|⟨rfl,g18⟩:=Za h18
  ·refine QO ?_
   refine Qe ?_
   rw [if_neg (by simpa using g18)] at hZ
   refine Qm ?_
   refine Qk ?_
   refine QaD ?_;intro n22
   refine Qam ?_
   apply c_loopk (rg [(0,1),(3,2),(6,2),(11,10),(23,9)]) (σ:=Nat) (fun zz=>match zz with|i=>[(23,.val (.int .i64 i))]) (fun zz=>match zz with|i=>[]) (fun zz=>match zz with|i=>i≤us.length∧(us.all fun t=>t.small 60)=(us.drop i).all fun t=>t.small 60) (fun zz=>match zz with|i=>us.length - i) (0)
   ·repeat' (first|exact Drops.nil|apply Drops.keep rfl|apply Drops.skip rfl)
   ·exact ⟨Nat.zero_le _,by rw [List.drop_zero]⟩
   ·exact by3
   ·exact (MLe.none _)
   rintro i hI
   try dsimp only [List.cons_append,List.nil_append] at hI ⊢
   obtain ⟨hi,hm⟩:=hI
   refine Qan ?_;intro c24 h24
   refine QR ?_
   obtain ⟨rfl,g24⟩|⟨rfl,g24⟩:=Za h24
   ·refine QH ?_
    refine Qe ?_
    rw [List.drop_of_length_le by7,List.all_nil] at hm
    rw [if_neg (by rw [hm];simp)] at hZ
    refine Qm ?_
    refine Qh ?_
    refine c_block ?_
    apply c_loopkm (rg [(0,1),(3,1),(5,4),(11,44)]) (σ:=Nat × Int) (fun zz=>match zz with|(i,c)=>[(5,.val (.int .i64 c)),(8,.val (.int .i64 i))]) (fun zz=>match zz with|(i,c)=>i≤ks.length∧1≤c∧c≤562949953421312 * m∧Cb.cnts bs m (Ca.cnts al m (Co.cnts (ks.drop i) m c))=Z) (fun zz=>match zz with|(i,c)=>ks.length - i) ((0,1+us.length))
    ·repeat' (first|exact Drops.nil|apply Drops.keep rfl|apply Drops.skip rfl)
    ·exact ⟨Nat.zero_le _,by show (1:Int)≤1+us.length;omega,by show (1:Int)+us.length≤_;omega,hZ⟩
    ·exact SLe.cons V (Le.ieq by7) by3
    rintro ⟨i,c⟩ hI
    try dsimp only [List.cons_append,List.nil_append] at hI ⊢
    obtain ⟨hi,hc1,hc2,hm⟩:=hI
    refine Qy ?_
    refine c_bool 41 (i<ks.length∧c<m) ?_ _ _ V ?_
    ·skip
     refine Qa ?_
     refine Qk ?_
     refine Qah ?_;intro n35
     refine Qi ?_;intro c36 h36
     refine Qa ?_
     obtain ⟨rfl,g36⟩|⟨rfl,g36⟩:=Za h36
     ·skip
      refine Qj ?_
      refine QS ?_
      refine Yf V ?_ by4 by2
      simp_all;omega
     skip
     refine QB ?_
     refine QB ?_
     refine QaS ?_;intro c40 h40
     refine Qp ?_
     refine Yf V ?_ by4 by2
     simp_all;done
    intro c41 h41
    refine Qc ?_
    obtain ⟨rfl,g41⟩|⟨rfl,g41⟩:=Za h41
    ·refine QH ?_
     refine Qe ?_
     rw [Co.cnts_end by7] at hm
     refine Qm ?_
     refine Qh ?_
     refine c_block ?_
     apply c_loopkm (rg [(0,1),(3,1),(5,5),(11,78)]) (σ:=Nat × Int) (fun zz=>match zz with|(i,c)=>[(5,.val (.int .i64 c)),(9,.val (.int .i64 i))]) (fun zz=>match zz with|(i,c)=>i≤al.length∧1≤c∧c≤562949953421312 * m∧Cb.cnts bs m (Ca.cnts (al.drop i) m c)=Z) (fun zz=>match zz with|(i,c)=>al.length - i) ((0,c))
     ·repeat' (first|exact Drops.nil|apply Drops.keep rfl|apply Drops.skip rfl)
     ·exact ⟨Nat.zero_le _,hc1,hc2,hm⟩
     ·exact by3
     rintro ⟨i,c⟩ hI
     try dsimp only [List.cons_append,List.nil_append] at hI ⊢
     obtain ⟨hi,hc1,hc2,hm⟩:=hI
     refine Qy ?_
     refine c_bool 64 (i<al.length∧c<m) ?_ _ _ V ?_
     ·skip
      refine Qa ?_
      refine Qk ?_
      refine Qa4 ?_;intro n58
      refine Qi ?_;intro c59 h59
      refine Qa ?_
      obtain ⟨rfl,g59⟩|⟨rfl,g59⟩:=Za h59
      ·skip
       refine Qj ?_
       refine QS ?_
       refine Yf V ?_ by4 by2
       simp_all;omega
      skip
      refine QB ?_
      refine QB ?_
      refine QaS ?_;intro c63 h63
      refine Qp ?_
      refine Yf V ?_ by4 by2
      simp_all;done
     intro c64 h64
     refine Qc ?_
     obtain ⟨rfl,g64⟩|⟨rfl,g64⟩:=Za h64
     ·refine QH ?_
      refine Qe ?_
      rw [Ca.cnts_end by7] at hm
      refine Qm ?_
      refine Qh ?_
      refine c_block ?_
      apply c_loopkm (rg [(0,1),(3,128)]) (σ:=Nat × Int) (fun zz=>match zz with|(i,c)=>[(5,.val (.int .i64 c)),(10,.val (.int .i64 i))]) (fun zz=>match zz with|(i,c)=>i≤bs.length∧1≤c∧c≤562949953421312 * m∧Cb.cnts (bs.drop i) m c=Z) (fun zz=>match zz with|(i,c)=>bs.length - i) ((0,c))
      ·repeat' (first|exact Drops.nil|apply Drops.keep rfl|apply Drops.skip rfl)
      ·exact ⟨Nat.zero_le _,hc1,hc2,hm⟩
      ·exact by3
      rintro ⟨i,c⟩ hI
      try dsimp only [List.cons_append,List.nil_append] at hI ⊢
      obtain ⟨hi,hc1,hc2,hm⟩:=hI
      refine Qy ?_
      refine c_bool 98 (i<bs.length∧c<m) ?_ _ _ V ?_
      ·skip
       refine Qa ?_
       refine Qk ?_
       refine Qav ?_;intro n92
       refine Qi ?_;intro c93 h93
       refine Qa ?_
       obtain ⟨rfl,g93⟩|⟨rfl,g93⟩:=Za h93
       ·skip
        refine Qj ?_
        refine QS ?_
        refine Yf V ?_ by4 by2
        simp_all;omega
       skip
       refine QB ?_
       refine QB ?_
       refine QaS ?_;intro c97 h97
       refine Qp ?_
       refine Yf V ?_ by4 by2
       simp_all;done
      intro c98 h98
      refine Qc ?_
      obtain ⟨rfl,g98⟩|⟨rfl,g98⟩:=Za h98
      ·refine Qap ?_
       rw [Cb.cnts_end by7] at hm
       subst hm
       exact Zg V V (Ye _) (MLe.none _) ⟨V,V⟩
      refine Qq ?_
      refine Qe ?_
      obtain ⟨⟨qb,qvs,⟨qwk,qws,qwn,qwl⟩,⟨qk,qs,qn,⟨qtk,qts,qtn,qtl⟩,qus,qks,qal,qbs⟩⟩,hxq⟩:=Ze (l:=bs) (i:=i) (by first|omega|(simp at *;omega))
      have hcq:=Cb.cellss_get hxq
      have hmq:=Yi hxq
      rw [drop_at hxq,Cb.cnts,if_pos g98.2,Cb.cnt] at hm
      have hlq:=(Cb.lims_iff _).1 lb _ hmq
      rw [Cb.Lim] at hlq
      obtain ⟨hlq,hqk⟩:=hlq
      have hqc:=Zm qvs
      have hsz:=Cb.size_mem hmq
      rw [Cb.size] at hsz
      have IH:=ih (Co.mk qk qs qn ⟨qtk,qts,qtn,qtl⟩ qus qks qal qbs) (m - c) by7 hlq by7 by7
      obtain ⟨z1,z2,_⟩:=Co.cnt_b (Co.mk qk qs qn ⟨qtk,qts,qtn,qtl⟩ qus qks qal qbs) (m - c) hlq by7 by7
      generalize (Co.mk qk qs qn ⟨qtk,qts,qtn,qtl⟩ qus qks qal qbs).cnt (m - c)=z at *
      have HSq:=HS ⟨qwk,qws,qwn,qwl⟩
      have hm:(if Ty.small ⟨qwk,qws,qwn,qwl⟩ 60=false then m else Cb.cnts (bs.drop (i+1)) m (c+(1+z+qvs.length)))=Z:=hm
      refine Qm ?_
      refine Qk ?_
      refine Qa ?_
      refine Zb 104 V V V (Zn V te_27 V (.seq _ _) V V (hcq) ?_)
      refine QaC ?_
      refine QaU ?_
      refine Zb 107 V V V (Zq (xs:=[.tmp 106,.const (.int .i64 60)]) V V (HSq) by1 ?_);intro c107 h107
      refine Q8 ?_;intro c108 h108
      try replace h108:=nott h108 h107
      refine Qb ?_
      obtain ⟨rfl,g108⟩|⟨rfl,g108⟩:=Za h108
      ·refine Qw ?_
       refine Qc ?_
       rw [if_neg (by simpa using g108)] at hm
       refine Qau ?_
       refine QD ?_
       refine QT ?_
       refine QbK ?_
       refine QM ?_
       refine QaA ?_
       refine Qab ?_
       refine QbL ?_
       refine Zl 120 V V (Zi (xs:=[.tmp 116,.tmp 119]) V V (IH) by1 ⟨V,V⟩) ?_
       refine QaI ?_
       refine QT ?_
       refine QbK ?_
       refine QM ?_
       refine QZ ?_
       refine Zl 128 V V (op_len V tu_30 V (.seq _ _) (fun _=>⟨V,V⟩)) ?_
       refine QaI ?_
       refine QaI ?_
       refine QaT ?_
       show AGo _ _ _ _ _ _ _
       refine Qaj ?_
       refine Qt ?_
       refine QJ ?_
       refine QV ?_
       exact ⟨(i+1,c+(1+z+qvs.length)),⟨by show i+1≤bs.length;omega,by show 1≤c+(1+z+qvs.length);omega,by show c+(1+z+qvs.length)≤562949953421312 * m;omega,hm⟩,by show bs.length - (i+1)<bs.length - i;omega,SLe.cons V (Le.ieq by7) by3,by2⟩
      refine Qf ?_
      refine QC ?_
      refine QG ?_
      rw [if_pos (by simpa using g108)] at hm
      subst hm
      exact Zg V V (Ye _) (MLe.none _) ⟨V,V⟩
     refine QU ?_
     obtain ⟨⟨⟨qqk,qqs,qqn,qql,qqp⟩,⟨qk,qs,qn,⟨qtk,qts,qtn,qtl⟩,qus,qks,qal,qbs⟩⟩,hxq⟩:=Ze (l:=al) (i:=i) (by first|omega|(simp at *;omega))
     have hcq:=Ca.cellss_get hxq
     have hmq:=Yi hxq
     rw [drop_at hxq,Ca.cnts,if_pos g64.2,Ca.cnt] at hm
     have hlq:=(Ca.lims_iff _).1 la _ hmq
     rw [Ca.Lim] at hlq
     obtain ⟨hlq,hqk⟩:=hlq
     have hqk:qql.length≤140737488355328:=hqk
     have hqc:=Pa.cellss_len qql
     have hsz:=Ca.size_mem hmq
     rw [Ca.size] at hsz
     have IH:=ih (Co.mk qk qs qn ⟨qtk,qts,qtn,qtl⟩ qus qks qal qbs) (m - c) by7 hlq by7 by7
     obtain ⟨z1,z2,_⟩:=Co.cnt_b (Co.mk qk qs qn ⟨qtk,qts,qtn,qtl⟩ qus qks qal qbs) (m - c) hlq by7 by7
     generalize (Co.mk qk qs qn ⟨qtk,qts,qtn,qtl⟩ qus qks qal qbs).cnt (m - c)=z at *
     have hm:Cb.cnts bs m (Ca.cnts (al.drop (i+1)) m (c+(1+z+qql.length)))=Z:=hm
     refine Qau ?_
     refine QD ?_
     refine QT ?_
     refine QbM ?_
     refine QM ?_
     refine QaA ?_
     refine Qab ?_
     refine QbL ?_
     refine Zl 77 V V (Zi (xs:=[.tmp 73,.tmp 76]) V V (IH) by1 ⟨V,V⟩) ?_
     refine QaI ?_
     refine QT ?_
     refine QbM ?_
     refine QM ?_
     refine QM ?_
     refine QZ ?_
     refine Zl 86 V V (op_len V tu_62 V (.seq _ _) (fun _=>⟨V,V⟩)) ?_
     refine QaI ?_
     refine QaI ?_
     refine QaT ?_
     show AGo _ _ _ _ _ _ _
     refine Qaj ?_
     refine Qt ?_
     refine QJ ?_
     refine QV ?_
     exact ⟨(i+1,c+(1+z+qql.length)),⟨by show i+1≤al.length;omega,by show 1≤c+(1+z+qql.length);omega,by show c+(1+z+qql.length)≤562949953421312 * m;omega,hm⟩,by show al.length - (i+1)<al.length - i;omega,SLe.cons V (Le.ieq by7) by3,by2⟩
    refine QU ?_
    obtain ⟨⟨qk,qs,qn,⟨qtk,qts,qtn,qtl⟩,qus,qks,qal,qbs⟩,hxq⟩:=Ze (l:=ks) (i:=i) (by first|omega|(simp at *;omega))
    have hcq:=Co.cellss_get hxq
    have hmq:=Yi hxq
    rw [drop_at hxq,Co.cnts,if_pos g41.2] at hm
    have hlq:=(Co.lims_iff _).1 lk _ hmq
    have hsz:=Co.size_mem hmq
    have IH:=ih (Co.mk qk qs qn ⟨qtk,qts,qtn,qtl⟩ qus qks qal qbs) (m - c) by7 hlq by7 by7
    obtain ⟨z1,z2,_⟩:=Co.cnt_b (Co.mk qk qs qn ⟨qtk,qts,qtn,qtl⟩ qus qks qal qbs) (m - c) hlq by7 by7
    generalize (Co.mk qk qs qn ⟨qtk,qts,qtn,qtl⟩ qus qks qal qbs).cnt (m - c)=z at *
    refine Qae ?_
    refine Qa ?_
    refine Zb 48 V V V (Zn V te_25 V (.seq _ _) V V (hcq) ?_)
    refine QA ?_
    refine Qa ?_
    refine Qa ?_
    refine Zb 52 V V V (op_sub V V V (IntWalk.i64_in _ by7) ?_)
    refine Zb 53 V V V (Zi (xs:=[.tmp 49,.tmp 52]) V V (IH) by1 ?_)
    refine QJ ?_
    refine Q3 ?_
    exact ⟨(i+1,c+z),⟨by show i+1≤ks.length;omega,by show 1≤c+z;omega,by show c+z≤562949953421312 * m;omega,hm⟩,by show ks.length - (i+1)<ks.length - i;omega,by3,by2⟩
   refine Qq ?_
   obtain ⟨⟨qk,qs,qn,ql⟩,hxq⟩:=Ze (l:=us) (i:=i) (by first|omega|(simp at *;omega))
   have hcq:=Ty.cellss_get hxq
   have hmq:=Yi hxq
   rw [all_drop hxq] at hm
   have HSq:=HS ⟨qk,qs,qn,ql⟩
   refine Qm ?_
   refine Zb 25 V V V (Zn V te_22 V (.seq _ _) V V (hcq) ?_)
   refine QaU ?_
   refine Zb 7 V V V (op_alloce (cs':=[_,_,_,_]) V tz_24 V V ?_);intro b7
   refine AOps.st0 V V (Yc (cs':=[_,_,_,_]) (i:=0) V ts_24 V V V V V (Yh V) V ?_)
   refine Qb ?_
   refine Qd ?_
   refine QbJ ?_
   refine Zb 28 V V V (Zq (xs:=[.tmp 27,.const (.int .i64 60)]) V V (HSq) by1 ?_);intro c28 h28
   refine Q8 ?_;intro c29 h29
   try replace h29:=nott h29 h28
   refine Qb ?_
   obtain ⟨rfl,g29⟩|⟨rfl,g29⟩:=Za h29
   ·refine Qw ?_
    refine Qao ?_
    exact ⟨i+1,⟨by show i+1≤us.length;omega,by rw [hm,show Ty.small ⟨qk,qs,qn,ql⟩ 60=true by simpa using g29,Bool.true_and]⟩,by show us.length - (i+1)<us.length - i;omega,by3,by2⟩
   refine Qf ?_
   refine QC ?_
   refine QG ?_
   rw [if_pos (by rw [hm,show Ty.small ⟨qk,qs,qn,ql⟩ 60=false by simpa using g29];rfl)] at hZ
   subst hZ
   exact Zg V V (Ye _) (MLe.none _) ⟨V,V⟩
  refine Qf ?_
  refine QC ?_
  refine QG ?_
  rw [if_pos (by simpa using g18)] at hZ
  subst hZ
  exact Zg V V (Ye _) (MLe.none _) ⟨V,V⟩
def Co.small (e:Co) (most:Int):Prop:=e.cnt (most+1)≤most
theorem coSmall_c (e:Co) (hl:e.Lim) (most:Int) (h1:0≤most) (h2:most≤1900):BCall Tryz.prog 6 [.agg e.cells,.val (.int .i64 most)] (e.small most):=by
 unfold Co.small
 have H:=coCount_c e.size e (most+1) (Nat.le_refl _) hl by7 by7
 generalize e.cnt (most+1)=c at *
 obtain ⟨k,s,n,⟨tk,ts,tn,tl⟩,us,ks,al,bs⟩:=e
 refine Zd Tryz.func6 V (by kernel_rfl) V (Yh V) ?_
 refine Qac ?_
 refine Q0 ?_
 refine Qh ?_
 refine Qd ?_
 refine QA ?_
 refine Qa ?_
 refine QJ ?_
 refine Zb 8 V V V (Zi (xs:=[.tmp 5,.tmp 7]) V V (H) by1 ?_)
 refine Qa ?_
 refine Zb 10 V V V (op_leq V V V ?_);intro c10 h10
 refine QG ?_
 exact Zg V V (Ye _) (MLe.none _) ⟨⟨_,h10,V⟩,V⟩
end Go.Proofs.YtlkagbbbhkkogaaGreatDoor
