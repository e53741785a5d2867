/- Parts of a proof: declarations that were parsed: names, types of constructors and methods; An expression's bulk bounds what it holds.; core expressions: bounds from the bulk of what is read; the document's parser: next, is; the document's parser: fail, take, may, deeper; the document's parser: name, uppers, starts; the document's parser: atype, Type; the document's parser: apat, pat; fix.Level; cognateref04.Level; the document's operators: Level, Side, Clash; the document's parser: Build; the document's parser: bind, lambda; the document's parser: atom; the document's parser: atom, in brackets; the document's parser: operand; the document's parser: Exp; the document's parser: data; the document's parser: class; the document's parser: instance; the document's parser: begin, Prog; the document's Type of a text; the document's primitives (printed by wip/gen22/r.py); the document's Start, Check; the declarations of a source; a core program's check: the program and the document answer the same; core: a closed type in the place of a variable -/
import Derived.Test.YteepjjgooplljaaGreatKLZPut5
set_option maxRecDepth 100000
set_option maxHeartbeats 4000000
namespace Go.Proofs.YteepjjgooplljaaGreat
section
variable {L:List Tok}
theorem take2_nm (hL:∀ t∈L,TQ t) (p:PS):NmB (takeP L p 2 kE).1.t:=by
 have h0:NmB (tok0 0).t:=nmB_kE
 unfold takeP
 by_cases he:p.e≠0
 ·rw [if_pos he]
  unfold nxt
  rw [if_pos he]
  exact h0
 rw [if_neg he]
 split
 ·exact h0
 rename_i hc
 have hk:(nxt L p).k=2:=Classical.not_not.1 fun q=>hc (.inl ⟨by decide,q⟩)
 show NmB (nxt L p).t
 unfold nxt at hk ⊢
 rw [if_neg he] at hk ⊢
 cases hx:L[p.at_]? with
 | none=>rw [hx] at hk;simp [tok0] at hk
 | some t =>
  rw [hx] at hk
  exact hL t (We hx) hk
theorem uppersL_nm (hL:∀ t∈L,TQ t):∀ (f:Nat) (p:PS) (acc:List ByteArray),(∀ s∈acc,NmB s)→∀ s∈(uppersL L f p acc).1,NmB s
 | 0,p,acc,h=>h
 | f+1,p,acc,h=>by
  unfold uppersL
  split
  ·refine uppersL_nm hL f _ _ (fun s hs=>?_)
   rcases List.mem_append.1 hs with q|q
   ·exact h s q
   rw [List.mem_singleton.1 q];exact take2_nm hL _
  exact h
theorem uppers_nm (hL:∀ t∈L,TQ t) (p:PS):∀ s∈(uppersP L p).1,NmB s :=
 uppersL_nm hL _ _ _ (fun s hs=>by rw [List.mem_singleton.1 hs];exact take2_nm hL _)
def CnT (c:Cn):Prop:=c.ts.length≤1000000∧∀ t∈c.ts,t.size≤9000
def DaT (d:Da):Prop:=NmB d.s∧∀ c∈d.cs,CnT c
def ClT (c:Cl):Prop:=(∀ u∈c.su,NmB u)∧∀ m∈c.ms,m.t.size≤9000
theorem con_t (hn:L.length≤4000) {p:PS} (k:POk L 302 p):CnT (conP L p).1:=by
 have a1:=Zo (L:=L) (kind:=2) (s:=kE) (by decide) k
 have h:=typesL_size (T:=typeP L) (fun q kq=>typeF_size (L:=L) 302 q kq) Xh (L.length+1) (takeP L p 2 kE).2 [] (a1.ok k)
 have a2:=typesL_adv (L:=L) (n:=302) (T:=typeP L) Xh (L.length+1) (takeP L p 2 kE).2 [] (a1.ok k)
 have h2:=a2.2.1
 show (typesL L (typeP L) (L.length+1) (takeP L p 2 kE).2 []).1.length≤1000000∧∀ t∈(typesL L (typeP L) (L.length+1) (takeP L p 2 kE).2 []).1,t.size≤9000
 generalize (typesL L (typeP L) (L.length+1) (takeP L p 2 kE).2 [])=r at *
 simp only [Ty.sizes] at h
 have hl:=Ty.len_sizes r.1
 refine ⟨by omega,fun t ht=>?_⟩
 obtain ⟨i,hi⟩:=List.mem_iff_getElem?.1 ht
 have:=Ty.size_at hi
 omega
theorem consL_t (hn:L.length≤4000):∀ (f:Nat) (p:PS) (acc:List Cn),POk L 302 p→(∀ c∈acc,CnT c)→∀ c∈(consL L f p acc).1,CnT c
 | 0,p,acc,k,h=>h
 | f+1,p,acc,k,h=>by
  unfold consL
  by_cases he:p.e≠0
  ·rw [if_pos he];exact h
  rw [if_neg he]
  have a1:=con_adv k
  have hc:=con_t hn k
  have h2:∀ c∈acc++[(conP L p).1],CnT c:=fun c hc2=>by
   rcases List.mem_append.1 hc2 with q|q
   ·exact h c q
   rw [List.mem_singleton.1 q];exact hc
  by_cases hb:isP L (conP L p).2 kBar=true
  ·rw [if_pos hb]
   exact consL_t hn f _ _ ((Yj (a1.ok k) hb).ok (a1.ok k)) h2
  rw [if_neg hb];exact h2
theorem data_t (hL:∀ t∈L,TQ t) (hn:L.length≤4000) {p:PS} (k:POk L 302 p):DaT (dataP L p).1:=by
 have a1:=Zo (L:=L) (kind:=2) (s:=kE) (by decide) k
 have a2:=a1.trans (paramsL_adv (L.length+1) _ [] (a1.ok k))
 have a3:=a2.trans (Zo (kind:=7) (s:=kEq) (by decide) (a2.ok k))
 exact ⟨take2_nm hL p,consL_t hn (L.length+1) _ [] (a3.ok k) (fun c hc=>by simp at hc)⟩
theorem class_t (hL:∀ t∈L,TQ t) (hn:L.length≤4000) {p:PS} (k:POk L 302 p):ClT (classP L p).1:=by
 have a1:=Zo (L:=L) (kind:=2) (s:=kE) (by decide) k
 have a2:=a1.trans (Zo (kind:=1) (s:=kE) (by decide) (a1.ok k))
 have a3:=a2.trans (supers_adv (a2.ok k))
 have a4:=a3.trans (Zo (kind:=6) (s:=kWhere) (by decide) (a3.ok k))
 refine ⟨?_,?_⟩
 ·show ∀ u∈(supersP L (takeP L (takeP L p 2 kE).2 1 kE).2).1,NmB u
  unfold supersP
  split
  ·exact uppers_nm hL _
  simp
 exact clsL_mt (L:=L) (B:=9000) (by omega) (L.length+1) _ [] [] (a4.ok k) (fun m hm=>by simp at hm)
def PgT (x:Pg):Prop:=(∀ d∈x.da,DaT d)∧∀ c∈x.cl,ClT c
theorem decl_t (hL:∀ t∈L,TQ t) (hn:L.length≤4000) {p:PS} {x:Pg} (k:POk L 302 p) (h:PgT x):PgT (declP L p x).1:=by
 obtain ⟨h1,h2⟩:=h
 obtain ⟨da,cl,ins,bs⟩:=x
 unfold declP
 by_cases q1:isP L p kData=true
 ·rw [if_pos q1]
  refine ⟨fun d hd=>?_,h2⟩
  rcases List.mem_append.1 hd with q|q
  ·exact h1 d q
  rw [List.mem_singleton.1 q];exact data_t hL hn ((Yj k q1).ok k)
 by_cases q2:isP L p kClass=true
 ·rw [if_neg q1,if_pos q2]
  refine ⟨h1,fun d hd=>?_⟩
  rcases List.mem_append.1 hd with q|q
  ·exact h2 d q
  rw [List.mem_singleton.1 q];exact class_t hL hn ((Yj k q2).ok k)
 by_cases q3:isP L p kInst=true
 ·rw [if_neg q1,if_neg q2,if_pos q3]
  exact ⟨h1,h2⟩
 rw [if_neg q1,if_neg q2,if_neg q3]
 exact ⟨h1,h2⟩
theorem progL_t (hL:∀ t∈L,TQ t) (hn:L.length≤4000):∀ (f:Nat) (p:PS) (x:Pg),POk L 302 p→PgT x→PgT (progL L f p x).1
 | 0,p,x,k,h=>h
 | f+1,p,x,k,h=>by
  unfold progL
  by_cases he:p.e≠0∨(nxt L p).k=0
  ·rw [if_pos he];exact h
  rw [if_neg he]
  have a1:=decl_adv x k
  have a2:=a1.trans (Zo (kind:=7) (s:=kSemi) (by decide) (a1.ok k))
  exact progL_t hL hn f _ _ (a2.ok k) (decl_t hL hn k h)
end
theorem progT_t (s:ByteArray) (hs:s.size≤3000):PgT (progT s).1:=by
 have hL:=scanT_len2 s
 unfold progT
 dsimp only
 split
 ·exact ⟨fun d hd=>by simp [pg0,Pg.da] at hd,fun d hd=>by simp [pg0,Pg.cl] at hd⟩
 have k0:POk (scanT s).1 302 (beginP (scanT s)):=by
  unfold beginP
  split
  ·unfold failP POk;simp
  unfold POk;simp
 exact progL_t (scanT_tq s) (by omega) _ _ pg0 k0 ⟨fun d hd=>by simp [pg0,Pg.da] at hd,fun d hd=>by simp [pg0,Pg.cl] at hd⟩
theorem env_t (s:ByteArray) (hs:s.size≤3000):EnT (envOf (progT s).1)∧∀ q,isBr q=true→arityR (envOf (progT s).1) q<0:=by
 have h:=progT_t s hs
 have hb:=(progT_b s).cls
 generalize (progT s).1=x at *
 obtain ⟨da,cl,ins,bs⟩:=x
 obtain ⟨h1,h2⟩:=h
 replace h1:∀ d∈da,DaT d:=h1
 replace h2:∀ c∈cl,ClT c:=h2
 replace hb:∀ c∈cl,ClB c:=hb
 refine ⟨⟨fun c hc u hu=>?_,fun c hc=>?_,fun c hc m hm=>(h2 c hc).2 m hm,fun d hd c hc=>(h1 d hd).2 c hc⟩,noBr_of (v:=.mk da cl ins) fun d hd=>(h1 d hd).1⟩
 ·have:=((h2 c hc).1 u hu).1;omega
 have:=hb c hc;unfold ClB at this;omega
open Go.RowKit
mutual
theorem Pa.size_bulk:∀ q:Pa,q.size≤bulks q.cells
 | .mk k s n ks p=>by
  have:=Pa.sizes_bulk ks
  simp only [Pa.size,Pa.cells,bulks,AV.bulk];omega
theorem Pa.sizes_bulk:∀ l:List Pa,Pa.sizes l≤bulkss (Pa.cellss l)
 | []=>by simp [Pa.sizes,Pa.cellss,bulkss]
 | x::l=>by
  have:=Pa.size_bulk x
  have:=Pa.sizes_bulk l
  simp only [Pa.sizes,Pa.cellss,bulkss];omega
end
theorem ty4_bulk (t:Ty):4≤bulks t.cells:=by
 obtain ⟨k,s,n,ks⟩:=t
 simp only [Ty.cells,bulks,AV.bulk]
 omega
theorem tys_bulk:∀ l:List Ty,4 * l.length≤bulkss (Ty.cellss l)
 | []=>Nat.zero_le _
 | t::l=>by
  have h1:=ty4_bulk t
  have h2:=tys_bulk l
  simp only [Ty.cellss,bulkss,List.length_cons]
  omega
theorem strs_bulk:∀ l:List ByteArray,l.length≤bulkss (strs l)
 | []=>Nat.zero_le _
 | t::l=>by
  have h2:=strs_bulk l
  simp only [strs,List.map_cons,bulkss,bulks,AV.bulk,List.length_cons] at h2 ⊢
  omega
mutual
theorem Co.n_bulk:∀ e:Co,e.N≤bulks e.cells
 | .mk k s n t ts ks al bs=>by
  have h1:=Co.ns_bulk ks
  have h2:=Ca.ns_bulk al
  have h3:=Cb.ns_bulk bs
  simp only [Co.N,Co.cells,bulks,bulks_app,AV.bulk]
  omega
theorem Co.ns_bulk:∀ l:List Co,Co.Ns l≤bulkss (Co.cellss l)
 | []=>Nat.zero_le _
 | x::l=>by
  have h1:=Co.n_bulk x
  have h2:=Co.ns_bulk l
  simp only [Co.Ns,Co.cellss,bulkss]
  omega
theorem Ca.n_bulk:∀ e:Ca,e.N≤1+bulks e.cells
 | .mk q e=>by
  have h1:=Co.n_bulk e
  have h2:=Pa.size_bulk q
  simp only [Ca.N,Ca.cells,bulks_app]
  omega
theorem Ca.ns_bulk:∀ l:List Ca,Ca.Ns l≤bulkss (Ca.cellss l)
 | []=>Nat.zero_le _
 | .mk q e::l=>by
  have h1:=Co.n_bulk e
  have h2:=Ca.ns_bulk l
  have h3:=Pa.size_bulk q
  have h4:q.size+1≤bulks q.cells:=by
   obtain ⟨k,s,n,ks,p⟩:=q
   have:=Pa.sizes_bulk ks
   simp only [Pa.size,Pa.cells,bulks,AV.bulk]
   omega
  simp only [Ca.Ns,Ca.N,Ca.cellss,Ca.cells,bulkss,bulks_app]
  omega
theorem Cb.ns_bulk:∀ l:List Cb,Cb.Ns l≤bulkss (Cb.cellss l)
 | []=>Nat.zero_le _
 | .mk s vs t e::l=>by
  have h1:=Co.n_bulk e
  have h2:=Cb.ns_bulk l
  have h3:=strs_bulk vs
  simp only [Cb.Ns,Cb.N,Cb.cellss,Cb.cells,bulkss,bulks,bulks_app,AV.bulk]
  omega
end
mutual
theorem Co.sz_bulk:∀ e:Co,bulks e.cells≤1048576→e.Sz
 | .mk k s n t ts ks al bs,h=>by
  have h4:=tys_bulk ts
  simp only [Co.cells,bulks,bulks_app,AV.bulk] at h
  rw [Co.Sz]
  exact ⟨by omega,by omega,Co.szs_bulk ks (by omega),Ca.szs_bulk al (by omega),Cb.szs_bulk bs (by omega)⟩
theorem Co.szs_bulk:∀ l:List Co,bulkss (Co.cellss l)≤1048576→Co.Szs l
 | [],_=>trivial
 | x::l,h=>by
  simp only [Co.cellss,bulkss] at h
  exact ⟨Co.sz_bulk x (by omega),Co.szs_bulk l (by omega)⟩
theorem Ca.szs_bulk:∀ l:List Ca,bulkss (Ca.cellss l)≤1048576→Ca.Szs l
 | [],_=>trivial
 | .mk q e::l,h=>by
  simp only [Ca.cellss,Ca.cells,bulkss,bulks_app] at h
  exact ⟨Co.sz_bulk e (by omega),Ca.szs_bulk l (by omega)⟩
theorem Cb.szs_bulk:∀ l:List Cb,bulkss (Cb.cellss l)≤1048576→Cb.Szs l
 | [],_=>trivial
 | .mk s vs t e::l,h=>by
  simp only [Cb.cellss,Cb.cells,bulkss,bulks,bulks_app] at h
  exact ⟨Co.sz_bulk e (by omega),Cb.szs_bulk l (by omega)⟩
end
def psC (L:List Tok) (p:PS):List AV:=[.seq 4 (L.map Tok.av),.val (.int .i64 p.at_),.val (.int .i64 p.lv),.val (.int .i64 p.e),.val (.int .i64 p.wh)]
theorem next_c (b:Nat) (L:List Tok) (p:PS):KCall Tryz.prog 54 [.ptr b 0] [.loc b (psC L p)] (.agg (nxt L p).av):=by
 obtain ⟨a,lv,e,wh⟩:=p
 have hl:(L.map Tok.av).length=L.length:=List.length_map _
 simp only [psC]
 refine Zc Tryz.func54 V (by kernel_rfl) V (Xz V) ?_
 refine Q415 ?_;intro b2
 refine Q426 ?_
 refine c_boold 19 (e≠0∨L.length≤a) Xl V ?_ _ _ V ?_
 ·skip
  refine Q20 ?_
  refine Zx 4 V V (op_nilCheck_m V V ⟨V,V⟩) ?_
  refine Q425 ?_
  refine Yr 7 V V (fun _ q=>op_neq V V V q) ?_;intro c7 h7
  refine Q20 ?_
  rcases Za h7 with ⟨rfl,g7⟩|⟨rfl,g7⟩
  ·skip
   refine Q50 ?_
   refine Yg 10 V V V V (op_nilCheck_m V V ⟨V,V⟩) ?_
   refine Q83 ?_
   refine Yg 12 V V V V (op_load_m1 (i:=1) V ta_3 V V V ⟨V,V⟩) ?_
   refine Q50 ?_
   refine Yg 14 V V V V (op_nilCheck_m V V ⟨V,V⟩) ?_
   refine Q83 ?_
   refine Yg 16 V V V V (op_load_m1 (i:=1) V ta_105 V V V ⟨V,V⟩) ?_
   refine Yg 17 V V V V (Yu V tu_105 V (.seq _ _) (fun _=>⟨V,V⟩)) ?_
   refine Ys 18 V V V V (fun _ q=>op_geq V V V q) ?_;intro c18 h18
   refine Q33 ?_
   show BoolQ _ _ _ _ _ _
   refine Xx V ?_ by5 by3
   simp_all;done
  skip
  refine Q348 ?_
  refine Q486 ?_
  show BoolQ _ _ _ _ _ _
  refine Xx V ?_ by5 by3
  simp_all;done
 intro c19 h19
 refine Q1 ?_
 rcases Za h19 with ⟨rfl,g19⟩|⟨rfl,g19⟩
 ·refine Q242 ?_
  obtain ⟨t,ht⟩:=Zr (l:=L) (i:=a) (by omega)
  have htc:(L.map Tok.av)[a]?=some t.av:=by rw [List.getElem?_map,ht];rfl
  refine Yp [0,1,2,3,4,5,6,7,8,9,10] [10] [[],[0],[0,1],[0,1,2],[],[4],[4,5],[4,5,6],[0,1,2,3,4,5,6,7],[0,1,2,3,4,5,6,7,8],[0,1,2,3,4,5,6,7,8,9]] Xl V ?_
  refine Q24 ?_
  refine Q137 ?_
  refine Q433 ?_
  refine Q24 ?_
  refine Q137 ?_
  refine Q433 ?_
  refine Zm 29 (none) (i:=8) V V V V V (Zg V te_105 V (.seq _ _) V V (htc) ⟨V,V⟩) ?_
  refine Zm 30 (none) (i:=9) V V V V V (Yb (cs':=[_,_,_,_]) V Zv V V V ⟨V,V⟩) ?_
  refine Yf 0 (i:=10) V V V V V (Zu (cs':=[_,_,_,_]) (i:=0) V ts_109 V V V V V (Xz V) V ⟨_,V,?_⟩)
  show AGo _ _ _ _ _ _ _
  refine Q303 ?_
  first|refine Zj (i:=0) V V V Zv V (Xt _) by3 ⟨?_,V⟩|refine Zj (i:=1) V V V Zv V (Xt _) by3 ⟨?_,V⟩
  have hn:nxt L ⟨a,lv,e,wh⟩=t:=by
   unfold nxt
   rw [if_neg (fun q=>g19 (.inl q)),ht];rfl
  rw [hn];rfl
 refine Q240 ?_
 refine Q205 ?_
 refine Q44 ?_
 refine Q257 ?_
 first|refine Zj (i:=0) V V V Zv V (Xt _) by3 ⟨?_,V⟩|refine Zj (i:=1) V V V Zv V (Xt _) by3 ⟨?_,V⟩
 have hn:nxt L ⟨a,lv,e,wh⟩=tok0 0:=by
  unfold nxt
  by_cases q:e≠0
  ·rw [if_pos q]
  rw [if_neg q,List.getElem?_eq_none (g19.resolve_left q)];rfl
 rw [hn];rfl
theorem is_p (b:Nat) (L:List Tok) (p:PS) (s:ByteArray):KBCall Tryz.prog 99 [.ptr b 0,.val (.string s)] [.loc b (psC L p)] (isP L p s=true):=by
 have HN:=next_c b L p
 have hI:isP L p s=true↔(6≤(nxt L p).k∧(nxt L p).t=s):=by unfold isP;simp
 generalize isP L p s=c at *
 generalize nxt L p=t at *
 obtain ⟨tk,tt,tn,ta⟩:=t
 simp only [Tok.av] at HN hI
 refine Zc Tryz.func99 V (by kernel_rfl) V (Xz V) ?_
 refine Q438 ?_
 refine Zb 7 V V V (Yw (xs:=[.tmp 6]) [0] V V V (HN) by1 ?_)
 refine Q39 ?_;intro b5
 refine Q44 ?_
 refine Q241 ?_
 refine Zy 4 (6≤tk∧tt=s) ?_ _ _ V ?_
 ·skip
  refine Q243 ?_
  refine Q46 ?_;intro c10 h10
  refine Q5 ?_
  rcases Za h10 with ⟨rfl,g10⟩|⟨rfl,g10⟩
  ·skip
   refine Q251 ?_
   refine Q273 ?_
   refine Xx V ?_ by5 by3
   clear HN hI;first|(simp_all;done)|grind
  skip
  refine Q336 ?_
  refine Q16 ?_
  refine Q78 ?_;intro c15 h15
  refine Q273 ?_
  refine Xx V ?_ by5 by3
  clear HN hI;first|(simp_all;done)|grind
 intro c4 h4
 refine Q303 ?_
 exact Zf V V (Xt _) by3 ⟨⟨_,h4.trans hI.symm,V⟩,V⟩
theorem fail_c (b:Nat) (L:List Tok) (p:PS) (e wh:Int):MCall Tryz.prog 98 [.ptr b 0,.val (.int .i64 e),.val (.int .i64 wh)] (.loc b (psC L p)) (.tup []) (.loc b (psC L (failP p e wh))):=by
 obtain ⟨a,lv,e0,wh0⟩:=p
 have hf:failP ⟨a,lv,e0,wh0⟩ e wh=if e0=0 then ⟨a,lv,e,wh⟩ else ⟨a,lv,e0,wh0⟩:=rfl
 rw [hf]
 simp only [psC]
 refine Zc Tryz.func98 V (by kernel_rfl) V (Xz V) ?_
 refine Q15 ?_
 refine Q229 ?_
 refine Q37 ?_
 refine Q525 ?_;intro c10 h10
 refine Q226 ?_
 rcases Za h10 with ⟨rfl,g10⟩|⟨rfl,g10⟩
 ·refine Q267 ?_
  refine go_end ?_
  exact out_none V (Xs (by simp [g10] <;> rfl)) ⟨V,V⟩
 refine Q391 ?_
 refine Q309 ?_
 refine Q138 ?_
 refine Q226 ?_
 refine Q314 ?_
 refine Q309 ?_
 refine Q138 ?_
 refine Q3 ?_
 refine go_end ?_
 exact out_none V (Xs (by simp [g10] <;> rfl)) ⟨V,V⟩
theorem take_c (b:Nat) (L:List Tok) (hL:L.length≤100000) (p:PS) (hp:p.at_≤L.length) (kind:Int) (s:ByteArray):MCall Tryz.prog 59 [.ptr b 0,.val (.int .i64 kind),.val (.string s)] (.loc b (psC L p)) (.agg (takeP L p kind s).1.av) (.loc b (psC L (takeP L p kind s).2)):=by
 have HN:=next_c b L p
 have HF:=fail_c b L p 110 (nxt L p).a
 obtain ⟨t,ht⟩:∃ t,nxt L p=t:=⟨_,rfl⟩
 obtain ⟨r,hr⟩:∃ r,takeP L p kind s=r:=⟨_,rfl⟩
 have hr0:=hr
 unfold takeP at hr
 rw [ht] at HN HF hr
 rw [hr0]
 obtain ⟨a,lv,e0,wh0⟩:=p
 obtain ⟨tk,tt,tn,ta⟩:=t
 have hp:a≤L.length:=hp
 simp only [psC,Tok.av] at HN HF hr ⊢
 refine Zc Tryz.func59 V (by kernel_rfl) V (Xz V) ?_
 refine Q415 ?_;intro b6
 refine Q287 ?_
 refine Zb 9 V V V (Yw (xs:=[.tmp 8]) [1] V V V (HN) by1 ?_)
 refine Q39 ?_;intro b7
 refine Q397 ?_
 refine Q421 ?_
 refine Q34 ?_;intro c14 h14
 refine Q226 ?_
 rcases Za h14 with ⟨rfl,g14⟩|⟨rfl,g14⟩
 ·refine Q324 ?_
  refine Zy 38 ((kind<6∧tk≠kind)∨(6≤kind∧(tk<6∨tt≠s))) ?_ _ _ V ?_
  ·skip
   refine Q508 ?_;intro c17 h17
   refine Q5 ?_
   rcases Za h17 with ⟨rfl,g17⟩|⟨rfl,g17⟩
   ·skip
    refine Q442 ?_
    refine Q547 ?_;intro c26 h26
    refine Q16 ?_
    rcases Za h26 with ⟨rfl,g26⟩|⟨rfl,g26⟩
    ·skip
     refine Q251 ?_
     refine Q530 ?_
     refine Xx V ?_ by5 by3
     clear HN HF hr;first|(simp_all;done)|grind
    skip
    refine Q336 ?_
    refine Q61 ?_;intro c30 h30
    refine Q16 ?_
    rcases Za h30 with ⟨rfl,g30⟩|⟨rfl,g30⟩
    ·skip
     refine Q336 ?_
     refine Q16 ?_
     refine Q122 ?_;intro c35 h35
     refine Q377 ?_
     refine Xx V ?_ by5 by3
     clear HN HF hr;first|(simp_all;done)|grind
    skip
    refine Q498 ?_
    refine Xx V ?_ by5 by3
    clear HN HF hr;first|(simp_all;done)|grind
   skip
   refine Q336 ?_
   refine Q16 ?_
   refine Q66 ?_;intro c22 h22
   refine Q260 ?_
   rcases Za h22 with ⟨rfl,g22⟩|⟨rfl,g22⟩
   ·skip
    refine Q547 ?_;intro c26 h26
    refine Q16 ?_
    rcases Za h26 with ⟨rfl,g26⟩|⟨rfl,g26⟩
    ·skip
     refine Q251 ?_
     refine Q530 ?_
     refine Xx V ?_ by5 by3
     clear HN HF hr;first|(simp_all;done)|grind
    skip
    refine Q336 ?_
    refine Q61 ?_;intro c30 h30
    refine Q16 ?_
    rcases Za h30 with ⟨rfl,g30⟩|⟨rfl,g30⟩
    ·skip
     refine Q336 ?_
     refine Q16 ?_
     refine Q122 ?_;intro c35 h35
     refine Q377 ?_
     refine Xx V ?_ by5 by3
     clear HN HF hr;first|(simp_all;done)|grind
    skip
    refine Q498 ?_
    refine Xx V ?_ by5 by3
    clear HN HF hr;first|(simp_all;done)|grind
   skip
   refine Q279 ?_
   refine Q460 ?_
   refine Q460 ?_
   refine Q528 ?_
   refine Q236 ?_
   refine Xx V ?_ by5 by3
   clear HN HF hr;first|(simp_all;done)|grind
  intro c38 h38
  refine Q1 ?_
  rcases Za h38 with ⟨rfl,g38⟩|⟨rfl,g38⟩
  ·refine Q321 ?_
   refine Q421 ?_
   refine Q434 ?_
   refine Q115 ?_
   refine Q258 ?_
   refine Q28 ?_
   refine Q31 ?_
   refine Q257 ?_
   rw [if_neg g14,if_neg g38] at hr;subst hr;exact Zj (i:=1) rfl rfl rfl Zv rfl (Xt _) (Xq _ (Xq _ (Xs rfl))) ⟨rfl,rfl⟩
  refine Q504 ?_
  refine Zb 42 V V V (Zi (xs:=[.tmp 39,.const (.int .i64 110),.tmp 41]) (i:=2) V V V (HF) by1 ?_)
  refine Q258 ?_
  refine Q205 ?_
  refine Q31 ?_
  refine Q257 ?_
  rw [if_neg g14,if_pos g38] at hr;subst hr;exact Zj (i:=1) rfl rfl rfl Zv rfl (Xt _) by3 ⟨rfl,rfl⟩
 refine Q476 ?_
 refine Q31 ?_
 refine Q257 ?_
 rw [if_pos g14] at hr;subst hr;exact Zj (i:=1) rfl rfl rfl Zv rfl (Xt _) by3 ⟨rfl,rfl⟩
theorem may_c (b:Nat) (L:List Tok) (hL:L.length≤100000) (p:PS) (s:ByteArray):MayCall Tryz.prog 55 [.ptr b 0,.val (.string s)] (.loc b (psC L p)) (isP L p s=true) (.loc b (psC L (stepP p))):=by
 have HI:=is_p b L p s
 have hl:=is_lt (L:=L) (p:=p) (s:=s)
 obtain ⟨a,lv,e0,wh0⟩:=p
 simp only [psC] at HI hl ⊢
 refine Zc Tryz.func55 V (by kernel_rfl) V (Xz V) ?_
 refine Q527 ?_
 refine Q5 ?_
 refine Zb 7 V V V (op_callkb (xs:=[.tmp 5,.tmp 6]) [0] V V V (HI) by1 ?_);intro c7 h7
 refine Q26 ?_;intro c8 h8
 try replace h8:=Yo h8 h7
 refine Q226 ?_
 rcases Za h8 with ⟨rfl,g8⟩|⟨rfl,g8⟩
 ·refine Q242 ?_
  have:=hl (Classical.not_not.1 g8)
  refine Q234 ?_
  refine Q37 ?_
  refine Q243 ?_
  refine Q434 ?_
  refine Q138 ?_
  refine Q258 ?_
  refine Q232 ?_
  exact Zf V V (Xt _) (Xs V) (.inl ⟨Classical.not_not.1 g8,V,V⟩)
 refine Q285 ?_
 exact Zf V V (Xt _) (Xn _) (.inr ⟨g8,V,V⟩)
theorem deeper_c (b:Nat) (L:List Tok) (p:PS) (h1:0≤p.lv) (h2:p.lv≤1000):MCall Tryz.prog 160 [.ptr b 0] (.loc b (psC L p)) (.tup []) (.loc b (psC L (deeperP L p))):=by
 have HN:=next_c b L { p with lv:=p.lv+1 }
 have HF:=fail_c b L { p with lv:=p.lv+1 } 111 (nxt L { p with lv:=p.lv+1 }).a
 obtain ⟨t,ht⟩:∃ t,nxt L { p with lv:=p.lv+1 }=t:=⟨_,rfl⟩
 obtain ⟨r,hr⟩:∃ r,deeperP L p=r:=⟨_,rfl⟩
 have hr0:=hr
 unfold deeperP at hr
 rw [ht] at HN HF hr
 rw [hr0]
 obtain ⟨a,lv,e0,wh0⟩:=p
 obtain ⟨tk,tt,tn,ta⟩:=t
 simp only [psC,Tok.av] at HN HF hr h1 h2 ⊢
 refine Zc Tryz.func160 V (by kernel_rfl) V (Xz V) ?_
 refine Q15 ?_
 refine Q229 ?_
 refine Q37 ?_
 refine Q243 ?_
 refine Q434 ?_
 refine Q138 ?_
 refine Q287 ?_
 refine Q37 ?_
 refine Q243 ?_
 refine Q74 ?_;intro c13 h13
 refine Q226 ?_
 rcases Za h13 with ⟨rfl,g13⟩|⟨rfl,g13⟩
 ·refine Q267 ?_
  refine go_end ?_
  rw [if_neg (by omega)] at hr;subst hr;exact out_none rfl (Xs rfl) ⟨rfl,rfl⟩
 refine Q9 ?_
 refine Q314 ?_
 refine Zb 16 V V V (Yw (xs:=[.tmp 15]) [0] V V V (HN) by1 ?_)
 refine Zb 17 V V V (Xc (ft:=3) (fo:=3) V (by kernel_rfl) ta_3 V V ?_)
 refine Zb 18 V V V (Zi (xs:=[.tmp 14,.const (.int .i64 111),.tmp 17]) (i:=0) V V V (HF) by1 ?_)
 refine Q3 ?_
 refine go_end ?_
 rw [if_pos (by omega)] at hr;subst hr;exact out_none rfl (Xs rfl) ⟨rfl,rfl⟩
theorem pName_c (b:Nat) (L:List Tok) (hL:L.length≤100000) (n:Nat) (p:PS) (k:POk L n p):MCall Tryz.prog 103 [.ptr b 0] (.loc b (psC L p)) (.agg (nameP L p).1.av) (.loc b (psC L (nameP L p).2)):=by
 refine Zc Tryz.func103 V (by kernel_rfl) V (Xz V) ?_
 refine Q415 ?_;intro b2
 refine Q301 ?_
 refine Zb 5 V V V (op_mayc (xs:=[.tmp 4,.const (.string ⟨#[40]⟩)]) (i:=1) V V V (may_c b L hL p kLP) by1 ?_ ?_)
 ·intro g5
  refine Q226 ?_
  refine Q302 ?_
  have a1:=Yj k g5
  have k1:=a1.ok k
  have a2:=Zo (kind:=5) (s:=kE) (by decide) k1
  have k2:=a2.ok k1
  refine Q234 ?_
  refine Zb 7 V V V (Zi (xs:=[.tmp 6,.const (.int .i64 5),.const (.string ⟨#[]⟩)]) (i:=1) V V V (take_c b L hL _ k1.1 5 kE) by1 ?_)
  refine Q39 ?_;intro b3
  refine Q557 ?_
  refine Zb 9 V V V (Zi (xs:=[.tmp 8,.const (.int .i64 7),.const (.string ⟨#[41]⟩)]) (i:=2) V V V (take_c b L hL _ k2.1 7 kRP) by1 ?_)
  refine Q258 ?_
  refine Q28 ?_
  refine Q31 ?_
  refine Q257 ?_
  rw [nameP,if_pos g5];exact Zj (i:=1) rfl rfl rfl Zv rfl (Xt _) (Xq _ (Xq _ (Xs rfl))) ⟨rfl,rfl⟩
 intro g5
 refine Q226 ?_
 refine Q321 ?_
 refine Zb 12 V V V (Zi (xs:=[.tmp 11,.const (.int .i64 1),.const (.string ⟨#[]⟩)]) (i:=1) V V V (take_c b L hL _ k.1 1 kE) by1 ?_)
 refine Q44 ?_
 refine Q257 ?_
 rw [nameP,if_neg g5];exact Zj (i:=0) rfl rfl rfl Zv rfl (Xt _) (Xq _ (Xs rfl)) ⟨rfl,rfl⟩
theorem uppersL_go {L:List Tok} {f:Nat} {p:PS} {acc:List ByteArray} (h:isP L p kComma=true):uppersL L (f+1) p acc=uppersL L f (takeP L (stepP p) 2 kE).2 (acc++[(takeP L (stepP p) 2 kE).1.t]):=by rw [uppersL,if_pos h]
theorem uppersL_end {L:List Tok} {f:Nat} {p:PS} {acc:List ByteArray} (h:¬ isP L p kComma=true):uppersL L f p acc=(acc,p):=by
 cases f with
 | zero=>rfl
 | succ f=>rw [uppersL,if_neg h]
theorem uppers_c (b:Nat) (L:List Tok) (hL:L.length≤100000) (n:Nat) (p:PS) (k:POk L n p):MCall Tryz.prog 102 [.ptr b 0] (.loc b (psC L p)) (.seq 1 (strs (uppersP L p).1)) (.loc b (psC L (uppersP L p).2)):=by
 have a1:=Zo (L:=L) (kind:=2) (s:=kE) (by decide) k
 have k1:=a1.ok k
 have hE:uppersP L p=uppersL L (L.length+1) (takeP L p 2 kE).2 [(takeP L p 2 kE).1.t]:=rfl
 refine Zc Tryz.func102 V (by kernel_rfl) V (Xz V) ?_
 refine Q438 ?_
 refine Zb 5 V V V (Zi (xs:=[.tmp 4,.const (.int .i64 2),.const (.string ⟨#[]⟩)]) (i:=0) V V V (take_c b L hL _ k.1 2 kE) by1 ?_)
 refine Zb 6 V V V (Xc (ft:=9) (fo:=1) V (by kernel_rfl) ta_9 V V ?_)
 refine Zb 7 V V V (Yt (xs:=[.tmp 6]) Xd V V V V V V (Xz V) ?_);intro u7
 refine Q387 ?_
 apply Ym (rg [(1,1),(3,13)]) (σ:=PS × Nat × List ByteArray × Value) (fun zz=>match zz with|(q,f,acc,u)=>[(3,.own u 1 (strs acc))]) (fun zz=>match zz with|(q,f,acc,u)=>[.own 9 1 u,.loc b (psC L q)]) (fun zz=>match zz with|(q,f,acc,u)=>POk L n q∧L.length - q.at_<f∧acc.length≤q.at_+1∧uppersP L p=uppersL L f q acc) (fun zz=>match zz with|(q,f,acc,u)=>f) (((takeP L p 2 kE).2,L.length+1,[(takeP L p 2 kE).1.t],u7))
 ·repeat' (first|exact Wc|apply Wa rfl|apply Wb rfl)
 ·exact ⟨k1,by omega,by simp,hE⟩
 ·exact by4
 ·exact by3
 rintro ⟨q,f,acc,u⟩ hI
 try dsimp only [List.cons_append,List.nil_append] at hI ⊢
 obtain ⟨h1,h2,h3,hu⟩:=hI
 have hq1:=h1.1
 have hle:(strs acc).length≤200000:=by rw [Ye];omega
 refine Q261 ?_
 refine Zb 9 V V V (op_mayc (xs:=[.tmp 8,.const (.string ⟨#[44]⟩)]) (i:=1) V V V (may_c b L hL q kComma) by1 ?_ ?_)
 ·intro g9
  refine Q226 ?_
  refine Q330 ?_
  obtain ⟨f,rfl⟩:∃ f',f=f'+1:=⟨f - 1,by omega⟩
  rw [uppersL_go g9] at hu
  have b1:=Yj h1 g9
  have l1:=b1.ok h1
  have b2:=Zo (kind:=2) (s:=kE) (by decide) l1
  have l2:=b2.ok l1
  have b3:(stepP q).at_≤_:=b2.1
  have b4:(stepP q).at_=q.at_+1:=rfl
  have b5:=(is_lt g9).2
  have HT:=take_c b L hL _ l1.1 2 kE
  obtain ⟨⟨t2,q2⟩,e2⟩:∃ r,takeP L (stepP q) 2 kE=r:=⟨_,rfl⟩
  rw [e2] at HT hu l2 b3
  simp only [Tok.av] at HT hu l2 b3
  refine Q314 ?_
  refine Zb 12 V V V (Zi (xs:=[.tmp 11,.const (.int .i64 2),.const (.string ⟨#[]⟩)]) (i:=1) V V V (HT) by1 ?_)
  refine Zb 13 V V V (Xc (ft:=9) (fo:=1) V (by kernel_rfl) ta_9 V V ?_)
  refine Zb 14 V V V (Zh (xs:=[.tmp 13]) Xd V V V V V V (Xz V) (Zb 15 V V V (Zw (i:=0) Xd V V V V (.seq _ _) by6 ?_)))
  intro u15
  refine Q418 ?_
  refine ⟨(q2,f,acc++[t2.t],u15),⟨l2,(by show L.length - q2.at_<f;omega),(by show (acc++[t2.t]).length≤q2.at_+1;rw [List.length_append];simp;omega),hu⟩,Nat.lt_succ_self f,Xw V (Xy (by simp [strs,AV.cells])) by4,by3⟩
 intro g9
 refine Q226 ?_
 refine Q364 ?_
 rw [uppersL_end g9] at hu;rw [hu];exact Zf rfl rfl (Le.own_seq rfl) (Xq _ (Xn _)) ⟨rfl,rfl⟩
theorem starts_c (b:Nat) (L:List Tok) (p:PS) (what:Int):KBCall Tryz.prog 100 [.ptr b 0,.val (.int .i64 what)] [.loc b (psC L p)] (startsP L what p):=by
 have HN:=next_c b L p
 have H1:=is_p b L p kLP
 have H2:=is_p b L p kUn
 have H3:=is_p b L p kCase
 unfold startsP
 generalize isP L p kLP=x1 at *
 generalize isP L p kUn=x2 at *
 generalize isP L p kCase=x3 at *
 obtain ⟨⟨tk,tt,tn,ta⟩,ht⟩:∃ t,nxt L p=t:=⟨_,rfl⟩
 rw [ht] at HN ⊢
 simp only [Tok.av] at HN ⊢
 refine Zc Tryz.func100 V (by kernel_rfl) V (Xz V) ?_
 refine Q438 ?_
 refine Zb 7 V V V (Yw (xs:=[.tmp 6]) [0] V V V (HN) by1 ?_)
 refine Zb 8 V V V (Xc (ft:=3) (fo:=0) V (by kernel_rfl) ta_3 V V ?_)
 refine Q306 ?_
 refine Zy 18 (tk=1∨tk=2∨x1=true) ?_ _ _ V ?_
 ·skip
  refine Q401 ?_;intro c10 h10
  refine Q5 ?_
  rcases Za h10 with ⟨rfl,g10⟩|⟨rfl,g10⟩
  ·skip
   refine Q344 ?_;intro c13 h13
   refine Q260 ?_
   rcases Za h13 with ⟨rfl,g13⟩|⟨rfl,g13⟩
   ·skip
    refine Q16 ?_
    refine Zq 17 V V V V V (op_callkb (xs:=[.tmp 16,.const (.string ⟨#[40]⟩)]) [0] V V V (H1) by1 ?_);intro c17 h17
    refine Q236 ?_
    refine Xx V ?_ by5 by3
    clear HN H1 H2 H3;first|(simp_all;done)|grind
   skip
   refine Q307 ?_
   refine Xx V ?_ by5 by3
   clear HN H1 H2 H3;first|(simp_all;done)|grind
  skip
  refine Q369 ?_
  refine Q307 ?_
  refine Xx V ?_ by5 by3
  clear HN H1 H2 H3;first|(simp_all;done)|grind
 intro c18 h18
 refine Q1 ?_
 rcases Za h18 with ⟨rfl,g18⟩|⟨rfl,g18⟩
 ·refine Q242 ?_
  refine Zy 4 ((1≤what∧tk=3)∨(what=1∧x2=true)∨(what=2∧(tk=4∨x3=true))) ?_ _ _ V ?_
  ·skip
   refine Q346 ?_;intro c20 h20
   refine Q5 ?_
   rcases Za h20 with ⟨rfl,g20⟩|⟨rfl,g20⟩
   ·skip
    refine Q369 ?_
    refine Q344 ?_;intro c27 h27
    refine Q16 ?_
    rcases Za h27 with ⟨rfl,g27⟩|⟨rfl,g27⟩
    ·skip
     refine Q231 ?_
     refine Q22 ?_
     refine Q260 ?_
     refine Q344 ?_;intro c35 h35
     refine Q16 ?_
     rcases Za h35 with ⟨rfl,g35⟩|⟨rfl,g35⟩
     ·skip
      refine Q402 ?_
      refine Q22 ?_
      refine Q273 ?_
      refine Xx V ?_ by5 by3
      clear HN H1 H2 H3;first|(simp_all;done)|grind
     skip
     refine Q344 ?_;intro c38 h38
     refine Q16 ?_
     rcases Za h38 with ⟨rfl,g38⟩|⟨rfl,g38⟩
     ·skip
      refine Q16 ?_
      refine Zq 41 V V V V V (op_callkb (xs:=[.tmp 40,.const (.string ⟨#[99,97,115,101]⟩)]) [0] V V V (H3) by1 ?_);intro c41 h41
      refine Q452 ?_
      refine Xx V ?_ by5 by3
      clear HN H1 H2 H3;first|(simp_all;done)|grind
     skip
     refine Q231 ?_
     refine Q452 ?_
     refine Xx V ?_ by5 by3
     clear HN H1 H2 H3;first|(simp_all;done)|grind
    skip
    refine Q16 ?_
    refine Zq 30 V V V V V (op_callkb (xs:=[.tmp 29,.const (.string ⟨#[95]⟩)]) [0] V V V (H2) by1 ?_);intro c30 h30
    refine Q22 ?_
    refine Q260 ?_
    rcases Za h30 with ⟨rfl,g30⟩|⟨rfl,g30⟩
    ·skip
     refine Q344 ?_;intro c35 h35
     refine Q16 ?_
     rcases Za h35 with ⟨rfl,g35⟩|⟨rfl,g35⟩
     ·skip
      refine Q402 ?_
      refine Q22 ?_
      refine Q273 ?_
      refine Xx V ?_ by5 by3
      clear HN H1 H2 H3;first|(simp_all;done)|grind
     skip
     refine Q344 ?_;intro c38 h38
     refine Q16 ?_
     rcases Za h38 with ⟨rfl,g38⟩|⟨rfl,g38⟩
     ·skip
      refine Q16 ?_
      refine Zq 41 V V V V V (op_callkb (xs:=[.tmp 40,.const (.string ⟨#[99,97,115,101]⟩)]) [0] V V V (H3) by1 ?_);intro c41 h41
      refine Q452 ?_
      refine Xx V ?_ by5 by3
      clear HN H1 H2 H3;first|(simp_all;done)|grind
     skip
     refine Q231 ?_
     refine Q452 ?_
     refine Xx V ?_ by5 by3
     clear HN H1 H2 H3;first|(simp_all;done)|grind
    skip
    refine Q279 ?_
    refine Q276 ?_
    refine Q389 ?_
    refine Q273 ?_
    refine Xx V ?_ by5 by3
    clear HN H1 H2 H3;first|(simp_all;done)|grind
   skip
   refine Q344 ?_;intro c23 h23
   refine Q260 ?_
   rcases Za h23 with ⟨rfl,g23⟩|⟨rfl,g23⟩
   ·skip
    refine Q344 ?_;intro c27 h27
    refine Q16 ?_
    rcases Za h27 with ⟨rfl,g27⟩|⟨rfl,g27⟩
    ·skip
     refine Q231 ?_
     refine Q22 ?_
     refine Q260 ?_
     refine Q344 ?_;intro c35 h35
     refine Q16 ?_
     rcases Za h35 with ⟨rfl,g35⟩|⟨rfl,g35⟩
     ·skip
      refine Q402 ?_
      refine Q22 ?_
      refine Q273 ?_
      refine Xx V ?_ by5 by3
      clear HN H1 H2 H3;first|(simp_all;done)|grind
     skip
     refine Q344 ?_;intro c38 h38
     refine Q16 ?_
     rcases Za h38 with ⟨rfl,g38⟩|⟨rfl,g38⟩
     ·skip
      refine Q16 ?_
      refine Zq 41 V V V V V (op_callkb (xs:=[.tmp 40,.const (.string ⟨#[99,97,115,101]⟩)]) [0] V V V (H3) by1 ?_);intro c41 h41
      refine Q452 ?_
      refine Xx V ?_ by5 by3
      clear HN H1 H2 H3;first|(simp_all;done)|grind
     skip
     refine Q231 ?_
     refine Q452 ?_
     refine Xx V ?_ by5 by3
     clear HN H1 H2 H3;first|(simp_all;done)|grind
    skip
    refine Q16 ?_
    refine Zq 30 V V V V V (op_callkb (xs:=[.tmp 29,.const (.string ⟨#[95]⟩)]) [0] V V V (H2) by1 ?_);intro c30 h30
    refine Q22 ?_
    refine Q260 ?_
    rcases Za h30 with ⟨rfl,g30⟩|⟨rfl,g30⟩
    ·skip
     refine Q344 ?_;intro c35 h35
     refine Q16 ?_
     rcases Za h35 with ⟨rfl,g35⟩|⟨rfl,g35⟩
     ·skip
      refine Q402 ?_
      refine Q22 ?_
      refine Q273 ?_
      refine Xx V ?_ by5 by3
      clear HN H1 H2 H3;first|(simp_all;done)|grind
     skip
     refine Q344 ?_;intro c38 h38
     refine Q16 ?_
     rcases Za h38 with ⟨rfl,g38⟩|⟨rfl,g38⟩
     ·skip
      refine Q16 ?_
      refine Zq 41 V V V V V (op_callkb (xs:=[.tmp 40,.const (.string ⟨#[99,97,115,101]⟩)]) [0] V V V (H3) by1 ?_);intro c41 h41
      refine Q452 ?_
      refine Xx V ?_ by5 by3
      clear HN H1 H2 H3;first|(simp_all;done)|grind
     skip
     refine Q231 ?_
     refine Q452 ?_
     refine Xx V ?_ by5 by3
     clear HN H1 H2 H3;first|(simp_all;done)|grind
    skip
    refine Q279 ?_
    refine Q276 ?_
    refine Q389 ?_
    refine Q273 ?_
    refine Xx V ?_ by5 by3
    clear HN H1 H2 H3;first|(simp_all;done)|grind
   skip
   refine Q402 ?_
   refine Q260 ?_
   refine Q279 ?_
   refine Q276 ?_
   refine Q389 ?_
   refine Q273 ?_
   refine Xx V ?_ by5 by3
   clear HN H1 H2 H3;first|(simp_all;done)|grind
  intro c4 h4
  refine Q303 ?_
  exact Zf V V (Xt _) (Xn _) ⟨⟨_,by clear HN H1 H2 H3;grind,V⟩,V⟩
 refine Q285 ?_
 exact Zf V V (Xt _) (Xn _) ⟨⟨_,by clear HN H1 H2 H3;grind,V⟩,V⟩
theorem typesL_go {L:List Tok} {T:PS→Ty × PS} {f:Nat} {p:PS} {acc:List Ty} (h:startsP L 0 p):typesL L T (f+1) p acc=typesL L T f (atypeG L T p).2 (acc++[(atypeG L T p).1]):=by rw [typesL,if_pos h]
theorem typesL_end {L:List Tok} {T:PS→Ty × PS} {f:Nat} {p:PS} {acc:List Ty} (h:¬ startsP L 0 p):typesL L T f p acc=(acc,p):=by
 cases f with
 | zero=>rfl
 | succ f=>rw [typesL,if_neg h]
abbrev zTyp:List AV:=[.val (.int .i64 0),.val (.string kE),.val (.int .i64 0),.val (.slice none 0 0)]
def TyC (b:Nat) (L:List Tok) (n:Nat) (T:PS→Ty × PS):Prop:=∀ q,POk L n q→MCall Tryz.prog 104 [.ptr b 0] (.loc b (psC L q)) (.agg (T q).1.cells) (.loc b (psC L (T q).2))
theorem atype_c (b:Nat) (L:List Tok) (hL:L.length≤100000) (n:Nat) (T:PS→Ty × PS) (HT:TyC b L n T) (HA:∀ q,POk L n q→Adv L q (T q).2) (p:PS) (k:POk L n p):MCall Tryz.prog 101 [.ptr b 0] (.loc b (psC L p)) (.agg (atypeG L T p).1.cells) (.loc b (psC L (atypeG L T p).2)):=by
 have HN:=next_c b L p
 have hp:=k.1
 have a1:=Zo (L:=L) (kind:=7) (s:=kLP) (by decide) k
 have k1:=a1.ok k
 obtain ⟨t,ht⟩:∃ t,nxt L p=t:=⟨_,rfl⟩
 obtain ⟨r,hr⟩:∃ r,atypeG L T p=r:=⟨_,rfl⟩
 have hr0:=hr
 unfold atypeG at hr
 rw [ht] at HN hr
 rw [hr0]
 obtain ⟨tk,tt,tn,ta⟩:=t
 simp only [Tok.av] at HN hr
 refine Zc Tryz.func101 V (by kernel_rfl) V (Xz V) ?_
 refine Q237 ?_
 refine Q21 ?_;intro b2
 refine Q287 ?_
 refine Zb 6 V V V (Yw (xs:=[.tmp 5]) [1] V V V (HN) by1 ?_)
 refine Q39 ?_;intro b3
 refine Q44 ?_
 refine Q345 ?_
 refine Q17 ?_;intro c9 h9
 refine Q226 ?_
 rcases Za h9 with ⟨rfl,g9⟩|⟨rfl,g9⟩
 ·refine Q350 ?_
  refine Q17 ?_;intro c22 h22
  refine Q226 ?_
  rcases Za h22 with ⟨rfl,g22⟩|⟨rfl,g22⟩
  ·refine Q321 ?_
   refine Zb 34 V V V (Zi (xs:=[.tmp 33,.const (.int .i64 7),.const (.string ⟨#[40]⟩)]) (i:=2) V V V (take_c b L hL p k.1 7 kLP) by1 ?_)
   refine Q301 ?_
   refine Zb 36 V V V (op_mayc (xs:=[.tmp 35,.const (.string ⟨#[41]⟩)]) (i:=2) V V V (may_c b L hL (takeP L p 7 kLP).2 kRP) by1 ?_ ?_)
   ·intro g36
    refine Q226 ?_
    refine Q240 ?_
    refine Zb 37 V V V (Zp (ns:=[0,1]) (xs:=[.const (.int .i64 3),.const (.string ⟨#[85,110,105,116]⟩)]) V tz_24 V tfl_24 V V V V ?_)
    refine Q479 ?_
    rw [if_neg g9,if_neg g22,if_pos g36] at hr;subst hr;exact Zj (i:=1) rfl rfl rfl Yi rfl by2 (Xq _ (Xq _ (Xs rfl))) ⟨rfl,rfl⟩
   intro g36
   refine Q226 ?_
   refine Q242 ?_
   have HT1:=HT _ k1
   have k2:=(HA _ k1).ok k1
   rw [if_neg g9,if_neg g22,if_neg g36] at hr
   obtain ⟨⟨⟨xk,xs,xn,xl⟩,p3⟩,hx⟩:∃ r,T (takeP L p 7 kLP).2=r:=⟨_,rfl⟩
   rw [hx] at HT1 hr k2
   simp only [Ty.cells] at HT1
   refine Q234 ?_
   refine Zb 39 V V V (Zi (xs:=[.tmp 38]) (i:=2) V V V (HT1) by1 ?_)
   refine Q21 ?_;intro b4
   refine Q30 ?_
   refine Q287 ?_
   refine Zb 41 V V V (Zi (xs:=[.tmp 40,.const (.int .i64 7),.const (.string ⟨#[41]⟩)]) (i:=3) V V V (take_c b L hL _ k2.1 7 kRP) by1 ?_)
   refine Q258 ?_
   refine Q49 ?_
   refine Q75 ?_
   refine Q257 ?_
   subst hr;exact Zj (i:=2) rfl rfl rfl Yi rfl (Xt _) (Xq _ (Xq _ (Xq _ (Xs rfl)))) ⟨rfl,rfl⟩
  refine Q288 ?_
  refine Q421 ?_
  refine Q434 ?_
  refine Q115 ?_
  refine Q378 ?_
  refine Zb 32 V V V (Zp (ns:=[0,1]) (xs:=[.const (.int .i64 1),.tmp 31]) V tz_24 V tfl_24 V V V V ?_)
  refine Q479 ?_
  rw [if_neg g9,if_pos g22] at hr;subst hr;exact Zj (i:=1) rfl rfl rfl Yi rfl by2 (Xq _ (Xq _ (Xs rfl))) ⟨rfl,rfl⟩
 refine Q288 ?_
 refine Q421 ?_
 refine Q434 ?_
 refine Q115 ?_
 refine Q378 ?_
 refine Zb 19 V V V (Zp (ns:=[0,1]) (xs:=[.const (.int .i64 3),.tmp 18]) V tz_24 V tfl_24 V V V V ?_)
 refine Q479 ?_
 rw [if_pos g9] at hr;subst hr;exact Zj (i:=1) rfl rfl rfl Yi rfl by2 (Xq _ (Xq _ (Xs rfl))) ⟨rfl,rfl⟩
theorem Type_err (b:Nat) (L:List Tok) (p:PS) (he:p.e≠0):MCall Tryz.prog 104 [.ptr b 0] (.loc b (psC L p)) (.agg ty0.cells) (.loc b (psC L p)):=by
 refine Zc Tryz.func104 V (by kernel_rfl) V (Xz V) ?_
 refine Q237 ?_
 refine Q21 ?_;intro b2
 refine Q487 ?_;intro c9 h9
 refine Q226 ?_
 rcases Za h9 with ⟨rfl,g9⟩|⟨rfl,g9⟩
 ·exact absurd he g9
 refine Q384 ?_
 refine Q492 ?_
 exact Zj (i:=0) V V V Yi V by2 (Xq _ (Xn _)) ⟨V,V⟩
theorem Type_ok (b:Nat) (L:List Tok) (hL:L.length≤100000) (n:Nat) (T:PS→Ty × PS) (HT:TyC b L n T) (HA:∀ q,POk L n q→Adv L q (T q).2) (p:PS) (k:POk L (n+1) p) (he:p.e=0):MCall Tryz.prog 104 [.ptr b 0] (.loc b (psC L p)) (.agg (typeR L T (typeH L T (deeperP L p))).1.cells) (.loc b (psC L (typeR L T (typeH L T (deeperP L p))).2)):=by
 have kq:=deeper_ok k he
 have HN:=next_c b L (deeperP L p)
 have hq0:=kq.1
 have aH:=typeH_adv HA kq
 have kH:=aH.ok kq
 obtain ⟨t,ht⟩:∃ t,nxt L (deeperP L p)=t:=⟨_,rfl⟩
 have hkt:(nxt L (deeperP L p)).k=2→(deeperP L p).at_<L.length:=fun e=>(Xm (by omega)).2
 have HAT:=atype_c b L hL n T HT HA (deeperP L p) kq
 obtain ⟨⟨⟨xk,xs,xn,xl⟩,q1⟩,hx⟩:∃ r,typeH L T (deeperP L p)=r:=⟨_,rfl⟩
 have hx0:=hx
 unfold typeH at hx
 rw [hx0] at kH ⊢
 simp only [] at kH
 obtain ⟨r,hr⟩:∃ r,typeR L T (Ty.mk xk xs xn xl,q1)=r:=⟨_,rfl⟩
 rw [hr]
 unfold typeR at hr
 simp only [] at hr
 rw [ht] at HN hx hkt
 obtain ⟨tk,tt,tn,ta⟩:=t
 simp only [Tok.av] at HN hx hkt
 refine Zc Tryz.func104 V (by kernel_rfl) V (Xz V) ?_
 refine Q237 ?_
 refine Q21 ?_;intro b2
 refine Q487 ?_;intro c9 h9
 refine Q226 ?_
 rcases Za h9 with ⟨rfl,g9⟩|⟨rfl,g9⟩
 ·refine Q321 ?_
  refine Zb 12 V V V (Zi (xs:=[.tmp 11]) (i:=1) V V V (deeper_c b L p k.2.1 (by have:=k.2.2.1;omega)) by1 ?_)
  refine Q287 ?_
  refine Zb 14 V V V (Yw (xs:=[.tmp 13]) [1] V V V (HN) by1 ?_)
  refine Q39 ?_;intro b3
  refine Q44 ?_
  refine Q258 ?_
  refine Q356 ?_;intro b4
  refine Q340 ?_
  refine Q363 ?_;intro c18 h18
  refine Q226 ?_
  apply c_joink (rg [(1,1),(3,1),(5,35)]) (σ:=Unit) (fun zz=>match zz with|z=>[]) (fun zz=>match zz with|z=>[.loc b4 (Ty.mk xk xs xn xl).cells,.loc b3 (Tok.mk tk tt tn ta).av,.loc b2 zTyp,.loc b (psC L q1)]) (fun zz=>match zz with|z=>True)
  ·repeat' (first|exact Wc|apply Wa rfl|apply Wb rfl)
  ·skip
   rcases Za h18 with ⟨rfl,g18⟩|⟨rfl,g18⟩
   ·refine Q8 ?_
    rw [if_neg g18] at hx
    rw [hx] at HAT
    simp only [Ty.cells] at HAT
    refine Q234 ?_
    refine Zb 39 V V V (Zi (xs:=[.tmp 38]) (i:=3) V V V (HAT) by1 ?_)
    refine Q30 ?_
    refine Q310 ?_
    first|exact ⟨(),trivial,by4,Xs rfl⟩|(rw [typesL_end g30] at hu;cases hu;exact ⟨(),trivial,by4,Xr _ (Xv (Xt _) (Xv (Xt _) (Xv (Xt _) (Xv (Le.own _ _ _) (Xu _))))) (Xp _ (Xp _ (Xp _ (Xo _))))⟩)
   refine Q302 ?_
   rw [if_pos g18] at hx
   have hlt:=hkt g18
   have ks:=Xg kq hlt
   refine Q234 ?_
   refine Q520 ?_
   refine Q434 ?_
   refine Q521 ?_
   refine Q272 ?_
   refine Zb 28 V V V (Zp (ns:=[0,1]) (xs:=[.const (.int .i64 3),.tmp 27]) V tz_24 V tfl_24 V V V V ?_)
   refine Q30 ?_
   refine Q286 ?_
   refine Yv 24 4 ?_
   apply Ym (rg [(1,1),(3,1),(5,19),(25,15)]) (σ:=PS × Nat × List Ty × Value) (fun zz=>match zz with|(q,f,acc,u)=>[]) (fun zz=>match zz with|(q,f,acc,u)=>[.loc b4 [.val (.int .i64 3),.val (.string tt),.val (.int .i64 0),.own u 4 (Ty.cellss acc)],.loc b3 (Tok.mk tk tt tn ta).av,.loc b2 zTyp,.loc b (psC L q),.own 24 4 u]) (fun zz=>match zz with|(q,f,acc,u)=>POk L n q∧L.length - q.at_<f∧acc.length≤q.at_∧(Ty.mk 3 tt 0 (typesL L T f q acc).1,(typesL L T f q acc).2)=((Ty.mk xk xs xn xl),q1)) (fun zz=>match zz with|(q,f,acc,u)=>f) ((stepP (deeperP L p),L.length+1,[],.slice none 0 0))
   ·repeat' (first|exact Wc|apply Wa rfl|apply Wb rfl)
   ·exact ⟨ks.ok kq,by omega,Nat.zero_le _,hx⟩
   ·exact by4
   ·exact (Xr _ (Xv (Xt _) (Xv (Xt _) (Xv (Xt _) (Xv (Le.nilOwn 4) (Xu _))))) (Xp _ (Xp _ (Xs V))))
   rintro ⟨q,f,acc,u⟩ hI
   try dsimp only [List.cons_append,List.nil_append] at hI ⊢
   obtain ⟨h1,h2,h3,hu⟩:=hI
   have hq1:=h1.1
   have hle:(Ty.cellss acc).length≤200000:=by rw [Ty.cellss_len];omega
   refine Q261 ?_
   refine Zb 30 V V V (op_callkb (xs:=[.tmp 29,.const (.int .i64 0)]) [3] V V V (starts_c b L q 0) by1 ?_);intro c30 h30
   refine Q226 ?_
   rcases Za h30 with ⟨rfl,g30⟩|⟨rfl,g30⟩
   ·refine Q248 ?_
    refine go_lp ?_
    first|exact ⟨(),trivial,by4,Xs rfl⟩|(rw [typesL_end g30] at hu;cases hu;exact ⟨(),trivial,by4,Xr _ (Xv (Xt _) (Xv (Xt _) (Xv (Xt _) (Xv (Le.own _ _ _) (Xu _))))) (Xp _ (Xp _ (Xp _ (Xo _))))⟩)
   refine Q330 ?_
   obtain ⟨f,rfl⟩:∃ f',f=f'+1:=⟨f - 1,by omega⟩
   rw [typesL_go g30] at hu
   have b1:=atype_lt HA h1 g30
   have b2:=atype_adv HA h1
   have l2:=b2.ok h1
   have HA2:=atype_c b L hL n T HT HA q h1
   obtain ⟨⟨⟨yk,ys,yn,yl⟩,q2⟩,e2⟩:∃ r,atypeG L T q=r:=⟨_,rfl⟩
   rw [e2] at HA2 hu l2 b1
   simp only [Ty.cells] at HA2
   simp only [] at b1 l2
   have l3:=l2.1
   refine Q398 ?_
   refine Yf 3 (i:=3) V V V V V (Zi (xs:=[.tmp 33]) (i:=0) V V V (HA2) by1 ⟨_,V,?_⟩)
   refine Zm 35 (none) (i:=4) V V V V V (Zh (xs:=[.tmp 34]) el_22 V V V V V V (Xz V) ⟨V,V⟩) ?_
   refine Yf 4 (i:=5) V V V V V (Zw (i:=0) el_22 V V V V (.seq _ _) by6 (fun u36=>⟨_,V,?_⟩))
   refine Q27 ?_
   refine Yf 0 (i:=7) V V V V V (Zu (cs':=[_,_,_,_]) (i:=0) V ts_22 V V V V V (Xz V) V ⟨_,V,?_⟩)
   show AGo _ _ _ _ _ _ _
   refine Q295 ?_
   refine ⟨(q2,f,acc++[Ty.mk yk ys yn yl],u36),⟨l2,(by show L.length - q2.at_<f;omega),(by show (acc++[Ty.mk yk ys yn yl]).length≤q2.at_;rw [List.length_append];simp;omega),hu⟩,Nat.lt_succ_self f,by4,(Xr _ (Xv (Xt _) (Xv (Xt _) (Xv (Xt _) (Xv (Xy (by rw [Ty.cellss_app];rfl)) (Xu _))))) (Xp _ (Xp _ (Xs V))))⟩
  rintro z hI
  try dsimp only [List.cons_append,List.nil_append] at hI ⊢
  refine Q469 ?_
  refine Zb 41 V V V (op_mayc (xs:=[.tmp 40,.const (.string ⟨#[45,62]⟩)]) (i:=3) V V V (may_c b L hL q1 kArrow) by1 ?_ ?_)
  ·intro g41
   refine Q522 ?_
   have ka:=Yj kH g41
   have kz:=ka.ok kH
   have HT1:=HT _ kz
   have kw:=(HA _ kz).ok kz
   obtain ⟨⟨⟨zk,zs,zn,zl⟩,q3⟩,e3⟩:∃ r,T (stepP q1)=r:=⟨_,rfl⟩
   rw [if_pos g41,e3] at hr
   rw [e3] at HT1 kw
   simp only [Ty.cells] at HT1
   simp only [] at kw
   have hb3:=kw.2.1
   have hb4:=kw.2.2.1
   refine Yp [0,1,2,3,4,5] [2,5] [[],[],[1],[0,1,2],[0,1,2,3],[0,1,2,3,4]] Xl V ?_
   refine Q113 ?_
   refine Q24 ?_
   refine Yf 3 (i:=2) V V V V V (Zi (xs:=[.tmp 43]) (i:=0) V V V (HT1) by1 ⟨_,V,?_⟩)
   refine Zm 45 (none) (i:=3) V V V V V (Zh (xs:=[.tmp 42,.tmp 44]) el_22 V V V V V V (Xz V) ⟨V,V⟩) ?_
   refine Zm 46 (none) (i:=4) V V V V V (Zp (ns:=[0,1,3]) (xs:=[.const (.int .i64 3),.const (.string ⟨#[45,62]⟩),.tmp 45]) V tz_24 V tfl_24 V V V V ⟨V,V⟩) ?_
   refine Q131 ?_
   show AGo _ _ _ _ _ _ _
   refine Q373 ?_
   have hb1:=kH.2.1
   have hb2:=kH.2.2.1
   refine Q234 ?_
   refine Q520 ?_
   refine Q558 ?_
   refine Q521 ?_
   refine Q49 ?_
   refine Q75 ?_
   refine Q257 ?_
   subst hr;exact Zj (i:=2) rfl rfl rfl Yi rfl (Xt _) (Xq _ (Xq _ (Xq _ (Xs rfl)))) ⟨rfl,rfl⟩
  intro g41
  refine Q226 ?_
  refine Q242 ?_
  have hb1:=kH.2.1
  have hb2:=kH.2.2.1
  refine Q234 ?_
  refine Q520 ?_
  refine Q558 ?_
  refine Q521 ?_
  refine Q49 ?_
  refine Q75 ?_
  refine Q257 ?_
  rw [if_neg g41] at hr;subst hr;exact Zj (i:=2) rfl rfl rfl Yi rfl (Xt _) (Xq _ (Xq _ (Xq _ (Xs rfl)))) ⟨rfl,rfl⟩
 exact absurd he g9
theorem Type_c (b:Nat) (L:List Tok) (hL:L.length≤100000):∀ n,TyC b L n (typeF L n)
 | 0,p,k=>Type_err b L p (fun e=>by have:=k.2.2.2 e;omega)
 | n+1,p,k=>by
  by_cases he:p.e=0
  ·have h:=Type_ok b L hL n (typeF L n) (Type_c b L hL n) (typeF_adv n) p k he
   rw [typeF,if_neg (by rw [he];simp)]
   exact h
  rw [typeF,if_pos he];exact Type_err b L p he
theorem typeP_c (b:Nat) (L:List Tok) (hL:L.length≤100000) (n:Nat) (p:PS) (k:POk L n p):MCall Tryz.prog 104 [.ptr b 0] (.loc b (psC L p)) (.agg (typeP L p).1.cells) (.loc b (psC L (typeP L p).2)):=Type_c b L hL 302 p (k.up (by decide))
theorem patsL_go {L:List Tok} {T:PS→Pa × PS} {f:Nat} {p:PS} {acc:List Pa} (h:startsP L 1 p):patsL L T (f+1) p acc=patsL L T f (apatG L T p).2 (acc++[(apatG L T p).1]):=by rw [patsL,if_pos h]
theorem patsL_end {L:List Tok} {T:PS→Pa × PS} {f:Nat} {p:PS} {acc:List Pa} (h:¬ startsP L 1 p):patsL L T f p acc=(acc,p):=by
 cases f with
 | zero=>rfl
 | succ f=>rw [patsL,if_neg h]
theorem Pa.cellss_app' (a b:List Pa):Pa.cellss (a++b)=Pa.cellss a++Pa.cellss b:=by simp [Pa.cellss_map]
abbrev zPa:List AV:=[.val (.int .i64 0),.val (.string kE),.val (.int .i64 0),.val (.slice none 0 0),.val (.int .i64 0)]
def PaC (b:Nat) (L:List Tok) (n:Nat) (T:PS→Pa × PS):Prop:=∀ q,POk L n q→MCall Tryz.prog 214 [.ptr b 0] (.loc b (psC L q)) (.agg (T q).1.cells) (.loc b (psC L (T q).2))
theorem apat_c (b:Nat) (L:List Tok) (hL:L.length≤100000) (n:Nat) (T:PS→Pa × PS) (HT:PaC b L n T) (HA:∀ q,POk L n q→Adv L q (T q).2) (p:PS) (k:POk L n p):MCall Tryz.prog 217 [.ptr b 0] (.loc b (psC L p)) (.agg (apatG L T p).1.cells) (.loc b (psC L (apatG L T p).2)):=by
 have HN:=next_c b L p
 have HI:=is_p b L p kUn
 have hp:=k.1
 have a1:=Zo (L:=L) (kind:=7) (s:=kLP) (by decide) k
 have k1:=a1.ok k
 have hkt:(nxt L p).k≠0→p.at_<L.length:=fun e=>(Xm e).2
 have hki:isP L p kUn=true→p.at_<L.length:=fun e=>(is_lt e).2
 obtain ⟨t,ht⟩:∃ t,nxt L p=t:=⟨_,rfl⟩
 obtain ⟨r,hr⟩:∃ r,apatG L T p=r:=⟨_,rfl⟩
 have hr0:=hr
 unfold apatG at hr
 rw [ht] at HN hr hkt
 rw [hr0]
 obtain ⟨tk,tt,tn,ta⟩:=t
 simp only [Tok.av] at HN hr hkt
 refine Zc Tryz.func217 V (by kernel_rfl) V (Xz V) ?_
 refine Q559 ?_;intro b2
 refine Q287 ?_
 refine Zb 6 V V V (Yw (xs:=[.tmp 5]) [1] V V V (HN) by1 ?_)
 refine Q39 ?_;intro b3
 refine Q454 ?_
 refine Q206 ?_
 refine Q86 ?_;intro b4
 refine Q99 ?_
 refine Q241 ?_
 apply c_joink (rg [(1,1),(5,33),(50,1),(59,1)]) (σ:=Int × ByteArray × Int) (fun zz=>match zz with|(kk,ss,nn)=>[]) (fun zz=>match zz with|(kk,ss,nn)=>[.loc b4 [.val (.int .i64 kk),.val (.string ss),.val (.int .i64 nn),.val (.slice none 0 0),.val (.int .i64 ta)],.loc b3 (Tok.mk tk tt tn ta).av,.loc b2 zPa,.loc b (psC L p)]) (fun zz=>match zz with|(kk,ss,nn)=>(0<kk∧(Pa.mk kk ss nn [] ta,stepP p)=r∧p.at_<L.length)∨(kk=0∧(if isP L (takeP L p 7 kLP).2 kRP=true then (Pa.mk 3 kUnit 0 [] ta,stepP (takeP L p 7 kLP).2) else ((T (takeP L p 7 kLP).2).1,(takeP L (T (takeP L p 7 kLP).2).2 7 kRP).2))=r))
 ·repeat' (first|exact Wc|apply Wa rfl|apply Wb rfl)
 ·skip
  refine c_block ?_
  refine Q363 ?_;intro c13 h13
  refine Q228 ?_
  rcases Za h13 with ⟨rfl,g13⟩|⟨rfl,g13⟩
  ·refine Q405 ?_;intro c21 h21
   refine Q228 ?_
   rcases Za h21 with ⟨rfl,g21⟩|⟨rfl,g21⟩
   ·refine Q405 ?_;intro c29 h29
    refine Q228 ?_
    rcases Za h29 with ⟨rfl,g29⟩|⟨rfl,g29⟩
    ·refine Q513 ?_
     refine Zb 36 V V V (op_callkb (xs:=[.tmp 35,.const (.string ⟨#[95]⟩)]) [3] V V V (HI) by1 ?_);intro c36 h36
     refine Q228 ?_
     rcases Za h36 with ⟨rfl,g36⟩|⟨rfl,g36⟩
     ·refine Q267 ?_
      refine Q295 ?_
      first
      | (rw [if_pos g13] at hr;exact ⟨(3,tt,0),.inl ⟨by decide,hr,hkt (by omega)⟩,by4,Xs rfl⟩)
      | (rw [if_neg g13,if_pos g21] at hr;exact ⟨(2,tt,0),.inl ⟨by decide,hr,hkt (by omega)⟩,by4,Xs rfl⟩)
      | (rw [if_neg g13,if_neg g21,if_pos g29] at hr;exact ⟨(4,kE,tn),.inl ⟨by decide,hr,hkt (by omega)⟩,by4,Xs rfl⟩)
      | (rw [if_neg g13,if_neg g21,if_neg g29,if_pos g36] at hr;exact ⟨(1,kE,0),.inl ⟨by decide,hr,hki g36⟩,by4,Xs rfl⟩)
      | (rw [if_neg g13,if_neg g21,if_neg g29,if_neg g36] at hr;exact ⟨(0,kE,0),.inr ⟨rfl,hr⟩,by4,Xs rfl⟩)
     refine Q278 ?_
     refine Q11 ?_
     refine Q124 ?_
     refine Q365 ?_
     first
     | (rw [if_pos g13] at hr;exact ⟨(3,tt,0),.inl ⟨by decide,hr,hkt (by omega)⟩,by4,Xs rfl⟩)
     | (rw [if_neg g13,if_pos g21] at hr;exact ⟨(2,tt,0),.inl ⟨by decide,hr,hkt (by omega)⟩,by4,Xs rfl⟩)
     | (rw [if_neg g13,if_neg g21,if_pos g29] at hr;exact ⟨(4,kE,tn),.inl ⟨by decide,hr,hkt (by omega)⟩,by4,Xs rfl⟩)
     | (rw [if_neg g13,if_neg g21,if_neg g29,if_pos g36] at hr;exact ⟨(1,kE,0),.inl ⟨by decide,hr,hki g36⟩,by4,Xs rfl⟩)
     | (rw [if_neg g13,if_neg g21,if_neg g29,if_neg g36] at hr;exact ⟨(0,kE,0),.inr ⟨rfl,hr⟩,by4,Xs rfl⟩)
    refine Q436 ?_
    refine Q124 ?_
    refine Q455 ?_
    refine Ya V V (Zu (cs':=[_,_,_,_,_]) (i:=0) V ts_2 V V V V V (Xz V) V ?_)
    refine Q365 ?_
    first
    | (rw [if_pos g13] at hr;exact ⟨(3,tt,0),.inl ⟨by decide,hr,hkt (by omega)⟩,by4,Xs rfl⟩)
    | (rw [if_neg g13,if_pos g21] at hr;exact ⟨(2,tt,0),.inl ⟨by decide,hr,hkt (by omega)⟩,by4,Xs rfl⟩)
    | (rw [if_neg g13,if_neg g21,if_pos g29] at hr;exact ⟨(4,kE,tn),.inl ⟨by decide,hr,hkt (by omega)⟩,by4,Xs rfl⟩)
    | (rw [if_neg g13,if_neg g21,if_neg g29,if_pos g36] at hr;exact ⟨(1,kE,0),.inl ⟨by decide,hr,hki g36⟩,by4,Xs rfl⟩)
    | (rw [if_neg g13,if_neg g21,if_neg g29,if_neg g36] at hr;exact ⟨(0,kE,0),.inr ⟨rfl,hr⟩,by4,Xs rfl⟩)
   refine Q436 ?_
   refine Q124 ?_
   refine Q455 ?_
   refine Q167 ?_
   refine Q365 ?_
   first
   | (rw [if_pos g13] at hr;exact ⟨(3,tt,0),.inl ⟨by decide,hr,hkt (by omega)⟩,by4,Xs rfl⟩)
   | (rw [if_neg g13,if_pos g21] at hr;exact ⟨(2,tt,0),.inl ⟨by decide,hr,hkt (by omega)⟩,by4,Xs rfl⟩)
   | (rw [if_neg g13,if_neg g21,if_pos g29] at hr;exact ⟨(4,kE,tn),.inl ⟨by decide,hr,hkt (by omega)⟩,by4,Xs rfl⟩)
   | (rw [if_neg g13,if_neg g21,if_neg g29,if_pos g36] at hr;exact ⟨(1,kE,0),.inl ⟨by decide,hr,hki g36⟩,by4,Xs rfl⟩)
   | (rw [if_neg g13,if_neg g21,if_neg g29,if_neg g36] at hr;exact ⟨(0,kE,0),.inr ⟨rfl,hr⟩,by4,Xs rfl⟩)
  refine Q436 ?_
  refine Q124 ?_
  refine Q455 ?_
  refine Q167 ?_
  refine Q365 ?_
  first
  | (rw [if_pos g13] at hr;exact ⟨(3,tt,0),.inl ⟨by decide,hr,hkt (by omega)⟩,by4,Xs rfl⟩)
  | (rw [if_neg g13,if_pos g21] at hr;exact ⟨(2,tt,0),.inl ⟨by decide,hr,hkt (by omega)⟩,by4,Xs rfl⟩)
  | (rw [if_neg g13,if_neg g21,if_pos g29] at hr;exact ⟨(4,kE,tn),.inl ⟨by decide,hr,hkt (by omega)⟩,by4,Xs rfl⟩)
  | (rw [if_neg g13,if_neg g21,if_neg g29,if_pos g36] at hr;exact ⟨(1,kE,0),.inl ⟨by decide,hr,hki g36⟩,by4,Xs rfl⟩)
  | (rw [if_neg g13,if_neg g21,if_neg g29,if_neg g36] at hr;exact ⟨(0,kE,0),.inr ⟨rfl,hr⟩,by4,Xs rfl⟩)
 rintro ⟨kk,ss,nn⟩ hI
 try dsimp only [List.cons_append,List.nil_append] at hI ⊢
 refine Q373 ?_
 refine Q560 ?_;intro c40 h40
 refine Q226 ?_
 rcases Za h40 with ⟨rfl,g40⟩|⟨rfl,g40⟩
 ·refine Q242 ?_
  obtain ⟨_,h2⟩:=hI.resolve_left (fun q=>by omega)
  refine Q234 ?_
  refine Zb 50 V V V (Zi (xs:=[.tmp 49,.const (.int .i64 7),.const (.string ⟨#[40]⟩)]) (i:=3) V V V (take_c b L hL p k.1 7 kLP) by1 ?_)
  refine Q301 ?_
  refine Zb 52 V V V (op_mayc (xs:=[.tmp 51,.const (.string ⟨#[41]⟩)]) (i:=3) V V V (may_c b L hL (takeP L p 7 kLP).2 kRP) by1 ?_ ?_)
  ·intro g52
   refine Q226 ?_
   refine Q240 ?_
   refine Q272 ?_
   refine Zb 55 V V V (Zp (ns:=[0,1,4]) (xs:=[.const (.int .i64 3),.const (.string ⟨#[85,110,105,116]⟩),.tmp 54]) V tz_67 V tfl_67 V V V V ?_)
   refine Q139 ?_
   refine Q257 ?_
   rw [if_pos g52] at h2;subst h2;exact Zj (i:=2) rfl rfl rfl ta_67 rfl by2 (Xq _ (Xq _ (Xq _ (Xs rfl)))) ⟨rfl,rfl⟩
  intro g52
  refine Q226 ?_
  refine Q242 ?_
  have HT1:=HT _ k1
  have k2:=(HA _ k1).ok k1
  rw [if_neg g52] at h2
  obtain ⟨⟨⟨xk,xs,xn,xl,xp⟩,p3⟩,hx⟩:∃ r,T (takeP L p 7 kLP).2=r:=⟨_,rfl⟩
  rw [hx] at HT1 h2 k2
  simp only [Pa.cells] at HT1
  refine Q234 ?_
  refine Zb 57 V V V (Zi (xs:=[.tmp 56]) (i:=3) V V V (HT1) by1 ?_)
  refine Q99 ?_
  refine Q287 ?_
  refine Zb 59 V V V (Zi (xs:=[.tmp 58,.const (.int .i64 7),.const (.string ⟨#[41]⟩)]) (i:=3) V V V (take_c b L hL _ k2.1 7 kRP) by1 ?_)
  refine Q258 ?_
  refine Q108 ?_
  refine Q139 ?_
  refine Q257 ?_
  subst h2;exact Zj (i:=2) rfl rfl rfl ta_67 rfl (Xt _) (Xq _ (Xq _ (Xq _ (Xs rfl)))) ⟨rfl,rfl⟩
 refine Q302 ?_
 obtain ⟨_,h2,h3⟩:=hI.resolve_right (fun q=>by omega)
 refine Q234 ?_
 refine Q520 ?_
 refine Q434 ?_
 refine Q521 ?_
 refine Q108 ?_
 refine Q139 ?_
 refine Q257 ?_
 subst h2;exact Zj (i:=2) rfl rfl rfl ta_67 rfl (Le.agg (Xv (Xt _) (Xv (Xt _) (Xv (Xt _) (Xv (Le.nil _) (Xu _)))))) (Xq _ (Xq _ (Xq _ (Xs rfl)))) ⟨rfl,rfl⟩
theorem pat_err (b:Nat) (L:List Tok) (p:PS) (he:p.e≠0):MCall Tryz.prog 214 [.ptr b 0] (.loc b (psC L p)) (.agg pa0.cells) (.loc b (psC L p)):=by
 refine Zc Tryz.func214 V (by kernel_rfl) V (Xz V) ?_
 refine Q559 ?_;intro b2
 refine Q487 ?_;intro c9 h9
 refine Q226 ?_
 rcases Za h9 with ⟨rfl,g9⟩|⟨rfl,g9⟩
 ·exact absurd he g9
 refine Q240 ?_
 refine Zb 10 V V V (Zp (ns:=[]) (xs:=[]) V tz_67 V tfl_67 V V V V ?_)
 refine Q99 ?_
 refine Q257 ?_
 exact Zj (i:=0) V V V ta_67 V by2 (Xq _ (Xn _)) ⟨V,V⟩
theorem apat_con (b:Nat) (L:List Tok) (hL:L.length≤100000) (n:Nat) (p:PS) (k:POk L n p) (h2:(nxt L p).k=2):MCall Tryz.prog 217 [.ptr b 0] (.loc b (psC L p)) (.agg [.val (.int .i64 3),.val (.string (nxt L p).t),.val (.int .i64 0),.val (.slice none 0 0),.val (.int .i64 (nxt L p).a)]) (.loc b (psC L (stepP p))):=by
 have HN:=next_c b L p
 have hp:=k.1
 have hlt:p.at_<L.length:=(Xm (by omega)).2
 obtain ⟨t,ht⟩:∃ t,nxt L p=t:=⟨_,rfl⟩
 rw [ht] at HN h2 ⊢
 obtain ⟨tk,tt,tn,ta⟩:=t
 simp only [Tok.av] at HN h2 ⊢
 refine Zc Tryz.func217 V (by kernel_rfl) V (Xz V) ?_
 refine Q559 ?_;intro b2
 refine Q287 ?_
 refine Zb 6 V V V (Yw (xs:=[.tmp 5]) [1] V V V (HN) by1 ?_)
 refine Q39 ?_;intro b3
 refine Q454 ?_
 refine Q206 ?_
 refine Q86 ?_;intro b4
 refine Q99 ?_
 refine Q406 ?_
 refine Q363 ?_;intro c13 h13
 refine Q228 ?_
 rcases Za h13 with ⟨rfl,g13⟩|⟨rfl,g13⟩
 ·exact absurd h2 g13
 refine Q436 ?_
 refine Q124 ?_
 refine Q455 ?_
 refine Q167 ?_
 refine Q3 ?_
 refine Q250 ?_
 refine Q2 ?_
 refine Q560 ?_;intro c40 h40
 refine Q226 ?_
 rcases Za h40 with ⟨rfl,g40⟩|⟨rfl,g40⟩
 ·exact absurd g40 (by decide)
 refine Q288 ?_
 refine Q520 ?_
 refine Q434 ?_
 refine Q521 ?_
 refine Q108 ?_
 refine Q139 ?_
 refine Q257 ?_
 exact Zj (i:=2) V V V ta_67 V (Xt _) (Xq _ (Xq _ (Xq _ (Xs V)))) ⟨V,V⟩
theorem pat_non (b:Nat) (L:List Tok) (hL:L.length≤100000) (n:Nat) (T:PS→Pa × PS) (HT:PaC b L n T) (HA:∀ q,POk L n q→Adv L q (T q).2) (p:PS) (k:POk L (n+1) p) (he:p.e=0) (hk:¬ (nxt L (deeperP L p)).k=2) :
    MCall Tryz.prog 214 [.ptr b 0] (.loc b (psC L p)) (.agg (apatG L T (deeperP L p)).1.cells) (.loc b (psC L (decP (apatG L T (deeperP L p)).2))):=by
 have kq:=deeper_ok k he
 have HN:=next_c b L (deeperP L p)
 have HAT:=apat_c b L hL n T HT HA (deeperP L p) kq
 have kt:=(apat_adv HA kq).ok kq
 obtain ⟨t,ht⟩:∃ t,nxt L (deeperP L p)=t:=⟨_,rfl⟩
 rw [ht] at HN hk
 obtain ⟨tk,tt,tn,ta⟩:=t
 obtain ⟨⟨⟨xk,xs,xn,xl,xp⟩,q1⟩,hx⟩:∃ r,apatG L T (deeperP L p)=r:=⟨_,rfl⟩
 rw [hx] at HAT kt ⊢
 simp only [Tok.av,Pa.cells] at HN HAT hk ⊢
 simp only [] at kt
 have hb1:=kt.2.1
 have hb2:=kt.2.2.1
 refine Zc Tryz.func214 V (by kernel_rfl) V (Xz V) ?_
 refine Q559 ?_;intro b2
 refine Q487 ?_;intro c9 h9
 refine Q226 ?_
 rcases Za h9 with ⟨rfl,g9⟩|⟨rfl,g9⟩
 ·refine Q321 ?_
  refine Zb 12 V V V (Zi (xs:=[.tmp 11]) (i:=1) V V V (deeper_c b L p k.2.1 (by have:=k.2.2.1;omega)) by1 ?_)
  refine Q287 ?_
  refine Zb 14 V V V (Yw (xs:=[.tmp 13]) [1] V V V (HN) by1 ?_)
  refine Zb 15 V V V (Xc (ft:=3) (fo:=0) V (by kernel_rfl) ta_3 V V ?_)
  refine Q17 ?_;intro c16 h16
  refine Q238 ?_
  obtain rfl:c16=false:=by
   cases c16 with
   | false=>rfl
   | true=>exact absurd (h16.1 rfl) hk
  refine Q234 ?_
  refine Zb 18 V V V (Zi (xs:=[.tmp 17]) (i:=1) V V V (HAT) by1 ?_)
  refine Q86 ?_;intro b4
  refine Q99 ?_
  refine Q406 ?_
  apply Yd (rg [(1,1),(5,26)]) (σ:=Unit) (fun zz=>match zz with|z=>[]) (fun zz=>match zz with|z=>True) (fun zz=>match zz with|z=>0) (())
  ·repeat' (first|exact Wc|apply Wa rfl|apply Wb rfl)
  ·exact trivial
  ·exact by4
  rintro z hI
  try dsimp only [List.cons_append,List.nil_append] at hI ⊢
  refine Q316 ?_
  refine Q231 ?_
  refine Q456 ?_
  refine Q342 ?_
  refine Q421 ?_
  refine Q558 ?_
  refine Q115 ?_
  refine Q258 ?_
  refine Q108 ?_
  refine Q207 ?_
  refine Q257 ?_
  exact Zj (i:=1) V V V ta_67 V (Xt _) (Xq _ (Xq _ (Xs V))) ⟨V,V⟩
 exact absurd he g9
theorem pat_con (b:Nat) (L:List Tok) (hL:L.length≤100000) (n:Nat) (T:PS→Pa × PS) (HT:PaC b L n T) (HA:∀ q,POk L n q→Adv L q (T q).2) (p:PS) (k:POk L (n+1) p) (he:p.e=0) (hk:(nxt L (deeperP L p)).k=2) (r:List Pa × PS) (hr:patsL L T (L.length+1) (stepP (deeperP L p)) []=r) :
    MCall Tryz.prog 214 [.ptr b 0] (.loc b (psC L p)) (.agg (Pa.mk 3 (nxt L (deeperP L p)).t 0 r.1 (nxt L (deeperP L p)).a).cells) (.loc b (psC L (decP r.2))):=by
 have kq:=deeper_ok k he
 have HN:=next_c b L (deeperP L p)
 have HAT:=apat_con b L hL n (deeperP L p) kq hk
 have hlt:(deeperP L p).at_<L.length:=(Xm (by omega)).2
 have ks:=(Xg kq hlt).ok kq
 obtain ⟨t,ht⟩:∃ t,nxt L (deeperP L p)=t:=⟨_,rfl⟩
 rw [ht] at HN hk HAT ⊢
 obtain ⟨tk,tt,tn,ta⟩:=t
 simp only [Tok.av] at HN HAT hk ⊢
 refine Zc Tryz.func214 V (by kernel_rfl) V (Xz V) ?_
 refine Q559 ?_;intro b2
 refine Q487 ?_;intro c9 h9
 refine Q226 ?_
 rcases Za h9 with ⟨rfl,g9⟩|⟨rfl,g9⟩
 ·refine Q321 ?_
  refine Zb 12 V V V (Zi (xs:=[.tmp 11]) (i:=1) V V V (deeper_c b L p k.2.1 (by have:=k.2.2.1;omega)) by1 ?_)
  refine Q287 ?_
  refine Zb 14 V V V (Yw (xs:=[.tmp 13]) [1] V V V (HN) by1 ?_)
  refine Zb 15 V V V (Xc (ft:=3) (fo:=0) V (by kernel_rfl) ta_3 V V ?_)
  refine Q17 ?_;intro c16 h16
  refine Q238 ?_
  obtain rfl:c16=true:=h16.2 hk
  refine Q234 ?_
  refine Zb 18 V V V (Zi (xs:=[.tmp 17]) (i:=1) V V V (HAT) by1 ?_)
  refine Q86 ?_;intro b4
  refine Q99 ?_
  refine Q406 ?_
  refine Yv 67 5 ?_
  apply Ym (rg [(1,1),(5,26)]) (σ:=PS × Nat × List Pa × Value) (fun zz=>match zz with|(q,f,acc,u)=>[]) (fun zz=>match zz with|(q,f,acc,u)=>[.loc b4 [.val (.int .i64 3),.val (.string tt),.val (.int .i64 0),.own u 5 (Pa.cellss acc),.val (.int .i64 ta)],.loc b2 zPa,.loc b (psC L q),.own 67 5 u]) (fun zz=>match zz with|(q,f,acc,u)=>POk L n q∧L.length - q.at_<f∧acc.length≤q.at_∧patsL L T f q acc=r) (fun zz=>match zz with|(q,f,acc,u)=>f) ((stepP (deeperP L p),L.length+1,[],.slice none 0 0))
  ·repeat' (first|exact Wc|apply Wa rfl|apply Wb rfl)
  ·exact ⟨ks,by omega,Nat.zero_le _,hr⟩
  ·exact by4
  ·exact (Xr _ (Xv (Xt _) (Xv (Xt _) (Xv (Xt _) (Xv (Le.nilOwn 5) (Xu _))))) (Xp _ (Xs V)))
  rintro ⟨q,f,acc,u⟩ hI
  try dsimp only [List.cons_append,List.nil_append] at hI ⊢
  obtain ⟨h1,h2,h3,hu⟩:=hI
  have hq1:=h1.1
  have hb1:=h1.2.1
  have hb2:=h1.2.2.1
  have hle:(Pa.cellss acc).length≤200000:=by rw [Pa.cellss_len];omega
  refine Q316 ?_
  refine Q16 ?_
  refine Zq 22 V V V V V (op_callkb (xs:=[.tmp 21,.const (.int .i64 1)]) [2] V V V (starts_c b L q 1) by1 ?_);intro c22 h22
  refine Q456 ?_
  rcases Za h22 with ⟨rfl,g22⟩|⟨rfl,g22⟩
  ·refine Q342 ?_
   refine Q421 ?_
   refine Q558 ?_
   refine Q115 ?_
   refine Q258 ?_
   refine Q108 ?_
   refine Q207 ?_
   refine Q257 ?_
   rw [patsL_end g22] at hu;subst hu;exact Zj (i:=1) rfl rfl rfl ta_67 rfl (Le.agg (Xv (Xt _) (Xv (Xt _) (Xv (Xt _) (Xv (Le.own _ _ _) (Xu _)))))) (Xq _ (Xq _ (Xp _ (Xo _)))) ⟨rfl,rfl⟩
  refine Q330 ?_
  obtain ⟨f,rfl⟩:∃ f',f=f'+1:=⟨f - 1,by omega⟩
  rw [patsL_go g22] at hu
  have b1:=apat_lt HA h1 g22
  have b2:=apat_adv HA h1
  have l2:=b2.ok h1
  have HA2:=apat_c b L hL n T HT HA q h1
  obtain ⟨⟨⟨yk,ys,yn,yl,yp⟩,q2⟩,e2⟩:∃ r,apatG L T q=r:=⟨_,rfl⟩
  rw [e2] at HA2 hu l2 b1
  simp only [Pa.cells] at HA2
  simp only [] at b1 l2
  have l3:=l2.1
  refine Q398 ?_
  refine Yf 2 (i:=3) V V V V V (Zi (xs:=[.tmp 26]) (i:=0) V V V (HA2) by1 ⟨_,V,?_⟩)
  refine Zm 28 (none) (i:=4) V V V V V (Zh (xs:=[.tmp 27]) el_65 V V V V V V (Xz V) ⟨V,V⟩) ?_
  refine Yf 3 (i:=5) V V V V V (Zw (i:=0) el_65 V V V V (.seq _ _) by6 (fun u29=>⟨_,V,?_⟩))
  refine Q27 ?_
  refine Yf 0 (i:=7) V V V V V (Zu (cs':=[_,_,_,_,_]) (i:=0) V ts_65 V V V V V (Xz V) V ⟨_,V,?_⟩)
  show AGo _ _ _ _ _ _ _
  refine Q295 ?_
  refine ⟨(q2,f,acc++[Pa.mk yk ys yn yl yp],u29),⟨l2,(by show L.length - q2.at_<f;omega),(by show (acc++[Pa.mk yk ys yn yl yp]).length≤q2.at_;rw [List.length_append];simp;omega),hu⟩,Nat.lt_succ_self f,by4,(Xr _ (Xv (Xt _) (Xv (Xt _) (Xv (Xt _) (Xv (Xy (by rw [Pa.cellss_app'];rfl)) (Xu _))))) (Xp _ (Xs V)))⟩
 exact absurd he g9
theorem pat_c (b:Nat) (L:List Tok) (hL:L.length≤100000):∀ n,PaC b L n (patF L n)
 | 0,p,k=>pat_err b L p (fun e=>by have:=k.2.2.2 e;omega)
 | n+1,p,k=>by
  by_cases he:p.e=0
  ·rw [patF,if_neg (by rw [he];simp)]
   by_cases hk:(nxt L (deeperP L p)).k=2
   ·rw [if_pos hk];exact pat_con b L hL n (patF L n) (pat_c b L hL n) (patF_adv n) p k he hk _ rfl
   rw [if_neg hk];exact pat_non b L hL n (patF L n) (pat_c b L hL n) (patF_adv n) p k he hk
  rw [patF,if_pos he];exact pat_err b L p he
theorem patP_c (b:Nat) (L:List Tok) (hL:L.length≤100000) (n:Nat) (p:PS) (k:POk L n p):MCall Tryz.prog 214 [.ptr b 0] (.loc b (psC L p)) (.agg (patP L p).1.cells) (.loc b (psC L (patP L p).2)):=pat_c b L hL 302 p (k.up (by decide))
end Go.Proofs.YteepjjgooplljaaGreat
namespace Go.Proofs.YteepjjgooplljaaGreat
open Go.RowKit
def rowT (i:Nat):List (List UInt8):=rowsT.getD i []
structure TblAt (w:World) (B:Nat):Prop where
 row:∀ i,i<7→w.cell? ⟨B+7,i,none⟩=some (.slice (some ⟨B+i,0,none⟩) (rowT i).length (rowT i).length)
 str:∀ i,i<7→∀ k,k<(rowT i).length→w.cell? ⟨B+i,k,none⟩=some (.string ⟨((rowT i).getD k []).toArray⟩)
theorem seven {i:Nat} (h:i<7):i=0∨i=1∨i=2∨i=3∨i=4∨i=5∨i=6:=by omega
theorem rowlen (i:Nat) (h:i<7):(rowT i).length≤6:=by
 rcases seven h with rfl|rfl|rfl|rfl|rfl|rfl|rfl <;> decide
def missTo (op:List UInt8) (i:Nat):Prop:=∀ j,j<7→j<i→(rowT j).contains op=false
theorem rowT_get {j:Nat} (h:j<rowsT.length):rowsT[j]=rowT j:=by simp [rowT,List.getD,h]
theorem lvl_at {op:List UInt8} {i:Nat} (hi:i<7) (hm:missTo op i) (hc:(rowT i).contains op=true):lvl op=i+1:=by
 unfold lvl
 congr 1
 have hi':i<rowsT.length:=hi
 rw [List.findIdx_eq hi']
 refine ⟨by rw [rowT_get hi'];exact hc,fun j hj=>?_⟩
 have hj':j<rowsT.length:=by omega
 rw [rowT_get hj']
 exact hm j hj' hj
theorem lvl_8 {op:List UInt8} (hm:missTo op 7):lvl op=8:=by
 unfold lvl
 have:rowsT.findIdx (fun r=>r.contains op)=rowsT.length:=by
  rw [List.findIdx_eq_length]
  intro r hr
  obtain ⟨j,hj,rfl⟩:=List.getElem_of_mem hr
  rw [rowT_get hj]
  exact hm j hj hj
 rw [this];rfl
theorem miss_row {op:List UInt8} {i:Nat} (h:∀ k,k<(rowT i).length→(rowT i).getD k []≠op):(rowT i).contains op=false:=by
 rw [List.contains_eq_mem,decide_eq_false_iff_not]
 intro hm
 obtain ⟨k,hk,e⟩:=List.getElem_of_mem hm
 exact h k hk (by simp [List.getD,hk,e])
theorem hit_row {op:List UInt8} {i k:Nat} (hk:k<(rowT i).length) (h:(rowT i).getD k []=op):(rowT i).contains op=true:=by
 rw [List.contains_eq_mem,decide_eq_true_eq]
 have:(rowT i)[k]=op:=by simpa [List.getD,hk] using h
 rw [← this];exact List.getElem_mem hk
theorem rLevel_c (s:ByteArray) (w:World):Calls Tryz.prog 200 #[.string s] w fun e w'=>e=.returned (.int .i64 (lvl s.toList:Nat))∧Below w.heap.size w w':=by
 go_enter Tryz.func200,Tryz.ntmps200
 go_wp2
 go_loopw [4,5] (fun vi _ wr=>∃ i:Nat,i≤7∧vi=.int .i64 i∧missTo s.toList i∧TblAt wr w.heap.size∧Below w.heap.size w wr) (fun vi _ _=>7 - (intOf vi).toNat)
 case atStart =>
  refine ⟨0,by omega,V,fun j h hj=>by omega,⟨?_,?_⟩,?_⟩
  ·intro i h
   rw [World.cell?_alloc_at _ _ _ _ (by simp only [World.size_alloc])]
   rcases seven h with rfl|rfl|rfl|rfl|rfl|rfl|rfl <;> rfl
  ·intro i h k hk
   rcases seven h with rfl|rfl|rfl|rfl|rfl|rfl|rfl
   all_goals
    have hk6:k=0∨k=1∨k=2∨k=3∨k=4∨k=5:=by have:=rowlen _ h;omega
    rcases hk6 with rfl|rfl|rfl|rfl|rfl|rfl
    all_goals first|(exact absurd hk (by decide))|skip
    all_goals
     repeat (rw [World.cell?_alloc_past _ _ _ (by simp only [World.size_alloc];omega)])
     rw [World.cell?_alloc_at _ _ _ _ (by first|rfl|(simp only [World.size_alloc];done)|(simp only [World.size_alloc];omega))]
     rfl
  exact (((((((((Below.refl _ _).alloc (Nat.le_refl _) _).alloc (by simp) _).alloc (by simp;omega) _).alloc (by simp;omega) _).alloc (by simp;omega) _).alloc (by simp;omega) _).alloc (by simp;omega) _).alloc (by simp;omega) _)
 case round =>
  obtain ⟨i,hi,rfl,hm,hT,hbel⟩:=hrel
  by_cases hi7:i<7
  ·have hr:=hT.row i hi7
   have hl:=rowlen i hi7
   obtain ⟨n,hn⟩:∃ n,n=(rowT i).length:=⟨_,rfl⟩
   rw [← hn] at hr hl
   have HN:=Lib.hid hn
   have HM:=Lib.hid hm
   clear hn hm
   have d1:decide ((i:Int)<7)=true:=by simp;omega
   go_wp2
   go_loop [5] (fun vk=>∃ k:Nat,k≤n∧vk=.int .i64 k∧∀ j,j<k→(rowT i).getD j []≠s.toList) (fun vk=>n - (intOf vk).toNat)
   case atStart=>exact ⟨0,by omega,rfl,fun j hj=>by omega⟩
   case round =>
    obtain ⟨k,hk,rfl,hmk⟩:=hrel
    have HMK:=Lib.hid hmk
    clear hmk
    by_cases hkn:k<n
    ·have cs:=hT.str i hi7 k (by rw [← HN.out];exact hkn)
     obtain ⟨sk,hsk⟩:∃ sk:ByteArray,sk=⟨((rowT i).getD k []).toArray⟩:=⟨_,rfl⟩
     have es:sk.toList=(rowT i).getD k []:=by rw [ByteArray.toList_eq,hsk]
     rw [← hsk] at cs
     clear hsk
     have HES:=Lib.hid es
     clear es
     by_cases heq:(sk.toList == s.toList)=true
     ·go_wp2
      go_ret
      have h1:(rowT i).getD k []=s.toList:=by rw [← HES.out];simpa using heq
      exact ⟨by rw [lvl_at hi7 HM.out (hit_row (by rw [← HN.out];exact hkn) h1)];rfl,hbel⟩
     have heq':(sk.toList == s.toList)=false:=by simpa using heq
     clear heq
     go_wp2
     go_round
     case rel=>exact ⟨k+1,by omega,by go_num,fun j hj=>by
      by_cases e:j=k
      ·subst e;rw [← HES.out];exact beq_eq_false_iff_ne.1 heq'
      exact HMK.out j (by omega)⟩
     case measure=>simp [intOf];omega
    go_wp2
    go_roundw
    case rel=>exact ⟨i+1,by omega,by go_num,fun j h hj=>by
     by_cases e:j=i
     ·subst e;exact miss_row (fun k' hk'=>HMK.out k' (by have:=HN.out;omega))
     exact HM.out j h (by omega),hT,hbel⟩
    case measure=>simp [intOf];omega
  have he:i=7:=by omega
  subst he
  go_wp2
  go_ret
  exact ⟨by rw [lvl_8 hm];rfl,hbel⟩
theorem Level_p (s:ByteArray):PCall Tryz.prog 200 [.val (.string s)] (.val (.int .i64 (lvl s.toList:Nat))) :=
 PCall.of_calls (vs:=[.string s]) (enters_of Tryz.func200 (by kernel_rfl) rfl) (fun w=>rLevel_c s w)
theorem Level_at (ops:List Tok) (i:Nat):PCall Tryz.prog 200 [.val (.string ((ops[i]?).getD (tok0 0)).t)] (.val (.int .i64 (lvT ops i:Nat))):=Level_p _
theorem strs_at {ops:List Tok} {i:Nat} (h:i<ops.length):(strs (ops.map Tok.t))[i]?=some [.val (.string ((ops[i]?).getD (tok0 0)).t)]:=by
 simp [strs,List.getElem?_eq_getElem h]
theorem sideN_8 (l:Nat):((sideN l:Nat):Int)=if (l:Int)=4 then 0 else if (l:Int)<6 then 2 else 1:=by
 unfold sideN
 repeat' split
 all_goals first|rfl|omega
theorem back_eq {lv:Nat→Nat} {j:Nat} (h:¬ (0<j∧4<lv (j - 1))):backL lv j=true↔(0<j∧lv (j - 1)=4):=by
 cases j with
 | zero=>simp [backL]
 | succ j =>
  simp only [Nat.add_sub_cancel] at h ⊢
  rw [backL,if_neg (fun q=>h ⟨Nat.succ_pos j,q⟩)]
  simp
theorem Side_p (l:Nat):PCall Tryz.prog 201 [.val (.int .i64 (l:Nat))] (.val (.int .i64 (sideN l:Nat))):=by
 rw [sideN_8]
 refine Zc Tryz.func201 V (by kernel_rfl) V (Xz V) ?_
 refine Q527 ?_
 refine Q17 ?_;intro c4 h4
 refine Q226 ?_
 rcases Za h4 with ⟨rfl,g4⟩|⟨rfl,g4⟩
 ·refine Q329 ?_
  refine Q19 ?_;intro c6 h6
  refine Q226 ?_
  rcases Za h6 with ⟨rfl,g6⟩|⟨rfl,g6⟩
  ·refine Q289 ?_
   refine Q232 ?_
   exact Zf V V (Xt _) by3 ⟨by rw [if_neg g4,if_neg g6],V⟩
  refine Q285 ?_
  exact Zf V V (Xt _) by3 ⟨by rw [if_neg g4,if_pos g6],V⟩
 refine Q285 ?_
 exact Zf V V (Xt _) by3 ⟨by rw [if_pos g4],V⟩
theorem Clash_p (ops:List Tok) (h:ops.length≤200000):PCall Tryz.prog 162 [.seq 1 (strs (ops.map Tok.t))] (.val (.int .i64 (clashP ops))):=by
 have hl:(strs (ops.map Tok.t)).length=ops.length:=by simp [strs]
 have hC:clashP ops=clashL (lvT ops) (ops.length - 0) 0:=rfl
 generalize clashP ops=r at *
 refine Zc Tryz.func162 V (by kernel_rfl) V (Xz V) ?_
 refine Q237 ?_
 refine Q337 ?_
 apply Yd (rg [(1,41)]) (σ:=Nat) (fun zz=>match zz with|k=>[(3,.val (.int .i64 k))]) (fun zz=>match zz with|k=>k≤ops.length∧r=clashL (lvT ops) (ops.length - k) k) (fun zz=>match zz with|k=>ops.length - k) (0)
 ·repeat' (first|exact Wc|apply Wa rfl|apply Wb rfl)
 ·exact ⟨Nat.zero_le _,hC⟩
 ·exact by4
 rintro k hI
 try dsimp only [List.cons_append,List.nil_append] at hI ⊢
 obtain ⟨h1,hu⟩:=hI
 refine Q439 ?_;intro n7
 refine Q19 ?_;intro c8 h8
 refine Q226 ?_
 rcases Za h8 with ⟨rfl,g8⟩|⟨rfl,g8⟩
 ·refine Q322 ?_
  rw [show ops.length - k=0 by omega,clashL] at hu;exact Zf rfl rfl (Xt _) by3 ⟨by rw [hu],rfl⟩
 refine Q539 ?_
 obtain ⟨d,hd⟩:∃ d,ops.length - k=d+1:=⟨ops.length - k - 1,by omega⟩
 rw [hd,clashL] at hu
 have hd2:d=ops.length - (k+1):=by omega
 rw [hd2] at hu
 refine Q314 ?_
 refine Zb 13 V V V (Zg V te_44 V (.seq _ _) V V (strs_at (ops:=ops) (i:=k) (by omega)) ?_)
 refine Q14 ?_
 refine Zb 15 V V V (Zd (xs:=[.tmp 14]) V V (Level_at ops k) by1 ?_)
 refine Q34 ?_;intro c16 h16
 refine Q226 ?_
 rcases Za h16 with ⟨rfl,g16⟩|⟨rfl,g16⟩
 ·refine Q321 ?_
  refine Q65 ?_
  refine Q387 ?_
  apply Yd (rg [(1,1),(4,1),(19,12)]) (σ:=Nat) (fun zz=>match zz with|j=>[(4,.val (.int .i64 ((j:Int) - 1)))]) (fun zz=>match zz with|j=>j≤k∧backL (lvT ops) k=backL (lvT ops) j) (fun zz=>match zz with|j=>j) (k)
  ·repeat' (first|exact Wc|apply Wa rfl|apply Wb rfl)
  ·exact ⟨Nat.le_refl _,V⟩
  ·exact by4
  rintro j hI
  try dsimp only [List.cons_append,List.nil_append] at hI ⊢
  obtain ⟨h2,hb⟩:=hI
  refine Q292 ?_
  refine Zy 28 (0<j∧4<lvT ops (j - 1)) ?_ _ _ V ?_
  ·skip
   refine Q346 ?_;intro c20 h20
   refine Q5 ?_
   rcases Za h20 with ⟨rfl,g20⟩|⟨rfl,g20⟩
   ·skip
    refine Q413 ?_
    refine Xx V ?_ by5 by3
    first|(simp_all;done)|(simp_all;omega)|grind
   skip
   refine Q312 ?_
   refine Zq 24 V V V V V (Zg (i:=(j - 1)) V te_44 V (.seq _ _) V (by first|rfl|omega) (strs_at (ops:=ops) (i:=j - 1) (by omega)) ?_)
   refine Q36 ?_
   refine Zq 26 V V V V V (Zd (xs:=[.tmp 25]) V V (Level_at ops (j - 1)) by1 ?_)
   refine Q71 ?_;intro c27 h27
   refine Q236 ?_
   refine Xx V ?_ by5 by3
   first|(simp_all;done)|(simp_all;omega)|grind
  intro c28 h28
  refine Q1 ?_
  rcases Za h28 with ⟨rfl,g28⟩|⟨rfl,g28⟩
  ·refine Q343 ?_
   refine Zy 40 (0<j∧lvT ops (j - 1)=4) ?_ _ _ V ?_
   ·skip
    refine Q346 ?_;intro c32 h32
    refine Q5 ?_
    rcases Za h32 with ⟨rfl,g32⟩|⟨rfl,g32⟩
    ·skip
     refine Q413 ?_
     refine Xx V ?_ by5 by3
     first|(simp_all;done)|(simp_all;omega)|grind
    skip
    refine Q312 ?_
    refine Zq 36 V V V V V (Zg (i:=(j - 1)) V te_44 V (.seq _ _) V (by first|rfl|omega) (strs_at (ops:=ops) (i:=j - 1) (by omega)) ?_)
    refine Q36 ?_
    refine Zq 38 V V V V V (Zd (xs:=[.tmp 37]) V V (Level_at ops (j - 1)) by1 ?_)
    refine Q38 ?_;intro c39 h39
    refine Q236 ?_
    refine Xx V ?_ by5 by3
    first|(simp_all;done)|(simp_all;omega)|grind
   intro c40 h40
   refine Q1 ?_
   rcases Za h40 with ⟨rfl,g40⟩|⟨rfl,g40⟩
   ·refine Q305 ?_
    have hu2:r=clashL (lvT ops) (ops.length - (k+1)) (k+1):=by
     first
      | (rw [if_neg (fun q=>g40 ((back_eq g28).1 (by rw [← hb];exact q.2)))] at hu;exact hu)
      | (rw [if_neg (fun q=>g16 (by omega))] at hu;exact hu)
    exact ⟨k+1,⟨by omega,hu2⟩,by show ops.length - (k+1)<ops.length - k;omega,Xw V (Le.inteq (by omega)) by4,by3⟩
   refine Q358 ?_
   rw [if_pos ⟨by omega,by rw [hb];exact (back_eq g28).2 g40⟩] at hu;exact Zf rfl rfl (Xt _) by3 ⟨by rw [hu],rfl⟩
  refine Q330 ?_
  obtain ⟨j,rfl⟩:∃ j',j=j'+1:=⟨j - 1,by omega⟩
  simp only [Nat.add_sub_cancel] at g28
  rw [backL,if_pos g28.2] at hb
  refine Q234 ?_
  refine Q65 ?_
  refine Q418 ?_
  exact ⟨j,⟨by omega,hb⟩,Nat.lt_succ_self j,Xw V (Le.inteq (by omega)) by4,by3⟩
 refine Q9 ?_
 refine Q245 ?_
 refine x_here ?_
 refine Q1 ?_
 refine Q266 ?_
 have hu2:r=clashL (lvT ops) (ops.length - (k+1)) (k+1):=by
  first
   | (rw [if_neg (fun q=>g40 ((back_eq g28).1 (by rw [← hb];exact q.2)))] at hu;exact hu)
   | (rw [if_neg (fun q=>g16 (by omega))] at hu;exact hu)
 exact ⟨k+1,⟨by omega,hu2⟩,by show ops.length - (k+1)<ops.length - k;omega,Xw V (Le.inteq (by omega)) by4,by3⟩
abbrev zEx:List AV:=[.val (.int .i64 0),.val (.string kE),.val (.int .i64 0),.val (.int .i64 0),.val (.string kE),.val (.int .i64 0),.val (.slice none 0 0),.val (.slice none 0 0),.val (.slice none 0 0),.val (.slice none 0 0),.val (.int .i64 0)]
theorem rootB_in (ops:List Tok):∀ (f a i lo:Nat),lo≤a→a<i→lo≤rootB ops f a i∧rootB ops f a i<i+f
 | 0,a,i,lo,h1,h2=>⟨h1,h2⟩
 | f+1,a,i,lo,h1,h2=>by
  unfold rootB
  split
  ·have:=rootB_in ops f i (i+1) lo (by omega) (Nat.lt_succ_self i);omega
  have:=rootB_in ops f a (i+1) lo h1 (by omega);omega
theorem toks_at {ops:List Tok} {i:Nat} (h:i<ops.length):(ops.map Tok.av)[i]?=some ((ops[i]?).getD (tok0 0)).av:=by
 simp [List.getElem?_eq_getElem h]
theorem exs_at {l:List Ex} {i:Nat} (h:i<l.length):(Ex.cellss l)[i]?=some ((l[i]?).getD ex0).cells:=by
 rw [Ex.cellss_map];simp [List.getElem?_eq_getElem h]
theorem Build_one (l:List Ex) (ops:List Tok) (hl:l.length=ops.length+1) (a:Nat) (ha:a≤ops.length):PCall Tryz.prog 163 [.seq 11 (Ex.cellss l),.seq 4 (ops.map Tok.av),.val (.int .i64 a),.val (.int .i64 a)] (.agg ((l[a]?).getD ex0).cells):=by
 have hx:=exs_at (l:=l) (i:=a) (by omega)
 obtain ⟨⟨xk,xs,xn,⟨xtk,xts,xtn,xtl⟩,xks,xal,xbs,xp⟩,e⟩:∃ x,(l[a]?).getD ex0=x:=⟨_,rfl⟩
 rw [e] at hx ⊢
 refine Zc Tryz.func163 V (by kernel_rfl) V (Xz V) ?_
 refine Q399 ?_;intro b8
 refine Q301 ?_
 refine Q401 ?_;intro c19 h19
 refine Q226 ?_
 rcases Za h19 with ⟨rfl,g19⟩|⟨rfl,g19⟩
 ·exact absurd V g19
 refine Q391 ?_
 refine Zb 22 V V V (Zg V te_125 V (.seq _ _) V V (hx) (Zb 23 V V V (Yb (cs':=[_,_,_,_,_,_,_,_,_,_,_]) V Xj V V V ?_)))
 refine Q73 ?_
 refine Q257 ?_
 exact Zj (i:=0) V V V Xj V (Xt _) by3 ⟨V,V⟩
theorem Build_two (l:List Ex) (ops:List Tok) (hL:ops.length≤200000) (a b d:Nat) (hab:a<b) (hb:b≤ops.length) (hd:b - a≤d+1)
    (IH:∀ a b,a≤b→b≤ops.length→b - a≤d→PCall Tryz.prog 163 [.seq 11 (Ex.cellss l),.seq 4 (ops.map Tok.av),.val (.int .i64 a),.val (.int .i64 b)] (.agg (buildF l ops d a b).cells)) :
    PCall Tryz.prog 163 [.seq 11 (Ex.cellss l),.seq 4 (ops.map Tok.av),.val (.int .i64 a),.val (.int .i64 b)] (.agg (buildF l ops (d+1) a b).cells):=by
 rw [buildF,if_neg (by omega)]
 obtain ⟨r,hr⟩:∃ r,rootB ops (b - (a+1)) a (a+1)=r:=⟨_,rfl⟩
 have hin:=rootB_in ops (b - (a+1)) a (a+1) a (Nat.le_refl _) (Nat.lt_succ_self a)
 rw [hr] at hin ⊢
 have H1:=IH a r hin.1 (by omega) (by omega)
 have H2:=IH (r+1) b (by omega) hb (by omega)
 have hop:=toks_at (ops:=ops) (i:=r) (by omega)
 obtain ⟨⟨xk,xs,xn,⟨xtk,xts,xtn,xtl⟩,xks,xal,xbs,xp⟩,e1⟩:∃ x,buildF l ops d a r=x:=⟨_,rfl⟩
 obtain ⟨⟨yk,ys,yn,⟨ytk,yts,ytn,ytl⟩,yks,yal,ybs,yp⟩,e2⟩:∃ x,buildF l ops d (r+1) b=x:=⟨_,rfl⟩
 obtain ⟨⟨ok,ot,on,oa⟩,e3⟩:∃ x,(ops[r]?).getD (tok0 0)=x:=⟨_,rfl⟩
 rw [e1] at H1 ⊢
 rw [e2] at H2 ⊢
 rw [e3] at hop ⊢
 simp only [Ex.cells,Ty.cells,List.cons_append,List.nil_append,Tok.av] at H1 H2 hop
 clear IH
 obtain ⟨z,hz⟩:∃ z,binE (Tok.mk ok ot on oa) (Ex.mk xk xs xn (Ty.mk xtk xts xtn xtl) xks xal xbs xp) (Ex.mk yk ys yn (Ty.mk ytk yts ytn ytl) yks yal ybs yp)=z:=⟨_,rfl⟩
 rw [hz]
 unfold binE at hz
 simp only [] at hz
 refine Zc Tryz.func163 V (by kernel_rfl) V (Xz V) ?_
 refine Q399 ?_;intro b8
 refine Q301 ?_
 refine Q401 ?_;intro c19 h19
 refine Q226 ?_
 rcases Za h19 with ⟨rfl,g19⟩|⟨rfl,g19⟩
 ·refine Q321 ?_
  refine Q275 ?_
  refine Q18 ?_
  refine Q269 ?_
  apply Yd (rg [(4,4),(9,4),(17,41)]) (σ:=Nat × Nat) (fun zz=>match zz with|(t,i)=>[(9,.val (.int .i64 t)),(10,.val (.int .i64 i))]) (fun zz=>match zz with|(t,i)=>a≤t∧t<i∧i≤b∧rootB ops (b - i) t i=r) (fun zz=>match zz with|(t,i)=>b - i) ((a,a+1))
  ·repeat' (first|exact Wc|apply Wa rfl|apply Wb rfl)
  ·exact ⟨Nat.le_refl _,Nat.lt_succ_self a,hab,hr⟩
  ·exact by4
  rintro ⟨t,i⟩ hI
  try dsimp only [List.cons_append,List.nil_append] at hI ⊢
  obtain ⟨h1,h2,h3,hu⟩:=hI
  refine Q505 ?_;intro c29 h29
  refine Q226 ?_
  rcases Za h29 with ⟨rfl,g29⟩|⟨rfl,g29⟩
  ·refine Q343 ?_
   rw [show b - i=0 by omega,rootB] at hu
   subst hu
   refine Q327 ?_
   refine Q5 ?_
   refine Zb 62 V V V (Zd (xs:=[.tmp 58,.tmp 59,.tmp 60,.tmp 61]) V V (H1) by1 ?_)
   refine Q54 ?_;intro b13
   refine Q73 ?_
   refine Q287 ?_
   refine Q277 ?_
   refine Q313 ?_
   refine Zb 68 V V V (Zd (xs:=[.tmp 63,.tmp 64,.tmp 66,.tmp 67]) V V (H2) by1 ?_)
   refine Q54 ?_;intro b14
   refine Q73 ?_
   refine Q287 ?_
   refine Q5 ?_
   refine Zb 71 V V V (Zg V te_105 V (.seq _ _) V V (hop) (Zb 72 V V V (Yb (cs':=[_,_,_,_]) V Zv V V V ?_)))
   refine Q39 ?_;intro b15
   refine Q44 ?_
   refine Q345 ?_
   refine Q60 ?_;intro c75 h75
   refine Q226 ?_
   rcases Za h75 with ⟨rfl,g75⟩|⟨rfl,g75⟩
   ·refine Q350 ?_
    refine Q60 ?_;intro c84 h84
    refine Q226 ?_
    rcases Za h84 with ⟨rfl,g84⟩|⟨rfl,g84⟩
    ·refine Q259 ?_
     refine Q280 ?_
     refine Q243 ?_
     refine Zb 95 V V V (Zp (ns:=[0,1,7]) (xs:=[.const (.int .i64 3),.tmp 92,.tmp 94]) V tz_128 V tfl_128 V V V V ?_)
     refine Q54 ?_;intro b16
     refine Q73 ?_
     refine Q258 ?_
     refine Q90 ?_
     refine Zb 97 V V V (Yc (cs':=[_,_,_,_,_,_,_,_,_,_,_]) (i:=3) V Xj V V V V (Zb 98 V V V (Zh (xs:=[.tmp 96,.tmp 97]) el_125 V V V V V V (Xz V) ?_)))
     refine Q272 ?_
     refine Zb 101 V V V (Zp (ns:=[0,4,7]) (xs:=[.const (.int .i64 5),.tmp 98,.tmp 100]) V tz_128 V tfl_128 V V V V ?_)
     refine Q73 ?_
     refine Q258 ?_
     refine Q90 ?_
     refine Q140 ?_
     refine Zb 104 V V V (Zh (xs:=[.tmp 102,.tmp 103]) el_125 V V V V V V (Xz V) ?_)
     refine Q272 ?_
     refine Zb 107 V V V (Zp (ns:=[0,4,7]) (xs:=[.const (.int .i64 5),.tmp 104,.tmp 106]) V tz_128 V tfl_128 V V V V ?_)
     refine Q208 ?_
     refine Q257 ?_
     rw [if_neg g75,if_neg g84] at hz;subst hz;exact Zj (i:=4) rfl rfl rfl Xj rfl by0 by3 ⟨rfl,rfl⟩
    refine Q240 ?_
    refine Q140 ?_
    refine Q168 ?_
    refine Zb 87 V V V (Zh (xs:=[.tmp 85,.tmp 86]) el_125 V V V V V V (Xz V) ?_)
    refine Q243 ?_
    refine Zb 90 V V V (Zp (ns:=[0,4,7]) (xs:=[.const (.int .i64 11),.tmp 87,.tmp 89]) V tz_128 V tfl_128 V V V V ?_)
    refine Q561 ?_
    rw [if_neg g75,if_pos g84] at hz;subst hz;exact Zj (i:=3) rfl rfl rfl Xj rfl by0 by3 ⟨rfl,rfl⟩
   refine Q240 ?_
   refine Q140 ?_
   refine Q168 ?_
   refine Zb 78 V V V (Zh (xs:=[.tmp 76,.tmp 77]) el_125 V V V V V V (Xz V) ?_)
   refine Q243 ?_
   refine Zb 81 V V V (Zp (ns:=[0,4,7]) (xs:=[.const (.int .i64 10),.tmp 78,.tmp 80]) V tz_128 V tfl_128 V V V V ?_)
   refine Q561 ?_
   rw [if_pos g75] at hz;subst hz;exact Zj (i:=3) rfl rfl rfl Xj rfl by0 by3 ⟨rfl,rfl⟩
  refine Q256 ?_
  refine Q229 ?_
  refine Q5 ?_
  refine Zb 34 V V V (Zg V te_105 V (.seq _ _) V V (toks_at (ops:=ops) (i:=t) (by omega)) ?_)
  refine Q235 ?_
  refine Zb 37 V V V (Zd (xs:=[.tmp 36]) V V (Level_at ops t) by1 ?_)
  refine Q341 ?_
  refine Zb 40 V V V (Zg V te_105 V (.seq _ _) V V (toks_at (ops:=ops) (i:=i) (by omega)) ?_)
  refine Q235 ?_
  refine Zb 43 V V V (Zd (xs:=[.tmp 42]) V V (Level_at ops i) by1 ?_)
  refine Q238 ?_
  refine Zy 56 (lvT ops i<lvT ops t∨(lvT ops i=lvT ops t∧sideN (lvT ops t)=1)) ?_ _ _ V ?_
  ·skip
   refine Q277 ?_
   refine Q19 ?_;intro c46 h46
   refine Q5 ?_
   rcases Za h46 with ⟨rfl,g46⟩|⟨rfl,g46⟩
   ·skip
    refine Q312 ?_
    refine Q38 ?_;intro c50 h50
    refine Q16 ?_
    rcases Za h50 with ⟨rfl,g50⟩|⟨rfl,g50⟩
    ·skip
     refine Q279 ?_
     refine Q299 ?_
     refine Xx V ?_ by5 by3
     clear H1 H2;first|(simp_all;done)|(simp_all;omega)|grind
    skip
    refine Q16 ?_
    refine Zq 53 V V V V V (Zd (xs:=[.tmp 52]) V V (Side_p (lvT ops t)) by1 ?_)
    refine Q38 ?_;intro c54 h54
    refine Q299 ?_
    refine Xx V ?_ by5 by3
    clear H1 H2;first|(simp_all;done)|(simp_all;omega)|grind
   skip
   refine Q251 ?_
   refine Q276 ?_
   refine Q528 ?_
   refine Q236 ?_
   refine Xx V ?_ by5 by3
   clear H1 H2;first|(simp_all;done)|(simp_all;omega)|grind
  intro c56 h56
  refine Q1 ?_
  rcases Za h56 with ⟨rfl,g56⟩|⟨rfl,g56⟩
  ·refine Q404 ?_
   obtain ⟨f,hf⟩:∃ f,b - i=f+1:=⟨b - i - 1,by omega⟩
   rw [hf,rootB] at hu
   have hf2:f=b - (i+1):=by omega
   rw [hf2] at hu
   refine Q266 ?_
   first
   | (rw [if_pos g56] at hu;exact ⟨(i,i+1),⟨by show a≤i;omega,Nat.lt_succ_self i,by show i+1≤b;omega,hu⟩,by show b - (i+1)<b - i;omega,Xw rfl (Xt _) (Xw rfl (Le.inteq (by omega)) by4),by3⟩)
   | (rw [if_neg g56] at hu;exact ⟨(t,i+1),⟨h1,by show t<i+1;omega,by show i+1≤b;omega,hu⟩,by show b - (i+1)<b - i;omega,Xw rfl (Xt _) (Xw rfl (Le.inteq (by omega)) by4),by3⟩)
  refine Q9 ?_
  refine Q234 ?_
  refine Q239 ?_
  refine Q250 ?_
  obtain ⟨f,hf⟩:∃ f,b - i=f+1:=⟨b - i - 1,by omega⟩
  rw [hf,rootB] at hu
  have hf2:f=b - (i+1):=by omega
  rw [hf2] at hu
  refine Q266 ?_
  first
  | (rw [if_pos g56] at hu;exact ⟨(i,i+1),⟨by show a≤i;omega,Nat.lt_succ_self i,by show i+1≤b;omega,hu⟩,by show b - (i+1)<b - i;omega,Xw rfl (Xt _) (Xw rfl (Le.inteq (by omega)) by4),by3⟩)
  | (rw [if_neg g56] at hu;exact ⟨(t,i+1),⟨h1,by show t<i+1;omega,by show i+1≤b;omega,hu⟩,by show b - (i+1)<b - i;omega,Xw rfl (Xt _) (Xw rfl (Le.inteq (by omega)) by4),by3⟩)
 omega
theorem Build_c (l:List Ex) (ops:List Tok) (hl:l.length=ops.length+1) (hL:ops.length≤200000):∀ (d a b:Nat),a≤b→b≤ops.length→b - a≤d→PCall Tryz.prog 163 [.seq 11 (Ex.cellss l),.seq 4 (ops.map Tok.av),.val (.int .i64 a),.val (.int .i64 b)] (.agg (buildF l ops d a b).cells)
 | 0,a,b,h1,h2,h3=>by
  obtain rfl:a=b:=by omega
  exact Build_one l ops hl a h2
 | d+1,a,b,h1,h2,h3=>by
  by_cases h:a=b
  ·subst h
   rw [buildF,if_pos rfl]
   exact Build_one l ops hl a h2
  exact Build_two l ops hL a b d (by omega) h2 h3 (Build_c l ops hl hL d)
def ExC (b:Nat) (L:List Tok) (n:Nat) (E:PS→Ex × PS):Prop:=∀ q,POk L n q→MCall Tryz.prog 105 [.ptr b 0] (.loc b (psC L q)) (.agg (E q).1.cells) (.loc b (psC L (E q).2))
theorem take_prog {L:List Tok} {p:PS} {kind:Int} {s:ByteArray} (hk:kind≠0) (h:(takeP L p kind s).2.e=0):takeP L p kind s=(nxt L p,stepP p)∧p.e=0∧p.at_<L.length:=by
 unfold takeP at h ⊢
 by_cases q:p.e≠0
 ·rw [if_pos q] at h;exact absurd h q
 rw [if_neg q] at h ⊢
 by_cases q2:(kind<6∧(nxt L p).k≠kind)∨(6≤kind∧((nxt L p).k<6∨(nxt L p).t≠s))
 ·rw [if_pos q2] at h;exact absurd h (fail_ne (by decide))
 rw [if_neg q2];exact ⟨rfl,Xm (by omega)⟩
theorem nxt_ok {L:List Tok} {p:PS} (h:(nxt L p).k≠0):p.e=0:=(Xm h).1
theorem bind_c (b:Nat) (L:List Tok) (hL:L.length≤100000) (n:Nat) (E:PS→Ex × PS) (HE:ExC b L n E) (p:PS) (k:POk L n p):MCall Tryz.prog 60 [.ptr b 0] (.loc b (psC L p)) (.agg (bindG L E p).1.cells) (.loc b (psC L (bindG L E p).2)):=by
 have H1:=pName_c b L hL n p k
 have k1:=(name_adv k).ok k
 have H2:=take_c b L hL _ k1.1 7 kEq
 have k2:=(Zo (kind:=7) (s:=kEq) (by decide) k1).ok k1
 have H3:=HE _ k2
 obtain ⟨r,hr⟩:∃ r,bindG L E p=r:=⟨_,rfl⟩
 rw [hr]
 unfold bindG at hr
 obtain ⟨⟨⟨tk,tt,tn,ta⟩,p1⟩,e1⟩:∃ r,nameP L p=r:=⟨_,rfl⟩
 rw [e1] at H1 H2 H3 hr
 obtain ⟨⟨u2,p2⟩,e2⟩:∃ r,takeP L p1 7 kEq=r:=⟨_,rfl⟩
 simp only [] at H2 H3 hr
 rw [e2] at H2 H3 hr
 simp only [] at H2 H3 hr
 obtain ⟨⟨⟨xk,xs,xn,⟨xtk,xts,xtn,xtl⟩,xks,xal,xbs,xp⟩,p3⟩,e3⟩:∃ r,E p2=r:=⟨_,rfl⟩
 rw [e3] at H3 hr
 simp only [Ex.cells,Ty.cells,List.cons_append,List.nil_append,Tok.av] at H1 H3 hr
 subst hr
 refine Zc Tryz.func60 V (by kernel_rfl) V (Xz V) ?_
 refine Q237 ?_
 refine Zb 2 V V V (Yk (cs':=[_,_,_,_,_,_,_,_,_,_,_,_,_]) V tz_130 V V ?_);intro b2
 refine Q287 ?_
 refine Zb 5 V V V (Zi (xs:=[.tmp 4]) (i:=1) V V V (H1) by1 ?_)
 refine Q39 ?_;intro b3
 refine Q557 ?_
 refine Zb 7 V V V (Zi (xs:=[.tmp 6,.const (.int .i64 7),.const (.string ⟨#[61]⟩)]) (i:=2) V V V (H2) by1 ?_)
 refine Q241 ?_
 refine Yp [0,1,2,4,5,3,6,7] [3,7] [[],[0],[],[2],[],[4],[0,1,2,3,4,5],[0,1,2,3,4,5,6]] Xl V ?_
 refine Q368 ?_
 refine Q325 ?_
 refine Yf 2 (i:=3) V V V V V (Zi (xs:=[.tmp 10]) (i:=0) V V V (H3) by1 ⟨_,V,?_⟩)
 refine Zm 14 (none) (i:=6) V V V V V (Zp (ns:=[0,1,2]) (xs:=[.tmp 9,.tmp 11,.tmp 13]) V tz_130 V tfl_130 V V V V ⟨V,V⟩) ?_
 refine Yf 1 (i:=7) V V V V V (Zu (cs':=[_,_,_,_,_,_,_,_,_,_,_,_,_]) (i:=0) V ts_130 V V V V V (Xz V) V ⟨_,V,?_⟩)
 show AGo _ _ _ _ _ _ _
 refine Q303 ?_
 exact Zj (i:=1) V V V ta_130 V (Xt _) (Xq _ (Xq _ (Xs V))) ⟨V,V⟩
theorem lambda_c (b:Nat) (L:List Tok) (hL:L.length≤100000) (n:Nat) (E:PS→Ex × PS) (HE:ExC b L n E):∀ (f:Nat) (p:PS) (a:Int),POk L n p→L.length - p.at_<f→MCall Tryz.prog 198 [.ptr b 0,.val (.int .i64 a)] (.loc b (psC L p)) (.agg (lambdaG L E f p a).1.cells) (.loc b (psC L (lambdaG L E f p a).2))
 | 0,p,a,k,h=>by omega
 | f+1,p,a,k,h=>by
  have H1:=take_c b L hL _ k.1 1 kE
  have k1:=(Zo (kind:=1) (s:=kE) (by decide) k).ok k
  have hp1:=take_prog (L:=L) (p:=p) (kind:=1) (s:=kE) (by decide)
  obtain ⟨r,hr⟩:∃ r,lambdaG L E (f+1) p a=r:=⟨_,rfl⟩
  rw [hr]
  rw [lambdaG] at hr
  obtain ⟨⟨⟨tk,tt,tn,ta⟩,p1⟩,e1⟩:∃ r,takeP L p 1 kE=r:=⟨_,rfl⟩
  rw [e1] at H1 k1 hr hp1
  simp only [Tok.av] at H1 k1 hr hp1
  have HN:=next_c b L p1
  obtain ⟨⟨qk,qt,qn,qa⟩,e4⟩:∃ r,nxt L p1=r:=⟨_,rfl⟩
  have hn1:=nxt_ok (L:=L) (p:=p1)
  rw [e4] at HN hr hn1
  simp only [Tok.av] at HN hr hn1
  have H2:=take_c b L hL p1 k1.1 7 kArrow
  have k2:=(Zo (kind:=7) (s:=kArrow) (by decide) k1).ok k1
  have H3:=HE _ k2
  have IH:qk=1→MCall Tryz.prog 198 [.ptr b 0,.val (.int .i64 qa)] (.loc b (psC L p1)) (.agg (lambdaG L E f p1 qa).1.cells) (.loc b (psC L (lambdaG L E f p1 qa).2)):=fun q=>by
   have h1:=hp1 (hn1 (by omega))
   have h2:p1=stepP p:=by have:=h1.1;simp only [Prod.mk.injEq] at this;exact this.2
   refine lambda_c b L hL n E HE f p1 qa k1 ?_
   have h3:=h1.2.2
   rw [h2]
   show L.length - (p.at_+1)<f
   omega
  obtain ⟨⟨⟨yk,ys,yn,⟨ytk,yts,ytn,ytl⟩,yks,yal,ybs,yp⟩,p4⟩,e5⟩:∃ r,lambdaG L E f p1 qa=r:=⟨_,rfl⟩
  rw [e5] at IH hr
  obtain ⟨⟨⟨xk,xs,xn,⟨xtk,xts,xtn,xtl⟩,xks,xal,xbs,xp⟩,p3⟩,e3⟩:∃ r,E (takeP L p1 7 kArrow).2=r:=⟨_,rfl⟩
  rw [e3] at H3 hr
  simp only [Ex.cells,Ty.cells,List.cons_append,List.nil_append] at IH H3 hr
  clear hp1 hn1
  refine Zc Tryz.func198 V (by kernel_rfl) V (Xz V) ?_
  refine Q399 ?_;intro b4
  refine Q287 ?_
  refine Zb 8 V V V (Zi (xs:=[.tmp 7,.const (.int .i64 1),.const (.string ⟨#[]⟩)]) (i:=1) V V V (H1) by1 ?_)
  refine Q39 ?_;intro b5
  refine Q454 ?_
  refine Q5 ?_
  refine Zb 12 V V V (Zp (ns:=[0,1,7]) (xs:=[.const (.int .i64 6),.tmp 10,.tmp 11]) V tz_128 V tfl_128 V V V V ?_)
  refine Q54 ?_;intro b6
  refine Q73 ?_
  refine Q301 ?_
  refine Zb 14 V V V (Yw (xs:=[.tmp 13]) [3] V V V (HN) by1 ?_)
  refine Zb 15 V V V (Xc (ft:=3) (fo:=0) V (by kernel_rfl) ta_3 V V ?_)
  refine Q17 ?_;intro c16 h16
  refine Q226 ?_
  rcases Za h16 with ⟨rfl,g16⟩|⟨rfl,g16⟩
  ·refine Q321 ?_
   refine Zb 29 V V V (Zi (xs:=[.tmp 28,.const (.int .i64 7),.const (.string ⟨#[45,62]⟩)]) (i:=3) V V V (H2) by1 ?_)
   refine Q241 ?_
   refine Q398 ?_
   refine Yf 3 (i:=3) V V V V V (Zi (xs:=[.tmp 32]) (i:=0) V V V (H3) by1 ⟨_,V,?_⟩)
   refine Zm 34 (none) (i:=4) V V V V V (Zh (xs:=[.tmp 33]) el_125 V V V V V V (Xz V) ⟨V,V⟩) ?_
   refine EOps.nw (i:=5) V V V (op_append_nil el_125 V V V (.seq _ _) by6 (fun u35=>⟨_,V,?_⟩))
   refine Q27 ?_
   refine Q141 ?_
   show AGo _ _ _ _ _ _ _
   refine Q448 ?_
   refine Q523 ?_
   rw [if_neg g16] at hr;subst hr;exact Zj (i:=2) rfl rfl rfl Xj rfl by0 (Xq _ (Xq _ (Xq _ (Xp _ (Xo _))))) ⟨rfl,rfl⟩
  refine Q302 ?_
  refine Yp [0,1,2,3,4,5,6,7,8,9,10] [6,8,10] [[],[0],[],[],[3],[3,4],[2,3,4,5],[2,3,4,5,6],[0,1,2,3,4,5,6,7],[0,1,2,3,4,5,6,7,8],[0,1,2,3,4,5,6,7,8,9]] Xl V ?_
  refine Q368 ?_
  refine Q24 ?_
  refine Zm 21 (some 3) (i:=4) V V V V V (Yw (xs:=[.tmp 20]) [0] V V V (HN) by1 ⟨V,V⟩) ?_
  refine Zm 22 (none) (i:=5) V V V V V (Xc (ft:=3) (fo:=3) V (by kernel_rfl) ta_3 V V ⟨V,V⟩) ?_
  refine Yf 3 (i:=6) V V V V V (Zi (xs:=[.tmp 19,.tmp 22]) (i:=0) V V V (IH g16) by1 ⟨_,V,?_⟩)
  refine Zm 24 (none) (i:=7) V V V V V (Zh (xs:=[.tmp 23]) el_125 V V V V V V (Xz V) ⟨V,V⟩) ?_
  refine EOps.nw (i:=8) V V V (op_append_nil el_125 V V V (.seq _ _) by6 (fun u25=>⟨_,V,?_⟩))
  refine Q27 ?_
  refine Q141 ?_
  show AGo _ _ _ _ _ _ _
  refine Q448 ?_
  refine Q523 ?_
  rw [if_pos g16] at hr;subst hr;exact Zj (i:=2) rfl rfl rfl Xj rfl by0 (Xq _ (Xq _ (Xq _ (Xp _ (Xo _))))) ⟨rfl,rfl⟩
theorem atom_lit (b:Nat) (L:List Tok) (hL:L.length≤100000) (n:Nat) (E:PS→Ex × PS) (p:PS) (k:POk L n p) (h:(nxt L p).k=1∨(nxt L p).k=2∨(nxt L p).k=3∨(nxt L p).k=4):MCall Tryz.prog 199 [.ptr b 0] (.loc b (psC L p)) (.agg (atomG L E p).1.cells) (.loc b (psC L (atomG L E p).2)):=by
 have HN:=next_c b L p
 have hp:=k.1
 have hlt:p.at_<L.length:=(Xm (by omega)).2
 obtain ⟨r,hr⟩:∃ r,atomG L E p=r:=⟨_,rfl⟩
 rw [hr]
 unfold atomG at hr
 obtain ⟨⟨tk,tt,tn,ta⟩,ht⟩:∃ t,nxt L p=t:=⟨_,rfl⟩
 rw [ht] at HN hr h
 simp only [Tok.av] at HN hr h
 refine Zc Tryz.func199 V (by kernel_rfl) V (Xz V) ?_
 refine Q399 ?_;intro b2
 refine Q287 ?_
 refine Zb 10 V V V (Yw (xs:=[.tmp 9]) [1] V V V (HN) by1 ?_)
 refine Q39 ?_;intro b3
 refine Q454 ?_
 refine Q169 ?_
 refine Q54 ?_;intro b4
 refine Q73 ?_
 refine Q241 ?_
 apply c_joink (rg [(1,1),(9,37),(68,1),(81,1),(94,1),(97,1),(110,1)]) (σ:=Int × ByteArray × Int) (fun zz=>match zz with|(kk,ss,nn)=>[]) (fun zz=>match zz with|(kk,ss,nn)=>[.loc b4 [.val (.int .i64 kk),.val (.string ss),.val (.int .i64 nn),.val (.int .i64 0),.val (.string kE),.val (.int .i64 0),.val (.slice none 0 0),.val (.slice none 0 0),.val (.slice none 0 0),.val (.slice none 0 0),.val (.int .i64 ta)],.loc b3 (Tok.mk tk tt tn ta).av,.loc b2 zEx,.loc b (psC L p)]) (fun zz=>match zz with|(kk,ss,nn)=>0<kk∧(Ex.mk kk ss nn ty0 [] [] [] ta,stepP p)=r)
 ·repeat' (first|exact Wc|apply Wa rfl|apply Wb rfl)
 ·skip
  refine c_block ?_
  refine Q363 ?_;intro c17 h17
  refine Q228 ?_
  rcases Za h17 with ⟨rfl,g17⟩|⟨rfl,g17⟩
  ·refine Q405 ?_;intro c25 h25
   refine Q228 ?_
   rcases Za h25 with ⟨rfl,g25⟩|⟨rfl,g25⟩
   ·refine Q405 ?_;intro c33 h33
    refine Q228 ?_
    rcases Za h33 with ⟨rfl,g33⟩|⟨rfl,g33⟩
    ·refine Q405 ?_;intro c41 h41
     refine Q228 ?_
     rcases Za h41 with ⟨rfl,g41⟩|⟨rfl,g41⟩
     ·omega
     refine Q562 ?_
     refine Q455 ?_
     refine Q170 ?_
     refine Q365 ?_
     first
     | (rw [if_pos g17] at hr;exact ⟨(3,tt,0),⟨by decide,hr⟩,by4,Xs rfl⟩)
     | (rw [if_neg g17,if_pos g25] at hr;exact ⟨(4,tt,0),⟨by decide,hr⟩,by4,Xs rfl⟩)
     | (rw [if_neg g17,if_neg g25,if_pos g33] at hr;exact ⟨(1,kE,tn),⟨by decide,hr⟩,by4,Xs rfl⟩)
     | (rw [if_neg g17,if_neg g25,if_neg g33,if_pos g41] at hr;exact ⟨(2,tt,0),⟨by decide,hr⟩,by4,Xs rfl⟩)
    refine Q562 ?_
    refine Q455 ?_
    refine Q209 ?_
    refine Q365 ?_
    first
    | (rw [if_pos g17] at hr;exact ⟨(3,tt,0),⟨by decide,hr⟩,by4,Xs rfl⟩)
    | (rw [if_neg g17,if_pos g25] at hr;exact ⟨(4,tt,0),⟨by decide,hr⟩,by4,Xs rfl⟩)
    | (rw [if_neg g17,if_neg g25,if_pos g33] at hr;exact ⟨(1,kE,tn),⟨by decide,hr⟩,by4,Xs rfl⟩)
    | (rw [if_neg g17,if_neg g25,if_neg g33,if_pos g41] at hr;exact ⟨(2,tt,0),⟨by decide,hr⟩,by4,Xs rfl⟩)
   refine Q562 ?_
   refine Q455 ?_
   refine Q170 ?_
   refine Q365 ?_
   first
   | (rw [if_pos g17] at hr;exact ⟨(3,tt,0),⟨by decide,hr⟩,by4,Xs rfl⟩)
   | (rw [if_neg g17,if_pos g25] at hr;exact ⟨(4,tt,0),⟨by decide,hr⟩,by4,Xs rfl⟩)
   | (rw [if_neg g17,if_neg g25,if_pos g33] at hr;exact ⟨(1,kE,tn),⟨by decide,hr⟩,by4,Xs rfl⟩)
   | (rw [if_neg g17,if_neg g25,if_neg g33,if_pos g41] at hr;exact ⟨(2,tt,0),⟨by decide,hr⟩,by4,Xs rfl⟩)
  refine Q562 ?_
  refine Q455 ?_
  refine Q170 ?_
  refine Q365 ?_
  first
  | (rw [if_pos g17] at hr;exact ⟨(3,tt,0),⟨by decide,hr⟩,by4,Xs rfl⟩)
  | (rw [if_neg g17,if_pos g25] at hr;exact ⟨(4,tt,0),⟨by decide,hr⟩,by4,Xs rfl⟩)
  | (rw [if_neg g17,if_neg g25,if_pos g33] at hr;exact ⟨(1,kE,tn),⟨by decide,hr⟩,by4,Xs rfl⟩)
  | (rw [if_neg g17,if_neg g25,if_neg g33,if_pos g41] at hr;exact ⟨(2,tt,0),⟨by decide,hr⟩,by4,Xs rfl⟩)
 rintro ⟨kk,ss,nn⟩ hI
 try dsimp only [List.cons_append,List.nil_append] at hI ⊢
 refine Q373 ?_
 refine Q560 ?_;intro c48 h48
 refine Q226 ?_
 rcases Za h48 with ⟨rfl,g48⟩|⟨rfl,g48⟩
 ·omega
 refine Q288 ?_
 refine Q520 ?_
 refine Q434 ?_
 refine Q521 ?_
 refine Q523 ?_
 have h2:=hI.2;subst h2;exact Zj (i:=2) rfl rfl rfl Xj rfl by0 (Xq _ (Xq _ (Xq _ (Xs rfl)))) ⟨rfl,rfl⟩
theorem may_yes {b:Nat} {L:List Tok} (hL:L.length≤100000) {p:PS} {s:ByteArray} (h:isP L p s=true):MCall Tryz.prog 55 [.ptr b 0,.val (.string s)] (.loc b (psC L p)) (.val (.bool true)) (.loc b (psC L (stepP p))) :=
 (may_c b L hL p s).mono (by
  rintro v M' (⟨_,rfl,rfl⟩|⟨q,_,_⟩)
  ·exact ⟨V,V⟩
  exact absurd h q)
theorem may_no {b:Nat} {L:List Tok} (hL:L.length≤100000) {p:PS} {s:ByteArray} (h:¬ isP L p s=true):MCall Tryz.prog 55 [.ptr b 0,.val (.string s)] (.loc b (psC L p)) (.val (.bool false)) (.loc b (psC L p)) :=
 (may_c b L hL p s).mono (by
  rintro v M' (⟨q,_,_⟩|⟨_,rfl,rfl⟩)
  ·exact absurd q h
  exact ⟨V,V⟩)
theorem altsL_err {L:List Tok} {E:PS→Ex × PS} {f:Nat} {p:PS} {acc:List Al} (h:p.e≠0):altsL L E f p acc=(acc,p):=by
 cases f with
 | zero=>rfl
 | succ f=>rw [altsL,if_pos h]
theorem Al.cellss_app' (a b:List Al):Al.cellss (a++b)=Al.cellss a++Al.cellss b:=by simp [Al.cellss_map]
theorem Ex.cellss_app' (a b:List Ex):Ex.cellss (a++b)=Ex.cellss a++Ex.cellss b:=by simp [Ex.cellss_map]
theorem Bi.cellss_app' (a b:List Bi):Bi.cellss (a++b)=Bi.cellss a++Bi.cellss b:=by simp [Bi.cellss_map]
theorem atom_case (b:Nat) (L:List Tok) (hL:L.length≤100000) (n:Nat) (E:PS→Ex × PS) (HE:ExC b L n E) (HA:∀ q,POk L n q→Adv L q (E q).2) (p:PS) (k:POk L n p) (h1:(nxt L p).k≠1) (h2:(nxt L p).k≠2) (h3:(nxt L p).k≠3) (h4:(nxt L p).k≠4) (hc:isP L p kCase=true):MCall Tryz.prog 199 [.ptr b 0] (.loc b (psC L p)) (.agg (caseG L E (nxt L p).a (stepP p)).1.cells) (.loc b (psC L (caseG L E (nxt L p).a (stepP p)).2)):=by
 have HN:=next_c b L p
 have k1:=(Yj k hc).ok k
 have H1:=HE _ k1
 have k2:=(HA _ k1).ok k1
 have H2:=take_c b L hL _ k2.1 6 kOf
 have k3:=(Zo (kind:=6) (s:=kOf) (by decide) k2).ok k2
 have k4:=(altsL_adv HA (L.length+1) _ [] k3).ok k3
 have H4:=take_c b L hL _ k4.1 6 kEnd
 obtain ⟨r,hr⟩:∃ r,caseG L E (nxt L p).a (stepP p)=r:=⟨_,rfl⟩
 rw [hr]
 unfold caseG at hr
 simp only [] at hr
 obtain ⟨⟨tk,tt,tn,ta⟩,ht⟩:∃ t,nxt L p=t:=⟨_,rfl⟩
 rw [ht] at HN hr h1 h2 h3 h4
 simp only [Tok.av] at HN hr h1 h2 h3 h4
 obtain ⟨⟨⟨xk,xs,xn,⟨xtk,xts,xtn,xtl⟩,xks,xal,xbs,xp⟩,p2⟩,e2⟩:∃ r,E (stepP p)=r:=⟨_,rfl⟩
 rw [e2] at H1 H2 H4 hr k3
 obtain ⟨⟨u3,p3⟩,e3⟩:∃ r,takeP L p2 6 kOf=r:=⟨_,rfl⟩
 simp only [] at H2 H4 hr k3
 rw [e3] at H2 H4 hr k3
 simp only [] at H2 H4 hr k3
 obtain ⟨⟨yl,p4⟩,e4⟩:∃ r,altsL L E (L.length+1) p3 []=r:=⟨_,rfl⟩
 rw [e4] at H4 hr
 simp only [Ex.cells,Ty.cells,List.cons_append,List.nil_append] at H1 H4 hr
 refine Zc Tryz.func199 V (by kernel_rfl) V (Xz V) ?_
 refine Q399 ?_;intro b2
 refine Q287 ?_
 refine Zb 10 V V V (Yw (xs:=[.tmp 9]) [1] V V V (HN) by1 ?_)
 refine Q39 ?_;intro b3
 refine Q454 ?_
 refine Q169 ?_
 refine Q54 ?_;intro b4
 refine Q73 ?_
 refine Q406 ?_
 refine Q363 ?_;intro c17 h17
 refine Q228 ?_
 rcases Za h17 with ⟨rfl,g17⟩|⟨rfl,g17⟩
 ·refine Q405 ?_;intro c25 h25
  refine Q228 ?_
  rcases Za h25 with ⟨rfl,g25⟩|⟨rfl,g25⟩
  ·refine Q405 ?_;intro c33 h33
   refine Q228 ?_
   rcases Za h33 with ⟨rfl,g33⟩|⟨rfl,g33⟩
   ·refine Q405 ?_;intro c41 h41
    refine Q228 ?_
    rcases Za h41 with ⟨rfl,g41⟩|⟨rfl,g41⟩
    ·refine Q404 ?_
     refine Q2 ?_
     refine Q560 ?_;intro c48 h48
     refine Q226 ?_
     rcases Za h48 with ⟨rfl,g48⟩|⟨rfl,g48⟩
     ·refine Q329 ?_
      refine Zb 58 V V V (Zi (xs:=[.tmp 57,.const (.string ⟨#[99,97,115,101]⟩)]) (i:=3) V V V (may_yes hL hc) by1 ?_)
      refine Q226 ?_
      refine Q562 ?_
      refine Q241 ?_
      refine Q398 ?_
      refine Yf 3 (i:=3) V V V V V (Zi (xs:=[.tmp 62]) (i:=0) V V V (H1) by1 ⟨_,V,?_⟩)
      refine Zm 64 (none) (i:=4) V V V V V (Zh (xs:=[.tmp 63]) el_125 V V V V V V (Xz V) ⟨V,V⟩) ?_
      refine EOps.nw (i:=5) V V V (op_append_nil el_125 V V V (.seq _ _) by6 (fun u65=>⟨_,V,?_⟩))
      refine Q27 ?_
      refine Q141 ?_
      show AGo _ _ _ _ _ _ _
      refine Q464 ?_
      refine Zb 68 V V V (Zi (xs:=[.tmp 67,.const (.int .i64 6),.const (.string ⟨#[111,102]⟩)]) (i:=3) V V V (H2) by1 ?_)
      refine Q258 ?_
      refine Q387 ?_
      refine Yv 260 16 ?_
      apply Ym (rg [(1,1),(5,2),(9,84),(94,1),(97,1),(110,1)]) (σ:=PS × Nat × List Al × Value × Bool) (fun zz=>match zz with|(q,f,acc,u,mo)=>[(5,.val (.bool mo))]) (fun zz=>match zz with|(q,f,acc,u,mo)=>[.loc b4 [.val (.int .i64 8),.val (.string kE),.val (.int .i64 0),.val (.int .i64 0),.val (.string kE),.val (.int .i64 0),.val (.slice none 0 0),.seq 11 (Ex.cellss [Ex.mk xk xs xn (Ty.mk xtk xts xtn xtl) xks xal xbs xp]),.own u 16 (Al.cellss acc),.val (.slice none 0 0),.val (.int .i64 ta)],.loc b3 (Tok.mk tk tt tn ta).av,.loc b2 zEx,.loc b (psC L q),.own 260 16 u]) (fun zz=>match zz with|(q,f,acc,u,mo)=>POk L n q∧L.length - q.at_<f∧(mo=true→acc.length≤q.at_)∧(if mo=true then altsL L E f q acc else (acc,q))=(yl,p4)) (fun zz=>match zz with|(q,f,acc,u,mo)=>2 * f+(if mo=true then 1 else 0)) ((p3,L.length+1,[],.slice none 0 0,true))
      ·repeat' (first|exact Wc|apply Wa rfl|apply Wb rfl)
      ·exact ⟨k3,by omega,fun _=>Nat.zero_le _,e4⟩
      ·exact by4
      ·exact (Xr _ (Xv (Xt _) (Xv (Xt _) (Xv (Xt _) (Xv (Xt _) (Xv (Xt _) (Xv (Xt _) (Xv (Xt _) (Xv (Le.own_seq V) (Xv (Le.nilOwn 16) (Xu _)))))))))) (Xp _ (Xp _ (Xp _ (Xq _ (Xn _))))))
      rintro ⟨q,f,acc,u,mo⟩ hI
      try dsimp only [List.cons_append,List.nil_append] at hI ⊢
      obtain ⟨i1,i2,i3,hu⟩:=hI
      have hq1:=i1.1
      refine Q292 ?_
      refine Zy 76 (mo=true∧q.e=0) ?_ _ _ V ?_
      ·skip
       refine Q277 ?_
       have h70:(mo=true↔mo=true):=Iff.rfl
       rcases Za h70 with ⟨rfl,g70⟩|⟨rfl,g70⟩
       ·skip
        refine Q331 ?_
        refine Xx V ?_ by5 by3
        simp_all;done
       skip
       refine Q16 ?_
       refine Q171 ?_
       refine Q41 ?_
       refine Q159 ?_
       refine Q38 ?_;intro c75 h75
       refine Q236 ?_
       refine Xx V ?_ by5 by3
       simp_all;done
      intro c76 h76
      refine Q1 ?_
      rcases Za h76 with ⟨rfl,g76⟩|⟨rfl,g76⟩
      ·refine Q343 ?_
       have hu2:(acc,q)=(yl,p4):=by
        cases mo with
        | false=>exact hu
        | true=>rw [if_pos rfl,altsL_err (fun e=>g76 ⟨rfl,e⟩)] at hu;exact hu
       simp only [Prod.mk.injEq] at hu2
       obtain ⟨rfl,rfl⟩:=hu2
       refine Q234 ?_
       refine Zb 94 V V V (Zi (xs:=[.tmp 93,.const (.int .i64 6),.const (.string ⟨#[101,110,100]⟩)]) (i:=3) V V V (H4) by1 ?_)
       refine Q258 ?_
       refine Q523 ?_
       subst hr;exact Zj (i:=2) rfl rfl rfl Xj rfl by0 (Xq _ (Xq _ (Xq _ (Xp _ (Xo _))))) ⟨rfl,rfl⟩
      refine Q423 ?_
      obtain ⟨rfl,hq0⟩:=g76
      have i3:=i3 rfl
      have hle:(Al.cellss acc).length≤200000:=by rw [Al.cellss_len];omega
      rw [if_pos rfl] at hu
      obtain ⟨f,rfl⟩:∃ f',f=f'+1:=⟨f - 1,by omega⟩
      rw [altsL,if_neg (by rw [hq0];simp)] at hu
      have HP:=patP_c b L hL n q i1
      have l1:=(patP_adv i1).ok i1
      have b1:=(patP_adv i1).1
      have HQ:=take_c b L hL _ l1.1 7 kArrow
      have l2:=(Zo (kind:=7) (s:=kArrow) (by decide) l1).ok l1
      have b2:=(Zo (kind:=7) (s:=kArrow) (by decide) l1).1
      have HR:=HE _ l2
      have l3:=(HA _ l2).ok l2
      have b3:=(HA _ l2).1
      obtain ⟨z,hz⟩:∃ z,altG L E q=z:=⟨_,rfl⟩
      rw [hz] at hu
      unfold altG at hz
      obtain ⟨⟨⟨vk,vs,vn,vl,vp⟩,q1⟩,f1⟩:∃ r,patP L q=r:=⟨_,rfl⟩
      rw [f1] at HP HQ HR hz l2 l3 b1 b2 b3
      obtain ⟨⟨u5,q2⟩,f2⟩:∃ r,takeP L q1 7 kArrow=r:=⟨_,rfl⟩
      simp only [] at HQ HR hz l2 l3 b1 b2 b3
      rw [f2] at HQ HR hz l2 l3 b2 b3
      simp only [] at HQ HR hz l2 l3 b1 b2 b3
      obtain ⟨⟨⟨wk,ws,wn,⟨wtk,wts,wtn,wtl⟩,wks,wal,wbs,wp⟩,q3⟩,f3⟩:∃ r,E q2=r:=⟨_,rfl⟩
      rw [f3] at HR hz l3 b3
      simp only [Pa.cells,Ex.cells,Ty.cells,List.cons_append,List.nil_append] at HP HR hz l3 b3
      subst hz
      simp only [] at hu
      have l3a:=l3.1
      refine Q234 ?_
      refine Zb 78 V V V (Zi (xs:=[.tmp 77]) (i:=3) V V V (HP) by1 ?_)
      refine Zb 79 V V V (Zp (ns:=[0]) (xs:=[.tmp 78]) V tz_260 V tfl_260 V V V V (Zb 6 V V V (Yk (cs':=[_,_,_,_,_,_,_,_,_,_,_,_,_,_,_,_]) V tz_260 V V ?_)));intro b6
      refine Ya V V (Zu (cs':=[_,_,_,_,_,_,_,_,_,_,_,_,_,_,_,_]) (i:=0) V ts_260 V V V V V (Xz V) V ?_)
      refine Q287 ?_
      refine Zb 81 V V V (Zi (xs:=[.tmp 80,.const (.int .i64 7),.const (.string ⟨#[45,62]⟩)]) (i:=4) V V V (HQ) by1 ?_)
      refine Q287 ?_
      refine Zb 83 V V V (Zi (xs:=[.tmp 82]) (i:=4) V V V (HR) by1 ?_)
      refine Q11 ?_
      refine Ya V V (Zu (cs':=[_,_,_,_,_,_,_,_,_,_,_,_,_,_,_,_]) (i:=0) V ts_128 V V V V V (Xz V) V ?_)
      refine Q258 ?_
      refine Q272 ?_
      refine Zb 87 V V V (Yc (cs':=[_,_,_,_,_,_,_,_,_,_,_,_,_,_,_,_]) (i:=0) V ta_260 V V V V (Zb 88 V V V (Zh (xs:=[.tmp 87]) el_126 V V V V V V (Xz V) (Zb 89 V V V (Zw (i:=5) el_126 V V V V (.seq _ _) by6 ?_)))))
      intro u89
      refine Q11 ?_
      refine Ya V V (Zu (cs':=[_,_,_,_,_,_,_,_,_,_,_]) (i:=1) V ts_126 V V V V V (Xz V) V ?_)
      refine Q451 ?_
      refine Zb 92 V V V (op_mayc (xs:=[.tmp 91,.const (.string ⟨#[124]⟩)]) (i:=4) V V V (may_c b L hL q3 kBar) by1 ?_ ?_)
      ·intro g92
       refine Q418 ?_
       first
       | (rw [if_pos g92] at hu;have l4:=(Yj l3 g92).ok l3;have l5:=(is_lt g92).2;exact ⟨(stepP q3,f,acc++[Al.mk (Pa.mk vk vs vn vl vp) (Ex.mk wk ws wn (Ty.mk wtk wts wtn wtl) wks wal wbs wp)],u89,true),⟨l4,(by show L.length - (q3.at_+1)<f;omega),(fun _=>by show (acc++_).length≤q3.at_+1;rw [List.length_append];simp;omega),hu⟩,(by show 2 * f+1<2 * (f+1)+1;omega),Xw rfl (Xt _) by4,(Xq _ (Xr _ (Xv (Xt _) (Xv (Xt _) (Xv (Xt _) (Xv (Xt _) (Xv (Xt _) (Xv (Xt _) (Xv (Xt _) (Xv (Xt _) (Xv (Xy (by rw [Al.cellss_app'];rfl)) (Xu _)))))))))) (Xp _ (Xp _ (Xs rfl)))))⟩)
       | (rw [if_neg g92] at hu;exact ⟨(q3,f+1,acc++[Al.mk (Pa.mk vk vs vn vl vp) (Ex.mk wk ws wn (Ty.mk wtk wts wtn wtl) wks wal wbs wp)],u89,false),⟨l3,(by show L.length - q3.at_<f+1;omega),(fun h=>by cases h),hu⟩,(by show 2 * (f+1)+0<2 * (f+1)+1;omega),Xw rfl (Xt _) by4,(Xq _ (Xr _ (Xv (Xt _) (Xv (Xt _) (Xv (Xt _) (Xv (Xt _) (Xv (Xt _) (Xv (Xt _) (Xv (Xt _) (Xv (Xt _) (Xv (Xy (by rw [Al.cellss_app'];rfl)) (Xu _)))))))))) (Xp _ (Xp _ (Xs rfl)))))⟩)
      intro g92
      refine Q418 ?_
      first
      | (rw [if_pos g92] at hu;have l4:=(Yj l3 g92).ok l3;have l5:=(is_lt g92).2;exact ⟨(stepP q3,f,acc++[Al.mk (Pa.mk vk vs vn vl vp) (Ex.mk wk ws wn (Ty.mk wtk wts wtn wtl) wks wal wbs wp)],u89,true),⟨l4,(by show L.length - (q3.at_+1)<f;omega),(fun _=>by show (acc++_).length≤q3.at_+1;rw [List.length_append];simp;omega),hu⟩,(by show 2 * f+1<2 * (f+1)+1;omega),Xw rfl (Xt _) by4,(Xq _ (Xr _ (Xv (Xt _) (Xv (Xt _) (Xv (Xt _) (Xv (Xt _) (Xv (Xt _) (Xv (Xt _) (Xv (Xt _) (Xv (Xt _) (Xv (Xy (by rw [Al.cellss_app'];rfl)) (Xu _)))))))))) (Xp _ (Xp _ (Xs rfl)))))⟩)
      | (rw [if_neg g92] at hu;exact ⟨(q3,f+1,acc++[Al.mk (Pa.mk vk vs vn vl vp) (Ex.mk wk ws wn (Ty.mk wtk wts wtn wtl) wks wal wbs wp)],u89,false),⟨l3,(by show L.length - q3.at_<f+1;omega),(fun h=>by cases h),hu⟩,(by show 2 * (f+1)+0<2 * (f+1)+1;omega),Xw rfl (Xt _) by4,(Xq _ (Xr _ (Xv (Xt _) (Xv (Xt _) (Xv (Xt _) (Xv (Xt _) (Xv (Xt _) (Xv (Xt _) (Xv (Xt _) (Xv (Xt _) (Xv (Xy (by rw [Al.cellss_app'];rfl)) (Xu _)))))))))) (Xp _ (Xp _ (Xs rfl)))))⟩)
     exact absurd g48 (by decide)
    exact absurd g41 h4
   exact absurd g33 h3
  exact absurd g25 h2
 exact absurd g17 h1
theorem atom_par (b:Nat) (L:List Tok) (hL:L.length≤100000) (n:Nat) (E:PS→Ex × PS) (HE:ExC b L n E) (HA:∀ q,POk L n q→Adv L q (E q).2) (p:PS) (k:POk L n p) (h1:(nxt L p).k≠1) (h2:(nxt L p).k≠2) (h3:(nxt L p).k≠3) (h4:(nxt L p).k≠4) (hc:¬ isP L p kCase=true) (r:Ex × PS)
    (hr:(if isP L (takeP L p 7 kLP).2 kRP=true then (namE 4 kUnit (nxt L p).a,stepP (takeP L p 7 kLP).2)
     else if (nxt L (takeP L p 7 kLP).2).k=5 then (namE 3 (takeP L (takeP L p 7 kLP).2 5 kE).1.t (nxt L p).a,(takeP L (takeP L (takeP L p 7 kLP).2 5 kE).2 7 kRP).2)
     else annG L (nxt L p).a (E (takeP L p 7 kLP).2))=r):MCall Tryz.prog 199 [.ptr b 0] (.loc b (psC L p)) (.agg r.1.cells) (.loc b (psC L r.2)):=by
 have HN:=next_c b L p
 have H1:=take_c b L hL p k.1 7 kLP
 have k1:=(Zo (kind:=7) (s:=kLP) (by decide) k).ok k
 obtain ⟨⟨tk,tt,tn,ta⟩,ht⟩:∃ t,nxt L p=t:=⟨_,rfl⟩
 rw [ht] at HN hr h1 h2 h3 h4
 simp only [Tok.av] at HN hr h1 h2 h3 h4
 obtain ⟨⟨u1,p1⟩,e1⟩:∃ r,takeP L p 7 kLP=r:=⟨_,rfl⟩
 rw [e1] at H1 hr k1
 simp only [] at H1 hr k1
 have HN1:=next_c b L p1
 obtain ⟨⟨qk,qt,qn,qa⟩,ht1⟩:∃ t,nxt L p1=t:=⟨_,rfl⟩
 rw [ht1] at HN1 hr
 have H5:=take_c b L hL p1 k1.1 5 kE
 have k5:=(Zo (kind:=5) (s:=kE) (by decide) k1).ok k1
 have HX:=HE p1 k1
 have kx:=(HA p1 k1).ok k1
 obtain ⟨⟨⟨ok,ot,on,oa⟩,p5⟩,e5⟩:∃ r,takeP L p1 5 kE=r:=⟨_,rfl⟩
 rw [e5] at H5 k5 hr
 obtain ⟨⟨⟨xk,xs,xn,⟨xtk,xts,xtn,xtl⟩,xks,xal,xbs,xp⟩,p2⟩,e2⟩:∃ r,E p1=r:=⟨_,rfl⟩
 rw [e2] at HX kx hr
 unfold annG at hr
 simp only [Tok.av,Ex.cells,Ty.cells,List.cons_append,List.nil_append] at HN1 H5 k5 hr HX kx
 refine Zc Tryz.func199 V (by kernel_rfl) V (Xz V) ?_
 refine Q399 ?_;intro b2
 refine Q287 ?_
 refine Zb 10 V V V (Yw (xs:=[.tmp 9]) [1] V V V (HN) by1 ?_)
 refine Q39 ?_;intro b3
 refine Q454 ?_
 refine Q169 ?_
 refine Q54 ?_;intro b4
 refine Q73 ?_
 refine Q406 ?_
 refine Q363 ?_;intro c17 h17
 refine Q228 ?_
 rcases Za h17 with ⟨rfl,g17⟩|⟨rfl,g17⟩
 ·refine Q405 ?_;intro c25 h25
  refine Q228 ?_
  rcases Za h25 with ⟨rfl,g25⟩|⟨rfl,g25⟩
  ·refine Q405 ?_;intro c33 h33
   refine Q228 ?_
   rcases Za h33 with ⟨rfl,g33⟩|⟨rfl,g33⟩
   ·refine Q405 ?_;intro c41 h41
    refine Q228 ?_
    rcases Za h41 with ⟨rfl,g41⟩|⟨rfl,g41⟩
    ·refine Q404 ?_
     refine Q2 ?_
     refine Q560 ?_;intro c48 h48
     refine Q226 ?_
     rcases Za h48 with ⟨rfl,g48⟩|⟨rfl,g48⟩
     ·refine Q329 ?_
      refine Zb 58 V V V (Zi (xs:=[.tmp 57,.const (.string ⟨#[99,97,115,101]⟩)]) (i:=3) V V V (may_no hL hc) by1 ?_)
      refine Q226 ?_
      refine Q321 ?_
      refine Zb 97 V V V (Zi (xs:=[.tmp 96,.const (.int .i64 7),.const (.string ⟨#[40]⟩)]) (i:=3) V V V (H1) by1 ?_)
      refine Q301 ?_
      refine Zb 99 V V V (op_mayc (xs:=[.tmp 98,.const (.string ⟨#[41]⟩)]) (i:=3) V V V (may_c b L hL p1 kRP) by1 ?_ ?_)
      ·intro g99
       refine Q226 ?_
       refine Q240 ?_
       refine Q272 ?_
       refine Zb 102 V V V (Zp (ns:=[0,1,7]) (xs:=[.const (.int .i64 4),.const (.string ⟨#[85,110,105,116]⟩),.tmp 101]) V tz_128 V tfl_128 V V V V ?_)
       refine Q488 ?_
       rw [if_pos g99] at hr;subst hr;exact Zj (i:=2) rfl rfl rfl Xj rfl by0 (Xq _ (Xq _ (Xq _ (Xs rfl)))) ⟨rfl,rfl⟩
      intro g99
      refine Q524 ?_
      refine Zb 104 V V V (Yw (xs:=[.tmp 103]) [3] V V V (HN1) by1 ?_)
      refine Zb 105 V V V (Xc (ft:=3) (fo:=0) V (by kernel_rfl) ta_3 V V ?_)
      refine Q17 ?_;intro c106 h106
      refine Q226 ?_
      rcases Za h106 with ⟨rfl,g106⟩|⟨rfl,g106⟩
      ·refine Q321 ?_
       refine Zb 117 V V V (Zi (xs:=[.tmp 116]) (i:=3) V V V (HX) by1 ?_)
       refine Q54 ?_;intro b8
       refine Q73 ?_
       refine Q426 ?_
       rw [if_neg g99,if_neg g106] at hr
       refine Q234 ?_
       refine Zb 119 V V V (op_mayc (xs:=[.tmp 118,.const (.string ⟨#[58]⟩)]) (i:=4) V V V (may_c b L hL p2 kColon) by1 ?_ ?_)
       ·intro g119
        refine Q522 ?_
        have ka:=(Yj kx g119).ok kx
        have HT:=typeP_c b L hL n _ ka
        have k8:=(typeP_adv ka).ok ka
        have H8:=take_c b L hL _ k8.1 7 kRP
        rw [if_pos g119] at hr
        obtain ⟨⟨⟨wk,ws,wn,wl⟩,p3⟩,e3⟩:∃ r,typeP L (stepP p2)=r:=⟨_,rfl⟩
        rw [e3] at HT H8 hr
        simp only [Ty.cells] at HT H8 hr
        refine Yp [0,2,3,4,5,1,6,7] [1,7] [[],[0],[],[2],[],[4],[0,1,2,3,4,5],[0,1,2,3,4,5,6]] Xl V ?_
        refine Q24 ?_
        refine Q210 ?_
        refine Zm 123 (none) (i:=3) V V V V V (Zh (xs:=[.tmp 122]) el_125 V V V V V V (Xz V) ⟨V,V⟩) ?_
        refine Q27 ?_
        refine Q211 ?_
        refine Yf 4 (i:=1) V V V V V (Zi (xs:=[.tmp 120]) (i:=0) V V V (HT) by1 ⟨_,V,?_⟩)
        refine Zm 126 (none) (i:=6) V V V V V (Zp (ns:=[0,3,4,7]) (xs:=[.const (.int .i64 12),.tmp 121,.tmp 123,.tmp 125]) V tz_128 V tfl_128 V V V V ⟨V,V⟩) ?_
        refine Q212 ?_
        show AGo _ _ _ _ _ _ _
        refine Q373 ?_
        first|have H9:=H8|have H9:=take_c b L hL p2 kx.1 7 kRP
        refine Q234 ?_
        refine Zb 128 V V V (Zi (xs:=[.tmp 127,.const (.int .i64 7),.const (.string ⟨#[41]⟩)]) (i:=4) V V V (H9) by1 ?_)
        refine Q258 ?_
        refine Q90 ?_
        refine Q561 ?_
        subst hr;exact Zj (i:=3) rfl rfl rfl Xj rfl by0 (Xq _ (Xq _ (Xq _ (Xq _ (Xs rfl))))) ⟨rfl,rfl⟩
       intro g119
       refine Q226 ?_
       refine Q242 ?_
       first|have H9:=H8|have H9:=take_c b L hL p2 kx.1 7 kRP
       refine Q234 ?_
       refine Zb 128 V V V (Zi (xs:=[.tmp 127,.const (.int .i64 7),.const (.string ⟨#[41]⟩)]) (i:=4) V V V (H9) by1 ?_)
       refine Q258 ?_
       refine Q90 ?_
       refine Q561 ?_
       rw [if_neg g119] at hr;subst hr;exact Zj (i:=3) rfl rfl rfl Xj rfl by0 (Xq _ (Xq _ (Xq _ (Xq _ (Xs rfl))))) ⟨rfl,rfl⟩
      refine Q288 ?_
      refine Zb 108 V V V (Zi (xs:=[.tmp 107,.const (.int .i64 5),.const (.string ⟨#[]⟩)]) (i:=3) V V V (H5) by1 ?_)
      refine Q39 ?_;intro b7
      refine Q557 ?_
      refine Zb 110 V V V (Zi (xs:=[.tmp 109,.const (.int .i64 7),.const (.string ⟨#[41]⟩)]) (i:=4) V V V (take_c b L hL p5 k5.1 7 kRP) by1 ?_)
      refine Q378 ?_
      refine Q388 ?_
      refine Zb 115 V V V (Zp (ns:=[0,1,7]) (xs:=[.const (.int .i64 3),.tmp 112,.tmp 114]) V tz_128 V tfl_128 V V V V ?_)
      refine Q561 ?_
      rw [if_neg g99,if_pos g106] at hr;subst hr;exact Zj (i:=3) rfl rfl rfl Xj rfl by0 (Xq _ (Xq _ (Xq _ (Xq _ (Xs rfl))))) ⟨rfl,rfl⟩
     exact absurd g48 (by decide)
    exact absurd g41 h4
   exact absurd g33 h3
  exact absurd g25 h2
 exact absurd g17 h1
theorem atom_c (b:Nat) (L:List Tok) (hL:L.length≤100000) (n:Nat) (E:PS→Ex × PS) (HE:ExC b L n E) (HA:∀ q,POk L n q→Adv L q (E q).2) (p:PS) (k:POk L n p):MCall Tryz.prog 199 [.ptr b 0] (.loc b (psC L p)) (.agg (atomG L E p).1.cells) (.loc b (psC L (atomG L E p).2)):=by
 by_cases h1:(nxt L p).k=1
 ·exact atom_lit b L hL n E p k (.inl h1)
 by_cases h2:(nxt L p).k=2
 ·exact atom_lit b L hL n E p k (.inr (.inl h2))
 by_cases h3:(nxt L p).k=3
 ·exact atom_lit b L hL n E p k (.inr (.inr (.inl h3)))
 by_cases h4:(nxt L p).k=4
 ·exact atom_lit b L hL n E p k (.inr (.inr (.inr h4)))
 by_cases h5:isP L p kCase=true
 ·rw [atomG,if_neg h1,if_neg h2,if_neg h3,if_neg h4,if_pos h5];exact atom_case b L hL n E HE HA p k h1 h2 h3 h4 h5
 exact atom_par b L hL n E HE HA p k h1 h2 h3 h4 h5 _ (by rw [atomG,if_neg h1,if_neg h2,if_neg h3,if_neg h4,if_neg h5])
theorem may_eq {b:Nat} {L:List Tok} (hL:L.length≤100000) {p:PS} {s:ByteArray} {c:Bool} (h:isP L p s=c):MCall Tryz.prog 55 [.ptr b 0,.val (.string s)] (.loc b (psC L p)) (.val (.bool c)) (.loc b (psC L (if c=true then stepP p else p))):=by
 cases c with
 | true=>exact may_yes hL h
 | false=>exact may_no hL (by rw [h];simp)
theorem operand_lam (b:Nat) (L:List Tok) (hL:L.length≤100000) (n:Nat) (E:PS→Ex × PS) (HE:ExC b L n E) (p:PS) (k:POk L n p) (h1:isP L p kBack=true):MCall Tryz.prog 161 [.ptr b 0] (.loc b (psC L p)) (.agg (lambdaG L E (L.length+1) (stepP p) (nxt L p).a).1.cells) (.loc b (psC L (lambdaG L E (L.length+1) (stepP p) (nxt L p).a).2)):=by
 have HN:=next_c b L p
 have HL:=lambda_c b L hL n E HE (L.length+1) (stepP p) (nxt L p).a ((Yj k h1).ok k) (by omega)
 obtain ⟨⟨tk,tt,tn,ta⟩,ht⟩:∃ t,nxt L p=t:=⟨_,rfl⟩
 rw [ht] at HN HL ⊢
 simp only [Tok.av] at HN HL ⊢
 obtain ⟨⟨⟨xk,xs,xn,⟨xtk,xts,xtn,xtl⟩,xks,xal,xbs,xp⟩,p3⟩,e3⟩:∃ r,lambdaG L E (L.length+1) (stepP p) ta=r:=⟨_,rfl⟩
 rw [e3] at HL ⊢
 simp only [Ex.cells,Ty.cells,List.cons_append,List.nil_append] at HL ⊢
 refine Zc Tryz.func161 V (by kernel_rfl) V (Xz V) ?_
 refine Q399 ?_;intro b2
 refine Q287 ?_
 refine Zb 10 V V V (Yw (xs:=[.tmp 9]) [1] V V V (HN) by1 ?_)
 refine Q39 ?_;intro b3
 refine Q397 ?_
 refine Zb 12 V V V (Zi (xs:=[.tmp 11,.const (.string ⟨#[92]⟩)]) (i:=2) V V V (may_yes hL h1) by1 ?_)
 refine Q226 ?_
 refine Q504 ?_
 refine Zb 16 V V V (Zi (xs:=[.tmp 13,.tmp 15]) (i:=2) V V V (HL) by1 ?_)
 refine Q142 ?_
 refine Q257 ?_
 exact Zj (i:=1) V V V Xj V (Xt _) (Xq _ (Xq _ (Xs V))) ⟨V,V⟩
theorem bindsL_go {L:List Tok} {E:PS→Ex × PS} {f:Nat} {p:PS} {acc:List Bi} (h:isP L p kAnd=true):bindsL L E (f+1) p acc=bindsL L E f (bindG L E (stepP p)).2 (acc++[(bindG L E (stepP p)).1]):=by rw [bindsL,if_pos h]
theorem bindsL_end {L:List Tok} {E:PS→Ex × PS} {f:Nat} {p:PS} {acc:List Bi} (h:¬ isP L p kAnd=true):bindsL L E f p acc=(acc,p):=by
 cases f with
 | zero=>rfl
 | succ f=>rw [bindsL,if_neg h]
theorem operand_let (b:Nat) (L:List Tok) (hL:L.length≤100000) (n:Nat) (E:PS→Ex × PS) (HE:ExC b L n E) (HA:∀ q,POk L n q→Adv L q (E q).2) (p:PS) (k:POk L n p) (h1:¬ isP L p kBack=true) (h2:isP L p kLet=true) (c23:Bool) (h3:isP L (stepP p) kRec=c23) (r:Ex × PS) (hr:letG L E (nxt L p).a (if c23=true then 1 else 0) (if c23=true then stepP (stepP p) else stepP p)=r):MCall Tryz.prog 161 [.ptr b 0] (.loc b (psC L p)) (.agg r.1.cells) (.loc b (psC L r.2)):=by
 have HN:=next_c b L p
 have k1:=(Yj k h2).ok k
 have HM:=may_eq (b:=b) hL h3
 have kq:POk L n (if c23=true then stepP (stepP p) else stepP p):=by
  cases c23 with
  | true=>exact (Yj k1 h3).ok k1
  | false=>exact k1
 obtain ⟨⟨tk,tt,tn,ta⟩,ht⟩:∃ t,nxt L p=t:=⟨_,rfl⟩
 rw [ht] at HN hr
 simp only [Tok.av] at HN hr
 obtain ⟨p2,hp2⟩:∃ q,(if c23=true then stepP (stepP p) else stepP p)=q:=⟨_,rfl⟩
 rw [hp2] at HM hr kq
 unfold letG at hr
 simp only [] at hr
 have HB:=bind_c b L hL n E HE p2 kq
 have k3:=(bindG_adv HA kq).ok kq
 obtain ⟨⟨⟨bn,⟨xk,xs,xn,⟨xtk,xts,xtn,xtl⟩,xks,xal,xbs,xp⟩,bp⟩,p3⟩,e3⟩:∃ r,bindG L E p2=r:=⟨_,rfl⟩
 rw [e3] at HB hr k3
 have k4:=(bindsL_adv HA (L.length+1) p3 [Bi.mk bn (Ex.mk xk xs xn (Ty.mk xtk xts xtn xtl) xks xal xbs xp) bp] k3).ok k3
 obtain ⟨⟨bl,p4⟩,e4⟩:∃ r,bindsL L E (L.length+1) p3 [Bi.mk bn (Ex.mk xk xs xn (Ty.mk xtk xts xtn xtl) xks xal xbs xp) bp]=r:=⟨_,rfl⟩
 simp only [] at hr k3
 rw [e4] at hr k4
 simp only [] at hr k4
 have H4:=take_c b L hL p4 k4.1 6 kIn
 have k5:=(Zo (kind:=6) (s:=kIn) (by decide) k4).ok k4
 obtain ⟨⟨u5,p5⟩,e5⟩:∃ r,takeP L p4 6 kIn=r:=⟨_,rfl⟩
 rw [e5] at hr k5 H4
 simp only [] at hr k5 H4
 have HX:=HE p5 k5
 obtain ⟨⟨⟨yk,ys,yn,⟨ytk,yts,ytn,ytl⟩,yks,yal,ybs,yp⟩,p6⟩,e6⟩:∃ r,E p5=r:=⟨_,rfl⟩
 rw [e6] at HX hr
 simp only [Bi.cells,Ex.cells,Ty.cells,List.cons_append,List.nil_append] at HB HX hr
 refine Zc Tryz.func161 V (by kernel_rfl) V (Xz V) ?_
 refine Q399 ?_;intro b2
 refine Q287 ?_
 refine Zb 10 V V V (Yw (xs:=[.tmp 9]) [1] V V V (HN) by1 ?_)
 refine Q39 ?_;intro b3
 refine Q397 ?_
 refine Zb 12 V V V (Zi (xs:=[.tmp 11,.const (.string ⟨#[92]⟩)]) (i:=2) V V V (may_no hL h1) by1 ?_)
 refine Q524 ?_
 refine Zb 18 V V V (Zi (xs:=[.tmp 17,.const (.string ⟨#[108,101,116]⟩)]) (i:=2) V V V (may_yes hL h2) by1 ?_)
 refine Q226 ?_
 refine Q394 ?_
 refine Zb 21 V V V (Zp (ns:=[0,7]) (xs:=[.const (.int .i64 7),.tmp 20]) V tz_128 V tfl_128 V V V V ?_)
 refine Q54 ?_;intro b4
 refine Q73 ?_
 refine Q301 ?_
 refine Zb 23 V V V (Zi (xs:=[.tmp 22,.const (.string ⟨#[114,101,99]⟩)]) (i:=3) V V V (HM) by1 ?_)
 refine Q226 ?_
 apply c_joink (rg [(1,1),(9,16),(42,1),(56,1),(60,1)]) (σ:=Unit) (fun zz=>match zz with|z=>[]) (fun zz=>match zz with|z=>[.loc b4 [.val (.int .i64 7),.val (.string kE),.val (.int .i64 (if c23=true then 1 else 0)),.val (.int .i64 0),.val (.string kE),.val (.int .i64 0),.val (.slice none 0 0),.val (.slice none 0 0),.val (.slice none 0 0),.val (.slice none 0 0),.val (.int .i64 ta)],.loc b3 (Tok.mk tk tt tn ta).av,.loc b2 zEx,.loc b (psC L p2)]) (fun zz=>match zz with|z=>True)
 ·repeat' (first|exact Wc|apply Wa rfl|apply Wb rfl)
 ·skip
  rcases c23 with _|_
  ·refine Q411 ?_
   exact ⟨(),trivial,by4,Xs V⟩
  refine Q278 ?_
  refine Q11 ?_
  refine Q209 ?_
  refine Q310 ?_
  exact ⟨(),trivial,by4,Xs V⟩
 rintro z hI
 try dsimp only [List.cons_append,List.nil_append] at hI ⊢
 refine Q373 ?_
 refine Q398 ?_
 refine Yf 3 (i:=3) V V V V V (Zi (xs:=[.tmp 27]) (i:=0) V V V (HB) by1 ⟨_,V,?_⟩)
 refine Zm 29 (none) (i:=4) V V V V V (Zh (xs:=[.tmp 28]) el_79 V V V V V V (Xz V) ⟨V,V⟩) ?_
 refine EOps.nw (i:=5) V V V (op_append_nil el_79 V V V (.seq _ _) by6 (fun u30=>⟨_,V,?_⟩))
 refine Q27 ?_
 refine Q213 ?_
 show AGo _ _ _ _ _ _ _
 refine Q373 ?_
 refine c_block ?_
 apply Ym (rg [(1,1),(9,32),(42,1),(56,1),(60,1)]) (σ:=PS × Nat × List Bi × Value) (fun zz=>match zz with|(q,f,acc,u)=>[]) (fun zz=>match zz with|(q,f,acc,u)=>[.loc b4 [.val (.int .i64 7),.val (.string kE),.val (.int .i64 (if c23=true then 1 else 0)),.val (.int .i64 0),.val (.string kE),.val (.int .i64 0),.val (.slice none 0 0),.val (.slice none 0 0),.val (.slice none 0 0),.own u 13 (Bi.cellss acc),.val (.int .i64 ta)],.loc b3 (Tok.mk tk tt tn ta).av,.loc b2 zEx,.loc b (psC L q),.own 130 13 u]) (fun zz=>match zz with|(q,f,acc,u)=>POk L n q∧L.length - q.at_<f∧acc.length≤q.at_+1∧bindsL L E f q acc=(bl,p4)) (fun zz=>match zz with|(q,f,acc,u)=>f) ((p3,L.length+1,[Bi.mk bn (Ex.mk xk xs xn (Ty.mk xtk xts xtn xtl) xks xal xbs xp) bp],u30))
 ·repeat' (first|exact Wc|apply Wa rfl|apply Wb rfl)
 ·exact ⟨k3,by omega,by simp,e4⟩
 ·exact by4
 ·exact (Xs V)
 rintro ⟨q,f,acc,u⟩ hI
 try dsimp only [List.cons_append,List.nil_append] at hI ⊢
 obtain ⟨i1,i2,i3,hu⟩:=hI
 have hq1:=i1.1
 have hle:(Bi.cellss acc).length≤200000:=by rw [Bi.cellss_len];omega
 refine Q261 ?_
 refine Zb 33 V V V (op_mayc (xs:=[.tmp 32,.const (.string ⟨#[97,110,100]⟩)]) (i:=3) V V V (may_c b L hL q kAnd) by1 ?_ ?_)
 ·intro g33
  refine Q226 ?_
  refine Q330 ?_
  obtain ⟨f,rfl⟩:∃ f',f=f'+1:=⟨f - 1,by omega⟩
  rw [bindsL_go g33] at hu
  have l1:=(Yj i1 g33).ok i1
  have l2:=(bindG_adv HA l1).ok l1
  have b2':(stepP q).at_≤_:=(bindG_adv HA l1).1
  have b4':(stepP q).at_=q.at_+1:=rfl
  have b5':=(is_lt g33).2
  have HB2:=bind_c b L hL n E HE _ l1
  obtain ⟨⟨⟨cn,⟨wk,ws,wn,⟨wtk,wts,wtn,wtl⟩,wks,wal,wbs,wp⟩,cp⟩,q2⟩,f2⟩:∃ r,bindG L E (stepP q)=r:=⟨_,rfl⟩
  rw [f2] at HB2 hu l2 b2'
  simp only [Bi.cells,Ex.cells,Ty.cells,List.cons_append,List.nil_append] at HB2 hu l2 b2'
  have l3:=l2.1
  refine Q398 ?_
  refine Yf 3 (i:=3) V V V V V (Zi (xs:=[.tmp 36]) (i:=0) V V V (HB2) by1 ⟨_,V,?_⟩)
  refine Zm 38 (none) (i:=4) V V V V V (Zh (xs:=[.tmp 37]) el_79 V V V V V V (Xz V) ⟨V,V⟩) ?_
  refine Yf 4 (i:=5) V V V V V (Zw (i:=0) el_79 V V V V (.seq _ _) by6 (fun u39=>⟨_,V,?_⟩))
  refine Q27 ?_
  refine Q213 ?_
  show AGo _ _ _ _ _ _ _
  refine Q295 ?_
  refine ⟨(q2,f,acc++[Bi.mk cn (Ex.mk wk ws wn (Ty.mk wtk wts wtn wtl) wks wal wbs wp) cp],u39),⟨l2,(by show L.length - q2.at_<f;omega),(by show (acc++[Bi.mk cn (Ex.mk wk ws wn (Ty.mk wtk wts wtn wtl) wks wal wbs wp) cp]).length≤q2.at_+1;rw [List.length_append];simp;omega),hu⟩,Nat.lt_succ_self f,by4,(Xr _ (Xv (Xt _) (Xv (Xt _) (Xv (Xt _) (Xv (Xt _) (Xv (Xt _) (Xv (Xt _) (Xv (Xt _) (Xv (Xt _) (Xv (Xt _) (Xv (Xy by9) (Xu _))))))))))) (Xp _ (Xp _ (Xs V))))⟩
 intro g33
 refine Q226 ?_
 refine Q343 ?_
 rw [bindsL_end g33] at hu
 simp only [Prod.mk.injEq] at hu
 obtain ⟨rfl,rfl⟩:=hu
 refine Q234 ?_
 refine Zb 42 V V V (Zi (xs:=[.tmp 41,.const (.int .i64 6),.const (.string ⟨#[105,110]⟩)]) (i:=3) V V V (H4) by1 ?_)
 refine Q241 ?_
 refine Q398 ?_
 refine Yf 3 (i:=3) V V V V V (Zi (xs:=[.tmp 45]) (i:=0) V V V (HX) by1 ⟨_,V,?_⟩)
 refine Zm 47 (none) (i:=4) V V V V V (Zh (xs:=[.tmp 46]) el_125 V V V V V V (Xz V) ⟨V,V⟩) ?_
 refine EOps.nw (i:=5) V V V (op_append_nil el_125 V V V (.seq _ _) by6 (fun u48=>⟨_,V,?_⟩))
 refine Q27 ?_
 refine Q141 ?_
 show AGo _ _ _ _ _ _ _
 refine Q448 ?_
 refine Q523 ?_
 subst hr;exact Zj (i:=2) rfl rfl rfl Xj rfl by0 (Xq _ (Xq _ (Xq _ (Xp _ (Xo _))))) ⟨rfl,rfl⟩
theorem operand_if (b:Nat) (L:List Tok) (hL:L.length≤100000) (n:Nat) (E:PS→Ex × PS) (HE:ExC b L n E) (HA:∀ q,POk L n q→Adv L q (E q).2) (p:PS) (k:POk L n p) (h1:¬ isP L p kBack=true) (h2:¬ isP L p kLet=true) (h3:isP L p kIf=true):MCall Tryz.prog 161 [.ptr b 0] (.loc b (psC L p)) (.agg (ifG L E (nxt L p).a (stepP p)).1.cells) (.loc b (psC L (ifG L E (nxt L p).a (stepP p)).2)):=by
 have HN:=next_c b L p
 obtain ⟨r,hr⟩:∃ r,ifG L E (nxt L p).a (stepP p)=r:=⟨_,rfl⟩
 rw [hr]
 unfold ifG at hr
 simp only [] at hr
 obtain ⟨⟨tk,tt,tn,ta⟩,ht⟩:∃ t,nxt L p=t:=⟨_,rfl⟩
 rw [ht] at HN hr
 simp only [Tok.av] at HN hr
 have k1:=(Yj k h3).ok k
 have H1:=HE _ k1
 have k2:=(HA _ k1).ok k1
 obtain ⟨⟨⟨xk,xs,xn,⟨xtk,xts,xtn,xtl⟩,xks,xal,xbs,xp⟩,p2⟩,e2⟩:∃ r,E (stepP p)=r:=⟨_,rfl⟩
 rw [e2] at H1 k2 hr
 simp only [] at k2 hr
 have H2:=take_c b L hL p2 k2.1 6 kThen
 have k3:=(Zo (kind:=6) (s:=kThen) (by decide) k2).ok k2
 obtain ⟨⟨u3,p3⟩,e3⟩:∃ r,takeP L p2 6 kThen=r:=⟨_,rfl⟩
 rw [e3] at H2 k3 hr
 simp only [] at H2 k3 hr
 have H3:=HE _ k3
 have k4:=(HA _ k3).ok k3
 obtain ⟨⟨⟨yk,ys,yn,⟨ytk,yts,ytn,ytl⟩,yks,yal,ybs,yp⟩,p4⟩,e4⟩:∃ r,E p3=r:=⟨_,rfl⟩
 rw [e4] at H3 k4 hr
 simp only [] at k4 hr
 have H4:=take_c b L hL p4 k4.1 6 kElse
 have k5:=(Zo (kind:=6) (s:=kElse) (by decide) k4).ok k4
 obtain ⟨⟨u5,p5⟩,e5⟩:∃ r,takeP L p4 6 kElse=r:=⟨_,rfl⟩
 rw [e5] at H4 k5 hr
 simp only [] at H4 k5 hr
 have H5:=HE _ k5
 obtain ⟨⟨⟨zk,zs,zn,⟨ztk,zts,ztn,ztl⟩,zks,zal,zbs,zp⟩,p6⟩,e6⟩:∃ r,E p5=r:=⟨_,rfl⟩
 rw [e6] at H5 hr
 simp only [Ex.cells,Ty.cells,List.cons_append,List.nil_append] at H1 H3 H5 hr
 refine Zc Tryz.func161 V (by kernel_rfl) V (Xz V) ?_
 refine Q399 ?_;intro b2
 refine Q287 ?_
 refine Zb 10 V V V (Yw (xs:=[.tmp 9]) [1] V V V (HN) by1 ?_)
 refine Q39 ?_;intro b3
 refine Q397 ?_
 refine Zb 12 V V V (Zi (xs:=[.tmp 11,.const (.string ⟨#[92]⟩)]) (i:=2) V V V (may_no hL h1) by1 ?_)
 refine Q524 ?_
 refine Zb 18 V V V (Zi (xs:=[.tmp 17,.const (.string ⟨#[108,101,116]⟩)]) (i:=2) V V V (may_no hL h2) by1 ?_)
 refine Q524 ?_
 refine Zb 52 V V V (Zi (xs:=[.tmp 51,.const (.string ⟨#[105,102]⟩)]) (i:=2) V V V (may_yes hL h3) by1 ?_)
 refine Q226 ?_
 refine Q288 ?_
 refine Zb 54 V V V (Zi (xs:=[.tmp 53]) (i:=2) V V V (H1) by1 ?_)
 refine Q54 ?_;intro b5
 refine Q73 ?_
 refine Q287 ?_
 refine Zb 56 V V V (Zi (xs:=[.tmp 55,.const (.int .i64 6),.const (.string ⟨#[116,104,101,110]⟩)]) (i:=3) V V V (H2) by1 ?_)
 refine Q287 ?_
 refine Zb 58 V V V (Zi (xs:=[.tmp 57]) (i:=3) V V V (H3) by1 ?_)
 refine Q54 ?_;intro b6
 refine Q73 ?_
 refine Q287 ?_
 refine Zb 60 V V V (Zi (xs:=[.tmp 59,.const (.int .i64 6),.const (.string ⟨#[101,108,115,101]⟩)]) (i:=4) V V V (H4) by1 ?_)
 refine Q287 ?_
 refine Zb 62 V V V (Zi (xs:=[.tmp 61]) (i:=4) V V V (H5) by1 ?_)
 refine Q54 ?_;intro b7
 refine Q73 ?_
 refine Q258 ?_
 refine Q140 ?_
 refine Q168 ?_
 refine Q90 ?_
 refine Zb 66 V V V (Zh (xs:=[.tmp 63,.tmp 64,.tmp 65]) el_125 V V V V V V (Xz V) ?_)
 refine Q11 ?_
 refine Q89 ?_
 refine Zb 69 V V V (Zp (ns:=[0,4,7]) (xs:=[.const (.int .i64 9),.tmp 66,.tmp 68]) V tz_128 V tfl_128 V V V V ?_)
 refine Q208 ?_
 refine Q257 ?_
 subst hr;exact Zj (i:=4) rfl rfl rfl Xj rfl by0 (Xq _ (Xq _ (Xq _ (Xq _ (Xq _ (Xs rfl)))))) ⟨rfl,rfl⟩
theorem appsL_go {L:List Tok} {E:PS→Ex × PS} {a:Int} {f:Nat} {p:PS} {x:Ex} (h:startsP L 2 p):appsL L E a (f+1) p x=appsL L E a f (atomG L E p).2 (opE 5 [x,(atomG L E p).1] a):=by rw [appsL,if_pos h]
theorem appsL_end {L:List Tok} {E:PS→Ex × PS} {a:Int} {f:Nat} {p:PS} {x:Ex} (h:¬ startsP L 2 p):appsL L E a f p x=(x,p):=by
 cases f with
 | zero=>rfl
 | succ f=>rw [appsL,if_neg h]
theorem operand_app (b:Nat) (L:List Tok) (hL:L.length≤100000) (n:Nat) (E:PS→Ex × PS) (HE:ExC b L n E) (HA:∀ q,POk L n q→Adv L q (E q).2) (p:PS) (k:POk L n p) (h1:¬ isP L p kBack=true) (h2:¬ isP L p kLet=true) (h3:¬ isP L p kIf=true) (r:Ex × PS) (hr:appsL L E (nxt L p).a (L.length+1) (atomG L E p).2 (atomG L E p).1=r):MCall Tryz.prog 161 [.ptr b 0] (.loc b (psC L p)) (.agg r.1.cells) (.loc b (psC L r.2)):=by
 have HN:=next_c b L p
 obtain ⟨⟨tk,tt,tn,ta⟩,ht⟩:∃ t,nxt L p=t:=⟨_,rfl⟩
 rw [ht] at HN hr
 simp only [Tok.av] at HN hr
 have H1:=atom_c b L hL n E HE HA p k
 have k2:=(atom_adv HA k).ok k
 obtain ⟨⟨⟨zk,zs,zn,⟨ztk,zts,ztn,ztl⟩,zks,zal,zbs,zp⟩,p2⟩,e2⟩:∃ r,atomG L E p=r:=⟨_,rfl⟩
 rw [e2] at H1 k2 hr
 simp only [Ex.cells,Ty.cells,List.cons_append,List.nil_append] at H1 k2 hr
 refine Zc Tryz.func161 V (by kernel_rfl) V (Xz V) ?_
 refine Q399 ?_;intro b2
 refine Q287 ?_
 refine Zb 10 V V V (Yw (xs:=[.tmp 9]) [1] V V V (HN) by1 ?_)
 refine Q39 ?_;intro b3
 refine Q397 ?_
 refine Zb 12 V V V (Zi (xs:=[.tmp 11,.const (.string ⟨#[92]⟩)]) (i:=2) V V V (may_no hL h1) by1 ?_)
 refine Q524 ?_
 refine Zb 18 V V V (Zi (xs:=[.tmp 17,.const (.string ⟨#[108,101,116]⟩)]) (i:=2) V V V (may_no hL h2) by1 ?_)
 refine Q524 ?_
 refine Zb 52 V V V (Zi (xs:=[.tmp 51,.const (.string ⟨#[105,102]⟩)]) (i:=2) V V V (may_no hL h3) by1 ?_)
 refine Q226 ?_
 refine Q321 ?_
 refine Zb 71 V V V (Zi (xs:=[.tmp 70]) (i:=2) V V V (H1) by1 ?_)
 refine Q54 ?_;intro b8
 refine Q73 ?_
 refine Q406 ?_
 apply Ym (rg [(1,1),(4,4),(9,72)]) (σ:=PS × Nat × Ex) (fun zz=>match zz with|(q,f,Ex.mk xk xs xn (Ty.mk xtk xts xtn xtl) xks xal xbs xp)=>[]) (fun zz=>match zz with|(q,f,Ex.mk xk xs xn (Ty.mk xtk xts xtn xtl) xks xal xbs xp)=>[.loc b8 [.val (.int .i64 xk),.val (.string xs),.val (.int .i64 xn),.val (.int .i64 xtk),.val (.string xts),.val (.int .i64 xtn),.seq 4 (Ty.cellss xtl),.seq 11 (Ex.cellss xks),.seq 16 (Al.cellss xal),.seq 13 (Bi.cellss xbs),.val (.int .i64 xp)],.loc b3 (Tok.mk tk tt tn ta).av,.loc b2 zEx,.loc b (psC L q)]) (fun zz=>match zz with|(q,f,Ex.mk xk xs xn (Ty.mk xtk xts xtn xtl) xks xal xbs xp)=>POk L n q∧L.length - q.at_<f∧appsL L E ta f q (Ex.mk xk xs xn (Ty.mk xtk xts xtn xtl) xks xal xbs xp)=r) (fun zz=>match zz with|(q,f,Ex.mk xk xs xn (Ty.mk xtk xts xtn xtl) xks xal xbs xp)=>f) ((p2,L.length+1,Ex.mk zk zs zn (Ty.mk ztk zts ztn ztl) zks zal zbs zp))
 ·repeat' (first|exact Wc|apply Wa rfl|apply Wb rfl)
 ·exact ⟨k2,by omega,hr⟩
 ·exact by4
 ·exact (Xs V)
 rintro ⟨q,f,⟨xk,xs,xn,⟨xtk,xts,xtn,xtl⟩,xks,xal,xbs,xp⟩⟩ hI
 try dsimp only [List.cons_append,List.nil_append] at hI ⊢
 obtain ⟨i1,i2,hu⟩:=hI
 have hq1:=i1.1
 refine Q261 ?_
 refine Zb 73 V V V (op_callkb (xs:=[.tmp 72,.const (.int .i64 2)]) [3] V V V (starts_c b L q 2) by1 ?_);intro c73 h73
 refine Q226 ?_
 rcases Za h73 with ⟨rfl,g73⟩|⟨rfl,g73⟩
 ·refine Q296 ?_
  refine Q523 ?_
  rw [appsL_end g73] at hu;subst hu;exact Zj (i:=2) rfl rfl rfl Xj rfl (Xt _) (Xq _ (Xq _ (Xq _ (Xs rfl)))) ⟨rfl,rfl⟩
 refine Q330 ?_
 obtain ⟨f,rfl⟩:∃ f',f=f'+1:=⟨f - 1,by omega⟩
 rw [appsL_go g73] at hu
 have b1:=atom_lt HA i1 g73
 have l2:=(atom_adv HA i1).ok i1
 have HA2:=atom_c b L hL n E HE HA q i1
 obtain ⟨⟨⟨wk,ws,wn,⟨wtk,wts,wtn,wtl⟩,wks,wal,wbs,wp⟩,q2⟩,f2⟩:∃ r,atomG L E q=r:=⟨_,rfl⟩
 rw [f2] at HA2 hu l2 b1
 simp only [Ex.cells,Ty.cells,List.cons_append,List.nil_append] at HA2 hu l2 b1
 have l3:=l2.1
 refine Yp [0,1,4,5,2,3,6,7] [2,7] [[],[],[1],[0,1,2],[],[4],[0,1,2,3,4,5],[0,1,2,3,4,5,6]] Xl V ?_
 refine Q210 ?_
 refine Q24 ?_
 refine Q433 ?_
 refine Yf 3 (i:=2) V V V V V (Zi (xs:=[.tmp 75]) (i:=0) V V V (HA2) by1 ⟨_,V,?_⟩)
 refine Zm 77 (none) (i:=3) V V V V V (Zh (xs:=[.tmp 74,.tmp 76]) el_125 V V V V V V (Xz V) ⟨V,V⟩) ?_
 refine Zm 80 (none) (i:=6) V V V V V (Zp (ns:=[0,4,7]) (xs:=[.const (.int .i64 5),.tmp 77,.tmp 79]) V tz_128 V tfl_128 V V V V ⟨V,V⟩) ?_
 refine Q212 ?_
 show AGo _ _ _ _ _ _ _
 refine Q295 ?_
 refine ⟨(q2,f,Ex.mk 5 kE 0 (Ty.mk 0 kE 0 []) [Ex.mk xk xs xn (Ty.mk xtk xts xtn xtl) xks xal xbs xp,Ex.mk wk ws wn (Ty.mk wtk wts wtn wtl) wks wal wbs wp] [] [] ta),⟨l2,(by show L.length - q2.at_<f;omega),hu⟩,Nat.lt_succ_self f,by4,(Xr _ by0 (Xp _ (Xp _ (Xs V))))⟩
theorem operand_c (b:Nat) (L:List Tok) (hL:L.length≤100000) (n:Nat) (E:PS→Ex × PS) (HE:ExC b L n E) (HA:∀ q,POk L n q→Adv L q (E q).2) (p:PS) (k:POk L n p):MCall Tryz.prog 161 [.ptr b 0] (.loc b (psC L p)) (.agg (operandG L E p).1.cells) (.loc b (psC L (operandG L E p).2)):=by
 unfold operandG
 by_cases h1:isP L p kBack=true
 ·rw [if_pos h1];exact operand_lam b L hL n E HE p k h1
 by_cases h2:isP L p kLet=true
 ·rw [if_neg h1,if_pos h2]
  by_cases h3:isP L (stepP p) kRec=true
  ·rw [if_pos h3];exact operand_let b L hL n E HE HA p k h1 h2 true h3 _ rfl
  rw [if_neg h3];exact operand_let b L hL n E HE HA p k h1 h2 false (by simpa using h3) _ rfl
 by_cases h3:isP L p kIf=true
 ·rw [if_neg h1,if_neg h2,if_pos h3];exact operand_if b L hL n E HE HA p k h1 h2 h3
 rw [if_neg h1,if_neg h2,if_neg h3];exact operand_app b L hL n E HE HA p k h1 h2 h3 _ rfl
theorem Exp_err (b:Nat) (L:List Tok) (p:PS) (he:p.e≠0):MCall Tryz.prog 105 [.ptr b 0] (.loc b (psC L p)) (.agg ex0.cells) (.loc b (psC L p)):=by
 refine Zc Tryz.func105 V (by kernel_rfl) V (Xz V) ?_
 refine Q399 ?_;intro b2
 refine Q487 ?_;intro c12 h12
 refine Q226 ?_
 rcases Za h12 with ⟨rfl,g12⟩|⟨rfl,g12⟩
 ·exact absurd he g12
 refine Q240 ?_
 refine Q172 ?_
 refine Q73 ?_
 refine Q257 ?_
 exact Zj (i:=0) V V V Xj V by0 (Xq _ (Xn _)) ⟨V,V⟩
theorem clash_in (lv:Nat→Nat):∀ f k,clashL lv f k = -1∨((k:Int)≤clashL lv f k∧clashL lv f k<k+f)
 | 0,k=>.inl rfl
 | f+1,k=>by
  unfold clashL
  split
  ·right;omega
  rcases clash_in lv f (k+1) with h|h
  ·exact .inl h
  right;omega
theorem clashP_lt {ops:List Tok} (h:0≤clashP ops):(clashP ops).toNat<ops.length:=by
 rcases clash_in (lvT ops) ops.length 0 with q|q <;> unfold clashP at * <;> omega
theorem opsL_go {L:List Tok} {E:PS→Ex × PS} {f:Nat} {p:PS} {l:List Ex} {o:List Tok} (h:(nxt L p).k=5):opsL L E (f+1) p l o=opsL L E f (operandG L E (takeP L p 5 kE).2).2 (l++[(operandG L E (takeP L p 5 kE).2).1]) (o++[(takeP L p 5 kE).1]):=by rw [opsL,if_pos h]
theorem opsL_end {L:List Tok} {E:PS→Ex × PS} {f:Nat} {p:PS} {l:List Ex} {o:List Tok} (h:¬ (nxt L p).k=5):opsL L E f p l o=((l,o),p):=by
 cases f with
 | zero=>rfl
 | succ f=>rw [opsL,if_neg h]
theorem Exp_ok (b:Nat) (L:List Tok) (hL:L.length≤100000) (n:Nat) (E:PS→Ex × PS) (HE:ExC b L n E) (HA:∀ q,POk L n q→Adv L q (E q).2) (p:PS) (k:POk L (n+1) p) (he:p.e=0) (r:Ex × PS) (hr:joinE (opsL L E (L.length+1) (operandG L E (deeperP L p)).2 [(operandG L E (deeperP L p)).1] [])=r):MCall Tryz.prog 105 [.ptr b 0] (.loc b (psC L p)) (.agg r.1.cells) (.loc b (psC L r.2)):=by
 have kq:=deeper_ok k he
 have H1:=operand_c b L hL n E HE HA _ kq
 have k2:=(operand_adv HA kq).ok kq
 obtain ⟨⟨⟨zk,zs,zn,⟨ztk,zts,ztn,ztl⟩,zks,zal,zbs,zp⟩,p2⟩,e2⟩:∃ r,operandG L E (deeperP L p)=r:=⟨_,rfl⟩
 rw [e2] at H1 k2 hr
 simp only [] at k2 hr
 obtain ⟨⟨⟨yl,yo⟩,p4⟩,e4⟩:∃ r,opsL L E (L.length+1) p2 [Ex.mk zk zs zn (Ty.mk ztk zts ztn ztl) zks zal zbs zp] []=r:=⟨_,rfl⟩
 rw [e4] at hr
 unfold joinE at hr
 simp only [Ex.cells,Ty.cells,List.cons_append,List.nil_append] at H1 hr
 refine Zc Tryz.func105 V (by kernel_rfl) V (Xz V) ?_
 refine Q399 ?_;intro b2
 refine Q487 ?_;intro c12 h12
 refine Q226 ?_
 rcases Za h12 with ⟨rfl,g12⟩|⟨rfl,g12⟩
 ·refine Q321 ?_
  refine Zb 15 V V V (Zi (xs:=[.tmp 14]) (i:=1) V V V (deeper_c b L p k.2.1 (by have:=k.2.2.1;omega)) by1 ?_)
  refine Q287 ?_
  refine Zb 17 V V V (Zi (xs:=[.tmp 16]) (i:=1) V V V (H1) by1 ?_)
  refine Zb 18 V V V (Yt (xs:=[.tmp 17]) el_125 V V V V V V (Xz V) ?_);intro u18
  refine Q545 ?_
  refine Q387 ?_
  refine Yv 109 4 ?_
  refine Q88 ?_
  apply Ym (rg [(1,1),(3,4),(8,31),(55,1)]) (σ:=PS × Nat × List Ex × List Tok × Value × Value × Value) (fun zz=>match zz with|(q,f,l,ops,u,v,w)=>[(3,.own u 11 (Ex.cellss l)),(4,.own v 4 (ops.map Tok.av)),(5,.own w 1 (strs (ops.map Tok.t)))]) (fun zz=>match zz with|(q,f,l,ops,u,v,w)=>[.own 128 11 u,.loc b2 zEx,.loc b (psC L q),.own 109 4 v,.own 9 1 w]) (fun zz=>match zz with|(q,f,l,ops,u,v,w)=>POk L n q∧L.length - q.at_<f∧l.length=ops.length+1∧ops.length≤q.at_∧opsL L E f q l ops=((yl,yo),p4)) (fun zz=>match zz with|(q,f,l,ops,u,v,w)=>f) ((p2,L.length+1,[Ex.mk zk zs zn (Ty.mk ztk zts ztn ztl) zks zal zbs zp],[],u18,.slice none 0 0,.slice none 0 0))
  ·repeat' (first|exact Wc|apply Wa rfl|apply Wb rfl)
  ·exact ⟨k2,by omega,V,Nat.zero_le _,e4⟩
  ·exact Xw V (Xt _) (Xw V (Le.nilOwn 4) (Xw V (Le.nilOwn 1) (SLe.nil _)))
  ·exact (Xs V)
  rintro ⟨q,f,l,ops,u,v,w⟩ hI
  try dsimp only [List.cons_append,List.nil_append] at hI ⊢
  obtain ⟨i1,i2,i3,i4,hu⟩:=hI
  have hq1:=i1.1
  have hb1:=i1.2.1
  have hb2:=i1.2.2.1
  have hl1:(Ex.cellss l).length≤200000:=by rw [Ex.cellss_len];omega
  have hl2:(ops.map Tok.av).length≤200000:=by rw [List.length_map];omega
  have hl3:(strs (ops.map Tok.t)).length≤200000:=by rw [Ye,List.length_map];omega
  have HN:=next_c b L q
  have hkn:(nxt L q).k=5→q.at_<L.length:=fun e=>(Xm (by omega)).2
  have hgo:=fun f=>opsL_go (L:=L) (E:=E) (f:=f) (p:=q) (l:=l) (o:=ops)
  have hend:=opsL_end (L:=L) (E:=E) (f:=f) (p:=q) (l:=l) (o:=ops)
  have htk:=fun h:(nxt L q).k=5=>take_k (s:=kE) h (by decide) (by decide)
  obtain ⟨⟨qk,qt,qn,qa⟩,hqt⟩:∃ t,nxt L q=t:=⟨_,rfl⟩
  rw [hqt] at HN hkn hgo hend htk
  simp only [Tok.av] at HN hkn hgo hend htk
  refine Q261 ?_
  refine Zb 20 V V V (Yw (xs:=[.tmp 19]) [2] V V V (HN) by1 ?_)
  refine Zb 21 V V V (Xc (ft:=3) (fo:=0) V (by kernel_rfl) ta_3 V V ?_)
  refine Q17 ?_;intro c22 h22
  refine Q226 ?_
  rcases Za h22 with ⟨rfl,g22⟩|⟨rfl,g22⟩
  ·refine Q347 ?_
   rw [hend g22] at hu
   simp only [Prod.mk.injEq] at hu
   obtain ⟨⟨rfl,rfl⟩,rfl⟩:=hu
   refine Q234 ?_
   refine Q421 ?_
   refine Q34 ?_;intro c43 h43
   refine Q226 ?_
   rcases Za h43 with ⟨rfl,g43⟩|⟨rfl,g43⟩
   ·refine Q321 ?_
    refine Zb 46 V V V (Zd (xs:=[.tmp 45]) V V (Clash_p ops (by omega)) by1 ?_)
    refine Q275 ?_
    refine Q46 ?_;intro c48 h48
    refine Q226 ?_
    rcases Za h48 with ⟨rfl,g48⟩|⟨rfl,g48⟩
    ·refine Q321 ?_
     refine Q421 ?_
     refine Q558 ?_
     refine Q115 ?_
     refine Q241 ?_
     have HB:=Build_c l ops i3 (by omega) ops.length 0 ops.length (Nat.zero_le _) (Nat.le_refl _) (by omega)
     rw [if_neg g43,if_neg g48] at hr
     obtain ⟨⟨wk,ws,wn,⟨wtk,wts,wtn,wtl⟩,wks,wal,wbs,wp⟩,f2⟩:∃ r,buildF l ops ops.length 0 ops.length=r:=⟨_,rfl⟩
     rw [f2] at HB hr
     simp only [Ex.cells,Ty.cells,List.cons_append,List.nil_append] at HB
     have hlen:(ops.map Tok.av).length=ops.length:=List.length_map _
     rw [show ((ops.length:Nat):Int)=(((ops.map Tok.av).length:Nat):Int) by rw [hlen]] at HB
     refine Q327 ?_
     refine Zb 67 V V V (Yu V tu_105 V (.own _ _ _) (fun n67=>?_))
     refine Zb 68 V V V (Zd (xs:=[.tmp 64,.tmp 65,.const (.int .i64 0),.tmp 67]) V V (HB) by1 ?_)
     refine Q142 ?_
     refine Q257 ?_
     subst hr;exact Zj (i:=1) rfl rfl rfl Xj rfl by0 (Xq _ (Xq _ (Xp _ (Xo _)))) ⟨rfl,rfl⟩
    refine Q302 ?_
    have hcl:=clashP_lt g48
    refine Q327 ?_
    refine Zb 52 V V V (Zg (i:=(clashP ops).toNat) V te_105 V (.own _ _ _) V (by first|rfl|omega) (toks_at hcl) ?_)
    refine Q235 ?_
    refine Zb 55 V V V (Zi (xs:=[.tmp 49,.const (.int .i64 112),.tmp 54]) (i:=2) V V V (fail_c b L q 112 _) by1 ?_)
    refine Q258 ?_
    refine Q172 ?_
    refine Q142 ?_
    refine Q257 ?_
    rw [if_neg g43,if_pos g48] at hr;subst hr;exact Zj (i:=1) rfl rfl rfl Xj rfl by0 (Xq _ (Xq _ (Xp _ (Xo _)))) ⟨rfl,rfl⟩
   refine Q240 ?_
   refine Q172 ?_
   refine Q142 ?_
   refine Q257 ?_
   rw [if_pos g43] at hr;subst hr;exact Zj (i:=1) rfl rfl rfl Xj rfl by0 (Xq _ (Xq _ (Xp _ (Xo _)))) ⟨rfl,rfl⟩
  refine Q423 ?_
  obtain ⟨f,rfl⟩:∃ f',f=f'+1:=⟨f - 1,by omega⟩
  have hlt:=hkn g22
  rw [hgo f g22,htk g22] at hu
  have HT:=take_c b L hL q hq1 5 kE
  rw [htk g22] at HT
  have l1:=(Xg i1 hlt).ok i1
  have HO:=operand_c b L hL n E HE HA _ l1
  have l2:=(operand_adv HA l1).ok l1
  have b1:(stepP q).at_≤_:=(operand_adv HA l1).1
  have b2':(stepP q).at_=q.at_+1:=rfl
  obtain ⟨⟨⟨wk,ws,wn,⟨wtk,wts,wtn,wtl⟩,wks,wal,wbs,wp⟩,q2⟩,f2⟩:∃ r,operandG L E (stepP q)=r:=⟨_,rfl⟩
  simp only [] at hu
  rw [f2] at HO l2 b1 hu
  simp only [Tok.av,Ex.cells,Ty.cells,List.cons_append,List.nil_append] at HT HO l2 b1 hu
  have l3:=l2.1
  refine Q234 ?_
  refine Zb 24 V V V (Zi (xs:=[.tmp 23,.const (.int .i64 5),.const (.string ⟨#[]⟩)]) (i:=2) V V V (HT) by1 ?_)
  refine Q39 ?_;intro b6
  refine Q557 ?_
  refine Q28 ?_
  refine Zb 27 V V V (Zh (xs:=[.tmp 26]) el_105 V V V V V V (Xz V) (Zb 28 V V V (Zw (i:=4) el_105 V V V V (.seq _ _) by6 ?_)))
  intro u28
  refine Q271 ?_
  refine Q243 ?_
  refine Zb 32 V V V (Zh (xs:=[.tmp 31]) Xd V V V V V V (Xz V) (Zb 33 V V V (Zw (i:=5) Xd V V V V (.seq _ _) by6 ?_)))
  intro u33
  refine Q228 ?_
  refine Q314 ?_
  refine Zb 36 V V V (Zi (xs:=[.tmp 35]) (i:=3) V V V (HO) by1 ?_)
  refine Zb 37 V V V (Zh (xs:=[.tmp 36]) el_125 V V V V V V (Xz V) (Zb 38 V V V (Zw (i:=1) el_125 V V V V (.seq _ _) by6 ?_)))
  intro u38
  refine Q418 ?_
  refine ⟨(q2,f,l++[Ex.mk wk ws wn (Ty.mk wtk wts wtn wtl) wks wal wbs wp],ops++[Tok.mk qk qt qn qa],u38,u28,u33),⟨l2,(by show L.length - q2.at_<f;omega),(by simp [i3]),(by show (ops++[Tok.mk qk qt qn qa]).length≤q2.at_;rw [List.length_append];simp;omega),hu⟩,Nat.lt_succ_self f,Xw V (Xy (by rw [Ex.cellss_app'];rfl)) (Xw V (Xy (by rw [List.map_append];rfl)) (Xw V (Xy (by rw [List.map_append,strs_app];rfl)) by4)),Xq _ (Xs V)⟩
 exact absurd he g12
theorem Exp_c (b:Nat) (L:List Tok) (hL:L.length≤100000):∀ n,ExC b L n (expF L n)
 | 0,p,k=>Exp_err b L p (fun e=>by have:=k.2.2.2 e;omega)
 | n+1,p,k=>by
  by_cases he:p.e=0
  ·exact Exp_ok b L hL n (expF L n) (Exp_c b L hL n) (expF_adv n) p k he _ (by rw [expF,if_neg (by rw [he];simp)])
  rw [expF,if_pos he];exact Exp_err b L p he
theorem expP_c (b:Nat) (L:List Tok) (hL:L.length≤100000):ExC b L 302 (expP L):=Exp_c b L hL 302
theorem bindP_c (b:Nat) (L:List Tok) (hL:L.length≤100000) (p:PS) (k:POk L 302 p):MCall Tryz.prog 60 [.ptr b 0] (.loc b (psC L p)) (.agg (bindP L p).1.cells) (.loc b (psC L (bindP L p).2)):=bind_c b L hL 302 (expP L) (expP_c b L hL) p k
theorem paramsL_go {L:List Tok} {f:Nat} {p:PS} {acc:List ByteArray} (h:(nxt L p).k=1):paramsL L (f+1) p acc=paramsL L f (takeP L p 1 kE).2 (acc++[(takeP L p 1 kE).1.t]):=by rw [paramsL,if_pos h]
theorem paramsL_end {L:List Tok} {f:Nat} {p:PS} {acc:List ByteArray} (h:¬ (nxt L p).k=1):paramsL L f p acc=(acc,p):=by
 cases f with
 | zero=>rfl
 | succ f=>rw [paramsL,if_neg h]
theorem consL_err {L:List Tok} {f:Nat} {p:PS} {acc:List Cn} (h:p.e≠0):consL L f p acc=(acc,p):=by
 cases f with
 | zero=>rfl
 | succ f=>rw [consL,if_pos h]
abbrev zDa:List AV:=[.val (.string kE),.val (.slice none 0 0),.val (.slice none 0 0),.val (.slice none 0 0),.val (.int .i64 0)]
theorem data_c (b:Nat) (L:List Tok) (hL:L.length≤100000) (p:PS) (k:POk L 302 p):MCall Tryz.prog 56 [.ptr b 0] (.loc b (psC L p)) (.agg (dataP L p).1.cells) (.loc b (psC L (dataP L p).2)):=by
 have H1:=take_c b L hL p k.1 2 kE
 have k1:=(Zo (kind:=2) (s:=kE) (by decide) k).ok k
 obtain ⟨r,hr⟩:∃ r,dataP L p=r:=⟨_,rfl⟩
 rw [hr]
 unfold dataP at hr
 simp only [] at hr
 obtain ⟨⟨⟨tk,tt,tn,ta⟩,p1⟩,e1⟩:∃ r,takeP L p 2 kE=r:=⟨_,rfl⟩
 rw [e1] at H1 k1 hr
 simp only [Tok.av] at H1 k1 hr
 have k2:=(paramsL_adv (L.length+1) p1 [] k1).ok k1
 obtain ⟨⟨ps,p2⟩,e2⟩:∃ r,paramsL L (L.length+1) p1 []=r:=⟨_,rfl⟩
 rw [e2] at k2 hr
 simp only [] at k2 hr
 have H3:=take_c b L hL p2 k2.1 7 kEq
 have k3:=(Zo (kind:=7) (s:=kEq) (by decide) k2).ok k2
 obtain ⟨⟨u3,p3⟩,e3⟩:∃ r,takeP L p2 7 kEq=r:=⟨_,rfl⟩
 rw [e3] at H3 k3 hr
 simp only [] at H3 k3 hr
 have k4:=(consL_adv (L.length+1) p3 [] k3).ok k3
 obtain ⟨⟨cl,p4⟩,e4⟩:∃ r,consL L (L.length+1) p3 []=r:=⟨_,rfl⟩
 rw [e4] at k4 hr
 simp only [] at k4 hr
 unfold derivP at hr
 refine Zc Tryz.func56 V (by kernel_rfl) V (Xz V) ?_
 refine Q237 ?_
 refine Q106 ?_;intro b2
 refine Q287 ?_
 refine Zb 9 V V V (Zi (xs:=[.tmp 8,.const (.int .i64 2),.const (.string ⟨#[]⟩)]) (i:=1) V V V (H1) by1 ?_)
 refine Q39 ?_;intro b3
 refine Q454 ?_
 refine Q243 ?_
 refine Zb 14 V V V (Zp (ns:=[0,4]) (xs:=[.tmp 11,.tmp 13]) V tz_114 V tfl_114 V V V V ?_)
 refine Q106 ?_;intro b4
 refine Q110 ?_
 refine Q406 ?_
 refine Q88 ?_
 apply Ym (rg [(1,1),(3,1),(8,19),(28,1),(64,1),(69,1)]) (σ:=PS × Nat × List ByteArray × Value) (fun zz=>match zz with|(q,f,acc,u)=>[]) (fun zz=>match zz with|(q,f,acc,u)=>[.loc b4 [.val (.string tt),.own u 1 (strs acc),.val (.slice none 0 0),.val (.slice none 0 0),.val (.int .i64 ta)],.loc b3 (Tok.mk tk tt tn ta).av,.loc b2 zDa,.loc b (psC L q),.own 9 1 u]) (fun zz=>match zz with|(q,f,acc,u)=>POk L 302 q∧L.length - q.at_<f∧acc.length≤q.at_∧paramsL L f q acc=(ps,p2)) (fun zz=>match zz with|(q,f,acc,u)=>f) ((p1,L.length+1,[],.slice none 0 0))
 ·repeat' (first|exact Wc|apply Wa rfl|apply Wb rfl)
 ·exact ⟨k1,by omega,Nat.zero_le _,e2⟩
 ·exact by4
 ·exact (Xr _ (Xv (Xt _) (Xv (Le.nilOwn 1) (Xu _))) (Xp _ (Xs V)))
 rintro ⟨q,f,acc,u⟩ hI
 try dsimp only [List.cons_append,List.nil_append] at hI ⊢
 obtain ⟨i1,i2,i3,hu⟩:=hI
 have hq1:=i1.1
 have hle:(strs acc).length≤200000:=by rw [Ye];omega
 have HN:=next_c b L q
 have hkn:(nxt L q).k=1→q.at_<L.length:=fun e=>(Xm (by omega)).2
 have hgo:=fun f=>paramsL_go (L:=L) (f:=f) (p:=q) (acc:=acc)
 have hend:=paramsL_end (L:=L) (f:=f) (p:=q) (acc:=acc)
 have htk:=fun h:(nxt L q).k=1=>take_k (s:=kE) h (by decide) (by decide)
 obtain ⟨⟨qk,qt,qn,qa⟩,hqt⟩:∃ t,nxt L q=t:=⟨_,rfl⟩
 rw [hqt] at HN hkn hgo hend htk
 simp only [Tok.av] at HN hkn hgo hend htk
 refine Q261 ?_
 refine Zb 16 V V V (Yw (xs:=[.tmp 15]) [3] V V V (HN) by1 ?_)
 refine Zb 17 V V V (Xc (ft:=3) (fo:=0) V (by kernel_rfl) ta_3 V V ?_)
 refine Q17 ?_;intro c18 h18
 refine Q226 ?_
 rcases Za h18 with ⟨rfl,g18⟩|⟨rfl,g18⟩
 ·refine Q343 ?_
  rw [hend g18] at hu
  simp only [Prod.mk.injEq] at hu
  obtain ⟨rfl,rfl⟩:=hu
  refine Q234 ?_
  refine Zb 28 V V V (Zi (xs:=[.tmp 27,.const (.int .i64 7),.const (.string ⟨#[61]⟩)]) (i:=3) V V V (H3) by1 ?_)
  refine Q258 ?_
  refine Q387 ?_
  refine Yv 163 3 ?_
  apply Ym (rg [(1,1),(3,1),(5,56),(64,1),(69,1)]) (σ:=PS × Nat × List Cn × Value × Bool) (fun zz=>match zz with|(q,f,cs,w,mo)=>[(5,.val (.bool mo))]) (fun zz=>match zz with|(q,f,cs,w,mo)=>[.loc b4 [.val (.string tt),.seq 1 (strs acc),.own w 3 (Cn.cellss cs),.val (.slice none 0 0),.val (.int .i64 ta)],.loc b3 (Tok.mk tk tt tn ta).av,.loc b2 zDa,.loc b (psC L q),.own 163 3 w]) (fun zz=>match zz with|(q,f,cs,w,mo)=>POk L 302 q∧L.length - q.at_<f∧(mo=true→cs.length≤q.at_)∧(if mo=true then consL L f q cs else (cs,q))=(cl,p4)) (fun zz=>match zz with|(q,f,cs,w,mo)=>2 * f+(if mo=true then 1 else 0)) ((p3,L.length+1,[],.slice none 0 0,true))
  ·repeat' (first|exact Wc|apply Wa rfl|apply Wb rfl)
  ·exact ⟨k3,by omega,fun _=>Nat.zero_le _,e4⟩
  ·exact by4
  ·exact (Xr _ (Xv (Xt _) (Xv (Le.own_seq V) (Xv (Le.nilOwn 3) (Xu _)))) (Xp _ (Xp _ (Xp _ (Xq _ (Xn _))))))
  rintro ⟨q,f,cs,w,mo⟩ hI
  try dsimp only [List.cons_append,List.nil_append] at hI ⊢
  obtain ⟨i1,i2,i3,hu⟩:=hI
  have hq1:=i1.1
  refine Q292 ?_
  refine Zy 36 (mo=true∧q.e=0) ?_ _ _ V ?_
  ·skip
   refine Q277 ?_
   have h30:(mo=true↔mo=true):=Iff.rfl
   rcases Za h30 with ⟨rfl,g30⟩|⟨rfl,g30⟩
   ·skip
    refine Q331 ?_
    refine Xx V ?_ by5 by3
    simp_all;done
   skip
   refine Q16 ?_
   refine Q171 ?_
   refine Q41 ?_
   refine Q159 ?_
   refine Q38 ?_;intro c35 h35
   refine Q236 ?_
   refine Xx V ?_ by5 by3
   simp_all;done
  intro c36 h36
  refine Q1 ?_
  rcases Za h36 with ⟨rfl,g36⟩|⟨rfl,g36⟩
  ·refine Q347 ?_
   have hu2:(cs,q)=(cl,p4):=by
    cases mo with
    | false=>exact hu
    | true=>rw [if_pos rfl,consL_err (fun e=>g36 ⟨rfl,e⟩)] at hu;exact hu
   simp only [Prod.mk.injEq] at hu2
   obtain ⟨rfl,rfl⟩:=hu2
   refine Q234 ?_
   refine Zb 62 V V V (op_mayc (xs:=[.tmp 61,.const (.string ⟨#[100,101,114,105,118,105,110,103]⟩)]) (i:=3) V V V (may_c b L hL q kDeriv) by1 ?_ ?_)
   ·intro g62
    refine Q226 ?_
    refine Q302 ?_
    have kA:=(Yj k4 g62).ok k4
    have HD1:=take_c b L hL (stepP q) kA.1 7 kLP
    have kB:=(Zo (kind:=7) (s:=kLP) (by decide) kA).ok kA
    have HD2:=uppers_c b L hL 302 _ kB
    have kC:=(uppers_adv kB).ok kB
    have HD3:=take_c b L hL _ kC.1 7 kRP
    rw [if_pos g62] at hr
    refine Q234 ?_
    refine Zb 64 V V V (Zi (xs:=[.tmp 63,.const (.int .i64 7),.const (.string ⟨#[40]⟩)]) (i:=3) V V V (HD1) by1 ?_)
    refine Q287 ?_
    refine Zb 66 V V V (Zi (xs:=[.tmp 65]) (i:=3) V V V (HD2) by1 ?_)
    refine Q11 ?_
    refine Ya V V (Zu (cs':=[_,_,_,_,_]) (i:=0) V ts_44 V V V V V (Xz V) V ?_)
    refine Q451 ?_
    refine Zb 69 V V V (Zi (xs:=[.tmp 68,.const (.int .i64 7),.const (.string ⟨#[41]⟩)]) (i:=3) V V V (HD3) by1 ?_)
    refine Q258 ?_
    refine Q214 ?_
    refine Q215 ?_
    refine Q257 ?_
    first
    | (subst hr;exact Zj (i:=2) rfl rfl rfl ta_114 rfl (Le.agg (Xv (Xt _) (Xv (Xt _) (Xv (Le.own_seq rfl) (Xv (Xt _) (Xu _)))))) (Xq _ (Xq _ (Xq _ (Xp _ (Xo _))))) ⟨rfl,rfl⟩)
    | (rw [if_neg g62] at hr;subst hr;exact Zj (i:=2) rfl rfl rfl ta_114 rfl (Le.agg (Xv (Xt _) (Xv (Xt _) (Xv (Le.own_seq rfl) (Xv (Le.nil _) (Xu _)))))) (Xq _ (Xq _ (Xq _ (Xp _ (Xo _))))) ⟨rfl,rfl⟩)
   intro g62
   refine Q226 ?_
   refine Q289 ?_
   refine Q214 ?_
   refine Q215 ?_
   refine Q257 ?_
   first
   | (subst hr;exact Zj (i:=2) rfl rfl rfl ta_114 rfl (Le.agg (Xv (Xt _) (Xv (Xt _) (Xv (Le.own_seq rfl) (Xv (Xt _) (Xu _)))))) (Xq _ (Xq _ (Xq _ (Xp _ (Xo _))))) ⟨rfl,rfl⟩)
   | (rw [if_neg g62] at hr;subst hr;exact Zj (i:=2) rfl rfl rfl ta_114 rfl (Le.agg (Xv (Xt _) (Xv (Xt _) (Xv (Le.own_seq rfl) (Xv (Le.nil _) (Xu _)))))) (Xq _ (Xq _ (Xq _ (Xp _ (Xo _))))) ⟨rfl,rfl⟩)
  refine Q423 ?_
  obtain ⟨rfl,hq0⟩:=g36
  have i3:=i3 rfl
  have hle:(Cn.cellss cs).length≤200000:=by rw [Cn.cellss_len];omega
  rw [if_pos rfl] at hu
  obtain ⟨f,rfl⟩:∃ f',f=f'+1:=⟨f - 1,by omega⟩
  rw [consL,if_neg (by rw [hq0];simp)] at hu
  have HP:=take_c b L hL q i1.1 2 kE
  have l1:=(Zo (kind:=2) (s:=kE) (by decide) i1).ok i1
  have b1:=(Zo (L:=L) (kind:=2) (s:=kE) (by decide) i1).1
  obtain ⟨z,hz⟩:∃ z,conP L q=z:=⟨_,rfl⟩
  rw [hz] at hu
  unfold conP at hz
  simp only [] at hz
  obtain ⟨⟨⟨ck,ct,cn,ca⟩,q1⟩,f1⟩:∃ r,takeP L q 2 kE=r:=⟨_,rfl⟩
  rw [f1] at HP hz l1 b1
  simp only [Tok.av] at HP hz l1 b1
  have l2:=(typesL_adv Xh (L.length+1) q1 [] l1).ok l1
  have b2':=(typesL_adv Xh (L.length+1) q1 [] l1).1
  obtain ⟨⟨tys,q2⟩,f2⟩:∃ r,typesL L (typeP L) (L.length+1) q1 []=r:=⟨_,rfl⟩
  rw [f2] at l2 b2' hz
  simp only [] at l2 b2' hz
  subst hz
  simp only [] at hu
  have l2a:=l2.1
  refine Q234 ?_
  refine Zb 38 V V V (Zi (xs:=[.tmp 37,.const (.int .i64 2),.const (.string ⟨#[]⟩)]) (i:=3) V V V (HP) by1 ?_)
  refine Q39 ?_;intro b6
  refine Q454 ?_
  refine Q243 ?_
  refine Zb 43 V V V (Zp (ns:=[0,2]) (xs:=[.tmp 40,.tmp 42]) V tz_163 V tfl_163 V V V V (Zb 7 V V V (Yk (cs':=[_,_,_]) V tz_163 V V ?_)));intro b7
  refine Q178 ?_
  refine Q406 ?_
  refine Yv 24 4 ?_
  apply Ym (rg [(1,1),(3,1),(8,21),(44,9),(64,1),(69,1)]) (σ:=PS × Nat × List Ty × Value) (fun zz=>match zz with|(s,g,ac,v)=>[]) (fun zz=>match zz with|(s,g,ac,v)=>[.loc b7 [.val (.string ct),.own v 4 (Ty.cellss ac),.val (.int .i64 ca)],.loc b6 (Tok.mk ck ct cn ca).av,.loc b4 [.val (.string tt),.seq 1 (strs acc),.own w 3 (Cn.cellss cs),.val (.slice none 0 0),.val (.int .i64 ta)],.loc b3 (Tok.mk tk tt tn ta).av,.loc b2 zDa,.loc b (psC L s),.own 163 3 w,.own 24 4 v]) (fun zz=>match zz with|(s,g,ac,v)=>POk L 302 s∧L.length - s.at_<g∧ac.length≤s.at_∧typesL L (typeP L) g s ac=(tys,q2)) (fun zz=>match zz with|(s,g,ac,v)=>g) ((q1,L.length+1,[],.slice none 0 0))
  ·repeat' (first|exact Wc|apply Wa rfl|apply Wb rfl)
  ·exact ⟨l1,by omega,Nat.zero_le _,f2⟩
  ·exact by4
  ·exact (Xr _ (Xv (Xt _) (Xv (Le.nilOwn 4) (Xu _))) (Xp _ (Xs V)))
  rintro ⟨s,g,ac,v⟩ hI
  try dsimp only [List.cons_append,List.nil_append] at hI ⊢
  obtain ⟨j1,j2,j3,hv⟩:=hI
  have hs1:=j1.1
  have hlt:(Ty.cellss ac).length≤200000:=by rw [Ty.cellss_len];omega
  refine Q261 ?_
  refine Zb 45 V V V (op_callkb (xs:=[.tmp 44,.const (.int .i64 0)]) [5] V V V (starts_c b L s 0) by1 ?_);intro c45 h45
  refine Q226 ?_
  rcases Za h45 with ⟨rfl,g45⟩|⟨rfl,g45⟩
  ·refine Q343 ?_
   rw [typesL_end g45] at hv
   simp only [Prod.mk.injEq] at hv
   obtain ⟨rfl,rfl⟩:=hv
   refine c_le (SLe.refl _) (Xr _ (Xv (Xt _) (Xv (Le.own_seq V) (Xu _))) (Xn _)) ?_
   refine Q4 ?_
   refine Q388 ?_
   refine Zb 55 V V V (Yc (cs':=[_,_,_]) (i:=0) V ta_163 V V V V (Zb 56 V V V (Zh (xs:=[.tmp 55]) el_112 V V V V V V (Xz V) (Zb 57 V V V (Zw (i:=6) el_112 V V V V (.seq _ _) by6 ?_)))))
   intro u57
   refine Q11 ?_
   refine Ya V V (Zu (cs':=[_,_,_,_,_]) (i:=2) V ts_112 V V V V V (Xz V) V ?_)
   refine Q451 ?_
   refine Zb 60 V V V (op_mayc (xs:=[.tmp 59,.const (.string ⟨#[124]⟩)]) (i:=5) V V V (may_c b L hL s kBar) by1 ?_ ?_)
   ·intro g60
    refine Q418 ?_
    first
    | (rw [if_pos g60] at hu;have l4:=(Yj l2 g60).ok l2;have l5:=(is_lt g60).2;exact ⟨(stepP s,f,cs++[Cn.mk ct ac ca],u57,true),⟨l4,(by show L.length - (s.at_+1)<f;omega),(fun _=>by show (cs++_).length≤s.at_+1;rw [List.length_append];simp;omega),hu⟩,(by show 2 * f+1<2 * (f+1)+1;omega),Xw rfl (Xt _) by4,Xq _ (Xq _ (Xr _ (Xv (Xt _) (Xv (Xt _) (Xv (Xy (by simp [Cn.cellss];rfl)) (Xu _)))) (Xp _ (Xp _ (Xp _ (Xp _ (Xq _ (Xn _))))))))⟩)
    | (rw [if_neg g60] at hu;exact ⟨(s,f+1,cs++[Cn.mk ct ac ca],u57,false),⟨l2,(by show L.length - s.at_<f+1;omega),(fun h=>by cases h),hu⟩,(by show 2 * (f+1)+0<2 * (f+1)+1;omega),Xw rfl (Xt _) by4,Xq _ (Xq _ (Xr _ (Xv (Xt _) (Xv (Xt _) (Xv (Xy (by simp [Cn.cellss];rfl)) (Xu _)))) (Xp _ (Xp _ (Xp _ (Xp _ (Xq _ (Xn _))))))))⟩)
   intro g60
   refine Q418 ?_
   first
   | (rw [if_pos g60] at hu;have l4:=(Yj l2 g60).ok l2;have l5:=(is_lt g60).2;exact ⟨(stepP s,f,cs++[Cn.mk ct ac ca],u57,true),⟨l4,(by show L.length - (s.at_+1)<f;omega),(fun _=>by show (cs++_).length≤s.at_+1;rw [List.length_append];simp;omega),hu⟩,(by show 2 * f+1<2 * (f+1)+1;omega),Xw rfl (Xt _) by4,Xq _ (Xq _ (Xr _ (Xv (Xt _) (Xv (Xt _) (Xv (Xy (by simp [Cn.cellss];rfl)) (Xu _)))) (Xp _ (Xp _ (Xp _ (Xp _ (Xq _ (Xn _))))))))⟩)
   | (rw [if_neg g60] at hu;exact ⟨(s,f+1,cs++[Cn.mk ct ac ca],u57,false),⟨l2,(by show L.length - s.at_<f+1;omega),(fun h=>by cases h),hu⟩,(by show 2 * (f+1)+0<2 * (f+1)+1;omega),Xw rfl (Xt _) by4,Xq _ (Xq _ (Xr _ (Xv (Xt _) (Xv (Xt _) (Xv (Xy (by simp [Cn.cellss];rfl)) (Xu _)))) (Xp _ (Xp _ (Xp _ (Xp _ (Xq _ (Xn _))))))))⟩)
  refine Q330 ?_
  obtain ⟨g,rfl⟩:∃ f',g=f'+1:=⟨g - 1,by omega⟩
  rw [typesL_go g45] at hv
  have d1:=atype_lt Xh j1 g45
  have d2:=atype_adv Xh j1
  have m2:=d2.ok j1
  have HA2:=atype_c b L hL 302 (typeP L) (Type_c b L hL 302) Xh s j1
  obtain ⟨⟨⟨yk,ys,yn,yl⟩,s2⟩,e2'⟩:∃ r,atypeG L (typeP L) s=r:=⟨_,rfl⟩
  rw [e2'] at HA2 hv m2 d1
  simp only [Ty.cells] at HA2
  simp only [] at d1 m2 hv
  have m3:=m2.1
  refine Q398 ?_
  refine Yf 5 (i:=3) V V V V V (Zi (xs:=[.tmp 48]) (i:=0) V V V (HA2) by1 ⟨_,V,?_⟩)
  refine Zm 50 (none) (i:=4) V V V V V (Zh (xs:=[.tmp 49]) el_22 V V V V V V (Xz V) ⟨V,V⟩) ?_
  refine Yf 7 (i:=5) V V V V V (Zw (i:=0) el_22 V V V V (.seq _ _) by6 (fun u51=>⟨_,V,?_⟩))
  refine Q27 ?_
  refine Yf 0 (i:=7) V V V V V (Zu (cs':=[_,_,_]) (i:=0) V ts_22 V V V V V (Xz V) V ⟨_,V,?_⟩)
  show AGo _ _ _ _ _ _ _
  refine Q295 ?_
  refine ⟨(s2,g,ac++[Ty.mk yk ys yn yl],u51),⟨m2,(by show L.length - s2.at_<g;omega),(by show (ac++[Ty.mk yk ys yn yl]).length≤s2.at_;rw [List.length_append];simp;omega),hv⟩,Nat.lt_succ_self g,by4,(Xr _ (Xv (Xt _) (Xv (Xy (by rw [Ty.cellss_app];rfl)) (Xu _))) (Xp _ (Xp _ (Xp _ (Xp _ (Xs V))))))⟩
 refine Q330 ?_
 obtain ⟨f,rfl⟩:∃ f',f=f'+1:=⟨f - 1,by omega⟩
 have hlt:=hkn g18
 rw [hgo f g18,htk g18] at hu
 have HT:=take_c b L hL q hq1 1 kE
 rw [htk g18] at HT
 simp only [Tok.av] at HT
 have l1:=(Xg i1 hlt).ok i1
 refine Yp [0,1,2,3,4,5,6,7,8] [3,6,8] [[],[0],[],[2],[2,3],[2,3,4],[0,1,2,3,4,5],[0,1,2,3,4,5,6],[0,1,2,3,4,5,6,7]] Xl V ?_
 refine Q368 ?_
 refine Yf 3 (i:=3) V V V V V (Zi (xs:=[.tmp 21,.const (.int .i64 1),.const (.string ⟨#[]⟩)]) (i:=0) V V V (HT) by1 ⟨_,V,?_⟩)
 refine Zm 23 (none) (i:=4) V V V V V (Xc (ft:=9) (fo:=1) V (by kernel_rfl) ta_9 V V ⟨V,V⟩) ?_
 refine Zm 24 (none) (i:=5) V V V V V (Zh (xs:=[.tmp 23]) Xd V V V V V V (Xz V) ⟨V,V⟩) ?_
 refine Yf 4 (i:=6) V V V V V (Zw (i:=0) Xd V V V V (.seq _ _) by6 (fun u25=>⟨_,V,?_⟩))
 refine Q27 ?_
 refine Yf 0 (i:=8) V V V V V (Zu (cs':=[_,_,_,_,_]) (i:=0) V ts_44 V V V V V (Xz V) V ⟨_,V,?_⟩)
 show AGo _ _ _ _ _ _ _
 refine Q295 ?_
 refine ⟨(stepP q,f,acc++[qt],u25),⟨l1,(by show L.length - (q.at_+1)<f;omega),(by show (acc++[qt]).length≤q.at_+1;rw [List.length_append];simp;omega),hu⟩,Nat.lt_succ_self f,by4,(Xr _ (Xv (Xt _) (Xv (Xy (by rw [strs_app];rfl)) (Xu _))) (Xp _ (Xp _ (Xs V))))⟩
theorem clsL_err {L:List Tok} {f:Nat} {p:PS} {ms:List Me} {ds:List Bi} (h:p.e≠0):clsL L f p ms ds=((ms,ds),p):=by
 cases f with
 | zero=>rfl
 | succ f=>rw [clsL,if_pos h]
theorem clsL_end {L:List Tok} {f:Nat} {p:PS} {ms:List Me} {ds:List Bi} (h:p.e=0) (h2:isP L p kEnd=true):clsL L (f+1) p ms ds=((ms,ds),stepP p):=by rw [clsL,if_neg (by rw [h];simp),if_pos h2]
theorem Me.cellss_app' (a b:List Me):Me.cellss (a++b)=Me.cellss a++Me.cellss b:=by simp [Me.cellss]
abbrev zCl:List AV:=[.val (.string kE),.val (.string kE),.val (.slice none 0 0),.val (.slice none 0 0),.val (.slice none 0 0),.val (.int .i64 0)]
theorem class_b (b:Nat) (L:List Tok) (hL:L.length≤100000) (p:PS) (k:POk L 302 p) (c17:Bool) (h3:isP L (takeP L (takeP L p 2 kE).2 1 kE).2 kFrom=c17):MCall Tryz.prog 57 [.ptr b 0] (.loc b (psC L p)) (.agg (classP L p).1.cells) (.loc b (psC L (classP L p).2)):=by
 have H1:=take_c b L hL p k.1 2 kE
 have k1:=(Zo (kind:=2) (s:=kE) (by decide) k).ok k
 obtain ⟨r,hr⟩:∃ r,classP L p=r:=⟨_,rfl⟩
 rw [hr]
 unfold classP at hr
 simp only [] at hr
 obtain ⟨⟨⟨tk,tt,tn,ta⟩,p1⟩,e1⟩:∃ r,takeP L p 2 kE=r:=⟨_,rfl⟩
 rw [e1] at H1 k1 hr h3
 simp only [Tok.av] at H1 k1 hr h3
 have H2:=take_c b L hL p1 k1.1 1 kE
 have k2:=(Zo (kind:=1) (s:=kE) (by decide) k1).ok k1
 obtain ⟨⟨⟨vk,vt,vn,va⟩,p2⟩,e2⟩:∃ r,takeP L p1 1 kE=r:=⟨_,rfl⟩
 rw [e2] at H2 k2 hr h3
 simp only [Tok.av] at H2 k2 hr h3
 have HM:=may_eq (b:=b) hL h3
 have k3:=(supers_adv k2).ok k2
 obtain ⟨⟨sl,p3⟩,e3⟩:∃ r,supersP L p2=r:=⟨_,rfl⟩
 rw [e3] at k3 hr
 simp only [] at k3 hr
 have e3:(if c17=true then uppersP L (stepP p2) else ([],p2))=(sl,p3):=by rw [← e3,supersP,h3]
 have H4:=take_c b L hL p3 k3.1 6 kWhere
 have k4:=(Zo (kind:=6) (s:=kWhere) (by decide) k3).ok k3
 obtain ⟨⟨u4,p4⟩,e4⟩:∃ r,takeP L p3 6 kWhere=r:=⟨_,rfl⟩
 rw [e4] at H4 k4 hr
 simp only [] at H4 k4 hr
 obtain ⟨⟨⟨ml,dl⟩,p5⟩,e5⟩:∃ r,clsL L (L.length+1) p4 [] []=r:=⟨_,rfl⟩
 rw [e5] at hr
 simp only [] at hr
 refine Zc Tryz.func57 V (by kernel_rfl) V (Xz V) ?_
 refine Q237 ?_
 refine Q150 ?_;intro b2
 refine Q287 ?_
 refine Zb 7 V V V (Zi (xs:=[.tmp 6,.const (.int .i64 2),.const (.string ⟨#[]⟩)]) (i:=1) V V V (H1) by1 ?_)
 refine Q39 ?_;intro b3
 refine Q44 ?_
 refine Q241 ?_
 refine c_drawnEF [0,1,2,5,6,3,4,7,8,9] [3,8,9] [[],[0],[],[2],[2,3],[],[5],[0,1,2,3,4,5,6],[],[0,1,2,3,4,5,6,7,8]] 8 (cs0:=[_,_,_,_,_,_]) Xl V V V V tz_118 V V (EOpsF.d 8 (none) (i:=0) V V V V V V (op_fieldAddr_m V tf_109_1 V ⟨V,V⟩) ?_)
 refine EOpsF.d 9 (some 0) (i:=1) V V V V V V (op_load_m1 (i:=0) V ta_9 V V V ⟨V,V⟩) ?_
 refine EOpsF.d 10 (none) (i:=2) V V V V V V (op_move V V ⟨V,V⟩) ?_
 refine EOpsF.d 13 (none) (i:=5) V V V V V V (op_fieldAddr_m V tf_109_3 V ⟨V,V⟩) ?_
 refine EOpsF.d 14 (some 0) (i:=6) V V V V V V (op_load_m1 (i:=0) V ta_3 V V V ⟨V,V⟩) ?_
 refine EOpsF.w 2 (i:=3) V V V V V V (Zi (xs:=[.tmp 10,.const (.int .i64 1),.const (.string ⟨#[]⟩)]) (i:=0) V V V (H2) by1 ⟨_,V,?_⟩)
 refine EOpsF.d 12 (none) (i:=4) V V V V V V (Xc (ft:=9) (fo:=1) V (by kernel_rfl) ta_9 V V ⟨V,V⟩) ?_
 refine EOpsF.d 15 (none) (i:=7) V V V V V V (Zp (ns:=[0,1,5]) (xs:=[.tmp 9,.tmp 12,.tmp 14]) V tz_118 V tfl_118 V V V V ⟨V,V⟩) ?_
 refine EOpsF.free (i:=8) V V V ?_;intro b4
 refine EOpsF.w 3 (i:=9) V V V V V V (Zu (cs':=[_,_,_,_,_,_]) (i:=0) V ts_118 V V V V V (Xz V) V ⟨_,V,?_⟩)
 show AGo _ _ _ _ _ _ _
 refine Q469 ?_
 refine Zb 17 V V V (Zi (xs:=[.tmp 16,.const (.string ⟨#[102,114,111,109]⟩)]) (i:=2) V V V (HM) by1 ?_)
 refine Q226 ?_
 apply c_joink (rg [(1,1),(3,1),(6,15),(22,1),(45,1),(59,1)]) (σ:=Unit) (fun zz=>match zz with|z=>[]) (fun zz=>match zz with|z=>[.loc b3 (Tok.mk tk tt tn ta).av,.loc b2 zCl,.loc b (psC L p3),.loc b4 [.val (.string tt),.val (.string vt),.seq 1 (strs sl),.val (.slice none 0 0),.val (.slice none 0 0),.val (.int .i64 ta)]]) (fun zz=>match zz with|z=>True)
 ·repeat' (first|exact Wc|apply Wa rfl|apply Wb rfl)
 ·skip
  rcases c17 with _|_
  ·refine Q411 ?_
   first
   | exact ⟨(),trivial,by4,Xs rfl⟩
   | (rw [if_neg (by decide)] at e3;cases e3;exact ⟨(),trivial,by4,(Xp _ (Xp _ (Xp _ (Xr _ by0 (MLe.nil)))))⟩)
  refine Q9 ?_
  rw [if_pos rfl] at e3
  have kA:=(Yj k2 h3).ok k2
  have HU:=uppers_c b L hL 302 (stepP p2) kA
  rw [e3] at HU
  refine Q234 ?_
  refine Zb 19 V V V (Zi (xs:=[.tmp 18]) (i:=2) V V V (HU) by1 ?_)
  refine Q11 ?_
  refine Ya V V (Zu (cs':=[_,_,_,_,_,_]) (i:=3) V ts_44 V V V V V (Xz V) V ?_)
  refine Q310 ?_
  first
  | exact ⟨(),trivial,by4,Xs rfl⟩
  | (rw [if_neg (by decide)] at e3;cases e3;exact ⟨(),trivial,by4,(Xp _ (Xp _ (Xp _ (Xr _ by0 (MLe.nil)))))⟩)
 rintro z hI
 try dsimp only [List.cons_append,List.nil_append] at hI ⊢
 refine Q464 ?_
 refine Zb 22 V V V (Zi (xs:=[.tmp 21,.const (.int .i64 6),.const (.string ⟨#[119,104,101,114,101]⟩)]) (i:=2) V V V (H4) by1 ?_)
 refine Q406 ?_
 refine Yv 168 6 (Yv 130 13 ?_)
 apply Ym (rg [(1,1),(3,1),(5,55)]) (σ:=PS × Nat × List Me × List Bi × Value × Value) (fun zz=>match zz with|(q,f,ms,ds,u,v)=>[]) (fun zz=>match zz with|(q,f,ms,ds,u,v)=>[.loc b3 (Tok.mk tk tt tn ta).av,.loc b2 zCl,.loc b (psC L q),.loc b4 [.val (.string tt),.val (.string vt),.seq 1 (strs sl),.own u 6 (Me.cellss ms),.own v 13 (Bi.cellss ds),.val (.int .i64 ta)],.own 168 6 u,.own 130 13 v]) (fun zz=>match zz with|(q,f,ms,ds,u,v)=>POk L 302 q∧(q.e=0→L.length - q.at_<f∧ms.length+ds.length≤q.at_)∧clsL L f q ms ds=((ml,dl),p5)) (fun zz=>match zz with|(q,f,ms,ds,u,v)=>f) ((p4,L.length+1,[],[],.slice none 0 0,.slice none 0 0))
 ·repeat' (first|exact Wc|apply Wa rfl|apply Wb rfl)
 ·exact ⟨k4,fun _=>⟨by omega,Nat.zero_le _⟩,e5⟩
 ·exact by4
 ·exact (Xp _ (Xp _ (Xp _ (Xr _ (Xv (Xt _) (Xv (Xt _) (Xv (Xt _) (Xv (Le.nilOwn 6) (Xv (Le.nilOwn 13) (Xu _)))))) (Xn _)))))
 rintro ⟨q,f,ms,ds,u,v⟩ hI
 try dsimp only [List.cons_append,List.nil_append] at hI ⊢
 obtain ⟨i1,i2,hu⟩:=hI
 have hq1:=i1.1
 refine Q261 ?_
 refine Q421 ?_
 refine Q17 ?_;intro c27 h27
 refine Q5 ?_
 rcases Za h27 with ⟨rfl,g27⟩|⟨rfl,g27⟩
 ·skip
  refine Q279 ?_
  refine Q456 ?_
  refine Q296 ?_
  refine Q216 ?_
  refine Q217 ?_
  refine Q257 ?_
  first
  | (rw [clsL_err g27] at hu;cases hu;subst hr;exact Zj (i:=1) rfl rfl rfl ta_118 rfl by0 (Xq _ (Xq _ (Xp _ (Xo _)))) ⟨rfl,rfl⟩)
  | (obtain ⟨f,rfl⟩:∃ f',f=f'+1:=⟨f - 1,by have:=(i2 g27).1;omega⟩;rw [clsL_end g27 g30] at hu;cases hu;subst hr;exact Zj (i:=1) rfl rfl rfl ta_118 rfl by0 (Xq _ (Xq _ (Xp _ (Xo _)))) ⟨rfl,rfl⟩)
 skip
 refine Q16 ?_
 refine Zq 30 V V V V V (op_mayc (xs:=[.tmp 29,.const (.string ⟨#[101,110,100]⟩)]) (i:=2) V V V (may_c b L hL q kEnd) by1 ?_ ?_)
 ·intro g30
  refine Q67 ?_;intro c31 h31
  try replace h31:=Yo h31 h30
  obtain rfl:c31=false:=by
   cases c31 with
   | false=>rfl
   | true=>exact absurd (h31.1 rfl) (by decide)
  refine Q456 ?_
  refine Q296 ?_
  refine Q216 ?_
  refine Q217 ?_
  refine Q257 ?_
  first
  | (rw [clsL_err g27] at hu;cases hu;subst hr;exact Zj (i:=1) rfl rfl rfl ta_118 rfl by0 (Xq _ (Xq _ (Xp _ (Xo _)))) ⟨rfl,rfl⟩)
  | (obtain ⟨f,rfl⟩:∃ f',f=f'+1:=⟨f - 1,by have:=(i2 g27).1;omega⟩;rw [clsL_end g27 g30] at hu;cases hu;subst hr;exact Zj (i:=1) rfl rfl rfl ta_118 rfl by0 (Xq _ (Xq _ (Xp _ (Xo _)))) ⟨rfl,rfl⟩)
 intro g30
 refine Q67 ?_;intro c31 h31
 try replace h31:=Yo h31 h30
 obtain rfl:c31=true:=h31.2 rfl
 refine Q456 ?_
 refine Q330 ?_
 refine Q292 ?_
 obtain ⟨i3,i4⟩:=i2 g27
 have hl1:(Me.cellss ms).length≤200000:=by rw [Me.cellss_len];omega
 have hl2:(Bi.cellss ds).length≤200000:=by rw [Bi.cellss_len];omega
 obtain ⟨f,rfl⟩:∃ f',f=f'+1:=⟨f - 1,by omega⟩
 rw [clsL,if_neg (by rw [g27];simp),if_neg g30] at hu
 refine Q234 ?_
 refine Zb 34 V V V (op_mayc (xs:=[.tmp 33,.const (.string ⟨#[100,101,102]⟩)]) (i:=2) V V V (may_c b L hL q kDef) by1 ?_ ?_)
 ·intro g34
  refine Q522 ?_
  rw [if_pos g34] at hu
  have l1:=(Yj i1 g34).ok i1
  have l2:=(bindP_adv l1).ok l1
  have b1:(stepP q).at_≤_:=(bindP_adv l1).1
  have b1':(stepP q).at_=q.at_+1:=rfl
  have HB:=bindP_c b L hL (stepP q) l1
  obtain ⟨⟨⟨bn,⟨xk,xs,xn,⟨xtk,xts,xtn,xtl⟩,xks,xal,xbs,xp⟩,bp⟩,q2⟩,f2⟩:∃ r,bindP L (stepP q)=r:=⟨_,rfl⟩
  rw [f2] at HB l2 b1 hu
  simp only [Bi.cells,Ex.cells,Ty.cells,List.cons_append,List.nil_append] at HB l2 b1 hu
  have b2':q.at_≤q2.at_:=by omega
  have HS:=take_c b L hL q2 l2.1 7 kSemi
  have hpr:=take_prog (L:=L) (p:=q2) (kind:=7) (s:=kSemi) (by decide)
  have l5:=(Zo (kind:=7) (s:=kSemi) (by decide) l2).ok l2
  obtain ⟨⟨u6,q5⟩,f5⟩:∃ r,takeP L q2 7 kSemi=r:=⟨_,rfl⟩
  rw [f5] at HS hpr l5 hu
  simp only [Prod.mk.injEq] at HS hpr l5 hu
  refine Q77 ?_
  refine Q27 ?_
  refine Q218 ?_
  refine Q24 ?_
  refine Yf 2 (i:=3) V V V V V (Zi (xs:=[.tmp 37]) (i:=0) V V V (HB) by1 ⟨_,V,?_⟩)
  refine Zm 39 (none) (i:=4) V V V V V (Zh (xs:=[.tmp 38]) el_79 V V V V V V (Xz V) ⟨V,V⟩) ?_
  refine Yf 5 (i:=5) V V V V V (Zw (i:=0) el_79 V V V V (.seq _ _) by6 (fun u40=>⟨_,V,?_⟩))
  refine Q27 ?_
  refine Yf 3 (i:=7) V V V V V (Zu (cs':=[_,_,_,_,_,_]) (i:=0) V ts_79 V V V V V (Xz V) V ⟨_,V,?_⟩)
  show AGo _ _ _ _ _ _ _
  refine Q1 ?_
  first|(have:=HN;refine c_le (SLe.refl _) (Xq _ (Xn _)) ?_)|skip
  refine Q234 ?_
  refine Zb 59 V V V (Zi (xs:=[.tmp 58,.const (.int .i64 7),.const (.string ⟨#[59]⟩)]) (i:=2) V V V (HS) by1 ?_)
  refine Q365 ?_
  first
  | exact ⟨(q5,f,ms,ds++[Bi.mk bn (Ex.mk xk xs xn (Ty.mk xtk xts xtn xtl) xks xal xbs xp) bp],u,u40),⟨l5,(fun e=>by obtain ⟨⟨_,h5⟩,_,h6⟩:=hpr e;rw [h5];refine ⟨?_,?_⟩;(show L.length - (q2.at_+1)<f;omega);(show ms.length+(ds++_).length≤q2.at_+1;rw [List.length_append];simp;omega)),hu⟩,Nat.lt_succ_self f,by4,(Xp _ (Xp _ (Xp _ (Xr _ (Xv (Xt _) (Xv (Xt _) (Xv (Xt _) (Xv (Xt _) (Xv (Xy by9) (Xu _)))))) (Xs rfl)))))⟩
  | exact ⟨(q5,f,ms++[Me.mk nt (Ty.mk yk ys yn yl) na],ds,u56,v),⟨l5,(fun e=>by obtain ⟨⟨_,h5⟩,_,h6⟩:=hpr e;rw [h5];refine ⟨?_,?_⟩;(show L.length - (q2.at_+1)<f;omega);(show (ms++_).length+ds.length≤q2.at_+1;rw [List.length_append];simp;omega)),hu⟩,Nat.lt_succ_self f,by4,(Xp _ (Xp _ (Xp _ (Xr _ (Xv (Xt _) (Xv (Xt _) (Xv (Xt _) (Xv (Xy (by rw [Me.cellss_app'];rfl)) (Xv (Xt _) (Xu _)))))) (Xs rfl)))))⟩
 intro g34
 refine Q226 ?_
 refine Q8 ?_
 refine Q2 ?_
 rw [if_neg g34] at hu
 have HN:=pName_c b L hL 302 q i1
 have l1:=(name_adv i1).ok i1
 have b1:=(name_adv i1).1
 obtain ⟨⟨⟨nk,nt,nn,na⟩,q1⟩,f1⟩:∃ r,nameP L q=r:=⟨_,rfl⟩
 rw [f1] at HN l1 b1 hu
 simp only [Tok.av] at HN l1 b1 hu
 have HC:=take_c b L hL q1 l1.1 7 kColon
 have l2':=(Zo (kind:=7) (s:=kColon) (by decide) l1).ok l1
 have b2'':=(Zo (L:=L) (kind:=7) (s:=kColon) (by decide) l1).1
 obtain ⟨⟨u7,q3⟩,f3⟩:∃ r,takeP L q1 7 kColon=r:=⟨_,rfl⟩
 rw [f3] at HC l2' b2'' hu
 simp only [] at HC l2' b2'' hu
 have HT:=typeP_c b L hL 302 q3 l2'
 have l2:=(typeP_adv l2').ok l2'
 have b3':=(typeP_adv l2').1
 obtain ⟨⟨⟨yk,ys,yn,yl⟩,q2⟩,f2⟩:∃ r,typeP L q3=r:=⟨_,rfl⟩
 rw [f2] at HT l2 b3' hu
 simp only [Ty.cells] at HT l2 b3' hu
 have b2':q.at_≤q2.at_:=by omega
 have HS:=take_c b L hL q2 l2.1 7 kSemi
 have hpr:=take_prog (L:=L) (p:=q2) (kind:=7) (s:=kSemi) (by decide)
 have l5:=(Zo (kind:=7) (s:=kSemi) (by decide) l2).ok l2
 obtain ⟨⟨u6,q5⟩,f5⟩:∃ r,takeP L q2 7 kSemi=r:=⟨_,rfl⟩
 rw [f5] at HS hpr l5 hu
 simp only [Prod.mk.injEq] at HS hpr l5 hu
 refine Q234 ?_
 refine Zb 43 V V V (Zi (xs:=[.tmp 42]) (i:=2) V V V (HN) by1 ?_)
 refine Q39 ?_;intro b5
 refine Q557 ?_
 refine Zb 45 V V V (Zi (xs:=[.tmp 44,.const (.int .i64 7),.const (.string ⟨#[58]⟩)]) (i:=3) V V V (HC) by1 ?_)
 refine Q226 ?_
 refine Yp [0,1,2,3,4,6,7,5,8,9,10,11,12] [5,10,12] [[],[0],[],[2],[],[4],[],[6],[2,3,4,5,6,7],[2,3,4,5,6,7,8],[0,1,2,3,4,5,6,7,8,9],[0,1,2,3,4,5,6,7,8,9,10],[0,1,2,3,4,5,6,7,8,9,10,11]] Xl V ?_
 refine Q27 ?_
 refine Zm 47 (some 4) (i:=1) V V V V V (op_load_m1 (i:=0) V ta_116 V V V ⟨V,V⟩) ?_
 refine Q368 ?_
 refine Q325 ?_
 refine Yf 3 (i:=5) V V V V V (Zi (xs:=[.tmp 50]) (i:=0) V V V (HT) by1 ⟨_,V,?_⟩)
 refine Zm 54 (none) (i:=8) V V V V V (Zp (ns:=[0,1,2]) (xs:=[.tmp 49,.tmp 51,.tmp 53]) V tz_168 V tfl_168 V V V V ⟨V,V⟩) ?_
 refine Zm 55 (none) (i:=9) V V V V V (Zh (xs:=[.tmp 54]) el_116 V V V V V V (Xz V) ⟨V,V⟩) ?_
 refine Yf 5 (i:=10) V V V V V (Zw (i:=0) el_116 V V V V (.seq _ _) by6 (fun u56=>⟨_,V,?_⟩))
 refine Q27 ?_
 refine Yf 4 (i:=12) V V V V V (Zu (cs':=[_,_,_,_,_,_]) (i:=0) V ts_116 V V V V V (Xz V) V ⟨_,V,?_⟩)
 show AGo _ _ _ _ _ _ _
 refine Q1 ?_
 first|(have:=HN;refine c_le (SLe.refl _) (Xq _ (Xn _)) ?_)|skip
 refine Q234 ?_
 refine Zb 59 V V V (Zi (xs:=[.tmp 58,.const (.int .i64 7),.const (.string ⟨#[59]⟩)]) (i:=2) V V V (HS) by1 ?_)
 refine Q365 ?_
 first
 | exact ⟨(q5,f,ms,ds++[Bi.mk bn (Ex.mk xk xs xn (Ty.mk xtk xts xtn xtl) xks xal xbs xp) bp],u,u40),⟨l5,(fun e=>by obtain ⟨⟨_,h5⟩,_,h6⟩:=hpr e;rw [h5];refine ⟨?_,?_⟩;(show L.length - (q2.at_+1)<f;omega);(show ms.length+(ds++_).length≤q2.at_+1;rw [List.length_append];simp;omega)),hu⟩,Nat.lt_succ_self f,by4,(Xp _ (Xp _ (Xp _ (Xr _ (Xv (Xt _) (Xv (Xt _) (Xv (Xt _) (Xv (Xt _) (Xv (Xy by9) (Xu _)))))) (Xs rfl)))))⟩
 | exact ⟨(q5,f,ms++[Me.mk nt (Ty.mk yk ys yn yl) na],ds,u56,v),⟨l5,(fun e=>by obtain ⟨⟨_,h5⟩,_,h6⟩:=hpr e;rw [h5];refine ⟨?_,?_⟩;(show L.length - (q2.at_+1)<f;omega);(show (ms++_).length+ds.length≤q2.at_+1;rw [List.length_append];simp;omega)),hu⟩,Nat.lt_succ_self f,by4,(Xp _ (Xp _ (Xp _ (Xr _ (Xv (Xt _) (Xv (Xt _) (Xv (Xt _) (Xv (Xy (by rw [Me.cellss_app'];rfl)) (Xv (Xt _) (Xu _)))))) (Xs rfl)))))⟩
theorem class_c (b:Nat) (L:List Tok) (hL:L.length≤100000) (p:PS) (k:POk L 302 p):MCall Tryz.prog 57 [.ptr b 0] (.loc b (psC L p)) (.agg (classP L p).1.cells) (.loc b (psC L (classP L p).2)):=class_b b L hL p k _ rfl
theorem Le.own_less {u:Value} {m:Nat} {es es':List (List AV)} (h:Less es es'):Le (.own u m es) (.own u m es'):=fun F x k=>by
 cases k with|own _ k=>exact .own _ (Le.seq h _ _ k)
theorem Less.snoc {a b:List AV} (h:Les a b) (hl:a.length=b.length):∀ es:List (List AV),Less (es++[a]) (es++[b])
 | []=>.cons h hl .nil
 | _::es=>.cons (Xu _) rfl (Less.snoc h hl es)
theorem preds_snoc {u:Value} (acc:List Pr) (ct vt:ByteArray):Le (.own u 5 (Pr.cellss acc++[[.val (.string ct),.val (.int .i64 1),.val (.string vt),.val (.int .i64 0),.val (.slice none 0 0)]])) (.own u 5 (Pr.cellss (acc++[Pr.mk ct (Ty.mk 1 vt 0 [])]))):=by
 rw [show Pr.cellss (acc++[Pr.mk ct (Ty.mk 1 vt 0 [])])=Pr.cellss acc++[[.val (.string ct),.val (.int .i64 1),.val (.string vt),.val (.int .i64 0),.seq 4 []]] by simp [Pr.cellss,Pr.cells,Ty.cells,Ty.cellss]]
 exact Le.own_less (Less.snoc (Xv (Xt _) (Xv (Xt _) (Xv (Xt _) (Xv (Xt _) (Xv (Le.nil _) (Xu _)))))) V _)
theorem ctxL_err {L:List Tok} {f:Nat} {p:PS} {acc:List Pr} (h:p.e≠0):ctxL L f p acc=(acc,p):=by
 cases f with
 | zero=>rfl
 | succ f=>rw [ctxL,if_pos h]
theorem insL_err {L:List Tok} {f:Nat} {p:PS} {bs:List Bi} (h:p.e≠0):insL L f p bs=(bs,p):=by
 cases f with
 | zero=>rfl
 | succ f=>rw [insL,if_pos h]
theorem insL_end {L:List Tok} {f:Nat} {p:PS} {bs:List Bi} (h:p.e=0) (h2:isP L p kEnd=true):insL L (f+1) p bs=(bs,stepP p):=by rw [insL,if_neg (by rw [h];simp),if_pos h2]
abbrev zIn:List AV:=[.val (.string kE),.val (.int .i64 0),.val (.string kE),.val (.int .i64 0),.val (.slice none 0 0),.val (.slice none 0 0),.val (.slice none 0 0),.val (.int .i64 0)]
theorem inst_b (b:Nat) (L:List Tok) (hL:L.length≤100000) (p:PS) (k:POk L 302 p) (c18:Bool) (h3:isP L (atypeG L (typeP L) (takeP L p 2 kE).2).2 kFrom=c18):MCall Tryz.prog 58 [.ptr b 0] (.loc b (psC L p)) (.agg (instP L p).1.cells) (.loc b (psC L (instP L p).2)):=by
 have H1:=take_c b L hL p k.1 2 kE
 have k1:=(Zo (kind:=2) (s:=kE) (by decide) k).ok k
 obtain ⟨r,hr⟩:∃ r,instP L p=r:=⟨_,rfl⟩
 rw [hr]
 unfold instP at hr
 simp only [] at hr
 obtain ⟨⟨⟨tk,tt,tn,ta⟩,p1⟩,e1⟩:∃ r,takeP L p 2 kE=r:=⟨_,rfl⟩
 rw [e1] at H1 k1 hr h3
 simp only [Tok.av] at H1 k1 hr h3
 have H2:=atype_c b L hL 302 (typeP L) (Type_c b L hL 302) Xh p1 k1
 have k2:=(atype_adv Xh k1).ok k1
 obtain ⟨⟨⟨hk,hs,hn,hl⟩,p2⟩,e2⟩:∃ r,atypeG L (typeP L) p1=r:=⟨_,rfl⟩
 rw [e2] at H2 k2 hr h3
 simp only [Ty.cells] at H2 k2 hr h3
 have HM:=may_eq (b:=b) hL h3
 have k3:=(ctx_adv k2).ok k2
 obtain ⟨⟨cxs,p3⟩,e3⟩:∃ r,ctxP L p2=r:=⟨_,rfl⟩
 rw [e3] at k3 hr
 simp only [] at k3 hr
 have e3:(if c18=true then ctxL L (L.length+1) (stepP p2) [] else ([],p2))=(cxs,p3):=by rw [← e3,ctxP,h3]
 have H4:=take_c b L hL p3 k3.1 6 kWhere
 have k4:=(Zo (kind:=6) (s:=kWhere) (by decide) k3).ok k3
 obtain ⟨⟨u4,p4⟩,e4⟩:∃ r,takeP L p3 6 kWhere=r:=⟨_,rfl⟩
 rw [e4] at H4 k4 hr
 simp only [] at H4 k4 hr
 obtain ⟨⟨bl,p5⟩,e5⟩:∃ r,insL L (L.length+1) p4 []=r:=⟨_,rfl⟩
 rw [e5] at hr
 simp only [] at hr
 refine Zc Tryz.func58 V (by kernel_rfl) V (Xz V) ?_
 refine Q237 ?_
 refine Q153 ?_;intro b2
 refine Q287 ?_
 refine Zb 9 V V V (Zi (xs:=[.tmp 8,.const (.int .i64 2),.const (.string ⟨#[]⟩)]) (i:=1) V V V (H1) by1 ?_)
 refine Q39 ?_;intro b3
 refine Q44 ?_
 refine Q241 ?_
 refine c_drawnEF [0,1,2,4,5,3,6,7,8] [3,7,8] [[],[0],[],[2],[],[4],[0,1,2,3,4,5],[],[0,1,2,3,4,5,6,7]] 7 (cs0:=[_,_,_,_,_,_,_,_]) Xl V V V V tz_122 V V (EOpsF.d 10 (none) (i:=0) V V V V V V (op_fieldAddr_m V tf_109_1 V ⟨V,V⟩) ?_)
 refine EOpsF.d 11 (some 0) (i:=1) V V V V V V (op_load_m1 (i:=0) V ta_9 V V V ⟨V,V⟩) ?_
 refine EOpsF.d 12 (none) (i:=2) V V V V V V (op_move V V ⟨V,V⟩) ?_
 refine EOpsF.d 14 (none) (i:=4) V V V V V V (op_fieldAddr_m V tf_109_3 V ⟨V,V⟩) ?_
 refine EOpsF.d 15 (some 0) (i:=5) V V V V V V (op_load_m1 (i:=0) V ta_3 V V V ⟨V,V⟩) ?_
 refine EOpsF.w 2 (i:=3) V V V V V V (Zi (xs:=[.tmp 12]) (i:=0) V V V (H2) by1 ⟨_,V,?_⟩)
 refine EOpsF.d 16 (none) (i:=6) V V V V V V (Zp (ns:=[0,1,4]) (xs:=[.tmp 11,.tmp 13,.tmp 15]) V tz_122 V tfl_122 V V V V ⟨V,V⟩) ?_
 refine EOpsF.free (i:=7) V V V ?_;intro b4
 refine EOpsF.w 3 (i:=8) V V V V V V (Zu (cs':=[_,_,_,_,_,_,_,_]) (i:=0) V ts_122 V V V V V (Xz V) V ⟨_,V,?_⟩)
 show AGo _ _ _ _ _ _ _
 refine Q469 ?_
 refine Zb 18 V V V (Zi (xs:=[.tmp 17,.const (.string ⟨#[102,114,111,109]⟩)]) (i:=2) V V V (HM) by1 ?_)
 refine Q226 ?_
 apply c_joink (rg [(1,1),(3,1),(5,39),(45,1),(57,1),(66,1)]) (σ:=Unit) (fun zz=>match zz with|z=>[]) (fun zz=>match zz with|z=>[.loc b3 (Tok.mk tk tt tn ta).av,.loc b2 zIn,.loc b (psC L p3),.loc b4 [.val (.string tt),.val (.int .i64 hk),.val (.string hs),.val (.int .i64 hn),.seq 4 (Ty.cellss hl),.seq 5 (Pr.cellss cxs),.val (.slice none 0 0),.val (.int .i64 ta)]]) (fun zz=>match zz with|z=>True)
 ·repeat' (first|exact Wc|apply Wa rfl|apply Wb rfl)
 ·skip
  rcases c18 with _|_
  ·refine Q411 ?_
   first
   | (rw [if_neg (by decide)] at e3;cases e3;exact ⟨(),trivial,by4,(Xp _ (Xp _ (Xp _ (Xr _ by0 (MLe.nil)))))⟩)
   | (have hu2:(acc,q)=(cxs,p3):=by
       cases mo with
       | false=>exact hu
       | true=>rw [if_pos rfl,ctxL_err (fun e=>g26 ⟨rfl,e⟩)] at hu;exact hu
      simp only [Prod.mk.injEq] at hu2
      obtain ⟨rfl,rfl⟩:=hu2
      exact ⟨(),trivial,by4,(Xp _ (Xp _ (Xp _ (Xr _ by0 (Xq _ (MLe.nil))))))⟩)
  refine Q302 ?_
  rw [if_pos rfl] at e3
  have kA:=(Yj k2 h3).ok k2
  refine Q332 ?_
  refine Yv 170 5 ?_
  apply Ym (rg [(1,1),(3,1),(5,39),(45,1),(57,1),(66,1)]) (σ:=PS × Nat × List Pr × Value × Bool) (fun zz=>match zz with|(q,f,acc,u,mo)=>[(5,.val (.bool mo))]) (fun zz=>match zz with|(q,f,acc,u,mo)=>[.loc b3 (Tok.mk tk tt tn ta).av,.loc b2 zIn,.loc b (psC L q),.loc b4 [.val (.string tt),.val (.int .i64 hk),.val (.string hs),.val (.int .i64 hn),.seq 4 (Ty.cellss hl),.own u 5 (Pr.cellss acc),.val (.slice none 0 0),.val (.int .i64 ta)],.own 170 5 u]) (fun zz=>match zz with|(q,f,acc,u,mo)=>POk L 302 q∧L.length - q.at_<f∧(mo=true→acc.length≤q.at_)∧(if mo=true then ctxL L f q acc else (acc,q))=(cxs,p3)) (fun zz=>match zz with|(q,f,acc,u,mo)=>2 * f+(if mo=true then 1 else 0)) ((stepP p2,L.length+1,[],.slice none 0 0,true))
  ·repeat' (first|exact Wc|apply Wa rfl|apply Wb rfl)
  ·exact ⟨kA,by omega,fun _=>Nat.zero_le _,e3⟩
  ·exact by4
  ·exact (Xp _ (Xp _ (Xp _ (Xr _ (Xv (Xt _) (Xv (Xt _) (Xv (Xt _) (Xv (Xt _) (Xv (Xt _) (Xv (Le.nilOwn 5) (Xu _))))))) (Xn _)))))
  rintro ⟨q,f,acc,u,mo⟩ hI
  try dsimp only [List.cons_append,List.nil_append] at hI ⊢
  obtain ⟨i1,i2,i3,hu⟩:=hI
  have hq1:=i1.1
  refine Q292 ?_
  refine Zy 26 (mo=true∧q.e=0) ?_ _ _ V ?_
  ·skip
   refine Q277 ?_
   have h20:(mo=true↔mo=true):=Iff.rfl
   rcases Za h20 with ⟨rfl,g20⟩|⟨rfl,g20⟩
   ·skip
    refine Q331 ?_
    refine Xx V ?_ by5 by3
    simp_all;done
   skip
   refine Q16 ?_
   refine Q171 ?_
   refine Q41 ?_
   refine Zq 24 V V V V V (op_load_m1 (i:=2) V ta_3 V V V ?_)
   refine Q38 ?_;intro c25 h25
   refine Q236 ?_
   refine Xx V ?_ by5 by3
   simp_all;done
  intro c26 h26
  refine Q1 ?_
  rcases Za h26 with ⟨rfl,g26⟩|⟨rfl,g26⟩
  ·refine Q248 ?_
   refine go_lp ?_
   first
   | (rw [if_neg (by decide)] at e3;cases e3;exact ⟨(),trivial,by4,(Xp _ (Xp _ (Xp _ (Xr _ by0 (MLe.nil)))))⟩)
   | (have hu2:(acc,q)=(cxs,p3):=by
       cases mo with
       | false=>exact hu
       | true=>rw [if_pos rfl,ctxL_err (fun e=>g26 ⟨rfl,e⟩)] at hu;exact hu
      simp only [Prod.mk.injEq] at hu2
      obtain ⟨rfl,rfl⟩:=hu2
      exact ⟨(),trivial,by4,(Xp _ (Xp _ (Xp _ (Xr _ by0 (Xq _ (MLe.nil))))))⟩)
  refine Q423 ?_
  obtain ⟨rfl,hq0⟩:=g26
  have i3:=i3 rfl
  have hle:(Pr.cellss acc).length≤200000:=by rw [Pr.cellss_len];omega
  rw [if_pos rfl] at hu
  obtain ⟨f,rfl⟩:∃ f',f=f'+1:=⟨f - 1,by omega⟩
  rw [ctxL,if_neg (by rw [hq0];simp)] at hu
  have HP:=take_c b L hL q i1.1 2 kE
  have l1:=(Zo (kind:=2) (s:=kE) (by decide) i1).ok i1
  have b1:=(Zo (L:=L) (kind:=2) (s:=kE) (by decide) i1).1
  obtain ⟨z,hz⟩:∃ z,predP L q=z:=⟨_,rfl⟩
  rw [hz] at hu
  unfold predP at hz
  obtain ⟨⟨⟨ck,ct,cn,ca⟩,q1⟩,f1⟩:∃ r,takeP L q 2 kE=r:=⟨_,rfl⟩
  rw [f1] at HP hz l1 b1
  simp only [Tok.av] at HP hz l1 b1
  have HV:=take_c b L hL q1 l1.1 1 kE
  have l2:=(Zo (kind:=1) (s:=kE) (by decide) l1).ok l1
  have b2':=(Zo (L:=L) (kind:=1) (s:=kE) (by decide) l1).1
  obtain ⟨⟨⟨vk,vt,vn,va⟩,q2⟩,f2⟩:∃ r,takeP L q1 1 kE=r:=⟨_,rfl⟩
  rw [f2] at HV l2 b2' hz
  simp only [Tok.av] at HV l2 b2' hz
  subst hz
  simp only [] at hu
  have l2a:=l2.1
  refine Q234 ?_
  refine Zb 28 V V V (Zi (xs:=[.tmp 27,.const (.int .i64 2),.const (.string ⟨#[]⟩)]) (i:=2) V V V (HP) by1 ?_)
  refine Zb 29 V V V (Xc (ft:=9) (fo:=1) V (by kernel_rfl) ta_9 V V ?_)
  refine Q271 ?_
  refine Zb 31 V V V (Zi (xs:=[.tmp 30,.const (.int .i64 1),.const (.string ⟨#[]⟩)]) (i:=2) V V V (HV) by1 ?_)
  refine Zb 32 V V V (Xc (ft:=9) (fo:=1) V (by kernel_rfl) ta_9 V V ?_)
  refine Q264 ?_
  refine Q11 ?_
  refine Q89 ?_
  refine Q277 ?_
  refine Zb 37 V V V (Zp (ns:=[0,1]) (xs:=[.const (.int .i64 1),.tmp 36]) V tz_24 V tfl_24 V V V V (Zb 38 V V V (Zp (ns:=[0,1]) (xs:=[.tmp 35,.tmp 37]) V tz_170 V tfl_170 V V V V (Zb 39 V V V (Zh (xs:=[.tmp 38]) el_120 V V V V V V (Xz V) (Zb 40 V V V (Zw (i:=4) el_120 V V V V (.seq _ _) by6 ?_)))))))
  intro u40
  refine Q11 ?_
  refine Ya V V (Zu (cs':=[_,_,_,_,_,_,_,_]) (i:=3) V ts_120 V V V V V (Xz V) V ?_)
  refine Q451 ?_
  refine Zb 43 V V V (op_mayc (xs:=[.tmp 42,.const (.string ⟨#[44]⟩)]) (i:=2) V V V (may_c b L hL q2 kComma) by1 ?_ ?_)
  ·intro g43
   refine Q418 ?_
   first
   | (rw [if_pos g43] at hu;have l4:=(Yj l2 g43).ok l2;have l5:=(is_lt g43).2;exact ⟨(stepP q2,f,acc++[Pr.mk ct (Ty.mk 1 vt 0 [])],u40,true),⟨l4,(by show L.length - (q2.at_+1)<f;omega),(fun _=>by show (acc++_).length≤q2.at_+1;rw [List.length_append];simp;omega),hu⟩,(by show 2 * f+1<2 * (f+1)+1;omega),Xw rfl (Xt _) by4,(Xp _ (Xp _ (Xp _ (Xr _ (Xv (Xt _) (Xv (Xt _) (Xv (Xt _) (Xv (Xt _) (Xv (Xt _) (Xv (preds_snoc acc ct vt) (Xu _))))))) (Xs rfl)))))⟩)
   | (rw [if_neg g43] at hu;exact ⟨(q2,f+1,acc++[Pr.mk ct (Ty.mk 1 vt 0 [])],u40,false),⟨l2,(by show L.length - q2.at_<f+1;omega),(fun h=>by cases h),hu⟩,(by show 2 * (f+1)+0<2 * (f+1)+1;omega),Xw rfl (Xt _) by4,(Xp _ (Xp _ (Xp _ (Xr _ (Xv (Xt _) (Xv (Xt _) (Xv (Xt _) (Xv (Xt _) (Xv (Xt _) (Xv (preds_snoc acc ct vt) (Xu _))))))) (Xs rfl)))))⟩)
  intro g43
  refine Q418 ?_
  first
  | (rw [if_pos g43] at hu;have l4:=(Yj l2 g43).ok l2;have l5:=(is_lt g43).2;exact ⟨(stepP q2,f,acc++[Pr.mk ct (Ty.mk 1 vt 0 [])],u40,true),⟨l4,(by show L.length - (q2.at_+1)<f;omega),(fun _=>by show (acc++_).length≤q2.at_+1;rw [List.length_append];simp;omega),hu⟩,(by show 2 * f+1<2 * (f+1)+1;omega),Xw rfl (Xt _) by4,(Xp _ (Xp _ (Xp _ (Xr _ (Xv (Xt _) (Xv (Xt _) (Xv (Xt _) (Xv (Xt _) (Xv (Xt _) (Xv (preds_snoc acc ct vt) (Xu _))))))) (Xs rfl)))))⟩)
  | (rw [if_neg g43] at hu;exact ⟨(q2,f+1,acc++[Pr.mk ct (Ty.mk 1 vt 0 [])],u40,false),⟨l2,(by show L.length - q2.at_<f+1;omega),(fun h=>by cases h),hu⟩,(by show 2 * (f+1)+0<2 * (f+1)+1;omega),Xw rfl (Xt _) by4,(Xp _ (Xp _ (Xp _ (Xr _ (Xv (Xt _) (Xv (Xt _) (Xv (Xt _) (Xv (Xt _) (Xv (Xt _) (Xv (preds_snoc acc ct vt) (Xu _))))))) (Xs rfl)))))⟩)
 rintro z hI
 try dsimp only [List.cons_append,List.nil_append] at hI ⊢
 refine Q464 ?_
 refine Zb 45 V V V (Zi (xs:=[.tmp 44,.const (.int .i64 6),.const (.string ⟨#[119,104,101,114,101]⟩)]) (i:=2) V V V (H4) by1 ?_)
 refine Q406 ?_
 refine Yv 130 13 ?_
 apply Ym (rg [(1,1),(3,1),(5,62)]) (σ:=PS × Nat × List Bi × Value) (fun zz=>match zz with|(q,f,bs,v)=>[]) (fun zz=>match zz with|(q,f,bs,v)=>[.loc b3 (Tok.mk tk tt tn ta).av,.loc b2 zIn,.loc b (psC L q),.loc b4 [.val (.string tt),.val (.int .i64 hk),.val (.string hs),.val (.int .i64 hn),.seq 4 (Ty.cellss hl),.seq 5 (Pr.cellss cxs),.own v 13 (Bi.cellss bs),.val (.int .i64 ta)],.own 130 13 v]) (fun zz=>match zz with|(q,f,bs,v)=>POk L 302 q∧(q.e=0→L.length - q.at_<f∧bs.length≤q.at_)∧insL L f q bs=(bl,p5)) (fun zz=>match zz with|(q,f,bs,v)=>f) ((p4,L.length+1,[],.slice none 0 0))
 ·repeat' (first|exact Wc|apply Wa rfl|apply Wb rfl)
 ·exact ⟨k4,fun _=>⟨by omega,Nat.zero_le _⟩,e5⟩
 ·exact by4
 ·exact (Xp _ (Xp _ (Xp _ (Xr _ (Xv (Xt _) (Xv (Xt _) (Xv (Xt _) (Xv (Xt _) (Xv (Xt _) (Xv (Xt _) (Xv (Le.nilOwn 13) (Xu _)))))))) (Xn _)))))
 rintro ⟨q,f,bs,v⟩ hI
 try dsimp only [List.cons_append,List.nil_append] at hI ⊢
 obtain ⟨i1,i2,hu⟩:=hI
 have hq1:=i1.1
 refine Q261 ?_
 refine Q421 ?_
 refine Q17 ?_;intro c50 h50
 refine Q5 ?_
 rcases Za h50 with ⟨rfl,g50⟩|⟨rfl,g50⟩
 ·skip
  refine Q279 ?_
  refine Q456 ?_
  refine Q296 ?_
  refine Q219 ?_
  refine Q220 ?_
  refine Q257 ?_
  first
  | (rw [insL_err g50] at hu;cases hu;subst hr;exact Zj (i:=1) rfl rfl rfl ta_122 rfl by0 (Xq _ (Xq _ (Xp _ (Xo _)))) ⟨rfl,rfl⟩)
  | (obtain ⟨f,rfl⟩:∃ f',f=f'+1:=⟨f - 1,by have:=(i2 g50).1;omega⟩;rw [insL_end g50 g53] at hu;cases hu;subst hr;exact Zj (i:=1) rfl rfl rfl ta_122 rfl by0 (Xq _ (Xq _ (Xp _ (Xo _)))) ⟨rfl,rfl⟩)
 skip
 refine Q16 ?_
 refine Zq 53 V V V V V (op_mayc (xs:=[.tmp 52,.const (.string ⟨#[101,110,100]⟩)]) (i:=2) V V V (may_c b L hL q kEnd) by1 ?_ ?_)
 ·intro g53
  refine Q67 ?_;intro c54 h54
  try replace h54:=Yo h54 h53
  obtain rfl:c54=false:=by
   cases c54 with
   | false=>rfl
   | true=>exact absurd (h54.1 rfl) (by decide)
  refine Q456 ?_
  refine Q296 ?_
  refine Q219 ?_
  refine Q220 ?_
  refine Q257 ?_
  first
  | (rw [insL_err g50] at hu;cases hu;subst hr;exact Zj (i:=1) rfl rfl rfl ta_122 rfl by0 (Xq _ (Xq _ (Xp _ (Xo _)))) ⟨rfl,rfl⟩)
  | (obtain ⟨f,rfl⟩:∃ f',f=f'+1:=⟨f - 1,by have:=(i2 g50).1;omega⟩;rw [insL_end g50 g53] at hu;cases hu;subst hr;exact Zj (i:=1) rfl rfl rfl ta_122 rfl by0 (Xq _ (Xq _ (Xp _ (Xo _)))) ⟨rfl,rfl⟩)
 intro g53
 refine Q67 ?_;intro c54 h54
 try replace h54:=Yo h54 h53
 obtain rfl:c54=true:=h54.2 rfl
 refine Q456 ?_
 refine Q423 ?_
 obtain ⟨i3,i4⟩:=i2 g50
 have hl2:(Bi.cellss bs).length≤200000:=by rw [Bi.cellss_len];omega
 obtain ⟨f,rfl⟩:∃ f',f=f'+1:=⟨f - 1,by omega⟩
 rw [insL,if_neg (by rw [g50];simp),if_neg g53] at hu
 have HD:=take_c b L hL q hq1 6 kDef
 have l1:=(Zo (kind:=6) (s:=kDef) (by decide) i1).ok i1
 have b1:=(Zo (L:=L) (kind:=6) (s:=kDef) (by decide) i1).1
 obtain ⟨⟨u7,q1⟩,f1⟩:∃ r,takeP L q 6 kDef=r:=⟨_,rfl⟩
 rw [f1] at HD l1 b1 hu
 simp only [] at HD l1 b1 hu
 have HB:=bindP_c b L hL q1 l1
 have l2:=(bindP_adv l1).ok l1
 have b2':=(bindP_adv l1).1
 obtain ⟨⟨⟨bn,⟨xk,xs,xn,⟨xtk,xts,xtn,xtl⟩,xks,xal,xbs,xp⟩,bp⟩,q2⟩,f2⟩:∃ r,bindP L q1=r:=⟨_,rfl⟩
 rw [f2] at HB l2 b2' hu
 simp only [Bi.cells,Ex.cells,Ty.cells,List.cons_append,List.nil_append] at HB l2 b2' hu
 have HS:=take_c b L hL q2 l2.1 7 kSemi
 have hpr:=take_prog (L:=L) (p:=q2) (kind:=7) (s:=kSemi) (by decide)
 have l5:=(Zo (kind:=7) (s:=kSemi) (by decide) l2).ok l2
 obtain ⟨⟨u6,q5⟩,f5⟩:∃ r,takeP L q2 7 kSemi=r:=⟨_,rfl⟩
 rw [f5] at HS hpr l5 hu
 simp only [Prod.mk.injEq] at HS hpr l5 hu
 refine Q234 ?_
 refine Zb 57 V V V (Zi (xs:=[.tmp 56,.const (.int .i64 6),.const (.string ⟨#[100,101,102]⟩)]) (i:=2) V V V (HD) by1 ?_)
 refine Q241 ?_
 refine Q77 ?_
 refine Q27 ?_
 refine Q218 ?_
 refine Q24 ?_
 refine Yf 2 (i:=3) V V V V V (Zi (xs:=[.tmp 60]) (i:=0) V V V (HB) by1 ⟨_,V,?_⟩)
 refine Zm 62 (none) (i:=4) V V V V V (Zh (xs:=[.tmp 61]) el_79 V V V V V V (Xz V) ⟨V,V⟩) ?_
 refine Yf 4 (i:=5) V V V V V (Zw (i:=0) el_79 V V V V (.seq _ _) by6 (fun u63=>⟨_,V,?_⟩))
 refine Q27 ?_
 refine Yf 3 (i:=7) V V V V V (Zu (cs':=[_,_,_,_,_,_,_,_]) (i:=0) V ts_79 V V V V V (Xz V) V ⟨_,V,?_⟩)
 show AGo _ _ _ _ _ _ _
 refine Q563 ?_
 refine Zb 66 V V V (Zi (xs:=[.tmp 65,.const (.int .i64 7),.const (.string ⟨#[59]⟩)]) (i:=2) V V V (HS) by1 ?_)
 refine Q365 ?_
 exact ⟨(q5,f,bs++[Bi.mk bn (Ex.mk xk xs xn (Ty.mk xtk xts xtn xtl) xks xal xbs xp) bp],u63),⟨l5,(fun e=>by obtain ⟨⟨_,h5⟩,_,h6⟩:=hpr e;rw [h5];refine ⟨?_,?_⟩;(show L.length - (q2.at_+1)<f;omega);(show (bs++_).length≤q2.at_+1;rw [List.length_append];simp;omega)),hu⟩,Nat.lt_succ_self f,by4,(Xp _ (Xp _ (Xp _ (Xr _ (Xv (Xt _) (Xv (Xt _) (Xv (Xt _) (Xv (Xt _) (Xv (Xt _) (Xv (Xt _) (Xv (Xy by9) (Xu _)))))))) (Xs rfl)))))⟩
theorem inst_c (b:Nat) (L:List Tok) (hL:L.length≤100000) (p:PS) (k:POk L 302 p):MCall Tryz.prog 58 [.ptr b 0] (.loc b (psC L p)) (.agg (instP L p).1.cells) (.loc b (psC L (instP L p).2)):=inst_b b L hL p k _ rfl
theorem begin_c (s:ByteArray):ACall Tryz.prog 53 [.val (.string s)] [] (fun v M'=>∃ b,v=.ptr b 0∧M'=[.loc b (psC (scanT s).1 (beginP (scanT s)))]):=by
 have HS:=Scan_c s
 obtain ⟨⟨L,e,w⟩,hs⟩:∃ r,scanT s=r:=⟨_,rfl⟩
 rw [hs] at HS ⊢
 have HF:=fun b=>fail_c b L ⟨0,0,0,0⟩ e w
 unfold beginP
 simp only [scanR] at HS ⊢
 refine Zc Tryz.func53 V (by kernel_rfl) V (Xz V) ?_
 refine Q438 ?_
 refine Zb 9 V V V (Zd (xs:=[.tmp 8]) V V (HS) by1 ?_)
 refine Q475 ?_
 refine Q6 ?_
 refine Q271 ?_
 refine Zb 14 V V V (Zp (ns:=[0]) (xs:=[.tmp 13]) V tz_107 V tfl_107 V V V V (Zb 15 V V V (op_boxe (cs':=[_,_,_,_,_]) V V V V ?_)));intro b15
 refine Q275 ?_
 refine Q34 ?_;intro c17 h17
 refine Q226 ?_
 rcases Za h17 with ⟨rfl,g17⟩|⟨rfl,g17⟩
 ·refine Q321 ?_
  refine Q232 ?_
  first
  | (rw [if_pos g17];exact Zf rfl rfl (Xt _) (Xs rfl) ⟨b15,rfl,rfl⟩)
  | (rw [if_neg g17];exact Zf rfl rfl (Xt _) (Xs rfl) ⟨b15,rfl,rfl⟩)
 refine Q9 ?_
 refine Q327 ?_
 refine Zb 21 V V V (Zi (xs:=[.tmp 18,.tmp 19,.tmp 20]) (i:=0) V V V (HF b15) by1 ?_)
 refine Q287 ?_
 refine Q232 ?_
 first
 | (rw [if_pos g17];exact Zf rfl rfl (Xt _) (Xs rfl) ⟨b15,rfl,rfl⟩)
 | (rw [if_neg g17];exact Zf rfl rfl (Xt _) (Xs rfl) ⟨b15,rfl,rfl⟩)
theorem progL_end {L:List Tok} {f:Nat} {p:PS} {x:Pg} (h:p.e≠0∨(nxt L p).k=0):progL L f p x=(x,p):=by
 cases f with
 | zero=>rfl
 | succ f=>rw [progL,if_pos h]
theorem Da.cellss_app' (a b:List Da):Da.cellss (a++b)=Da.cellss a++Da.cellss b:=by simp [Da.cellss]
theorem Cl.cellss_app' (a b:List Cl):Cl.cellss (a++b)=Cl.cellss a++Cl.cellss b:=by simp [Cl.cellss]
theorem In.cellss_app' (a b:List In):In.cellss (a++b)=In.cellss a++In.cellss b:=by simp [In.cellss]
abbrev zPg:List AV:=[.val (.slice none 0 0),.val (.slice none 0 0),.val (.slice none 0 0),.val (.slice none 0 0)]
def progR (o:Pg × Int × Int):AV:=.tup [.agg o.1.cells,.val (.int .i64 o.2.1),.val (.int .i64 o.2.2)]
theorem begin_ok (s:ByteArray):POk (scanT s).1 302 (beginP (scanT s)):=by
 have h:∀ e w,POk (scanT s).1 302 (failP ⟨0,0,0,0⟩ e w):=fun e w=>by
  unfold failP
  refine ⟨?_,?_,?_,fun _=>⟨?_,?_⟩⟩ <;> simp
 unfold beginP
 split
 ·exact h _ _
 refine ⟨?_,?_,?_,fun _=>⟨?_,?_⟩⟩ <;> simp
theorem Prog_c (s:ByteArray):PCall Tryz.prog 37 [.val (.string s)] (progR (progT s)):=by
 have HB:=begin_c s
 have hL:=scanT_len s
 have k0:=begin_ok s
 obtain ⟨r,hr⟩:∃ r,progT s=r:=⟨_,rfl⟩
 rw [hr]
 unfold progT at hr
 simp only [] at hr
 obtain ⟨L,hLe⟩:∃ L,(scanT s).1=L:=⟨_,rfl⟩
 obtain ⟨p0,hp0⟩:∃ p,beginP (scanT s)=p:=⟨_,rfl⟩
 rw [hLe,hp0] at HB k0 hr
 rw [hLe] at hL
 have hL:L.length≤100000:=by omega
 obtain ⟨⟨⟨fd,fc,fi,fb⟩,p9⟩,e9⟩:∃ r,progL L (L.length+1) p0 pg0=r:=⟨_,rfl⟩
 rw [e9] at hr
 simp only [] at hr
 refine Zc Tryz.func37 V (by kernel_rfl) V (Xz V) ?_
 refine Q237 ?_
 refine Q173 ?_;intro b2
 refine Q6 ?_
 refine Q271 ?_
 refine Zb 8 V V V (op_callat [] (xs:=[.tmp 7]) V V V (HB) by1 ?_)
 rintro v M' ⟨b,rfl,rfl⟩
 refine Q264 ?_
 refine Zb 9 V V V (Zp (ns:=[]) (xs:=[]) V tz_81 V tfl_81 V V V V ?_)
 refine Q173 ?_;intro b6
 refine Q221 ?_
 refine Q406 ?_
 refine Yv 114 5 (Yv 118 6 (Yv 122 8 (Yv 130 13 ?_)))
 apply Ym (rg [(0,2),(7,52)]) (σ:=PS × Nat × Pg × Value × Value × Value × Value) (fun zz=>match zz with|(q,f,Pg.mk da cl ins bs,u1,u2,u3,u4)=>[]) (fun zz=>match zz with|(q,f,Pg.mk da cl ins bs,u1,u2,u3,u4)=>[.loc b6 [.own u1 5 (Da.cellss da),.own u2 6 (Cl.cellss cl),.own u3 8 (In.cellss ins),.own u4 13 (Bi.cellss bs)],.loc b (psC L q),.loc b2 zPg,.own 114 5 u1,.own 118 6 u2,.own 122 8 u3,.own 130 13 u4]) (fun zz=>match zz with|(q,f,Pg.mk da cl ins bs,u1,u2,u3,u4)=>POk L 302 q∧(q.e=0→L.length - q.at_<f∧da.length+cl.length+ins.length+bs.length≤q.at_)∧progL L f q (Pg.mk da cl ins bs)=(Pg.mk fd fc fi fb,p9)) (fun zz=>match zz with|(q,f,Pg.mk da cl ins bs,u1,u2,u3,u4)=>f) ((p0,L.length+1,Pg.mk [] [] [] [],.slice none 0 0,.slice none 0 0,.slice none 0 0,.slice none 0 0))
 ·repeat' (first|exact Wc|apply Wa rfl|apply Wb rfl)
 ·exact ⟨k0,fun _=>⟨by omega,Nat.zero_le _⟩,e9⟩
 ·exact by4
 ·exact (Xr _ (Xv (Le.nilOwn 5) (Xv (Le.nilOwn 6) (Xv (Le.nilOwn 8) (Xv (Le.nilOwn 13) (Xu _))))) (Xs V))
 rintro ⟨q,f,⟨da,cl,ins,bs⟩,u1,u2,u3,u4⟩ hI
 try dsimp only [List.cons_append,List.nil_append] at hI ⊢
 obtain ⟨i1,i2,hu⟩:=hI
 have hq1:=i1.1
 have HN:=next_c b L q
 have hend:=fun h=>progL_end (L:=L) (f:=f) (p:=q) (x:=Pg.mk da cl ins bs) h
 obtain ⟨⟨qk,qt,qn,qa⟩,hqt⟩:∃ t,nxt L q=t:=⟨_,rfl⟩
 have hgo:∀ f x,q.e=0→qk≠0→progL L (f+1) q x=progL L f (takeP L (declP L q x).2 7 kSemi).2 (declP L q x).1:=fun f x h1 h2=>by
  rw [progL,hqt,if_neg (fun h=>by rcases h with h|h;exact h h1;exact h2 h)]
 rw [hqt] at HN hend
 simp only [Tok.av] at HN hend
 refine Q292 ?_
 refine Zy 20 (q.e=0∧qk≠0) ?_ _ _ V ?_
 ·skip
  refine Q5 ?_
  refine Q435 ?_
  refine Q17 ?_;intro c14 h14
  refine Q5 ?_
  rcases Za h14 with ⟨rfl,g14⟩|⟨rfl,g14⟩
  ·skip
   refine Q376 ?_
   refine Xx V ?_ by5 by3
   clear HN hend hgo HB;first|(simp_all;done)|grind
  skip
  refine Q16 ?_
  refine Zq 17 V V V V V (Yw (xs:=[.tmp 16]) [1] V V V (HN) by1 ?_)
  refine Zq 18 V V V V V (Xc (ft:=3) (fo:=0) V (by kernel_rfl) ta_3 V V ?_)
  refine Q66 ?_;intro c19 h19
  refine Q236 ?_
  refine Xx V ?_ by5 by3
  clear HN hend hgo HB;first|(simp_all;done)|grind
 intro c20 h20
 refine Q1 ?_
 rcases Za h20 with ⟨rfl,g20⟩|⟨rfl,g20⟩
 ·refine Q347 ?_
  have hx2:q.e≠0∨qk=0:=by
   rcases Classical.em (q.e=0) with h|h
   ·exact .inr (Classical.not_not.1 fun h2=>g20 ⟨h,h2⟩)
   exact .inl h
  rw [hend hx2] at hu
  cases hu
  refine Q234 ?_
  refine Q453 ?_;intro c63 h63
  refine Q226 ?_
  rcases Za h63 with ⟨rfl,g63⟩|⟨rfl,g63⟩
  ·refine Q289 ?_
   refine Zb 73 V V V (Yc (cs':=[_,_,_,_]) (i:=0) V ta_81 V V V V (Ya V V (Zu (cs':=[_,_,_,_]) (i:=2) V ts_81 V V V V V (Xz V) V ?_)))
   refine Q253 ?_
   rw [if_neg g63] at hr;subst hr;exact Zt (i:=2) rfl rfl rfl rfl rfl ta_81 rfl by0 (Xo _) ⟨rfl,rfl⟩
  refine Q302 ?_
  refine Yp [0,1,2,3,4,5,6,7,8,9,10,11] [9] [[],[],[1],[1,2],[1,2,3],[],[5],[5,6],[5,6,7],[0],[0,1,2,3,4,9],[0,1,2,3,4,5,6,7,8,9,10]] Xl V (Zm 64 (none) (i:=0) V V V V V (Zp (ns:=[]) (xs:=[]) V tz_81 V tfl_81 V V V V ⟨V,V⟩) ?_)
  refine Q24 ?_
  refine Q137 ?_
  refine Q433 ?_
  refine Q24 ?_
  refine Q137 ?_
  refine Q433 ?_
  refine Yf 2 (i:=9) V V V V V (Zu (cs':=[_,_,_,_]) (i:=0) V ts_81 V V V V V (Xz V) V ⟨_,V,?_⟩)
  refine Q58 ?_
  refine Q58 ?_
  show AGo _ _ _ _ _ _ _
  refine Q303 ?_
  rw [if_pos g63] at hr;subst hr;exact Zt (i:=2) rfl rfl rfl rfl rfl ta_81 rfl by0 (Xo _) ⟨rfl,rfl⟩
 refine Q330 ?_
 refine Q292 ?_
 obtain ⟨i3,i4⟩:=i2 g20.1
 have hl1:(Da.cellss da).length≤200000:=by rw [Da.cellss_len];omega
 have hl2:(Cl.cellss cl).length≤200000:=by rw [Cl.cellss_len];omega
 have hl3:(In.cellss ins).length≤200000:=by rw [In.cellss_len];omega
 have hl4:(Bi.cellss bs).length≤200000:=by rw [Bi.cellss_len];omega
 obtain ⟨f,rfl⟩:∃ f',f=f'+1:=⟨f - 1,by omega⟩
 rw [hgo f _ g20.1 g20.2] at hu
 have l2:=(decl_adv (Pg.mk da cl ins bs) i1).ok i1
 have b2':=(decl_adv (Pg.mk da cl ins bs) i1).1
 obtain ⟨⟨x,q2⟩,hx⟩:∃ r,declP L q (Pg.mk da cl ins bs)=r:=⟨_,rfl⟩
 have hx0:=hx
 unfold declP at hx
 rw [hx0] at hu l2 b2'
 simp only [Pg.da,Pg.cl,Pg.ins,Pg.bs] at hu l2 b2' hx
 have HS:=take_c b L hL q2 l2.1 7 kSemi
 have hpr:=take_prog (L:=L) (p:=q2) (kind:=7) (s:=kSemi) (by decide)
 have l5:=(Zo (kind:=7) (s:=kSemi) (by decide) l2).ok l2
 obtain ⟨⟨u6,q5⟩,f5⟩:∃ r,takeP L q2 7 kSemi=r:=⟨_,rfl⟩
 rw [f5] at HS hpr l5 hu
 simp only [Prod.mk.injEq] at HS hpr l5 hu
 refine Q234 ?_
 refine Zb 22 V V V (op_mayc (xs:=[.tmp 21,.const (.string ⟨#[100,97,116,97]⟩)]) (i:=1) V V V (may_c b L hL q kData) by1 ?_ ?_)
 ·intro g22
  refine Q522 ?_
  rw [if_pos g22] at hx
  have HX:=data_c b L hL (stepP q) ((Yj i1 g22).ok i1)
  obtain ⟨⟨⟨xs,xps,xcs,xdv,xp⟩,q3⟩,e3⟩:∃ r,dataP L (stepP q)=r:=⟨_,rfl⟩
  rw [e3] at HX hx
  cases hx
  refine Q398 ?_
  refine Yf 1 (i:=3) V V V V V (Zi (xs:=[.tmp 25]) (i:=0) V V V (HX) by1 ⟨_,V,?_⟩)
  refine Zm 27 (none) (i:=4) V V V V V (Zh (xs:=[.tmp 26]) el_37 V V V V V V (Xz V) ⟨V,V⟩) ?_
  refine Yf 3 (i:=5) V V V V V (Zw (i:=0) el_37 V V V V (.seq _ _) by6 (fun u28=>⟨_,V,?_⟩))
  refine Q27 ?_
  refine Yf 0 (i:=7) V V V V V (Zu (cs':=[_,_,_,_]) (i:=0) V ts_37 V V V V V (Xz V) V ⟨_,V,?_⟩)
  show AGo _ _ _ _ _ _ _
  refine Q563 ?_
  refine Zb 58 V V V (Zi (xs:=[.tmp 57,.const (.int .i64 7),.const (.string ⟨#[59]⟩)]) (i:=1) V V V (HS) by1 ?_)
  refine Q365 ?_
  first
  | exact ⟨(q5,f,Pg.mk (da++[Da.mk xs xps xcs xdv xp]) cl ins bs,u28,u2,u3,u4),⟨l5,(fun e=>by obtain ⟨⟨_,h5⟩,_,h6⟩:=hpr e;have b3:q.at_≤q3.at_:=b2';rw [h5];simp only [stepP,List.length_append,List.length_singleton];omega),hu⟩,Nat.lt_succ_self f,by4,(Xr _ (Xv (Xy (by rw [Da.cellss_app'];rfl)) (Xu _)) (Xs rfl))⟩
  | exact ⟨(q5,f,Pg.mk da (cl++[Cl.mk xs xv xsu xms xds xp]) ins bs,u1,u37,u3,u4),⟨l5,(fun e=>by obtain ⟨⟨_,h5⟩,_,h6⟩:=hpr e;have b3:q.at_≤q3.at_:=b2';rw [h5];simp only [stepP,List.length_append,List.length_singleton];omega),hu⟩,Nat.lt_succ_self f,by4,(Xr _ (Xv (Xt _) (Xv (Xy (by rw [Cl.cellss_app'];rfl)) (Xu _))) (Xs rfl))⟩
  | exact ⟨(q5,f,Pg.mk da cl (ins++[In.mk xc (Ty.mk xhk xhs xhn xhl) xcx xbs xp]) bs,u1,u2,u46,u4),⟨l5,(fun e=>by obtain ⟨⟨_,h5⟩,_,h6⟩:=hpr e;have b3:q.at_≤q3.at_:=b2';rw [h5];simp only [stepP,List.length_append,List.length_singleton];omega),hu⟩,Nat.lt_succ_self f,by4,(Xr _ (Xv (Xt _) (Xv (Xt _) (Xv (Xy (by rw [In.cellss_app'];rfl)) (Xu _)))) (Xs rfl))⟩
  | exact ⟨(q5,f,Pg.mk da cl ins (bs++[Bi.mk bn (Ex.mk xk xs xn (Ty.mk xtk xts xtn xtl) xks xal xbs xp) bp]),u1,u2,u3,u55),⟨l5,(fun e=>by obtain ⟨⟨_,h5⟩,_,h6⟩:=hpr e;have b3:q.at_≤q3.at_:=b2';rw [h5];simp only [stepP,List.length_append,List.length_singleton];omega),hu⟩,Nat.lt_succ_self f,by4,(Xr _ (Xv (Xt _) (Xv (Xt _) (Xv (Xt _) (Xv (Xy by9) (Xu _))))) (Xs rfl))⟩
 intro g22
 refine Q226 ?_
 refine Q513 ?_
 refine Zb 31 V V V (op_mayc (xs:=[.tmp 30,.const (.string ⟨#[99,108,97,115,115]⟩)]) (i:=1) V V V (may_c b L hL q kClass) by1 ?_ ?_)
 ·intro g31
  refine Q522 ?_
  rw [if_neg g22,if_pos g31] at hx
  have HX:=class_c b L hL (stepP q) ((Yj i1 g31).ok i1)
  obtain ⟨⟨⟨xs,xv,xsu,xms,xds,xp⟩,q3⟩,e3⟩:∃ r,classP L (stepP q)=r:=⟨_,rfl⟩
  rw [e3] at HX hx
  cases hx
  refine Q398 ?_
  refine Yf 1 (i:=3) V V V V V (Zi (xs:=[.tmp 34]) (i:=0) V V V (HX) by1 ⟨_,V,?_⟩)
  refine Zm 36 (none) (i:=4) V V V V V (Zh (xs:=[.tmp 35]) el_38 V V V V V V (Xz V) ⟨V,V⟩) ?_
  refine Yf 4 (i:=5) V V V V V (Zw (i:=0) el_38 V V V V (.seq _ _) by6 (fun u37=>⟨_,V,?_⟩))
  refine Q27 ?_
  refine Yf 0 (i:=7) V V V V V (Zu (cs':=[_,_,_,_]) (i:=0) V ts_38 V V V V V (Xz V) V ⟨_,V,?_⟩)
  show AGo _ _ _ _ _ _ _
  refine Q563 ?_
  refine Zb 58 V V V (Zi (xs:=[.tmp 57,.const (.int .i64 7),.const (.string ⟨#[59]⟩)]) (i:=1) V V V (HS) by1 ?_)
  refine Q365 ?_
  first
  | exact ⟨(q5,f,Pg.mk (da++[Da.mk xs xps xcs xdv xp]) cl ins bs,u28,u2,u3,u4),⟨l5,(fun e=>by obtain ⟨⟨_,h5⟩,_,h6⟩:=hpr e;have b3:q.at_≤q3.at_:=b2';rw [h5];simp only [stepP,List.length_append,List.length_singleton];omega),hu⟩,Nat.lt_succ_self f,by4,(Xr _ (Xv (Xy (by rw [Da.cellss_app'];rfl)) (Xu _)) (Xs rfl))⟩
  | exact ⟨(q5,f,Pg.mk da (cl++[Cl.mk xs xv xsu xms xds xp]) ins bs,u1,u37,u3,u4),⟨l5,(fun e=>by obtain ⟨⟨_,h5⟩,_,h6⟩:=hpr e;have b3:q.at_≤q3.at_:=b2';rw [h5];simp only [stepP,List.length_append,List.length_singleton];omega),hu⟩,Nat.lt_succ_self f,by4,(Xr _ (Xv (Xt _) (Xv (Xy (by rw [Cl.cellss_app'];rfl)) (Xu _))) (Xs rfl))⟩
  | exact ⟨(q5,f,Pg.mk da cl (ins++[In.mk xc (Ty.mk xhk xhs xhn xhl) xcx xbs xp]) bs,u1,u2,u46,u4),⟨l5,(fun e=>by obtain ⟨⟨_,h5⟩,_,h6⟩:=hpr e;have b3:q.at_≤q3.at_:=b2';rw [h5];simp only [stepP,List.length_append,List.length_singleton];omega),hu⟩,Nat.lt_succ_self f,by4,(Xr _ (Xv (Xt _) (Xv (Xt _) (Xv (Xy (by rw [In.cellss_app'];rfl)) (Xu _)))) (Xs rfl))⟩
  | exact ⟨(q5,f,Pg.mk da cl ins (bs++[Bi.mk bn (Ex.mk xk xs xn (Ty.mk xtk xts xtn xtl) xks xal xbs xp) bp]),u1,u2,u3,u55),⟨l5,(fun e=>by obtain ⟨⟨_,h5⟩,_,h6⟩:=hpr e;have b3:q.at_≤q3.at_:=b2';rw [h5];simp only [stepP,List.length_append,List.length_singleton];omega),hu⟩,Nat.lt_succ_self f,by4,(Xr _ (Xv (Xt _) (Xv (Xt _) (Xv (Xt _) (Xv (Xy by9) (Xu _))))) (Xs rfl))⟩
 intro g31
 refine Q226 ?_
 refine Q513 ?_
 refine Zb 40 V V V (op_mayc (xs:=[.tmp 39,.const (.string ⟨#[105,110,115,116,97,110,99,101]⟩)]) (i:=1) V V V (may_c b L hL q kInst) by1 ?_ ?_)
 ·intro g40
  refine Q522 ?_
  rw [if_neg g22,if_neg g31,if_pos g40] at hx
  have HX:=inst_c b L hL (stepP q) ((Yj i1 g40).ok i1)
  obtain ⟨⟨⟨xc,⟨xhk,xhs,xhn,xhl⟩,xcx,xbs,xp⟩,q3⟩,e3⟩:∃ r,instP L (stepP q)=r:=⟨_,rfl⟩
  rw [e3] at HX hx
  simp only [In.cells,Ty.cells,List.cons_append,List.nil_append] at HX
  cases hx
  refine Q398 ?_
  refine Yf 1 (i:=3) V V V V V (Zi (xs:=[.tmp 43]) (i:=0) V V V (HX) by1 ⟨_,V,?_⟩)
  refine Zm 45 (none) (i:=4) V V V V V (Zh (xs:=[.tmp 44]) el_39 V V V V V V (Xz V) ⟨V,V⟩) ?_
  refine Yf 5 (i:=5) V V V V V (Zw (i:=0) el_39 V V V V (.seq _ _) by6 (fun u46=>⟨_,V,?_⟩))
  refine Q27 ?_
  refine Yf 0 (i:=7) V V V V V (Zu (cs':=[_,_,_,_]) (i:=0) V ts_39 V V V V V (Xz V) V ⟨_,V,?_⟩)
  show AGo _ _ _ _ _ _ _
  refine Q563 ?_
  refine Zb 58 V V V (Zi (xs:=[.tmp 57,.const (.int .i64 7),.const (.string ⟨#[59]⟩)]) (i:=1) V V V (HS) by1 ?_)
  refine Q365 ?_
  first
  | exact ⟨(q5,f,Pg.mk (da++[Da.mk xs xps xcs xdv xp]) cl ins bs,u28,u2,u3,u4),⟨l5,(fun e=>by obtain ⟨⟨_,h5⟩,_,h6⟩:=hpr e;have b3:q.at_≤q3.at_:=b2';rw [h5];simp only [stepP,List.length_append,List.length_singleton];omega),hu⟩,Nat.lt_succ_self f,by4,(Xr _ (Xv (Xy (by rw [Da.cellss_app'];rfl)) (Xu _)) (Xs rfl))⟩
  | exact ⟨(q5,f,Pg.mk da (cl++[Cl.mk xs xv xsu xms xds xp]) ins bs,u1,u37,u3,u4),⟨l5,(fun e=>by obtain ⟨⟨_,h5⟩,_,h6⟩:=hpr e;have b3:q.at_≤q3.at_:=b2';rw [h5];simp only [stepP,List.length_append,List.length_singleton];omega),hu⟩,Nat.lt_succ_self f,by4,(Xr _ (Xv (Xt _) (Xv (Xy (by rw [Cl.cellss_app'];rfl)) (Xu _))) (Xs rfl))⟩
  | exact ⟨(q5,f,Pg.mk da cl (ins++[In.mk xc (Ty.mk xhk xhs xhn xhl) xcx xbs xp]) bs,u1,u2,u46,u4),⟨l5,(fun e=>by obtain ⟨⟨_,h5⟩,_,h6⟩:=hpr e;have b3:q.at_≤q3.at_:=b2';rw [h5];simp only [stepP,List.length_append,List.length_singleton];omega),hu⟩,Nat.lt_succ_self f,by4,(Xr _ (Xv (Xt _) (Xv (Xt _) (Xv (Xy (by rw [In.cellss_app'];rfl)) (Xu _)))) (Xs rfl))⟩
  | exact ⟨(q5,f,Pg.mk da cl ins (bs++[Bi.mk bn (Ex.mk xk xs xn (Ty.mk xtk xts xtn xtl) xks xal xbs xp) bp]),u1,u2,u3,u55),⟨l5,(fun e=>by obtain ⟨⟨_,h5⟩,_,h6⟩:=hpr e;have b3:q.at_≤q3.at_:=b2';rw [h5];simp only [stepP,List.length_append,List.length_singleton];omega),hu⟩,Nat.lt_succ_self f,by4,(Xr _ (Xv (Xt _) (Xv (Xt _) (Xv (Xt _) (Xv (Xy by9) (Xu _))))) (Xs rfl))⟩
 intro g40
 refine Q226 ?_
 refine Q8 ?_
 refine Q2 ?_
 rw [if_neg g22,if_neg g31,if_neg g40] at hx
 have HD:=take_c b L hL q hq1 6 kDef
 have l1:=(Zo (kind:=6) (s:=kDef) (by decide) i1).ok i1
 obtain ⟨⟨u7,q1⟩,f1⟩:∃ r,takeP L q 6 kDef=r:=⟨_,rfl⟩
 rw [f1] at HD l1 hx
 simp only [] at HD l1 hx
 have HX:=bindP_c b L hL q1 l1
 obtain ⟨⟨⟨bn,⟨xk,xs,xn,⟨xtk,xts,xtn,xtl⟩,xks,xal,xbs,xp⟩,bp⟩,q3⟩,e3⟩:∃ r,bindP L q1=r:=⟨_,rfl⟩
 rw [e3] at HX hx
 simp only [Bi.cells,Ex.cells,Ty.cells,List.cons_append,List.nil_append] at HX
 cases hx
 refine Q234 ?_
 refine Zb 49 V V V (Zi (xs:=[.tmp 48,.const (.int .i64 6),.const (.string ⟨#[100,101,102]⟩)]) (i:=1) V V V (HD) by1 ?_)
 refine Q226 ?_
 refine Q398 ?_
 refine Yf 1 (i:=3) V V V V V (Zi (xs:=[.tmp 52]) (i:=0) V V V (HX) by1 ⟨_,V,?_⟩)
 refine Zm 54 (none) (i:=4) V V V V V (Zh (xs:=[.tmp 53]) el_79 V V V V V V (Xz V) ⟨V,V⟩) ?_
 refine Yf 6 (i:=5) V V V V V (Zw (i:=0) el_79 V V V V (.seq _ _) by6 (fun u55=>⟨_,V,?_⟩))
 refine Q27 ?_
 refine Yf 0 (i:=7) V V V V V (Zu (cs':=[_,_,_,_]) (i:=0) V ts_79 V V V V V (Xz V) V ⟨_,V,?_⟩)
 show AGo _ _ _ _ _ _ _
 refine Q563 ?_
 refine Zb 58 V V V (Zi (xs:=[.tmp 57,.const (.int .i64 7),.const (.string ⟨#[59]⟩)]) (i:=1) V V V (HS) by1 ?_)
 refine Q365 ?_
 first
 | exact ⟨(q5,f,Pg.mk (da++[Da.mk xs xps xcs xdv xp]) cl ins bs,u28,u2,u3,u4),⟨l5,(fun e=>by obtain ⟨⟨_,h5⟩,_,h6⟩:=hpr e;have b3:q.at_≤q3.at_:=b2';rw [h5];simp only [stepP,List.length_append,List.length_singleton];omega),hu⟩,Nat.lt_succ_self f,by4,(Xr _ (Xv (Xy (by rw [Da.cellss_app'];rfl)) (Xu _)) (Xs rfl))⟩
 | exact ⟨(q5,f,Pg.mk da (cl++[Cl.mk xs xv xsu xms xds xp]) ins bs,u1,u37,u3,u4),⟨l5,(fun e=>by obtain ⟨⟨_,h5⟩,_,h6⟩:=hpr e;have b3:q.at_≤q3.at_:=b2';rw [h5];simp only [stepP,List.length_append,List.length_singleton];omega),hu⟩,Nat.lt_succ_self f,by4,(Xr _ (Xv (Xt _) (Xv (Xy (by rw [Cl.cellss_app'];rfl)) (Xu _))) (Xs rfl))⟩
 | exact ⟨(q5,f,Pg.mk da cl (ins++[In.mk xc (Ty.mk xhk xhs xhn xhl) xcx xbs xp]) bs,u1,u2,u46,u4),⟨l5,(fun e=>by obtain ⟨⟨_,h5⟩,_,h6⟩:=hpr e;have b3:q.at_≤q3.at_:=b2';rw [h5];simp only [stepP,List.length_append,List.length_singleton];omega),hu⟩,Nat.lt_succ_self f,by4,(Xr _ (Xv (Xt _) (Xv (Xt _) (Xv (Xy (by rw [In.cellss_app'];rfl)) (Xu _)))) (Xs rfl))⟩
 | exact ⟨(q5,f,Pg.mk da cl ins (bs++[Bi.mk bn (Ex.mk xk xs xn (Ty.mk xtk xts xtn xtl) xks xal xbs xp) bp]),u1,u2,u3,u55),⟨l5,(fun e=>by obtain ⟨⟨_,h5⟩,_,h6⟩:=hpr e;have b3:q.at_≤q3.at_:=b2';rw [h5];simp only [stepP,List.length_append,List.length_singleton];omega),hu⟩,Nat.lt_succ_self f,by4,(Xr _ (Xv (Xt _) (Xv (Xt _) (Xv (Xt _) (Xv (Xy by9) (Xu _))))) (Xs rfl))⟩
end Go.Proofs.YteepjjgooplljaaGreat
namespace Go.Proofs.YteepjjgooplljaaGreat
open Go.RowKit
end Go.Proofs.YteepjjgooplljaaGreat
namespace Go.Proofs.YteepjjgooplljaaGreat
open Go.RowKit
def envR (s:ByteArray):En × Bool :=
 if 3000<(s.size:Int) then (.mk [] [] [],false)
 else if (progT s).2.1≠0∨(checkR (progT s).1).1≠0 then (.mk [] [] [],false)
 else (envOf (progT s).1,decide ((progT s).1.cl.length≤12∧(progT s).1.ins.length≤30))
theorem Env_c (s:ByteArray):PCall Tryz.prog 13 [.val (.string s)] (.tup [.agg (envR s).1.cells,.val (.bool (envR s).2)]):=by
 have HP:=Prog_c s
 have HC:=fun (p:Pg) hp hb=>Check_c p hp hb
 obtain ⟨hg,hb⟩:=progT_g s
 have HC:=HC _ hg.b hb
 obtain ⟨r,hr⟩:∃ r,envR s=r:=⟨_,rfl⟩
 rw [hr]
 unfold envR at hr
 unfold progR at HP
 generalize progT s=o at *
 obtain ⟨⟨da,cl,ins,bs⟩,e,w⟩:=o
 generalize checkR (.mk da cl ins bs)=f at *
 obtain ⟨f1,f2⟩:=f
 have hcl:=Cl.cellss_len cl
 have hin:=In.cellss_len ins
 simp only [Pg.cells,faultA] at HP HC
 refine Zc Tryz.func13 V (by kernel_rfl) V (Xz V) ?_
 refine Q237 ?_
 refine Q155 ?_;intro b2
 refine Q275 ?_
 refine Q471 ?_;intro c9 h9
 refine Q226 ?_
 rcases Za h9 with ⟨rfl,g9⟩|⟨rfl,g9⟩
 ·refine Q242 ?_
  rw [if_neg g9] at hr
  refine Q234 ?_
  refine Zb 13 V V V (Zd (xs:=[.tmp 12]) V V (HP) by1 ?_)
  refine Q428 ?_
  refine Q173 ?_;intro b4
  refine Q221 ?_
  refine Q6 ?_
  refine Q306 ?_
  refine Zy 24 (e≠0∨f1≠0) ?_ _ _ V ?_
  ·skip
   refine Q5 ?_
   refine Q34 ?_;intro c18 h18
   refine Q5 ?_
   rcases Za h18 with ⟨rfl,g18⟩|⟨rfl,g18⟩
   ·skip
    refine Zq 20 V V V V V (Yc (cs':=[_,_,_,_]) (i:=0) V ta_81 V V V V (Zq 21 V V V V V (Zd (xs:=[.tmp 20]) V V (HC) by1 ?_)))
    refine Zq 22 V V V V V (Xc (ft:=3) (fo:=0) V (by kernel_rfl) ta_3 V V ?_)
    refine Q66 ?_;intro c23 h23
    refine Q236 ?_
    refine Xx V ?_ by5 by3
    first|(simp_all;done)|(simp_all;omega)|grind
   skip
   refine Q376 ?_
   refine Xx V ?_ by5 by3
   first|(simp_all;done)|(simp_all;omega)|grind
  intro c24 h24
  refine Q1 ?_
  rcases Za h24 with ⟨rfl,g24⟩|⟨rfl,g24⟩
  ·refine Q242 ?_
   rw [if_neg g24] at hr
   refine Yp [0,1,2,3,4,5,6,7,8,9,10,11,12,13,14,15,16,17,18] [17] [[],[0],[],[2],[],[4],[0,1,2,3,4,5],[],[7],[7,8],[7,8,9],[7,8,9,10],[7,8,9,10,11],[7,8,9,10,11,12],[7,8,9,10,11,12,13],[7,8,9,10,11,12,13,14],[7,8,9,10,11,12,13,14,15],[0,1,2,3,4,5,6,7,8,9,10,11],[0,1,2,3,4,5,6,7,8,9,10,11,12,13,14,15,16,17]] Xl V ?_
   refine Q325 ?_
   refine Q325 ?_
   refine Q325 ?_
   refine Zm 32 (none) (i:=6) V V V V V (Zp (ns:=[0,1,2]) (xs:=[.tmp 27,.tmp 29,.tmp 31]) V tz_41 V tfl_41 V V V V ⟨V,V⟩) ?_
   refine Q325 ?_
   refine Zm 35 none (i:=9) V V V V V (Yu V tu_38 V (.seq _ _) (fun _=>⟨V,V⟩)) ?_
   refine EOps.cm 36 (i:=10) V V V V (fun _ q=>op_leq V V V q) ?_;intro c36 h36
   refine Q24 ?_
   rcases Za h36 with ⟨rfl,g36⟩|⟨rfl,g36⟩
   ·skip
    refine EOps.df 38 (i:=12) V V V V V V (EOps.df 39 (i:=13) V V V V V V (EOps.df 40 (i:=14) V V V V V V (EOps.df 41 (i:=15) V V V V V V ?_)))
    refine Q136 ?_
    refine Q222 ?_
    refine Q58 ?_
    show AGo _ _ _ _ _ _ _
    refine Q303 ?_
    have hr:(En.mk da cl ins,decide (cl.length≤12∧ins.length≤30))=r:=hr
    first
     | (have hd:decide (cl.length≤12∧ins.length≤30)=false:=decide_eq_false (by omega)
        rw [hd] at hr;subst hr
        exact Yn (i:=1) V V V V ta_41 V by0 (Xo _) ⟨V,V⟩)
     | (rcases Za h41 with ⟨rfl,g41⟩|⟨rfl,g41⟩
        ·have hd:decide (cl.length≤12∧ins.length≤30)=false:=decide_eq_false (by omega)
         rw [hd] at hr;subst hr
         exact Yn (i:=1) V V V V ta_41 V by0 (Xo _) ⟨V,V⟩
        have hd:decide (cl.length≤12∧ins.length≤30)=true:=decide_eq_true (by omega)
        rw [hd] at hr;subst hr
        exact Yn (i:=1) V V V V ta_41 V by0 (Xo _) ⟨V,V⟩)
   skip
   refine EOps.dg 38 (none) (i:=12) V V V V V V V (op_fieldAddr_m V tf_81_2 V ⟨V,V⟩) ?_
   refine EOps.dg 39 (some 0) (i:=13) V V V V V V V (op_load_m1 (i:=0) V ta_39 V V V ⟨V,V⟩) ?_
   refine EOps.dg 40 none (i:=14) V V V V V V V (Yu V tu_39 V (.seq _ _) (fun _=>⟨V,V⟩)) ?_
   refine EOps.cmg 41 (i:=15) V V V V V V (fun _ q=>op_leq V V V q) ?_;intro c41 h41
   refine Q136 ?_
   refine Q222 ?_
   refine Q58 ?_
   show AGo _ _ _ _ _ _ _
   refine Q303 ?_
   have hr:(En.mk da cl ins,decide (cl.length≤12∧ins.length≤30))=r:=hr
   first
    | (have hd:decide (cl.length≤12∧ins.length≤30)=false:=decide_eq_false (by omega)
       rw [hd] at hr;subst hr
       exact Yn (i:=1) V V V V ta_41 V by0 (Xo _) ⟨V,V⟩)
    | (rcases Za h41 with ⟨rfl,g41⟩|⟨rfl,g41⟩
       ·have hd:decide (cl.length≤12∧ins.length≤30)=false:=decide_eq_false (by omega)
        rw [hd] at hr;subst hr
        exact Yn (i:=1) V V V V ta_41 V by0 (Xo _) ⟨V,V⟩
       have hd:decide (cl.length≤12∧ins.length≤30)=true:=decide_eq_true (by omega)
       rw [hd] at hr;subst hr
       exact Yn (i:=1) V V V V ta_41 V by0 (Xo _) ⟨V,V⟩)
  refine Q240 ?_
  refine Q174 ?_
  refine Ya V V (Zu (cs':=[_,_,_]) (i:=1) V ts_41 V V V V V (Xz V) V ?_)
  refine Q232 ?_
  rw [if_pos g24] at hr;subst hr;exact Yn (i:=1) rfl rfl rfl rfl ta_41 rfl by0 (Xo _) ⟨rfl,rfl⟩
 refine Q240 ?_
 refine Q174 ?_
 refine Q156 ?_
 refine Q232 ?_
 rw [if_pos g9] at hr;subst hr;exact Yn (i:=0) rfl rfl rfl rfl ta_41 rfl by0 (Xo _) ⟨rfl,rfl⟩
theorem prims_size:∀ p∈prims,p.sc.t.size≤1000:=by
 have key:∀ (l:List (ByteArray × Ty)) (j:Nat),(∀ r∈l,r.2.size≤100)→∀ p∈prm j l,p.sc.t.size≤1000:=by
  intro l
  induction l with
  | nil=>intro j _ p hp;simp [prm] at hp
  | cons x l ih =>
   intro j h p hp
   rw [prm] at hp
   rcases List.mem_cons.1 hp with rfl|hp
   ·have:=h x (by simp)
    show x.2.size≤1000
    omega
   exact ih (j+1) (fun r hr=>h r (by simp [hr])) p hp
 exact key primRows 0 rows_size
theorem env_ok {s:ByteArray} (h:(envR s).2=true):EnT (envR s).1∧∀ q,isBr q=true→arityR (envR s).1 q<0:=by
 unfold envR at h ⊢
 split at h
 ·simp at h
 rename_i h1
 split at h
 ·simp at h
 rename_i h2
 rw [if_neg h1,if_neg h2]
 exact env_t s (by omega)
end Go.Proofs.YteepjjgooplljaaGreat
namespace Go.Proofs.YteepjjgooplljaaGreat
mutual
def Ty.vin (ps:List ByteArray):Ty→Prop
 | .mk k s _ ks=>(k=1→s∈ps)∧Ty.vins ps ks
def Ty.vins (ps:List ByteArray):List Ty→Prop
 | []=>True
 | t::l=>t.vin ps∧Ty.vins ps l
end
theorem Ty.vins_iff (ps:List ByteArray):∀ l:List Ty,Ty.vins ps l↔∀ t∈l,t.vin ps
 | []=>by simp [Ty.vins]
 | t::l=>by simp [Ty.vins,Ty.vins_iff ps l]
mutual
theorem Ty.vin_all (ps:List ByteArray):∀ t:Ty,(∀ u∈t.all,u.kind=1→u.name∈ps)→t.vin ps
 | .mk k s n ks,h=>by
  rw [Ty.all] at h
  rw [Ty.vin]
  exact ⟨fun q=>h (.mk k s n ks) (List.mem_cons_self) q,Ty.vins_all ps ks (fun u hu=>h u (List.mem_cons_of_mem _ hu))⟩
theorem Ty.vins_all (ps:List ByteArray):∀ l:List Ty,(∀ u∈Ty.alls l,u.kind=1→u.name∈ps)→Ty.vins ps l
 | [],_=>trivial
 | t::l,h=>by
  rw [Ty.alls] at h
  exact ⟨Ty.vin_all ps t (fun u hu=>h u (List.mem_append.2 (.inl hu))),Ty.vins_all ps l (fun u hu=>h u (List.mem_append.2 (.inr hu)))⟩
end
theorem addVar_mem {acc:List ByteArray} {t:Ty} {s:ByteArray} (h:s∈acc∨t.kind=1∧t.name=s):s∈addVar acc t:=by
 unfold addVar
 split
 ·rcases h with h|h
  ·simp [h]
  simp [h.2]
 rename_i q
 rcases h with h|h
 ·exact h
 refine Classical.byContradiction fun k=>q ⟨h.1,by rw [h.2];exact k⟩
theorem foldVar_mem {s:ByteArray}:∀ {l:List Ty} {acc:List ByteArray},(s∈acc∨∃ t∈l,t.kind=1∧t.name=s)→s∈l.foldl addVar acc
 | [],acc,h=>by
  rcases h with h|⟨t,ht,_⟩
  ·exact h
  simp at ht
 | x::l,acc,h=>by
  rw [List.foldl_cons]
  apply foldVar_mem
  rcases h with h|⟨t,ht,h⟩
  ·exact .inl (addVar_mem (.inl h))
  rcases List.mem_cons.1 ht with rfl|ht
  ·exact .inl (addVar_mem (.inr h))
  exact .inr ⟨t,ht,h⟩
theorem Ty.vin_vars (t:Ty):t.vin t.vars:=Ty.vin_all _ t fun u hu hk=>foldVar_mem (.inr ⟨u,hu,hk,rfl⟩)
theorem args_vin {ps:List ByteArray}:∀ (d:Nat) (t:Ty),t.size≤d→t.vin ps→(∀ u∈t.args,u.vin ps)∧t.ans.vin ps
 | 0,t,h,_=>by cases t;rw [Ty.size] at h;omega
 | d+1,.mk k s n ks,h,hv=>by
  match ks,h,hv with
  | [],_,hv=>rw [Ty.args,Ty.ans];exact ⟨by simp,hv⟩;simp;simp
  | [_],_,hv=>rw [Ty.args,Ty.ans];exact ⟨by simp,hv⟩;simp;simp
  | [a,b],h,hv =>
   rw [Ty.args,Ty.ans]
   have hv':=hv
   rw [Ty.vin,Ty.vins,Ty.vins] at hv'
   have IH:=args_vin d b (by simp only [Ty.size,Ty.sizes] at h;omega) hv'.2.2.1
   split
   ·exact ⟨fun u hu=>by
     rcases List.mem_cons.1 hu with rfl|hu
     ·exact hv'.2.1
     exact IH.1 u hu,IH.2⟩
   exact ⟨by simp,hv⟩
  | _::_::_::_,_,hv=>rw [Ty.args,Ty.ans];exact ⟨by simp,hv⟩;simp;simp
mutual
theorem rightC_vin (v:En) (vs:List ByteArray):∀ t:Ty,rightC v vs t=true→t.vin vs
 | .mk k s n ks,h=>by
  rw [rightC,Bool.and_eq_true] at h
  rw [Ty.vin]
  refine ⟨fun q=>?_,rightCs_vin v vs ks h.2⟩
  have:=h.1
  rw [if_pos q] at this
  exact hasB_iff.1 this
theorem rightCs_vin (v:En) (vs:List ByteArray):∀ l:List Ty,rightCs v vs l=true→Ty.vins vs l
 | [],_=>trivial
 | t::l,h=>by
  rw [rightCs,Bool.and_eq_true] at h
  exact ⟨rightC_vin v vs t h.1,rightCs_vin v vs l h.2⟩
end
mutual
theorem rightR_vin (v:En) (vs:List ByteArray):∀ t:Ty,rightR v vs t=0→t.vin vs
 | .mk k s n ks,h=>by
  rw [rightR] at h
  rw [Ty.vin]
  by_cases q:headR0 v vs k s ks.length≠0
  ·rw [if_pos q] at h;exact absurd h q
  rw [if_neg q] at h
  refine ⟨fun hk=>?_,rightsR_vin v vs ks h⟩
  unfold headR0 at q
  rw [if_pos hk] at q
  refine Classical.byContradiction fun hs=>q ?_
  rw [if_neg (fun k=>hs (hasB_iff.1 k))]
  decide
theorem rightsR_vin (v:En) (vs:List ByteArray):∀ l:List Ty,rightsR v vs l=0→Ty.vins vs l
 | [],_=>trivial
 | t::l,h=>by
  rw [rightsR] at h
  by_cases q:rightR v vs t≠0
  ·rw [if_pos q] at h;exact absurd h q
  rw [if_neg q] at h
  exact ⟨rightR_vin v vs t (Classical.not_not.1 q),rightsR_vin v vs l h⟩
end
/- what stands for a variable -/
theorem putO_hit {names:List ByteArray} {ts:List Ty} {s:ByteArray} (hs:s∈names) (hl:names.length=ts.length):∃ u∈ts,(∀ n ks,putO names ts (.mk 1 s n ks)=some u)∧∀ (f:Ty→Ty) n ks,putO names (ts.map f) (.mk 1 s n ks)=some (f u):=by
 obtain ⟨j,h1,h2⟩:=firstAt_get hs
 have hj:j<ts.length:=by
  rw [← hl]
  rcases Nat.lt_or_ge j names.length with q|q
  ·exact q
  rw [List.getElem?_eq_none q] at h2;simp at h2
 refine ⟨ts[j],List.getElem_mem hj,fun n ks=>?_,fun f n ks=>?_⟩
 ·rw [putO_in h1,List.getElem?_eq_getElem hj]
 rw [putO_in h1,List.getElem?_map,List.getElem?_eq_getElem hj];rfl
theorem putO_miss {names:List ByteArray} {ts:List Ty} {k:Int} {s:ByteArray} {n:Int} {ks:List Ty} (h:¬ (k=1∧s∈names)):putO names ts (.mk k s n ks)=none:=by
 by_cases q:k=1
 ·exact putO_out (by rw [firstAt_out (fun hs=>h ⟨q,hs⟩)];decide)
 exact putO_not q
mutual
theorem Ty.turn_closed {names:List ByteArray} {ts:List Ty}:∀ t:Ty,t.vin []→t.turn (putO names ts)=t
 | .mk k s n ks,h=>by
  rw [Ty.vin] at h
  have hk:k≠1:=fun q=>by simpa using h.1 q
  rw [Ty.turn_none (putO_not hk),Ty.turns_closed ks h.2]
theorem Ty.turns_closed {names:List ByteArray} {ts:List Ty}:∀ l:List Ty,Ty.vins [] l→Ty.turns (putO names ts) l=l
 | [],_=>by rw [Ty.turns]
 | t::l,h=>by rw [Ty.turns,Ty.turn_closed t h.1,Ty.turns_closed l h.2]
end
mutual
theorem Ty.turn_comp {x:ByteArray} {A:Ty} {vs:List ByteArray} {ts:List Ty} (hx:x∉vs) (hA:A.vin []) (hl:vs.length=ts.length):∀ t:Ty,(t.turn (putO vs ts)).turn (putO [x] [A])=(t.turn (putO [x] [A])).turn (putO vs (ts.map (Ty.turn (putO [x] [A]))))
 | .mk k s n ks=>by
  by_cases h:k=1∧s∈vs
  ·obtain ⟨rfl,hs⟩:=h
   obtain ⟨u,_,h1,h2⟩:=putO_hit hs hl
   rw [Ty.turn_some (h1 n ks),Ty.turn_none (o:=putO [x] [A]) (putO_miss (fun q=>by
    have:s=x:=by simpa using q.2
    exact hx (this ▸ hs))),Ty.turn_some (h2 _ n _)]
  rw [Ty.turn_none (putO_miss h)]
  by_cases h2:k=1∧s=x
  ·obtain ⟨rfl,rfl⟩:=h2
   obtain ⟨u,hu,h1,_⟩:=putO_hit (names:=[s]) (ts:=[A]) (s:=s) (by simp) rfl
   obtain rfl:u=A:=by simpa using hu
   rw [Ty.turn_some (h1 n _),Ty.turn_some (h1 n _),Ty.turn_closed _ hA]
  have h3:¬ (k=1∧s∈[x]):=fun q=>h2 ⟨q.1,by simpa using q.2⟩
  rw [Ty.turn_none (putO_miss h3),Ty.turn_none (putO_miss h3),Ty.turn_none (putO_miss h),Ty.turns_comp hx hA hl ks]
theorem Ty.turns_comp {x:ByteArray} {A:Ty} {vs:List ByteArray} {ts:List Ty} (hx:x∉vs) (hA:A.vin []) (hl:vs.length=ts.length):∀ l:List Ty,Ty.turns (putO [x] [A]) (Ty.turns (putO vs ts) l)=Ty.turns (putO vs (ts.map (Ty.turn (putO [x] [A])))) (Ty.turns (putO [x] [A]) l)
 | []=>rfl
 | t::l=>by rw [Ty.turns,Ty.turns,Ty.turns,Ty.turns,Ty.turn_comp hx hA hl t,Ty.turns_comp hx hA hl l]
end
mutual
theorem Ty.turn_vin {names:List ByteArray} {us:List Ty} {ps:List ByteArray} {ts:List Ty} (hl:ps.length=ts.length):∀ t:Ty,t.vin ps→(t.turn (putO ps ts)).turn (putO names us)=t.turn (putO ps (ts.map (Ty.turn (putO names us))))
 | .mk k s n ks,h=>by
  rw [Ty.vin] at h
  by_cases hk:k=1
  ·subst hk
   obtain ⟨u,_,h1,h2⟩:=putO_hit (h.1 rfl) hl
   rw [Ty.turn_some (h1 n ks),Ty.turn_some (h2 _ n ks)]
  rw [Ty.turn_none (putO_not hk),Ty.turn_none (putO_not hk),Ty.turn_none (putO_not hk),Ty.turns_vin hl ks h.2]
theorem Ty.turns_vin {names:List ByteArray} {us:List Ty} {ps:List ByteArray} {ts:List Ty} (hl:ps.length=ts.length):∀ l:List Ty,Ty.vins ps l→Ty.turns (putO names us) (Ty.turns (putO ps ts) l)=Ty.turns (putO ps (ts.map (Ty.turn (putO names us)))) l
 | [],_=>rfl
 | t::l,h=>by rw [Ty.turns,Ty.turns,Ty.turns,Ty.turn_vin hl t h.1,Ty.turns_vin hl l h.2]
end
abbrev sg (x:ByteArray) (A:Ty):Ty→Ty:=Ty.turn (putO [x] [A])
theorem sg_not {x:ByteArray} {A:Ty} {k:Int} {s:ByteArray} {n:Int} {ks:List Ty} (h:k≠1):sg x A (.mk k s n ks)=.mk k s n (ks.map (sg x A)):=by
 show Ty.turn _ _=_
 rw [Ty.turn_none (putO_not h),Ty.turns_map]
mutual
theorem rightC_sg {v:En} {x:ByteArray} {A:Ty} {vs:List ByteArray} (hA:rightC v vs A=true):∀ t:Ty,rightC v (x::vs) t=true→rightC v vs (sg x A t)=true
 | .mk k s n ks,h=>by
  rw [rightC,Bool.and_eq_true] at h
  by_cases h2:k=1∧s=x
  ·obtain ⟨rfl,rfl⟩:=h2
   obtain ⟨u,hu,h1,_⟩:=putO_hit (names:=[s]) (ts:=[A]) (s:=s) (by simp) rfl
   obtain rfl:u=A:=by simpa using hu
   show rightC v vs (Ty.turn _ _)=true
   rw [Ty.turn_some (h1 n _)]
   exact hA
  have h3:¬ (k=1∧s∈[x]):=fun q=>h2 ⟨q.1,by simpa using q.2⟩
  show rightC v vs (Ty.turn _ _)=true
  rw [Ty.turn_none (putO_miss h3),rightC,Bool.and_eq_true,Ty.turns_len]
  refine ⟨?_,rightCs_sg hA ks h.2⟩
  by_cases hk:k=1
  ·have h4:=h.1
   rw [if_pos hk] at h4 ⊢
   have:=hasB_iff.1 h4
   rcases List.mem_cons.1 this with q|q
   ·exact absurd ⟨hk,q⟩ h2
   exact hasB_iff.2 q
  have h4:=h.1
  rw [if_neg hk] at h4 ⊢
  exact h4
theorem rightCs_sg {v:En} {x:ByteArray} {A:Ty} {vs:List ByteArray} (hA:rightC v vs A=true):∀ l:List Ty,rightCs v (x::vs) l=true→rightCs v vs (Ty.turns (putO [x] [A]) l)=true
 | [],_=>rfl
 | t::l,h=>by
  rw [rightCs,Bool.and_eq_true] at h
  rw [Ty.turns,rightCs,Bool.and_eq_true]
  exact ⟨rightC_sg hA t h.1,rightCs_sg hA l h.2⟩
end
mutual
theorem rightC_more {v:En} {vs:List ByteArray}:∀ t:Ty,rightC v [] t=true→rightC v vs t=true
 | .mk k s n ks,h=>by
  rw [rightC,Bool.and_eq_true] at h ⊢
  refine ⟨?_,rightCs_more ks h.2⟩
  have h4:=h.1
  by_cases hk:k=1
  ·rw [if_pos hk] at h4;simp [hasB] at h4
  rw [if_neg hk] at h4 ⊢;exact h4
theorem rightCs_more {v:En} {vs:List ByteArray}:∀ l:List Ty,rightCs v [] l=true→rightCs v vs l=true
 | [],_=>rfl
 | t::l,h=>by
  rw [rightCs,Bool.and_eq_true] at h ⊢
  exact ⟨rightC_more t h.1,rightCs_more l h.2⟩
end
end Go.Proofs.YteepjjgooplljaaGreat
