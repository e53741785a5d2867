/- Parts of a proof: prelude.Prims; core.start, core.Type; awake of layer 21; core: bounds: how deep types grow, how long scopes; core: unlike, all of texts, allow, put, is, of; core: put, is, of; decls.Con; core.con; core.con, core.prim; core.prim; core.Parts; core.typ: kinds that other functions answer; numbers and texts; what is no kind; core.typ: dictionaries; parts of dictionaries; core.part; tree.Names, cognateref05.Names; tree.search; tree.Free; core.pattern; A logic of trees: a range over a function within a round of another.; core.bind, core.let; core.cases; operations that are guarded, in a drawn region that writes; core.cases, whole; core: bounds of patterns' and dictionaries' types; names; core.typ's plain function, kind by kind; core.typ, whole; core.Check; count, Small of layer 21; the document's core rules: con, kids, Con, Right; the document's Put: types bounded node by node; And, one, base, names; the document's Parts; the document's are: expressions of types; cognateref15: Unlike, one, base, ConType; core's names; cognateref15: ConType, Pattern; cognateref15: Pattern; cognateref15: Pattern, all kinds; the document's core.Type: what is wrong at once; variables, numbers, texts (printed by wip/gen22/i.py); the document's core.Type: constructors, primitives (printed by wip/gen22/j.py); the document's core.Type: applications, lambdas (printed by wip/gen22/k.py); the document's core.Type: dictionaries, parts of them (printed by wip/gen22/l.py); the document's core rules: bind, let; the document's core rules: let; the document's core rules: cases; the document's core.Type, whole; core: in a wider scope an expression that has a type has the same; names of declarations: what the lexer makes of them; turn, none, Put, Apply of the program; the program's Above; Needs of the program; declarations that were parsed and are right -/
import Derived.Test.YteepjjgooplljaaGreatKLZPut4
import Derived.RangeFuncNested
set_option maxRecDepth 100000
set_option maxHeartbeats 4000000
namespace Go.Proofs.YteepjjgooplljaaGreat
open Go.RowKit
theorem rowCells_get:∀ {l:List (ByteArray × Ty)} {i:Nat} {s:ByteArray} {t:Ty},l[i]?=some (s,t)→((rowCells l).drop (i * 5)).take 5=.val (.string s)::t.cells
 | [],i,s,t,h=>by simp at h
 | (s',⟨k,n,m,ks⟩)::l,0,s,t,h=>by
  simp at h;obtain ⟨rfl,rfl⟩:=h
  simp [rowCells,Ty.cells]
 | (s',⟨k,n,m,ks⟩)::l,i+1,s,t,h=>by
  have:=rowCells_get (l:=l) (i:=i) (by simpa using h)
  rw [← this]
  have e:(i+1) * 5=i * 5+5:=by omega
  rw [e]
  simp [rowCells,Ty.cells]
noncomputable def prOf (i:Nat) (r:ByteArray × Ty):Pm:=⟨r.1,i+1,r.2.args.length,⟨r.2.vars,[],r.2⟩⟩
noncomputable def prm:Nat→List (ByteArray × Ty)→List Pm
 | _,[]=>[]
 | i,r::rs=>prOf i r::prm (i+1) rs
theorem prm_take:∀ (l:List (ByteArray × Ty)) (j i:Nat) (r:ByteArray × Ty),l[i]?=some r→prm j (l.take (i+1))=prm j (l.take i)++[prOf (j+i) r]
 | [],j,i,r,h=>by simp at h
 | x::l,j,0,r,h=>by simp at h;subst h;simp [prm]
 | x::l,j,i+1,r,h=>by
  have:=prm_take l (j+1) i r (by simpa using h)
  simp only [List.take_succ_cons,prm,this,List.cons_append]
  rw [Nat.add_right_comm];rfl
theorem prm_len:∀ (l:List (ByteArray × Ty)) (j:Nat),(prm j l).length=l.length
 | [],j=>rfl
 | x::l,j=>by simp [prm,prm_len l]
noncomputable def prims:List Pm:=prm 0 primRows
theorem rows_size:∀ r∈primRows,r.2.size≤100:=by
 simp [Ty.size,Ty.sizes]
theorem Prims_c:PCall Tryz.prog 67 [] (.seq 9 (Pm.cellss prims)):=by
 refine Zc Tryz.func67 V (by kernel_rfl) V (Xz V) ?_
 refine Q537 ?_
 refine Q306 ?_
 refine ACode.ownNil (t:=1) 187 9 V ?_
 refine Q4 ?_
 refine Zb 6 V V V (Zd (xs:=[]) V V (rows_c) by1 ?_)
 refine Q317 ?_
 apply Ym (rg [(1,5),(7,27)]) (σ:=Nat × Value) (fun zz=>match zz with|(i,u)=>[(7,.val (.int .i64 i)),(1,.own u 9 (Pm.cellss (prm 0 (primRows.take i))))]) (fun zz=>match zz with|(i,u)=>[.own 187 9 u]) (fun zz=>match zz with|(i,u)=>i≤17) (fun zz=>match zz with|(i,u)=>17 - i) ((0,.slice none 0 0))
 ·repeat' (first|exact Wc|apply Wa rfl|apply Wb rfl)
 ·simp
 ·exact by4
 ·exact by3
 rintro ⟨i,u⟩ hI
 try dsimp only [List.cons_append,List.nil_append] at hI ⊢
 refine Q318 ?_;intro c8 h8
 refine Q241 ?_
 rcases Za h8 with ⟨rfl,g8⟩|⟨rfl,g8⟩
 ·refine Q364 ?_
  refine Zf V V ?_ by3 ⟨V,V⟩
  rw [show primRows.take i=primRows from List.take_of_length_le (by simp;omega)]
  exact Le.own _ _ _
 refine Q265 ?_
 obtain ⟨⟨s,⟨tk,ts,tn,tks⟩⟩,hx⟩:=Zr (l:=primRows) (i:=i) (by simp;omega)
 have hc:=rowCells_get hx
 have hsz:=rows_size _ (We hx)
 have hpt:=prm_take primRows 0 i _ hx
 have HV:=(Vars_c ⟨tk,ts,tn,tks⟩ (by simp only at hsz;omega)).pure
 have HA:=Args_c ⟨tk,ts,tn,tks⟩ (by simp only at hsz;omega)
 have hln:=prm_len (primRows.take i) 0
 have hcl:=Pm.cellss_len (prm 0 (primRows.take i))
 simp only [List.length_take] at hln
 have hal:=Ty.cellss_len (Ty.args ⟨tk,ts,tn,tks⟩)
 simp only [prOf,Nat.zero_add] at hpt
 generalize Ty.vars ⟨tk,ts,tn,tks⟩=vs at *
 generalize Ty.args ⟨tk,ts,tn,tks⟩=ags at *
 generalize Ty.ans ⟨tk,ts,tn,tks⟩=an at *
 obtain ⟨ak,as',an,als⟩:=an
 refine Q234 ?_
 refine Zb 10 V V V (op_index_av (cs':=[_,_,_,_,_]) V tu_182 ta_181 V V V (by omega) (hc) ?_)
 refine Zb 3 V V V (Yk (cs':=[_,_,_,_,_]) V tz_181 V V ?_);intro b3
 refine Q6 ?_
 refine Ya V V (Zu (cs':=[_,_,_,_,_]) (i:=0) V ts_181 V V V V V (Xz V) V ?_)
 refine Q258 ?_
 refine Q506 ?_
 refine Zb 14 V V V (Zd (xs:=[.tmp 13]) V V (HA) by1 ?_)
 refine Q478 ?_;intro b5
 refine Q6 ?_
 refine Q30 ?_
 refine Q226 ?_
 refine Yp [0,1,2,3,4,5,6,7,8,9,10,11,12,13,14,15,16] [15] [[],[],[1],[],[3],[],[5],[],[7],[7,8],[],[10],[7,8,9,10,11],[1,2,3,4,5,6,7,8,9,10,11,12],[1,2,3,4,5,6,7,8,9,10,11,12,13],[0,1,2,3,4,5,6,7,8,9,10,11,12,13,14],[0,1,2,3,4,5,6,7,8,9,10,11,12,13,14,15]] Xl V ?_
 refine Q24 ?_
 refine Q433 ?_
 refine Q24 ?_
 refine Zm 21 (none) (i:=4) V V V V V (op_add V V V (IntWalk.i64_in _ (by omega)) ⟨V,V⟩) ?_
 refine Q24 ?_
 refine Zm 23 none (i:=6) V V V V V (Yu V tu_22 V (.seq _ _) (fun _=>⟨V,V⟩)) ?_
 refine Q27 ?_
 refine Q121 ?_
 refine Zm 26 (none) (i:=9) V V V V V (Zd (xs:=[.tmp 25]) V V (HV) by1 ⟨V,V⟩) ?_
 refine Q27 ?_
 refine Q121 ?_
 refine Zm 29 (none) (i:=12) V V V V V (Zp (ns:=[0,2]) (xs:=[.tmp 26,.tmp 28]) V tz_185 V tfl_185 V V V V ⟨V,V⟩) ?_
 refine Zm 30 (none) (i:=13) V V V V V (Zp (ns:=[0,1,2,3]) (xs:=[.tmp 19,.tmp 21,.tmp 23,.tmp 29]) V tz_187 V tfl_187 V V V V ⟨V,V⟩) ?_
 refine Zm 31 (none) (i:=14) V V V V V (Zh (xs:=[.tmp 30]) el_90 V V V V V V (Xz V) ⟨V,V⟩) ?_
 refine Yf 2 (i:=15) V V V V V (Zw (i:=0) el_90 V V V V (.seq _ _) (by simp only [List.length_map,List.length_reverse,List.length_cons,List.length_nil];omega) (fun u32=>⟨_,V,?_⟩))
 refine Q58 ?_
 show AGo _ _ _ _ _ _ _
 refine Q323 ?_
 refine ⟨(i+1,u32),by show i+1≤17;omega,by simp;omega,?_,by3⟩
 refine Xw V (Xt _) (Xw V ?_ by4)
 rw [hpt]
 simp only [Pm.cellss,List.map_append,List.map_cons,List.map_nil]
 exact Le.own_lessA (Less.app (Less.refl _) (Less.cons (Xv (Xt _) (Xv (Xt _) (Xv (Le.ieq (by omega)) (Xv (Xt _) (Xv (Le.nil _) (Xu _)))))) V Less.nil))
theorem coStart_c (v:En) (sc:List Cb) (vs:List ByteArray):PCall Tryz.prog 40 [.agg v.cells,.seq 17 (Cb.cellss sc),.seq 1 (strs vs)] (.agg (ckC v (Pm.cellss prims) sc vs)):=by
 have HP:=Prims_c
 generalize Pm.cellss prims=pm at *
 unfold ckC
 obtain ⟨da,cl,ins⟩:=v
 simp only [En.cells,List.cons_append,List.nil_append] at *
 refine Zc Tryz.func40 V (by kernel_rfl) V (Xz V) ?_
 refine Q353 ?_
 refine Q112 ?_;intro b6
 refine Q241 ?_
 refine Yp [0,1,2,3,4,5,6] [6] [[],[],[0,1],[],[],[0,1,2,3,4],[0,1,2,3,4,5]] Xl V ?_
 refine Q412 ?_
 refine Zm 9 (none) (i:=2) V V V V V (Zp (ns:=[0,1]) (xs:=[.tmp 7,.tmp 8]) V tz_89 V tfl_89 V V V V ⟨V,V⟩) ?_
 refine Q148 ?_
 refine Zm 11 (none) (i:=4) V V V V V (Zd (xs:=[]) V V (HP) by1 ⟨V,V⟩) ?_
 refine Zm 12 (none) (i:=5) V V V V V (Zp (ns:=[0,1,2]) (xs:=[.tmp 9,.tmp 10,.tmp 11]) V tz_92 V tfl_92 V V V V ⟨V,V⟩) ?_
 refine Yf 0 (i:=6) V V V V V (Zu (cs':=[_,_,_,_,_,_]) (i:=0) V ts_92 V V V V V (Xz V) V ⟨_,V,?_⟩)
 show AGo _ _ _ _ _ _ _
 refine Q303 ?_
 exact Zj (i:=0) V V V ta_92 V by2 (Xo _) ⟨V,V⟩
theorem coType_c (v:En) (sc:List Cb) (vs:List ByteArray) (e:Co) (r:Ty × Bool) (H:TypC v prims sc vs e r):PCall Tryz.prog 20 [.agg v.cells,.seq 17 (Cb.cellss sc),.seq 1 (strs vs),.agg e.cells] (.tup [.agg (if r.2=true then r.1 else tyZ).cells,.val (.bool r.2)]):=by
 have HS:=coStart_c v sc vs
 unfold TypC ckC at *
 generalize Pm.cellss prims=pm at *
 obtain ⟨⟨rk,rn,rm,rl⟩,c20⟩:=r
 obtain ⟨k,s,n,⟨tk,ts,tn,tl⟩,us,ks,al,bs⟩:=e
 obtain ⟨da,cl,ins⟩:=v
 simp only [En.cells,List.cons_append,List.nil_append] at *
 refine Zc Tryz.func20 V (by kernel_rfl) V (Xz V) ?_
 refine Q353 ?_
 refine Q311 ?_;intro b8
 refine Q238 ?_
 refine Yp [0,1,2,3,4,5,6,7,8,9,10,11] [9,10] [[],[],[],[0,1,2],[],[0,1,2,3,4],[0,1,2,3,4,5],[0,1,2,3,4,5,6],[0,1,2,3,4,5,6],[],[0,1,2,3,4,5,6,7,9],[0,1,2,3,4,5,6,7,8,9,10]] Xl V ?_
 refine Q148 ?_
 refine Q412 ?_
 refine Zm 16 (none) (i:=3) V V V V V (Zd (xs:=[.tmp 13,.tmp 14,.tmp 15]) V V (HS) by1 ⟨V,V⟩) ?_
 refine Q84 ?_
 refine Zm 18 (none) (i:=5) V V V V V (Zd (xs:=[.tmp 16,.tmp 17]) V V (H) by1 ⟨V,V⟩) ?_
 refine Q430 ?_
 refine EOps.nw (i:=9) V V V (Yk (cs':=[_,_,_,_]) V tz_24 V V (fun b10=>⟨_,V,?_⟩))
 refine Q482 ?_
 show AGo _ _ _ _ _ _ _
 refine Q469 ?_
 refine Q26 ?_;intro c22 h22
 try replace h22:=Yo h22 h20
 refine Q226 ?_
 rcases Za h22 with ⟨rfl,g22⟩|⟨rfl,g22⟩
 ·refine Q289 ?_
  refine Q81 ?_
  refine Q380 ?_
  obtain rfl:c20=true:=by simpa using g22
  exact Yn (i:=0) V V V V Yi V by0 (Xo _) ⟨V,V⟩
 refine Q449 ?_
 obtain rfl:c20=false:=by simpa using g22
 exact Yn (i:=0) V V V V Yi V by0 (Xo _) ⟨V,V⟩
abbrev kX:ByteArray:=⟨#[120]⟩
abbrev exV:Co:=.mk 1 kX 0 tyZ [] [] [] []
abbrev ex21:Co:=.mk 6 kX 0 tInt [] [exV] [] []
theorem ex21_typ:TypC (.mk [] [] []) prims [] [] ex21 (.mk 3 arrow 0 [tInt,tInt],true):=by
 have h1:=typ_var (.mk [] [] []) prims ([]++[.mk kX [] tInt co0]) [] 0 kX tyZ [] [] [] [] rfl (by simp) (fun b hb=>by
  have:b=.mk kX [] tInt co0:=by
   have:findL kX ([]++[.mk kX [] tInt co0])=some (.mk kX [] tInt co0):=by kernel_rfl
   rw [this] at hb
   exact (Option.some.inj hb).symm
  subst this
  simp [Cb.t,Ty.wd,Ty.wds])
 have h2:varC ([]++[.mk kX [] tInt co0]) kX []=(tInt,true):=by kernel_rfl
 rw [h2] at h1
 exact typ_lam (.mk [] [] []) prims [] [] 0 kX tInt [] exV [] [] (tInt,true) V (by kernel_rfl) (by simp) h1
end Go.Proofs.YteepjjgooplljaaGreat
namespace Go.Proofs.YteepjjgooplljaaGreat
mutual
def Ty.dp:Ty→Nat
 | .mk _ _ _ ks=>1+Ty.dps ks
def Ty.dps:List Ty→Nat
 | []=>0
 | t::ts=>max t.dp (Ty.dps ts)
end
theorem Ty.dps_mem:∀ {l:List Ty} {t:Ty},t∈l→t.dp≤Ty.dps l
 | u::l,t,h=>by
  rw [Ty.dps]
  rcases List.mem_cons.1 h with rfl|h
  ·omega
  have:=Ty.dps_mem h;omega
theorem Ty.dps_le {d:Nat}:∀ {l:List Ty},(∀ t∈l,t.dp≤d)→Ty.dps l≤d
 | [],_=>Nat.zero_le _
 | u::l,h=>by
  rw [Ty.dps]
  have:=h u (by simp)
  have:=Ty.dps_le (l:=l) (fun t ht=>h t (by simp [ht]))
  omega
theorem Ty.dp_size:∀ (d:Nat) (t:Ty),t.size≤d→t.dp≤t.size
 | 0,t,h=>by have:=Ty.size_pos t;omega
 | d+1,.mk k s n ks,h=>by
  rw [Ty.size] at h
  rw [Ty.dp,Ty.size]
  have:Ty.dps ks≤Ty.sizes ks:=Ty.dps_le fun t ht=>by
   obtain ⟨i,hi⟩:=List.mem_iff_getElem?.1 ht
   have h1:=Ty.size_at hi
   have:=Ty.dp_size d t (by omega)
   omega
  omega
theorem Ty.turn_dp {o:Ty→Option Ty} {b:Nat} (ho:∀ x y,o x=some y→y.dp≤b):∀ (d:Nat) (t:Ty),t.size≤d→(t.turn o).dp≤t.dp+b
 | 0,t,h=>by have:=Ty.size_pos t;omega
 | d+1,.mk k s n ks,h=>by
  cases q:o (.mk k s n ks) with
  | some y=>rw [Ty.turn_some q];have:=ho _ _ q;omega
  | none =>
   rw [Ty.turn_none q,Ty.dp,Ty.dp]
   rw [Ty.size] at h
   have:Ty.dps (Ty.turns o ks)≤Ty.dps ks+b:=Ty.dps_le fun t ht=>by
    rw [Ty.turns_map] at ht
    obtain ⟨x,hx,rfl⟩:=List.mem_map.1 ht
    obtain ⟨i,hi⟩:=List.mem_iff_getElem?.1 hx
    have h1:=Ty.size_at hi
    have:=Ty.turn_dp ho d x (by omega)
    have:=Ty.dps_mem hx
    omega
   omega
def TK (d:Nat) (t:Ty):Prop:=t.wd∧t.dp≤d
theorem TK.up {d d':Nat} {t:Ty} (h:TK d t) (k:d≤d'):TK d' t:=⟨h.1,Nat.le_trans h.2 k⟩
theorem TK.turn {a b:Nat} {t:Ty} {names:List ByteArray} {ts:List Ty} (h:TK a t) (hts:∀ u∈ts,TK b u):TK (a+b) (t.turn (putO names ts)):=by
 refine ⟨Ty.turn_wd (putO_wd fun u hu=>(hts u hu).1) _ t (Nat.le_refl _) h.1,?_⟩
 have:=Ty.turn_dp (o:=putO names ts) (b:=b) (fun x y q=>by
  unfold putO at q
  split at q
  ·exact (hts y (We q)).2
  simp at q) _ t (Nat.le_refl _)
 have:=h.2
 omega
theorem TK.kid {d:Nat} {k n:Int} {s:ByteArray} {ks:List Ty} {t:Ty} (h:TK d (.mk k s n ks)) (ht:t∈ks):TK d t:=by
 obtain ⟨h1,h2⟩:=h
 rw [Ty.wd] at h1
 rw [Ty.dp] at h2
 have:=Ty.dps_mem ht
 exact ⟨(Ty.wds_iff ks).1 h1.2 t ht,by omega⟩
theorem TK.mk {d:Nat} {k n:Int} {s:ByteArray} {ks:List Ty} (hl:ks.length≤1000000) (h:∀ t∈ks,TK d t):TK (d+1) (.mk k s n ks):=by
 refine ⟨?_,?_⟩
 ·rw [Ty.wd]
  exact ⟨hl,(Ty.wds_iff ks).2 fun t ht=>(h t ht).1⟩
 rw [Ty.dp]
 have:Ty.dps ks≤d:=Ty.dps_le fun t ht=>(h t ht).2
 omega
theorem TK.size {t:Ty} {d:Nat} (h:t.size≤d) (hd:d≤1000000):TK d t:=⟨Ty.size_wd _ t (Nat.le_refl _) (by omega),by have:=Ty.dp_size _ t (Nat.le_refl _);omega⟩
theorem TK.small {t:Ty} (h:t.small 60=true):TK 60 t:=TK.size (by have:=(Ty.small_size (by decide) h).1;omega) (by decide)
theorem TK.zero:TK 1 tyZ:=TK.size (by simp [Ty.size,Ty.sizes]) (by decide)
theorem args_dp:∀ (d:Nat) (t:Ty),t.size≤d→t.args.length≤t.dp∧(∀ u∈t.args,∀ m,TK m t→TK m u)∧∀ m,TK m t→TK m t.ans
 | 0,t,h=>by have:=Ty.size_pos t;omega
 | d+1,t,h=>by
  by_cases hf:t.isFun
  ·obtain ⟨n,a,b,rfl⟩:=Ty.fun_kids hf
   simp only [Ty.size,Ty.sizes] at h
   rw [Ty.args_fun,Ty.ans_fun]
   obtain ⟨h1,h2,h3⟩:=args_dp d b (by omega)
   refine ⟨?_,fun u hu m hm=>?_,fun m hm=>h3 m (hm.kid (by simp))⟩
   ·rw [List.length_cons,Ty.dp,Ty.dps,Ty.dps];omega
   rcases List.mem_cons.1 hu with rfl|hu
   ·exact hm.kid (by simp)
   exact h2 u hu m (hm.kid (by simp))
  rw [Ty.args_not hf,Ty.ans_not hf]
  exact ⟨Nat.zero_le _,by simp,fun m hm=>hm⟩
mutual
def Co.N:Co→Nat
 | .mk _ _ _ _ _ ks al bs=>2+Co.Ns ks+Ca.Ns al+Cb.Ns bs
def Co.Ns:List Co→Nat
 | []=>0
 | x::xs=>x.N+Co.Ns xs
def Ca.N:Ca→Nat
 | .mk q e=>1+q.size+e.N
def Ca.Ns:List Ca→Nat
 | []=>0
 | x::xs=>x.N+Ca.Ns xs
def Cb.N:Cb→Nat
 | .mk _ vs _ e=>1+vs.length+e.N
def Cb.Ns:List Cb→Nat
 | []=>0
 | x::xs=>x.N+Cb.Ns xs
end
theorem Co.Ns_mem:∀ {l:List Co} {x:Co},x∈l→x.N≤Co.Ns l
 | y::l,x,h=>by
  rw [Co.Ns]
  rcases List.mem_cons.1 h with rfl|h
  ·omega
  have:=Co.Ns_mem h;omega
theorem Ca.Ns_mem:∀ {l:List Ca} {x:Ca},x∈l→x.N≤Ca.Ns l
 | y::l,x,h=>by
  rw [Ca.Ns]
  rcases List.mem_cons.1 h with rfl|h
  ·omega
  have:=Ca.Ns_mem h;omega
theorem Cb.Ns_mem:∀ {l:List Cb} {x:Cb},x∈l→x.N≤Cb.Ns l
 | y::l,x,h=>by
  rw [Cb.Ns]
  rcases List.mem_cons.1 h with rfl|h
  ·omega
  have:=Cb.Ns_mem h;omega
theorem Cb.Ns_len:∀ l:List Cb,l.length≤Cb.Ns l
 | []=>Nat.le_refl _
 | .mk s vs t e::l=>by rw [Cb.Ns,Cb.N,List.length_cons];have:=Cb.Ns_len l;omega
structure SK (K:Nat) (sc:List Cb) (vs:List ByteArray):Prop where
 len:sc.length≤K
 vl:vs.length≤K
 tk:∀ b∈sc,TK (10000 * K) b.t
theorem SK.up {K K':Nat} {sc:List Cb} {vs:List ByteArray} (h:SK K sc vs) (k:K≤K'):SK K' sc vs:=⟨Nat.le_trans h.len k,Nat.le_trans h.vl k,fun b hb=>(h.tk b hb).up (by omega)⟩
theorem findL_mem {s:ByteArray}:∀ {sc:List Cb} {b:Cb},findL s sc=some b→b∈sc
 | c::l,b,h=>by
  rw [findL] at h
  cases q:findL s l with
  | some d =>
   rw [q] at h
   cases h
   exact List.mem_cons_of_mem _ (findL_mem q)
  | none =>
   rw [q] at h
   simp only [] at h
   split at h
   ·cases h;simp
   simp at h
open Go.RowKit
theorem unlike_c (l:List ByteArray):BCall Tryz.prog 69 [.seq 1 (strs l)] (unlB l=true):=by
 have hl:=Ye l
 obtain ⟨r,hr⟩:∃ r,dupB [] l=r:=⟨_,rfl⟩
 rw [show (unlB l=true)=(r=false) by unfold unlB;rw [hr];simp]
 refine Zc Tryz.func69 V (by kernel_rfl) V (Xz V) ?_
 refine Q15 ?_
 refine c_lens (t:=0) V (.seq _ _) (fun hmax=>?_)
 refine Q381 ?_
 refine Q70 ?_;intro n6
 refine Q317 ?_
 apply Yd (rg [(1,4),(7,11)]) (σ:=Nat) (fun zz=>match zz with|i=>[(7,.val (.int .i64 i))]) (fun zz=>match zz with|i=>i≤l.length∧dupB (l.take i) (l.drop i)=r) (fun zz=>match zz with|i=>l.length - i) (0)
 ·repeat' (first|exact Wc|apply Wa rfl|apply Wb rfl)
 ·exact ⟨Nat.zero_le _,hr⟩
 ·exact by4
 rintro i hI
 try dsimp only [List.cons_append,List.nil_append] at hI ⊢
 obtain ⟨hi,hd⟩:=hI
 refine Q318 ?_;intro c8 h8
 refine Q241 ?_
 rcases Za h8 with ⟨rfl,g8⟩|⟨rfl,g8⟩
 ·refine Q322 ?_
  rw [Wf (by omega),dupB] at hd
  subst hd
  exact Zf V V (Xt _) (Xo _) ⟨⟨_,iff_t V,V⟩,V⟩
 refine Q265 ?_
 obtain ⟨x,hxx⟩:=Zr (l:=l) (i:=i) by7
 have hcx:=strs_get hxx
 have hmx:=We hxx
 refine Q234 ?_
 refine Zb 10 V V V (Zg V te_44 V (.seq _ _) V V (hcx) ?_)
 refine Q14 ?_
 refine Q470 ?_
 rw [Yh hxx,dupB] at hd
 have HC:=ContainsS_c (l.take i) x
 rw [← strs_take] at HC
 refine Q314 ?_
 refine Zb 14 V V V (op_cuth (k:=i) V te_44 V (.seq _ _) V (by omega) (by omega) ?_)
 refine Q5 ?_
 refine Zb 16 V V V (Ze (xs:=[.tmp 14,.tmp 15]) V V (HC) by1 ?_);intro c16 h16
 refine Q226 ?_
 rcases Za h16 with ⟨rfl,g16⟩|⟨rfl,g16⟩
 ·refine Q375 ?_
  rw [if_neg (fun q=>g16 (hasB_iff.1 q)),← Yl hxx] at hd
  exact ⟨i+1,⟨by show i+1≤l.length;omega,hd⟩,by show l.length - (i+1)<l.length - i;omega,by4,by3⟩
 refine Q285 ?_
 rw [if_pos (hasB_iff.2 g16)] at hd
 subst hd
 exact Zf V V (Xt _) (Xo _) ⟨⟨_,iff_f (by simp),V⟩,V⟩
theorem IxF_S (p:ByteArray→Bool) (g:FuncId) (fs cs:List AV) (l:List ByteArray) (hg:∀ x∈l,BCall Tryz.prog g (fs++[.val (.string x)]++cs) (p x=true)):PCall Tryz.prog 170 [.seq 1 (strs l),.clo (.func g) fs cs] (.val (.int .i64 (findI p l 0))):=by
 have hl:=Ye l
 obtain ⟨r,hr⟩:∃ r,findI p l 0=r:=⟨_,rfl⟩
 rw [hr]
 refine Zc Tryz.func170 V (by kernel_rfl) V (Xz V) ?_
 refine Q15 ?_
 refine c_lens (t:=0) V (.seq _ _) (fun hmax=>?_)
 refine Q381 ?_
 refine Q70 ?_;intro n7
 refine Q317 ?_
 apply Yd (rg [(2,5),(8,11)]) (σ:=Nat) (fun zz=>match zz with|i=>[(8,.val (.int .i64 i))]) (fun zz=>match zz with|i=>i≤l.length∧findI p (l.drop i) i=r) (fun zz=>match zz with|i=>l.length - i) (0)
 ·repeat' (first|exact Wc|apply Wa rfl|apply Wb rfl)
 ·exact ⟨by omega,hr⟩
 ·exact by4
 rintro i hI
 try dsimp only [List.cons_append,List.nil_append] at hI ⊢
 obtain ⟨hi,hu⟩:=hI
 refine Q318 ?_;intro c9 h9
 refine Q241 ?_
 rcases Za h9 with ⟨rfl,g9⟩|⟨rfl,g9⟩
 ·refine Q322 ?_
  rw [List.drop_eq_nil_of_le (by omega),findI] at hu;exact Zf rfl rfl (Xt _) by3 ⟨by rw [← hu],rfl⟩
 refine Q265 ?_
 obtain ⟨y,hxy⟩:=Zr (l:=l) (i:=i) by7
 have hcy:=strs_get hxy
 have hmy:=We hxy
 refine Q459 ?_
 rw [Yh hxy,findI] at hu
 have HG:=hg _ hmy
 refine Q327 ?_
 refine Zb 14 V V V (Zg V te_44 V (.seq _ _) V V (hcy) ?_)
 refine Q14 ?_
 refine Zb 16 V V V (op_callvb (xs:=[.tmp 15]) V V V (HG) by1 ?_);intro c16 h16
 refine Q226 ?_
 rcases Za h16 with ⟨rfl,g16⟩|⟨rfl,g16⟩
 ·refine Q375 ?_
  rw [if_neg g16] at hu;exact ⟨i+1,⟨by omega,hu⟩,by show l.length - (i+1)<l.length - i;omega,by4,by3⟩
 refine Q358 ?_
 rw [if_pos g16] at hu;exact Zf rfl rfl (Xt _) by3 ⟨by rw [hu],rfl⟩
theorem CoF_S (p:ByteArray→Bool) (g:FuncId) (fs cs:List AV) (l:List ByteArray) (hg:∀ x∈l,BCall Tryz.prog g (fs++[.val (.string x)]++cs) (p x=true)):BCall Tryz.prog 117 [.seq 1 (strs l),.clo (.func g) fs cs] (l.any p=true):=by
 have H:=IxF_S p g fs cs l hg
 have hf:=findI_any (p:=p) (l:=l)
 refine Zc Tryz.func117 V (by kernel_rfl) V (Xz V) ?_
 refine Q408 ?_
 refine Zb 7 V V V (Zd (xs:=[.tmp 5,.tmp 6]) V V (H) by1 ?_)
 refine Q46 ?_;intro c8 h8
 refine Q232 ?_
 exact Zf V V (Xt _) by3 ⟨⟨_,h8.trans hf,V⟩,V⟩
theorem all1_S (p:ByteArray→Bool) (g:FuncId) (fs cs:List AV) (x:ByteArray) (hg:BCall Tryz.prog g (fs++[.val (.string x)]++cs) (p x=true)):BCall Tryz.prog 118 [.val (.string x),.cptr [.clo (.func g) fs cs]] ((!p x)=true):=by
 have hp:(!p x)=true↔¬ p x=true:=by simp
 generalize ((!p x)=true)=Q at *
 generalize hq:(p x=true)=q at *
 clear hq
 refine Zc Tryz.func118 V (by kernel_rfl) V (Xz V) ?_
 refine Q537 ?_
 refine Q14 ?_
 refine Q5 ?_
 refine Zb 6 V V V (op_callvb (xs:=[.tmp 5]) V V V (hg) by1 ?_);intro c6 h6
 refine Q26 ?_;intro c7 h7
 try replace h7:=Yo h7 h6
 refine Q232 ?_
 exact Zf V V (Xt _) (Xo _) ⟨⟨_,by first|exact h7.trans hp.symm|exact h6.trans hp.symm|exact h5.trans hp.symm,V⟩,V⟩
theorem all_S (p:ByteArray→Bool) (g:FuncId) (fs cs:List AV) (l:List ByteArray) (hg:∀ x∈l,BCall Tryz.prog g (fs++[.val (.string x)]++cs) (p x=true)):BCall Tryz.prog 70 [.seq 1 (strs l),.clo (.func g) fs cs] (l.all p=true):=by
 have H:=CoF_S (fun x => !p x) 118 [] [.cptr [.clo (.func g) fs cs]] l (fun x hx=>all1_S p g fs cs x (hg x hx))
 have hf:=any_not (p:=p) (l:=l)
 refine Zc Tryz.func70 V (by kernel_rfl) V (Xz V) ?_
 refine Q237 ?_
 refine Q100 ?_
 refine Q271 ?_
 refine Q96 ?_
 refine Zb 7 V V V (Ze (xs:=[.tmp 5,.tmp 6]) V V (H) by1 ?_);intro c7 h7
 refine Q26 ?_;intro c8 h8
 try replace h8:=Yo h8 h7
 refine Q232 ?_
 exact Zf V V (Xt _) (Xo _) ⟨⟨_,h8.trans hf,V⟩,V⟩
theorem CloneS_c (ks:List ByteArray) (hb:ks.length≤1000000000):OCall Tryz.prog 120 [.seq 1 (strs ks)] 9 1 (strs ks):=by
 have hl:=Ye ks
 refine Zc Tryz.func120 V (by kernel_rfl) V (Xz V) ?_
 refine Q527 ?_
 refine Zb 4 V V V (op_isnil V tu_44 V (.seq _ _) ?_)
 intro c4 h4
 refine Q226 ?_
 rcases c4 with _|_
 ·refine Q289 ?_
  refine Zb 5 V V V (Yt (xs:=[]) Xd V V V V V V (Xz V) ?_);intro u5
  refine Q5 ?_
  refine Zb 7 V V V (Zw (i:=0) Xd V V V V (.seq _ _) by6 ?_)
  intro u7
  refine Q232 ?_
  exact Zf V V (Xt _) by3 ⟨_,V,V⟩
 refine Q502 ?_
 refine Q88 ?_
 refine c_ret ?_
 rw [h4 rfl];exact Zf rfl rfl (Le.nilOwn 1) (Xn _) ⟨_,rfl,rfl⟩
theorem coAllow_c (v:En) (pm:List (List AV)) (sc:List Cb) (vs l:List ByteArray) (h1:vs.length≤1000000000) (h2:l.length≤1000000000):PCall Tryz.prog 73 [.agg (ckC v pm sc vs),.seq 1 (strs l)] (.agg (ckC v pm sc (vs++l))):=by
 have HC:=CloneS_c vs h1
 have hl1:=Ye vs
 have hl2:=Ye l
 unfold ckC
 rw [strs_app]
 obtain ⟨da,cl,ins⟩:=v
 simp only [En.cells,List.cons_append,List.nil_append]
 refine Zc Tryz.func73 V (by kernel_rfl) V (Xz V) ?_
 refine Q237 ?_
 refine Zb 2 V V V (op_boxe (cs':=[_,_,_,_,_,_]) V V V V ?_);intro b2
 refine Q112 ?_;intro b4
 refine Q258 ?_
 refine Q11 ?_
 refine Q272 ?_
 refine Zb 8 V V V (op_callo (xs:=[.tmp 7]) V V (HC) by1 ?_);intro u8
 refine Q5 ?_
 refine Zb 10 V V V (Zw (i:=0) Xd V V V V (.seq _ _) by6 ?_)
 intro u10
 refine Q11 ?_
 refine Q11 ?_
 refine Ya V V (Zu (cs':=[_,_,_,_,_,_]) (i:=2) V ts_44 V V V V V (Xz V) V ?_)
 refine Q258 ?_
 refine Q191 ?_
 refine Q192 ?_
 refine Q257 ?_
 exact Zj (i:=1) V V V ta_92 V by2 (Xo _) ⟨V,V⟩
theorem coPut_c (names:List ByteArray) (ts l:List Ty) (hts:∀ t∈ts,t.wd) (hl:∀ t∈l,t.wd) (hb:l.length≤90000000000):PCall Tryz.prog 145 [.seq 1 (strs names),.seq 4 (Ty.cellss ts),.seq 4 (Ty.cellss l)] (.seq 4 (Ty.cellss (l.map (Ty.turn (putO names ts))))):=by
 have HP:=fun t ht=>PutW_c names ts t hts (hl t ht)
 have hll:=Ty.cellss_len l
 generalize hF:Ty.turn (putO names ts)=F at *
 refine Zc Tryz.func145 V (by kernel_rfl) V (Xz V) ?_
 refine Q15 ?_
 refine c_lens (t:=2) V (.seq _ _) (fun hmax=>?_)
 refine Q227 ?_
 refine Q264 ?_
 refine Q275 ?_
 refine Q47 ?_;intro n11
 refine Q317 ?_
 refine Yv 24 4 ?_
 apply Ym (rg [(2,4),(7,3),(12,12)]) (σ:=Nat × List Ty × Value) (fun zz=>match zz with|(i,out,u)=>[(7,.own u 4 (Ty.cellss out)),(12,.val (.int .i64 i))]) (fun zz=>match zz with|(i,out,u)=>[.own 24 4 u]) (fun zz=>match zz with|(i,out,u)=>i≤l.length∧out=(l.take i).map F) (fun zz=>match zz with|(i,out,u)=>l.length - i) ((0,[],.slice none 0 0))
 ·repeat' (first|exact Wc|apply Wa rfl|apply Wb rfl)
 ·exact ⟨Nat.zero_le _,V⟩
 ·exact Xw V (Le.nilOwn 4) (Xw V (Xt _) (SLe.nil _))
 ·exact (Xs V)
 rintro ⟨i,out,u⟩ hI
 try dsimp only [List.cons_append,List.nil_append] at hI ⊢
 obtain ⟨hi,ho⟩:=hI
 have hol:(Ty.cellss out).length=i:=by rw [Ty.cellss_len,ho,List.length_map,List.length_take];omega
 refine Q318 ?_;intro c13 h13
 refine Q241 ?_
 rcases Za h13 with ⟨rfl,g13⟩|⟨rfl,g13⟩
 ·refine Q364 ?_
  rw [List.take_of_length_le (by omega)] at ho
  subst ho
  exact Zf V V (Le.own _ _ _) (Xo _) ⟨V,V⟩
 refine Q265 ?_
 obtain ⟨⟨qk,qs,qn,ql⟩,hxq⟩:=Zr (l:=l) (i:=i) by7
 have hcq:=Ty.cellss_get hxq
 have hmq:=We hxq
 have HPq:=HP _ hmq
 obtain ⟨⟨rk,rs,rn,rl⟩,hr⟩:∃ r,F ⟨qk,qs,qn,ql⟩=r:=⟨_,rfl⟩
 rw [hr] at HPq
 refine Q4 ?_
 refine Zb 14 V V V (Zg V te_22 V (.seq _ _) V V (hcq) ?_)
 refine Q42 ?_
 refine Q21 ?_;intro b9
 refine Q30 ?_
 refine Q226 ?_
 refine Q327 ?_
 refine Q49 ?_
 refine Zb 20 V V V (Zd (xs:=[.tmp 17,.tmp 18,.tmp 19]) V V (HPq) by1 ?_)
 refine Zb 21 V V V (Zh (xs:=[.tmp 20]) el_22 V V V V V V (Xz V) (Zb 22 V V V (Zw (i:=1) el_22 V V V V (.seq _ _) by6 ?_)))
 intro u22
 refine Q450 ?_
 exact ⟨(i+1,out++[⟨rk,rs,rn,rl⟩],u22),⟨by show i+1≤l.length;omega,by show out++[_]=_;rw [Yl hxq,List.map_append,← ho,List.map_cons,hr];rfl⟩,by show l.length - (i+1)<l.length - i;omega,Xw V (Xy (by rw [Ty.cellss_app];rfl)) by4,by3⟩
theorem coIs_c (v:En) (pm:List Pm) (sc:List Cb) (vs:List ByteArray) (e:Co) (r:Ty × Bool) (t:Ty) (H:TypC v pm sc vs e r):BCall Tryz.prog 75 [.agg (ckC v (Pm.cellss pm) sc vs),.agg e.cells,.agg t.cells] ((r.2 && r.1.eqC t)=true):=by
 have HS:=tSameType_c r.1 t
 rw [show ((r.2 && r.1.eqC t)=true)=(r.2=true∧r.1=t) by rw [Bool.and_eq_true,Ty.eqC_iff]]
 unfold TypC ckC at *
 obtain ⟨⟨rk,rn,rm,rl⟩,c14⟩:=r
 obtain ⟨k,s,n,⟨tk,ts,tn,tl⟩,us,ks,al,bs⟩:=e
 obtain ⟨uk,un,um,ul⟩:=t
 obtain ⟨da,cl,ins⟩:=v
 simp only [En.cells,List.cons_append,List.nil_append] at *
 generalize (Ty.mk rk rn rm rl=Ty.mk uk un um ul)=q at *
 refine Zc Tryz.func75 V (by kernel_rfl) V (Xz V) ?_
 refine Q300 ?_
 refine Q43 ?_
 refine Q69 ?_
 refine Q264 ?_
 refine Q483 ?_
 refine Zb 12 V V V (Zd (xs:=[.tmp 10,.tmp 11]) V V (H) by1 ?_)
 refine Q478 ?_;intro b7
 refine Q30 ?_
 refine Q238 ?_
 refine Zy 6 (c14=true∧q) ?_ _ _ V ?_
 ·skip
  refine Q277 ?_
  have h16:(c14=true↔c14=true):=Iff.rfl
  rcases Za h16 with ⟨rfl,g16⟩|⟨rfl,g16⟩
  ·skip
   refine Q549 ?_
   refine Xx V ?_ by5 by3
   clear H HS;first|(simp_all;done)|grind
  skip
  refine Q184 ?_
  refine Q94 ?_
  refine Zq 19 V V V V V (Ze (xs:=[.tmp 17,.tmp 18]) V V (HS) by1 ?_);intro c19 h19
  refine Q273 ?_
  refine Xx V ?_ by5 by3
  clear H HS;first|(simp_all;done)|grind
 intro c6 h6
 refine Q303 ?_
 exact Zf V V (Xt _) (Xo _) ⟨⟨_,h6,V⟩,V⟩
theorem coOf1_c (v:En) (pm:List Pm) (sc:List Cb) (vs:List ByteArray) (e:Co) (r:Ty × Bool) (t:Ty) (H:TypC v pm sc vs e r):BCall Tryz.prog 156 [.agg e.cells,.agg t.cells,.cptr (ckC v (Pm.cellss pm) sc vs)] ((r.2 && r.1.eqC t)=true):=by
 have HI:=coIs_c v pm sc vs e r t H
 generalize ((r.2 && r.1.eqC t)=true)=q at *
 unfold ckC at *
 clear H
 obtain ⟨k,s,n,⟨tk,ts,tn,tl⟩,us,ks,al,bs⟩:=e
 obtain ⟨uk,un,um,ul⟩:=t
 obtain ⟨da,cl,ins⟩:=v
 simp only [En.cells,List.cons_append,List.nil_append] at *
 refine Zc Tryz.func156 V (by kernel_rfl) V (Xz V) ?_
 refine Q517 ?_
 refine Q69 ?_
 refine Q264 ?_
 refine Q483 ?_
 refine Q42 ?_
 refine Zb 9 V V V (Ze (xs:=[.tmp 6,.tmp 7,.tmp 8]) V V (HI) by1 ?_);intro c9 h9
 refine Q232 ?_
 exact Zf V V (Xt _) (Xo _) ⟨⟨_,h9,V⟩,V⟩
theorem okL_len {f:Co→Ty × Bool}:∀ {xs:List Co} {ts:List Ty},okL f xs ts=true→xs.length=ts.length
 | [],[],_=>rfl
 | [],_::_,h=>by simp [okL] at h
 | _::_,[],h=>by simp [okL] at h
 | x::xs,t::ts,h=>by
  rw [okL,Bool.and_eq_true] at h
  simp [okL_len h.2]
theorem EqF_CT (f:Co→Ty × Bool) (g:FuncId) (cs:List AV) (xs:List Co) (ts:List Ty) (hg:∀ x∈xs,∀ t,BCall Tryz.prog g ([]++[.agg x.cells,.agg t.cells]++cs) (((f x).2 && (f x).1.eqC t)=true)):BCall Tryz.prog 155 [.seq 11 (Co.cellss xs),.seq 4 (Ty.cellss ts),.clo (.func g) [] cs] (okL f xs ts=true):=by
 have hx:=Co.cellss_len xs
 have hq:=Ty.cellss_len ts
 obtain ⟨r,hr⟩:∃ r,okL f xs ts=r:=⟨_,rfl⟩
 have hln := @okL_len f xs ts
 rw [hr] at hln ⊢
 refine Zc Tryz.func155 V (by kernel_rfl) V (Xz V) ?_
 refine Q15 ?_
 refine c_lens (t:=0) V (.seq _ _) (fun hmax=>?_)
 refine Q381 ?_
 refine Q68 ?_;intro n11
 refine Q5 ?_
 refine Q47 ?_;intro n13
 refine Q34 ?_;intro c14 h14
 refine Q226 ?_
 rcases Za h14 with ⟨rfl,g14⟩|⟨rfl,g14⟩
 ·refine Q329 ?_
  refine Q68 ?_;intro n16
  refine Q317 ?_
  apply Yd (rg [(0,1),(3,12),(17,15)]) (σ:=Nat) (fun zz=>match zz with|i=>[(17,.val (.int .i64 i))]) (fun zz=>match zz with|i=>i≤xs.length∧okL f (xs.drop i) (ts.drop i)=r) (fun zz=>match zz with|i=>xs.length - i) (0)
  ·repeat' (first|exact Wc|apply Wa rfl|apply Wb rfl)
  ·exact ⟨Nat.zero_le _,hr⟩
  ·exact by4
  rintro i hI
  try dsimp only [List.cons_append,List.nil_append] at hI ⊢
  obtain ⟨hi,hf⟩:=hI
  refine Q318 ?_;intro c18 h18
  refine Q241 ?_
  rcases Za h18 with ⟨rfl,g18⟩|⟨rfl,g18⟩
  ·refine Q322 ?_
   rw [Wf (by omega),Wf (by omega),okL] at hf
   subst hf
   exact Zf V V (Xt _) (Xo _) ⟨⟨_,iff_t V,V⟩,V⟩
  refine Q265 ?_
  obtain ⟨⟨yk,ys,yn,⟨ytk,yts,ytn,ytl⟩,yus,yks,yal,ybs⟩,hxy⟩:=Zr (l:=xs) (i:=i) by7
  have hcy:=Co.cellss_get hxy
  have hmy:=We hxy
  obtain ⟨⟨zk,zs,zn,zl⟩,hxz⟩:=Zr (l:=ts) (i:=i) by7
  have hcz:=Ty.cellss_get hxz
  have hmz:=We hxz
  have HG:=hg _ hmy ⟨zk,zs,zn,zl⟩
  rw [Yh hxy,Yh hxz,okL] at hf
  generalize f (Co.mk yk ys yn ⟨ytk,yts,ytn,ytl⟩ yus yks yal ybs)=fy at *
  generalize (fy.2 && fy.1.eqC ⟨zk,zs,zn,zl⟩)=w at *
  refine Q234 ?_
  refine Zb 20 V V V (Zg V te_25 V (.seq _ _) V V (hcy) ?_)
  refine Q72 ?_
  refine Q133 ?_;intro b8
  refine Q6 ?_
  refine Q134 ?_
  refine Q287 ?_
  refine Q5 ?_
  refine Zb 24 V V V (Zg V te_22 V (.seq _ _) V V (hcz) ?_)
  refine Q42 ?_
  refine Q21 ?_;intro b9
  refine Q30 ?_
  refine Q287 ?_
  refine Q193 ?_
  refine Q49 ?_
  refine Zb 29 V V V (op_callvb (xs:=[.tmp 27,.tmp 28]) V V V (HG) by1 ?_);intro c29 h29
  refine Q26 ?_;intro c30 h30
  try replace h30:=Yo h30 h29
  refine Q226 ?_
  rcases Za h30 with ⟨rfl,g30⟩|⟨rfl,g30⟩
  ·refine Q375 ?_
   rw [show w=true by simpa using g30,Bool.true_and] at hf
   exact ⟨i+1,⟨by show i+1≤xs.length;omega,hf⟩,by show xs.length - (i+1)<xs.length - i;omega,by4,by3⟩
  refine Q285 ?_
  rw [show w=false by simpa using g30,Bool.false_and] at hf
  subst hf
  exact Zf V V (Xt _) (Xo _) ⟨⟨_,iff_f (by simp),V⟩,V⟩
 refine Q285 ?_
 exact Zf V V (Xt _) (Xo _) ⟨⟨_,iff_f (fun q=>by have:=hln q;omega),V⟩,V⟩
theorem coOf_c (v:En) (pm:List Pm) (sc:List Cb) (vs:List ByteArray) (f:Co→Ty × Bool) (xs:List Co) (ts:List Ty) (H:∀ x∈xs,TypC v pm sc vs x (f x)):BCall Tryz.prog 93 [.agg (ckC v (Pm.cellss pm) sc vs),.seq 11 (Co.cellss xs),.seq 4 (Ty.cellss ts)] (okL f xs ts=true):=by
 have HE:=EqF_CT f 156 [.cptr (ckC v (Pm.cellss pm) sc vs)] xs ts (fun x hx t=>coOf1_c v pm sc vs x (f x) t (H x hx))
 generalize (okL f xs ts=true)=q at *
 unfold ckC at *
 clear H
 obtain ⟨da,cl,ins⟩:=v
 simp only [En.cells,List.cons_append,List.nil_append] at *
 refine Zc Tryz.func93 V (by kernel_rfl) V (Xz V) ?_
 refine Q300 ?_
 refine Q341 ?_
 refine Q96 ?_
 refine Zb 10 V V V (Ze (xs:=[.tmp 7,.tmp 8,.tmp 9]) V V (HE) by1 ?_);intro c10 h10
 refine Q232 ?_
 exact Zf V V (Xt _) (Xo _) ⟨⟨_,h10,V⟩,V⟩
theorem IxF_Cn (p:Cn→Bool) (g:FuncId) (fs cs:List AV) (l:List Cn) (hg:∀ x∈l,BCall Tryz.prog g (fs++[.agg x.cells]++cs) (p x=true)):PCall Tryz.prog 207 [.seq 3 (Cn.cellss l),.clo (.func g) fs cs] (.val (.int .i64 (findI p l 0))):=by
 have hl:=Cn.cellss_len l
 obtain ⟨r,hr⟩:∃ r,findI p l 0=r:=⟨_,rfl⟩
 rw [hr]
 refine Zc Tryz.func207 V (by kernel_rfl) V (Xz V) ?_
 refine Q15 ?_
 refine c_lens (t:=0) V (.seq _ _) (fun hmax=>?_)
 refine Q381 ?_
 refine Zb 7 V V V (Yu V tu_112 V (.seq _ _) (fun n7=>?_))
 refine Q317 ?_
 apply Yd (rg [(2,5),(8,11)]) (σ:=Nat) (fun zz=>match zz with|i=>[(8,.val (.int .i64 i))]) (fun zz=>match zz with|i=>i≤l.length∧findI p (l.drop i) i=r) (fun zz=>match zz with|i=>l.length - i) (0)
 ·repeat' (first|exact Wc|apply Wa rfl|apply Wb rfl)
 ·exact ⟨by omega,hr⟩
 ·exact by4
 rintro i hI
 try dsimp only [List.cons_append,List.nil_append] at hI ⊢
 obtain ⟨hi,hu⟩:=hI
 refine Q318 ?_;intro c9 h9
 refine Q241 ?_
 rcases Za h9 with ⟨rfl,g9⟩|⟨rfl,g9⟩
 ·refine Q322 ?_
  rw [List.drop_eq_nil_of_le (by omega),findI] at hu;exact Zf rfl rfl (Xt _) by3 ⟨by rw [← hu],rfl⟩
 refine Q265 ?_
 obtain ⟨⟨ys,yts,yp⟩,hxy⟩:=Zr (l:=l) (i:=i) by7
 have hcy:=Cn.cellss_get hxy
 have hmy:=We hxy
 refine Q459 ?_
 rw [Yh hxy,findI] at hu
 have HG:=hg _ hmy
 refine Q327 ?_
 refine Zb 14 V V V (Zg V te_112 V (.seq _ _) V V (hcy) (Zb 15 V V V (Yb (cs':=[_,_,_]) V ta_163 V V V (Zb 16 V V V (op_callvb (xs:=[.tmp 15]) V V V (HG) by1 ?_)))));intro c16 h16
 refine Q226 ?_
 rcases Za h16 with ⟨rfl,g16⟩|⟨rfl,g16⟩
 ·refine Q375 ?_
  rw [if_neg g16] at hu;exact ⟨i+1,⟨by omega,hu⟩,by show l.length - (i+1)<l.length - i;omega,by4,by3⟩
 refine Q358 ?_
 rw [if_pos g16] at hu;exact Zf rfl rfl (Xt _) by3 ⟨by rw [hu],rfl⟩
theorem fnd_Cn (p:Cn→Bool) (g:FuncId) (fs cs:List AV) (l:List Cn) (hg:∀ x∈l,BCall Tryz.prog g (fs++[.agg x.cells]++cs) (p x=true)):PCall Tryz.prog 180 [.seq 3 (Cn.cellss l),.clo (.func g) fs cs] (.tup [.val (.int .i64 (max (findI p l 0) 0)),.val (.bool (decide (0≤findI p l 0)))]):=by
 have H:=IxF_Cn p g fs cs l hg
 refine Zc Tryz.func180 V (by kernel_rfl) V (Xz V) ?_
 refine Q237 ?_
 refine Q416 ?_
 refine Zb 9 V V V (Zd (xs:=[.tmp 7,.tmp 8]) V V (H) by1 ?_)
 refine Q271 ?_
 refine Q158 ?_
 refine Q346 ?_;intro c13 h13
 refine Q253 ?_
 exact Yy V V V (Le.tup (Xv (Xt _) (Xv (Le.beq (by cases c13 <;> simp_all)) (Xu _)))) by3 ⟨V,V⟩
theorem Con1_c (x:Cn) (s:ByteArray):BCall Tryz.prog 181 [.agg x.cells,.cptr [.val (.string s)]] (sameB x.s s=true):=by
 obtain ⟨cs,ts,p⟩:=x
 rw [show (sameB (Cn.mk cs ts p).s s=true)=(cs=s) from propext Xb]
 refine Zc Tryz.func181 V (by kernel_rfl) V (Xz V) ?_
 refine Q353 ?_
 refine Q477 ?_
 refine Q14 ?_
 refine Q60 ?_;intro c7 h7
 refine Q232 ?_
 exact Zf V V (Xt _) (Xo _) ⟨⟨_,h7,V⟩,V⟩
def conJ (s:ByteArray):List Da→Nat→Option (Nat × Nat)
 | [],_=>none
 | d::l,i=>if findI (fun (c:Cn)=>sameB c.s s) d.cs 0<0 then conJ s l (i+1) else some (i,(findI (fun (c:Cn)=>sameB c.s s) d.cs 0).toNat)
def conT:Option (Nat × Nat)→AV
 | none=>.tup [.val (.int .i64 0),.val (.int .i64 0),.val (.bool false)]
 | some (i,k)=>.tup [.val (.int .i64 i),.val (.int .i64 k),.val (.bool true)]
theorem tCon_c (v:En) (s:ByteArray):PCall Tryz.prog 144 [.agg v.cells,.val (.string s)] (conT (conJ s v.da 0)):=by
 obtain ⟨r,hr⟩:∃ r,conJ s v.da 0=r:=⟨_,rfl⟩
 rw [hr]
 have HF:=fun l:List Cn=>fnd_Cn (fun c=>sameB c.s s) 181 [] [.cptr [.val (.string s)]] l (fun x _=>Con1_c x s)
 obtain ⟨da,cl,ins⟩:=v
 have hld:=Da.cellss_len da
 simp only [En.cells,En.da] at *
 refine Zc Tryz.func144 V (by kernel_rfl) V (Xz V) ?_
 refine Q15 ?_
 refine c_lena (t:=0) (j:=0) V V (.seq _ _) (fun hmax=>?_)
 refine Q499 ?_
 refine Q100 ?_
 refine Q6 ?_
 refine Q6 ?_
 refine Q383 ?_
 refine Q117 ?_;intro n13
 refine Q317 ?_
 apply Ym (rg [(0,3),(4,8),(14,16)]) (σ:=Nat) (fun zz=>match zz with|i=>[(14,.val (.int .i64 i))]) (fun zz=>match zz with|i=>[]) (fun zz=>match zz with|i=>i≤da.length∧conJ s (da.drop i) i=r) (fun zz=>match zz with|i=>da.length - i) (0)
 ·repeat' (first|exact Wc|apply Wa rfl|apply Wb rfl)
 ·exact ⟨Nat.zero_le _,hr⟩
 ·exact by4
 ·exact (Xo _)
 rintro i hI
 try dsimp only [List.cons_append,List.nil_append] at hI ⊢
 obtain ⟨hi,hf⟩:=hI
 refine Q318 ?_;intro c15 h15
 refine Q241 ?_
 rcases Za h15 with ⟨rfl,g15⟩|⟨rfl,g15⟩
 ·refine Q296 ?_
  refine Q403 ?_
  rw [Wf (by omega),conJ] at hf
  subst hf
  exact out_ttt V V V V (Xt _) (Xo _) ⟨V,V⟩
 refine Q265 ?_
 obtain ⟨⟨qs,qps,qcs,qdv,qp⟩,hxq⟩:=Zr (l:=da) (i:=i) by7
 have hcq:=Da.cellss_get hxq
 have hmq:=We hxq
 rw [Yh hxq,conJ] at hf
 have HFq:=HF qcs
 have hf:(if findI (fun (c:Cn)=>sameB c.s s) qcs 0<0 then conJ s (da.drop (i+1)) (i+1) else some (i,(findI (fun (c:Cn)=>sameB c.s s) qcs 0).toNat))=r:=hf
 obtain ⟨fi,hfi⟩:∃ fi,findI (fun (c:Cn)=>sameB c.s s) qcs 0=fi:=⟨_,rfl⟩
 rw [hfi] at HFq hf
 clear hfi
 obtain ⟨c25,hc25⟩:∃ c,decide (0≤fi)=c:=⟨_,rfl⟩
 rw [hc25] at HFq
 refine Q234 ?_
 refine Zb 17 V V V (Zg V te_37 V (.seq _ _) V V (hcq) ?_)
 refine Q540 ?_;intro b8
 refine Q6 ?_
 refine Q110 ?_
 refine Q378 ?_
 refine Q96 ?_
 refine Zb 23 V V V (Zd (xs:=[.tmp 21,.tmp 22]) V V (HFq) by1 ?_)
 refine Q308 ?_
 refine Q6 ?_
 refine Q271 ?_
 refine Q226 ?_
 rcases c25 with _|_
 ·refine Q375 ?_
  have h0:¬ 0≤fi:=by simpa using hc25
  rw [if_pos (by omega)] at hf
  exact ⟨i+1,⟨by show i+1≤da.length;omega,hf⟩,by show da.length - (i+1)<da.length - i;omega,by4,by3⟩
 refine Q391 ?_
 refine Q403 ?_
 have h0:0≤fi:=by simpa using hc25
 rw [if_neg (by omega)] at hf
 subst hf
 exact out_ttt V V V V (Le.tup (Xv (Xt _) (Xv (Le.ieq (by omega)) (Xu _)))) (Xo _) ⟨V,V⟩
theorem conJ_none {s:ByteArray}:∀ {l:List Da} {i:Nat},conC s l=none→conJ s l i=none
 | [],_,_=>rfl
 | d::l,i,h=>by
  rw [conC] at h
  rw [conJ]
  by_cases q:findI (fun (c:Cn)=>sameB c.s s) d.cs 0<0
  ·rw [if_pos q] at h ⊢
   exact conJ_none h
  rw [if_neg q] at h
  obtain ⟨y,h1,_⟩:=findI_get (fun (c:Cn)=>sameB c.s s) d.cs 0 (by omega)
  have h1:d.cs[(findI (fun (c:Cn)=>sameB c.s s) d.cs 0).toNat]?=some y:=by simpa using h1
  rw [h1] at h
  simp at h
theorem conJ_some {s:ByteArray} {d:Da} {c:Cn}:∀ {l:List Da} {i0:Nat},conC s l=some (d,c)→∃ i k:Nat,conJ s l i0=some (i0+i,k)∧l[i]?=some d∧d.cs[k]?=some c
 | [],_,h=>by simp [conC] at h
 | e::l,i0,h=>by
  rw [conC] at h
  rw [conJ]
  by_cases q:findI (fun (c:Cn)=>sameB c.s s) e.cs 0<0
  ·rw [if_pos q] at h ⊢
   obtain ⟨i,k,h1,h2,h3⟩:=conJ_some (i0:=i0+1) h
   exact ⟨i+1,k,by rw [h1];congr 2;omega,by simpa using h2,h3⟩
  rw [if_neg q] at h ⊢
  cases hc:e.cs[(findI (fun (c:Cn)=>sameB c.s s) e.cs 0).toNat]? with
  | none=>rw [hc] at h;simp at h
  | some y =>
   rw [hc] at h
   cases h
   exact ⟨0,_,V,V,hc⟩
theorem tCon_none (v:En) (s:ByteArray) (h:conC s v.da=none):PCall Tryz.prog 144 [.agg v.cells,.val (.string s)] (.tup [.val (.int .i64 0),.val (.int .i64 0),.val (.bool false)]):=by
 have:=tCon_c v s
 rw [conJ_none h] at this
 exact this
theorem tCon_some (v:En) (s:ByteArray) (d:Da) (c:Cn) (h:conC s v.da=some (d,c)):∃ i k:Nat,PCall Tryz.prog 144 [.agg v.cells,.val (.string s)] (.tup [.val (.int .i64 i),.val (.int .i64 k),.val (.bool true)])∧v.da[i]?=some d∧d.cs[k]?=some c:=by
 obtain ⟨i,k,h1,h2,h3⟩:=conJ_some (i0:=0) h
 have:=tCon_c v s
 rw [h1,Nat.zero_add] at this
 exact ⟨i,k,this,h2,h3⟩
def conQ (v:En) (f:Co→Ty × Bool) (s:ByteArray) (ts:List Ty) (ks:List Co):Ty × Bool:=match conC s v.da with
 | none=>(tyZ,false)
 | some (d,c)=>if d.ps.length=ts.length∧okL f ks (c.ts.map (Ty.turn (putO d.ps ts)))=true then (.mk 3 d.s 0 ts,true) else (tyZ,false)
theorem coCon_c (v:En) (pm:List Pm) (sc:List Cb) (vs:List ByteArray) (f:Co→Ty × Bool) (k m:Int) (s:ByteArray) (t:Ty) (ts:List Ty) (ks:List Co) (al:List Ca) (bs:List Cb) (H:∀ x∈ks,TypC v pm sc vs x (f x)) (hts:∀ t∈ts,t.wd) (htl:ts.length≤100000000) (hv:∀ d∈v.da,∀ c∈d.cs,(∀ t∈c.ts,t.wd)∧c.ts.length≤90000000000) :
    PCall Tryz.prog 84 [.agg (ckC v (Pm.cellss pm) sc vs),.agg (Co.mk k s m t ts ks al bs).cells] (.tup [.agg (conQ v f s ts ks).1.cells,.val (.bool (conQ v f s ts ks).2)]):=by
 have hlt:=Ty.cellss_len ts
 obtain ⟨tk,tn,tm,tl⟩:=t
 obtain ⟨r,hr⟩:∃ r,conQ v f s ts ks=r:=⟨_,rfl⟩
 rw [hr]
 unfold conQ at hr
 cases hc:conC s v.da with
 | none =>
  rw [hc] at hr
  subst hr
  have HC:=tCon_none v s hc
  clear H hv hc
  obtain ⟨da,cl,ins⟩:=v
  unfold ckC at *
  simp only [En.cells,List.cons_append,List.nil_append] at *
  refine Zc Tryz.func84 V (by kernel_rfl) V (Xz V) ?_
  refine Q315 ?_;intro b4
  refine Q264 ?_
  refine Q518 ?_
  refine Zb 15 V V V (Zd (xs:=[.tmp 12,.tmp 14]) V V (HC) by1 ?_)
  refine Q511 ?_;intro c20 h20
  try replace h20:=Yo h20 h18
  refine Q226 ?_
  rcases Za h20 with ⟨rfl,g20⟩|⟨rfl,g20⟩
  ·refine Q242 ?_
   exact absurd g20 (by simp)
  refine Q449 ?_
  exact Yn (i:=0) V V V V Yi V by0 (Xo _) ⟨V,V⟩
 | some dc =>
  obtain ⟨⟨ds,dps,dcs,ddv,dp⟩,⟨cs,cts,cp⟩⟩:=dc
  rw [hc] at hr
  have hr:(if dps.length=ts.length∧okL f ks (cts.map (Ty.turn (putO dps ts)))=true then (Ty.mk 3 ds 0 ts,true) else (tyZ,false))=r:=hr
  obtain ⟨i,j,HC,hi,hj⟩:=tCon_some v s _ _ hc
  have hj:dcs[j]?=some (.mk cs cts cp):=hj
  obtain ⟨hv1,hv2⟩:=hv _ (We hi) _ (We hj)
  have HP:=coPut_c dps ts cts hts hv1 hv2
  have HO:=coOf_c v pm sc vs f ks (cts.map (Ty.turn (putO dps ts))) H
  have HN:=Con_c ds ts htl
  have hci:=Da.cellss_get hi
  have hcj:=Cn.cellss_get hj
  have hlp:=Ye dps
  generalize cts.map (Ty.turn (putO dps ts))=A at *
  generalize okL f ks A=w at *
  clear H hv hc
  obtain ⟨da,cl,ins⟩:=v
  unfold ckC at *
  simp only [En.cells,En.da,List.cons_append,List.nil_append] at *
  refine Zc Tryz.func84 V (by kernel_rfl) V (Xz V) ?_
  refine Q315 ?_;intro b4
  refine Q264 ?_
  refine Q518 ?_
  refine Zb 15 V V V (Zd (xs:=[.tmp 12,.tmp 14]) V V (HC) by1 ?_)
  refine Q511 ?_;intro c20 h20
  try replace h20:=Yo h20 h18
  refine Q226 ?_
  rcases Za h20 with ⟨rfl,g20⟩|⟨rfl,g20⟩
  ·refine Q289 ?_
   refine Q13 ?_
   refine Q297 ?_
   refine Zb 26 V V V (Zg V te_37 V (.seq _ _) V V (hci) ?_)
   refine Q540 ?_;intro b9
   refine Q110 ?_
   refine Q426 ?_
   refine c_boold 52 (¬ (dps.length=ts.length∧w=true)) Xl V ?_ _ _ V ?_
   ·skip
    refine Q392 ?_
    refine Zx 30 V V (Yu V tu_44 V (.seq _ _) (fun _=>⟨V,V⟩)) ?_
    refine Q293 ?_
    refine Zx 33 V V (Yu V tu_22 V (.seq _ _) (fun _=>⟨V,V⟩)) ?_
    refine Yr 34 V V (fun _ q=>op_neq V V V q) ?_;intro c34 h34
    refine Q20 ?_
    rcases Za h34 with ⟨rfl,g34⟩|⟨rfl,g34⟩
    ·skip
     refine Q161 ?_
     refine Q333 ?_
     refine Q444 ?_
     refine Q333 ?_
     refine Q444 ?_
     refine Q50 ?_
     refine Yg 46 V V V V (Zg V te_112 V (.seq _ _) V V (hcj) ⟨V,V⟩) ?_
     refine Q333 ?_
     refine Yg 49 V V V V (Zd (xs:=[.tmp 40,.tmp 42,.tmp 48]) V V (HP) by1 ⟨V,V⟩) ?_
     refine Ys 50 V V V V (fun _ q=>Ze (xs:=[.tmp 36,.tmp 38,.tmp 49]) V V (HO) by1 q) ?_;intro c50 h50
     refine Ys 51 V V V V (fun _ q=>op_notc V V q) ?_;intro c51 h51
     try replace h51:=Yo h51 h50
     refine Q33 ?_
     show BoolQ _ _ _ _ _ _
     refine Xx V ?_ by5 by3
     clear HP HO HN HC;first|(simp_all;done)|grind
    skip
    refine Q348 ?_
    refine Q348 ?_
    refine Q33 ?_
    show BoolQ _ _ _ _ _ _
    refine Xx V ?_ by5 by3
    clear HP HO HN HC;first|(simp_all;done)|grind
   intro c52 h52
   refine Q1 ?_
   rcases Za h52 with ⟨rfl,g52⟩|⟨rfl,g52⟩
   ·refine Q259 ?_
    refine Q280 ?_
    refine Q235 ?_
    refine Zb 58 V V V (Zd (xs:=[.tmp 55,.tmp 57]) V V (HN) by1 ?_)
    refine Q357 ?_
    rw [if_pos (Classical.not_not.1 g52)] at hr
    subst hr
    exact Yn (i:=1) V V V V Yi V by0 (Xo _) ⟨V,V⟩
   refine Q384 ?_
   refine Q357 ?_
   rw [if_neg g52] at hr
   subst hr
   exact Yn (i:=1) V V V V Yi V by0 (Xo _) ⟨V,V⟩
  refine Q302 ?_
  exact absurd g20 (by simp)
def primQ (pm:List Pm) (f:Co→Ty × Bool) (m:Int) (ts:List Ty) (ks:List Co):Ty × Bool:=if m<1∨pm.length<m then (tyZ,false) else match pm[(m - 1).toNat]? with
 | none=>(tyZ,false)
 | some p=>if p.sc.vs.length=ts.length∧okL f ks (p.sc.t.args.map (Ty.turn (putO p.sc.vs ts)))=true then (p.sc.t.ans.turn (putO p.sc.vs ts),true) else (tyZ,false)
theorem coPrim_c (v:En) (pm:List Pm) (sc:List Cb) (vs:List ByteArray) (f:Co→Ty × Bool) (k m:Int) (s:ByteArray) (t:Ty) (ts:List Ty) (ks:List Co) (al:List Ca) (bs:List Cb) (H:∀ x∈ks,TypC v pm sc vs x (f x)) (hts:∀ t∈ts,t.wd) (hpm:∀ p∈pm,p.sc.t.size≤1000) :
    PCall Tryz.prog 91 [.agg (ckC v (Pm.cellss pm) sc vs),.agg (Co.mk k s m t ts ks al bs).cells] (.tup [.agg (primQ pm f m ts ks).1.cells,.val (.bool (primQ pm f m ts ks).2)]):=by
 have hlt:=Ty.cellss_len ts
 have hlp:=Pm.cellss_len pm
 obtain ⟨tk,tn,tm,tl⟩:=t
 obtain ⟨r,hr⟩:∃ r,primQ pm f m ts ks=r:=⟨_,rfl⟩
 rw [hr]
 unfold primQ at hr
 by_cases hm:m<1∨pm.length<m
 ·rw [if_pos hm] at hr
  subst hr
  clear H
  generalize hpg:Pm.cellss pm=pg at *
  obtain ⟨da,cl,ins⟩:=v
  unfold ckC at *
  simp only [En.cells,List.cons_append,List.nil_append] at *
  refine Zc Tryz.func91 V (by kernel_rfl) V (Xz V) ?_
  refine Q315 ?_;intro b4
  refine Q306 ?_
  refine Zy 19 (m<1∨pm.length<m) ?_ _ _ V ?_
  ·skip
   refine Q235 ?_
   refine Q19 ?_;intro c11 h11
   refine Q5 ?_
   rcases Za h11 with ⟨rfl,g11⟩|⟨rfl,g11⟩
   ·skip
    refine Q526 ?_
    refine Zq 17 V V V V V (Yu V tu_90 V (.seq _ _) (fun n17=>?_))
    refine Q71 ?_;intro c18 h18
    refine Q236 ?_
    refine Xx V ?_ by5 by3
    first|(simp_all;done)|(simp_all;omega)|grind
   skip
   refine Q413 ?_
   refine Xx V ?_ by5 by3
   first|(simp_all;done)|(simp_all;omega)|grind
  intro c19 h19
  refine Q1 ?_
  rcases Za h19 with ⟨rfl,g19⟩|⟨rfl,g19⟩
  ·refine Q242 ?_
   exact absurd hm g19
  refine Q449 ?_
  exact Yn (i:=0) V V V V Yi V by0 (Xo _) ⟨V,V⟩
 rw [if_neg hm] at hr
 obtain ⟨⟨qs,qo,qn,⟨qvs,qps,⟨qk,qss,qm,ql⟩⟩⟩,hq⟩:=Zr (l:=pm) (i:=(m - 1).toNat) (by omega)
 rw [hq] at hr
 have hr:(if qvs.length=ts.length∧okL f ks ((Ty.mk qk qss qm ql).args.map (Ty.turn (putO qvs ts)))=true then ((Ty.mk qk qss qm ql).ans.turn (putO qvs ts),true) else (tyZ,false))=r:=hr
 have hcq:=Pm.cellss_get hq
 have hz:(Ty.mk qk qss qm ql).size≤1000:=hpm _ (We hq)
 have HA:=Args_c (.mk qk qss qm ql) (by omega)
 have hTK:=TK.size (t:=.mk qk qss qm ql) (d:=1000) hz (by decide)
 obtain ⟨a1,a2,a3⟩:=args_dp _ (.mk qk qss qm ql) (Nat.le_refl _)
 have HP:=coPut_c qvs ts (Ty.mk qk qss qm ql).args hts (fun u hu=>(a2 u hu _ hTK).1) (by have:=hTK.2;omega)
 have HU:=PutW_c qvs ts (Ty.mk qk qss qm ql).ans hts (a3 _ hTK).1
 have HO:=coOf_c v pm sc vs f ks ((Ty.mk qk qss qm ql).args.map (Ty.turn (putO qvs ts))) H
 have hlv:=Ye qvs
 clear a1 a2 a3 hTK hz H hpm
 generalize (Ty.mk qk qss qm ql).args.map (Ty.turn (putO qvs ts))=B at *
 generalize (Ty.mk qk qss qm ql).args=A at *
 obtain ⟨⟨yk,ys,yn,yl⟩,hy⟩:∃ y,(Ty.mk qk qss qm ql).ans.turn (putO qvs ts)=y:=⟨_,rfl⟩
 rw [hy] at HU hr
 clear hy
 generalize (Ty.mk qk qss qm ql).ans=N at *
 obtain ⟨nk,ns,nn,nl⟩:=N
 generalize okL f ks B=w at *
 generalize hpg:Pm.cellss pm=pg at *
 obtain ⟨da,cl,ins⟩:=v
 unfold ckC at *
 simp only [En.cells,List.cons_append,List.nil_append] at *
 refine Zc Tryz.func91 V (by kernel_rfl) V (Xz V) ?_
 refine Q15 ?_
 refine c_lena (t:=0) (j:=5) V V (.seq _ _) (fun hmax=>?_)
 refine Q227 ?_
 refine Q40 ?_
 refine Q311 ?_;intro b4
 refine Q306 ?_
 refine Zy 19 (m<1∨pm.length<m) ?_ _ _ V ?_
 ·skip
  refine Q235 ?_
  refine Q19 ?_;intro c11 h11
  refine Q5 ?_
  rcases Za h11 with ⟨rfl,g11⟩|⟨rfl,g11⟩
  ·skip
   refine Q526 ?_
   refine Zq 17 V V V V V (Yu V tu_90 V (.seq _ _) (fun n17=>?_))
   refine Q71 ?_;intro c18 h18
   refine Q236 ?_
   refine Xx V ?_ by5 by3
   first|(simp_all;done)|(simp_all;omega)|grind
  skip
  refine Q413 ?_
  refine Xx V ?_ by5 by3
  first|(simp_all;done)|(simp_all;omega)|grind
 intro c19 h19
 refine Q1 ?_
 rcases Za h19 with ⟨rfl,g19⟩|⟨rfl,g19⟩
 ·refine Q259 ?_
  refine Q270 ?_
  refine Q235 ?_
  refine Q65 ?_
  refine Zb 26 V V V (Zg (i:=(m - 1).toNat) V te_90 V (.seq _ _) V (by first|rfl|omega) (hcq) ?_)
  refine Zb 27 V V V (Yb (cs':=[_,_,_,_,_,_,_,_,_]) V ta_187 V V V (Zb 6 V V V (Yk (cs':=[_,_,_,_,_,_,_,_,_]) V tz_187 V V ?_)));intro b6
  refine Ya V V (Zu (cs':=[_,_,_,_,_,_,_,_,_]) (i:=0) V ts_187 V V V V V (Xz V) V ?_)
  refine Q241 ?_
  refine Q227 ?_
  refine Q11 ?_
  refine Q243 ?_
  refine Q70 ?_;intro n31
  refine Q535 ?_;intro n34
  refine Q34 ?_;intro c35 h35
  refine Q226 ?_
  rcases Za h35 with ⟨rfl,g35⟩|⟨rfl,g35⟩
  ·refine Q289 ?_
   refine Q11 ?_
   refine Q506 ?_
   refine Zb 41 V V V (Zd (xs:=[.tmp 40]) V V (HA) by1 ?_)
   refine Q478 ?_;intro b8
   refine Q6 ?_
   refine Q340 ?_
   refine Q2 ?_
   refine Q51 ?_
   refine Q194 ?_
   refine Q293 ?_
   refine Q55 ?_
   refine Q425 ?_
   refine Q370 ?_
   refine Zx 53 V V (Zd (xs:=[.tmp 49,.tmp 51,.tmp 52]) V V (HP) by1 ⟨V,V⟩) ?_
   refine Yr 54 V V (fun _ q=>Ze (xs:=[.tmp 44,.tmp 46,.tmp 53]) V V (HO) by1 q) ?_;intro c54 h54
   refine Yr 55 V V (fun _ q=>op_notc V V q) ?_;intro c55 h55
   try replace h55:=Yo h55 h54
   show AGo _ _ _ _ _ _ _
   refine Q1 ?_
   rcases Za h55 with ⟨rfl,g55⟩|⟨rfl,g55⟩
   ·refine Q289 ?_
    refine Q11 ?_
    refine Q272 ?_
    refine Q235 ?_
    refine Q49 ?_
    refine Zb 63 V V V (Zd (xs:=[.tmp 59,.tmp 61,.tmp 62]) V V (HU) by1 ?_)
    refine Q446 ?_
    rw [if_pos ⟨by omega,Classical.not_not.1 g55⟩] at hr
    subst hr
    exact Yn (i:=2) V V V V Yi V by0 (Xo _) ⟨V,V⟩
   refine Q384 ?_
   refine Q446 ?_
   rw [if_neg (fun q=>g55 q.2)] at hr
   subst hr
   exact Yn (i:=2) V V V V Yi V by0 (Xo _) ⟨V,V⟩
  refine Q384 ?_
  refine Q357 ?_
  rw [if_neg (fun q=>g35 (by omega))] at hr
  subst hr
  exact Yn (i:=1) V V V V Yi V by0 (Xo _) ⟨V,V⟩
 refine Q302 ?_
 exact absurd g19 hm
structure EnT (v:En):Prop where
 su:∀ c∈v.cl,∀ u∈c.su,u.size≤1000000000000
 sl:∀ c∈v.cl,c.su.length≤1000000∧c.ms.length≤1000000
 mt:∀ c∈v.cl,∀ m∈c.ms,m.t.size≤9000
 ct:∀ d∈v.da,∀ c∈d.cs,c.ts.length≤1000000∧∀ t∈c.ts,t.size≤9000
theorem classI_hit {v:En} {s:ByteArray} (h:0≤classI v s):∃ c,v.cl[(classI v s).toNat]?=some c∧c.s=s:=by
 obtain ⟨y,h1,h2,_⟩:=findI_get (fun (c:Cl)=>sameB c.s s) v.cl 0 h
 exact ⟨y,h1,Xb.1 h2⟩
theorem coParts_none (v:En) (s:ByteArray) (t:Ty) (h:partsC v s t=none):PCall Tryz.prog 92 [.agg v.cells,.val (.string s),.agg t.cells] (.tup [.seq 4 [],.val (.bool false)]):=by
 have HC:=tClass_c v s
 have hc:¬ 0≤classI v s:=fun q=>by
  unfold partsC at h
  obtain ⟨c,h1,_⟩:=classI_hit q
  rw [if_neg (by omega),h1] at h
  simp at h
 rw [decide_eq_false hc] at HC
 generalize classI v s=i at *
 obtain ⟨tk,tn,tm,tl⟩:=t
 obtain ⟨da,cl,ins⟩:=v
 simp only [En.cells] at *
 refine Zc Tryz.func92 V (by kernel_rfl) V (Xz V) ?_
 refine Q353 ?_
 refine Q69 ?_
 refine Q6 ?_
 refine Q536 ?_
 refine Q5 ?_
 refine Zb 18 V V V (Zd (xs:=[.tmp 16,.tmp 17]) V V (HC) by1 ?_)
 refine Q308 ?_
 refine Q417 ?_;intro c22 h22
 try replace h22:=Yo h22 h20
 refine Q226 ?_
 rcases Za h22 with ⟨rfl,g22⟩|⟨rfl,g22⟩
 ·refine Q242 ?_
  exact absurd g22 (by simp)
 refine Q379 ?_
 exact Yy V V V (Le.tup (Xv (Le.nil 4) (Xu _))) (Xo _) ⟨V,V⟩
theorem coParts_some (v:En) (hv:EnT v) (s:ByteArray) (t:Ty) (ht:t.wd) (l:List Ty) (h:partsC v s t=some l):PCall Tryz.prog 92 [.agg v.cells,.val (.string s),.agg t.cells] (.tup [.seq 4 (Ty.cellss l),.val (.bool true)]):=by
 have HC:=tClass_c v s
 have hc:0≤classI v s:=by
  unfold partsC at h
  by_cases q:classI v s<0
  ·rw [if_pos q] at h;simp at h
  omega
 obtain ⟨⟨ys,yv,ysu,yms,yds,yp⟩,hy,_⟩:=classI_hit hc
 rw [decide_eq_true hc] at HC
 have hmy:=We hy
 unfold partsC at h
 rw [if_neg (by omega),hy] at h
 have h:ysu.map (fun u=>starC u t)++yms.map (fun m=>m.t.turn (putO [yv] [t]))=l:=Option.some.inj h
 obtain ⟨hl1,hl2⟩:=hv.sl _ hmy
 have hl1:ysu.length≤1000000:=hl1
 have hl2:yms.length≤1000000:=hl2
 have hsz:∀ u∈ysu,u.size≤1000000000000:=hv.su _ hmy
 have HP:=fun (m:Me) (hm:m∈yms)=>PutW_c [yv] [t] m.t (by simpa using ht) (Ty.size_wd _ m.t (Nat.le_refl _) (by have:m.t.size≤9000:=hv.mt _ hmy m hm;omega))
 have HN:=fun u:ByteArray=>Con_c (kBr++u) [t] (by simp)
 have hcy:=Cl.cellss_get hy
 rw [show max (classI v s) 0=((classI v s).toNat:Int) by omega] at HC
 generalize (classI v s).toNat=i at *
 have hls:=Ye ysu
 have hlm:=Me.cellss_len yms
 have hk:kBr.size=1:=rfl
 have hk2:(⟨#[123]⟩:ByteArray).size=1:=rfl
 clear hv hc
 generalize hF:Ty.turn (putO [yv] [t])=F at *
 obtain ⟨tk,tn,tm,tl⟩:=t
 obtain ⟨da,cl,ins⟩:=v
 simp only [En.cells,En.cl,starC] at *
 refine Zc Tryz.func92 V (by kernel_rfl) V (Xz V) ?_
 refine Q353 ?_
 refine Q69 ?_
 refine Q6 ?_
 refine Q536 ?_
 refine Q5 ?_
 refine Zb 18 V V V (Zd (xs:=[.tmp 16,.tmp 17]) V V (HC) by1 ?_)
 refine Q308 ?_
 refine Q417 ?_;intro c22 h22
 try replace h22:=Yo h22 h20
 refine Q226 ?_
 rcases Za h22 with ⟨rfl,g22⟩|⟨rfl,g22⟩
 ·refine Q289 ?_
  refine Q383 ?_
  refine Q5 ?_
  refine Zb 26 V V V (Zg V te_38 V (.seq _ _) V V (hcy) ?_)
  refine Q235 ?_
  refine Q70 ?_;intro n29
  refine Q317 ?_
  refine Yv 24 4 ?_
  apply Ym (rg [(0,3),(4,1),(9,5),(15,13),(30,13)]) (σ:=Nat × List Ty × Value) (fun zz=>match zz with|(n,out,u)=>[(10,.own u 4 (Ty.cellss out)),(30,.val (.int .i64 n))]) (fun zz=>match zz with|(n,out,u)=>[.own 24 4 u]) (fun zz=>match zz with|(n,out,u)=>n≤ysu.length∧out=(ysu.take n).map fun u=>Ty.mk 3 (kBr++u) 0 [.mk tk tn tm tl]) (fun zz=>match zz with|(n,out,u)=>ysu.length - n) ((0,[],.slice none 0 0))
  ·repeat' (first|exact Wc|apply Wa rfl|apply Wb rfl)
  ·exact ⟨Nat.zero_le _,V⟩
  ·exact Xw V (Le.nilOwn 4) (Xw V (Xt _) by4)
  ·exact (Xs V)
  rintro ⟨n,out,u⟩ hI
  try dsimp only [List.cons_append,List.nil_append] at hI ⊢
  obtain ⟨hn,ho⟩:=hI
  have hol:(Ty.cellss out).length=n:=by rw [Ty.cellss_len,ho,List.length_map,List.length_take];omega
  refine Q318 ?_;intro c31 h31
  refine Q241 ?_
  rcases Za h31 with ⟨rfl,g31⟩|⟨rfl,g31⟩
  ·refine Q347 ?_
   rw [List.take_of_length_le (by omega)] at ho
   rw [← ho] at h
   refine Q372 ?_
   refine Zb 46 V V V (Zg V te_38 V (.seq _ _) V V (hcy) ?_)
   refine Q235 ?_
   refine Q126 ?_;intro n49
   refine Q317 ?_
   apply Ym (rg [(0,3),(4,1),(9,39),(50,20)]) (σ:=Nat × List Ty × Value) (fun zz=>match zz with|(n,o2,u)=>[(10,.own u 4 (Ty.cellss o2)),(50,.val (.int .i64 n))]) (fun zz=>match zz with|(n,o2,u)=>[.own 24 4 u]) (fun zz=>match zz with|(n,o2,u)=>n≤yms.length∧o2=out++(yms.take n).map fun m=>F m.t) (fun zz=>match zz with|(n,o2,u)=>yms.length - n) ((0,out,u))
   ·repeat' (first|exact Wc|apply Wa rfl|apply Wb rfl)
   ·exact ⟨Nat.zero_le _,by simp⟩
   ·exact by4
   ·exact by3
   rintro ⟨n,o2,u⟩ hI
   try dsimp only [List.cons_append,List.nil_append] at hI ⊢
   obtain ⟨hn2,ho2⟩:=hI
   have hol2:(Ty.cellss o2).length=out.length+n:=by rw [Ty.cellss_len,ho2,List.length_append,List.length_map,List.length_take];omega
   have hol3:out.length≤1000000:=by rw [ho,List.length_map];omega
   refine Q318 ?_;intro c51 h51
   refine Q241 ?_
   rcases Za h51 with ⟨rfl,g51⟩|⟨rfl,g51⟩
   ·refine Q342 ?_
    refine Q253 ?_
    rw [List.take_of_length_le (by omega)] at ho2
    rw [← h,← ho2]
    exact Yy V V V (Le.tup (Xv (Le.own _ _ _) (Xu _))) (Xo _) ⟨V,V⟩
   refine Q265 ?_
   obtain ⟨⟨xs,⟨xtk,xts,xtn,xtl⟩,xp⟩,hxx⟩:=Zr (l:=yms) (i:=n) by7
   have hcx:=Me.cellss_get hxx
   have hmx:=We hxx
   refine Q4 ?_
   refine Zb 52 V V V (Zg V te_116 V (.seq _ _) V V (hcx) ?_)
   refine Q181 ?_
   refine Q182 ?_;intro b14
   refine Q183 ?_
   refine Q226 ?_
   have HPx:=HP _ hmx
   obtain ⟨⟨rk,rs,rn,rl⟩,hr⟩:∃ r,F ⟨xtk,xts,xtn,xtl⟩=r:=⟨_,rfl⟩
   have HPx:PCall Tryz.prog 82 [.seq 1 (strs [yv]),.seq 4 (Ty.cellss [.mk tk tn tm tl]),.agg (Ty.mk xtk xts xtn xtl).cells] (.agg (F ⟨xtk,xts,xtn,xtl⟩).cells):=HPx
   rw [hr] at HPx
   refine Yp [0,1,2,3,4,5,6,7,8,9,10,11,12,13,14,15] [14] [[],[],[1],[],[1,2,3],[1,2,3,4],[1,2,3,4,5],[1,2,3,4,5,6],[],[8],[],[10],[1,2,3,4,5,6,7,8,9,10,11],[1,2,3,4,5,6,7,8,9,10,11,12],[0,1,2,3,4,5,6,7,8,9,10,11,12,13],[0,1,2,3,4,5,6,7,8,9,10,11,12,13,14]] Xl V ?_
   refine Q24 ?_
   refine Q468 ?_
   refine Zm 58 (none) (i:=4) V V V V V (Zg V te_38 V (.seq _ _) V V (hcy) ⟨V,V⟩) ?_
   refine Q354 ?_
   refine Zm 61 (none) (i:=7) V V V V V (Zh (xs:=[.tmp 60]) Xd V V V V V V (Xz V) ⟨V,V⟩) ?_
   refine Q103 ?_
   refine Zm 63 (none) (i:=9) V V V V V (Zh (xs:=[.tmp 62]) el_22 V V V V V V (Xz V) ⟨V,V⟩) ?_
   refine Q27 ?_
   refine Q113 ?_
   refine Zm 66 (none) (i:=12) V V V V V (Zd (xs:=[.tmp 61,.tmp 63,.tmp 65]) V V (HPx) by1 ⟨V,V⟩) ?_
   refine Zm 67 (none) (i:=13) V V V V V (Zh (xs:=[.tmp 66]) el_22 V V V V V V (Xz V) ⟨V,V⟩) ?_
   refine Yf 1 (i:=14) V V V V V (Zw (i:=0) el_22 V V V V (.seq _ _) by6 (fun u68=>⟨_,V,?_⟩))
   refine Q58 ?_
   show AGo _ _ _ _ _ _ _
   refine Q323 ?_
   exact ⟨(n+1,o2++[⟨rk,rs,rn,rl⟩],u68),⟨by show n+1≤yms.length;omega,by show o2++[_]=_;rw [Yl hxx,List.map_append,← List.append_assoc,← ho2,← hr];rfl⟩,by show yms.length - (n+1)<yms.length - n;omega,Xw V (Xy (by rw [Ty.cellss_app];rfl)) by4,by3⟩
  refine Q265 ?_
  obtain ⟨x,hxx⟩:=Zr (l:=ysu) (i:=n) by7
  have hcx:=strs_get hxx
  have hmx:=We hxx
  refine Q4 ?_
  refine Zb 32 V V V (Zg V te_44 V (.seq _ _) V V (hcx) ?_)
  refine Q14 ?_
  refine Q228 ?_
  have HNx:=HN x
  have hzx:=hsz x hmx
  refine Q314 ?_
  refine Q162 ?_
  refine Q42 ?_
  refine Zb 38 V V V (Zh (xs:=[.tmp 37]) el_22 V V V V V V (Xz V) (Zb 39 V V V (Zd (xs:=[.tmp 36,.tmp 38]) V V (HNx) by1 ?_)))
  refine Zb 40 V V V (Zh (xs:=[.tmp 39]) el_22 V V V V V V (Xz V) (Zb 41 V V V (Zw (i:=0) el_22 V V V V (.seq _ _) by6 ?_)))
  intro u41
  refine Q450 ?_
  exact ⟨(n+1,out++[Ty.mk 3 (kBr++x) 0 [.mk tk tn tm tl]],u41),⟨by show n+1≤ysu.length;omega,by show out++[_]=_;rw [Yl hxx,List.map_append,← ho];rfl⟩,by show ysu.length - (n+1)<ysu.length - n;omega,Xw V (Xy (by rw [Ty.cellss_app];rfl)) by4,by3⟩
 refine Q302 ?_
 exact absurd g22 (by simp)
theorem ArgsL_c (t:Ty) (hmx:t.args.length≤90000000000):PCall Tryz.prog 85 [.agg t.cells] (.tup [.seq 4 (Ty.cellss t.args),.agg t.ans.cells]):=by
 have has:=hmx
 obtain ⟨k,s,n,ks⟩:=t
 refine Zc Tryz.func85 V (by kernel_rfl) V (Xz V) ?_
 refine Q374 ?_;intro b1
 refine Q6 ?_
 refine Q21 ?_;intro b3
 refine Q258 ?_
 refine Q387 ?_
 refine ACode.ownNil (t:=4) 24 4 V ?_
 refine c_loop (σ:=Ty × List Ty × Value) (fun zz=>match zz with|(c,dn,u)=>[(1,.ptr b1 0),(3,.ptr b3 0),(4,.own u 4 (Ty.cellss dn))]) (fun zz=>match zz with|(c,dn,u)=>[.own 24 4 u,.loc b3 [.val (.int .i64 0),.val (.string ⟨#[]⟩),.val (.int .i64 0),.val (.slice none 0 0)],.loc b1 c.cells]) (fun zz=>match zz with|(c,dn,u)=>dn++c.args=Ty.args (.mk k s n ks)∧c.ans=Ty.ans (.mk k s n ks)) (fun zz=>match zz with|(c,dn,u)=>c.size) ((.mk k s n ks,[],.slice none 0 0)) ?_ ?_ ?_ ?_
 ·exact ⟨V,V⟩
 ·exact by4
 ·exact by3
 rintro ⟨⟨ck,cs,cn,cks⟩,dn,u⟩ hI
 try dsimp only [List.cons_append,List.nil_append] at hI ⊢
 obtain ⟨ha,hb⟩:=hI
 refine Q2 ?_
 refine Q227 ?_
 refine Q95 ?_
 refine Zb 6 V V V (Ze (xs:=[.tmp 5]) V V (fun_c (.mk ck cs cn cks)) by1 ?_);intro c6 h6
 refine Q226 ?_
 rcases Za h6 with ⟨rfl,g6⟩|⟨rfl,g6⟩
 ·refine Q343 ?_
  rw [Ty.args_not g6] at ha
  rw [Ty.ans_not g6] at hb
  refine Yp [0,1,2,3] [3] [[],[],[0],[0,1,2]] Xl V ?_
  refine Q24 ?_
  refine Q116 ?_
  refine Q58 ?_
  refine Q97 ?_
  show AGo _ _ _ _ _ _ _
  refine Q303 ?_
  rw [← ha,← hb]
  exact out_tc (i:=1) V V V V Yi V (by repeat' (first|exact Xt _|exact Le.own _ _ _|exact Le.nil _|refine Le.agg ?_|refine Le.tup ?_|exact Xu _|refine Xv ?_ ?_|(refine Xy ?_;simp)|(refine Le.own_seq ?_;simp)|(refine Le.seq_eq ?_;simp))) by3 ⟨V,V⟩
 refine Q423 ?_
 obtain ⟨n',⟨ka,sa,na,kas⟩,⟨kb,sb,nb,kks⟩,e⟩:=Ty.fun_kids g6
 cases e
 rw [Ty.args_fun] at ha
 rw [Ty.ans_fun] at hb
 have hln:=congrArg List.length ha
 simp only [List.length_append,List.length_cons] at hln
 refine Q234 ?_
 refine Q388 ?_
 refine Zb 10 V V V (Zg (i:=0) V te_22 V (.seq _ _) V V (by first|rfl|assumption) ?_)
 refine Q42 ?_
 refine Q177 ?_
 refine Zb 13 V V V (Zw (i:=0) el_22 V V V V (.seq _ _) (by simp [Ty.cellss_len];omega) ?_)
 intro u13
 refine Q494 ?_
 refine Q388 ?_
 refine Zb 16 V V V (Zg (i:=1) V te_22 V (.seq _ _) V V (by first|rfl|assumption) ?_)
 refine Q42 ?_
 refine Q75 ?_
 refine Q365 ?_
 exact ⟨(.mk kb sb nb kks,dn++[.mk ka sa na kas],u13),⟨by rw [← ha];simp,hb⟩,by simp [Ty.size,Ty.sizes];omega,(by repeat' (first|exact SLe.nil _|refine Xw V ?_ ?_|exact Xt _|exact Le.own _ _ _|exact Le.nil _|(refine Xy ?_;(rw [Ty.cellss_app];rfl))|(refine Le.own_seq ?_;(rw [Ty.cellss_app];rfl))|(refine Le.seq_eq ?_;(rw [Ty.cellss_app];rfl)))),by3⟩
theorem typ_con (v:En) (pm:List Pm) (sc:List Cb) (vs:List ByteArray) (m:Int) (s:ByteArray) (t:Ty) (ts:List Ty) (ks:List Co) (al:List Ca) (bs:List Cb) (r:Ty × Bool) (h:ts.all (rightC v vs)=true) (H:PCall Tryz.prog 84 [.agg (ckC v (Pm.cellss pm) sc vs),.agg (Co.mk 4 s m t ts ks al bs).cells] (.tup [.agg r.1.cells,.val (.bool r.2)])):TypC v pm sc vs (.mk 4 s m t ts ks al bs) r:=by
 have HA:=all_Ty (rightC v vs) 80 [] [.cptr (ckC v (Pm.cellss pm) sc vs)] ts (fun x _=>typ1_c v (Pm.cellss pm) sc vs x)
 rw [h] at HA
 obtain ⟨tk,tn,tm,tl⟩:=t
 obtain ⟨⟨rk,rn,rm,rl⟩,c67⟩:=r
 obtain ⟨da,cl,ins⟩:=v
 unfold TypC ckC at *
 simp only [En.cells,List.cons_append,List.nil_append] at *
 refine Zc Tryz.func48 V (by kernel_rfl) V (Xz V) ?_
 refine Q315 ?_;intro b4
 refine Q360 ?_;intro b6
 refine Q362 ?_
 refine Zb 21 V V V (Ze (xs:=[.tmp 19,.tmp 20]) V V (HA) by1 ?_);intro c21 h21
 refine Q26 ?_;intro c22 h22
 try replace h22:=Yo h22 h21
 refine Q226 ?_
 rcases Za h22 with ⟨rfl,g22⟩|⟨rfl,g22⟩
 ·refine Q367 ?_;intro c27 h27
  refine Q228 ?_
  rcases Za h27 with ⟨rfl,g27⟩|⟨rfl,g27⟩
  ·refine Q254 ?_;intro c56 h56
   refine Q228 ?_
   rcases Za h56 with ⟨rfl,g56⟩|⟨rfl,g56⟩
   ·refine Q254 ?_;intro c59 h59
    refine Q228 ?_
    rcases Za h59 with ⟨rfl,g59⟩|⟨rfl,g59⟩
    ·refine Q254 ?_;intro c62 h62
     refine Q228 ?_
     rcases Za h62 with ⟨rfl,g62⟩|⟨rfl,g62⟩
     ·exact absurd V g62
     refine Q553 ?_
     refine Zb 65 V V V (Zd (xs:=[.tmp 63,.tmp 64]) V V (H) by1 ?_)
     refine Q554 ?_
     exact Yn (i:=1) V V V V Yi V by0 (Xo _) ⟨V,V⟩
    omega
   omega
  omega
 refine Q302 ?_
 exact absurd trivial g22
theorem typ_let (v:En) (pm:List Pm) (sc:List Cb) (vs:List ByteArray) (m:Int) (s:ByteArray) (t:Ty) (ts:List Ty) (ks:List Co) (al:List Ca) (bs:List Cb) (r:Ty × Bool) (h:ts.all (rightC v vs)=true) (H:PCall Tryz.prog 89 [.agg (ckC v (Pm.cellss pm) sc vs),.agg (Co.mk 7 s m t ts ks al bs).cells] (.tup [.agg r.1.cells,.val (.bool r.2)])):TypC v pm sc vs (.mk 7 s m t ts ks al bs) r:=by
 have HA:=all_Ty (rightC v vs) 80 [] [.cptr (ckC v (Pm.cellss pm) sc vs)] ts (fun x _=>typ1_c v (Pm.cellss pm) sc vs x)
 rw [h] at HA
 obtain ⟨tk,tn,tm,tl⟩:=t
 obtain ⟨⟨rk,rn,rm,rl⟩,c158⟩:=r
 obtain ⟨da,cl,ins⟩:=v
 unfold TypC ckC at *
 simp only [En.cells,List.cons_append,List.nil_append] at *
 refine Zc Tryz.func48 V (by kernel_rfl) V (Xz V) ?_
 refine Q315 ?_;intro b4
 refine Q360 ?_;intro b6
 refine Q362 ?_
 refine Zb 21 V V V (Ze (xs:=[.tmp 19,.tmp 20]) V V (HA) by1 ?_);intro c21 h21
 refine Q26 ?_;intro c22 h22
 try replace h22:=Yo h22 h21
 refine Q226 ?_
 rcases Za h22 with ⟨rfl,g22⟩|⟨rfl,g22⟩
 ·refine Q367 ?_;intro c27 h27
  refine Q228 ?_
  rcases Za h27 with ⟨rfl,g27⟩|⟨rfl,g27⟩
  ·refine Q254 ?_;intro c56 h56
   refine Q228 ?_
   rcases Za h56 with ⟨rfl,g56⟩|⟨rfl,g56⟩
   ·refine Q254 ?_;intro c59 h59
    refine Q228 ?_
    rcases Za h59 with ⟨rfl,g59⟩|⟨rfl,g59⟩
    ·refine Q254 ?_;intro c62 h62
     refine Q228 ?_
     rcases Za h62 with ⟨rfl,g62⟩|⟨rfl,g62⟩
     ·refine Q254 ?_;intro c69 h69
      refine Q228 ?_
      rcases Za h69 with ⟨rfl,g69⟩|⟨rfl,g69⟩
      ·refine Q254 ?_;intro c114 h114
       refine Q228 ?_
       rcases Za h114 with ⟨rfl,g114⟩|⟨rfl,g114⟩
       ·refine Q254 ?_;intro c153 h153
        refine Q228 ?_
        rcases Za h153 with ⟨rfl,g153⟩|⟨rfl,g153⟩
        ·exact absurd V g153
        refine Q553 ?_
        refine Zb 156 V V V (Zd (xs:=[.tmp 154,.tmp 155]) V V (H) by1 ?_)
        refine Q554 ?_
        exact Yn (i:=1) V V V V Yi V by0 (Xo _) ⟨V,V⟩
       omega
      omega
     omega
    omega
   omega
  omega
 refine Q302 ?_
 exact absurd trivial g22
theorem typ_cases (v:En) (pm:List Pm) (sc:List Cb) (vs:List ByteArray) (m:Int) (s:ByteArray) (t:Ty) (ts:List Ty) (ks:List Co) (al:List Ca) (bs:List Cb) (r:Ty × Bool) (h:ts.all (rightC v vs)=true) (H:PCall Tryz.prog 90 [.agg (ckC v (Pm.cellss pm) sc vs),.agg (Co.mk 8 s m t ts ks al bs).cells] (.tup [.agg r.1.cells,.val (.bool r.2)])):TypC v pm sc vs (.mk 8 s m t ts ks al bs) r:=by
 have HA:=all_Ty (rightC v vs) 80 [] [.cptr (ckC v (Pm.cellss pm) sc vs)] ts (fun x _=>typ1_c v (Pm.cellss pm) sc vs x)
 rw [h] at HA
 obtain ⟨tk,tn,tm,tl⟩:=t
 obtain ⟨⟨rk,rn,rm,rl⟩,c165⟩:=r
 obtain ⟨da,cl,ins⟩:=v
 unfold TypC ckC at *
 simp only [En.cells,List.cons_append,List.nil_append] at *
 refine Zc Tryz.func48 V (by kernel_rfl) V (Xz V) ?_
 refine Q315 ?_;intro b4
 refine Q360 ?_;intro b6
 refine Q362 ?_
 refine Zb 21 V V V (Ze (xs:=[.tmp 19,.tmp 20]) V V (HA) by1 ?_);intro c21 h21
 refine Q26 ?_;intro c22 h22
 try replace h22:=Yo h22 h21
 refine Q226 ?_
 rcases Za h22 with ⟨rfl,g22⟩|⟨rfl,g22⟩
 ·refine Q367 ?_;intro c27 h27
  refine Q228 ?_
  rcases Za h27 with ⟨rfl,g27⟩|⟨rfl,g27⟩
  ·refine Q254 ?_;intro c56 h56
   refine Q228 ?_
   rcases Za h56 with ⟨rfl,g56⟩|⟨rfl,g56⟩
   ·refine Q254 ?_;intro c59 h59
    refine Q228 ?_
    rcases Za h59 with ⟨rfl,g59⟩|⟨rfl,g59⟩
    ·refine Q254 ?_;intro c62 h62
     refine Q228 ?_
     rcases Za h62 with ⟨rfl,g62⟩|⟨rfl,g62⟩
     ·refine Q254 ?_;intro c69 h69
      refine Q228 ?_
      rcases Za h69 with ⟨rfl,g69⟩|⟨rfl,g69⟩
      ·refine Q254 ?_;intro c114 h114
       refine Q228 ?_
       rcases Za h114 with ⟨rfl,g114⟩|⟨rfl,g114⟩
       ·refine Q254 ?_;intro c153 h153
        refine Q228 ?_
        rcases Za h153 with ⟨rfl,g153⟩|⟨rfl,g153⟩
        ·refine Q254 ?_;intro c160 h160
         refine Q228 ?_
         rcases Za h160 with ⟨rfl,g160⟩|⟨rfl,g160⟩
         ·exact absurd V g160
         refine Q553 ?_
         refine Zb 163 V V V (Zd (xs:=[.tmp 161,.tmp 162]) V V (H) by1 ?_)
         refine Q554 ?_
         exact Yn (i:=1) V V V V Yi V by0 (Xo _) ⟨V,V⟩
        omega
       omega
      omega
     omega
    omega
   omega
  omega
 refine Q302 ?_
 exact absurd trivial g22
theorem typ_prim (v:En) (pm:List Pm) (sc:List Cb) (vs:List ByteArray) (m:Int) (s:ByteArray) (t:Ty) (ts:List Ty) (ks:List Co) (al:List Ca) (bs:List Cb) (r:Ty × Bool) (h:ts.all (rightC v vs)=true) (H:PCall Tryz.prog 91 [.agg (ckC v (Pm.cellss pm) sc vs),.agg (Co.mk 9 s m t ts ks al bs).cells] (.tup [.agg r.1.cells,.val (.bool r.2)])):TypC v pm sc vs (.mk 9 s m t ts ks al bs) r:=by
 have HA:=all_Ty (rightC v vs) 80 [] [.cptr (ckC v (Pm.cellss pm) sc vs)] ts (fun x _=>typ1_c v (Pm.cellss pm) sc vs x)
 rw [h] at HA
 obtain ⟨tk,tn,tm,tl⟩:=t
 obtain ⟨⟨rk,rn,rm,rl⟩,c172⟩:=r
 obtain ⟨da,cl,ins⟩:=v
 unfold TypC ckC at *
 simp only [En.cells,List.cons_append,List.nil_append] at *
 refine Zc Tryz.func48 V (by kernel_rfl) V (Xz V) ?_
 refine Q315 ?_;intro b4
 refine Q360 ?_;intro b6
 refine Q362 ?_
 refine Zb 21 V V V (Ze (xs:=[.tmp 19,.tmp 20]) V V (HA) by1 ?_);intro c21 h21
 refine Q26 ?_;intro c22 h22
 try replace h22:=Yo h22 h21
 refine Q226 ?_
 rcases Za h22 with ⟨rfl,g22⟩|⟨rfl,g22⟩
 ·refine Q367 ?_;intro c27 h27
  refine Q228 ?_
  rcases Za h27 with ⟨rfl,g27⟩|⟨rfl,g27⟩
  ·refine Q254 ?_;intro c56 h56
   refine Q228 ?_
   rcases Za h56 with ⟨rfl,g56⟩|⟨rfl,g56⟩
   ·refine Q254 ?_;intro c59 h59
    refine Q228 ?_
    rcases Za h59 with ⟨rfl,g59⟩|⟨rfl,g59⟩
    ·refine Q254 ?_;intro c62 h62
     refine Q228 ?_
     rcases Za h62 with ⟨rfl,g62⟩|⟨rfl,g62⟩
     ·refine Q254 ?_;intro c69 h69
      refine Q228 ?_
      rcases Za h69 with ⟨rfl,g69⟩|⟨rfl,g69⟩
      ·refine Q254 ?_;intro c114 h114
       refine Q228 ?_
       rcases Za h114 with ⟨rfl,g114⟩|⟨rfl,g114⟩
       ·refine Q254 ?_;intro c153 h153
        refine Q228 ?_
        rcases Za h153 with ⟨rfl,g153⟩|⟨rfl,g153⟩
        ·refine Q254 ?_;intro c160 h160
         refine Q228 ?_
         rcases Za h160 with ⟨rfl,g160⟩|⟨rfl,g160⟩
         ·refine Q254 ?_;intro c167 h167
          refine Q228 ?_
          rcases Za h167 with ⟨rfl,g167⟩|⟨rfl,g167⟩
          ·exact absurd V g167
          refine Q553 ?_
          refine Zb 170 V V V (Zd (xs:=[.tmp 168,.tmp 169]) V V (H) by1 ?_)
          refine Q554 ?_
          exact Yn (i:=1) V V V V Yi V by0 (Xo _) ⟨V,V⟩
         omega
        omega
       omega
      omega
     omega
    omega
   omega
  omega
 refine Q302 ?_
 exact absurd trivial g22
theorem typ_part (v:En) (pm:List Pm) (sc:List Cb) (vs:List ByteArray) (m:Int) (s:ByteArray) (t:Ty) (ts:List Ty) (ks:List Co) (al:List Ca) (bs:List Cb) (r:Ty × Bool) (h:ts.all (rightC v vs)=true) (H:PCall Tryz.prog 94 [.agg (ckC v (Pm.cellss pm) sc vs),.agg (Co.mk 11 s m t ts ks al bs).cells] (.tup [.agg r.1.cells,.val (.bool r.2)])):TypC v pm sc vs (.mk 11 s m t ts ks al bs) r:=by
 have HA:=all_Ty (rightC v vs) 80 [] [.cptr (ckC v (Pm.cellss pm) sc vs)] ts (fun x _=>typ1_c v (Pm.cellss pm) sc vs x)
 rw [h] at HA
 obtain ⟨tk,tn,tm,tl⟩:=t
 obtain ⟨⟨rk,rn,rm,rl⟩,c216⟩:=r
 obtain ⟨da,cl,ins⟩:=v
 unfold TypC ckC at *
 simp only [En.cells,List.cons_append,List.nil_append] at *
 refine Zc Tryz.func48 V (by kernel_rfl) V (Xz V) ?_
 refine Q315 ?_;intro b4
 refine Q360 ?_;intro b6
 refine Q362 ?_
 refine Zb 21 V V V (Ze (xs:=[.tmp 19,.tmp 20]) V V (HA) by1 ?_);intro c21 h21
 refine Q26 ?_;intro c22 h22
 try replace h22:=Yo h22 h21
 refine Q226 ?_
 rcases Za h22 with ⟨rfl,g22⟩|⟨rfl,g22⟩
 ·refine Q367 ?_;intro c27 h27
  refine Q228 ?_
  rcases Za h27 with ⟨rfl,g27⟩|⟨rfl,g27⟩
  ·refine Q254 ?_;intro c56 h56
   refine Q228 ?_
   rcases Za h56 with ⟨rfl,g56⟩|⟨rfl,g56⟩
   ·refine Q254 ?_;intro c59 h59
    refine Q228 ?_
    rcases Za h59 with ⟨rfl,g59⟩|⟨rfl,g59⟩
    ·refine Q254 ?_;intro c62 h62
     refine Q228 ?_
     rcases Za h62 with ⟨rfl,g62⟩|⟨rfl,g62⟩
     ·refine Q254 ?_;intro c69 h69
      refine Q228 ?_
      rcases Za h69 with ⟨rfl,g69⟩|⟨rfl,g69⟩
      ·refine Q254 ?_;intro c114 h114
       refine Q228 ?_
       rcases Za h114 with ⟨rfl,g114⟩|⟨rfl,g114⟩
       ·refine Q254 ?_;intro c153 h153
        refine Q228 ?_
        rcases Za h153 with ⟨rfl,g153⟩|⟨rfl,g153⟩
        ·refine Q254 ?_;intro c160 h160
         refine Q228 ?_
         rcases Za h160 with ⟨rfl,g160⟩|⟨rfl,g160⟩
         ·refine Q254 ?_;intro c167 h167
          refine Q228 ?_
          rcases Za h167 with ⟨rfl,g167⟩|⟨rfl,g167⟩
          ·refine Q254 ?_;intro c174 h174
           refine Q228 ?_
           rcases Za h174 with ⟨rfl,g174⟩|⟨rfl,g174⟩
           ·refine Q254 ?_;intro c211 h211
            refine Q228 ?_
            rcases Za h211 with ⟨rfl,g211⟩|⟨rfl,g211⟩
            ·exact absurd V g211
            refine Q553 ?_
            refine Zb 214 V V V (Zd (xs:=[.tmp 212,.tmp 213]) V V (H) by1 ?_)
            refine Q554 ?_
            exact Yn (i:=1) V V V V Yi V by0 (Xo _) ⟨V,V⟩
           omega
          omega
         omega
        omega
       omega
      omega
     omega
    omega
   omega
  omega
 refine Q302 ?_
 exact absurd trivial g22
theorem typ_int (v:En) (pm:List Pm) (sc:List Cb) (vs:List ByteArray) (m:Int) (s:ByteArray) (t:Ty) (ts:List Ty) (ks:List Co) (al:List Ca) (bs:List Cb) (h:ts.all (rightC v vs)=true):TypC v pm sc vs (.mk 2 s m t ts ks al bs) (tInt,true):=by
 have HA:=all_Ty (rightC v vs) 80 [] [.cptr (ckC v (Pm.cellss pm) sc vs)] ts (fun x _=>typ1_c v (Pm.cellss pm) sc vs x)
 rw [h] at HA
 have HN:=Con_c kIntT [] (by simp)
 obtain ⟨tk,tn,tm,tl⟩:=t
 obtain ⟨da,cl,ins⟩:=v
 unfold TypC ckC at *
 simp only [En.cells,List.cons_append,List.nil_append] at *
 refine Zc Tryz.func48 V (by kernel_rfl) V (Xz V) ?_
 refine Q315 ?_;intro b4
 refine Q360 ?_;intro b6
 refine Q362 ?_
 refine Zb 21 V V V (Ze (xs:=[.tmp 19,.tmp 20]) V V (HA) by1 ?_);intro c21 h21
 refine Q26 ?_;intro c22 h22
 try replace h22:=Yo h22 h21
 refine Q226 ?_
 rcases Za h22 with ⟨rfl,g22⟩|⟨rfl,g22⟩
 ·refine Q367 ?_;intro c27 h27
  refine Q228 ?_
  rcases Za h27 with ⟨rfl,g27⟩|⟨rfl,g27⟩
  ·refine Q254 ?_;intro c56 h56
   refine Q228 ?_
   rcases Za h56 with ⟨rfl,g56⟩|⟨rfl,g56⟩
   ·exact absurd V g56
   refine Q240 ?_
   refine Zb 57 V V V (Zd (xs:=[.const (.string ⟨#[73,110,116]⟩),.const (.slice none 0 0)]) V V (HN) by1 ?_)
   refine Q357 ?_
   exact Yn (i:=1) V V V V Yi V by0 (Xo _) ⟨V,V⟩
  omega
 refine Q302 ?_
 exact absurd trivial g22
theorem typ_str (v:En) (pm:List Pm) (sc:List Cb) (vs:List ByteArray) (m:Int) (s:ByteArray) (t:Ty) (ts:List Ty) (ks:List Co) (al:List Ca) (bs:List Cb) (h:ts.all (rightC v vs)=true):TypC v pm sc vs (.mk 3 s m t ts ks al bs) (tStr,true):=by
 have HA:=all_Ty (rightC v vs) 80 [] [.cptr (ckC v (Pm.cellss pm) sc vs)] ts (fun x _=>typ1_c v (Pm.cellss pm) sc vs x)
 rw [h] at HA
 have HN:=Con_c kStrT [] (by simp)
 obtain ⟨tk,tn,tm,tl⟩:=t
 obtain ⟨da,cl,ins⟩:=v
 unfold TypC ckC at *
 simp only [En.cells,List.cons_append,List.nil_append] at *
 refine Zc Tryz.func48 V (by kernel_rfl) V (Xz V) ?_
 refine Q315 ?_;intro b4
 refine Q360 ?_;intro b6
 refine Q362 ?_
 refine Zb 21 V V V (Ze (xs:=[.tmp 19,.tmp 20]) V V (HA) by1 ?_);intro c21 h21
 refine Q26 ?_;intro c22 h22
 try replace h22:=Yo h22 h21
 refine Q226 ?_
 rcases Za h22 with ⟨rfl,g22⟩|⟨rfl,g22⟩
 ·refine Q367 ?_;intro c27 h27
  refine Q228 ?_
  rcases Za h27 with ⟨rfl,g27⟩|⟨rfl,g27⟩
  ·refine Q254 ?_;intro c56 h56
   refine Q228 ?_
   rcases Za h56 with ⟨rfl,g56⟩|⟨rfl,g56⟩
   ·refine Q254 ?_;intro c59 h59
    refine Q228 ?_
    rcases Za h59 with ⟨rfl,g59⟩|⟨rfl,g59⟩
    ·exact absurd V g59
    refine Q240 ?_
    refine Zb 60 V V V (Zd (xs:=[.const (.string ⟨#[83,116,114,105,110,103]⟩),.const (.slice none 0 0)]) V V (HN) by1 ?_)
    refine Q357 ?_
    exact Yn (i:=1) V V V V Yi V by0 (Xo _) ⟨V,V⟩
   omega
  omega
 refine Q302 ?_
 exact absurd trivial g22
theorem typ_none (v:En) (pm:List Pm) (sc:List Cb) (vs:List ByteArray) (k m:Int) (s:ByteArray) (t:Ty) (ts:List Ty) (ks:List Co) (al:List Ca) (bs:List Cb) (h:ts.all (rightC v vs)=true) (hk:k<1∨11<k):TypC v pm sc vs (.mk k s m t ts ks al bs) (tyZ,false):=by
 have HA:=all_Ty (rightC v vs) 80 [] [.cptr (ckC v (Pm.cellss pm) sc vs)] ts (fun x _=>typ1_c v (Pm.cellss pm) sc vs x)
 rw [h] at HA
 obtain ⟨tk,tn,tm,tl⟩:=t
 obtain ⟨da,cl,ins⟩:=v
 unfold TypC ckC at *
 simp only [En.cells,List.cons_append,List.nil_append] at *
 refine Zc Tryz.func48 V (by kernel_rfl) V (Xz V) ?_
 refine Q315 ?_;intro b4
 refine Q360 ?_;intro b6
 refine Q362 ?_
 refine Zb 21 V V V (Ze (xs:=[.tmp 19,.tmp 20]) V V (HA) by1 ?_);intro c21 h21
 refine Q26 ?_;intro c22 h22
 try replace h22:=Yo h22 h21
 refine Q226 ?_
 rcases Za h22 with ⟨rfl,g22⟩|⟨rfl,g22⟩
 ·refine Q367 ?_;intro c27 h27
  refine Q228 ?_
  rcases Za h27 with ⟨rfl,g27⟩|⟨rfl,g27⟩
  ·refine Q254 ?_;intro c56 h56
   refine Q228 ?_
   rcases Za h56 with ⟨rfl,g56⟩|⟨rfl,g56⟩
   ·refine Q254 ?_;intro c59 h59
    refine Q228 ?_
    rcases Za h59 with ⟨rfl,g59⟩|⟨rfl,g59⟩
    ·refine Q254 ?_;intro c62 h62
     refine Q228 ?_
     rcases Za h62 with ⟨rfl,g62⟩|⟨rfl,g62⟩
     ·refine Q254 ?_;intro c69 h69
      refine Q228 ?_
      rcases Za h69 with ⟨rfl,g69⟩|⟨rfl,g69⟩
      ·refine Q254 ?_;intro c114 h114
       refine Q228 ?_
       rcases Za h114 with ⟨rfl,g114⟩|⟨rfl,g114⟩
       ·refine Q254 ?_;intro c153 h153
        refine Q228 ?_
        rcases Za h153 with ⟨rfl,g153⟩|⟨rfl,g153⟩
        ·refine Q254 ?_;intro c160 h160
         refine Q228 ?_
         rcases Za h160 with ⟨rfl,g160⟩|⟨rfl,g160⟩
         ·refine Q254 ?_;intro c167 h167
          refine Q228 ?_
          rcases Za h167 with ⟨rfl,g167⟩|⟨rfl,g167⟩
          ·refine Q254 ?_;intro c174 h174
           refine Q228 ?_
           rcases Za h174 with ⟨rfl,g174⟩|⟨rfl,g174⟩
           ·refine Q254 ?_;intro c211 h211
            refine Q228 ?_
            rcases Za h211 with ⟨rfl,g211⟩|⟨rfl,g211⟩
            ·refine Q404 ?_
             refine Q227 ?_
             refine Q49 ?_
             refine Q357 ?_
             exact Yn (i:=1) V V V V Yi V by0 (Xo _) ⟨V,V⟩
            omega
           omega
          omega
         omega
        omega
       omega
      omega
     omega
    omega
   omega
  omega
 refine Q302 ?_
 exact absurd trivial g22
theorem typ_app_bad (v:En) (pm:List Pm) (sc:List Cb) (vs:List ByteArray) (m:Int) (s:ByteArray) (t:Ty) (ts:List Ty) (ks:List Co) (al:List Ca) (bs:List Cb) (h:ts.all (rightC v vs)=true) (hk:¬ ks.length=2):TypC v pm sc vs (.mk 5 s m t ts ks al bs) (tyZ,false):=by
 have HA:=all_Ty (rightC v vs) 80 [] [.cptr (ckC v (Pm.cellss pm) sc vs)] ts (fun x _=>typ1_c v (Pm.cellss pm) sc vs x)
 rw [h] at HA
 have hlk:=Co.cellss_len ks
 obtain ⟨tk,tn,tm,tl⟩:=t
 obtain ⟨da,cl,ins⟩:=v
 unfold TypC ckC at *
 simp only [En.cells,List.cons_append,List.nil_append] at *
 refine Zc Tryz.func48 V (by kernel_rfl) V (Xz V) ?_
 refine Q315 ?_;intro b4
 refine Q360 ?_;intro b6
 refine Q362 ?_
 refine Zb 21 V V V (Ze (xs:=[.tmp 19,.tmp 20]) V V (HA) by1 ?_);intro c21 h21
 refine Q26 ?_;intro c22 h22
 try replace h22:=Yo h22 h21
 refine Q226 ?_
 rcases Za h22 with ⟨rfl,g22⟩|⟨rfl,g22⟩
 ·refine Q367 ?_;intro c27 h27
  refine Q228 ?_
  rcases Za h27 with ⟨rfl,g27⟩|⟨rfl,g27⟩
  ·refine Q254 ?_;intro c56 h56
   refine Q228 ?_
   rcases Za h56 with ⟨rfl,g56⟩|⟨rfl,g56⟩
   ·refine Q254 ?_;intro c59 h59
    refine Q228 ?_
    rcases Za h59 with ⟨rfl,g59⟩|⟨rfl,g59⟩
    ·refine Q254 ?_;intro c62 h62
     refine Q228 ?_
     rcases Za h62 with ⟨rfl,g62⟩|⟨rfl,g62⟩
     ·refine Q254 ?_;intro c69 h69
      refine Q228 ?_
      rcases Za h69 with ⟨rfl,g69⟩|⟨rfl,g69⟩
      ·exact absurd V g69
      refine Q302 ?_
      refine Q270 ?_
      refine Q68 ?_;intro n72
      refine Q34 ?_;intro c73 h73
      refine Q226 ?_
      rcases Za h73 with ⟨rfl,g73⟩|⟨rfl,g73⟩
      ·omega
      refine Q240 ?_
      refine Q49 ?_
      refine Q357 ?_
      exact Yn (i:=1) V V V V Yi V by0 (Xo _) ⟨V,V⟩
     omega
    omega
   omega
  omega
 refine Q302 ?_
 exact absurd trivial g22
def appQ (f x:Ty × Bool):Ty × Bool:=if f.2=true then (match f.1 with
    | .mk 3 _ _ [a,b]=>if f.1.args≠[]∧(x.2 && x.1.eqC a)=true then (b,true) else (tyZ,false)
    | _=>(tyZ,false)) else (tyZ,false)
theorem typ_app (v:En) (pm:List Pm) (sc:List Cb) (vs:List ByteArray) (m:Int) (s:ByteArray) (t:Ty) (ts:List Ty) (f x:Co) (al:List Ca) (bs:List Cb) (rf rx:Ty × Bool) (h:ts.all (rightC v vs)=true) (Hf:TypC v pm sc vs f rf) (Hx:TypC v pm sc vs x rx) (hb:rf.1.args.length≤90000000000):TypC v pm sc vs (.mk 5 s m t ts [f,x] al bs) (appQ rf rx):=by
 have HA:=all_Ty (rightC v vs) 80 [] [.cptr (ckC v (Pm.cellss pm) sc vs)] ts (fun x _=>typ1_c v (Pm.cellss pm) sc vs x)
 rw [h] at HA
 have HI:=fun a=>coIs_c v pm sc vs x rx a Hx
 have HG:=ArgsL_c rf.1 hb
 have hargs:rf.1.isFun∨rf.1.args=[]:=by
  by_cases q:rf.1.isFun
  ·exact .inl q
  exact .inr (Ty.args_not q)
 obtain ⟨r,hr⟩:∃ r,appQ rf rx=r:=⟨_,rfl⟩
 rw [hr]
 unfold appQ at hr
 have hcf:=Co.cellss_get (ts:=[f,x]) (i:=0) (t:=f) rfl
 have hcx:=Co.cellss_get (ts:=[f,x]) (i:=1) (t:=x) rfl
 clear Hx
 obtain ⟨tk,tn,tm,tl⟩:=t
 obtain ⟨da,cl,ins⟩:=v
 obtain ⟨fk,fs,fn,⟨ftk,fts,ftn,ftl⟩,fus,fks,fal,fbs⟩:=f
 obtain ⟨xk,xs,xn,⟨xtk,xts,xtn,xtl⟩,xus,xks,xal,xbs⟩:=x
 obtain ⟨F,c83⟩:=rf
 have hla:=Ty.cellss_len F.args
 have HG:PCall Tryz.prog 85 [.agg F.cells] (.tup [.seq 4 (Ty.cellss F.args),.agg F.ans.cells]):=HG
 obtain ⟨⟨nk,ns,nn,nl⟩,hN⟩:∃ N,F.ans=N:=⟨_,rfl⟩
 rw [hN] at HG
 clear hN
 unfold TypC ckC at *
 simp only [En.cells,List.cons_append,List.nil_append] at *
 rcases hargs with hf|hf
 ·obtain ⟨n,a,b,rfl⟩:=Ty.fun_kids hf
  rw [Ty.args_fun] at *
  have hr:(if c83=true then (if a::b.args≠[]∧(rx.2 && rx.1.eqC a)=true then (b,true) else (tyZ,false)) else (tyZ,false))=r:=hr
  have HIa:=HI a
  generalize (rx.2 && rx.1.eqC a)=w at *
  have hc0:=Ty.cellss_get (ts:=a::b.args) (i:=0) (t:=a) rfl
  have hc1:=Ty.cellss_get (ts:=[a,b]) (i:=1) (t:=b) rfl
  obtain ⟨ak,as',an,akl⟩:=a
  obtain ⟨bk,bs',bn,bl⟩:=b
  refine Zc Tryz.func48 V (by kernel_rfl) V (Xz V) ?_
  refine Q315 ?_;intro b4
  refine Q360 ?_;intro b6
  refine Q362 ?_
  refine Zb 21 V V V (Ze (xs:=[.tmp 19,.tmp 20]) V V (HA) by1 ?_);intro c21 h21
  refine Q26 ?_;intro c22 h22
  try replace h22:=Yo h22 h21
  refine Q226 ?_
  rcases Za h22 with ⟨rfl,g22⟩|⟨rfl,g22⟩
  ·refine Q367 ?_;intro c27 h27
   refine Q228 ?_
   rcases Za h27 with ⟨rfl,g27⟩|⟨rfl,g27⟩
   ·refine Q254 ?_;intro c56 h56
    refine Q228 ?_
    rcases Za h56 with ⟨rfl,g56⟩|⟨rfl,g56⟩
    ·refine Q254 ?_;intro c59 h59
     refine Q228 ?_
     rcases Za h59 with ⟨rfl,g59⟩|⟨rfl,g59⟩
     ·refine Q254 ?_;intro c62 h62
      refine Q228 ?_
      rcases Za h62 with ⟨rfl,g62⟩|⟨rfl,g62⟩
      ·refine Q254 ?_;intro c69 h69
       refine Q228 ?_
       rcases Za h69 with ⟨rfl,g69⟩|⟨rfl,g69⟩
       ·exact absurd V g69
       refine Q302 ?_
       refine Q270 ?_
       refine Q68 ?_;intro n72
       refine Q34 ?_;intro c73 h73
       refine Q226 ?_
       rcases Za h73 with ⟨rfl,g73⟩|⟨rfl,g73⟩
       ·refine Q485 ?_
        refine Zm 79 (none) (i:=3) V V V V V (Zg V te_25 V (.seq _ _) V V (hcf) ⟨V,V⟩) ?_
        refine Q84 ?_
        refine Zm 81 (none) (i:=5) V V V V V (Zd (xs:=[.tmp 76,.tmp 80]) V V (Hf) by1 ⟨V,V⟩) ?_
        refine Q430 ?_
        refine EOps.nw (i:=9) V V V (Yk (cs':=[_,_,_,_]) V tz_24 V V (fun b9=>⟨_,V,?_⟩))
        refine Q160 ?_
        refine Q58 ?_
        show AGo _ _ _ _ _ _ _
        refine Q448 ?_
        refine Q95 ?_
        refine Zb 86 V V V (Zd (xs:=[.tmp 85]) V V (HG) by1 ?_)
        refine Q478 ?_;intro b12
        refine Q6 ?_
        refine Q340 ?_
        refine Q2 ?_
        refine c_boold 107 (¬ (c83=true∧w=true)) Xl V ?_ _ _ V ?_
        ·skip
         refine Q20 ?_
         refine Yr 90 V V (fun _ q=>op_notc V V q) ?_;intro c90 h90
         try replace h90:=Yo h90 h83
         refine Q20 ?_
         rcases Za h90 with ⟨rfl,g90⟩|⟨rfl,g90⟩
         ·skip
          refine Q50 ?_
          refine Yg 93 V V V V (Yu V tu_22 V (.seq _ _) (fun _=>⟨V,V⟩)) ?_
          refine Ys 94 V V V V (fun _ q=>op_eql V V V q) ?_;intro c94 h94
          refine Q371 ?_
          rcases Za h94 with ⟨rfl,g94⟩|⟨rfl,g94⟩
          ·skip
           refine Q161 ?_
           refine Q333 ?_
           refine Yg 100 V V V V (Zg V te_25 V (.seq _ _) V V (by first|exact hcx|exact hc0) ⟨V,V⟩) ?_
           refine Q195 ?_
           refine Q50 ?_
           refine Yg 103 V V V V (Zg V te_22 V (.seq _ _) V V (by first|exact hcx|exact hc0) ⟨V,V⟩) ?_
           refine Q196 ?_
           refine Ys 105 V V V V (fun _ q=>Ze (xs:=[.tmp 97,.tmp 101,.tmp 104]) V V (HIa) by1 q) ?_;intro c105 h105
           refine Ys 106 V V V V (fun _ q=>op_notc V V q) ?_;intro c106 h106
           try replace h106:=Yo h106 h105
           refine Q33 ?_
           show BoolQ _ _ _ _ _ _
           refine Xx V ?_ by5 by3
           clear HA HI HG HIa Hf;first|(simp_all;done)|grind
          skip
          refine Q348 ?_
          refine Q486 ?_
          show BoolQ _ _ _ _ _ _
          refine Xx V ?_ by5 by3
          clear HA HI HG HIa Hf;first|(simp_all;done)|grind
         skip
         refine Q414 ?_
         refine Q507 ?_
         refine Q486 ?_
         show BoolQ _ _ _ _ _ _
         refine Xx V ?_ by5 by3
         clear HA HI HG HIa Hf;first|(simp_all;done)|grind
        intro c107 h107
        refine Q1 ?_
        rcases Za h107 with ⟨rfl,g107⟩|⟨rfl,g107⟩
        ·refine Q289 ?_
         refine Q11 ?_
         refine Q89 ?_
         refine Zb 111 V V V (Zg V te_22 V (.seq _ _) V V (hc1) ?_)
         refine Q42 ?_
         refine Q446 ?_
         obtain ⟨q1,q2⟩:=Classical.not_not.1 g107
         rw [if_pos q1,if_pos ⟨by simp,q2⟩] at hr
         subst hr
         exact Yn (i:=2) V V V V Yi V by0 (Xo _) ⟨V,V⟩
        refine Q514 ?_
        refine Q446 ?_
        have hw:r=(tyZ,false):=by
         rw [← hr]
         by_cases q:c83=true
         ·rw [if_pos q,if_neg (fun k=>g107 ⟨q,k.2⟩)]
         rw [if_neg q]
        subst hw
        exact Yn (i:=2) V V V V Yi V by0 (Xo _) ⟨V,V⟩
       exact (g73 V).elim
      omega
     omega
    omega
   omega
  refine Q302 ?_
  exact absurd trivial g22
 have hr0:r=(tyZ,false):=by
  rw [← hr]
  split
  ·split
   ·rw [if_neg (fun k=>k.1 hf)]
   rfl
  rfl
 rw [hf] at HG hla
 obtain ⟨Fk,Fs,Fn,Fl⟩:=F
 clear hr
 subst hr0
 refine Zc Tryz.func48 V (by kernel_rfl) V (Xz V) ?_
 refine Q315 ?_;intro b4
 refine Q360 ?_;intro b6
 refine Q362 ?_
 refine Zb 21 V V V (Ze (xs:=[.tmp 19,.tmp 20]) V V (HA) by1 ?_);intro c21 h21
 refine Q26 ?_;intro c22 h22
 try replace h22:=Yo h22 h21
 refine Q226 ?_
 rcases Za h22 with ⟨rfl,g22⟩|⟨rfl,g22⟩
 ·refine Q367 ?_;intro c27 h27
  refine Q228 ?_
  rcases Za h27 with ⟨rfl,g27⟩|⟨rfl,g27⟩
  ·refine Q254 ?_;intro c56 h56
   refine Q228 ?_
   rcases Za h56 with ⟨rfl,g56⟩|⟨rfl,g56⟩
   ·refine Q254 ?_;intro c59 h59
    refine Q228 ?_
    rcases Za h59 with ⟨rfl,g59⟩|⟨rfl,g59⟩
    ·refine Q254 ?_;intro c62 h62
     refine Q228 ?_
     rcases Za h62 with ⟨rfl,g62⟩|⟨rfl,g62⟩
     ·refine Q254 ?_;intro c69 h69
      refine Q228 ?_
      rcases Za h69 with ⟨rfl,g69⟩|⟨rfl,g69⟩
      ·exact absurd V g69
      refine Q302 ?_
      refine Q270 ?_
      refine Q68 ?_;intro n72
      refine Q34 ?_;intro c73 h73
      refine Q226 ?_
      rcases Za h73 with ⟨rfl,g73⟩|⟨rfl,g73⟩
      ·refine Q485 ?_
       refine Zm 79 (none) (i:=3) V V V V V (Zg V te_25 V (.seq _ _) V V (hcf) ⟨V,V⟩) ?_
       refine Q84 ?_
       refine Zm 81 (none) (i:=5) V V V V V (Zd (xs:=[.tmp 76,.tmp 80]) V V (Hf) by1 ⟨V,V⟩) ?_
       refine Q430 ?_
       refine EOps.nw (i:=9) V V V (Yk (cs':=[_,_,_,_]) V tz_24 V V (fun b9=>⟨_,V,?_⟩))
       refine Q160 ?_
       refine Q58 ?_
       show AGo _ _ _ _ _ _ _
       refine Q448 ?_
       refine Q95 ?_
       refine Zb 86 V V V (Zd (xs:=[.tmp 85]) V V (HG) by1 ?_)
       refine Q478 ?_;intro b12
       refine Q6 ?_
       refine Q340 ?_
       refine Q2 ?_
       refine c_boold 107 (True) Xl V ?_ _ _ V ?_
       ·skip
        refine Q20 ?_
        refine Yr 90 V V (fun _ q=>op_notc V V q) ?_;intro c90 h90
        try replace h90:=Yo h90 h83
        refine Q20 ?_
        rcases Za h90 with ⟨rfl,g90⟩|⟨rfl,g90⟩
        ·skip
         refine Q50 ?_
         refine Yg 93 V V V V (Yu V tu_22 V (.seq _ _) (fun _=>⟨V,V⟩)) ?_
         refine Ys 94 V V V V (fun _ q=>op_eql V V V q) ?_;intro c94 h94
         refine Q371 ?_
         rcases Za h94 with ⟨rfl,g94⟩|⟨rfl,g94⟩
         ·exact absurd V g94
         skip
         refine Q348 ?_
         refine Q486 ?_
         show BoolQ _ _ _ _ _ _
         refine Xx V ?_ by5 by3
         clear HA HI HG Hf;first|(simp_all;done)|grind
        skip
        refine Q414 ?_
        refine Q507 ?_
        refine Q486 ?_
        show BoolQ _ _ _ _ _ _
        refine Xx V ?_ by5 by3
        clear HA HI HG Hf;first|(simp_all;done)|grind
       intro c107 h107
       refine Q1 ?_
       rcases Za h107 with ⟨rfl,g107⟩|⟨rfl,g107⟩
       ·exact absurd trivial g107
       refine Q514 ?_
       refine Q446 ?_
       exact Yn (i:=2) V V V V Yi V by0 (Xo _) ⟨V,V⟩
      exact (g73 V).elim
     omega
    omega
   omega
  omega
 refine Q302 ?_
 exact absurd trivial g22
def dictQ (v:En) (vs:List ByteArray) (f:Co→Ty × Bool) (s:ByteArray) (t:Ty) (ks:List Co):Ty × Bool:=(starC s t,rightC v vs t && match partsC v s t with
 | none=>false
 | some l=>okL f ks l)
theorem typ_dict (v:En) (hv:EnT v) (pm:List Pm) (sc:List Cb) (vs:List ByteArray) (f:Co→Ty × Bool) (m:Int) (s:ByteArray) (t:Ty) (ts:List Ty) (ks:List Co) (al:List Ca) (bs:List Cb) (h:ts.all (rightC v vs)=true) (hs:s.size≤1000000000000) (ht:t.wd) (H:∀ x∈ks,TypC v pm sc vs x (f x)):TypC v pm sc vs (.mk 10 s m t ts ks al bs) (dictQ v vs f s t ks):=by
 have HA:=all_Ty (rightC v vs) 80 [] [.cptr (ckC v (Pm.cellss pm) sc vs)] ts (fun x _=>typ1_c v (Pm.cellss pm) sc vs x)
 rw [h] at HA
 have HR:=coRight_c v vs t
 have HN:=Con_c (kBr++s) [t] (by simp)
 have hk2:(⟨#[123]⟩:ByteArray).size=1:=rfl
 obtain ⟨r,hr⟩:∃ r,dictQ v vs f s t ks=r:=⟨_,rfl⟩
 rw [hr]
 unfold dictQ starC at hr
 cases hp:partsC v s t with
 | none =>
  rw [hp] at hr
  have HP:=coParts_none v s t hp
  clear hp H hv
  have hr2:(Ty.mk 3 (kBr++s) 0 [t],false)=r:=by rw [← hr,Bool.and_false]
  clear hr
  generalize (rightC v vs t=true)=R at *
  obtain ⟨tk,tn,tm,tl⟩:=t
  obtain ⟨da,cl,ins⟩:=v
  unfold TypC ckC at *
  simp only [En.cells,List.cons_append,List.nil_append] at *
  subst hr2
  refine Zc Tryz.func48 V (by kernel_rfl) V (Xz V) ?_
  refine Q315 ?_;intro b4
  refine Q360 ?_;intro b6
  refine Q362 ?_
  refine Zb 21 V V V (Ze (xs:=[.tmp 19,.tmp 20]) V V (HA) by1 ?_);intro c21 h21
  refine Q26 ?_;intro c22 h22
  try replace h22:=Yo h22 h21
  refine Q226 ?_
  rcases Za h22 with ⟨rfl,g22⟩|⟨rfl,g22⟩
  ·refine Q367 ?_;intro c27 h27
   refine Q228 ?_
   rcases Za h27 with ⟨rfl,g27⟩|⟨rfl,g27⟩
   ·refine Q254 ?_;intro c56 h56
    refine Q228 ?_
    rcases Za h56 with ⟨rfl,g56⟩|⟨rfl,g56⟩
    ·refine Q254 ?_;intro c59 h59
     refine Q228 ?_
     rcases Za h59 with ⟨rfl,g59⟩|⟨rfl,g59⟩
     ·refine Q254 ?_;intro c62 h62
      refine Q228 ?_
      rcases Za h62 with ⟨rfl,g62⟩|⟨rfl,g62⟩
      ·refine Q254 ?_;intro c69 h69
       refine Q228 ?_
       rcases Za h69 with ⟨rfl,g69⟩|⟨rfl,g69⟩
       ·refine Q254 ?_;intro c114 h114
        refine Q228 ?_
        rcases Za h114 with ⟨rfl,g114⟩|⟨rfl,g114⟩
        ·refine Q254 ?_;intro c153 h153
         refine Q228 ?_
         rcases Za h153 with ⟨rfl,g153⟩|⟨rfl,g153⟩
         ·refine Q254 ?_;intro c160 h160
          refine Q228 ?_
          rcases Za h160 with ⟨rfl,g160⟩|⟨rfl,g160⟩
          ·refine Q254 ?_;intro c167 h167
           refine Q228 ?_
           rcases Za h167 with ⟨rfl,g167⟩|⟨rfl,g167⟩
           ·refine Q254 ?_;intro c174 h174
            refine Q228 ?_
            rcases Za h174 with ⟨rfl,g174⟩|⟨rfl,g174⟩
            ·exact absurd V g174
            refine Q240 ?_
            refine Q518 ?_
            refine Q431 ?_
            refine Zb 182 V V V (Zd (xs:=[.tmp 177,.tmp 179,.tmp 181]) V V (HP) by1 ?_)
            refine Q308 ?_
            refine Q6 ?_
            refine Q477 ?_
            refine Q162 ?_
            refine Q431 ?_
            refine Q197 ?_
            refine Zb 191 V V V (Zd (xs:=[.tmp 187,.tmp 190]) V V (HN) by1 ?_)
            refine Q277 ?_
            refine Q251 ?_
            refine Q442 ?_
            refine Q294 ?_
            refine Q10 ?_
            refine Q357 ?_
            exact Yn (i:=1) V V V V Yi V by0 (Xo _) ⟨V,V⟩
           omega
          omega
         omega
        omega
       omega
      omega
     omega
    omega
   omega
  refine Q302 ?_
  exact absurd trivial g22
 | some l =>
  rw [hp] at hr
  have HP:=coParts_some v hv s t ht l hp
  have HO:=coOf_c v pm sc vs f ks l H
  clear hp H hv
  have hr:(Ty.mk 3 (kBr++s) 0 [t],rightC v vs t && okL f ks l)=r:=hr
  generalize okL f ks l=w at *
  generalize rightC v vs t=R at *
  obtain ⟨tk,tn,tm,tl⟩:=t
  obtain ⟨da,cl,ins⟩:=v
  unfold TypC ckC at *
  simp only [En.cells,List.cons_append,List.nil_append] at *
  subst hr
  refine Zc Tryz.func48 V (by kernel_rfl) V (Xz V) ?_
  refine Q315 ?_;intro b4
  refine Q360 ?_;intro b6
  refine Q362 ?_
  refine Zb 21 V V V (Ze (xs:=[.tmp 19,.tmp 20]) V V (HA) by1 ?_);intro c21 h21
  refine Q26 ?_;intro c22 h22
  try replace h22:=Yo h22 h21
  refine Q226 ?_
  rcases Za h22 with ⟨rfl,g22⟩|⟨rfl,g22⟩
  ·refine Q367 ?_;intro c27 h27
   refine Q228 ?_
   rcases Za h27 with ⟨rfl,g27⟩|⟨rfl,g27⟩
   ·refine Q254 ?_;intro c56 h56
    refine Q228 ?_
    rcases Za h56 with ⟨rfl,g56⟩|⟨rfl,g56⟩
    ·refine Q254 ?_;intro c59 h59
     refine Q228 ?_
     rcases Za h59 with ⟨rfl,g59⟩|⟨rfl,g59⟩
     ·refine Q254 ?_;intro c62 h62
      refine Q228 ?_
      rcases Za h62 with ⟨rfl,g62⟩|⟨rfl,g62⟩
      ·refine Q254 ?_;intro c69 h69
       refine Q228 ?_
       rcases Za h69 with ⟨rfl,g69⟩|⟨rfl,g69⟩
       ·refine Q254 ?_;intro c114 h114
        refine Q228 ?_
        rcases Za h114 with ⟨rfl,g114⟩|⟨rfl,g114⟩
        ·refine Q254 ?_;intro c153 h153
         refine Q228 ?_
         rcases Za h153 with ⟨rfl,g153⟩|⟨rfl,g153⟩
         ·refine Q254 ?_;intro c160 h160
          refine Q228 ?_
          rcases Za h160 with ⟨rfl,g160⟩|⟨rfl,g160⟩
          ·refine Q254 ?_;intro c167 h167
           refine Q228 ?_
           rcases Za h167 with ⟨rfl,g167⟩|⟨rfl,g167⟩
           ·refine Q254 ?_;intro c174 h174
            refine Q228 ?_
            rcases Za h174 with ⟨rfl,g174⟩|⟨rfl,g174⟩
            ·exact absurd V g174
            refine Q240 ?_
            refine Q518 ?_
            refine Q431 ?_
            refine Zb 182 V V V (Zd (xs:=[.tmp 177,.tmp 179,.tmp 181]) V V (HP) by1 ?_)
            refine Q308 ?_
            refine Q6 ?_
            refine Q477 ?_
            refine Q162 ?_
            refine Q431 ?_
            refine Q197 ?_
            refine Zb 191 V V V (Zd (xs:=[.tmp 187,.tmp 190]) V V (HN) by1 ?_)
            refine Q277 ?_
            refine Q516 ?_
            refine Zq 201 V V V V V (Ze (xs:=[.tmp 195,.tmp 198,.tmp 200]) V V (HR) by1 ?_);intro c201 h201
            refine Q260 ?_
            rcases Za h201 with ⟨rfl,g201⟩|⟨rfl,g201⟩
            ·skip
             refine Q294 ?_
             refine Q10 ?_
             refine Q357 ?_
             exact Yn (i:=1) V V V V Yi V (Le.tup (Xv (Xt _) (Xv (Le.beq (by simp_all)) (Xu _)))) (Xo _) ⟨V,V⟩
            skip
            refine Q163 ?_
            refine Q533 ?_
            refine Zq 208 V V V V V (Ze (xs:=[.tmp 204,.tmp 206,.tmp 207]) V V (HO) by1 ?_);intro c208 h208
            refine Q10 ?_
            refine Q357 ?_
            exact Yn (i:=1) V V V V Yi V (Le.tup (Xv (Xt _) (Xv (Le.beq (by simp_all)) (Xu _)))) (Xo _) ⟨V,V⟩
           omega
          omega
         omega
        omega
       omega
      omega
     omega
    omega
   omega
  refine Q302 ?_
  exact absurd trivial g22
abbrev PartC (v:En) (pm:List Pm) (sc:List Cb) (vs:List ByteArray) (e:Co) (r:Ty × Bool):Prop:=PCall Tryz.prog 94 [.agg (ckC v (Pm.cellss pm) sc vs),.agg e.cells] (.tup [.agg r.1.cells,.val (.bool r.2)])
theorem coPart_bad (v:En) (pm:List Pm) (sc:List Cb) (vs:List ByteArray) (k m:Int) (s:ByteArray) (t:Ty) (ts:List Ty) (ks:List Co) (al:List Ca) (bs:List Cb) (hk:¬ ks.length=1):PartC v pm sc vs (.mk k s m t ts ks al bs) (tyZ,false):=by
 have hlk:=Co.cellss_len ks
 obtain ⟨tk,tn,tm,tl⟩:=t
 obtain ⟨da,cl,ins⟩:=v
 unfold PartC ckC at *
 simp only [En.cells,List.cons_append,List.nil_append] at *
 refine Zc Tryz.func94 V (by kernel_rfl) V (Xz V) ?_
 refine Q315 ?_;intro b4
 refine Q383 ?_
 refine Q68 ?_;intro n11
 refine Q34 ?_;intro c12 h12
 refine Q226 ?_
 rcases Za h12 with ⟨rfl,g12⟩|⟨rfl,g12⟩
 ·omega
 refine Q449 ?_
 exact Yn (i:=0) V V V V Yi V by0 (Xo _) ⟨V,V⟩
theorem coPart_no (v:En) (pm:List Pm) (sc:List Cb) (vs:List ByteArray) (k m:Int) (s:ByteArray) (t:Ty) (ts:List Ty) (x:Co) (al:List Ca) (bs:List Cb) (r:Ty × Bool) (hs:s.size≤1000000000000) (H:TypC v pm sc vs x r) (hb:¬ (r.2=true∧r.1.kind=3∧r.1.name=kBr++s∧r.1.kids.length=1)):PartC v pm sc vs (.mk k s m t ts [x] al bs) (tyZ,false):=by
 have hcx:=Co.cellss_get (ts:=[x]) (i:=0) (t:=x) rfl
 have hk2:(⟨#[123]⟩:ByteArray).size=1:=rfl
 obtain ⟨tk,tn,tm,tl⟩:=t
 obtain ⟨⟨rk,rs,rn,rl⟩,c22⟩:=r
 have hlr:=Ty.cellss_len rl
 have hb:¬ (c22=true∧rk=3∧rs=kBr++s∧rl.length=1):=hb
 obtain ⟨xk,xs,xn,⟨xtk,xts,xtn,xtl⟩,xus,xks,xal,xbs⟩:=x
 obtain ⟨da,cl,ins⟩:=v
 unfold PartC TypC ckC at *
 simp only [En.cells,List.cons_append,List.nil_append] at *
 refine Zc Tryz.func94 V (by kernel_rfl) V (Xz V) ?_
 refine Q315 ?_;intro b4
 refine Q383 ?_
 refine Q68 ?_;intro n11
 refine Q34 ?_;intro c12 h12
 refine Q226 ?_
 rcases Za h12 with ⟨rfl,g12⟩|⟨rfl,g12⟩
 ·refine Q485 ?_
  refine Zm 18 (none) (i:=3) V V V V V (Zg V te_25 V (.seq _ _) V V (hcx) ⟨V,V⟩) ?_
  refine Q84 ?_
  refine Zm 20 (none) (i:=5) V V V V V (Zd (xs:=[.tmp 15,.tmp 19]) V V (H) by1 ⟨V,V⟩) ?_
  refine Q430 ?_
  refine EOps.nw (i:=9) V V V (Yk (cs':=[_,_,_,_]) V tz_24 V V (fun b6=>⟨_,V,?_⟩))
  refine Q482 ?_
  show AGo _ _ _ _ _ _ _
  refine Q555 ?_
  refine Zy 43 (True) ?_ _ _ V ?_
  ·skip
   refine Q419 ?_;intro c24 h24
   try replace h24:=Yo h24 h22
   refine Q5 ?_
   rcases Za h24 with ⟨rfl,g24⟩|⟨rfl,g24⟩
   ·skip
    refine Q386 ?_
    refine Q66 ?_;intro c28 h28
    refine Q260 ?_
    rcases Za h28 with ⟨rfl,g28⟩|⟨rfl,g28⟩
    ·skip
     refine Q386 ?_
     refine Q291 ?_
     refine Q164 ?_
     refine Q122 ?_;intro c36 h36
     refine Q260 ?_
     rcases Za h36 with ⟨rfl,g36⟩|⟨rfl,g36⟩
     ·skip
      refine Q386 ?_
      refine Q79 ?_;intro n41
      refine Q66 ?_;intro c42 h42
      refine Q236 ?_
      refine Xx V ?_ by5 by3
      clear H;first|(simp_all;done)|grind
     skip
     refine Q376 ?_
     refine Xx V ?_ by5 by3
     clear H;first|(simp_all;done)|grind
    skip
    refine Q251 ?_
    refine Q369 ?_
    refine Q376 ?_
    refine Xx V ?_ by5 by3
    clear H;first|(simp_all;done)|grind
   skip
   refine Q382 ?_
   refine Q251 ?_
   refine Q369 ?_
   refine Q376 ?_
   refine Xx V ?_ by5 by3
   clear H;first|(simp_all;done)|grind
  intro c43 h43
  refine Q1 ?_
  rcases Za h43 with ⟨rfl,g43⟩|⟨rfl,g43⟩
  ·exact absurd trivial g43
  refine Q449 ?_
  exact Yn (i:=0) V V V V Yi V by0 (Xo _) ⟨V,V⟩
 exact (g12 V).elim
theorem coPart_none (v:En) (pm:List Pm) (sc:List Cb) (vs:List ByteArray) (k m:Int) (s:ByteArray) (t:Ty) (ts:List Ty) (x:Co) (al:List Ca) (bs:List Cb) (n:Int) (u:Ty) (hs:s.size≤1000000000000) (H:TypC v pm sc vs x (.mk 3 (kBr++s) n [u],true)) (hp:partsC v s u=none):PartC v pm sc vs (.mk k s m t ts [x] al bs) (tyZ,false):=by
 have HP:=coParts_none v s u hp
 clear hp
 have hcx:=Co.cellss_get (ts:=[x]) (i:=0) (t:=x) rfl
 have hcu:=Ty.cellss_get (ts:=[u]) (i:=0) (t:=u) rfl
 have hlu:(Ty.cellss [u]).length=1:=rfl
 have hk2:(⟨#[123]⟩:ByteArray).size=1:=rfl
 obtain ⟨tk,tn,tm,tl⟩:=t
 obtain ⟨uk,us,un,ul⟩:=u
 obtain ⟨xk,xs,xn,⟨xtk,xts,xtn,xtl⟩,xus,xks,xal,xbs⟩:=x
 obtain ⟨da,cl,ins⟩:=v
 unfold PartC TypC ckC at *
 simp only [En.cells,List.cons_append,List.nil_append] at *
 refine Zc Tryz.func94 V (by kernel_rfl) V (Xz V) ?_
 refine Q315 ?_;intro b4
 refine Q383 ?_
 refine Q68 ?_;intro n11
 refine Q34 ?_;intro c12 h12
 refine Q226 ?_
 rcases Za h12 with ⟨rfl,g12⟩|⟨rfl,g12⟩
 ·refine Q485 ?_
  refine Zm 18 (none) (i:=3) V V V V V (Zg V te_25 V (.seq _ _) V V (hcx) ⟨V,V⟩) ?_
  refine Q84 ?_
  refine Zm 20 (none) (i:=5) V V V V V (Zd (xs:=[.tmp 15,.tmp 19]) V V (H) by1 ⟨V,V⟩) ?_
  refine Q430 ?_
  refine EOps.nw (i:=9) V V V (Yk (cs':=[_,_,_,_]) V tz_24 V V (fun b6=>⟨_,V,?_⟩))
  refine Q482 ?_
  show AGo _ _ _ _ _ _ _
  refine Q555 ?_
  refine Zy 43 (False) ?_ _ _ V ?_
  ·skip
   refine Q419 ?_;intro c24 h24
   try replace h24:=Yo h24 h22
   refine Q5 ?_
   rcases Za h24 with ⟨rfl,g24⟩|⟨rfl,g24⟩
   ·skip
    refine Q386 ?_
    refine Q66 ?_;intro c28 h28
    refine Q260 ?_
    rcases Za h28 with ⟨rfl,g28⟩|⟨rfl,g28⟩
    ·skip
     refine Q386 ?_
     refine Q291 ?_
     refine Q164 ?_
     refine Q122 ?_;intro c36 h36
     refine Q260 ?_
     rcases Za h36 with ⟨rfl,g36⟩|⟨rfl,g36⟩
     ·skip
      refine Q386 ?_
      refine Q79 ?_;intro n41
      refine Q66 ?_;intro c42 h42
      refine Q236 ?_
      refine Xx V ?_ by5 by3
      clear H HP;first|(simp_all;done)|grind
     exact absurd g36 (by simp)
    exact absurd g28 (by simp)
   skip
   refine Q382 ?_
   refine Q251 ?_
   refine Q369 ?_
   refine Q376 ?_
   refine Xx V ?_ by5 by3
   clear H HP;first|(simp_all;done)|grind
  intro c43 h43
  refine Q1 ?_
  rcases Za h43 with ⟨rfl,g43⟩|⟨rfl,g43⟩
  ·refine Q242 ?_
   refine Q51 ?_
   refine Q32 ?_
   refine Q92 ?_
   refine Q293 ?_
   refine Q425 ?_
   refine Zx 52 V V (Zg V te_22 V (.seq _ _) V V (hcu) ⟨V,V⟩) ?_
   refine Q87 ?_
   refine Zx 54 V V (Zd (xs:=[.tmp 47,.tmp 49,.tmp 53]) V V (HP) by1 ⟨V,V⟩) ?_
   refine Q20 ?_
   refine Q544 ?_
   show AGo _ _ _ _ _ _ _
   refine Q555 ?_
   refine Zy 70 (True) ?_ _ _ V ?_
   ·skip
    refine Q419 ?_;intro c58 h58
    try replace h58:=Yo h58 h56
    refine Q5 ?_
    rcases Za h58 with ⟨rfl,g58⟩|⟨rfl,g58⟩
    ·skip
     refine Q291 ?_
     refine Q61 ?_;intro c62 h62
     refine Q260 ?_
     rcases Za h62 with ⟨rfl,g62⟩|⟨rfl,g62⟩
     ·skip
      refine Q533 ?_
      refine Q79 ?_;intro n68
      refine Q102 ?_;intro c69 h69
      refine Q236 ?_
      refine Xx V ?_ by5 by3
      clear H HP;first|(simp_all;done)|grind
     skip
     refine Q331 ?_
     refine Xx V ?_ by5 by3
     clear H HP;first|(simp_all;done)|grind
    skip
    refine Q382 ?_
    refine Q331 ?_
    refine Xx V ?_ by5 by3
    clear H HP;first|(simp_all;done)|grind
   intro c70 h70
   refine Q1 ?_
   rcases Za h70 with ⟨rfl,g70⟩|⟨rfl,g70⟩
   ·exact absurd trivial g70
   refine Q449 ?_
   exact Yn (i:=0) V V V V Yi V by0 (Xo _) ⟨V,V⟩
  exact g43.elim
 exact (g12 V).elim
def getQ (l:List Ty) (m:Int):Ty × Bool:=if m<0 then (tyZ,false) else match l[m.toNat]? with
 | none=>(tyZ,false)
 | some r=>(r,true)
theorem coPart_some (v:En) (hv:EnT v) (pm:List Pm) (sc:List Cb) (vs:List ByteArray) (k m:Int) (s:ByteArray) (t:Ty) (ts:List Ty) (x:Co) (al:List Ca) (bs:List Cb) (n:Int) (u:Ty) (l:List Ty) (hs:s.size≤1000000000000) (hu:u.wd) (H:TypC v pm sc vs x (.mk 3 (kBr++s) n [u],true)) (hp:partsC v s u=some l):PartC v pm sc vs (.mk k s m t ts [x] al bs) (getQ l m):=by
 have HP:=coParts_some v hv s u hu l hp
 clear hp hv hu
 have hcx:=Co.cellss_get (ts:=[x]) (i:=0) (t:=x) rfl
 have hcu:=Ty.cellss_get (ts:=[u]) (i:=0) (t:=u) rfl
 have hlu:(Ty.cellss [u]).length=1:=rfl
 have hk2:(⟨#[123]⟩:ByteArray).size=1:=rfl
 have hll:=Ty.cellss_len l
 obtain ⟨r,hr⟩:∃ r,getQ l m=r:=⟨_,rfl⟩
 rw [hr]
 unfold getQ at hr
 obtain ⟨tk,tn,tm,tl⟩:=t
 obtain ⟨uk,us,un,ul⟩:=u
 obtain ⟨xk,xs,xn,⟨xtk,xts,xtn,xtl⟩,xus,xks,xal,xbs⟩:=x
 obtain ⟨da,cl,ins⟩:=v
 unfold PartC TypC ckC at *
 simp only [En.cells,List.cons_append,List.nil_append] at *
 refine Zc Tryz.func94 V (by kernel_rfl) V (Xz V) ?_
 refine Q315 ?_;intro b4
 refine Q383 ?_
 refine Q68 ?_;intro n11
 refine Q34 ?_;intro c12 h12
 refine Q226 ?_
 rcases Za h12 with ⟨rfl,g12⟩|⟨rfl,g12⟩
 ·refine Q485 ?_
  refine Zm 18 (none) (i:=3) V V V V V (Zg V te_25 V (.seq _ _) V V (hcx) ⟨V,V⟩) ?_
  refine Q84 ?_
  refine Zm 20 (none) (i:=5) V V V V V (Zd (xs:=[.tmp 15,.tmp 19]) V V (H) by1 ⟨V,V⟩) ?_
  refine Q430 ?_
  refine EOps.nw (i:=9) V V V (Yk (cs':=[_,_,_,_]) V tz_24 V V (fun b6=>⟨_,V,?_⟩))
  refine Q482 ?_
  show AGo _ _ _ _ _ _ _
  refine Q555 ?_
  refine Zy 43 (False) ?_ _ _ V ?_
  ·skip
   refine Q419 ?_;intro c24 h24
   try replace h24:=Yo h24 h22
   refine Q5 ?_
   rcases Za h24 with ⟨rfl,g24⟩|⟨rfl,g24⟩
   ·skip
    refine Q386 ?_
    refine Q66 ?_;intro c28 h28
    refine Q260 ?_
    rcases Za h28 with ⟨rfl,g28⟩|⟨rfl,g28⟩
    ·skip
     refine Q386 ?_
     refine Q291 ?_
     refine Q164 ?_
     refine Q122 ?_;intro c36 h36
     refine Q260 ?_
     rcases Za h36 with ⟨rfl,g36⟩|⟨rfl,g36⟩
     ·skip
      refine Q386 ?_
      refine Q79 ?_;intro n41
      refine Q66 ?_;intro c42 h42
      refine Q236 ?_
      refine Xx V ?_ by5 by3
      clear H HP;first|(simp_all;done)|grind
     exact absurd g36 (by simp)
    exact absurd g28 (by simp)
   skip
   refine Q382 ?_
   refine Q251 ?_
   refine Q369 ?_
   refine Q376 ?_
   refine Xx V ?_ by5 by3
   clear H HP;first|(simp_all;done)|grind
  intro c43 h43
  refine Q1 ?_
  rcases Za h43 with ⟨rfl,g43⟩|⟨rfl,g43⟩
  ·refine Q242 ?_
   refine Q51 ?_
   refine Q32 ?_
   refine Q92 ?_
   refine Q293 ?_
   refine Q425 ?_
   refine Zx 52 V V (Zg V te_22 V (.seq _ _) V V (hcu) ⟨V,V⟩) ?_
   refine Q87 ?_
   refine Zx 54 V V (Zd (xs:=[.tmp 47,.tmp 49,.tmp 53]) V V (HP) by1 ⟨V,V⟩) ?_
   refine Q20 ?_
   refine Q544 ?_
   show AGo _ _ _ _ _ _ _
   refine Q555 ?_
   refine Zy 70 (m<0∨l.length≤m) ?_ _ _ V ?_
   ·skip
    refine Q419 ?_;intro c58 h58
    try replace h58:=Yo h58 h56
    refine Q5 ?_
    rcases Za h58 with ⟨rfl,g58⟩|⟨rfl,g58⟩
    ·skip
     refine Q291 ?_
     refine Q61 ?_;intro c62 h62
     refine Q260 ?_
     rcases Za h62 with ⟨rfl,g62⟩|⟨rfl,g62⟩
     ·skip
      refine Q533 ?_
      refine Q79 ?_;intro n68
      refine Q102 ?_;intro c69 h69
      refine Q236 ?_
      refine Xx V ?_ by5 by3
      clear H HP;first|(simp_all;done)|(simp_all;omega)|grind
     skip
     refine Q331 ?_
     refine Xx V ?_ by5 by3
     clear H HP;first|(simp_all;done)|(simp_all;omega)|grind
    skip
    refine Q382 ?_
    refine Q331 ?_
    refine Xx V ?_ by5 by3
    clear H HP;first|(simp_all;done)|(simp_all;omega)|grind
   intro c70 h70
   refine Q1 ?_
   rcases Za h70 with ⟨rfl,g70⟩|⟨rfl,g70⟩
   ·refine Q242 ?_
    obtain ⟨⟨yk,ys,yn,yl⟩,hy⟩:=Zr (l:=l) (i:=m.toNat) (by omega)
    have hcy:=Ty.cellss_get hy
    rw [if_neg (fun q=>g70 (.inl q)),hy] at hr
    have hr:(Ty.mk yk ys yn yl,true)=r:=hr
    have h0:0≤m:=by omega
    refine Q234 ?_
    refine Q235 ?_
    refine Zb 75 V V V (Zg (i:=m.toNat) V te_22 V (.seq _ _) V (by first|rfl|omega) (hcy) ?_)
    refine Q42 ?_
    refine Q380 ?_
    subst hr
    exact Yn (i:=0) V V V V Yi V by0 (Xo _) ⟨V,V⟩
   refine Q449 ?_
   have hw:r=(tyZ,false):=by
    rw [← hr]
    by_cases q:m<0
    ·rw [if_pos q]
    rw [if_neg q,List.getElem?_eq_none (by omega)]
   clear hr
   subst hw
   exact Yn (i:=0) V V V V Yi V by0 (Xo _) ⟨V,V⟩
  exact g43.elim
 exact (g12 V).elim
theorem tNames_c (q:Pa):q.size≤10000000000→OCall Tryz.prog 153 [.agg q.cells] 9 1 (strs q.names):=by
 obtain ⟨k,s,n,ks,p⟩:=q
 intro hs
 rw [Pa.size] at hs
 have IH:∀ x∈ks,OCall Tryz.prog 153 [.agg x.cells] 9 1 (strs x.names):=fun x hx=>tNames_c x (by have:=Pa.size_kid hx;omega)
 have hl:=Pa.cellss_len ks
 rw [Pa.names]
 obtain ⟨H,hH⟩:∃ H,H=(if k=2 then [s] else []):=⟨_,rfl⟩
 have hHl:H.length≤1:=by rw [hH];split <;> simp
 rw [← hH]
 refine Zc Tryz.func153 V (by kernel_rfl) V (Xz V) ?_
 refine Q15 ?_
 refine c_lena (t:=0) (j:=3) V V (.seq _ _) (fun hmax=>?_)
 refine Q227 ?_
 refine Q129 ?_
 refine Q264 ?_
 refine Q306 ?_
 refine ACode.ownNil (t:=3) 9 1 V ?_
 refine Q4 ?_
 refine Q235 ?_
 refine Q17 ?_;intro c8 h8
 refine Q226 ?_
 rcases Za h8 with ⟨rfl,g8⟩|⟨rfl,g8⟩
 ·refine Q242 ?_
  refine Q270 ?_
  refine Q165 ?_;intro n16
  refine Q317 ?_
  refine c_loop (σ:=Nat × Value) (fun zz=>match zz with|(i,u)=>[(3,.own u 1 (strs (H++Pa.namess (ks.take i)))),(15,.seq 5 (Pa.cellss ks)),(16,.val (.int .i64 (Pa.cellss ks).length)),(17,.val (.int .i64 i))]) (fun zz=>match zz with|(i,u)=>[.own 9 1 u]) (fun zz=>match zz with|(i,u)=>i≤ks.length) (fun zz=>match zz with|(i,u)=>ks.length - i) ((0,.slice none 0 0)) ?_ ?_ ?_ ?_
  ·simp
  ·exact (by repeat' (first|exact SLe.nil _|refine Xw V ?_ ?_|exact Xt _|exact Le.own _ _ _|exact Le.nil _|(refine Xy ?_;first|(rw [hH,if_pos g8];rfl)|(rw [hH,if_neg g8];rfl))|(refine Le.own_seq ?_;first|(rw [hH,if_pos g8];rfl)|(rw [hH,if_neg g8];rfl))|(refine Le.seq_eq ?_;first|(rw [hH,if_pos g8];rfl)|(rw [hH,if_neg g8];rfl))))
  ·exact by3
  rintro ⟨i,u⟩ hI
  try dsimp only [List.cons_append,List.nil_append] at hI ⊢
  refine Q318 ?_;intro c18 h18
  refine Q241 ?_
  rcases Za h18 with ⟨rfl,g18⟩|⟨rfl,g18⟩
  ·refine Q364 ?_
   refine Zf V V (Xy ?_) by3 ⟨_,V,V⟩
   rw [List.take_of_length_le (by omega)]
  refine Q265 ?_
  obtain ⟨⟨yk,ys,yn,yks,yp⟩,hx⟩:=Zr (l:=ks) (i:=i) (by omega)
  have hcx:=Pa.cellss_get hx
  have hle:=Pa.namess_len (ks.take i)
  have hle2:=Pa.names_len ⟨yk,ys,yn,yks,yp⟩
  have hle3:=Pa.sizes_take hx
  have e:strs (H++Pa.namess (ks.take i))++strs (Pa.names ⟨yk,ys,yn,yks,yp⟩)=strs (H++Pa.namess (ks.take (i+1))):=by rw [Pa.namess_take hx,← strs_app,List.append_assoc]
  refine Q4 ?_
  refine Q198 ?_
  refine Q123 ?_
  refine Q86 ?_;intro b5
  refine Q99 ?_
  refine Q451 ?_
  refine Q108 ?_
  refine Zb 23 V V V (op_callo (xs:=[.tmp 22]) V V (IH _ (We hx)) by1 ?_);intro u23
  refine Zb 24 V V V (Zw (i:=2) Xd V V V V (.own _ _ _) (by rw [Ye,Ye,List.length_append];omega) ?_)
  intro u24
  refine Q450 ?_
  exact ⟨(i+1,u24),by simp;omega,by simp;omega,(by repeat' (first|exact SLe.nil _|refine Xw V ?_ ?_|exact Xt _|exact Le.own _ _ _|exact Le.nil _|(refine Xy ?_;exact e)|(refine Le.own_seq ?_;exact e)|(refine Le.seq_eq ?_;exact e))),by3⟩
 refine Q9 ?_
 refine Q234 ?_
 refine Q235 ?_
 refine Zb 12 V V V (Zh (xs:=[.tmp 11]) Xd V V V V V V (Xz V) (Zb 13 V V V (Zw (i:=0) Xd V V V V (.seq _ _) by6 ?_)))
 intro u13
 refine Q383 ?_
 refine Q165 ?_;intro n16
 refine Q317 ?_
 refine c_loop (σ:=Nat × Value) (fun zz=>match zz with|(i,u)=>[(3,.own u 1 (strs (H++Pa.namess (ks.take i)))),(15,.seq 5 (Pa.cellss ks)),(16,.val (.int .i64 (Pa.cellss ks).length)),(17,.val (.int .i64 i))]) (fun zz=>match zz with|(i,u)=>[.own 9 1 u]) (fun zz=>match zz with|(i,u)=>i≤ks.length) (fun zz=>match zz with|(i,u)=>ks.length - i) ((0,u13)) ?_ ?_ ?_ ?_
 ·simp
 ·exact (by repeat' (first|exact SLe.nil _|refine Xw V ?_ ?_|exact Xt _|exact Le.own _ _ _|exact Le.nil _|(refine Xy ?_;first|(rw [hH,if_pos g8];rfl)|(rw [hH,if_neg g8];rfl))|(refine Le.own_seq ?_;first|(rw [hH,if_pos g8];rfl)|(rw [hH,if_neg g8];rfl))|(refine Le.seq_eq ?_;first|(rw [hH,if_pos g8];rfl)|(rw [hH,if_neg g8];rfl))))
 ·exact by3
 rintro ⟨i,u⟩ hI
 try dsimp only [List.cons_append,List.nil_append] at hI ⊢
 refine Q318 ?_;intro c18 h18
 refine Q241 ?_
 rcases Za h18 with ⟨rfl,g18⟩|⟨rfl,g18⟩
 ·refine Q364 ?_
  refine Zf V V (Xy ?_) by3 ⟨_,V,V⟩
  rw [List.take_of_length_le (by omega)]
 refine Q265 ?_
 obtain ⟨⟨yk,ys,yn,yks,yp⟩,hx⟩:=Zr (l:=ks) (i:=i) (by omega)
 have hcx:=Pa.cellss_get hx
 have hle:=Pa.namess_len (ks.take i)
 have hle2:=Pa.names_len ⟨yk,ys,yn,yks,yp⟩
 have hle3:=Pa.sizes_take hx
 have e:strs (H++Pa.namess (ks.take i))++strs (Pa.names ⟨yk,ys,yn,yks,yp⟩)=strs (H++Pa.namess (ks.take (i+1))):=by rw [Pa.namess_take hx,← strs_app,List.append_assoc]
 refine Q4 ?_
 refine Q198 ?_
 refine Q123 ?_
 refine Q86 ?_;intro b5
 refine Q99 ?_
 refine Q451 ?_
 refine Q108 ?_
 refine Zb 23 V V V (op_callo (xs:=[.tmp 22]) V V (IH _ (We hx)) by1 ?_);intro u23
 refine Zb 24 V V V (Zw (i:=2) Xd V V V V (.own _ _ _) (by rw [Ye,Ye,List.length_append];omega) ?_)
 intro u24
 refine Q450 ?_
 exact ⟨(i+1,u24),by simp;omega,by simp;omega,(by repeat' (first|exact SLe.nil _|refine Xw V ?_ ?_|exact Xt _|exact Le.own _ _ _|exact Le.nil _|(refine Xy ?_;exact e)|(refine Le.own_seq ?_;exact e)|(refine Le.seq_eq ?_;exact e))),by3⟩
termination_by SizeOf.sizeOf q
decreasing_by exact Pa.lt_kid hx
mutual
theorem patC_len (v:En):∀ (p:Pa) (t:Ty) (l:List Cb),patC v p t=some l→l.length≤p.size
 | .mk k s n ks pp,t,l,h=>by
  rw [patC] at h
  rw [Pa.size]
  split at h
  ·cases h;simp
  split at h
  ·cases h;simp
  split at h
  ·split at h
   ·cases h;simp
   simp at h
  split at h
  ·simp at h
  split at h
  ·simp at h
  have:=patCs_len v ks _ l h;omega
theorem patCs_len (v:En):∀ (ps:List Pa) (ts:List Ty) (l:List Cb),patCs v ps ts=some l→l.length≤Pa.sizes ps
 | [],ts,l,h=>by rw [patCs] at h;cases h;simp;simp
 | p::ps,[],l,h=>by rw [patCs] at h;cases h;simp;simp
 | p::ps,t::ts,l,h=>by
  rw [patCs] at h
  rw [Pa.sizes]
  cases h1:patC v p t with
  | none=>rw [h1] at h;simp at h
  | some a =>
   rw [h1] at h
   simp only [] at h
   cases h2:patCs v ps ts with
   | none=>rw [h2] at h;simp at h
   | some b =>
    rw [h2] at h
    cases h
    have:=patC_len v p t a h1
    have:=patCs_len v ps ts b h2
    rw [List.length_append];omega
end
def patT (o:Option (List Cb)):AV:=.tup [.seq 17 (Cb.cellss (o.getD [])),.val (.bool o.isSome)]
theorem coPat_c (v:En) (hv:EnT v) (pm:List (List AV)) (sc:List Cb) (vs:List ByteArray):∀ (d:Nat) (p:Pa) (t:Ty),p.size≤d→p.size≤90000000000→t.wd→PCall Tryz.prog 152 [.agg (ckC v pm sc vs),.agg p.cells,.agg t.cells] (patT (patC v p t))
 | 0,p,t,h,_,_=>by cases p;rw [Pa.size] at h;omega
 | d+1,.mk k s n ks pp,t,h,hz,ht=>by
  rw [Pa.size] at h hz
  have IH:=coPat_c v hv pm sc vs d
  obtain ⟨r,hr⟩:∃ r,patC v (.mk k s n ks pp) t=r:=⟨_,rfl⟩
  rw [hr]
  rw [patC] at hr
  have HM:=coMono_c s t
  have HI:=Con_c kIntT [] (by simp)
  have HS:=tSameType_c t tInt
  have hti:t.eqC tInt=true↔t=tInt:=Ty.eqC_iff _ _
  generalize t.eqC tInt=ti at *
  have hlk:=Pa.cellss_len ks
  cases hc:conC s v.da with
  | none =>
   rw [hc] at hr
   replace hr:(if k=1 then some [] else if k=2 then some [Cb.mk s [] t co0] else if k=4 then (if ti=true then some [] else none) else none)=r:=hr
   have HC:=tCon_none v s hc
   clear IH hv hc
   generalize hq:(t=tInt)=q at *
   clear hq
   obtain ⟨tk,tn,tm,tl⟩:=t
   obtain ⟨da,cl,ins⟩:=v
   unfold ckC at *
   simp only [En.cells,List.cons_append,List.nil_append] at *
   refine Zc Tryz.func152 V (by kernel_rfl) V (Xz V) ?_
   refine Q300 ?_
   refine Q129 ?_
   refine Q69 ?_
   refine Q470 ?_
   refine Q352 ?_;intro c20 h20
   refine Q228 ?_
   rcases Za h20 with ⟨rfl,g20⟩|⟨rfl,g20⟩
   ·refine Q254 ?_;intro c22 h22
    refine Q228 ?_
    rcases Za h22 with ⟨rfl,g22⟩|⟨rfl,g22⟩
    ·refine Q254 ?_;intro c29 h29
     refine Q228 ?_
     rcases Za h29 with ⟨rfl,g29⟩|⟨rfl,g29⟩
     ·refine Q404 ?_
      refine Q2 ?_
      rw [if_neg g20,if_neg g22,if_neg g29] at hr
      refine Q4 ?_
      refine Q518 ?_
      refine Zb 38 V V V (Zd (xs:=[.tmp 35,.tmp 37]) V V (HC) by1 ?_)
      refine Q511 ?_;intro c43 h43
      try replace h43:=Yo h43 h41
      refine Q226 ?_
      rcases Za h43 with ⟨rfl,g43⟩|⟨rfl,g43⟩
      ·refine Q242 ?_
       exact absurd g43 (by simp)
      refine Q379 ?_
      subst hr
      exact Yy V V V (Le.tup (Xv (Le.nil 17) (Xu _))) (Xo _) ⟨V,V⟩
     refine Q302 ?_
     refine Q51 ?_
     refine Q87 ?_
     refine Zx 31 V V (Zd (xs:=[.const (.string ⟨#[73,110,116]⟩),.const (.slice none 0 0)]) V V (HI) by1 ⟨V,V⟩) ?_
     refine Yr 32 V V (fun _ q=>Ze (xs:=[.tmp 30,.tmp 31]) V V (HS) by1 q) ?_;intro c32 h32
     refine Q445 ?_
     show AGo _ _ _ _ _ _ _
     refine Q303 ?_
     rw [if_neg g20,if_neg g22,if_pos g29] at hr
     cases ti with
     | true =>
      subst hr
      exact Yy V V V (Le.tup (Xv (Le.nil 17) (Xv (Le.beq (by simp_all)) (Xu _)))) (Xo _) ⟨V,V⟩
     | false =>
      subst hr
      exact Yy V V V (Le.tup (Xv (Le.nil 17) (Xv (Le.beq (by simp_all)) (Xu _)))) (Xo _) ⟨V,V⟩
    refine Q240 ?_
    refine Q235 ?_
    refine Q42 ?_
    refine Zb 26 V V V (Zd (xs:=[.tmp 24,.tmp 25]) V V (HM) by1 ?_)
    refine Q199 ?_
    refine Q253 ?_
    rw [if_neg g20,if_pos g22] at hr
    subst hr
    exact Yy V V V (Xt _) (Xo _) ⟨V,V⟩
   refine Q379 ?_
   rw [if_pos g20] at hr
   subst hr
   exact Yy V V V (Le.tup (Xv (Le.nil 17) (Xu _))) (Xo _) ⟨V,V⟩
  | some dc =>
   obtain ⟨⟨ds,dps,dcs,ddv,dp⟩,⟨cs,cts,cp⟩⟩:=dc
   rw [hc] at hr
   replace hr:(if k=1 then some [] else if k=2 then some [Cb.mk s [] t co0] else if k=4 then (if ti=true then some [] else none) else if t.kind≠3∨t.name≠ds∨t.kids.length≠dps.length∨ks.length≠cts.length then none else patCs v ks (cts.map (Ty.turn (putO dps t.kids))))=r:=hr
   obtain ⟨i,j,HC,hi,hj⟩:=tCon_some v s _ _ hc
   have hj:dcs[j]?=some (.mk cs cts cp):=hj
   obtain ⟨hv1,hv2⟩:=hv.ct _ (We hi) _ (We hj)
   have hv1:cts.length≤1000000:=hv1
   have hv2:∀ u∈cts,u.wd:=fun u hu=>Ty.size_wd _ u (Nat.le_refl _) (by have:u.size≤9000:=hv2 u hu;omega)
   have hkw:∀ u∈t.kids,u.wd:=fun u hu=>by
    obtain ⟨tk,tn,tm,tl⟩:=t
    rw [Ty.wd] at ht
    exact (Ty.wds_iff _).1 ht.2 u hu
   have HP:=fun u (hu:u∈cts)=>PutW_c dps t.kids u hkw (hv2 u hu)
   have hTW:=fun u (hu:u∈cts)=>Ty.turn_wd (o:=putO dps t.kids) (putO_wd hkw) _ u (Nat.le_refl _) (hv2 u hu)
   have hci:=Da.cellss_get hi
   have hcj:=Cn.cellss_get hj
   have hlp:=Ye dps
   have hlc:=Ty.cellss_len cts
   clear hv hc
   generalize hq:(t=tInt)=q at *
   clear hq
   obtain ⟨tk,tn,tm,tl⟩:=t
   have hltl:=Ty.cellss_len tl
   simp only [Ty.kids] at HP hTW
   replace hr:(if k=1 then some [] else if k=2 then some [Cb.mk s [] ⟨tk,tn,tm,tl⟩ co0] else if k=4 then (if ti=true then some [] else none) else if tk≠3∨tn≠ds∨tl.length≠dps.length∨ks.length≠cts.length then none else patCs v ks (cts.map (Ty.turn (putO dps tl))))=r:=hr
   generalize hF:Ty.turn (putO dps tl)=F at *
   clear hkw ht
   obtain ⟨da,cl,ins⟩:=v
   unfold ckC at *
   simp only [En.cells,En.da,List.cons_append,List.nil_append] at *
   refine Zc Tryz.func152 V (by kernel_rfl) V (Xz V) ?_
   refine Q15 ?_
   refine c_lena (t:=1) (j:=3) V V (.seq _ _) (fun hmax=>?_)
   refine Q227 ?_
   refine Q40 ?_
   refine Q129 ?_
   refine Q69 ?_
   refine Q470 ?_
   refine Q352 ?_;intro c20 h20
   refine Q228 ?_
   rcases Za h20 with ⟨rfl,g20⟩|⟨rfl,g20⟩
   ·refine Q254 ?_;intro c22 h22
    refine Q228 ?_
    rcases Za h22 with ⟨rfl,g22⟩|⟨rfl,g22⟩
    ·refine Q254 ?_;intro c29 h29
     refine Q228 ?_
     rcases Za h29 with ⟨rfl,g29⟩|⟨rfl,g29⟩
     ·refine Q404 ?_
      refine Q2 ?_
      rw [if_neg g20,if_neg g22,if_neg g29] at hr
      refine Q4 ?_
      refine Q518 ?_
      refine Zb 38 V V V (Zd (xs:=[.tmp 35,.tmp 37]) V V (HC) by1 ?_)
      refine Q511 ?_;intro c43 h43
      try replace h43:=Yo h43 h41
      refine Q226 ?_
      rcases Za h43 with ⟨rfl,g43⟩|⟨rfl,g43⟩
      ·refine Q289 ?_
       refine Q13 ?_
       refine Q297 ?_
       refine Zb 48 V V V (Zg V te_37 V (.seq _ _) V V (hci) ?_)
       refine Q540 ?_;intro b11
       refine Q110 ?_
       refine Q426 ?_
       refine c_boold 81 (tk≠3∨tn≠ds∨tl.length≠dps.length∨ks.length≠cts.length) Xl V ?_ _ _ V ?_
       ·skip
        refine Q293 ?_
        refine Yr 52 V V (fun _ q=>op_neq V V V q) ?_;intro c52 h52
        refine Q20 ?_
        rcases Za h52 with ⟨rfl,g52⟩|⟨rfl,g52⟩
        ·skip
         refine Q333 ?_
         refine Q444 ?_
         refine Ys 58 V V V V (fun _ q=>op_sneq V V V q) ?_;intro c58 h58
         refine Q371 ?_
         rcases Za h58 with ⟨rfl,g58⟩|⟨rfl,g58⟩
         ·skip
          refine Q333 ?_
          refine Yg 63 V V V V (Yu V tu_22 V (.seq _ _) (fun _=>⟨V,V⟩)) ?_
          refine Q444 ?_
          refine Yg 66 V V V V (Yu V tu_44 V (.seq _ _) (fun _=>⟨V,V⟩)) ?_
          refine Ys 67 V V V V (fun _ q=>op_neq V V V q) ?_;intro c67 h67
          refine Q371 ?_
          rcases Za h67 with ⟨rfl,g67⟩|⟨rfl,g67⟩
          ·skip
           refine Q333 ?_
           refine Yg 72 V V V V (Yu V tu_65 V (.seq _ _) (fun _=>⟨V,V⟩)) ?_
           refine Q444 ?_
           refine Q50 ?_
           refine Yg 76 V V V V (Zg V te_112 V (.seq _ _) V V (hcj) ⟨V,V⟩) ?_
           refine Q333 ?_
           refine Yg 79 V V V V (Yu V tu_22 V (.seq _ _) (fun _=>⟨V,V⟩)) ?_
           refine Ys 80 V V V V (fun _ q=>op_neq V V V q) ?_;intro c80 h80
           refine Q33 ?_
           show BoolQ _ _ _ _ _ _
           refine Xx V ?_ by5 by3
           clear IH HM HI HS HP HC;first|(simp_all;done)|grind
          skip
          refine Q348 ?_
          refine Q542 ?_
          show BoolQ _ _ _ _ _ _
          refine Xx V ?_ by5 by3
          clear IH HM HI HS HP HC;first|(simp_all;done)|grind
         skip
         refine Q281 ?_
         refine Q414 ?_
         refine Q507 ?_
         refine Q542 ?_
         show BoolQ _ _ _ _ _ _
         refine Xx V ?_ by5 by3
         clear IH HM HI HS HP HC;first|(simp_all;done)|grind
        skip
        refine Q281 ?_
        refine Q12 ?_
        refine Q371 ?_
        refine Q281 ?_
        refine Q414 ?_
        refine Q507 ?_
        refine Q542 ?_
        show BoolQ _ _ _ _ _ _
        refine Xx V ?_ by5 by3
        clear IH HM HI HS HP HC;first|(simp_all;done)|grind
       intro c81 h81
       refine Q1 ?_
       rcases Za h81 with ⟨rfl,g81⟩|⟨rfl,g81⟩
       ·refine Q242 ?_
        rw [if_neg g81] at hr
        have hlen:ks.length=cts.length:=by
         clear IH HM HI HS HP HC
         exact Classical.not_not.1 fun q=>g81 (.inr (.inr (.inr q)))
        refine Q4 ?_
        refine Q383 ?_
        refine Q165 ?_;intro n84
        refine Q317 ?_
        refine Yv 46 17 ?_
        apply Ym (rg [(0,3),(4,1),(6,3),(10,1),(12,71),(85,31)]) (σ:=Nat × List Cb × Value) (fun zz=>match zz with|(i2,out,u)=>[(12,.own u 17 (Cb.cellss out)),(85,.val (.int .i64 i2))]) (fun zz=>match zz with|(i2,out,u)=>[.loc b11 [.val (.string ds),.seq 1 (strs dps),.seq 3 (Cn.cellss dcs),.seq 1 (strs ddv),.val (.int .i64 dp)],.own 46 17 u]) (fun zz=>match zz with|(i2,out,u)=>i2≤ks.length∧out.length+Pa.sizes (ks.drop i2)≤Pa.sizes ks∧(patCs (.mk da cl ins) (ks.drop i2) ((cts.map F).drop i2)).map (out++·)=r) (fun zz=>match zz with|(i2,out,u)=>ks.length - i2) ((0,[],.slice none 0 0))
        ·repeat' (first|exact Wc|apply Wa rfl|apply Wb rfl)
        ·exact ⟨Nat.zero_le _,by simp,by rw [List.drop_zero,List.drop_zero,hr];cases r <;> simp⟩
        ·exact Xw V (Le.nilOwn 17) (Xw V (Xt _) by4)
        ·exact by3
        rintro ⟨i2,out,u⟩ hI
        try dsimp only [List.cons_append,List.nil_append] at hI ⊢
        obtain ⟨hi2,hsz2,hD⟩:=hI
        have hol:=Cb.cellss_len out
        refine Q318 ?_;intro c86 h86
        refine Q241 ?_
        rcases Za h86 with ⟨rfl,g86⟩|⟨rfl,g86⟩
        ·refine Q342 ?_
         refine Q253 ?_
         rw [Wf (by omega),patCs] at hD
         ·have hr2:r=some out:=by rw [← hD];simp
          clear hD hr
          subst hr2
          exact Yy V V V (Le.tup (Xv (Le.own _ _ _) (Xu _))) (Xo _) ⟨V,V⟩
         simp
        refine Q265 ?_
        obtain ⟨⟨qk,qs,qn,ql,qp⟩,hxq⟩:=Zr (l:=ks) (i:=i2) by7
        have hcq:=Pa.cellss_get hxq
        have hmq:=We hxq
        obtain ⟨⟨uk,us,un,ul⟩,hu⟩:=Zr (l:=cts) (i:=i2) (by omega)
        have hcu:=Ty.cellss_get hu
        have hmu:=We hu
        have hAu:(cts.map F)[i2]?=some (F ⟨uk,us,un,ul⟩):=by rw [List.getElem?_map,hu];rfl
        have HPu:=HP _ hmu
        have hTu:=hTW _ hmu
        have hqs:=Pa.size_kid hmq
        rw [Yh hxq,Yh hAu,patCs] at hD
        rw [Yh hxq,Pa.sizes] at hsz2
        obtain ⟨⟨fk,fs,fn,fl⟩,hfu⟩:∃ y,F ⟨uk,us,un,ul⟩=y:=⟨_,rfl⟩
        rw [hfu] at HPu hTu hD
        have HQ:=IH ⟨qk,qs,qn,ql,qp⟩ ⟨fk,fs,fn,fl⟩ (by omega) (by omega) hTu
        have hql:=patC_len (.mk da cl ins) ⟨qk,qs,qn,ql,qp⟩ ⟨fk,fs,fn,fl⟩
        obtain ⟨o,ho⟩:∃ o,patC (.mk da cl ins) ⟨qk,qs,qn,ql,qp⟩ ⟨fk,fs,fn,fl⟩=o:=⟨_,rfl⟩
        rw [ho] at HQ hD hql
        unfold patT at HQ
        obtain ⟨c109,hc109⟩:∃ c,o.isSome=c:=⟨_,rfl⟩
        rw [hc109] at HQ
        have hgl:=Cb.cellss_len (o.getD [])
        clear hfu ho
        refine Q234 ?_
        refine Zb 88 V V V (Zg V te_65 V (.seq _ _) V V (hcq) ?_)
        refine Q123 ?_
        refine Q86 ?_;intro b14
        refine Q6 ?_
        refine Q99 ?_
        refine Q241 ?_
        refine Q51 ?_
        refine Q194 ?_
        refine Zx 92 V V (Yc (cs':=[_,_,_,_,_]) (i:=0) V ta_67 V V V V ⟨V,V⟩) ?_
        refine Q425 ?_
        refine Q293 ?_
        refine Q425 ?_
        refine Q20 ?_
        refine Zx 100 V V (Zg V te_112 V (.seq _ _) V V (by first|exact hcj|exact hcu) ⟨V,V⟩) ?_
        refine Q370 ?_
        refine Zx 104 V V (Zg V te_22 V (.seq _ _) V V (by first|exact hcj|exact hcu) ⟨V,V⟩) ?_
        refine Q87 ?_
        refine Zx 106 V V (Zd (xs:=[.tmp 94,.tmp 96,.tmp 105]) V V (HPu) by1 ⟨V,V⟩) ?_
        refine Zx 107 V V (Zd (xs:=[.tmp 91,.tmp 92,.tmp 106]) V V (HQ) by1 ⟨V,V⟩) ?_
        refine Q20 ?_
        refine Q544 ?_
        show AGo _ _ _ _ _ _ _
        refine Q469 ?_
        refine Q26 ?_;intro c111 h111
        try replace h111:=Yo h111 h109
        refine Q226 ?_
        rcases Za h111 with ⟨rfl,g111⟩|⟨rfl,g111⟩
        ·refine Q259 ?_
         obtain ⟨a,rfl⟩:∃ a,o=some a:=by
          cases o with
          | none=>simp at hc109;subst hc109;exact absurd (by simp:(false:Bool)=true↔False) (fun _=>g111 (by simp))
          | some a=>exact ⟨a,rfl⟩
         have hla:a.length≤_:=hql a rfl
         simp only [Option.getD_some] at hgl ⊢
         have hD:(match patCs (.mk da cl ins) (ks.drop (i2+1)) ((cts.map F).drop (i2+1)) with
          | none=>none
          | some m=>some (a++m)).map (out++·)=r:=hD
         refine Q314 ?_
         refine Zb 114 V V V (Zw (i:=2) el_27 V V V V (.seq _ _) by6 ?_)
         intro u114
         refine Q450 ?_
         refine ⟨(i2+1,out++a,u114),⟨by show i2+1≤ks.length;omega,by show (out++a).length+Pa.sizes (ks.drop (i2+1))≤Pa.sizes ks;rw [List.length_append];omega,?_⟩,by show ks.length - (i2+1)<ks.length - i2;omega,Xw V (Xy (Cb.cellss_app _ _).symm) by4,by3⟩
         rw [← hD]
         cases patCs (.mk da cl ins) (ks.drop (i2+1)) ((cts.map F).drop (i2+1)) with
         | none=>rfl
         | some m=>simp
        refine Q379 ?_
        have ho:o=none:=by
         cases o with
         | none=>rfl
         | some a=>simp at hc109;subst hc109;exact absurd g111 (by simp)
        subst ho
        have hr2:r=none:=by rw [← hD];rfl
        clear hD hr
        subst hr2
        exact Yy V V V (Le.tup (Xv (Le.nil 17) (Xu _))) (Xo _) ⟨V,V⟩
       refine Q379 ?_
       rw [if_pos g81] at hr
       subst hr
       exact Yy V V V (Le.tup (Xv (Le.nil 17) (Xu _))) (Xo _) ⟨V,V⟩
      refine Q302 ?_
      exact absurd g43 (by simp)
     refine Q302 ?_
     refine Q51 ?_
     refine Q87 ?_
     refine Zx 31 V V (Zd (xs:=[.const (.string ⟨#[73,110,116]⟩),.const (.slice none 0 0)]) V V (HI) by1 ⟨V,V⟩) ?_
     refine Yr 32 V V (fun _ q=>Ze (xs:=[.tmp 30,.tmp 31]) V V (HS) by1 q) ?_;intro c32 h32
     refine Q445 ?_
     show AGo _ _ _ _ _ _ _
     refine Q303 ?_
     rw [if_neg g20,if_neg g22,if_pos g29] at hr
     cases ti with
     | true =>
      subst hr
      exact Yy V V V (Le.tup (Xv (Le.nil 17) (Xv (Le.beq (by simp_all)) (Xu _)))) (Xo _) ⟨V,V⟩
     | false =>
      subst hr
      exact Yy V V V (Le.tup (Xv (Le.nil 17) (Xv (Le.beq (by simp_all)) (Xu _)))) (Xo _) ⟨V,V⟩
    refine Q240 ?_
    refine Q235 ?_
    refine Q42 ?_
    refine Zb 26 V V V (Zd (xs:=[.tmp 24,.tmp 25]) V V (HM) by1 ?_)
    refine Q199 ?_
    refine Q253 ?_
    rw [if_neg g20,if_pos g22] at hr
    subst hr
    exact Yy V V V (Xt _) (Xo _) ⟨V,V⟩
   refine Q379 ?_
   rw [if_pos g20] at hr
   subst hr
   exact Yy V V V (Le.tup (Xv (Le.nil 17) (Xu _))) (Xo _) ⟨V,V⟩
theorem ACode.freezep {ro:Option Nat} {n':Nat} {Q:Exit→Sl→Mem→Prop} {c:Code} {al al':Sl} {M:Mem} {P:Program} {b i:Nat} {cs:List AV} (hm:M[i]?=some (.loc b cs))
    (hs:∀ t v',al'.lookup t=some v'→∃ v,al.lookup t=some v∧(Le v v'∨v=.ptr b 0∧v'=.cptr cs))
    (h:ACode ro P n' c Q al' (M.eraseIdx i)):ACode ro P n' c Q al M:=by
 intro B F Mf a w hi hsl
 have hi2:=hi.perm ((perm_at hm).append_right Mf)
 rw [List.cons_append] at hi2
 obtain ⟨hB,hF,vs,T,hb,hr,h1⟩:=hi2.ok _ (List.mem_cons_self)
 have hfar:=hi2.far
 rw [List.pairwise_cons] at hfar
 have hbl:b<w.heap.size:=(hi2.ok _ (List.mem_cons_self)).lt (r:=.loc b cs) rfl
 have hext:Ext F (F.new b vs):=by
  intro b' j x hx
  unfold EH.new
  split
  ·rename_i e;subst e;rw [hF j] at hx;simp at hx
  exact hx
 have hinv:Inv B (F.new b vs) (M.eraseIdx i++Mf) w:=by
  refine ⟨hi.base,fun b' j x hx=>?_,fun r hr'=>?_,hfar.2⟩
  ·unfold EH.new at hx
   split at hx
   ·rename_i e;subst e
    rw [cell_block hb];exact hx
   exact hi.fix b' j x hx
  refine (hi2.ok r (List.mem_cons_of_mem _ hr')).stay hext (fun b' hb'=>⟨V,fun j=>?_⟩)
  unfold EH.new
  rw [if_neg]
  intro e
  subst e
  rcases hfar.1 r hr' with k|k
  ·simp [Res.blk] at k
  exact k hb'.symm
 have:=h B (F.new b vs) Mf a w hinv ⟨hsl.1,fun t v' e=>?_⟩
 ·exact Code.wpIn_mono (fun e a w hp=>PostD.next (Ds:=[]) hext (Below.refl _ _) hp) this
 obtain ⟨v,h2,h3⟩:=hs t v' e
 obtain ⟨h4,h5⟩:=hsl.2 t v h2
 refine ⟨h4,?_⟩
 rcases h3 with h3|⟨rfl,rfl⟩
 ·exact h3 _ _ (h5.mono hext)
 generalize a.tmps.getD t undef=y at h5
 cases h5
 exact .cptr b 0 (EH.new_lies _ _ _) (hr.mono hext) h1
theorem c_frzp {ro:Option Nat} {P:Program} {n:Nat} {ks:List Kont} {Q:Exit→Sl→Mem→Prop} {c:Code} {al:Sl} {M:Mem} {b i:Nat} {cs:List AV} (t:Nat) (hm:M[i]?=some (.loc b cs)) (ht:al.lookup t=some (.ptr b 0)) (h:ACode ro P n c (after ro P n ks Q) ((t,.cptr cs)::al) (M.eraseIdx i)):ACode ro P n c (after ro P n ks Q) al M :=
 ACode.freezep hm (fun t' v' e=>by
  by_cases q:t'=t
  ·subst q
   simp only [List.lookup_cons,beq_self_eq_true,Option.some.injEq] at e
   exact ⟨_,ht,.inr ⟨V,e.symm⟩⟩
  rw [List.lookup_cons,show (t' == t)=false by simpa using q] at e
  exact ⟨_,e,.inl (Xt _)⟩) h
theorem coBind1_c (v:En) (pm:List (List AV)) (sc:List Cb) (vs:List ByteArray) (s:ByteArray):BCall Tryz.prog 71 [.val (.string s),.cptr (ckC v pm sc vs)] ((!hasB vs s)=true):=by
 have H:=ContainsS_c vs s
 rw [show ((!hasB vs s)=true)=¬ (s∈vs) by rw [← hasB_iff];simp]
 unfold ckC
 obtain ⟨da,cl,ins⟩:=v
 simp only [En.cells,List.cons_append,List.nil_append] at *
 refine Zc Tryz.func71 V (by kernel_rfl) V (Xz V) ?_
 refine Q537 ?_
 refine Q13 ?_
 refine Q297 ?_
 refine Zb 8 V V V (Ze (xs:=[.tmp 6,.tmp 7]) V V (H) by1 ?_);intro c8 h8
 refine Q26 ?_;intro c9 h9
 try replace h9:=Yo h9 h8
 refine Q232 ?_
 exact Zf V V (Xt _) (Xo _) ⟨⟨_,h9,V⟩,V⟩
theorem coBind_c (v:En) (pm:List Pm) (sc:List Cb) (vs:List ByteArray) (f:List Cb→List ByteArray→Co→Ty × Bool) (b:Cb) (h1:vs.length≤1000000000) (h2:b.vs.length≤1000000000) (H:TypC v pm sc (vs++b.vs) b.e (f sc (vs++b.vs) b.e)):BCall Tryz.prog 43 [.agg (ckC v (Pm.cellss pm) sc vs),.agg b.cells] (bindC f v sc vs b=true):=by
 have HU:=unlike_c b.vs
 have HA:=all_S (fun s => !hasB vs s) 71 [] [.cptr (ckC v (Pm.cellss pm) sc vs)] b.vs (fun x _=>coBind1_c v (Pm.cellss pm) sc vs x)
 have HW:=coAllow_c v (Pm.cellss pm) sc vs b.vs h1 h2
 have HR:=coRight_c v (vs++b.vs) b.t
 have HI:=coIs_c v pm sc (vs++b.vs) b.e (f sc (vs++b.vs) b.e) b.t H
 rw [show (bindC f v sc vs b=true)=((unlB b.vs=true∧(b.vs.all fun s => !hasB vs s)=true)∧(rightC v (vs++b.vs) b.t=true∧((f sc (vs++b.vs) b.e).2 && (f sc (vs++b.vs) b.e).1.eqC b.t)=true)) by unfold bindC;simp only [Bool.and_eq_true]]
 generalize (unlB b.vs=true)=q1 at *
 generalize ((b.vs.all fun s => !hasB vs s)=true)=q2 at *
 generalize (rightC v (vs++b.vs) b.t=true)=q3 at *
 generalize (((f sc (vs++b.vs) b.e).2 && (f sc (vs++b.vs) b.e).1.eqC b.t)=true)=q4 at *
 clear H h1 h2
 obtain ⟨qb,qvs,⟨qwk,qws,qwn,qwl⟩,⟨qk,qs,qn,⟨qtk,qts,qtn,qtl⟩,qus,qks,qal,qbs⟩⟩:=b
 simp only [Cb.vs,Cb.t,Cb.e] at *
 obtain ⟨da,cl,ins⟩:=v
 unfold ckC at *
 simp only [En.cells,List.cons_append,List.nil_append] at *
 refine Zc Tryz.func43 V (by kernel_rfl) V (Xz V) ?_
 refine Q300 ?_
 refine Q144 ?_
 refine Q306 ?_
 refine Zy 16 (¬ (q1∧q2)) ?_ _ _ V ?_
 ·skip
  refine Q235 ?_
  refine Zb 8 V V V (Ze (xs:=[.tmp 7]) V V (HU) by1 ?_);intro c8 h8
  refine Q26 ?_;intro c9 h9
  try replace h9:=Yo h9 h8
  refine Q5 ?_
  rcases Za h9 with ⟨rfl,g9⟩|⟨rfl,g9⟩
  ·skip
   refine Q291 ?_
   refine Zq 13 V V V V V (op_makeFunc (fs:=[]) (cs:=[.tmp 2]) V V V (Zq 14 V V V V V (Ze (xs:=[.tmp 12,.tmp 13]) V V (HA) by1 ?_)));intro c14 h14
   refine Q67 ?_;intro c15 h15
   try replace h15:=Yo h15 h14
   refine Q236 ?_
   refine Xx V ?_ by5 by3
   clear HU HA HW HR HI;first|(simp_all;done)|grind
  skip
  refine Q331 ?_
  refine Xx V ?_ by5 by3
  clear HU HA HW HR HI;first|(simp_all;done)|grind
 intro c16 h16
 refine Q1 ?_
 rcases Za h16 with ⟨rfl,g16⟩|⟨rfl,g16⟩
 ·refine Q289 ?_
  refine Q85 ?_
  refine Q235 ?_
  refine Zb 20 V V V (Zd (xs:=[.tmp 17,.tmp 19]) V V (HW) by1 ?_)
  refine Q112 ?_;intro b5
  refine Q135 ?_
  refine Q241 ?_
  refine Zy 4 (q3∧q4) ?_ _ _ V ?_
  ·skip
   refine Q11 ?_
   refine Q188 ?_
   refine Q11 ?_
   refine Q243 ?_
   refine Q431 ?_
   refine Zb 28 V V V (Ze (xs:=[.tmp 22,.tmp 25,.tmp 27]) V V (HR) by1 ?_);intro c28 h28
   refine Q5 ?_
   rcases Za h28 with ⟨rfl,g28⟩|⟨rfl,g28⟩
   ·skip
    refine Q251 ?_
    refine Q400 ?_
    refine Xx V ?_ by5 by3
    clear HU HA HW HR HI;first|(simp_all;done)|grind
   skip
   refine Zq 30 V V V V V (Yc (cs':=[_,_,_,_,_,_]) (i:=0) V ta_92 V V V V ?_)
   refine Q25 ?_
   refine Q200 ?_
   refine Q429 ?_
   refine Zq 35 V V V V V (Ze (xs:=[.tmp 30,.tmp 32,.tmp 34]) V V (HI) by1 ?_);intro c35 h35
   refine Q273 ?_
   refine Xx V ?_ by5 by3
   clear HU HA HW HR HI;first|(simp_all;done)|grind
  intro c4 h4
  refine Q303 ?_
  exact Zf V V (Xt _) (Xo _) ⟨⟨_,h4.trans ⟨fun q=>⟨Classical.not_not.1 g16,q⟩,fun q=>q.2⟩,V⟩,V⟩
 refine Q285 ?_
 exact Zf V V (Xt _) (Xo _) ⟨⟨_,iff_f (fun q=>g16 q.1),V⟩,V⟩
theorem coLet1_c (v:En) (pm:List (List AV)) (sc2:List Cb) (vs:List ByteArray) (e:Co) (b:Cb) (q:Bool) (HB:BCall Tryz.prog 43 [.agg (ckC v pm sc2 vs),.agg b.cells] (q=true)):BCall Tryz.prog 148 [.agg b.cells,.cptr e.cells,.cptr (ckC v pm sc2 vs)] (((decide (e.n≠1) || decide (b.e.k=6)) && q)=true):=by
 rw [show ((((decide (e.n≠1) || decide (b.e.k=6)) && q)=true))=((e.n≠1∨b.e.k=6)∧q=true) by simp]
 generalize (q=true)=Q at *
 obtain ⟨qb,qvs,⟨qwk,qws,qwn,qwl⟩,⟨qk,qs,qn,⟨qtk,qts,qtn,qtl⟩,qus,qks,qal,qbs⟩⟩:=b
 obtain ⟨k,s,n,⟨tk,ts,tn,tl⟩,us,ks,al,bs⟩:=e
 simp only [Co.n,Cb.e,Co.k]
 obtain ⟨da,cl,ins⟩:=v
 unfold ckC at *
 simp only [En.cells,List.cons_append,List.nil_append] at *
 refine Zc Tryz.func148 V (by kernel_rfl) V (Xz V) ?_
 refine Q237 ?_
 refine Q144 ?_
 refine Q238 ?_
 refine Zy 4 ((n≠1∨qk=6)∧Q) ?_ _ _ V ?_
 ·skip
  refine Q235 ?_
  refine Q34 ?_;intro c7 h7
  refine Q5 ?_
  rcases Za h7 with ⟨rfl,g7⟩|⟨rfl,g7⟩
  ·skip
   refine Q409 ?_
   refine Q38 ?_;intro c12 h12
   refine Q260 ?_
   rcases Za h12 with ⟨rfl,g12⟩|⟨rfl,g12⟩
   ·skip
    refine Q549 ?_
    refine Xx V ?_ by5 by3
    clear HB;first|(simp_all;done)|grind
   skip
   refine Q163 ?_
   refine Q201 ?_
   refine Zq 17 V V V V V (Ze (xs:=[.tmp 15,.tmp 16]) V V (HB) by1 ?_);intro c17 h17
   refine Q273 ?_
   refine Xx V ?_ by5 by3
   clear HB;first|(simp_all;done)|grind
  skip
  refine Q442 ?_
  refine Q163 ?_
  refine Q201 ?_
  refine Zq 17 V V V V V (Ze (xs:=[.tmp 15,.tmp 16]) V V (HB) by1 ?_);intro c17 h17
  refine Q273 ?_
  refine Xx V ?_ by5 by3
  clear HB;first|(simp_all;done)|grind
 intro c4 h4
 refine Q303 ?_
 exact Zf V V (Xt _) (Xo _) ⟨⟨_,h4,V⟩,V⟩
abbrev LetC (v:En) (pm:List Pm) (sc:List Cb) (vs:List ByteArray) (e:Co) (r:Ty × Bool):Prop:=PCall Tryz.prog 89 [.agg (ckC v (Pm.cellss pm) sc vs),.agg e.cells] (.tup [.agg r.1.cells,.val (.bool r.2)])
theorem coLet_c (v:En) (pm:List Pm) (sc:List Cb) (vs:List ByteArray) (k m:Int) (s:ByteArray) (t:Ty) (ts:List Ty) (ks:List Co) (al:List Ca) (bs:List Cb) (q:Cb→Bool) (r:Ty × Bool) (h1:sc.length≤1000000000) (h2:bs.length≤1000000000)
    (HB:∀ b∈bs,BCall Tryz.prog 43 [.agg (ckC v (Pm.cellss pm) (if m=1 then sc++bs else sc) vs),.agg b.cells] (q b=true))
    (HX:∀ x,ks=[x]→TypC v pm (sc++bs) vs x r) :
    LetC v pm sc vs (.mk k s m t ts ks al bs) (if ks.length=1∧unlB (bs.map Cb.s)=true∧(bs.all fun b=>(decide (m≠1) || decide (b.e.k=6)) && q b)=true then r else (tyZ,false)):=by
 obtain ⟨S2,hS2⟩:∃ S,(if m=1 then sc++bs else sc)=S:=⟨_,rfl⟩
 rw [hS2] at HB
 have HW:=coWith_c v (Pm.cellss pm) sc bs vs h1 h2
 have HU:=unlike_c (bs.map Cb.s)
 have HA:=all_Cb (fun b=>(decide (m≠1) || decide (b.e.k=6)) && q b) 148 [] [.cptr (Co.mk k s m t ts ks al bs).cells,.cptr (ckC v (Pm.cellss pm) S2 vs)] bs (fun b hb=>coLet1_c v (Pm.cellss pm) _ vs (.mk k s m t ts ks al bs) b (q b) (HB b hb))
 clear HB
 generalize (bs.all fun b=>(decide (m≠1) || decide (b.e.k=6)) && q b)=q2 at *
 generalize hnb:bs.map Cb.s=nb at *
 generalize unlB nb=q1 at *
 have hlk:=Co.cellss_len ks
 have hlb:=Cb.cellss_len bs
 obtain ⟨tk,tn,tm,tl⟩:=t
 obtain ⟨R,hR⟩:∃ R,(if ks.length=1∧q1=true∧q2=true then r else (tyZ,false))=R:=⟨_,rfl⟩
 rw [hR]
 obtain ⟨⟨rk,rn,rm,rl⟩,c59⟩:=r
 obtain ⟨da,cl,ins⟩:=v
 unfold LetC TypC ckC at *
 simp only [En.cells,List.cons_append,List.nil_append] at *
 refine Zc Tryz.func89 V (by kernel_rfl) V (Xz V) ?_
 refine Q15 ?_
 refine c_lena (t:=1) (j:=10) V V (.seq _ _) (fun hmax=>?_)
 refine Q227 ?_
 refine Q40 ?_
 refine Q311 ?_;intro b4
 refine Q264 ?_
 refine Q383 ?_
 refine Q91 ?_;intro n14
 refine Q317 ?_
 refine Q88 ?_
 apply Ym (rg [(0,2),(6,3),(12,1),(15,10)]) (σ:=Nat × List ByteArray × Value) (fun zz=>match zz with|(i,acc,u)=>[(6,.own u 1 (strs acc)),(15,.val (.int .i64 i))]) (fun zz=>match zz with|(i,acc,u)=>[.loc b4 [.val (.int .i64 0),.val (.string kE),.val (.int .i64 0),.val (.slice none 0 0)],.own 9 1 u]) (fun zz=>match zz with|(i,acc,u)=>i≤bs.length∧acc=(bs.take i).map Cb.s) (fun zz=>match zz with|(i,acc,u)=>bs.length - i) ((0,[],.slice none 0 0))
 ·repeat' (first|exact Wc|apply Wa rfl|apply Wb rfl)
 ·exact ⟨Nat.zero_le _,V⟩
 ·exact Xw V (Le.nilOwn 1) (Xw V (Xt _) by4)
 ·exact by3
 rintro ⟨i,acc,u⟩ hI
 try dsimp only [List.cons_append,List.nil_append] at hI ⊢
 obtain ⟨hi,ha⟩:=hI
 have hol:(strs acc).length≤1000000000:=by rw [Ye,ha,List.length_map,List.length_take];omega
 refine Q318 ?_;intro c16 h16
 refine Q241 ?_
 rcases Za h16 with ⟨rfl,g16⟩|⟨rfl,g16⟩
 ·refine Q343 ?_
  rw [List.take_of_length_le (by omega),hnb] at ha
  subst ha
  refine Q4 ?_
  refine Q85 ?_
  refine Q235 ?_
  refine Zb 28 V V V (Zd (xs:=[.tmp 25,.tmp 27]) V V (HW) by1 ?_)
  refine Q112 ?_;intro b9
  refine Q135 ?_
  refine Q258 ?_
  refine Q85 ?_
  refine Q112 ?_;intro b10
  refine Q135 ?_
  refine Q241 ?_
  refine Q270 ?_
  refine Q17 ?_;intro c32 h32
  refine Q226 ?_
  apply c_joink (rg [(0,3),(7,2),(12,12),(25,9)]) (σ:=Unit) (fun zz=>match zz with|_x=>[]) (fun zz=>match zz with|_x=>[.loc b10 [.seq 17 (Cb.cellss S2),.seq 1 (strs vs),.seq 5 (Da.cellss da),.seq 6 (Cl.cellss cl),.seq 8 (In.cellss ins),.seq 9 (Pm.cellss pm)],.loc b9 [.seq 17 (Cb.cellss (sc++bs)),.seq 1 (strs vs),.seq 5 (Da.cellss da),.seq 6 (Cl.cellss cl),.seq 8 (In.cellss ins),.seq 9 (Pm.cellss pm)],.loc b4 [.val (.int .i64 0),.val (.string kE),.val (.int .i64 0),.val (.slice none 0 0)]]) (fun zz=>match zz with|_x=>True)
  ·repeat' (first|exact Wc|apply Wa rfl|apply Wb rfl)
  ·skip
   rcases Za h32 with ⟨rfl,g32⟩|⟨rfl,g32⟩
   ·refine Q411 ?_
    first
    | rw [if_pos g32] at hS2;subst hS2;exact ⟨(),trivial,by4,by3⟩
    | rw [if_neg g32] at hS2;subst hS2;exact ⟨(),trivial,by4,by3⟩
   refine Q278 ?_
   refine Zb 33 V V V (Yc (cs':=[_,_,_,_,_,_]) (i:=1) V ta_92 V V V V ?_)
   refine Q135 ?_
   refine Q310 ?_
   first
   | rw [if_pos g32] at hS2;subst hS2;exact ⟨(),trivial,by4,by3⟩
   | rw [if_neg g32] at hS2;subst hS2;exact ⟨(),trivial,by4,by3⟩
  rintro _x hI
  try dsimp only [List.cons_append,List.nil_append] at hI ⊢
  refine Q373 ?_
  refine c_frzp (i:=0) 10 V V ?_
  refine Q4 ?_
  refine Zb 34 V V V (op_makeFunc (fs:=[]) (cs:=[.tmp 3,.tmp 10]) V V V ?_)
  refine Q306 ?_
  refine Zy 50 (¬ (ks.length=1∧q1=true∧q2=true)) ?_ _ _ V ?_
  ·skip
   refine Q480 ?_;intro n37
   refine Q34 ?_;intro c38 h38
   refine Q5 ?_
   rcases Za h38 with ⟨rfl,g38⟩|⟨rfl,g38⟩
   ·skip
    refine Q16 ?_
    refine Zq 41 V V V V V (Ze (xs:=[.tmp 40]) V V (HU) by1 ?_);intro c41 h41
    refine Q67 ?_;intro c42 h42
    try replace h42:=Yo h42 h41
    refine Q260 ?_
    rcases Za h42 with ⟨rfl,g42⟩|⟨rfl,g42⟩
    ·skip
     refine Q533 ?_
     refine Zq 48 V V V V V (Ze (xs:=[.tmp 46,.tmp 47]) V V (HA) by1 ?_);intro c48 h48
     refine Q67 ?_;intro c49 h49
     try replace h49:=Yo h49 h48
     refine Q236 ?_
     refine Xx V ?_ by5 by3
     clear HU HA HW HX;first|(simp_all;done)|(simp_all;omega)|grind
    skip
    refine Q331 ?_
    refine Xx V ?_ by5 by3
    clear HU HA HW HX;first|(simp_all;done)|(simp_all;omega)|grind
   skip
   refine Q382 ?_
   refine Q331 ?_
   refine Xx V ?_ by5 by3
   clear HU HA HW HX;first|(simp_all;done)|(simp_all;omega)|grind
  intro c50 h50
  refine Q1 ?_
  rcases Za h50 with ⟨rfl,g50⟩|⟨rfl,g50⟩
  ·refine Q242 ?_
   have hq:=Classical.not_not.1 g50
   rw [if_pos hq] at hR
   subst hR
   obtain ⟨x,rfl⟩:=List.length_eq_one_iff.1 hq.1
   have HXx:=HX x rfl
   have hcx:=Co.cellss_get (ts:=[x]) (i:=0) (t:=x) rfl
   obtain ⟨xk,xs,xn,⟨xtk,xts,xtn,xtl⟩,xus,xks,xal,xbs⟩:=x
   refine Yp [0,1,2,3,4,5,6,7,8,9] [8] [[],[],[1],[1,2],[1,2,3],[0,1,2,3,4],[0,1,2,3,4,5],[0,1,2,3,4,5],[0,1,2,3,4,5,6,7],[0,1,2,3,4,5,6,7,8]] Xl V (Zm 52 (some 0) (i:=0) V V V V V (Yc (cs':=[_,_,_,_,_,_]) (i:=0) V ta_92 V V V V ⟨V,V⟩) ?_)
   refine Q354 ?_
   refine Zm 55 (none) (i:=3) V V V V V (Zg V te_25 V (.seq _ _) V V (hcx) ⟨V,V⟩) ?_
   refine Q84 ?_
   refine Zm 57 (none) (i:=5) V V V V V (Zd (xs:=[.tmp 52,.tmp 56]) V V (HXx) by1 ⟨V,V⟩) ?_
   refine Q420 ?_
   refine Q482 ?_
   show AGo _ _ _ _ _ _ _
   refine Q303 ?_
   exact Yn (i:=1) V V V V Yi V by0 (Xo _) ⟨V,V⟩
  refine Q384 ?_
  refine Q357 ?_
  rw [if_neg g50] at hR
  subst hR
  exact Yn (i:=1) V V V V Yi V by0 (Xo _) ⟨V,V⟩
 refine Q265 ?_
 obtain ⟨⟨qb,qvs,⟨qwk,qws,qwn,qwl⟩,⟨qk,qs,qn,⟨qtk,qts,qtn,qtl⟩,qus,qks,qal,qbs⟩⟩,hxq⟩:=Zr (l:=bs) (i:=i) by7
 have hcq:=Cb.cellss_get hxq
 have hmq:=We hxq
 refine Q4 ?_
 refine Zb 17 V V V (Zg V te_27 V (.seq _ _) V V (hcq) ?_)
 refine Q556 ?_;intro b8
 refine Q93 ?_
 refine Q451 ?_
 refine Q243 ?_
 refine Zb 22 V V V (Zh (xs:=[.tmp 21]) Xd V V V V V V (Xz V) (Zb 23 V V V (Zw (i:=2) Xd V V V V (.seq _ _) by6 ?_)))
 intro u23
 refine Q450 ?_
 exact ⟨(i+1,acc++[qb],u23),⟨by show i+1≤bs.length;omega,by show acc++[qb]=_;rw [Yl hxq,List.map_append,← ha];rfl⟩,by show bs.length - (i+1)<bs.length - i;omega,Xw V (Xy (by rw [strs_app];rfl)) by4,by3⟩
def altQ (v:En) (f:List Cb→List ByteArray→Co→Ty × Bool) (sc:List Cb) (vs:List ByteArray) (t u:Ty) (a:Ca):Bool:=match patC v a.q u with
 | none=>false
 | some l=>unlB a.q.names && ((f (sc++l) vs a.e).2 && (f (sc++l) vs a.e).1.eqC t)
theorem coCases1_c (v:En) (hv:EnT v) (pm:List Pm) (sc:List Cb) (vs:List ByteArray) (f:List Cb→List ByteArray→Co→Ty × Bool) (e:Co) (u:Ty) (hu:u.wd) (a:Ca) (hz:a.q.size≤500000000) (h1:sc.length≤500000000) (H:∀ l,patC v a.q u=some l→TypC v pm (sc++l) vs a.e (f (sc++l) vs a.e)):BCall Tryz.prog 151 [.agg a.cells,.cptr (ckC v (Pm.cellss pm) sc vs),.cptr u.cells,.cptr e.cells] (altQ v f sc vs e.t u a=true):=by
 have HQ:=coPat_c v hv (Pm.cellss pm) sc vs a.q.size a.q u (Nat.le_refl _) (by omega) hu
 have hql:=patC_len v a.q u
 have HN:=(tNames_c a.q (by omega)).pure
 have HU:=unlike_c a.q.names
 obtain ⟨r,hr⟩:∃ r,altQ v f sc vs e.t u a=r:=⟨_,rfl⟩
 rw [hr]
 unfold altQ at hr
 obtain ⟨uk,us,un,ul⟩:=u
 cases ho:patC v a.q ⟨uk,us,un,ul⟩ with
 | none =>
  rw [ho] at hr HQ
  replace hr:false=r:=hr
  subst hr
  clear H hql ho
  unfold patT at HQ
  generalize unlB a.q.names=q1 at *
  obtain ⟨⟨qk,qs,qn,ql,qp⟩,⟨ek,es,en,⟨etk,ets,etn,etl⟩,eus,eks,eal,ebs⟩⟩:=a
  obtain ⟨k,s,n,⟨tk,ts,tn,tl⟩,us',ks,al,bs⟩:=e
  obtain ⟨da,cl,ins⟩:=v
  unfold ckC at *
  simp only [Ca.q,En.cells,List.cons_append,List.nil_append] at *
  refine Zc Tryz.func151 V (by kernel_rfl) V (Xz V) ?_
  refine Q237 ?_
  refine Q145 ?_
  refine Q264 ?_
  refine Q85 ?_
  refine Q13 ?_
  refine Q123 ?_
  refine Q42 ?_
  refine Zb 13 V V V (Zd (xs:=[.tmp 9,.tmp 11,.tmp 12]) V V (HQ) by1 ?_)
  refine Q308 ?_
  refine Q470 ?_
  refine c_boold 5 (False) Xl V ?_ _ _ V ?_
  ·skip
   refine Q385 ?_
   refine Q281 ?_
   refine Q507 ?_
   refine Q519 ?_
   show BoolQ _ _ _ _ _ _
   refine Xx V ?_ by5 by3
   clear HQ HN HU;first|(simp_all;done)|grind
  intro c5 h5
  refine Q303 ?_
  exact Zf V V (Xt _) (Xo _) ⟨⟨_,h5.trans (by simp),V⟩,V⟩
 | some l =>
  rw [ho] at hr HQ
  have hl:=hql l ho
  have HX:=H l ho
  replace hr:(unlB a.q.names && ((f (sc++l) vs a.e).2 && (f (sc++l) vs a.e).1.eqC e.t))=r:=hr
  have HI:=coIs_c v pm (sc++l) vs a.e (f (sc++l) vs a.e) e.t HX
  have HW:=coWith_c v (Pm.cellss pm) sc l vs (by omega) (by omega)
  clear H hql ho HX
  unfold patT at HQ
  obtain ⟨q2,hq2⟩:∃ q2,((f (sc++l) vs a.e).2 && (f (sc++l) vs a.e).1.eqC e.t)=q2:=⟨_,rfl⟩
  rw [hq2] at hr HI
  clear hq2
  generalize hnn:a.q.names=nn at *
  generalize unlB nn=q1 at *
  clear hnn
  obtain ⟨⟨qk,qs,qn,ql,qp⟩,⟨ek,es,en,⟨etk,ets,etn,etl⟩,eus,eks,eal,ebs⟩⟩:=a
  obtain ⟨k,s,n,⟨tk,ts,tn,tl⟩,us',ks,al,bs⟩:=e
  obtain ⟨da,cl,ins⟩:=v
  unfold ckC at *
  simp only [Ca.q,Ca.e,Co.t,En.cells,List.cons_append,List.nil_append,Option.getD_some,Option.isSome_some] at *
  refine Zc Tryz.func151 V (by kernel_rfl) V (Xz V) ?_
  refine Q237 ?_
  refine Q145 ?_
  refine Q264 ?_
  refine Q85 ?_
  refine Q13 ?_
  refine Q123 ?_
  refine Q42 ?_
  refine Zb 13 V V V (Zd (xs:=[.tmp 9,.tmp 11,.tmp 12]) V V (HQ) by1 ?_)
  refine Q308 ?_
  refine Q470 ?_
  refine c_boold 5 (q1=true∧q2=true) Xl V ?_ _ _ V ?_
  ·skip
   refine Q385 ?_
   refine Q48 ?_
   refine Yg 19 V V V V (Yb (cs':=[_,_,_,_,_]) V ta_67 V V V ⟨V,V⟩) ?_
   refine Yg 20 V V V V (Zd (xs:=[.tmp 19]) V V (HN) by1 ⟨V,V⟩) ?_
   refine Ys 21 V V V V (fun _ q=>Ze (xs:=[.tmp 20]) V V (HU) by1 q) ?_;intro c21 h21
   refine Q371 ?_
   rcases Za h21 with ⟨rfl,g21⟩|⟨rfl,g21⟩
   ·skip
    refine Q348 ?_
    refine Q519 ?_
    show BoolQ _ _ _ _ _ _
    refine Xx V ?_ by5 by3
    clear HQ HN HU HW HI;first|(simp_all;done)|grind
   skip
   refine Q161 ?_
   refine Q50 ?_
   refine Yg 26 V V V V (Zd (xs:=[.tmp 24,.tmp 25]) V V (HW) by1 ⟨V,V⟩) ?_
   refine Q48 ?_
   refine Q195 ?_
   refine Q48 ?_
   refine Q196 ?_
   refine Ys 31 V V V V (fun _ q=>Ze (xs:=[.tmp 26,.tmp 28,.tmp 30]) V V (HI) by1 q) ?_;intro c31 h31
   refine Q519 ?_
   show BoolQ _ _ _ _ _ _
   refine Xx V ?_ by5 by3
   clear HQ HN HU HW HI;first|(simp_all;done)|grind
  intro c5 h5
  refine Q303 ?_
  exact Zf V V (Xt _) (Xo _) ⟨⟨_,h5.trans (by rw [← hr];simp),V⟩,V⟩
section
variable {P:Program} {l:List Oper} {ws:List Nat} {anc:List (List Nat)} {QQ:Sl→Mem→Prop} {ord:List Nat} {al:Sl} {M:Mem} {L:List (Nat × Nat)} {o:Oper}
theorem EOps.dg {v:AV} {i j:Nat} {b:Bool} {t:Tmp} (d:Nat) (fp:Option Nat) (hi:l[i]?=some o) (hw:ws.contains i=false) (hg:o.guard=some (j,b)) (hj:(l[j]?).bind (·.dst)=some t) (hc:al.lookup t=some (.val (.bool b))) (hd:o.dst=some d) (hfp:fp.all (fun k=>Nat.blt k M.length)=true) (h:OpT P { o with guard:=none } (al.only (Oper.tmps o)) (fpm M fp) (fun v' M'=>v'=v∧M'=fpm M fp)) (q:EOps P l ws anc QQ ord ((d,v)::al) M ((fp.toList.map fun k=>(i,k))++L)):EOps P l ws anc QQ (i::ord) al M L :=
 ⟨o,hi,by rw [if_neg (by rw [hw];simp)];exact ⟨fp,v,hfp,by unfold DStep;rw [hg];exact ⟨t,hj,.inl ⟨hc,h⟩⟩,by rw [hd];exact q⟩⟩
theorem EOps.cmg {i j:Nat} {b:Bool} {t:Tmp} {p:Prop} (d:Nat) (hi:l[i]?=some o) (hw:ws.contains i=false) (hg:o.guard=some (j,b)) (hj:(l[j]?).bind (·.dst)=some t) (hc:al.lookup t=some (.val (.bool b))) (hd:o.dst=some d) (h:∀ K:AV→Mem→Prop,(∀ c:Bool,(c=true↔p)→K (.val (.bool c)) [])→OpT P { o with guard:=none } (al.only (Oper.tmps o)) [] K) (q:∀ c:Bool,(c=true↔p)→EOps P l ws anc QQ ord ((d,.val (.bool c))::al) M L):EOps P l ws anc QQ (i::ord) al M L:=by
 have:∃ c:Bool,c=true↔p:=by
  by_cases hp:p
  ·exact ⟨true,by simp [hp]⟩
  exact ⟨false,by simp [hp]⟩
 obtain ⟨c,hq⟩:=this
 refine EOps.dg d none hi hw hg hj hc hd V (h _ (fun c' hc'=>⟨?_,V⟩)) (q c hq)
 have:c'=c:=by cases c <;> cases c' <;> simp_all
 rw [this]
theorem EOps.df {i j:Nat} {b:Bool} {t:Tmp} (d:Nat) (hi:l[i]?=some o) (hw:ws.contains i=false) (hg:o.guard=some (j,b)) (hj:(l[j]?).bind (·.dst)=some t) (hc:al.lookup t=some (.val (.bool !b))) (hd:o.dst=some d) (q:EOps P l ws anc QQ ord ((d,.val undef)::al) M L):EOps P l ws anc QQ (i::ord) al M L :=
 ⟨o,hi,by rw [if_neg (by rw [hw];simp)];exact ⟨none,.val undef,rfl,by unfold DStep;rw [hg];exact ⟨t,hj,.inr ⟨.inl hc,rfl⟩⟩,by rw [hd];exact q⟩⟩
end
abbrev CasesC (v:En) (pm:List Pm) (sc:List Cb) (vs:List ByteArray) (e:Co) (r:Ty × Bool):Prop:=PCall Tryz.prog 90 [.agg (ckC v (Pm.cellss pm) sc vs),.agg e.cells] (.tup [.agg r.1.cells,.val (.bool r.2)])
theorem coCases_bad (v:En) (pm:List Pm) (sc:List Cb) (vs:List ByteArray) (k m:Int) (s:ByteArray) (t:Ty) (ts:List Ty) (ks:List Co) (al:List Ca) (bs:List Cb) (hb:¬ (ks.length=1∧rightC v vs t=true)):CasesC v pm sc vs (.mk k s m t ts ks al bs) (tyZ,false):=by
 have HR:=coRight_c v vs t
 generalize (rightC v vs t=true)=R at *
 have hlk:=Co.cellss_len ks
 obtain ⟨tk,tn,tm,tl⟩:=t
 obtain ⟨da,cl,ins⟩:=v
 unfold CasesC ckC at *
 simp only [En.cells,List.cons_append,List.nil_append] at *
 refine Zc Tryz.func90 V (by kernel_rfl) V (Xz V) ?_
 refine Q315 ?_;intro b4
 refine Q306 ?_
 refine Zy 22 (True) ?_ _ _ V ?_
 ·skip
  refine Q480 ?_;intro n10
  refine Q34 ?_;intro c11 h11
  refine Q5 ?_
  rcases Za h11 with ⟨rfl,g11⟩|⟨rfl,g11⟩
  ·skip
   refine Q516 ?_
   refine Zq 20 V V V V V (Ze (xs:=[.tmp 14,.tmp 17,.tmp 19]) V V (HR) by1 ?_);intro c20 h20
   refine Q67 ?_;intro c21 h21
   try replace h21:=Yo h21 h20
   refine Q236 ?_
   refine Xx V ?_ by5 by3
   clear HR;first|(simp_all;done)|(simp_all;omega)|grind
  skip
  refine Q501 ?_
  refine Xx V ?_ by5 by3
  clear HR;first|(simp_all;done)|(simp_all;omega)|grind
 intro c22 h22
 refine Q1 ?_
 rcases Za h22 with ⟨rfl,g22⟩|⟨rfl,g22⟩
 ·exact absurd trivial g22
 refine Q449 ?_
 exact Yn (i:=0) V V V V Yi V by0 (Xo _) ⟨V,V⟩
theorem coCases_c (v:En) (pm:List Pm) (sc:List Cb) (vs:List ByteArray) (k m:Int) (s:ByteArray) (t:Ty) (ts:List Ty) (x:Co) (al:List Ca) (bs:List Cb) (r0:Ty × Bool) (q:Ca→Bool) (hb:rightC v vs t=true) (H:TypC v pm sc vs x r0)
    (HA:r0.2=true→∀ a∈al,BCall Tryz.prog 151 [.agg a.cells,.cptr (ckC v (Pm.cellss pm) sc vs),.cptr r0.1.cells,.cptr (Co.mk k s m t ts [x] al bs).cells] (q a=true)):CasesC v pm sc vs (.mk k s m t ts [x] al bs) (t,r0.2 && al.all q):=by
 have HR:=coRight_c v vs t
 rw [hb] at HR
 have hcx:=Co.cellss_get (ts:=[x]) (i:=0) (t:=x) rfl
 have hlx:(Co.cellss [x]).length=1:=rfl
 obtain ⟨⟨rk,rs,rn,rl⟩,c32⟩:=r0
 have HL:=fun h:c32=true=>all_Ca q 151 [] [.cptr (ckC v (Pm.cellss pm) sc vs),.cptr (Ty.mk rk rs rn rl).cells,.cptr (Co.mk k s m t ts [x] al bs).cells] al (HA h)
 clear HA
 generalize al.all q=w at *
 obtain ⟨tk,tn,tm,tl⟩:=t
 obtain ⟨xk,xs,xn,⟨xtk,xts,xtn,xtl⟩,xus,xks,xal,xbs⟩:=x
 obtain ⟨da,cl,ins⟩:=v
 unfold CasesC TypC ckC at *
 simp only [En.cells,List.cons_append,List.nil_append] at *
 cases c32 with
 | false =>
  refine Zc Tryz.func90 V (by kernel_rfl) V (Xz V) ?_
  refine Q315 ?_;intro b4
  refine Q306 ?_
  refine Zy 22 (False) ?_ _ _ V ?_
  ·skip
   refine Q480 ?_;intro n10
   refine Q34 ?_;intro c11 h11
   refine Q5 ?_
   rcases Za h11 with ⟨rfl,g11⟩|⟨rfl,g11⟩
   ·skip
    refine Q516 ?_
    refine Zq 20 V V V V V (Ze (xs:=[.tmp 14,.tmp 17,.tmp 19]) V V (HR) by1 ?_);intro c20 h20
    refine Q67 ?_;intro c21 h21
    try replace h21:=Yo h21 h20
    refine Q236 ?_
    refine Xx V ?_ by5 by3
    clear HR H HL;first|(simp_all;done)|grind
   skip
   refine Q501 ?_
   refine Xx V ?_ by5 by3
   clear HR H HL;first|(simp_all;done)|grind
  intro c22 h22
  refine Q1 ?_
  rcases Za h22 with ⟨rfl,g22⟩|⟨rfl,g22⟩
  ·refine Q485 ?_
   refine Zm 28 (none) (i:=3) V V V V V (Zg V te_25 V (.seq _ _) V V (hcx) ⟨V,V⟩) ?_
   refine Q84 ?_
   refine Zm 30 (none) (i:=5) V V V V V (Zd (xs:=[.tmp 25,.tmp 29]) V V (H) by1 ⟨V,V⟩) ?_
   refine Q430 ?_
   refine EOps.nw (i:=9) V V V (Yk (cs':=[_,_,_,_]) V tz_24 V V (fun b6=>⟨_,V,?_⟩))
   refine Q482 ?_
   show AGo _ _ _ _ _ _ _
   refine Q373 ?_
   refine Q202 ?_
   refine Q56 ?_
   refine Q103 ?_
   refine Q412 ?_
   refine EOps.df 37 (i:=4) V V V V V V (EOps.df 38 (i:=5) V V V V V V (EOps.df 39 (i:=6) V V V V V V (EOps.df 40 (i:=7) V V V V V V ?_)))
   refine Q136 ?_
   refine Q131 ?_
   refine Q58 ?_
   show AGo _ _ _ _ _ _ _
   refine Q303 ?_
   exact Yn (i:=0) V V V V Yi V by0 (Xo _) ⟨V,V⟩
  exact g22.elim
 | true =>
  have HL:=HL rfl
  refine Zc Tryz.func90 V (by kernel_rfl) V (Xz V) ?_
  refine Q315 ?_;intro b4
  refine Q306 ?_
  refine Zy 22 (False) ?_ _ _ V ?_
  ·skip
   refine Q480 ?_;intro n10
   refine Q34 ?_;intro c11 h11
   refine Q5 ?_
   rcases Za h11 with ⟨rfl,g11⟩|⟨rfl,g11⟩
   ·skip
    refine Q516 ?_
    refine Zq 20 V V V V V (Ze (xs:=[.tmp 14,.tmp 17,.tmp 19]) V V (HR) by1 ?_);intro c20 h20
    refine Q67 ?_;intro c21 h21
    try replace h21:=Yo h21 h20
    refine Q236 ?_
    refine Xx V ?_ by5 by3
    clear HR H HL;first|(simp_all;done)|grind
   skip
   refine Q501 ?_
   refine Xx V ?_ by5 by3
   clear HR H HL;first|(simp_all;done)|grind
  intro c22 h22
  refine Q1 ?_
  rcases Za h22 with ⟨rfl,g22⟩|⟨rfl,g22⟩
  ·refine Q485 ?_
   refine Zm 28 (none) (i:=3) V V V V V (Zg V te_25 V (.seq _ _) V V (hcx) ⟨V,V⟩) ?_
   refine Q84 ?_
   refine Zm 30 (none) (i:=5) V V V V V (Zd (xs:=[.tmp 25,.tmp 29]) V V (H) by1 ⟨V,V⟩) ?_
   refine Q430 ?_
   refine EOps.nw (i:=9) V V V (Yk (cs':=[_,_,_,_]) V tz_24 V V (fun b6=>⟨_,V,?_⟩))
   refine Q482 ?_
   show AGo _ _ _ _ _ _ _
   refine Q373 ?_
   refine c_frzp (i:=1) 6 V V ?_
   refine Q202 ?_
   refine Q56 ?_
   refine Q103 ?_
   refine Q412 ?_
   refine EOps.dg 37 (none) (i:=4) V V V V V V V (Xe V tf_29_6 V V ⟨V,V⟩) ?_
   refine EOps.dg 38 (none) (i:=5) V V V V V V V (op_load_c1 V ta_26 V V ⟨V,V⟩) ?_
   refine EOps.dg 39 (none) (i:=6) V V V V V V V (op_makeFunc (fs:=[]) (cs:=[.tmp 2,.tmp 6,.tmp 3]) V V V ⟨V,V⟩) ?_
   refine EOps.cmg 40 (i:=7) V V V V V V (fun _ q=>Ze (xs:=[.tmp 38,.tmp 39]) V V (HL) by1 q) ?_;intro c40 h40
   refine Q136 ?_
   refine Q131 ?_
   refine Q58 ?_
   show AGo _ _ _ _ _ _ _
   refine Q303 ?_
   have hw:c40=(true && w):=by clear HR H HL;cases c40 <;> cases w <;> simp_all
   subst hw
   exact Yn (i:=0) V V V V Yi V by0 (Xo _) ⟨V,V⟩
  exact g22.elim
mutual
def Co.Sz:Co→Prop
 | .mk _ s _ _ ts ks al bs=>s.size≤1000000000000∧ts.length≤1000000∧Co.Szs ks∧Ca.Szs al∧Cb.Szs bs
def Co.Szs:List Co→Prop
 | []=>True
 | x::xs=>x.Sz∧Co.Szs xs
def Ca.Sz:Ca→Prop
 | .mk _ e=>e.Sz
def Ca.Szs:List Ca→Prop
 | []=>True
 | x::xs=>x.Sz∧Ca.Szs xs
def Cb.Sz:Cb→Prop
 | .mk _ _ _ e=>e.Sz
def Cb.Szs:List Cb→Prop
 | []=>True
 | x::xs=>x.Sz∧Cb.Szs xs
end
theorem Co.szs_iff:∀ l:List Co,Co.Szs l↔∀ x∈l,x.Sz
 | []=>by simp [Co.Szs]
 | x::l=>by simp [Co.Szs,Co.szs_iff l]
theorem Ca.szs_iff:∀ l:List Ca,Ca.Szs l↔∀ x∈l,x.Sz
 | []=>by simp [Ca.Szs]
 | x::l=>by simp [Ca.Szs,Ca.szs_iff l]
theorem Cb.szs_iff:∀ l:List Cb,Cb.Szs l↔∀ x∈l,x.Sz
 | []=>by simp [Cb.Szs]
 | x::l=>by simp [Cb.Szs,Cb.szs_iff l]
mutual
def Co.Okk:Co→Prop
 | .mk _ _ _ t ts ks al bs=>TK 3000 t∧(∀ u∈ts,TK 3000 u)∧Co.Okks ks∧Ca.Okks al∧Cb.Okks bs
def Co.Okks:List Co→Prop
 | []=>True
 | x::xs=>x.Okk∧Co.Okks xs
def Ca.Okk:Ca→Prop
 | .mk _ e=>e.Okk
def Ca.Okks:List Ca→Prop
 | []=>True
 | x::xs=>x.Okk∧Ca.Okks xs
def Cb.Okk:Cb→Prop
 | .mk _ _ t e=>TK 3000 t∧e.Okk
def Cb.Okks:List Cb→Prop
 | []=>True
 | x::xs=>x.Okk∧Cb.Okks xs
end
theorem Co.okks_iff:∀ l:List Co,Co.Okks l↔∀ x∈l,x.Okk
 | []=>by simp [Co.Okks]
 | x::l=>by simp [Co.Okks,Co.okks_iff l]
theorem Ca.okks_iff:∀ l:List Ca,Ca.Okks l↔∀ x∈l,x.Okk
 | []=>by simp [Ca.Okks]
 | x::l=>by simp [Ca.Okks,Ca.okks_iff l]
theorem Cb.okks_iff:∀ l:List Cb,Cb.Okks l↔∀ x∈l,x.Okk
 | []=>by simp [Cb.Okks]
 | x::l=>by simp [Cb.Okks,Cb.okks_iff l]
mutual
theorem Co.Ok.okk:∀ {e:Co},e.Ok→e.Okk
 | .mk _ _ _ _ _ _ _ _,h=>by
  rw [Co.Ok] at h
  rw [Co.Okk]
  obtain ⟨h1,h2,h3,h4,h5⟩:=h
  exact ⟨(TK.small h1).up (by decide),fun u hu=>(TK.small ((List.all_eq_true.1 h2) u hu)).up (by decide),Co.Oks.okk h3,Ca.Oks.okk h4,Cb.Oks.okk h5⟩
theorem Co.Oks.okk:∀ {l:List Co},Co.Oks l→Co.Okks l
 | [],_=>trivial
 | _::_,h=>⟨h.1.okk,Co.Oks.okk h.2⟩
theorem Ca.Oks.okk:∀ {l:List Ca},Ca.Oks l→Ca.Okks l
 | [],_=>trivial
 | .mk _ e::_,h=>⟨Co.Ok.okk (e:=e) h.1,Ca.Oks.okk h.2⟩
theorem Cb.Oks.okk:∀ {l:List Cb},Cb.Oks l→Cb.Okks l
 | [],_=>trivial
 | .mk _ _ _ e::_,h=>⟨⟨(TK.small h.1.1).up (by decide),Co.Ok.okk (e:=e) h.1.2⟩,Cb.Oks.okk h.2⟩
end
theorem Cb.Ns_at:∀ {l:List Cb} {b:Cb},b∈l→l.length+b.vs.length+b.e.N≤Cb.Ns l
 | .mk s vs t e::l,b,h=>by
  rw [Cb.Ns,Cb.N,List.length_cons]
  rcases List.mem_cons.1 h with rfl|h
  ·have:=Cb.Ns_len l
   simp only [Cb.vs,Cb.e];omega
  have:=Cb.Ns_at h;omega
theorem patC_tk {v:En} (hv:EnT v):∀ (z:Nat) (p:Pa) (u:Ty) (l:List Cb) (d:Nat),p.size≤z→patC v p u=some l→TK d u→∀ b∈l,TK (d+10000 * p.size) b.t
 | 0,p,_,_,_,h,_,_=>by cases p;rw [Pa.size] at h;omega
 | z+1,.mk k s n ks pp,u,l,d,hz,h,hu=>by
  rw [Pa.size] at hz ⊢
  rw [patC] at h
  split at h
  ·cases h;simp
  split at h
  ·cases h
   intro b hb
   rw [List.mem_singleton] at hb
   subst hb
   exact hu.up (by omega)
  split at h
  ·split at h
   ·cases h;simp
   simp at h
  split at h
  ·simp at h
  rename_i d' c' hc
  split at h
  ·simp at h
  have hct:∀ t∈c'.ts,TK 9000 t:=fun t ht=>by
   obtain ⟨i,k',_,h2,h3⟩:=conJ_some (i0:=0) hc
   exact TK.size ((hv.ct _ (We h2) _ (We h3)).2 t ht) (by decide)
  have hkid:∀ t∈u.kids,TK d t:=fun t ht=>by
   obtain ⟨uk,us,un,ul⟩:=u
   exact hu.kid ht
  have key:∀ (ps:List Pa) (ts:List Ty) (l:List Cb),Pa.sizes ps≤z→(∀ t∈ts,TK (9000+d) t)→patCs v ps ts=some l→∀ b∈l,TK (9000+d+10000 * Pa.sizes ps) b.t:=by
   intro ps
   induction ps with
   | nil=>intro ts l _ _ h;rw [patCs] at h;cases h;simp;simp
   | cons p ps ih =>
    intro ts l hz ht h
    cases ts with
    | nil=>rw [patCs] at h;cases h;simp;simp
    | cons t ts =>
     rw [Pa.sizes] at hz ⊢
     rw [patCs] at h
     cases h1:patC v p t with
     | none=>rw [h1] at h;simp at h
     | some a =>
      rw [h1] at h
      simp only [] at h
      cases h2:patCs v ps ts with
      | none=>rw [h2] at h;simp at h
      | some m =>
       rw [h2] at h
       cases h
       intro b hb
       rcases List.mem_append.1 hb with hb|hb
       ·exact (patC_tk hv z p t a (9000+d) (by omega) h1 (ht t (by simp)) b hb).up (by omega)
       exact (ih ts m (by omega) (fun x hx=>ht x (by simp [hx])) h2 b hb).up (by omega)
  intro b hb
  refine (key ks _ l (by omega) (fun t ht=>?_) h b hb).up (by omega)
  obtain ⟨x,hx,rfl⟩:=List.mem_map.1 ht
  exact (hct x hx).turn hkid
theorem partsC_tk {v:En} (hv:EnT v) {s:ByteArray} {u:Ty} {l:List Ty} {d:Nat} (h:partsC v s u=some l) (hu:TK d u):∀ t∈l,TK (9001+d) t:=by
 unfold partsC at h
 split at h
 ·simp at h
 rename_i hc
 obtain ⟨c,h1,_⟩:=classI_hit (v:=v) (s:=s) (by omega)
 rw [h1] at h
 cases h
 intro t ht
 rcases List.mem_append.1 ht with ht|ht
 ·obtain ⟨w,_,rfl⟩:=List.mem_map.1 ht
  exact (TK.mk (d:=d) (by simp) (by simpa using hu)).up (by omega)
 obtain ⟨m,hm,rfl⟩:=List.mem_map.1 ht
 exact ((TK.size (hv.mt c (We h1) m hm) (by decide)).turn (ts:=[u]) (by simpa using hu)).up (by omega)
end Go.Proofs.YteepjjgooplljaaGreat
namespace Go.Proofs.YteepjjgooplljaaGreat
def appK (F:Co→Ty × Bool):List Co→Ty × Bool
 | [f,x]=>appQ (F f) (F x)
 | _=>(tyZ,false)
def lamK (r:Bool) (t:Ty) (F:Co→Ty × Bool):List Co→Ty × Bool
 | [x]=>if r=true then (.mk 3 arrow 0 [t,(F x).1],(F x).2) else (tyZ,false)
 | _=>(tyZ,false)
def letK (a b:Bool) (F:Co→Ty × Bool):List Co→Ty × Bool
 | [x]=>if a=true∧b=true then F x else (tyZ,false)
 | _=>(tyZ,false)
def casesK (r:Bool) (t:Ty) (F:Co→Ty × Bool) (G:Ty→Bool):List Co→Ty × Bool
 | [x]=>if r=true then (t,(F x).2 && G (F x).1) else (tyZ,false)
 | _=>(tyZ,false)
def selQ (v:En) (s:ByteArray) (m:Int) (r:Ty × Bool):Ty × Bool:=match r with
 | (.mk 3 c _ [u],true)=>if c=kBr++s then (match partsC v s u with
     | none=>(tyZ,false)
     | some l=>if m<0 then (tyZ,false) else match l[m.toNat]? with
      | none=>(tyZ,false)
      | some r=>(r,true)) else (tyZ,false)
 | _=>(tyZ,false)
def selK (v:En) (s:ByteArray) (m:Int) (F:Co→Ty × Bool):List Co→Ty × Bool
 | [x]=>selQ v s m (F x)
 | _=>(tyZ,false)
theorem coP_succ (v:En) (pm:List Pm) (n:Nat) (sc:List Cb) (vs:List ByteArray) (k m:Int) (s:ByteArray) (t:Ty) (ts:List Ty) (ks:List Co) (al:List Ca) (bs:List Cb):coP v pm (n+1) sc vs (.mk k s m t ts ks al bs) =
    if (ts.all (rightC v vs))=false then (tyZ,false)
    else if k=1 then varC sc s ts
    else if k=2 then (tInt,true)
    else if k=3 then (tStr,true)
    else if k=4 then conQ v (coP v pm n sc vs) s ts ks
    else if k=5 then appK (coP v pm n sc vs) ks
    else if k=6 then lamK (rightC v vs t) t (coP v pm n (sc++[.mk s [] t co0]) vs) ks
    else if k=7 then letK (unlB (bs.map Cb.s)) (bs.all fun b=>(decide (m≠1) || decide (b.e.k=6)) && bindC (coP v pm n) v (if m=1 then sc++bs else sc) vs b) (coP v pm n (sc++bs) vs) ks
    else if k=8 then casesK (rightC v vs t) t (coP v pm n sc vs) (fun u=>al.all fun a=>altQ v (coP v pm n) sc vs t u a) ks
    else if k=9 then primQ pm (coP v pm n sc vs) m ts ks
    else if k=10 then dictQ v vs (coP v pm n sc vs) s t ks
    else if k=11 then selK v s m (coP v pm n sc vs) ks
    else (tyZ,false):=rfl
open Go.RowKit
theorem ite_fst {p:Prop} [Decidable p] {a b:Ty × Bool} {Q:Ty→Prop} (h1:Q a.1) (h2:Q b.1):Q (if p then a else b).1:=by
 by_cases h:p
 ·rw [if_pos h];exact h1
 rw [if_neg h];exact h2
theorem typ_all (v:En) (hv:EnT v) (pm:List Pm) (hpm:∀ p∈pm,p.sc.t.size≤1000):∀ (n:Nat) (e:Co) (K:Nat) (sc:List Cb) (vs:List ByteArray),e.size≤n→e.Okk→e.Sz→SK K sc vs→K+e.N≤9000000→TypC v pm sc vs e (coP v pm n sc vs e)∧TK (10000 * (K+e.N)) (coP v pm n sc vs e).1
 | 0,e,_,_,_,h,_,_,_,_=>by cases e;rw [Co.size] at h;omega
 | n+1,.mk k s m t ts ks al bs,K,sc,vs,hn,hok,hsz,hsk,hK=>by
  have IH:=typ_all v hv pm hpm n
  rw [Co.size] at hn
  rw [Co.Okk] at hok
  rw [Co.Sz] at hsz
  rw [Co.N] at hK ⊢
  obtain ⟨ot,ots,oks,oal,obs⟩:=hok
  obtain ⟨zs,zts,zks,zal,zbs⟩:=hsz
  have hT:TK 3000 t:=ot
  have hTS:∀ u∈ts,TK 3000 u:=ots
  have hZ:∀ d,1≤d→TK d tyZ:=fun d hd=>TK.zero.up hd
  have IK:∀ x∈ks,TypC v pm sc vs x (coP v pm n sc vs x)∧TK (10000 * (K+x.N)) (coP v pm n sc vs x).1:=fun x hx=>IH x K sc vs (by have:=Co.size_mem hx;omega) ((Co.okks_iff _).1 oks x hx) ((Co.szs_iff _).1 zks x hx) hsk (by have:=Co.Ns_mem hx;omega)
  rw [coP_succ]
  by_cases hts:(ts.all (rightC v vs))=false
  ·rw [if_pos hts]
   exact ⟨typ_bad v pm sc vs k m s t ts ks al bs hts,hZ _ (by omega)⟩
  rw [if_neg hts]
  have hts:(ts.all (rightC v vs))=true:=by simpa using hts
  by_cases k1:k=1
  ·subst k1
   rw [if_pos rfl]
   refine ⟨typ_var v pm sc vs m s t ts ks al bs hts (fun u hu=>(hTS u hu).1) (fun b hb=>(hsk.tk b (findL_mem hb)).1),?_⟩
   unfold varC
   cases hf:findL s sc with
   | none=>exact hZ _ (by omega)
   | some b =>
    simp only []
    split
    ·exact ((hsk.tk b (findL_mem hf)).turn hTS).up (by omega)
    exact hZ _ (by omega)
  rw [if_neg k1]
  by_cases k2:k=2
  ·subst k2
   rw [if_pos rfl]
   exact ⟨typ_int v pm sc vs m s t ts ks al bs hts,(TK.size (d:=1) (by simp [Ty.size,Ty.sizes]) (by decide)).up (by omega)⟩
  rw [if_neg k2]
  by_cases k3:k=3
  ·subst k3
   rw [if_pos rfl]
   exact ⟨typ_str v pm sc vs m s t ts ks al bs hts,(TK.size (d:=1) (by simp [Ty.size,Ty.sizes]) (by decide)).up (by omega)⟩
  rw [if_neg k3]
  by_cases k4:k=4
  ·subst k4
   rw [if_pos rfl]
   have H:=coCon_c v pm sc vs (coP v pm n sc vs) 4 m s t ts ks al bs (fun x hx=>(IK x hx).1) (fun u hu=>(hTS u hu).1) (by omega) (fun d hd c hc=>⟨fun u hu=>(TK.size ((hv.ct d hd c hc).2 u hu) (by decide)).1,by have:=(hv.ct d hd c hc).1;omega⟩)
   refine ⟨typ_con v pm sc vs m s t ts ks al bs _ hts H,?_⟩
   unfold conQ
   cases conC s v.da with
   | none=>exact hZ _ (by omega)
   | some dc =>
    obtain ⟨d,c⟩:=dc
    simp only []
    split
    ·exact (TK.mk (d:=3000) zts hTS).up (by omega)
    exact hZ _ (by omega)
  rw [if_neg k4]
  by_cases k5:k=5
  ·subst k5
   rw [if_pos rfl]
   by_cases hl:ks.length=2
   ·obtain ⟨f,x,rfl⟩:∃ f x,ks=[f,x]:=by
     match ks,hl with
     | [f,x],_=>exact ⟨f,x,rfl⟩
    obtain ⟨Hf,Tf⟩:=IK f (by simp)
    obtain ⟨Hx,_⟩:=IK x (by simp)
    have hda:=(args_dp _ (coP v pm n sc vs f).1 (Nat.le_refl _)).1
    have hfn:f.N+x.N≤Co.Ns [f,x]:=by simp [Co.Ns]
    have:=typ_app v pm sc vs m s t ts f x al bs _ _ hts Hf Hx (by have:=Tf.2;omega)
    refine ⟨this,?_⟩
    show TK _ (appQ (coP v pm n sc vs f) (coP v pm n sc vs x)).1
    unfold appQ
    split
    ·split
     ·rename_i a b he
      rw [he] at Tf
      split
      ·exact (Tf.kid (t:=b) (by simp)).up (by omega)
      exact hZ _ (by omega)
     exact hZ _ (by omega)
    exact hZ _ (by omega)
   have hm:appK (coP v pm n sc vs) ks=(tyZ,false):=by
    match ks,hl with
    | [],_=>rfl
    | [_],_=>rfl
    | [_,_],h=>exact absurd rfl h
    | _::_::_::_,_=>rfl
   rw [hm]
   exact ⟨typ_app_bad v pm sc vs m s t ts ks al bs hts hl,hZ _ (by omega)⟩
  rw [if_neg k5]
  by_cases k6:k=6
  ·subst k6
   rw [if_pos rfl]
   by_cases hl:ks.length=1
   ·obtain ⟨x,rfl⟩:=List.length_eq_one_iff.1 hl
    have hxn:x.N=Co.Ns [x]:=by simp [Co.Ns]
    rw [lamK]
    by_cases hr:rightC v vs t=true
    ·rw [if_pos hr]
     have hsk2:SK (K+1) (sc++[.mk s [] t co0]) vs:=⟨by have:=hsk.len;simp;omega,by have:=hsk.vl;omega,fun b hb=>by
      rcases List.mem_append.1 hb with hb|hb
      ·exact (hsk.tk b hb).up (by omega)
      rw [List.mem_singleton] at hb
      subst hb
      exact hT.up (by omega)⟩
     obtain ⟨H,T⟩:=IH x (K+1) (sc++[.mk s [] t co0]) vs (by have:=Co.size_mem (l:=[x]) (x:=x) (by simp);omega) ((Co.okks_iff _).1 oks x (by simp)) ((Co.szs_iff _).1 zks x (by simp)) hsk2 (by omega)
     refine ⟨typ_lam v pm sc vs m s t ts x al bs _ hts hr (by have:=hsk.len;omega) H,?_⟩
     refine (TK.mk (d:=10000 * (K+1+x.N)) (by simp) (fun u hu=>?_)).up (by omega)
     simp only [List.mem_cons,List.not_mem_nil,or_false] at hu
     rcases hu with rfl|rfl
     ·exact hT.up (by omega)
     exact T
    rw [if_neg hr]
    exact ⟨typ_lam_bad v pm sc vs m s t ts [x] al bs hts (fun q=>hr q.2),hZ _ (by omega)⟩
   have hm:lamK (rightC v vs t) t (coP v pm n (sc++[.mk s [] t co0]) vs) ks=(tyZ,false):=by
    match ks,hl with
    | [],_=>rfl
    | [_],h=>exact absurd rfl h
    | _::_::_,_=>rfl
   rw [hm]
   exact ⟨typ_lam_bad v pm sc vs m s t ts ks al bs hts (fun q=>hl q.1),hZ _ (by omega)⟩
  rw [if_neg k6]
  by_cases k7:k=7
  ·subst k7
   rw [if_pos rfl]
   have hbl:=Cb.Ns_len bs
   have hSa:SK (K+bs.length) (sc++bs) vs:=⟨by have:=hsk.len;simp;omega,by have:=hsk.vl;omega,fun b hb=>by
    rcases List.mem_append.1 hb with hb|hb
    ·exact (hsk.tk b hb).up (by omega)
    have hob:=(Cb.okks_iff _).1 obs b hb
    have hpos:1≤bs.length:=List.length_pos_of_mem hb
    cases b with|mk bn bv bt be=>exact hob.1.up (by omega)⟩
   have hS2:∀ b∈bs,SK (K+bs.length+b.vs.length) (if m=1 then sc++bs else sc) (vs++b.vs):=fun b hb=>by
    have h2:SK (K+bs.length) (if m=1 then sc++bs else sc) vs:=by
     split
     ·exact hSa
     exact hsk.up (by omega)
    exact ⟨by have:=h2.len;omega,by have:=hsk.vl;simp;omega,fun c hc=>(h2.tk c hc).up (by omega)⟩
   have HB:∀ b∈bs,BCall Tryz.prog 43 [.agg (ckC v (Pm.cellss pm) (if m=1 then sc++bs else sc) vs),.agg b.cells] (bindC (coP v pm n) v (if m=1 then sc++bs else sc) vs b=true):=fun b hb=>by
    have hbn:=Cb.Ns_at hb
    have hob:=(Cb.okks_iff _).1 obs b hb
    have hzb:=(Cb.szs_iff _).1 zbs b hb
    have hsb:=Cb.size_mem hb
    refine coBind_c v pm _ vs (coP v pm n) b (by have:=hsk.vl;omega) (by omega) ?_
    have hs2:=hS2 b hb
    obtain ⟨bn,bv,bt,be⟩:=b
    rw [Cb.Okk] at hob
    rw [Cb.Sz] at hzb
    rw [Cb.size] at hsb
    have hbn:bs.length+bv.length+be.N≤Cb.Ns bs:=hbn
    have hs2:SK (K+bs.length+bv.length) (if m=1 then sc++bs else sc) (vs++bv):=hs2
    exact (IH be _ _ _ (by omega) hob.2 hzb hs2 (by omega)).1
   have HX:∀ x,ks=[x]→TypC v pm (sc++bs) vs x (coP v pm n (sc++bs) vs x)∧TK (10000 * (K+bs.length+x.N)) (coP v pm n (sc++bs) vs x).1:=fun x hx=>by
    subst hx
    have hxn:x.N=Co.Ns [x]:=by simp [Co.Ns]
    exact IH x _ _ _ (by have:=Co.size_mem (l:=[x]) (x:=x) (by simp);omega) ((Co.okks_iff _).1 oks x (by simp)) ((Co.szs_iff _).1 zks x (by simp)) hSa (by omega)
   by_cases hl:ks.length=1
   ·obtain ⟨x,rfl⟩:=List.length_eq_one_iff.1 hl
    have hxn:x.N=Co.Ns [x]:=by simp [Co.Ns]
    have H:=coLet_c v pm sc vs 7 m s t ts [x] al bs (bindC (coP v pm n) v (if m=1 then sc++bs else sc) vs) (coP v pm n (sc++bs) vs x) (by have:=hsk.len;omega) (by omega) HB (fun y hy=>by
     cases hy
     exact (HX x V).1)
    have he:letK (unlB (bs.map Cb.s)) (bs.all fun b=>(decide (m≠1) || decide (b.e.k=6)) && bindC (coP v pm n) v (if m=1 then sc++bs else sc) vs b) (coP v pm n (sc++bs) vs) [x]=(if ([x]:List Co).length=1∧unlB (bs.map Cb.s)=true∧(bs.all fun b=>(decide (m≠1) || decide (b.e.k=6)) && bindC (coP v pm n) v (if m=1 then sc++bs else sc) vs b)=true then coP v pm n (sc++bs) vs x else (tyZ,false)):=by
     rw [letK]
     by_cases q:unlB (bs.map Cb.s)=true∧(bs.all fun b=>(decide (m≠1) || decide (b.e.k=6)) && bindC (coP v pm n) v (if m=1 then sc++bs else sc) vs b)=true
     ·rw [if_pos q,if_pos ⟨rfl,q⟩]
     rw [if_neg q,if_neg (fun h=>q h.2)]
    rw [he]
    have hTx:=((HX x rfl).2).up (d':=10000 * (K+(2+Co.Ns [x]+Ca.Ns al+Cb.Ns bs))) (by omega)
    have hTz:=hZ (10000 * (K+(2+Co.Ns [x]+Ca.Ns al+Cb.Ns bs))) (by omega)
    refine ⟨typ_let v pm sc vs m s t ts [x] al bs _ hts H,?_⟩
    exact ite_fst (Q:=TK _) hTx hTz
   have hm:∀ a b,letK a b (coP v pm n (sc++bs) vs) ks=(tyZ,false):=by
    intro a b
    match ks,hl with
    | [],_=>rfl
    | [_],h=>exact absurd rfl h
    | _::_::_,_=>rfl
   rw [hm]
   have H:=coLet_c v pm sc vs 7 m s t ts ks al bs (bindC (coP v pm n) v (if m=1 then sc++bs else sc) vs) (tyZ,false) (by have:=hsk.len;omega) (by omega) HB (fun y hy=>absurd (by rw [hy];rfl) hl)
   rw [if_neg (fun q=>hl q.1)] at H
   exact ⟨typ_let v pm sc vs m s t ts ks al bs _ hts H,hZ _ (by omega)⟩
  rw [if_neg k7]
  by_cases k8:k=8
  ·subst k8
   rw [if_pos rfl]
   by_cases hl:ks.length=1
   ·obtain ⟨x,rfl⟩:=List.length_eq_one_iff.1 hl
    have hxn:x.N=Co.Ns [x]:=by simp [Co.Ns]
    rw [casesK]
    by_cases hr:rightC v vs t=true
    ·rw [if_pos hr]
     obtain ⟨H,T⟩:=IK x (by simp)
     refine ⟨typ_cases v pm sc vs m s t ts [x] al bs _ hts (coCases_c v pm sc vs 8 m s t ts x al bs _ (fun a=>altQ v (coP v pm n) sc vs t (coP v pm n sc vs x).1 a) hr H (fun hok a ha=>?_)),hT.up (by omega)⟩
     have han:=Ca.Ns_mem ha
     have hoa:=(Ca.okks_iff _).1 oal a ha
     have hza:=(Ca.szs_iff _).1 zal a ha
     have hsa:=Ca.size_mem ha
     refine coCases1_c v hv pm sc vs (coP v pm n) (.mk 8 s m t ts [x] al bs) (coP v pm n sc vs x).1 T.1 a (by cases a;rw [Ca.N] at han;simp only [Ca.q];omega) (by have:=hsk.len;omega) (fun l hpl=>?_)
     have hpt:=patC_tk hv a.q.size a.q _ l _ (Nat.le_refl _) hpl T
     have hpn:=patC_len v a.q _ l hpl
     obtain ⟨q,ae⟩:=a
     rw [Ca.N] at han
     rw [Ca.Okk] at hoa
     rw [Ca.Sz] at hza
     rw [Ca.size] at hsa
     simp only [Ca.q] at hpt hpn
     refine (IH ae (K+x.N+q.size) (sc++l) vs (by omega) hoa hza ⟨by have:=hsk.len;simp;omega,by have:=hsk.vl;omega,fun b hb=>?_⟩ (by omega)).1
     rcases List.mem_append.1 hb with hb|hb
     ·exact (hsk.tk b hb).up (by omega)
     exact (hpt b hb).up (by omega)
    rw [if_neg hr]
    exact ⟨typ_cases v pm sc vs m s t ts [x] al bs _ hts (coCases_bad v pm sc vs 8 m s t ts [x] al bs (fun q=>hr q.2)),hZ _ (by omega)⟩
   have hm:∀ r G,casesK r t (coP v pm n sc vs) G ks=(tyZ,false):=by
    intro r G
    match ks,hl with
    | [],_=>rfl
    | [_],h=>exact absurd rfl h
    | _::_::_,_=>rfl
   rw [hm]
   exact ⟨typ_cases v pm sc vs m s t ts ks al bs _ hts (coCases_bad v pm sc vs 8 m s t ts ks al bs (fun q=>hl q.1)),hZ _ (by omega)⟩
  rw [if_neg k8]
  by_cases k9:k=9
  ·subst k9
   rw [if_pos rfl]
   refine ⟨typ_prim v pm sc vs m s t ts ks al bs _ hts (coPrim_c v pm sc vs (coP v pm n sc vs) 9 m s t ts ks al bs (fun x hx=>(IK x hx).1) (fun u hu=>(hTS u hu).1) hpm),?_⟩
   unfold primQ
   split
   ·exact hZ _ (by omega)
   split
   ·exact hZ _ (by omega)
   rename_i p hp
   split
   ·have hz:=hpm p (We hp)
    have h1:=(args_dp _ p.sc.t (Nat.le_refl _)).2.2 1000 (TK.size hz (by decide))
    exact (h1.turn hTS).up (by omega)
   exact hZ _ (by omega)
  rw [if_neg k9]
  by_cases k10:k=10
  ·subst k10
   rw [if_pos rfl]
   exact ⟨typ_dict v hv pm sc vs (coP v pm n sc vs) m s t ts ks al bs hts zs hT.1 (fun x hx=>(IK x hx).1),(TK.mk (d:=3000) (by simp) (by simpa using hT)).up (by omega)⟩
  rw [if_neg k10]
  by_cases k11:k=11
  ·subst k11
   rw [if_pos rfl]
   by_cases hl:ks.length=1
   ·obtain ⟨x,rfl⟩:=List.length_eq_one_iff.1 hl
    have hxn:x.N=Co.Ns [x]:=by simp [Co.Ns]
    rw [selK]
    obtain ⟨H,T⟩:=IK x (by simp)
    generalize coP v pm n sc vs x=r at *
    by_cases hb:r.2=true∧r.1.kind=3∧r.1.name=kBr++s∧r.1.kids.length=1
    ·obtain ⟨⟨rk,rs,rn,rl⟩,c⟩:=r
     obtain ⟨b1,b2,b3,b4⟩:=hb
     have b1:c=true:=b1
     have b2:rk=3:=b2
     have b3:rs=kBr++s:=b3
     obtain ⟨u,rfl⟩:=List.length_eq_one_iff.1 (show rl.length=1 from b4)
     subst b1 b2 b3
     have hu:TK (10000 * (K+x.N)) u:=T.kid (by simp)
     have hq:selQ v s m (.mk 3 (kBr++s) rn [u],true)=(match partsC v s u with
      | none=>(tyZ,false)
      | some l=>getQ l m):=by
      unfold selQ getQ
      exact if_pos V
     rw [hq]
     cases hp:partsC v s u with
     | none=>exact ⟨typ_part v pm sc vs m s t ts [x] al bs _ hts (coPart_none v pm sc vs 11 m s t ts x al bs rn u zs H hp),hZ _ (by omega)⟩
     | some l =>
      refine ⟨typ_part v pm sc vs m s t ts [x] al bs _ hts (coPart_some v hv pm sc vs 11 m s t ts x al bs rn u l zs hu.1 H hp),?_⟩
      simp only []
      unfold getQ
      split
      ·exact hZ _ (by omega)
      split
      ·exact hZ _ (by omega)
      rename_i y hy
      exact (partsC_tk hv hp hu y (We hy)).up (by omega)
    have hq:selQ v s m r=(tyZ,false):=by
     unfold selQ
     split
     ·rename_i c n' u
      split
      ·rename_i hc
       exact absurd ⟨V,V,hc,V⟩ hb
      rfl
     rfl
    rw [hq]
    exact ⟨typ_part v pm sc vs m s t ts [x] al bs _ hts (coPart_no v pm sc vs 11 m s t ts x al bs r zs H hb),hZ _ (by omega)⟩
   have hm:selK v s m (coP v pm n sc vs) ks=(tyZ,false):=by
    match ks,hl with
    | [],_=>rfl
    | [_],h=>exact absurd rfl h
    | _::_::_,_=>rfl
   rw [hm]
   exact ⟨typ_part v pm sc vs m s t ts ks al bs _ hts (coPart_bad v pm sc vs 11 m s t ts ks al bs hl),hZ _ (by omega)⟩
  rw [if_neg k11]
  exact ⟨typ_none v pm sc vs k m s t ts ks al bs hts (by omega),hZ _ (by omega)⟩
theorem Cb.cellss_take (l:List Cb) (n:Nat):(Cb.cellss l).take n=Cb.cellss (l.take n):=by rw [Cb.cellss_map,Cb.cellss_map,List.map_take]
theorem all_drop {α:Type} {f:α→Bool} {l:List α} {i:Nat} {x:α} (h:l[i]?=some x):(l.drop i).all f=(f x && (l.drop (i+1)).all f):=by
 rw [drop_get h,List.all_cons]
theorem coCount_c (d:Nat):∀ (e:Co) (m:Int),e.size≤d→e.Lim→1≤m→m≤2000→PCall Tryz.prog 14 [.agg e.cells,.val (.int .i64 m)] (.val (.int .i64 (e.cnt m))):=by
 induction d with
 | zero=>intro e m hd;cases e;rw [Co.size] at hd;omega
 | succ d ih =>
  rintro ⟨k,s,n,⟨tk,ts,tn,tl⟩,us,ks,al,bs⟩ m hd hlim h1 h2
  obtain ⟨Z,hZ⟩:∃ Z,(Co.mk k s n ⟨tk,ts,tn,tl⟩ us ks al bs).cnt m=Z:=⟨_,rfl⟩
  rw [hZ]
  rw [Co.cnt] at hZ
  rw [Co.size] at hd
  rw [Co.Lim] at hlim
  obtain ⟨lu,lk,la,lb⟩:=hlim
  have HS:=fun t:Ty=>Small_c t 60 (by decide) (by decide)
  have HSt:=HS ⟨tk,ts,tn,tl⟩
  have hlu:=Ty.cellss_len us
  have hlk:=Co.cellss_len ks
  have hla:=Ca.cellss_len al
  have hlb:=Cb.cellss_len bs
  refine Zc Tryz.func14 V (by kernel_rfl) V (Xz V) ?_
  refine Q15 ?_
  refine c_lena (t:=0) (j:=8) V V (.seq _ _) (fun hmax=>?_)
  refine c_lena (t:=0) (j:=9) V V (.seq _ _) (fun hmax2=>?_)
  refine c_lena (t:=0) (j:=10) V V (.seq _ _) (fun hmax3=>?_)
  refine Q227 ?_
  refine Q43 ?_
  refine Q477 ?_
  refine Q47 ?_;intro n13
  refine Q18 ?_
  refine Q238 ?_
  refine Q227 ?_
  refine Q431 ?_
  refine Zb 17 V V V (Ze (xs:=[.tmp 16,.const (.int .i64 60)]) V V (HSt) by1 ?_);intro c17 h17
  refine Q26 ?_;intro c18 h18
  try replace h18:=Yo h18 h17
  refine Q226 ?_
  rcases Za h18 with ⟨rfl,g18⟩|⟨rfl,g18⟩
  ·refine Q324 ?_
   rw [if_neg (by simpa using g18)] at hZ
   refine Q4 ?_
   refine Q535 ?_;intro n22
   refine Q317 ?_
   apply Ym (rg [(0,1),(3,2),(6,2),(11,10),(23,9)]) (σ:=Nat) (fun zz=>match zz with|i=>[(23,.val (.int .i64 i))]) (fun zz=>match zz with|i=>[]) (fun zz=>match zz with|i=>i≤us.length∧(us.all fun t=>t.small 60)=(us.drop i).all fun t=>t.small 60) (fun zz=>match zz with|i=>us.length - i) (0)
   ·repeat' (first|exact Wc|apply Wa rfl|apply Wb rfl)
   ·exact ⟨Nat.zero_le _,by rw [List.drop_zero]⟩
   ·exact by4
   ·exact (Xo _)
   rintro i hI
   try dsimp only [List.cons_append,List.nil_append] at hI ⊢
   obtain ⟨hi,hm⟩:=hI
   refine Q318 ?_;intro c24 h24
   refine Q241 ?_
   rcases Za h24 with ⟨rfl,g24⟩|⟨rfl,g24⟩
   ·refine Q347 ?_
    rw [Wf (by omega),List.all_nil] at hm
    rw [if_neg (by rw [hm];simp)] at hZ
    refine Q332 ?_
    apply Yd (rg [(0,1),(3,1),(5,4),(11,44)]) (σ:=Nat × Int) (fun zz=>match zz with|(i,c)=>[(5,.val (.int .i64 c)),(8,.val (.int .i64 i))]) (fun zz=>match zz with|(i,c)=>i≤ks.length∧1≤c∧c≤562949953421312 * m∧Cb.cnts bs m (Ca.cnts al m (Co.cnts (ks.drop i) m c))=Z) (fun zz=>match zz with|(i,c)=>ks.length - i) ((0,1+us.length))
    ·repeat' (first|exact Wc|apply Wa rfl|apply Wb rfl)
    ·exact ⟨Nat.zero_le _,by show (1:Int)≤1+us.length;omega,by show (1:Int)+us.length≤_;omega,hZ⟩
    ·exact Xw V (Le.ieq (by omega)) by4
    rintro ⟨i,c⟩ hI
    try dsimp only [List.cons_append,List.nil_append] at hI ⊢
    obtain ⟨hi,hc1,hc2,hm⟩:=hI
    refine Q292 ?_
    refine Zy 41 (i<ks.length∧c<m) ?_ _ _ V ?_
    ·skip
     refine Q5 ?_
     refine Q480 ?_;intro n35
     refine Q19 ?_;intro c36 h36
     refine Q5 ?_
     rcases Za h36 with ⟨rfl,g36⟩|⟨rfl,g36⟩
     ·skip
      refine Q422 ?_
      refine Xx V ?_ by5 by3
      simp_all;omega
     skip
     refine Q312 ?_
     refine Q61 ?_;intro c40 h40
     refine Q236 ?_
     refine Xx V ?_ by5 by3
     simp_all;done
    intro c41 h41
    refine Q1 ?_
    rcases Za h41 with ⟨rfl,g41⟩|⟨rfl,g41⟩
    ·refine Q347 ?_
     rw [Co.cnts_end (by omega)] at hm
     refine Q332 ?_
     apply Yd (rg [(0,1),(3,1),(5,5),(11,78)]) (σ:=Nat × Int) (fun zz=>match zz with|(i,c)=>[(5,.val (.int .i64 c)),(9,.val (.int .i64 i))]) (fun zz=>match zz with|(i,c)=>i≤al.length∧1≤c∧c≤562949953421312 * m∧Cb.cnts bs m (Ca.cnts (al.drop i) m c)=Z) (fun zz=>match zz with|(i,c)=>al.length - i) ((0,c))
     ·repeat' (first|exact Wc|apply Wa rfl|apply Wb rfl)
     ·exact ⟨Nat.zero_le _,hc1,hc2,hm⟩
     ·exact by4
     rintro ⟨i,c⟩ hI
     try dsimp only [List.cons_append,List.nil_append] at hI ⊢
     obtain ⟨hi,hc1,hc2,hm⟩:=hI
     refine Q292 ?_
     refine Zy 64 (i<al.length∧c<m) ?_ _ _ V ?_
     ·skip
      refine Q5 ?_
      refine Q235 ?_
      refine Q125 ?_;intro n58
      refine Q19 ?_;intro c59 h59
      refine Q5 ?_
      rcases Za h59 with ⟨rfl,g59⟩|⟨rfl,g59⟩
      ·skip
       refine Q422 ?_
       refine Xx V ?_ by5 by3
       simp_all;omega
      skip
      refine Q312 ?_
      refine Q61 ?_;intro c63 h63
      refine Q236 ?_
      refine Xx V ?_ by5 by3
      simp_all;done
     intro c64 h64
     refine Q1 ?_
     rcases Za h64 with ⟨rfl,g64⟩|⟨rfl,g64⟩
     ·refine Q347 ?_
      rw [Ca.cnts_end (by omega)] at hm
      refine Q332 ?_
      apply Yd (rg [(0,1),(3,128)]) (σ:=Nat × Int) (fun zz=>match zz with|(i,c)=>[(5,.val (.int .i64 c)),(10,.val (.int .i64 i))]) (fun zz=>match zz with|(i,c)=>i≤bs.length∧1≤c∧c≤562949953421312 * m∧Cb.cnts (bs.drop i) m c=Z) (fun zz=>match zz with|(i,c)=>bs.length - i) ((0,c))
      ·repeat' (first|exact Wc|apply Wa rfl|apply Wb rfl)
      ·exact ⟨Nat.zero_le _,hc1,hc2,hm⟩
      ·exact by4
      rintro ⟨i,c⟩ hI
      try dsimp only [List.cons_append,List.nil_append] at hI ⊢
      obtain ⟨hi,hc1,hc2,hm⟩:=hI
      refine Q292 ?_
      refine Zy 98 (i<bs.length∧c<m) ?_ _ _ V ?_
      ·skip
       refine Q5 ?_
       refine Q235 ?_
       refine Q91 ?_;intro n92
       refine Q19 ?_;intro c93 h93
       refine Q5 ?_
       rcases Za h93 with ⟨rfl,g93⟩|⟨rfl,g93⟩
       ·skip
        refine Q422 ?_
        refine Xx V ?_ by5 by3
        simp_all;omega
       skip
       refine Q312 ?_
       refine Q61 ?_;intro c97 h97
       refine Q236 ?_
       refine Xx V ?_ by5 by3
       simp_all;done
      intro c98 h98
      refine Q1 ?_
      rcases Za h98 with ⟨rfl,g98⟩|⟨rfl,g98⟩
      ·refine Q364 ?_
       rw [Cb.cnts_end (by omega)] at hm
       subst hm
       exact Zf V V (Xt _) (Xo _) ⟨V,V⟩
      refine Q539 ?_
      obtain ⟨⟨qb,qvs,⟨qwk,qws,qwn,qwl⟩,⟨qk,qs,qn,⟨qtk,qts,qtn,qtl⟩,qus,qks,qal,qbs⟩⟩,hxq⟩:=Zr (l:=bs) (i:=i) by7
      have hcq:=Cb.cellss_get hxq
      have hmq:=We hxq
      rw [Yh hxq,Cb.cnts,if_pos g98.2,Cb.cnt] at hm
      have hlq:=(Cb.lims_iff _).1 lb _ hmq
      rw [Cb.Lim] at hlq
      obtain ⟨hlq,hqk⟩:=hlq
      have hqc:=Ye qvs
      have hsz:=Cb.size_mem hmq
      rw [Cb.size] at hsz
      have IH:=ih (Co.mk qk qs qn ⟨qtk,qts,qtn,qtl⟩ qus qks qal qbs) (m - c) (by omega) hlq (by omega) (by omega)
      obtain ⟨z1,z2,_⟩:=Co.cnt_b (Co.mk qk qs qn ⟨qtk,qts,qtn,qtl⟩ qus qks qal qbs) (m - c) hlq (by omega) (by omega)
      generalize (Co.mk qk qs qn ⟨qtk,qts,qtn,qtl⟩ qus qks qal qbs).cnt (m - c)=z at *
      have HSq:=HS ⟨qwk,qws,qwn,qwl⟩
      have hm:(if Ty.small ⟨qwk,qws,qwn,qwl⟩ 60=false then m else Cb.cnts (bs.drop (i+1)) m (c+(1+z+qvs.length)))=Z:=hm
      refine Q372 ?_
      refine Zb 104 V V V (Zg V te_27 V (.seq _ _) V V (hcq) ?_)
      refine Q431 ?_
      refine Zb 107 V V V (Ze (xs:=[.tmp 106,.const (.int .i64 60)]) V V (HSq) by1 ?_);intro c107 h107
      refine Q26 ?_;intro c108 h108
      try replace h108:=Yo h108 h107
      refine Q226 ?_
      rcases Za h108 with ⟨rfl,g108⟩|⟨rfl,g108⟩
      ·refine Q259 ?_
       rw [if_neg (by simpa using g108)] at hm
       refine Q51 ?_
       refine Q20 ?_
       refine Q370 ?_
       refine Zx 114 V V (Zg V te_27 V (.seq _ _) V V (hcq) ⟨V,V⟩) ?_
       refine Q32 ?_
       refine Q166 ?_
       refine Q385 ?_
       refine Q203 ?_
       refine Zx 120 V V (Zd (xs:=[.tmp 116,.tmp 119]) V V (IH) by1 ⟨V,V⟩) ?_
       refine Q114 ?_
       refine Q370 ?_
       refine Zx 125 V V (Zg V te_27 V (.seq _ _) V V (hcq) ⟨V,V⟩) ?_
       refine Q293 ?_
       refine Zx 128 V V (Yu V tu_44 V (.seq _ _) (fun _=>⟨V,V⟩)) ?_
       refine Q114 ?_
       refine Q114 ?_
       refine Q52 ?_
       show AGo _ _ _ _ _ _ _
       refine Q268 ?_
       exact ⟨(i+1,c+(1+z+qvs.length)),⟨by show i+1≤bs.length;omega,by show 1≤c+(1+z+qvs.length);omega,by show c+(1+z+qvs.length)≤562949953421312 * m;omega,hm⟩,by show bs.length - (i+1)<bs.length - i;omega,Xw V (Le.ieq (by omega)) by4,by3⟩
      refine Q358 ?_
      rw [if_pos (by simpa using g108)] at hm
      subst hm
      exact Zf V V (Xt _) (Xo _) ⟨V,V⟩
     refine Q256 ?_
     obtain ⟨⟨⟨qqk,qqs,qqn,qql,qqp⟩,⟨qk,qs,qn,⟨qtk,qts,qtn,qtl⟩,qus,qks,qal,qbs⟩⟩,hxq⟩:=Zr (l:=al) (i:=i) by7
     have hcq:=Ca.cellss_get hxq
     have hmq:=We hxq
     rw [Yh hxq,Ca.cnts,if_pos g64.2,Ca.cnt] at hm
     have hlq:=(Ca.lims_iff _).1 la _ hmq
     rw [Ca.Lim] at hlq
     obtain ⟨hlq,hqk⟩:=hlq
     have hqk:qql.length≤140737488355328:=hqk
     have hqc:=Pa.cellss_len qql
     have hsz:=Ca.size_mem hmq
     rw [Ca.size] at hsz
     have IH:=ih (Co.mk qk qs qn ⟨qtk,qts,qtn,qtl⟩ qus qks qal qbs) (m - c) (by omega) hlq (by omega) (by omega)
     obtain ⟨z1,z2,_⟩:=Co.cnt_b (Co.mk qk qs qn ⟨qtk,qts,qtn,qtl⟩ qus qks qal qbs) (m - c) hlq (by omega) (by omega)
     generalize (Co.mk qk qs qn ⟨qtk,qts,qtn,qtl⟩ qus qks qal qbs).cnt (m - c)=z at *
     have hm:Cb.cnts bs m (Ca.cnts (al.drop (i+1)) m (c+(1+z+qql.length)))=Z:=hm
     refine Q51 ?_
     refine Q20 ?_
     refine Q370 ?_
     refine Zx 71 V V (Zg V te_26 V (.seq _ _) V V (hcq) ⟨V,V⟩) ?_
     refine Q32 ?_
     refine Q166 ?_
     refine Q385 ?_
     refine Q203 ?_
     refine Zx 77 V V (Zd (xs:=[.tmp 73,.tmp 76]) V V (IH) by1 ⟨V,V⟩) ?_
     refine Q114 ?_
     refine Q370 ?_
     refine Zx 82 V V (Zg V te_26 V (.seq _ _) V V (hcq) ⟨V,V⟩) ?_
     refine Q541 ?_
     refine Zx 86 V V (Yu V tu_65 V (.seq _ _) (fun _=>⟨V,V⟩)) ?_
     refine Q114 ?_
     refine Q114 ?_
     refine Q52 ?_
     show AGo _ _ _ _ _ _ _
     refine Q268 ?_
     exact ⟨(i+1,c+(1+z+qql.length)),⟨by show i+1≤al.length;omega,by show 1≤c+(1+z+qql.length);omega,by show c+(1+z+qql.length)≤562949953421312 * m;omega,hm⟩,by show al.length - (i+1)<al.length - i;omega,Xw V (Le.ieq (by omega)) by4,by3⟩
    refine Q256 ?_
    obtain ⟨⟨qk,qs,qn,⟨qtk,qts,qtn,qtl⟩,qus,qks,qal,qbs⟩,hxq⟩:=Zr (l:=ks) (i:=i) by7
    have hcq:=Co.cellss_get hxq
    have hmq:=We hxq
    rw [Yh hxq,Co.cnts,if_pos g41.2] at hm
    have hlq:=(Co.lims_iff _).1 lk _ hmq
    have hsz:=Co.size_mem hmq
    have IH:=ih (Co.mk qk qs qn ⟨qtk,qts,qtn,qtl⟩ qus qks qal qbs) (m - c) (by omega) hlq (by omega) (by omega)
    obtain ⟨z1,z2,_⟩:=Co.cnt_b (Co.mk qk qs qn ⟨qtk,qts,qtn,qtl⟩ qus qks qal qbs) (m - c) hlq (by omega) (by omega)
    generalize (Co.mk qk qs qn ⟨qtk,qts,qtn,qtl⟩ qus qks qal qbs).cnt (m - c)=z at *
    refine Q461 ?_
    refine Zb 48 V V V (Zg V te_25 V (.seq _ _) V V (hcq) ?_)
    refine Q72 ?_
    refine Q277 ?_
    refine Q65 ?_
    refine Zb 53 V V V (Zd (xs:=[.tmp 49,.tmp 52]) V V (IH) by1 ?_)
    refine Q262 ?_
    refine Q268 ?_
    exact ⟨(i+1,c+z),⟨by show i+1≤ks.length;omega,by show 1≤c+z;omega,by show c+z≤562949953421312 * m;omega,hm⟩,by show ks.length - (i+1)<ks.length - i;omega,by4,by3⟩
   refine Q265 ?_
   obtain ⟨⟨qk,qs,qn,ql⟩,hxq⟩:=Zr (l:=us) (i:=i) by7
   have hcq:=Ty.cellss_get hxq
   have hmq:=We hxq
   rw [all_drop hxq] at hm
   have HSq:=HS ⟨qk,qs,qn,ql⟩
   refine Q4 ?_
   refine Zb 25 V V V (Zg V te_22 V (.seq _ _) V V (hcq) ?_)
   refine Q42 ?_
   refine Q21 ?_;intro b7
   refine Q30 ?_
   refine Q258 ?_
   refine Q49 ?_
   refine Zb 28 V V V (Ze (xs:=[.tmp 27,.const (.int .i64 60)]) V V (HSq) by1 ?_);intro c28 h28
   refine Q26 ?_;intro c29 h29
   try replace h29:=Yo h29 h28
   refine Q226 ?_
   rcases Za h29 with ⟨rfl,g29⟩|⟨rfl,g29⟩
   ·refine Q375 ?_
    exact ⟨i+1,⟨by show i+1≤us.length;omega,by rw [hm,show Ty.small ⟨qk,qs,qn,ql⟩ 60=true by simpa using g29,Bool.true_and]⟩,by show us.length - (i+1)<us.length - i;omega,by4,by3⟩
   refine Q358 ?_
   rw [if_pos (by rw [hm,show Ty.small ⟨qk,qs,qn,ql⟩ 60=false by simpa using g29];rfl)] at hZ
   subst hZ
   exact Zf V V (Xt _) (Xo _) ⟨V,V⟩
  refine Q358 ?_
  rw [if_pos (by simpa using g18)] at hZ
  subst hZ
  exact Zf V V (Xt _) (Xo _) ⟨V,V⟩
def Co.small (e:Co) (most:Int):Prop:=e.cnt (most+1)≤most
theorem coSmall_c (e:Co) (hl:e.Lim) (most:Int) (h1:0≤most) (h2:most≤1900):BCall Tryz.prog 8 [.agg e.cells,.val (.int .i64 most)] (e.small most):=by
 unfold Co.small
 have H:=coCount_c e.size e (most+1) (Nat.le_refl _) hl (by omega) (by omega)
 generalize e.cnt (most+1)=c at *
 obtain ⟨k,s,n,⟨tk,ts,tn,tl⟩,us,ks,al,bs⟩:=e
 refine Zc Tryz.func8 V (by kernel_rfl) V (Xz V) ?_
 refine Q517 ?_
 refine Q264 ?_
 refine Q72 ?_
 refine Q493 ?_
 refine Zb 8 V V V (Zd (xs:=[.tmp 5,.tmp 7]) V V (H) by1 ?_)
 refine Q5 ?_
 refine Q146 ?_;intro c10 h10
 refine Q232 ?_
 exact Zf V V (Xt _) (Xo _) ⟨⟨_,h10,V⟩,V⟩
theorem Co.size_full:∀ e:Co,e.size≤e.full:=by
 have key:∀ (d:Nat) (e:Co),e.size≤d→e.size≤e.full:=by
  intro d
  induction d with
  | zero=>intro e h;cases e;rw [Co.size] at h;omega
  | succ d ih =>
   rintro ⟨k,s,n,t,us,ks,al,bs⟩ h
   rw [Co.size] at h
   have a1:∀ l:List Co,Co.sizes l≤d→Co.sizes l≤Co.fulls l:=by
    intro l
    induction l with
    | nil=>intro _;rw [Co.sizes];omega
    | cons x l il=>intro hh;rw [Co.sizes] at hh ⊢;rw [Co.fulls];have:=ih x (by omega);have:=il (by omega);omega
   have a2:∀ l:List Ca,Ca.sizes l≤d→Ca.sizes l≤Ca.fulls l:=by
    intro l
    induction l with
    | nil=>intro _;rw [Ca.sizes];omega
    | cons x l il=>intro hh;cases x with|mk q e=>rw [Ca.sizes,Ca.size] at hh ⊢;rw [Ca.fulls,Ca.full];have:=ih e (by omega);have:=il (by omega);omega
   have a3:∀ l:List Cb,Cb.sizes l≤d→Cb.sizes l≤Cb.fulls l:=by
    intro l
    induction l with
    | nil=>intro _;rw [Cb.sizes];omega
    | cons x l il=>intro hh;cases x with|mk q v t e=>rw [Cb.sizes,Cb.size] at hh ⊢;rw [Cb.fulls,Cb.full];have:=ih e (by omega);have:=il (by omega);omega
   rw [Co.size,Co.full]
   have:=a1 ks (by omega)
   have:=a2 al (by omega)
   have:=a3 bs (by omega)
   omega
 exact fun e=>key e.size e (Nat.le_refl _)
theorem Co.small_size {e:Co} {most:Int} (hl:e.Lim) (h1:0≤most) (h2:most≤1900) (h:e.small most):(e.size:Int)≤most∧e.Ok:=by
 unfold Co.small at h
 obtain ⟨_,_,h3⟩:=Co.cnt_b e (most+1) hl (by omega) (by omega)
 obtain ⟨h4,h5⟩:=h3 (by omega)
 have:=e.size_full
 exact ⟨by omega,h5⟩
theorem isBr_get {s:ByteArray}:isBr s=true↔s[0]?=some 123:=by
 unfold isBr
 rw [Xb]
 constructor
 ·intro h
  have hz:=congrArg ByteArray.size h
  rw [ByteArray.size_extract] at hz
  have hk:kBr.size=1:=rfl
  have h0:0<s.size:=by omega
  have hx:0<(s.extract 0 1).size:=by rw [ByteArray.size_extract];omega
  rw [getElem?_pos s 0 h0]
  have h1:(s.extract 0 1)[0]=s[0+0]:=ByteArray.getElem_extract ..
  have h2:(s.extract 0 1)[0]?=kBr[0]?:=by rw [h]
  rw [getElem?_pos (s.extract 0 1) 0 hx,h1] at h2
  exact h2
 intro h
 have h0:0<s.size:=by
  rcases Nat.lt_or_ge 0 s.size with q|q
  ·exact q
  rw [getElem?_neg s 0 (by omega)] at h;cases h
 have hv:s[0]=123:=by
  rw [getElem?_pos s 0 h0] at h
  exact Option.some.inj h
 have hk:kBr.size=1:=rfl
 refine ByteArray.ext_getElem (by rw [ByteArray.size_extract];omega) (fun i h1 h2=>?_)
 have:i=0:=by omega
 subst this
 have h3:(s.extract 0 1)[0]=s[0+0]:=ByteArray.getElem_extract ..
 rw [h3]
 exact hv
theorem isBr_at {s:ByteArray}:∃ b:UInt8,(0<s.size→s[0]?=some b)∧(isBr s=true↔0<s.size∧(b.toNat:Int)=123):=by
 by_cases h0:0<s.size
 ·refine ⟨s[0],fun _=>getElem?_pos s 0 h0,?_⟩
  rw [isBr_get,getElem?_pos s 0 h0]
  constructor
  ·intro h
   rw [Option.some.inj h]
   exact ⟨h0,V⟩
  rintro ⟨_,h⟩
  congr 1
  exact UInt8.toNat_inj.1 (by show s[0].toNat=123;omega)
 refine ⟨0,fun h=>absurd h h0,⟨fun h=>?_,fun h=>absurd h.1 h0⟩⟩
 have:=isBr_size h
 omega
theorem rRight_c (v:En) (hbr:∀ s,isBr s=true→arityR v s<0) (vs:List ByteArray) (t:Ty):BCall Tryz.prog 19 [.agg v.cells,.seq 1 (strs vs),.agg t.cells] (rightC v vs t=true):=by
 obtain ⟨k,s,n,ks⟩:=t
 have IH:∀ x∈ks,BCall Tryz.prog 19 [.agg v.cells,.seq 1 (strs vs),.agg x.cells] (rightC v vs x=true):=fun x hx=>rRight_c v hbr vs x
 have HH:=Has_c vs s
 have HN:=Arity_c v s
 have HC:=Class_c v (s.extract 1 s.size)
 have hr:=rightC_iff (v:=v) (vs:=vs) (k:=k) (s:=s) (n:=n) (ks:=ks)
 rw [arC_split] at hr
 have hbs:=hbr s
 unfold clsC tailB at hr
 have hsz := @isBr_size s
 obtain ⟨b0,hb0,hbx⟩ := @isBr_at s
 generalize (rightC v vs (.mk k s n ks)=true)=R at *
 generalize arityR v s=ar at *
 generalize classI v (s.extract 1 s.size)=ci at *
 generalize isBr s=br at *
 obtain ⟨X,hX0⟩:∃ X:Int,(if 0≤ar then ar else if 0≤(if br=true then ci else -1) then 1 else -1)=X:=⟨_,rfl⟩
 rw [hX0] at hr
 have hX:((if br=true∧0≤ci then (1:Int) else ar)=ks.length)↔(X=ks.length):=by
  rw [← hX0]
  cases br with
  | true =>
   have hz:=hbs rfl
   rw [if_neg (show ¬ 0≤ar by omega)]
   by_cases q2:0≤ci
   ·rw [if_pos ⟨rfl,q2⟩,if_pos (by rw [if_pos rfl];exact q2)]
   rw [if_neg (fun q=>q2 q.2),if_neg (by rw [if_pos rfl];exact q2)];omega
  | false =>
   rw [if_neg (fun q=>nomatch q.1)]
   by_cases q3:0≤ar
   ·rw [if_pos q3]
   rw [if_neg q3,if_neg (by rw [if_neg (by decide)];decide)];omega
 clear hX0 hbs
 have hlk:=Ty.cellss_len ks
 obtain ⟨da,cl,ins⟩:=v
 simp only [En.cells] at *
 refine Zc Tryz.func19 V (by kernel_rfl) V (Xz V) ?_
 refine Q353 ?_
 refine Q69 ?_
 refine Q306 ?_
 refine Zy 28 (¬ ((k=1∧s∈vs)∨k=3)) ?_ _ _ V ?_
 ·skip
  refine Q235 ?_
  refine Q17 ?_;intro c11 h11
  refine Q5 ?_
  rcases Za h11 with ⟨rfl,g11⟩|⟨rfl,g11⟩
  ·skip
   refine Q457 ?_
   refine Q291 ?_
   refine Q66 ?_;intro c22 h22
   refine Q16 ?_
   rcases Za h22 with ⟨rfl,g22⟩|⟨rfl,g22⟩
   ·skip
    refine Q279 ?_
    refine Q299 ?_
    refine Xx V ?_ by5 by3
    clear IH HH HN HC hr;first|(simp_all;done)|(simp_all;omega)|grind
   skip
   refine Q291 ?_
   refine Q66 ?_;intro c26 h26
   refine Q299 ?_
   refine Xx V ?_ by5 by3
   clear IH HH HN HC hr;first|(simp_all;done)|(simp_all;omega)|grind
  skip
  refine Q16 ?_
  refine Q291 ?_
  refine Zq 16 V V V V V (Ze (xs:=[.tmp 13,.tmp 15]) V V (HH) by1 ?_);intro c16 h16
  refine Q67 ?_;intro c17 h17
  try replace h17:=Yo h17 h16
  refine Q260 ?_
  rcases Za h17 with ⟨rfl,g17⟩|⟨rfl,g17⟩
  ·skip
   refine Q291 ?_
   refine Q66 ?_;intro c22 h22
   refine Q16 ?_
   rcases Za h22 with ⟨rfl,g22⟩|⟨rfl,g22⟩
   ·skip
    refine Q279 ?_
    refine Q299 ?_
    refine Xx V ?_ by5 by3
    clear IH HH HN HC hr;first|(simp_all;done)|(simp_all;omega)|grind
   skip
   refine Q291 ?_
   refine Q66 ?_;intro c26 h26
   refine Q299 ?_
   refine Xx V ?_ by5 by3
   clear IH HH HN HC hr;first|(simp_all;done)|(simp_all;omega)|grind
  skip
  refine Q251 ?_
  refine Q276 ?_
  refine Q528 ?_
  refine Q236 ?_
  refine Xx V ?_ by5 by3
  clear IH HH HN HC hr;first|(simp_all;done)|(simp_all;omega)|grind
 intro c28 h28
 refine Q1 ?_
 rcases Za h28 with ⟨rfl,g28⟩|⟨rfl,g28⟩
 ·refine Q242 ?_
  refine Q270 ?_
  refine Q17 ?_;intro c31 h31
  refine Q226 ?_
  apply c_joinkm (rg [(0,1),(2,1),(4,1),(6,2),(9,50)]) (σ:=Unit) (fun zz=>match zz with|_x=>[]) (fun zz=>match zz with|_x=>k=3→X=ks.length)
  ·repeat' (first|exact Wc|apply Wa rfl|apply Wb rfl)
  ·skip
   rcases Za h31 with ⟨rfl,g31⟩|⟨rfl,g31⟩
   ·refine Q411 ?_
    first
    | exact ⟨(),fun _=>hX.1 (by have:=Classical.not_not.1 g58;rw [hlk] at this;exact this),by4,by3⟩
    | exact ⟨(),fun q=>absurd q g31,by4,by3⟩
   refine Q240 ?_
   refine Q410 ?_
   refine Zb 35 V V V (Zd (xs:=[.tmp 32,.tmp 34]) V V (HN) by1 ?_)
   refine Q306 ?_
   refine c_boold 53 (br=true∧0≤ci) Xl V ?_ _ _ V ?_
   ·skip
    refine Q293 ?_
    refine Zx 38 V V (op_len_str V Xf V ⟨V,V⟩) ?_
    refine Yr 39 V V (fun _ q=>op_gtr V V V q) ?_;intro c39 h39
    refine Q20 ?_
    rcases Za h39 with ⟨rfl,g39⟩|⟨rfl,g39⟩
    ·skip
     refine Q281 ?_
     refine Q371 ?_
     refine Q281 ?_
     refine Q486 ?_
     show BoolQ _ _ _ _ _ _
     refine Xx V ?_ by5 by3
     clear IH HH HN HC hr;first|(simp_all;done)|(simp_all;omega)|grind
    skip
    refine Q333 ?_
    refine Yg 43 V V V V (Zz V Xf V V V (hb0 (by omega)) ⟨V,V⟩) ?_
    refine Ys 44 V V V V (fun _ q=>op_eql V V V q) ?_;intro c44 h44
    refine Q371 ?_
    rcases Za h44 with ⟨rfl,g44⟩|⟨rfl,g44⟩
    ·skip
     refine Q281 ?_
     refine Q486 ?_
     show BoolQ _ _ _ _ _ _
     refine Xx V ?_ by5 by3
     clear IH HH HN HC hr;first|(simp_all;done)|(simp_all;omega)|grind
    skip
    refine Q154 ?_
    refine Q333 ?_
    refine Yg 50 rfl rfl rfl rfl (op_substrl (i:=1) rfl Xf rfl rfl (by first|rfl|omega) (by first|omega|assumption) ⟨rfl,rfl⟩) ?_
    refine Yg 51 V V V V (Zd (xs:=[.tmp 47,.tmp 50]) V V (HC) by1 ⟨V,V⟩) ?_
    refine Ys 52 V V V V (fun _ q=>op_geq V V V q) ?_;intro c52 h52
    refine Q33 ?_
    show BoolQ _ _ _ _ _ _
    refine Xx V ?_ by5 by3
    clear IH HH HN HC hr;first|(simp_all;done)|(simp_all;omega)|grind
   intro c53 h53
   refine Q1 ?_
   apply c_joinkm (rg [(0,1),(2,1),(4,1),(7,1),(9,45)]) (σ:=Unit) (fun zz=>match zz with|_x=>[(7,.val (.int .i64 (if br=true∧0≤ci then 1 else ar)))]) (fun zz=>match zz with|_x=>True)
   ·repeat' (first|exact Wc|apply Wa rfl|apply Wb rfl)
   ·skip
    rcases Za h53 with ⟨rfl,g53⟩|⟨rfl,g53⟩
    ·refine Q411 ?_
     first
     | exact ⟨(),trivial,Xw rfl (Le.ieq (by rw [if_pos g53])) by4,by3⟩
     | exact ⟨(),trivial,Xw rfl (Le.ieq (by rw [if_neg g53])) by4,by3⟩
    refine Q278 ?_
    refine Q239 ?_
    refine go_lp ?_
    first
    | exact ⟨(),trivial,Xw rfl (Le.ieq (by rw [if_pos g53])) by4,by3⟩
    | exact ⟨(),trivial,Xw rfl (Le.ieq (by rw [if_neg g53])) by4,by3⟩
   rintro _x hI
   try dsimp only [List.cons_append,List.nil_append] at hI ⊢
   refine Q464 ?_
   refine Q535 ?_;intro n57
   refine Q34 ?_;intro c58 h58
   refine Q226 ?_
   rcases Za h58 with ⟨rfl,g58⟩|⟨rfl,g58⟩
   ·refine Q411 ?_
    first
    | exact ⟨(),fun _=>hX.1 (by have:=Classical.not_not.1 g58;rw [hlk] at this;exact this),by4,by3⟩
    | exact ⟨(),fun q=>absurd q g31,by4,by3⟩
   refine Q502 ?_
   refine c_retj ?_
   exact Zf V V (Xt _) (Xo _) ⟨⟨_,iff_f (fun q=>g58 (by rw [hlk];exact hX.2 ((hr.1 q).1.elim (fun h=>by omega) (fun h=>h.2)))),V⟩,V⟩
  rintro _x hI
  try dsimp only [List.cons_append,List.nil_append] at hI ⊢
  have hk3:=hI
  refine Q373 ?_
  refine Q304 ?_
  apply Yd (rg [(0,1),(2,1),(4,1),(6,69)]) (σ:=Nat) (fun zz=>match zz with|i=>[(8,.val (.int .i64 i))]) (fun zz=>match zz with|i=>i≤ks.length∧(ks.all (rightC (.mk da cl ins) vs))=(ks.drop i).all (rightC (.mk da cl ins) vs)) (fun zz=>match zz with|i=>ks.length - i) (0)
  ·repeat' (first|exact Wc|apply Wa rfl|apply Wb rfl)
  ·exact ⟨Nat.zero_le _,by rw [List.drop_zero]⟩
  ·exact by4
  rintro i hI
  try dsimp only [List.cons_append,List.nil_append] at hI ⊢
  obtain ⟨hi,hA⟩:=hI
  refine Q339 ?_
  refine Q47 ?_;intro n62
  refine Q19 ?_;intro c63 h63
  refine Q226 ?_
  rcases Za h63 with ⟨rfl,g63⟩|⟨rfl,g63⟩
  ·refine Q322 ?_
   rw [Wf (by omega),List.all_nil] at hA
   exact Zf V V (Xt _) (Xo _) ⟨⟨_,iff_t (hr.2 ⟨(Classical.not_not.1 g28).elim (fun h=>.inl h) (fun h=>.inr ⟨h,hk3 h⟩),hA⟩),V⟩,V⟩
  refine Q265 ?_
  obtain ⟨⟨qk,qs,qn,ql⟩,hxq⟩:=Zr (l:=ks) (i:=i) by7
  have hcq:=Ty.cellss_get hxq
  have hmq:=We hxq
  rw [all_drop hxq] at hA
  have HQ:=IH _ hmq
  generalize rightC (.mk da cl ins) vs ⟨qk,qs,qn,ql⟩=w at *
  refine Q463 ?_
  refine Q20 ?_
  refine Q370 ?_
  refine Zx 71 V V (Zg V te_22 V (.seq _ _) V V (hcq) ⟨V,V⟩) ?_
  refine Q87 ?_
  refine Yr 73 V V (fun _ q=>Ze (xs:=[.tmp 66,.tmp 67,.tmp 72]) V V (HQ) by1 q) ?_;intro c73 h73
  refine Yr 74 V V (fun _ q=>op_notc V V q) ?_;intro c74 h74
  try replace h74:=Yo h74 h73
  show AGo _ _ _ _ _ _ _
  refine Q1 ?_
  rcases Za h74 with ⟨rfl,g74⟩|⟨rfl,g74⟩
  ·refine Q305 ?_
   have hw:w=true:=by simpa using g74
   rw [hw,Bool.true_and] at hA
   exact ⟨i+1,⟨by show i+1≤ks.length;omega,hA⟩,by show ks.length - (i+1)<ks.length - i;omega,by4,by3⟩
  refine Q285 ?_
  have hw:w=false:=by simpa using g74
  rw [hw,Bool.false_and] at hA
  exact Zf V V (Xt _) (Xo _) ⟨⟨_,iff_f (fun q=>by have:=(hr.1 q).2;rw [hA] at this;simp at this),V⟩,V⟩
 refine Q285 ?_
 exact Zf V V (Xt _) (Xo _) ⟨⟨_,iff_f (fun q=>g28 ((hr.1 q).1.elim (fun h=>.inl h) (fun h=>.inr h.1))),V⟩,V⟩
termination_by SizeOf.sizeOf t
decreasing_by
 have:=List.sizeOf_lt_of_mem hx
 simp;omega
theorem rPutW_c (names:List ByteArray) (hnm:names.length≤1000000) (ts:List Ty) (d:Nat):∀ t:Ty,t.size≤d→t.wd→PCall Tryz.prog 49 [.seq 1 (strs names),.seq 4 (Ty.cellss ts),.agg t.cells] (.agg (t.turn (putO names ts)).cells):=by
 induction d with
 | zero=>intro t hd;have:=Ty.size_pos t;omega
 | succ d ih =>
  rintro ⟨k,s,n,ks⟩ hd hmx
  have hl:=Ty.cellss_len ks
  have hlt:=Ty.cellss_len ts
  have hln:=Ye names
  rw [Ty.size] at hd
  rw [Ty.wd] at hmx
  obtain ⟨hls,hws⟩:=hmx
  refine Zc Tryz.func49 V (by kernel_rfl) V (Xz V) ?_
  refine Q15 ?_
  refine c_lens (t:=0) V (.seq _ _) (fun hmax=>?_)
  refine c_lens (t:=1) V (.seq _ _) (fun hmax1=>?_)
  refine Q227 ?_
  refine Q64 ?_;intro b5
  refine Q21 ?_;intro b6
  refine Q241 ?_
  refine Q363 ?_;intro c12 h12
  refine Q226 ?_
  rcases Za h12 with ⟨rfl,g12⟩|⟨rfl,g12⟩
  ·refine Q242 ?_
   have hN:putO names ts (.mk k s n ks)=none:=by
    first
     | exact putO_not g12
     | exact hu.elim (fun h=>putO_out (by have h2:=h.2;rw [List.take_of_length_le (by omega)] at h2;rw [firstAt_out h2];omega)) (fun h=>h.2)
   refine Q4 ?_
   refine Q337 ?_
   refine ACode.ownNil (t:=8) 24 4 V ?_
   refine c_loop (σ:=Nat × Value) (fun zz=>match zz with|(i,u)=>[(0,.seq 1 (strs names)),(1,.seq 4 (Ty.cellss ts)),(5,.ptr b5 0),(6,.ptr b6 0),(8,.own u 4 (Ty.cellss (Ty.turns (putO names ts) (ks.take i)))),(9,.val (.int .i64 i))]) (fun zz=>match zz with|(i,u)=>[.own 24 4 u,.loc b6 zTyW,.loc b5 (Ty.cells (.mk k s n ks))]) (fun zz=>match zz with|(i,u)=>i≤ks.length) (fun zz=>match zz with|(i,u)=>ks.length - i) ((0,.slice none 0 0)) ?_ ?_ ?_ ?_
   ·simp
   ·exact by4
   ·exact by3
   rintro ⟨i,u⟩ hI
   try dsimp only [List.cons_append,List.nil_append] at hI ⊢
   refine Q261 ?_
   refine Q388 ?_
   refine Q47 ?_;intro n39
   refine Q19 ?_;intro c40 h40
   refine Q226 ?_
   rcases Za h40 with ⟨rfl,g40⟩|⟨rfl,g40⟩
   ·refine Q343 ?_
    rw [List.take_of_length_le (by omega)]
    refine Q4 ?_
    refine Q95 ?_
    refine Q5 ?_
    refine Zb 56 V V V (Zd (xs:=[.tmp 54,.tmp 55]) V V (kids_c (.mk k s n ks) (Ty.turns (putO names ts) ks)) by1 ?_)
    refine Q479 ?_
    rw [Ty.turn_none hN]
    exact Zj (i:=1) V V V Yi V by2 by3 ⟨V,V⟩
   refine Q256 ?_
   obtain ⟨⟨k',s',n',ks'⟩,hx⟩:=Zr (l:=ks) (i:=i) (by omega)
   have hcx:=Ty.cellss_get hx
   have hsz:=Ty.size_at hx
   have H:=ih (.mk k' s' n' ks') (by omega) (Ty.wds_at hws hx)
   have he:Ty.cellss (Ty.turns (putO names ts) (ks.take (i+1)))=Ty.cellss (Ty.turns (putO names ts) (ks.take i))++[(Ty.turn (putO names ts) (.mk k' s' n' ks')).cells]:=by rw [Yl hx,Ty.turns_snoc,Ty.cellss_app];rfl
   generalize Ty.turn (putO names ts) (.mk k' s' n' ks')=r at H he
   obtain ⟨rk,rs,rn,rks⟩:=r
   refine Q327 ?_
   refine Q388 ?_
   refine Q491 ?_
   refine Zb 51 V V V (Zd (xs:=[.tmp 44,.tmp 45,.tmp 50]) V V (H) by1 ?_)
   refine Q204 ?_
   refine Zb 53 V V V (Zw (i:=0) el_22 V V V V (.seq _ _) (by simp [Ty.cellss_len,Ty.turns_len];omega) ?_)
   intro u53
   refine Q349 ?_
   exact ⟨(i+1,u53),by simp;omega,by simp;omega,(by repeat' (first|exact SLe.nil _|refine Xw V ?_ ?_|exact Xt _|exact Le.own _ _ _|exact Le.nil _|(refine Xy ?_;(rw [he];rfl))|(refine Le.own_seq ?_;(rw [he];rfl))|(refine Le.seq_eq ?_;(rw [he];rfl)))),by3⟩
  refine Q240 ?_
  refine Q269 ?_
  refine c_loop (σ:=Nat) (fun zz=>match zz with|i=>[(0,.seq 1 (strs names)),(1,.seq 4 (Ty.cellss ts)),(5,.ptr b5 0),(6,.ptr b6 0),(7,.val (.int .i64 i))]) (fun zz=>match zz with|i=>[.loc b6 zTyW,.loc b5 (Ty.cells (.mk k s n ks))]) (fun zz=>match zz with|i=>i≤names.length+1∧(i≤names.length∧s∉names.take i∨i=names.length+1∧putO names ts (.mk k s n ks)=none)) (fun zz=>match zz with|i=>names.length+1 - i) (0) ?_ ?_ ?_ ?_
  ·exact ⟨by omega,Or.inl ⟨by omega,by simp⟩⟩
  ·exact by4
  ·exact by3
  rintro i hI
  try dsimp only [List.cons_append,List.nil_append] at hI ⊢
  obtain ⟨hi,hu⟩:=hI
  refine Q439 ?_;intro n15
  refine Q19 ?_;intro c16 h16
  refine Q226 ?_
  rcases Za h16 with ⟨rfl,g16⟩|⟨rfl,g16⟩
  ·refine Q343 ?_
   have hN:putO names ts (.mk k s n ks)=none:=by
    first
     | exact putO_not g12
     | exact hu.elim (fun h=>putO_out (by have h2:=h.2;rw [List.take_of_length_le (by omega)] at h2;rw [firstAt_out h2];omega)) (fun h=>h.2)
   refine Q4 ?_
   refine Q337 ?_
   refine ACode.ownNil (t:=8) 24 4 V ?_
   refine c_loop (σ:=Nat × Value) (fun zz=>match zz with|(i,u)=>[(0,.seq 1 (strs names)),(1,.seq 4 (Ty.cellss ts)),(5,.ptr b5 0),(6,.ptr b6 0),(8,.own u 4 (Ty.cellss (Ty.turns (putO names ts) (ks.take i)))),(9,.val (.int .i64 i))]) (fun zz=>match zz with|(i,u)=>[.own 24 4 u,.loc b6 zTyW,.loc b5 (Ty.cells (.mk k s n ks))]) (fun zz=>match zz with|(i,u)=>i≤ks.length) (fun zz=>match zz with|(i,u)=>ks.length - i) ((0,.slice none 0 0)) ?_ ?_ ?_ ?_
   ·simp
   ·exact by4
   ·exact by3
   rintro ⟨i,u⟩ hI
   try dsimp only [List.cons_append,List.nil_append] at hI ⊢
   refine Q261 ?_
   refine Q388 ?_
   refine Q47 ?_;intro n39
   refine Q19 ?_;intro c40 h40
   refine Q226 ?_
   rcases Za h40 with ⟨rfl,g40⟩|⟨rfl,g40⟩
   ·refine Q343 ?_
    rw [List.take_of_length_le (by omega)]
    refine Q4 ?_
    refine Q95 ?_
    refine Q5 ?_
    refine Zb 56 V V V (Zd (xs:=[.tmp 54,.tmp 55]) V V (kids_c (.mk k s n ks) (Ty.turns (putO names ts) ks)) by1 ?_)
    refine Q479 ?_
    rw [Ty.turn_none hN]
    exact Zj (i:=1) V V V Yi V by2 by3 ⟨V,V⟩
   refine Q256 ?_
   obtain ⟨⟨k',s',n',ks'⟩,hx⟩:=Zr (l:=ks) (i:=i) (by omega)
   have hcx:=Ty.cellss_get hx
   have hsz:=Ty.size_at hx
   have H:=ih (.mk k' s' n' ks') (by omega) (Ty.wds_at hws hx)
   have he:Ty.cellss (Ty.turns (putO names ts) (ks.take (i+1)))=Ty.cellss (Ty.turns (putO names ts) (ks.take i))++[(Ty.turn (putO names ts) (.mk k' s' n' ks')).cells]:=by rw [Yl hx,Ty.turns_snoc,Ty.cellss_app];rfl
   generalize Ty.turn (putO names ts) (.mk k' s' n' ks')=r at H he
   obtain ⟨rk,rs,rn,rks⟩:=r
   refine Q327 ?_
   refine Q388 ?_
   refine Q491 ?_
   refine Zb 51 V V V (Zd (xs:=[.tmp 44,.tmp 45,.tmp 50]) V V (H) by1 ?_)
   refine Q204 ?_
   refine Zb 53 V V V (Zw (i:=0) el_22 V V V V (.seq _ _) (by simp [Ty.cellss_len,Ty.turns_len];omega) ?_)
   intro u53
   refine Q349 ?_
   exact ⟨(i+1,u53),by simp;omega,by simp;omega,(by repeat' (first|exact SLe.nil _|refine Xw V ?_ ?_|exact Xt _|exact Le.own _ _ _|exact Le.nil _|(refine Xy ?_;(rw [he];rfl))|(refine Le.own_seq ?_;(rw [he];rfl))|(refine Le.seq_eq ?_;(rw [he];rfl)))),by3⟩
  refine Q265 ?_
  obtain ⟨y,hy⟩:=Zr (l:=names) (i:=i) (by omega)
  have hcy:=strs_get hy
  refine Q51 ?_
  refine Q385 ?_
  refine Zx 21 V V (Zg V te_44 V (.seq _ _) V V (by assumption) ⟨V,V⟩) ?_
  refine Q35 ?_
  refine Q425 ?_
  refine Yr 25 V V (fun _ q=>op_seql V V V q) ?_;intro c25 h25
  show AGo _ _ _ _ _ _ _
  refine Q1 ?_
  rcases Za h25 with ⟨rfl,g25⟩|⟨rfl,g25⟩
  ·refine Q305 ?_
   first|(rw [hln];exact ⟨names.length+1,⟨by omega,Or.inr ⟨rfl,hB⟩⟩,by simp;omega,by4,by3⟩)|exact ⟨i+1,⟨by omega,by rcases hu with ⟨_,hu⟩|hu;exact Or.inl ⟨by omega,not_mem_take hu hy g25⟩;omega⟩,by simp;omega,by4,by3⟩
  refine Q9 ?_
  refine Q316 ?_
  refine Q47 ?_;intro n28
  refine Q19 ?_;intro c29 h29
  refine Q226 ?_
  rcases Za h29 with ⟨rfl,g29⟩|⟨rfl,g29⟩
  ·refine Q259 ?_
   obtain ⟨_,hu⟩:i≤names.length∧s∉names.take i:=by rcases hu with hu|hu;exact hu;omega
   have hB:putO names ts (.mk k s n ks)=none:=putO_big (by rw [firstAt_at hu (by rw [hy,g25])];omega)
   refine Q234 ?_
   refine Q70 ?_;intro n35
   refine Q349 ?_
   first|(rw [hln];exact ⟨names.length+1,⟨by omega,Or.inr ⟨rfl,hB⟩⟩,by simp;omega,by4,by3⟩)|exact ⟨i+1,⟨by omega,by rcases hu with ⟨_,hu⟩|hu;exact Or.inl ⟨by omega,not_mem_take hu hy g25⟩;omega⟩,by simp;omega,by4,by3⟩
  refine Q302 ?_
  obtain ⟨⟨yk,ys,yn,yks⟩,hz⟩:=Zr (l:=ts) (i:=i) (by omega)
  have hcz:=Ty.cellss_get hz
  refine Q314 ?_
  refine Q407 ?_
  refine Q492 ?_
  obtain ⟨_,hu⟩:i≤names.length∧s∉names.take i:=by rcases hu with hu|hu;exact hu;omega
  have hR:Ty.turn (putO names ts) (.mk k s n ks)=.mk yk ys yn yks:=by
   refine Ty.turn_some ?_
   rw [g12,putO_in (firstAt_at hu (by rw [hy,g25])),hz]
  rw [hR]
  exact Zj (i:=0) V V V Yi V by2 by3 ⟨V,V⟩
end Go.Proofs.YteepjjgooplljaaGreat
namespace Go.Proofs.YteepjjgooplljaaGreat
open Go.RowKit
def Cb.plain (b:Cb):Cb:=.mk b.s [] b.t co0
end Go.Proofs.YteepjjgooplljaaGreat
namespace Go.Proofs.YteepjjgooplljaaGreat
open Go.RowKit
end Go.Proofs.YteepjjgooplljaaGreat
namespace Go.Proofs.YteepjjgooplljaaGreat
open Go.RowKit
end Go.Proofs.YteepjjgooplljaaGreat
namespace Go.Proofs.YteepjjgooplljaaGreat
open Go.RowKit
theorem selQ_no {v:En} {s:ByteArray} {m:Int} {r:Ty × Bool} (hb:¬ (r.2=true∧r.1.kind=3∧r.1.name=kBr++s∧r.1.kids.length=1)):selQ v s m r=(tyZ,false):=by
 unfold selQ
 split
 ·split
  ·rename_i c n' u hc
   exact absurd ⟨V,V,hc,V⟩ hb
  rfl
 rfl
end Go.Proofs.YteepjjgooplljaaGreat
namespace Go.Proofs.YteepjjgooplljaaGreat
open Go.RowKit
end Go.Proofs.YteepjjgooplljaaGreat
namespace Go.Proofs.YteepjjgooplljaaGreat
open Go.RowKit
end Go.Proofs.YteepjjgooplljaaGreat
namespace Go.Proofs.YteepjjgooplljaaGreat
theorem findL_app (s:ByteArray) (l:List Cb):∀ sc:List Cb,findL s (sc++l)=match findL s l with
    | some c=>some c
    | none=>findL s sc
 | []=>by
  rw [List.nil_append]
  cases findL s l with
  | none=>rfl
  | some c=>rfl
 | b::sc=>by
  rw [List.cons_append,findL,findL_app s l sc]
  cases h:findL s l with
  | some c=>rfl
  | none=>rw [findL]
def Wid (sc sc':List Cb):Prop:=∀ s c,findL s sc=some c→findL s sc'=some c
theorem Wid.app {sc sc':List Cb} (h:Wid sc sc') (l:List Cb):Wid (sc++l) (sc'++l):=fun s c hc=>by
 rw [findL_app] at hc ⊢
 cases q:findL s l with
 | some d=>rw [q] at hc;exact hc
 | none=>rw [q] at hc;exact h s c hc
theorem okL_mono {f g:Co→Ty × Bool}:∀ {ks:List Co} {l:List Ty},(∀ x∈ks,(f x).2=true→g x=f x)→okL f ks l=true→okL g ks l=true
 | [],[],_,_=>rfl
 | [],_::_,_,h=>by simp [okL] at h
 | _::_,[],_,h=>by simp [okL] at h
 | x::xs,t::ts,hg,h=>by
  rw [okL,Bool.and_eq_true,Bool.and_eq_true] at h ⊢
  obtain ⟨⟨h1,h2⟩,h3⟩:=h
  rw [hg x (by simp) h1]
  exact ⟨⟨h1,h2⟩,okL_mono (fun y hy=>hg y (by simp [hy])) h3⟩
section
variable {v:En} {f g:Co→Ty × Bool} {ks:List Co}
theorem conQ_mono {s:ByteArray} {ts:List Ty} (hg:∀ x∈ks,(f x).2=true→g x=f x) (h:(conQ v f s ts ks).2=true):conQ v g s ts ks=conQ v f s ts ks:=by
 unfold conQ at h ⊢
 cases hc:conC s v.da with
 | none=>rfl
 | some dc =>
  rw [hc] at h
  simp only [] at h ⊢
  by_cases q:dc.1.ps.length=ts.length∧okL f ks (dc.2.ts.map (Ty.turn (putO dc.1.ps ts)))=true
  ·rw [if_pos q,if_pos ⟨q.1,okL_mono hg q.2⟩]
  rw [if_neg q] at h;simp at h
theorem primQ_mono {pm:List Pm} {m:Int} {ts:List Ty} (hg:∀ x∈ks,(f x).2=true→g x=f x) (h:(primQ pm f m ts ks).2=true):primQ pm g m ts ks=primQ pm f m ts ks:=by
 unfold primQ at h ⊢
 by_cases q0:m<1∨pm.length<m
 ·rw [if_pos q0] at h;simp at h
 rw [if_neg q0] at h ⊢
 rw [if_neg q0]
 cases hc:pm[(m - 1).toNat]? with
 | none=>rfl
 | some p =>
  rw [hc] at h
  simp only [] at h ⊢
  by_cases q:p.sc.vs.length=ts.length∧okL f ks (p.sc.t.args.map (Ty.turn (putO p.sc.vs ts)))=true
  ·rw [if_pos q,if_pos ⟨q.1,okL_mono hg q.2⟩]
  rw [if_neg q] at h;simp at h
theorem dictQ_mono {vs:List ByteArray} {s:ByteArray} {t:Ty} (hg:∀ x∈ks,(f x).2=true→g x=f x) (h:(dictQ v vs f s t ks).2=true):dictQ v vs g s t ks=dictQ v vs f s t ks:=by
 unfold dictQ at h ⊢
 cases hc:partsC v s t with
 | none=>rfl
 | some l =>
  rw [hc] at h
  simp only [Bool.and_eq_true] at h
  simp only []
  rw [h.2,okL_mono hg h.2]
theorem appQ_true {f x:Ty × Bool} (h:(appQ f x).2=true):f.2=true∧x.2=true:=by
 unfold appQ at h
 split at h
 ·rename_i hf
  split at h
  ·split at h
   ·rename_i q
    rw [Bool.and_eq_true] at q
    exact ⟨hf,q.2.1⟩
   simp at h
  simp at h
 simp at h
theorem selQ_true {s:ByteArray} {m:Int} {r:Ty × Bool} (h:(selQ v s m r).2=true):r.2=true:=by
 cases q:r.2 with
 | true=>rfl
 | false =>
  rw [selQ_no (fun k=>by rw [q] at k;exact absurd k.1 (by simp))] at h
  simp at h
theorem bindC_mono {f:List Cb→List ByteArray→Co→Ty × Bool} {sc sc':List Cb} {vs:List ByteArray} {b:Cb} (hg:(f sc (vs++b.vs) b.e).2=true→f sc' (vs++b.vs) b.e=f sc (vs++b.vs) b.e) (h:bindC f v sc vs b=true):bindC f v sc' vs b=true:=by
 unfold bindC at h ⊢
 simp only [Bool.and_eq_true] at h ⊢
 rw [hg h.2.2.1]
 exact h
theorem altQ_mono {f:List Cb→List ByteArray→Co→Ty × Bool} {sc sc':List Cb} {vs:List ByteArray} {t u:Ty} {a:Ca} (hg:∀ l,(f (sc++l) vs a.e).2=true→f (sc'++l) vs a.e=f (sc++l) vs a.e) (h:altQ v f sc vs t u a=true):altQ v f sc' vs t u a=true:=by
 unfold altQ at h ⊢
 cases hp:patC v a.q u with
 | none=>rw [hp] at h;simp at h
 | some l =>
  rw [hp] at h
  simp only [Bool.and_eq_true] at h ⊢
  rw [hg l h.2.1]
  exact h
end
theorem coP_wid (v:En) (pm:List Pm):∀ (n:Nat) (e:Co) (sc sc':List Cb) (vs:List ByteArray),Wid sc sc'→(coP v pm n sc vs e).2=true→coP v pm n sc' vs e=coP v pm n sc vs e
 | 0,e,_,_,_,_,h=>by rw [coP] at h;simp at h
 | n+1,.mk k s m t ts ks al bs,sc,sc',vs,hw,h=>by
  have IH:=fun e=>coP_wid v pm n e sc sc' vs hw
  rw [coP_succ] at h
  rw [coP_succ,coP_succ]
  by_cases hts:(ts.all (rightC v vs))=false
  ·rw [if_pos hts] at h;simp at h
  rw [if_neg hts] at h
  rw [if_neg hts,if_neg hts]
  by_cases k1:k=1
  ·rw [if_pos k1] at h
   rw [if_pos k1,if_pos k1]
   unfold varC at h ⊢
   cases hf:findL s sc with
   | none=>rw [hf] at h;simp at h
   | some b=>rw [hw s b hf]
  rw [if_neg k1] at h
  rw [if_neg k1,if_neg k1]
  by_cases k2:k=2
  ·rw [if_pos k2,if_pos k2]
  rw [if_neg k2] at h
  rw [if_neg k2,if_neg k2]
  by_cases k3:k=3
  ·rw [if_pos k3,if_pos k3]
  rw [if_neg k3] at h
  rw [if_neg k3,if_neg k3]
  by_cases k4:k=4
  ·rw [if_pos k4] at h
   rw [if_pos k4,if_pos k4]
   exact conQ_mono (fun x _=>IH x) h
  rw [if_neg k4] at h
  rw [if_neg k4,if_neg k4]
  by_cases k5:k=5
  ·rw [if_pos k5] at h
   rw [if_pos k5,if_pos k5]
   match ks,h with
   | [],_=>rfl
   | [_],_=>rfl
   | [f,x],h =>
    obtain ⟨h1,h2⟩:=appQ_true (f:=coP v pm n sc vs f) (x:=coP v pm n sc vs x) h
    show appQ (coP v pm n sc' vs f) (coP v pm n sc' vs x)=appQ (coP v pm n sc vs f) (coP v pm n sc vs x)
    rw [IH f h1,IH x h2]
   | _::_::_::_,_=>rfl
  rw [if_neg k5] at h
  rw [if_neg k5,if_neg k5]
  by_cases k6:k=6
  ·rw [if_pos k6] at h
   rw [if_pos k6,if_pos k6]
   match ks,h with
   | [],_=>rfl
   | [x],h =>
    rw [lamK] at h
    rw [lamK,lamK]
    by_cases q:rightC v vs t=true
    ·rw [if_pos q] at h
     rw [if_pos q,if_pos q]
     rw [coP_wid v pm n x (sc++[Cb.mk s [] t co0]) (sc'++[Cb.mk s [] t co0]) vs (hw.app _) h]
    rw [if_neg q,if_neg q]
   | _::_::_,_=>rfl
  rw [if_neg k6] at h
  rw [if_neg k6,if_neg k6]
  by_cases k7:k=7
  ·rw [if_pos k7] at h
   rw [if_pos k7,if_pos k7]
   match ks,h with
   | [],_=>rfl
   | [x],h =>
    rw [letK] at h
    rw [letK,letK]
    by_cases q:unlB (bs.map Cb.s)=true∧(bs.all fun b=>(decide (m≠1) || decide (b.e.k=6)) && bindC (coP v pm n) v (if m=1 then sc++bs else sc) vs b)=true
    ·rw [if_pos q] at h
     have q2:(bs.all fun b=>(decide (m≠1) || decide (b.e.k=6)) && bindC (coP v pm n) v (if m=1 then sc'++bs else sc') vs b)=true:=by
      rw [List.all_eq_true]
      intro b hb
      have:=List.all_eq_true.1 q.2 b hb
      rw [Bool.and_eq_true] at this ⊢
      refine ⟨this.1,bindC_mono (fun hb2=>?_) this.2⟩
      refine coP_wid v pm n b.e _ _ _ ?_ hb2
      by_cases hm:m=1
      ·rw [if_pos hm,if_pos hm];exact hw.app bs
      rw [if_neg hm,if_neg hm];exact hw
     rw [if_pos q,if_pos ⟨q.1,q2⟩]
     exact coP_wid v pm n x (sc++bs) (sc'++bs) vs (hw.app _) h
    rw [if_neg q] at h;simp at h
   | _::_::_,_=>rfl
  rw [if_neg k7] at h
  rw [if_neg k7,if_neg k7]
  by_cases k8:k=8
  ·rw [if_pos k8] at h
   rw [if_pos k8,if_pos k8]
   match ks,h with
   | [],_=>rfl
   | [x],h =>
    rw [casesK] at h
    rw [casesK,casesK]
    by_cases q:rightC v vs t=true
    ·rw [if_pos q] at h
     rw [if_pos q,if_pos q]
     simp only [Bool.and_eq_true] at h
     rw [IH x h.1]
     have q2:(al.all fun a=>altQ v (coP v pm n) sc' vs t (coP v pm n sc vs x).1 a)=true:=by
      rw [List.all_eq_true]
      intro a ha
      exact altQ_mono (fun l hl=>coP_wid v pm n a.e _ _ vs (hw.app l) hl) (List.all_eq_true.1 h.2 a ha)
     rw [q2,h.2]
    rw [if_neg q,if_neg q]
   | _::_::_,_=>rfl
  rw [if_neg k8] at h
  rw [if_neg k8,if_neg k8]
  by_cases k9:k=9
  ·rw [if_pos k9] at h
   rw [if_pos k9,if_pos k9]
   exact primQ_mono (fun x _=>IH x) h
  rw [if_neg k9] at h
  rw [if_neg k9,if_neg k9]
  by_cases k10:k=10
  ·rw [if_pos k10] at h
   rw [if_pos k10,if_pos k10]
   exact dictQ_mono (fun x _=>IH x) h
  rw [if_neg k10] at h
  rw [if_neg k10,if_neg k10]
  by_cases k11:k=11
  ·rw [if_pos k11] at h
   rw [if_pos k11,if_pos k11]
   match ks,h with
   | [],_=>rfl
   | [x],h =>
    have h1:=selQ_true (v:=v) (s:=s) (m:=m) (r:=coP v pm n sc vs x) h
    show selQ v s m (coP v pm n sc' vs x)=selQ v s m (coP v pm n sc vs x)
    rw [IH x h1]
   | _::_::_,_=>rfl
  rw [if_neg k11] at h
  rw [if_neg k11,if_neg k11]
/- checks of programs -/
theorem wid_cons (b:Cb) (l:List Cb):Wid l (b::l):=fun s c hc=>by rw [findL,hc]
def NmB (s:ByteArray):Prop:=s.size≤40∧isBr s=false
theorem nmB_kE:NmB kE:=⟨by decide,by decide +kernel⟩
def TQ (t:Tok):Prop:=t.k=2→NmB t.t
theorem isBr_strN {c:Nat} {l:List Nat} (hc:greatC c=true):isBr (strN (c::l))=false:=by
 cases q:isBr (strN (c::l)) with
 | false=>rfl
 | true =>
  rw [isBr_get] at q
  have hb:65≤c∧c≤90:=by simpa [greatC] using hc
  have h1:(strN (c::l))[0]?=some (UInt8.ofNat c):=by
   have hz:0<(strN (c::l)).size:=by rw [strN_size];simp
   rw [getElem?_pos _ 0 hz]
   congr 1
  rw [h1] at q
  have h2:UInt8.ofNat c=123:=Option.some.inj q
  have h3:=congrArg UInt8.toNat h2
  rw [UInt8.toNat_ofNat'] at h3
  have h4:(123:UInt8).toNat=123:=rfl
  omega
theorem oneL_tq (i:Int) (c:Nat) (l:List Nat):TQ (oneL i (c::l)).1:=by
 intro hk
 simp only [oneL] at hk ⊢
 by_cases h1:c=34
 ·rw [if_pos h1] at hk
  split at hk <;> simp [tok0] at hk
 rw [if_neg h1] at hk ⊢
 by_cases h2:digitC c=true
 ·rw [if_pos h2] at hk
  split at hk <;> simp [tok0] at hk
 rw [if_neg h2] at hk ⊢
 generalize hkk:(if smallC c=true∨greatC c=true then run 1 (c::l) else if signC c=true then run 3 (c::l) else 1)=k at hk ⊢
 by_cases h3:¬ (smallC c=true∨greatC c=true∨signC c=true)∧markT (strN ((c::l).take k))=false
 ·rw [if_pos h3] at hk;simp [tok0] at hk
 rw [if_neg h3] at hk ⊢
 by_cases h4:40<k
 ·rw [if_pos h4] at hk;simp at hk
 rw [if_neg h4] at hk ⊢
 replace hk:kindT c (strN ((c::l).take k))=2:=hk
 have hg:greatC c=true:=by
  unfold kindT at hk
  split at hk
  ·simp at hk
  split at hk
  ·simp at hk
  split at hk
  ·simp at hk
  split at hk
  ·assumption
  simp at hk
 have hk1:1≤k:=by
  rw [← hkk,if_pos (.inr hg)]
  unfold run
  rw [if_pos (by simp [kindC,nameC,hg])]
  omega
 obtain ⟨k',rfl⟩:∃ j,k=j+1:=⟨k - 1,by omega⟩
 show NmB (strN ((c::l).take (k'+1)))
 rw [List.take_succ_cons]
 refine ⟨?_,isBr_strN hg⟩
 rw [strN_size,List.length_cons,List.length_take]
 omega
theorem lexF_tq:∀ (f:Nat) (i:Int) (l:List Nat) (acc:List Tok),(∀ t∈acc,TQ t)→∀ t∈(lexF f i l acc).1,TQ t
 | 0,i,[],acc,h=>by
  rw [lexF_nil]
  intro t ht
  rcases List.mem_append.1 ht with q|q
  ·exact h t q
  rw [List.mem_singleton.1 q];intro hk;simp [tok0] at hk
 | 0,i,_::_,acc,h=>by simp [lexF]
 | f+1,i,[],acc,h=>by
  rw [lexF_nil]
  intro t ht
  rcases List.mem_append.1 ht with q|q
  ·exact h t q
  rw [List.mem_singleton.1 q];intro hk;simp [tok0] at hk
 | f+1,i,c::l,acc,h=>by
  by_cases hb:(oneL i (c::l)).2.2≠0
  ·rw [lexF_bad hb];simp
  have hb:=Classical.not_not.1 hb
  rw [lexF_go hb]
  refine lexF_tq f _ _ _ (fun t ht=>?_)
  rcases List.mem_append.1 ht with q|q
  ·exact h t q
  rw [List.mem_singleton.1 q];exact oneL_tq i c l
theorem scanT_tq (s:ByteArray):∀ t∈(scanT s).1,TQ t:=by
 unfold scanT
 split
 ·simp
 split
 ·simp
 exact lexF_tq _ _ _ _ (by simp)
theorem scanT_len2 (s:ByteArray):(scanT s).1.length≤s.size+1:=by
 unfold scanT
 split
 ·simp
 split
 ·simp
 have h:=lexF_len (s.size+1) (ovr false (rst s 0)) ((rst s 0).drop (ovr false (rst s 0))) []
 rw [List.length_drop,rst_len] at h
 simp only [List.length_nil] at h
 omega
theorem arityD_br {s:ByteArray} (hs:isBr s=true):∀ l:List Da,(∀ d∈l,NmB d.s)→arityD s l = -1
 | [],_=>rfl
 | d::l,h=>by
  rw [arityD,if_neg (fun q=>by
   have:=(h d (by simp)).2
   rw [Xb.1 q,hs] at this
   cases this)]
  exact arityD_br hs l (fun x hx=>h x (by simp [hx]))
theorem noBr_of {v:En} (h:∀ d∈v.da,NmB d.s):∀ s,isBr s=true→arityR v s<0:=fun s hs=>by
 have key:∀ k:ByteArray,isBr k=false→¬ sameB s k=true:=fun k hk q=>by
  rw [Xb.1 q,hk] at hs;cases hs
 unfold arityR
 rw [if_neg (fun q=>q.elim (key _ (by decide +kernel)) (key _ (by decide +kernel))),if_neg (key _ (by decide +kernel)),if_neg (key _ (by decide +kernel)),arityD_br hs v.da h]
 decide
open Go.RowKit
structure EnG (v:En):Prop where
 b:EnB v
 cv:∀ x∈v.ins,CtxV x.cx
end Go.Proofs.YteepjjgooplljaaGreat
namespace Go.Proofs.YteepjjgooplljaaGreat
theorem progT_b (s:ByteArray):PgB 70000 (progT s).1:=by
 have hL:=scanT_len s
 unfold progT
 dsimp only
 split
 ·exact pg0_b.up (by omega)
 have k0:POk (scanT s).1 302 (beginP (scanT s)):=by
  unfold beginP
  split
  ·unfold failP POk;simp
  unfold POk;simp
 exact (progL_b hL ((scanT s).1.length+1) 0 _ pg0 k0 pg0_b).up (by omega)
theorem progT_g (s:ByteArray):EnG (envOf (progT s).1)∧(progT s).1.bs.length≤1000000:=by
 have h:=progT_b s
 generalize (progT s).1=x at h
 obtain ⟨da,cl,ins,bs⟩:=x
 obtain ⟨h1,h2,h3,h4,h5,h6,h7⟩:=h
 simp only [Pg.da,Pg.cl,Pg.ins,Pg.bs] at h1 h2 h3 h4 h5 h6 h7
 refine ⟨⟨⟨?_,h5,?_,h6,?_,fun x hx=>(h7 x hx).1⟩,fun x hx=>(h7 x hx).2⟩,?_⟩
 ·show da.length≤100000;omega
 ·show cl.length≤100000;omega
 ·show ins.length≤100000;omega
 show bs.length≤1000000;omega
end Go.Proofs.YteepjjgooplljaaGreat
