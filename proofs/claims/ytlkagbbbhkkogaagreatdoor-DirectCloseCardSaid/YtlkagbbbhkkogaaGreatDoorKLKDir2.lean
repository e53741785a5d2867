/- Parts of a proof: short words; The frame of a law's row: if the call returns true and nothing below the heap's old size has turned, the row's post holds, whatever the arguments' types.; Arguments as trees: what a reading of an argument says, in the words of the logic; and how a law's call ends.; More rules: a rune as a text; a part of a text; contracts of the model's own kind; bools that are known.; Types as plain data: a kind, a name, a number, and kids; their size, their sameness, and the count that the statements bound them by.; Types as plain data, on: what a type takes and answers, its parts in order, its variables and metas.; Types as plain data, on: types with others in places that are told.; Facts of the seat's types, one by one, by evaluation.; steps that stand often; Arguments of the layers' types, opened: types, texts, substitutions.; Arguments as trees, with bounds: no slice and no text is longer than L, and the whole is no greater than the bulk of the reading.; Arguments that are one cell.; cognateref05.Texts, SameType, SameTypes; cognatelaw08.ints; small functions of layers 5 and 8: Has, HasInt, Index, Contains, IsFun, fun, Fun, Con, Clone, kids; Args, Answer, All, Vars, Metas of the document; Args of the program; cognatelaw08.count, Small; All, Vars, Metas of the document; Args of the program; smalls; turn, none, Put, Apply of the program; Put and Apply of the document -/
import Derived.Test.YtlkagbbbhkkogaaGreatDoorKLKDir1
import Derived.ProofKit
import Derived.SizedLaws
import Derived.OpenShut
import Derived.ChangeArms
import Derived.Test.YtlkagbbbhkkogaaGreatDoorProg
import Derived.Test.YtlkagbbbhkkogaaGreatDoorRows
set_option maxRecDepth 100000
set_option maxHeartbeats 4000000
namespace Go.Proofs.YtlkagbbbhkkogaaGreatDoor
open Go.RowKit
theorem V {α:Sort _} {a:α}:a=a:=rfl
abbrev Zn := @Nat.le_of_ble_eq_true
theorem by0 {p:Prop} (h:p:=by first|exact Les.refl _|(repeat' (first|exact Les.refl _|refine Les.cons ?_ ?_|exact Le.refl _|exact Le.own _ _ _|exact Le.nil _|refine Le.agg ?_))):p:=h
theorem by1 {p:Prop} (h:p:=by repeat' (first|exact Le.refl _|exact Le.own _ _ _|exact Le.nil _|refine Le.agg ?_|refine Le.tup ?_|exact Les.refl _|refine Les.cons ?_ ?_)):p:=h
theorem by2 {p:Prop} (h:p:=by first|exact MLe.none _|exact MLe.refl _|(repeat' (first|exact MLe.nil|exact MLe.refl _|refine MLe.cons _ ?_|refine MLe.drop _ ?_))):p:=h
theorem by3 {p:Prop} (h:p:=by repeat' (first|exact SLe.nil _|refine SLe.cons rfl ?_ ?_|exact Le.refl _|exact Le.own _ _ _|exact Le.nil _)):p:=h
theorem by4 {p:Prop} (h:p:=by repeat' (first|exact SLe.wo _ _|exact SLe.refl _|refine SLe.fresh rfl ?_)):p:=h
theorem by5 {p:Prop} (h:p:=by omega):p:=h
end Go.Proofs.YtlkagbbbhkkogaaGreatDoor
namespace Go.Proofs.YtlkagbbbhkkogaaGreatDoor
open Go.ChangeShapes Go.WideShapes Go.ChangeAt Go.RowKit
section
variable {H:Type} {enc:TypeId × Value→H} {P:Program}
theorem trodAll_below (hl:laidOutB P=true) {W W':World} (hb:Below W.heap.size W W') :
    ∀ {ts:List TypeId} {vs:List Value} {ds:List (DataW H)} {ps:List MemPlace},
     (∀ t∈ts,P.readableRec t=true∧t<P.types.size)→DataW.TrodAll enc P W 0 (fun _=>true) true ts vs ds ps →
     (∀ x∈ps,x.block<W.heap.size)→DataW.TrodAll enc P W' 0 (fun b=>decide (b<W.heap.size)) true ts vs ds ps
 | [],_,_,_,_,h,_=>by
  obtain ⟨rfl,rfl,rfl⟩:=trodAll_nil h
  exact trodAll_mk0
 | t::ts,_,_,_,hr,h,hlt=>by
  obtain ⟨v,vs,d,ds,p,q,rfl,rfl,rfl,h0,h1⟩:=trodAll_cons h
  exact trodAll_cons_mk (Below.trod hl (hr t (by simp)).1 (hr t (by simp)).2 h0 hb (fun x hx=>hlt x (by simp [hx])))
   (trodAll_below hl hb (fun t ht=>hr t (by simp [ht])) h1 (fun x hx=>hlt x (by simp [hx])))
theorem law_post {f:Func} {s:ChangeSpec} {W W':World} {args:Array Value} {ds gs:List (DataW H)} {before:List MemPlace} {tb:TypeId}
    (hl:laidOutB P=true) (hr:(f.params.toList.all fun t=>P.readableRec t && decide (t<P.types.size))=true)
    (hres:f.resultTypes=#[tb]) (htb:P.underlying tb=some .bool) (hvars:s.vars=[])
    (hs1:(s.fn H (ds++gs)).results=[.lit (.bool true)]) (hs2:(s.fn H (ds++gs)).args=ds) (hs3:(s.fn H (ds++gs)).vars=[])
    (hW:DataW.Whole enc P f.params.toList s.vars false W args.toList ds gs before) (hb:Below W.heap.size W W') :
    s.post enc P f false true false false W args (.bool true) W':=by
 have hW':=hW
 obtain ⟨p,q,hA,hV,rfl,hfz,hnd⟩:=hW
 have hr':∀ t∈f.params.toList,P.readableRec t=true∧t<P.types.size:=by
  intro t ht
  have:=List.all_eq_true.1 hr t ht
  simpa using this
 refine ⟨ds,gs,p++q,[],p,[],hW',?_,?_,?_,hb.frame _,fun h=>by cases h⟩
 ·rw [hs1,hres]
  exact trodAll_mk1 (shut_bool htb true)
 ·rw [hs2]
  exact trodAll_below hl hb hr' hA (fun x hx=>by simpa using hW'.lt x (by simp [hx]))
 rw [hs3,hvars]
 rfl
end
open Go.RowKit
def cellF (w:World):EH:=fun b i=>w.cell? ⟨b,i,none⟩
mutual
def ShapeC (P:Program):Nat→TypeId→List AV→Prop
 | 0,_,_=>False
 | n+1,t,cs=>match P.underlying t with
  | some .bool=>∃ b,cs=[.val (.bool b)]
  | some (.int k)=>∃ x,(k.min≤x∧x≤k.max)∧cs=[.val (.int k x)]
  | some .string=>∃ s:ByteArray,s.size≤maxLen∧cs=[.val (.string s)]
  | some (.slice e)=>∃ es,cs=[.seq (P.cellsOf e) es]∧es.length≤maxLen∧∀ x∈es,ShapeC P n e x
  | some (.struct fs)=>ShapeF P n fs.toList cs
  | _=>False
def ShapeF (P:Program):Nat→List Field→List AV→Prop
 | _,[],cs=>cs=[]
 | n,f::fs,cs=>∃ a b,cs=a++b∧ShapeC P n f.type a∧ShapeF P n fs b
end
def fsOk (P:Program) (S:List TypeId):Nat→List Field→Nat→Bool
 | k,[],n=>k == n
 | k,f::fs,n=>f.offset == k && S.contains f.type && fsOk P S (k+P.cellsOf f.type) fs n
def closedT (P:Program) (S:List TypeId):Bool:=S.all fun t=>match P.underlying t with
 | some .bool=>true
 | some (.int _)=>true
 | some .string=>true
 | some (.slice e)=>S.contains e && Nat.blt 0 (P.cellsOf e)
 | some (.struct fs)=>fsOk P S 0 fs.toList (P.cellsOf t)
 | _=>false
section
variable {H:Type} {enc:TypeId × Value→H} {P:Program} {w:World} {sp:Nat→Bool} {held:Bool}
theorem cells_get {a:Addr} {m:Nat} {ws:List Value} (h:w.cells? 0 a m=some ws):ws.length=m∧∀ j x,ws[j]?=some x→w.cell? (a.add j)=some x:=by
 unfold World.cells? at h
 rw [if_pos (Nat.zero_le _)] at h
 have hl:ws.length=m:=by simpa using mapM_some_length h
 refine ⟨hl,fun j x hx=>?_⟩
 have hj:j<m:=by
  rw [← hl]
  rcases Nat.lt_or_ge j ws.length with k|k
  ·exact k
  rw [List.getElem?_eq_none k] at hx;simp at hx
 have:=mapM_some_get h j j (by simp [hj])
 rw [this,hx]
theorem rows_of {fuel:Nat} {e:TypeId} {a:Addr} {m:Nat} {F:EH}:∀ n:Nat,(∀ i,i<n→∃ (ws:List Value) (es:List AV),w.cells? 0 (a.add (i * m)) m=some ws∧ShapeC P fuel e es∧Rels F es ws∧Ones ws) →
    ∃ (ess:List (List AV)) (vs:List Value),ess.length=n∧(∀ x∈ess,ShapeC P fuel e x∧x.length=m)∧Rels F ess.flatten vs∧Ones vs∧vs.length=n * m∧∀ j x,vs[j]?=some x→w.cell? (a.add j)=some x
 | 0,_=>⟨[],[],rfl,by simp,.nil,by intro v hv;simp at hv,by simp,by simp⟩
 | n+1,h=>by
  obtain ⟨ess,vs,h1,h2,h3,h4,h5,h6⟩:=rows_of n (fun i hi=>h i by5)
  obtain ⟨ws,es,k1,k2,k3,k4⟩:=h n by5
  obtain ⟨q1,q2⟩:=cells_get k1
  refine ⟨ess++[es],vs++ws,by simp [h1],fun x hx=>?_,by simpa using h3.app k3,fun v hv=>?_,by simp only [List.length_append,h5,q1,Nat.add_mul];omega,fun j x hx=>?_⟩
  ·rcases List.mem_append.1 hx with r|r
   ·exact h2 x r
   simp at r;subst r;exact ⟨k2,by rw [k3.len,q1]⟩
  ·rcases List.mem_append.1 hv with r|r
   ·exact h4 v r
   exact k4 v r
  rcases Nat.lt_or_ge j vs.length with r|r
  ·rw [List.getElem?_append_left r] at hx;exact h6 j x hx
  rw [List.getElem?_append_right r] at hx
  have:=q2 _ x hx
  have e1:(a.add (n * m)).add (j - vs.length)=a.add j:=by
   rw [h5] at r ⊢
   unfold Addr.add
   by_cases z1:n * m=0
   ·rw [if_pos z1]
    simp only [z1,Nat.sub_zero]
   rw [if_neg z1]
   have hj0:j≠0:=by omega
   rw [if_neg hj0]
   by_cases z2:j - n * m=0
   ·rw [if_pos z2]
    simp only [Addr.mk.injEq,true_and,and_true]
    omega
   rw [if_neg z2]
   simp only [Addr.mk.injEq,true_and,and_true]
   omega
  rwa [e1] at this
theorem open_shape {S:List TypeId} (hS:closedT P S=true):∀ (fuel:Nat) (t:TypeId) (vs:List Value) (x:DataW H × List MemPlace),t∈S→DataW.trod enc P w 0 sp held fuel t vs=some x →
    ∃ cs,ShapeC P fuel t cs∧Rels (cellF w) cs vs∧Ones vs:=by
 intro fuel
 induction fuel with
 | zero=>intro t vs x _ h;simp [DataW.trod] at h
 | succ n ih =>
  intro t vs x ht h
  have hc:=List.all_eq_true.1 hS t ht
  have hh:=h
  unfold DataW.trod at h
  unfold ShapeC
  cases hu:P.underlying t with
  | none=>rw [hu] at hc;simp at hc
  | some d =>
   rw [hu] at hc h
   cases d with
   | bool =>
    simp only at h
    split at h <;> first|(simp at h;done)|skip
    all_goals first|(rename_i b _;exact ⟨[.val (.bool b)],⟨b,rfl⟩,.cons (.val _) .nil,by intro v hv;simp at hv;subst hv;rfl⟩)|(simp_all;done)
   | int k =>
    simp only at h
    split at h <;> simp_all
    rename_i k' z _
    obtain ⟨⟨rfl,hwf⟩,_⟩:=h
    simp only [Lit.wf,Bool.and_eq_true,decide_eq_true_eq] at hwf
    exact ⟨_,⟨z,hwf,rfl⟩,.cons (.val _) .nil,by intro v hv;simp at hv;subst hv;rfl⟩
   | string =>
    simp only at h
    split at h <;> simp_all
    exact ⟨_,⟨_,h.1,rfl⟩,.cons (.val _) .nil,by intro v hv;simp at hv;subst hv;rfl⟩
   | slice e =>
    simp only [Bool.and_eq_true,List.contains_iff_mem,Nat.blt_eq] at hc
    obtain ⟨rfl,_⟩|⟨a,len,cap,elems,rest,n',hn,rfl,_,_,hlc,hcm,hel,hat,_⟩:=DataW.trod_slice hu hh
    ·exact ⟨[.seq (P.cellsOf e) []],⟨[],rfl,by simp,by simp⟩,.cons (.seq0 _ none 0 (fun _=>rfl)) .nil,by intro v hv;simp at hv;subst hv;rfl⟩
    obtain rfl:n=n':=by omega
    have hrows:∀ i,i<len→∃ ws es,w.cells? 0 (a.add (i * P.cellsOf e)) (P.cellsOf e)=some ws∧ShapeC P n e es∧Rels (cellF w) es ws∧Ones ws:=by
     intro i hi
     have h1:=hat i hi
     rw [List.getElem?_eq_getElem by5] at h1
     obtain ⟨ws,h2,h3⟩:=Option.bind_eq_some_iff.1 h1
     obtain ⟨es,h4,h5,h6⟩:=ih e ws _ hc.1 h3
     exact ⟨ws,es,h2,h4,h5,h6⟩
    obtain ⟨ess,vs',r1,r2,r3,r4,r5,r6⟩:=rows_of len hrows
    refine ⟨[.seq (P.cellsOf e) ess],⟨ess,rfl,by omega,fun x hx=>(r2 x hx).1⟩,.cons ?_ .nil,by intro v hv;simp at hv;subst hv;rfl⟩
    by_cases h0:len=0
    ·subst h0
     have:ess=[]:=List.eq_nil_of_length_eq_zero r1
     subst this
     exact .seq0 _ _ _ (by simp)
    have hpos:0<vs'.length:=by rw [r5];exact Nat.mul_pos by5 hc.2
    have hsp:a.spot=none:=by
     have:=r6 0 vs'[0] (List.getElem?_eq_getElem hpos)
     have e0:a.add 0=a:=by simp [Addr.add]
     rw [e0] at this
     unfold World.cell? at this
     cases hs:a.spot with
     | none=>rfl
     | some q=>rw [hs] at this;simp at this;split at this <;> simp at this
    obtain ⟨b,off,spot⟩:=a
    simp only at hsp
    subst hsp
    subst r1
    refine .seq b off cap (fun x hx=>(r2 x hx).2) by5 (fun j x hx=>?_) r3 r4 by5
    have:=r6 j x hx
    rwa [addr_add0] at this
   | struct fs =>
    simp only at hc
    obtain ⟨xs,n',hn,_,hlen,hxl,hat⟩:=DataW.trod_struct hu hh
    obtain rfl:n=n':=by omega
    have hmem:∀ f∈fs.toList,∃ y,DataW.trod enc P w 0 sp held n f.type ((vs.drop f.offset).take (P.cellsOf f.type))=some y:=by
     intro f hf
     obtain ⟨i,hi,hie⟩:=List.mem_iff_getElem.1 hf
     have h1:=hat i f (by rw [← hie];simp at hi ⊢)
     rw [h1]
     simp at hi
     exact ⟨xs[i]'by5,List.getElem?_eq_getElem by5⟩
    have key:∀ (l:List Field) (k:Nat),(∀ f∈l,∃ y,DataW.trod enc P w 0 sp held n f.type ((vs.drop f.offset).take (P.cellsOf f.type))=some y)→fsOk P S k l (P.cellsOf t)=true →
        ∃ cs,ShapeF P n l cs∧Rels (cellF w) cs (vs.drop k)∧Ones (vs.drop k):=by
     intro l
     induction l with
     | nil =>
      intro k _ hk
      simp only [fsOk,beq_iff_eq] at hk
      refine ⟨[],by simp [ShapeF],?_,?_⟩
      ·rw [List.drop_eq_nil_of_le by5];exact .nil
      rw [List.drop_eq_nil_of_le by5];intro v hv;simp at hv
     | cons f l ihl =>
      intro k hf hk
      simp only [fsOk,Bool.and_eq_true,beq_iff_eq,List.contains_iff_mem] at hk
      obtain ⟨⟨rfl,hS1⟩,hk⟩:=hk
      obtain ⟨y,hy⟩:=hf f (by simp)
      obtain ⟨c1,h1,h2,h3⟩:=ih f.type _ y hS1 hy
      obtain ⟨c2,h4,h5,h6⟩:=ihl (f.offset+P.cellsOf f.type) (fun g hg=>hf g (by simp [hg])) hk
      have e1:vs.drop f.offset=(vs.drop f.offset).take (P.cellsOf f.type)++vs.drop (f.offset+P.cellsOf f.type):=by
       rw [← List.drop_drop,List.take_append_drop]
      refine ⟨c1++c2,by rw [ShapeF];exact ⟨c1,c2,V,h1,h4⟩,by rw [e1];exact h2.app h5,?_⟩
      rw [e1]
      intro v hv
      rcases List.mem_append.1 hv with q|q
      ·exact h3 v q
      exact h6 v q
    obtain ⟨cs,k1,k2,k3⟩:=key fs.toList 0 hmem hc
    rw [List.drop_zero] at k2 k3
    exact ⟨cs,k1,k2,k3⟩
   | _=>simp at hc
theorem Inv.start (w:World):Inv w.heap.size (cellF w) [] w:=⟨Nat.le_refl _,fun _ _ _ h=>h,by simp,List.Pairwise.nil⟩
theorem open_one {S:List TypeId} (hS:closedT P S=true) {t:TypeId} {v:Value} {d:DataW H} {ps:List MemPlace} (ht:t∈S) (h:DataW.Trod enc P w 0 sp held t v d ps):∃ fuel cs,ShapeC P fuel t cs∧Rels (cellF w) cs v.cells.toList∧Ones v.cells.toList:=by
 obtain ⟨fuel,h⟩:=h
 obtain ⟨cs,h1,h2,h3⟩:=open_shape hS fuel t _ _ ht h
 exact ⟨fuel,cs,h1,h2,h3⟩
theorem rel_agg {F:EH} {v:Value} {cs:List AV} (hv:∃ a,v=.agg a) (h:Rels F cs v.cells.toList) (h1:Ones v.cells.toList):Rel F (.agg cs) v:=by
 obtain ⟨a,rfl⟩:=hv
 have:=Rel.agg h h1
 simpa [Value.cells] using this
theorem rel_cell {F:EH} {v:Value} {c:AV} (hv:∀ a,v≠.agg a) (h:Rels F [c] v.cells.toList):Rel F c v:=by
 have e:v.cells.toList=[v]:=by cases v <;> first|rfl|exact absurd rfl (hv _)
 rw [e] at h
 cases h with
 | cons h _=>exact h
end
section
variable {P:Program} {n:Nat} {al:Sl} {M:Mem} {o:Oper} {K:AV→Mem→Prop}
theorem BCall.no {f:FuncId} {vs:List AV} {p:Prop} (h:BCall P f vs p) (hp:¬ p):PCall P f vs (.val (.bool false)) :=
 h.mono (by rintro v M' ⟨⟨c,hc,rfl⟩,rfl⟩;exact ⟨by cases c <;> simp_all,rfl⟩)
theorem Inv.kept {B:Nat} {F:EH} {M:Mem} {w w':World} (hi:Inv B F M w) (hb:Below w.heap.size w w'):Inv B F M w':=by
 refine ⟨Nat.le_trans hi.base hb.size,fun b i x h=>?_,fun r hr=>?_,hi.far⟩
 ·have h1:=hi.fix b i x h
  rw [hb.cell (p:=⟨b,i,none⟩) (cell_size h1)];exact h1
 exact (hi.ok r hr).stay (Ext.refl F) (fun b hbk=>⟨hb.block b ((hi.ok r hr).lt hbk),fun _=>V⟩)
end
instance:DecidableEq ByteArray:=fun a b=>if h:a.toList=b.toList then isTrue (ba_eq h) else isFalse (fun e=>h (by rw [e]))
inductive Ty where
 | mk (k:Int) (s:ByteArray) (n:Int) (ks:List Ty)
def Ty.kind:Ty→Int|.mk k _ _ _=>k
def Ty.name:Ty→ByteArray|.mk _ s _ _=>s
def Ty.num:Ty→Int|.mk _ _ n _=>n
def Ty.kids:Ty→List Ty|.mk _ _ _ ks=>ks
mutual
def Ty.size:Ty→Nat
 | .mk _ _ _ ks=>1+Ty.sizes ks
def Ty.sizes:List Ty→Nat
 | []=>0
 | t::ts=>t.size+Ty.sizes ts
end
theorem Ty.size_pos (t:Ty):1≤t.size:=by cases t;simp [Ty.size]
theorem Ty.size_mem {t:Ty}:∀ {ts:List Ty},t∈ts→t.size≤Ty.sizes ts
 | [],h=>by simp at h
 | u::ts,h=>by
  rw [Ty.sizes]
  rcases List.mem_cons.1 h with rfl|h
  ·omega
  have:=Ty.size_mem h;omega
mutual
def Ty.cells:Ty→List AV
 | .mk k s n ks=>[.val (.int .i64 k),.val (.string s),.val (.int .i64 n),.seq 4 (Ty.cellss ks)]
def Ty.cellss:List Ty→List (List AV)
 | []=>[]
 | t::ts=>t.cells::Ty.cellss ts
end
theorem Ty.cellss_map:∀ ts:List Ty,Ty.cellss ts=ts.map Ty.cells
 | []=>by simp [Ty.cellss]
 | t::ts=>by simp [Ty.cellss,Ty.cellss_map ts]
theorem Ty.cellss_len (ts:List Ty):(Ty.cellss ts).length=ts.length:=by rw [Ty.cellss_map];simp
theorem Ty.cellss_get {ts:List Ty} {i:Nat} {t:Ty} (h:ts[i]?=some t):(Ty.cellss ts)[i]?=some t.cells:=by rw [Ty.cellss_map];simp [h]
theorem Ty.cellss_app (a b:List Ty):Ty.cellss (a++b)=Ty.cellss a++Ty.cellss b:=by simp [Ty.cellss_map]
theorem Ty.size_at {ts:List Ty} {i:Nat} {t:Ty} (h:ts[i]?=some t):t.size≤Ty.sizes ts:=Ty.size_mem (List.mem_of_getElem? h)
theorem get_some {α:Type} {l:List α} {i:Nat} (h:i<l.length):∃ x,l[i]?=some x:=⟨l[i],List.getElem?_eq_getElem h⟩
theorem drop_at {α:Type} {l:List α} {i:Nat} {x:α} (h:l[i]?=some x):l.drop i=x::l.drop (i+1):=by
 have hi:i<l.length:=by
  rcases Nat.lt_or_ge i l.length with k|k
  ·exact k
  rw [List.getElem?_eq_none k] at h;simp at h
 rw [List.drop_eq_getElem_cons hi]
 rw [List.getElem?_eq_getElem hi] at h
 simp at h
 rw [h]
mutual
def Ty.cnt:Ty→Int→Int
 | .mk k _ n ks,most=>if k=1∧(ks≠[]∨n≠0) then most else Ty.cnts ks 1 most
def Ty.cnts:List Ty→Int→Int→Int
 | [],n,_=>n
 | t::ts,n,most=>if n<most then Ty.cnts ts (n+t.cnt (most - n)) most else n
end
mutual
theorem Ty.cnt_bd:∀ (t:Ty) (m:Int),1≤m→1≤t.cnt m∧t.cnt m≤m
 | .mk k s n ks,m,h=>by
  rw [Ty.cnt]
  split
  ·omega
  exact Ty.cnts_bd ks 1 m by5 h
theorem Ty.cnts_bd:∀ (ts:List Ty) (n m:Int),1≤n→n≤m→1≤Ty.cnts ts n m∧Ty.cnts ts n m≤m
 | [],n,m,h,h'=>by rw [Ty.cnts];omega
 | t::ts,n,m,h,h'=>by
  rw [Ty.cnts]
  split
  ·have:=Ty.cnt_bd t (m - n) by5
   exact Ty.cnts_bd ts _ m by5 by5
  omega
end
inductive Ty.VarOk:Ty→Prop
 | mk (k:Int) (s:ByteArray) (n:Int) (ks:List Ty) (h:k=1→ks=[]∧n=0) (hk:∀ t∈ks,Ty.VarOk t):Ty.VarOk (.mk k s n ks)
mutual
theorem Ty.cnt_size:∀ (t:Ty) (m:Int),1≤m→t.cnt m<m→(t.size:Int)=t.cnt m∧t.VarOk
 | .mk k s n ks,m,h,hlt=>by
  rw [Ty.cnt] at hlt ⊢
  split at hlt
  ·omega
  rename_i hc
  rw [if_neg hc]
  obtain ⟨h1,h2⟩:=Ty.cnts_size ks 1 m by5 h hlt
  refine ⟨by rw [Ty.size];omega,.mk k s n ks (fun hk=>?_) h2⟩
  constructor
  ·cases ks with
   | nil=>rfl
   | cons t ts=>exact absurd ⟨hk,Or.inl (by simp)⟩ hc
  by_cases hn:n=0
  ·exact hn
  exact absurd ⟨hk,Or.inr hn⟩ hc
theorem Ty.cnts_size:∀ (ts:List Ty) (n m:Int),1≤n→n≤m→Ty.cnts ts n m<m→n+(Ty.sizes ts:Int)=Ty.cnts ts n m∧∀ t∈ts,t.VarOk
 | [],n,m,h,h',hlt=>by rw [Ty.cnts,Ty.sizes];exact ⟨by simp,by simp⟩
 | t::ts,n,m,h,h',hlt=>by
  rw [Ty.cnts] at hlt ⊢
  split at hlt
  ·rename_i hc
   rw [if_pos hc]
   have hb:=Ty.cnt_bd t (m - n) by5
   obtain ⟨i1,i2⟩:=Ty.cnts_size ts (n+t.cnt (m - n)) m by5 by5 hlt
   have hlt2:t.cnt (m - n)<m - n:=by
    have:=Ty.cnts_ge ts (n+t.cnt (m - n)) m by5 by5
    omega
   obtain ⟨j1,j2⟩:=Ty.cnt_size t (m - n) by5 hlt2
   refine ⟨by rw [Ty.sizes];omega,fun u hu=>?_⟩
   rcases List.mem_cons.1 hu with rfl|hu
   ·exact j2
   exact i2 u hu
  omega
theorem Ty.cnts_ge:∀ (ts:List Ty) (n m:Int),1≤n→n≤m→n≤Ty.cnts ts n m
 | [],n,m,h,h'=>by rw [Ty.cnts];omega
 | t::ts,n,m,h,h'=>by
  rw [Ty.cnts]
  split
  ·have hb:=Ty.cnt_bd t (m - n) by5
   have:=Ty.cnts_ge ts (n+t.cnt (m - n)) m by5 by5
   omega
  omega
end
def Ty.small (t:Ty) (most:Int):Bool:=decide (t.cnt (most+1)≤most)
theorem Ty.small_size {t:Ty} {most:Int} (h0:0≤most) (h:t.small most=true):(t.size:Int)≤most∧t.VarOk:=by
 unfold Ty.small at h
 simp at h
 obtain ⟨h1,h2⟩:=Ty.cnt_size t (most+1) by5 by5
 exact ⟨by omega,h2⟩
theorem Ty.cnt_var {t:Ty} (h:t.kind=1∧(t.kids≠[]∨t.num≠0)) (m:Int):t.cnt m=m:=by
 cases t;rw [Ty.cnt];exact if_pos h
theorem Ty.cnt_not {t:Ty} (h:¬ (t.kind=1∧(t.kids≠[]∨t.num≠0))) (m:Int):t.cnt m=Ty.cnts t.kids 1 m:=by
 cases t;rw [Ty.cnt];exact if_neg h
def strs (xs:List ByteArray):List (List AV):=xs.map fun s=>[.val (.string s)]
theorem strs_len (xs:List ByteArray):(strs xs).length=xs.length:=by simp [strs]
theorem strs_get {xs:List ByteArray} {i:Nat} {s:ByteArray} (h:xs[i]?=some s):(strs xs)[i]?=some [.val (.string s)]:=by simp [strs,h]
def Upto {α:Type} (xs ys:List α) (i:Nat):Prop:=∀ j,j<i→xs[j]?=ys[j]?
theorem Upto.zero {α:Type} (xs ys:List α):Upto xs ys 0:=fun j hj=>by omega
theorem Upto.succ {α:Type} {xs ys:List α} {i:Nat} {x y:α} (h:Upto xs ys i) (hx:xs[i]?=some x) (hy:ys[i]?=some y) (e:x=y):Upto xs ys (i+1):=fun j hj=>by
 by_cases q:j=i
 ·subst q;rw [hx,hy,e]
 exact h j by5
theorem Upto.eq {α:Type} {xs ys:List α} {i:Nat} (h:Upto xs ys i) (hl:xs.length=ys.length) (hi:xs.length≤i):xs=ys:=by
 apply List.ext_getElem?
 intro j
 rcases Nat.lt_or_ge j xs.length with k|k
 ·exact h j by5
 rw [List.getElem?_eq_none k,List.getElem?_eq_none by5]
theorem at_ne {α:Type} {xs ys:List α} {i:Nat} {x y:α} (hx:xs[i]?=some x) (hy:ys[i]?=some y) (e:x≠y):¬ xs=ys:=fun h=>by
 subst h;rw [hx] at hy;simp at hy;exact e hy
theorem len_ne {α:Type} {xs ys:List α} (h:xs.length≠ys.length):¬ xs=ys:=fun e=>h (by rw [e])
end Go.Proofs.YtlkagbbbhkkogaaGreatDoor
namespace Go.Proofs.YtlkagbbbhkkogaaGreatDoor
abbrev arrow:ByteArray:=⟨#[45,62]⟩
def Ty.args:Ty→List Ty
 | .mk k s _ [a,b]=>if k=3∧s=arrow then a::b.args else []
 | _=>[]
termination_by t=>t.size
decreasing_by simp [Ty.size,Ty.sizes];omega
mutual
def Ty.all:Ty→List Ty
 | .mk k s n ks=>.mk k s n ks::Ty.alls ks
def Ty.alls:List Ty→List Ty
 | []=>[]
 | t::ts=>t.all++Ty.alls ts
end
theorem take_snoc {α:Type} {l:List α} {i:Nat} {x:α} (h:l[i]?=some x):l.take (i+1)=l.take i++[x]:=by
 have hi:i<l.length:=by
  rcases Nat.lt_or_ge i l.length with k|k
  ·exact k
  rw [List.getElem?_eq_none k] at h;simp at h
 rw [List.getElem?_eq_getElem hi] at h
 simp at h
 rw [List.take_succ_eq_append_getElem hi,h]
theorem Ty.len_sizes (ks:List Ty):ks.length≤Ty.sizes ks:=by
 induction ks with
 | nil=>simp
 | cons t ts ih=>have:=Ty.size_pos t;simp [Ty.sizes];omega
noncomputable instance (a:ByteArray) (l:List ByteArray):Decidable (a∈l):=Classical.propDecidable _
noncomputable def addVar (acc:List ByteArray) (t:Ty):List ByteArray:=if t.kind=1∧t.name∉acc then acc++[t.name] else acc
def addMeta (acc:List Int) (t:Ty):List Int:=if t.kind=2∧t.num∉acc then acc++[t.num] else acc
noncomputable def Ty.vars (t:Ty):List ByteArray:=t.all.foldl addVar []
def Ty.metas (t:Ty):List Int:=t.all.foldl addMeta []
mutual
def Ty.turn (o:Ty→Option Ty):Ty→Ty
 | .mk k s n ks=>match o (.mk k s n ks) with
  | some y=>y
  | none=>.mk k s n (Ty.turns o ks)
def Ty.turns (o:Ty→Option Ty):List Ty→List Ty
 | []=>[]
 | t::ts=>t.turn o::Ty.turns o ts
end
theorem Ty.turns_map (o:Ty→Option Ty):∀ ts:List Ty,Ty.turns o ts=ts.map (Ty.turn o)
 | []=>by simp [Ty.turns]
 | t::ts=>by simp [Ty.turns,Ty.turns_map o ts]
theorem Ty.turn_some {o:Ty→Option Ty} {t y:Ty} (h:o t=some y):t.turn o=y:=by
 obtain ⟨k,s,n,ks⟩:=t
 rw [Ty.turn,h]
theorem Ty.turn_none {o:Ty→Option Ty} {k:Int} {s:ByteArray} {n:Int} {ks:List Ty} (h:o (.mk k s n ks)=none):(Ty.mk k s n ks).turn o=.mk k s n (Ty.turns o ks):=by
 rw [Ty.turn,h]
theorem Ty.turns_len (o:Ty→Option Ty) (ts:List Ty):(Ty.turns o ts).length=ts.length:=by rw [Ty.turns_map];simp
theorem Ty.turns_snoc (o:Ty→Option Ty) (ts:List Ty) (x:Ty):Ty.turns o (ts++[x])=Ty.turns o ts++[x.turn o]:=by simp [Ty.turns_map]
mutual
theorem Ty.turn_id:∀ t:Ty,t.turn (fun _=>none)=t
 | .mk k s n ks=>by rw [Ty.turn_none rfl,Ty.turns_id ks]
theorem Ty.turns_id:∀ ts:List Ty,Ty.turns (fun _=>none) ts=ts
 | []=>by rw [Ty.turns]
 | t::ts=>by rw [Ty.turns,Ty.turn_id t,Ty.turns_id ts]
end
def firstAt {α:Type} [DecidableEq α] (x:α):List α→Nat→Int
 | [],_ => -1
 | y::ys,i=>if x=y then i else firstAt x ys (i+1)
theorem firstAt_drop {α:Type} [DecidableEq α] (x:α):∀ (xs:List α) (i:Nat),x∉xs.take i→firstAt x (xs.drop i) i=firstAt x xs 0:=by
 have key:∀ (xs:List α) (i k:Nat),x∉xs.take i→firstAt x xs k=firstAt x (xs.drop i) (k+i):=by
  intro xs
  induction xs with
  | nil=>intro i k _;simp [firstAt]
  | cons y ys ih =>
   intro i k h
   cases i with
   | zero=>simp
   | succ i =>
    simp only [List.take_succ_cons,List.mem_cons,not_or] at h
    rw [firstAt,if_neg h.1,List.drop_succ_cons,ih i (k+1) h.2]
    congr 1;omega
 intro xs i h
 have:=key xs i 0 h
 rw [this];congr 1;omega
theorem firstAt_lt {α:Type} [DecidableEq α] (x:α):∀ (xs:List α) (k:Nat),firstAt x xs k<k+xs.length
 | [],k=>by simp [firstAt];omega
 | y::ys,k=>by
  rw [firstAt]
  split
  ·simp;omega
  have:=firstAt_lt x ys (k+1);simp at this ⊢;omega
theorem firstAt_at {α:Type} [DecidableEq α] {x:α} {xs:List α} {i:Nat} (h:x∉xs.take i) (hx:xs[i]?=some x):firstAt x xs 0=i:=by
 rw [← firstAt_drop x xs i h,drop_at hx,firstAt,if_pos rfl]
theorem firstAt_out {α:Type} [DecidableEq α] {x:α} {xs:List α} (h:x∉xs):firstAt x xs 0 = -1:=by
 have:=firstAt_drop x xs xs.length (by simpa using h)
 rw [← this];simp [firstAt]
theorem not_mem_take {α:Type} {xs:List α} {i:Nat} {x y:α} (h:x∉xs.take i) (hx:xs[i]?=some y) (e:¬ y=x):x∉xs.take (i+1):=by
 rw [take_snoc hx,List.mem_append]
 rintro (q|q)
 ·exact h q
 simp at q;exact e q.symm
def putO (names:List ByteArray) (ts:List Ty) (x:Ty):Option Ty:=if x.kind=1∧0≤firstAt x.name names 0 then ts[(firstAt x.name names 0).toNat]? else none
theorem putO_not {names:List ByteArray} {ts:List Ty} {k:Int} {s:ByteArray} {n:Int} {ks:List Ty} (h:k≠1):putO names ts (.mk k s n ks)=none:=if_neg (fun q=>h q.1)
theorem putO_out {names:List ByteArray} {ts:List Ty} {k:Int} {s:ByteArray} {n:Int} {ks:List Ty} (h:firstAt s names 0<0):putO names ts (.mk k s n ks)=none:=if_neg (fun q=>by have:=q.2;simp only [Ty.name] at this;omega)
theorem putO_big {names:List ByteArray} {ts:List Ty} {k:Int} {s:ByteArray} {n:Int} {ks:List Ty} (h:(ts.length:Int)≤firstAt s names 0):putO names ts (.mk k s n ks)=none:=by
 unfold putO
 split
 ·exact List.getElem?_eq_none (by simp only [Ty.name];omega)
 rfl
theorem putO_in {names:List ByteArray} {ts:List Ty} {s:ByteArray} {n:Int} {ks:List Ty} {j:Nat} (h:firstAt s names 0=j):putO names ts (.mk 1 s n ks)=ts[j]?:=by
 unfold putO
 simp only [Ty.kind,Ty.name,h]
 rw [if_pos ⟨trivial,by omega⟩]
 simp
theorem tmix:Tryz.prog.follows .mixedOrders=true:=by kernel_rfl
theorem tu_3:Tryz.prog.underlying 3=some (.int .i64):=by kernel_rfl
theorem ta_9:tyAgg Tryz.prog 9=some none:=by kernel_rfl
theorem tu_9:Tryz.prog.underlying 9=some (.string):=by kernel_rfl
theorem ta_22:tyAgg Tryz.prog 22=some none:=by kernel_rfl
theorem ts_22:(Tryz.prog.info? 22).map (·.size)=some 1:=by kernel_rfl
theorem te_22:tyElem Tryz.prog 22=some (24,4):=by kernel_rfl
theorem el_22:ElT Tryz.prog 22 24 (.agg #[(.int .i64 0),(.string ⟨#[]⟩),(.int .i64 0),(.slice none 0 0)]) 4 56:=⟨by kernel_rfl,by kernel_rfl,rfl,by decide,by decide⟩
theorem tu_22:Tryz.prog.underlying 22=some (.slice 24):=by kernel_rfl
theorem ta_24:tyAgg Tryz.prog 24=some (some 4):=by kernel_rfl
theorem ts_24:(Tryz.prog.info? 24).map (·.size)=some 4:=by kernel_rfl
theorem tz_24:tyZero Tryz.prog 24=some (.agg #[(.int .i64 0),(.string ⟨#[]⟩),(.int .i64 0),(.slice none 0 0)]):=by kernel_rfl
theorem tf_24_1:tyFld Tryz.prog 24 1=some 1:=by kernel_rfl
theorem tfl_24:tyFlds Tryz.prog 24=some [(0,1),(1,1),(2,1),(3,1)]:=by kernel_rfl
theorem te_30:tyElem Tryz.prog 30=some (9,1):=by kernel_rfl
theorem tu_30:Tryz.prog.underlying 30=some (.slice 9):=by kernel_rfl
open Go.RowKit
def rg (l:List (Nat × Nat)):List Nat:=l.flatMap fun p=>List.range' p.1 p.2
def lkf:List (Nat × Nat × Nat)→Nat→Nat→Option Nat
 | [],_,_=>none
 |(a,b,c)::l,t,f=>bif Nat.beq a t && Nat.beq b f then some c else lkf l t f
def lkm:List Nat→Nat→Bool
 | [],_=>false
 | a::l,t=>Nat.beq a t || lkm l t
def tfL:List (Nat × Nat × Nat):=[(24,0,0),(24,1,1),(24,2,2),(24,3,3)]
def taL:List Nat:=[3,9,22,30]
theorem lkf_ok {t f c:Nat}:∀ l:List (Nat × Nat × Nat),(l.all fun e=>tyFld Tryz.prog e.1 e.2.1 == some e.2.2)=true→lkf l t f=some c→tyFld Tryz.prog t f=some c
 | [],_,h=>by simp [lkf] at h
 |(a,b,d)::l,hl,h=>by
  rw [List.all_cons,Bool.and_eq_true] at hl
  rw [lkf] at h
  cases q:(Nat.beq a t && Nat.beq b f) with
  | true =>
   rw [q] at h
   rw [Bool.and_eq_true] at q
   have h1:=Nat.eq_of_beq_eq_true q.1
   have h2:=Nat.eq_of_beq_eq_true q.2
   subst h1 h2
   have h3:d=c:=by simpa using h
   subst h3
   simpa using hl.1
  | false=>rw [q] at h;exact lkf_ok l hl.2 h
theorem lkm_ok {t:Nat}:∀ l:List Nat,(l.all fun e=>tyAgg Tryz.prog e == some none)=true→lkm l t=true→tyAgg Tryz.prog t=some none
 | [],_,h=>by simp [lkm] at h
 | a::l,hl,h=>by
  rw [List.all_cons,Bool.and_eq_true] at hl
  rw [lkm,Bool.or_eq_true] at h
  rcases h with h|h
  ·have h1:=Nat.eq_of_beq_eq_true h
   subst h1
   simpa using hl.1
  exact lkm_ok l hl.2 h
theorem tfL_ok:(tfL.all fun e=>tyFld Tryz.prog e.1 e.2.1 == some e.2.2)=true:=by kernel_rfl
theorem taL_ok:(taL.all fun e=>tyAgg Tryz.prog e == some none)=true:=by kernel_rfl
section
variable {al:Sl} {M:Mem} {K:AV→Mem→Prop} {o:Oper}
theorem op_fam {x:Operand} {t f b off fo:Nat} (ho:o.op=.fieldAddr t x f) (ht:lkf tfL t f=some fo) (hx:al.ev x=some (.ptr b off)) (q:K (.ptr b (off+fo)) M):OpT Tryz.prog o al M K:=op_fieldAddr_m ho (lkf_ok tfL tfL_ok ht) hx q
theorem op_lm1 {x:Operand} {t b off i:Nat} {c:AV} {cs:List AV} (ho:o.op=.load t x) (ht:lkm taL t=true) (hx:al.ev x=some (.ptr b off)) (hm:M[i]?=some (.loc b cs)) (hc:cs[off]?=some c) (q:K c M):OpT Tryz.prog o al M K:=op_load_m1 ho (lkm_ok taL taL_ok ht) hx hm hc q
end
structure Wr (q:Prop):Prop where
 out:q
section
variable {p q:Prop}
theorem Qe (k:q) (h:Wr q→p:=by intro k;refine go_code ?_;exact k.1):p:=h ⟨k⟩
theorem Qb (k:q) (h:Wr q→p:=by intro k;refine c_seq ?_;exact k.1):p:=h ⟨k⟩
theorem Qk (k:q) (h:Wr q→p:=by intro k;refine AOps.nil ?_;exact k.1):p:=h ⟨k⟩
theorem Qr (k:q) (h:Wr q→p:=by intro k;refine c_region ?_;exact k.1):p:=h ⟨k⟩
theorem Qa (k:q) (h:Wr q→p:=by intro k;refine Zb _ rfl rfl rfl (op_move rfl rfl ?_);exact k.1):p:=h ⟨k⟩
theorem QH (k:q) (h:Wr q→p:=by intro k;refine AOps.gf _ rfl rfl rfl rfl rfl ?_;exact k.1):p:=h ⟨k⟩
theorem QT (k:q) (h:Wr q→p:=by intro k;refine Zb _ rfl rfl rfl (op_assign rfl rfl ?_);exact k.1):p:=h ⟨k⟩
theorem Qd (k:q) (h:Wr q→p:=by intro k;refine c_ret ?_;exact k.1):p:=h ⟨k⟩
theorem Qg (k:q) (h:Wr q→p:=by intro k;refine c_cond_f rfl ?_;exact k.1):p:=h ⟨k⟩
theorem Qh (k:q) (h:Wr q→p:=by intro k;refine c_cond_t rfl ?_;exact k.1):p:=h ⟨k⟩
theorem Qs (k:q) (h:Wr q→p:=by intro k;refine Zb _ rfl rfl rfl (op_pick rfl rfl rfl ?_);exact k.1):p:=h ⟨k⟩
theorem Qj (k:q) (h:Wr q→p:=by intro k;refine Zb _ rfl rfl rfl (op_fam rfl rfl rfl ?_);exact k.1):p:=h ⟨k⟩
theorem Ql (k:q) (h:Wr q→p:=by intro k;refine c_block ?_;exact k.1):p:=h ⟨k⟩
theorem Qu (k:q) (h:Wr q→p:=by intro k;refine Zb _ rfl rfl rfl (op_add rfl rfl rfl (IntWalk.i64_in _ by5) ?_);exact k.1):p:=h ⟨k⟩
theorem Qv (k:q) (h:Wr q→p:=by intro k;refine AOps.st0 rfl rfl (op_store (cs':=[_,_,_,_]) (i:=0) rfl ts_24 rfl rfl rfl rfl rfl (Zn rfl) rfl ?_);exact k.1):p:=h ⟨k⟩
theorem Qw (k:q) (h:Wr q→p:=by intro k;refine Zb _ rfl rfl rfl (op_len rfl tu_22 rfl (.seq _ _) ?_);exact k.1):p:=h ⟨k⟩
theorem Qx (k:q) (h:Wr q→p:=by intro k;refine Zb _ rfl rfl rfl (op_lss rfl rfl rfl ?_);exact k.1):p:=h ⟨k⟩
theorem Qy (k:q) (h:Wr q→p:=by intro k;refine DOps.st _ rfl rfl (op_move rfl rfl ⟨rfl,rfl⟩) ?_;exact k.1):p:=h ⟨k⟩
theorem Qz (k:q) (h:Wr q→p:=by intro k;refine Zb _ rfl rfl rfl (op_boxe (cs':=[_,_,_,_]) rfl rfl rfl rfl ?_);exact k.1):p:=h ⟨k⟩
theorem QA (k:q) (h:Wr q→p:=by intro k;refine Zb _ rfl rfl rfl (op_alloce (cs':=[_,_,_,_]) rfl tz_24 rfl rfl ?_);exact k.1):p:=h ⟨k⟩
theorem QE (k:q) (h:Wr q→p:=by intro k;refine Zm _ rfl rfl rfl rfl rfl (op_fam rfl rfl rfl ?_);exact k.1):p:=h ⟨k⟩
theorem QF (k:q) (h:Wr q→p:=by intro k;refine Zb _ rfl rfl rfl (op_load_c (cs':=[_,_,_,_]) rfl ta_24 rfl rfl rfl ?_);exact k.1):p:=h ⟨k⟩
theorem QG (k:q) (h:Wr q→p:=by intro k;refine Zb _ rfl rfl rfl (op_lm1 (i:=1) rfl rfl rfl rfl rfl ?_);exact k.1):p:=h ⟨k⟩
theorem QI (k:q) (h:Wr q→p:=by intro k;refine Zb _ rfl rfl rfl (op_index rfl te_22 rfl (.seq _ _) rfl rfl (by assumption) ?_);exact k.1):p:=h ⟨k⟩
theorem QJ (k:q) (h:Wr q→p:=by intro k;refine Zb _ rfl rfl rfl (op_lm1 (i:=2) rfl rfl rfl rfl rfl ?_);exact k.1):p:=h ⟨k⟩
theorem QK (k:q) (h:Wr q→p:=by intro k;refine Zm _ rfl rfl rfl rfl rfl (op_lm1 (i:=0) rfl rfl rfl rfl rfl ?_);exact k.1):p:=h ⟨k⟩
theorem QL (k:q) (h:Wr q→p:=by intro k;refine Zm _ rfl rfl rfl rfl rfl (op_move rfl rfl ?_);exact k.1):p:=h ⟨k⟩
theorem QM (k:q) (h:Wr q→p:=by intro k;refine Zb _ rfl rfl rfl (op_load_m (cs':=[_,_,_,_]) (i:=1) rfl ta_24 rfl rfl rfl rfl ?_);exact k.1):p:=h ⟨k⟩
theorem QN (k:q) (h:Wr q→p:=by intro k;refine DOps.st _ rfl rfl (op_load_c (cs':=[_,_,_,_]) rfl ta_24 rfl rfl rfl ⟨rfl,rfl⟩) ?_;exact k.1):p:=h ⟨k⟩
theorem QO (k:q) (h:Wr q→p:=by intro k;refine Zb _ rfl rfl rfl (op_lm1 (i:=0) rfl rfl rfl rfl rfl ?_);exact k.1):p:=h ⟨k⟩
theorem QP (k:q) (h:Wr q→p:=by intro k;refine Zb _ rfl rfl rfl (op_len rfl tu_30 rfl (.seq _ _) ?_);exact k.1):p:=h ⟨k⟩
theorem QR (k:q) (h:Wr q→p:=by intro k;refine Zb _ rfl rfl rfl (op_load_m (cs':=[_,_,_,_]) (i:=0) rfl ta_24 rfl rfl rfl rfl ?_);exact k.1):p:=h ⟨k⟩
theorem QS (k:q) (h:Wr q→p:=by intro k;refine AOps.st0 rfl rfl (op_store (cs':=[_,_,_,_]) (i:=1) rfl ts_24 rfl rfl rfl rfl rfl (Zn rfl) rfl ?_);exact k.1):p:=h ⟨k⟩
theorem QU (k:q) (h:Wr q→p:=by intro k;refine Zb _ rfl rfl rfl (op_eql rfl rfl rfl ?_);exact k.1):p:=h ⟨k⟩
theorem QV (k:q) (h:Wr q→p:=by intro k;refine Zm _ rfl rfl rfl rfl rfl (op_lm1 (i:=1) rfl rfl rfl rfl rfl ?_);exact k.1):p:=h ⟨k⟩
theorem QW (k:q) (h:Wr q→p:=by intro k;refine Zm _ rfl rfl rfl rfl rfl (op_len rfl tu_22 rfl (.seq _ _) ?_);exact k.1):p:=h ⟨k⟩
theorem QX (k:q) (h:Wr q→p:=by intro k;refine Zb _ rfl rfl rfl (op_load_m (cs':=[_,_,_,_]) (i:=2) rfl ta_24 rfl rfl rfl rfl ?_);exact k.1):p:=h ⟨k⟩
theorem QY (k:q) (h:Wr q→p:=by intro k;refine DOps.st _ rfl rfl (op_index rfl te_22 rfl (.seq _ _) rfl rfl (by assumption) ⟨rfl,rfl⟩) ?_;exact k.1):p:=h ⟨k⟩
theorem QZ (k:q) (h:Wr q→p:=by intro k;refine Zb _ rfl rfl rfl (op_buildSlice (xs:=[.tmp 51]) el_22 rfl rfl rfl rfl rfl rfl (Zn rfl) ?_);exact k.1):p:=h ⟨k⟩
theorem Q0 (k:q) (h:Wr q→p:=by intro k;(refine Zb _ rfl rfl rfl (op_append (i:=0) el_22 rfl rfl rfl rfl (.seq _ _) (by simp [Ty.cellss_len,Ty.turns_len];omega) ?_));exact k.1):p:=h ⟨k⟩
theorem Qc (k:q) (h:Wr q→p:=by intro k;refine Qk ?_;refine Qe ?_;exact k.1):p:=h ⟨k⟩
theorem Qf (k:q) (h:Wr q→p:=by intro k;refine Qb ?_;refine Qr ?_;exact k.1):p:=h ⟨k⟩
theorem Qi (k:q) (h:Wr q→p:=by intro k;refine QT ?_;refine Qc ?_;exact k.1):p:=h ⟨k⟩
theorem Qt (k:q) (h:Wr q→p:=by intro k;refine QH ?_;refine QH ?_;exact k.1):p:=h ⟨k⟩
theorem Qm (k:q) (h:Wr q→p:=by intro k;refine Qf ?_;refine Qa ?_;exact k.1):p:=h ⟨k⟩
theorem Qn (k:q) (h:Wr q→p:=by intro k;refine Qr ?_;refine Qa ?_;exact k.1):p:=h ⟨k⟩
theorem Qo (k:q) (h:Wr q→p:=by intro k;refine Qf ?_;refine Qi ?_;exact k.1):p:=h ⟨k⟩
theorem Qp (k:q) (h:Wr q→p:=by intro k;refine c_skip ?_;refine Qe ?_;refine Qb ?_;exact k.1):p:=h ⟨k⟩
theorem Qq (k:q) (h:Wr q→p:=by intro k;refine QT ?_;refine Qk ?_;exact k.1):p:=h ⟨k⟩
theorem QB (k:q) (h:Wr q→p:=by intro k;refine Qt ?_;refine QH ?_;refine Qs ?_;exact k.1):p:=h ⟨k⟩
theorem QC (k:q) (h:Wr q→p:=by intro k;refine go_blk ?_;refine Qe ?_;exact k.1):p:=h ⟨k⟩
theorem QD (k:q) (h:Wr q→p:=by intro k;refine c_start ?_;refine Qf ?_;exact k.1):p:=h ⟨k⟩
end
section
variable {P:Program}
theorem shape_int {fuel:Nat} {t:TypeId} {k:IntKind} {cs:List AV} (ht:P.underlying t=some (.int k)) (h:ShapeC P fuel t cs):∃ x,(k.min≤x∧x≤k.max)∧cs=[.val (.int k x)]:=by
 cases fuel with
 | zero=>unfold ShapeC at h;exact h.elim
 | succ n=>unfold ShapeC at h;rw [ht] at h;exact h
theorem shape_str {fuel:Nat} {t:TypeId} {cs:List AV} (ht:P.underlying t=some .string) (h:ShapeC P fuel t cs):∃ s:ByteArray,s.size≤maxLen∧cs=[.val (.string s)]:=by
 cases fuel with
 | zero=>unfold ShapeC at h;exact h.elim
 | succ n=>unfold ShapeC at h;rw [ht] at h;exact h
theorem shape_slice {fuel:Nat} {t e:TypeId} {cs:List AV} (ht:P.underlying t=some (.slice e)) (h:ShapeC P fuel t cs):∃ n es,n<fuel∧cs=[.seq (P.cellsOf e) es]∧∀ x∈es,ShapeC P n e x:=by
 cases fuel with
 | zero=>unfold ShapeC at h;exact h.elim
 | succ n =>
  unfold ShapeC at h
  rw [ht] at h
  obtain ⟨es,h1,_,h2⟩:=h
  exact ⟨n,es,by omega,h1,h2⟩
theorem shape_struct {fuel:Nat} {t:TypeId} {fs:Array Field} {cs:List AV} (ht:P.underlying t=some (.struct fs)) (h:ShapeC P fuel t cs):∃ n,n<fuel∧ShapeF P n fs.toList cs:=by
 cases fuel with
 | zero=>unfold ShapeC at h;exact h.elim
 | succ n=>unfold ShapeC at h;rw [ht] at h;exact ⟨n,by omega,h⟩
theorem pick_all {α:Type} {f:α→List AV}:∀ {es:List (List AV)},(∀ x∈es,∃ a,x=f a)→∃ l:List α,es=l.map f
 | [],_=>⟨[],rfl⟩
 | e::es,h=>by
  obtain ⟨a,ha⟩:=h e (by simp)
  obtain ⟨l,hl⟩:=pick_all (fun x hx=>h x (by simp [hx]):∀ x∈es,∃ a,x=f a)
  exact ⟨a::l,by rw [ha,hl];rfl⟩
end
theorem cellsOf_ty:Tryz.prog.cellsOf 24=4:=by kernel_rfl
theorem cellsOf_str:Tryz.prog.cellsOf 9=1:=by kernel_rfl
theorem shape_ty (fuel:Nat):∀ cs,ShapeC Tryz.prog fuel 24 cs→∃ t:Ty,cs=t.cells:=by
 induction fuel using Nat.strongRecOn with
 | _ fuel ih =>
  intro cs h
  obtain ⟨n,hn,h⟩:=shape_struct Tryz.underlying24 h
  simp only [ShapeF] at h
  obtain ⟨a1,b1,rfl,h1,a2,b2,rfl,h2,a3,b3,rfl,h3,a4,b4,rfl,h4,rfl⟩:=h
  obtain ⟨k,_,rfl⟩:=shape_int tu_3 h1
  obtain ⟨s,_,rfl⟩:=shape_str tu_9 h2
  obtain ⟨m,_,rfl⟩:=shape_int tu_3 h3
  obtain ⟨n',es,hn',rfl,h5⟩:=shape_slice tu_22 h4
  obtain ⟨ts,rfl⟩:=pick_all (f:=Ty.cells) (fun x hx=>ih n' by5 x (h5 x hx))
  refine ⟨.mk k s m ts,?_⟩
  rw [cellsOf_ty,← Ty.cellss_map]
  rfl
theorem shape_tys {fuel:Nat} {cs:List AV} (h:ShapeC Tryz.prog fuel 22 cs):∃ ts:List Ty,cs=[.seq 4 (Ty.cellss ts)]:=by
 obtain ⟨n',es,_,rfl,h5⟩:=shape_slice tu_22 h
 obtain ⟨ts,rfl⟩:=pick_all (f:=Ty.cells) (fun x hx=>shape_ty n' x (h5 x hx))
 exact ⟨ts,by rw [cellsOf_ty,← Ty.cellss_map]⟩
theorem shape_strs {fuel:Nat} {cs:List AV} (h:ShapeC Tryz.prog fuel 30 cs):∃ ts:List ByteArray,cs=[.seq 1 (strs ts)]:=by
 obtain ⟨n',es,_,rfl,h5⟩:=shape_slice tu_30 h
 obtain ⟨ts,rfl⟩:=pick_all (f:=fun s:ByteArray=>[AV.val (.string s)]) (fun x hx=>by obtain ⟨s,_,rfl⟩:=shape_str tu_9 (h5 x hx);exact ⟨s,rfl⟩)
 exact ⟨ts,by rw [cellsOf_str];rfl⟩
mutual
def AV.bulk:AV→Nat
 | .val (.string s)=>s.size+1
 | .seq _ es=>bulkss es+1
 | _=>1
def bulks:List AV→Nat
 | []=>0
 | a::l=>a.bulk+bulks l
def bulkss:List (List AV)→Nat
 | []=>0
 | e::es=>bulks e+bulkss es
end
section
variable {H:Type} {enc:TypeId × Value→H} {P:Program} {w:World} {sp:Nat→Bool} {held:Bool} {L:Nat}
end
section
variable {P:Program} {L:Nat}
end
theorem okw_slice {P:Program} {W:World} {r:Reach} {b:Nat} {t e:TypeId} {v:Value} (ht:P.underlying t=some (.slice e)) (h:Value.okWide P W r b t v):∀ a,v≠.agg a:=by
 rintro a rfl
 unfold Value.okWide at h
 rw [ht] at h
 simp only [Cell.okWide,Cell.ok,ht] at h
theorem iff_f {p:Prop} (h:¬ p):(false=true↔p):=by simp [h]
theorem iff_t {p:Prop} (h:p):(true=true↔p):=by simp [h]
theorem SameTypes_of (d:Nat) (ih:∀ a b:Ty,a.size≤d→BCall Tryz.prog 15 [.agg a.cells,.agg b.cells] (a=b)) (xs ys:List Ty) (hd:Ty.sizes xs≤d):BCall Tryz.prog 28 [.seq 4 (Ty.cellss xs),.seq 4 (Ty.cellss ys)] (xs=ys):=by
 have hlx:=Ty.cellss_len xs
 have hly:=Ty.cellss_len ys
 refine Zj Tryz.func28 V (by kernel_rfl) V (Zn V) ?_
 refine c_start ?_
 refine c_lens (t:=0) V (.seq _ _) (fun hmax=>?_)
 refine Qo ?_
 refine Qb ?_
 refine Qm ?_
 refine Qw ?_;intro n7
 refine Qa ?_
 refine Qw ?_;intro n9
 refine Zb 10 V V V (op_neq V V V ?_);intro c10 h10
 refine Qc ?_
 obtain ⟨rfl,g10⟩|⟨rfl,g10⟩:=Ze h10
 ·refine Qg ?_
  refine Qp ?_
  refine Qo ?_
  refine Ql ?_
  refine c_loop (σ:=Nat) (fun zz=>match zz with|i=>[(0,.seq 4 (Ty.cellss xs)),(1,.seq 4 (Ty.cellss ys)),(5,.val (.int .i64 i))]) (fun zz=>match zz with|i=>[]) (fun zz=>match zz with|i=>i≤xs.length∧Upto xs ys i) (fun zz=>match zz with|i=>xs.length - i) (0) ?_ ?_ ?_ ?_
  ·exact ⟨by omega,Upto.zero _ _⟩
  ·exact by3
  ·exact by2
  rintro i hI
  try dsimp only [List.cons_append,List.nil_append] at hI ⊢
  obtain ⟨hi,hu⟩:=hI
  refine Qb ?_
  refine Qm ?_
  refine Qa ?_
  refine Qw ?_;intro n13
  refine Qx ?_;intro c14 h14
  refine Qc ?_
  obtain ⟨rfl,g14⟩|⟨rfl,g14⟩:=Ze h14
  ·refine Qg ?_
   refine c_exit (x_code (x_lp (x_here ?_)))
   refine Qe ?_
   refine Qo ?_
   refine Qd ?_
   exact out_tmp V V (Le.refl _) by2 ⟨⟨_,iff_t (hu.eq by5 by5),V⟩,V⟩
  refine Qh ?_
  refine Qp ?_
  refine Ql ?_
  refine Qb ?_
  obtain ⟨⟨k1,s1,n1,ks1⟩,hx⟩:=get_some (l:=xs) (i:=i) by5
  obtain ⟨⟨k2,s2,n2,ks2⟩,hy⟩:=get_some (l:=ys) (i:=i) by5
  have hcx:=Ty.cellss_get hx
  have hcy:=Ty.cellss_get hy
  have hsz:=Ty.size_at hx
  refine c_drawn tmix V ?_
  refine Qy ?_
  refine Qy ?_
  refine QY ?_
  refine QN ?_
  refine Qy ?_
  refine Qy ?_
  refine QY ?_
  refine QN ?_
  refine DOps.cm 25 V V (fun _ q=>op_callb (xs:=[.tmp 20,.tmp 24]) V V (ih (.mk k1 s1 n1 ks1) (.mk k2 s2 n2 ks2) by5) by0 q) ?_;intro c25 h25
  refine DOps.cm 26 V V (fun _ q=>op_notc V V q) ?_;intro c26 h26
  try replace h26:=nott h26 h25
  show AGo _ _ _ _ _ _ _
  refine Qe ?_
  obtain ⟨rfl,g26⟩|⟨rfl,g26⟩:=Ze h26
  ·refine Qg ?_
   refine c_skip ?_
   refine QC ?_
   refine Qn ?_
   refine Qu ?_
   refine Qq ?_
   refine go_lp ?_
   exact ⟨i+1,⟨by omega,hu.succ hx hy (Classical.not_not.1 g26)⟩,by simp;omega,by3,by2⟩
  refine Qh ?_
  refine Qo ?_
  refine Qd ?_
  exact out_tmp V V (Le.refl _) by2 ⟨⟨_,iff_f (at_ne hx hy g26),V⟩,V⟩
 refine Qh ?_
 refine Qo ?_
 refine Qd ?_
 exact out_tmp V V (Le.refl _) by2 ⟨⟨_,iff_f (len_ne by5),V⟩,V⟩
theorem SameType_of (d:Nat) (ih:∀ xs ys:List Ty,Ty.sizes xs≤d→BCall Tryz.prog 28 [.seq 4 (Ty.cellss xs),.seq 4 (Ty.cellss ys)] (xs=ys)) (a b:Ty) (hd:a.size≤d+1):BCall Tryz.prog 15 [.agg a.cells,.agg b.cells] (a=b):=by
 obtain ⟨k1,s1,n1,ks1⟩:=a
 obtain ⟨k2,s2,n2,ks2⟩:=b
 rw [Ty.size] at hd
 refine Zj Tryz.func15 V (by kernel_rfl) V (Zn V) ?_
 refine QD ?_
 refine Qz ?_;intro b2
 refine Qz ?_;intro b3
 refine Qi ?_
 refine Qb ?_
 refine c_bool 4 (Ty.mk k1 s1 n1 ks1=Ty.mk k2 s2 n2 ks2) ?_ _ _ V ?_
 ·skip
  refine Qj ?_
  refine QG ?_
  refine Qj ?_
  refine QO ?_
  refine QU ?_;intro c9 h9
  refine Qa ?_
  obtain ⟨rfl,g9⟩|⟨rfl,g9⟩:=Ze h9
  ·skip
   refine Qt ?_
   refine QB ?_
   refine Qa ?_
   refine Qt ?_
   refine QB ?_
   refine Qa ?_
   refine Qt ?_
   refine QB ?_
   refine Qq ?_
   refine BoolQ.mk V ?_ by4 by2
   simp_all
  skip
  refine QE ?_
  refine QV ?_
  refine QE ?_
  refine QK ?_
  refine Zm 15 V V V V V (op_seql V V V ?_);intro c15 h15
  refine Qs ?_
  refine Qa ?_
  obtain ⟨rfl,g15⟩|⟨rfl,g15⟩:=Ze h15
  ·skip
   refine Qt ?_
   refine QB ?_
   refine Qa ?_
   refine Qt ?_
   refine QB ?_
   refine Qq ?_
   refine BoolQ.mk V ?_ by4 by2
   simp_all
  skip
  refine QE ?_
  refine QV ?_
  refine QE ?_
  refine QK ?_
  refine Zm 22 V V V V V (op_eql V V V ?_);intro c22 h22
  refine Qs ?_
  refine Qa ?_
  obtain ⟨rfl,g22⟩|⟨rfl,g22⟩:=Ze h22
  ·skip
   refine Qt ?_
   refine QB ?_
   refine Qq ?_
   refine BoolQ.mk V ?_ by4 by2
   simp_all
  skip
  refine QE ?_
  refine QV ?_
  refine QE ?_
  refine QK ?_
  refine Zm 29 V V V V V (op_callb (xs:=[.tmp 26,.tmp 28]) V V (ih ks1 ks2 by5) by0 ?_);intro c29 h29
  refine Qs ?_
  refine Qq ?_
  refine BoolQ.mk V ?_ by4 by2
  simp_all
 intro c4 h4
 refine Qe ?_
 refine Qd ?_
 exact out_tmp V V (Le.refl _) by2 ⟨⟨_,h4,V⟩,V⟩
theorem SameTy_all (d:Nat):(∀ a b:Ty,a.size≤d→BCall Tryz.prog 15 [.agg a.cells,.agg b.cells] (a=b))∧(∀ xs ys:List Ty,Ty.sizes xs≤d→BCall Tryz.prog 28 [.seq 4 (Ty.cellss xs),.seq 4 (Ty.cellss ys)] (xs=ys)):=by
 induction d with
 | zero =>
  have h1:∀ a b:Ty,a.size≤0→BCall Tryz.prog 15 [.agg a.cells,.agg b.cells] (a=b):=fun a b h=>by have:=Ty.size_pos a;omega
  exact ⟨h1,SameTypes_of 0 h1⟩
 | succ d ih=>exact ⟨SameType_of d ih.2,SameTypes_of (d+1) (SameType_of d ih.2)⟩
theorem SameType_c (a b:Ty):BCall Tryz.prog 15 [.agg a.cells,.agg b.cells] (a=b):=(SameTy_all a.size).1 a b (Nat.le_refl _)
theorem IndexS_c (xs:List ByteArray) (x:ByteArray):PCall Tryz.prog 32 [.seq 1 (strs xs),.val (.string x)] (.val (.int .i64 (firstAt x xs 0))):=by
 have hlx:=strs_len xs
 refine Zj Tryz.func32 V (by kernel_rfl) V (Zn V) ?_
 refine c_start ?_
 refine c_lens (t:=0) V (.seq _ _) (fun hmax=>?_)
 refine Qo ?_
 refine Qb ?_
 refine Qm ?_
 refine QP ?_;intro n7
 refine Qa ?_
 refine Qc ?_
 refine Ql ?_
 refine c_loop (σ:=Nat) (fun zz=>match zz with|i=>[(0,.seq 1 (strs xs)),(1,.val (.string x)),(7,.val (.int .i64 (strs xs).length)),(8,.val (.int .i64 i))]) (fun zz=>match zz with|i=>[]) (fun zz=>match zz with|i=>i≤xs.length∧x∉xs.take i) (fun zz=>match zz with|i=>xs.length - i) (0) ?_ ?_ ?_ ?_
 ·exact ⟨by omega,by simp⟩
 ·exact by3
 ·exact by2
 rintro i hI
 try dsimp only [List.cons_append,List.nil_append] at hI ⊢
 obtain ⟨hi,hu⟩:=hI
 refine Qf ?_
 refine Qx ?_;intro c9 h9
 refine Qc ?_
 refine Qb ?_
 obtain ⟨rfl,g9⟩|⟨rfl,g9⟩:=Ze h9
 ·refine Qg ?_
  refine c_exit (x_code (x_lp (x_here ?_)))
  refine Qe ?_
  refine Qo ?_
  refine Qd ?_
  refine out_tmp V V (Le.refl _) by2 ⟨?_,V⟩
  rw [← firstAt_drop x xs i hu,List.drop_eq_nil_of_le by5,firstAt]
 refine Qh ?_
 refine Qp ?_
 refine Ql ?_
 refine Qm ?_
 refine Qi ?_
 refine Qb ?_
 obtain ⟨y,hy⟩:=get_some (l:=xs) (i:=i) by5
 have hcy:=strs_get hy
 refine Qn ?_
 refine Qa ?_
 refine Qa ?_
 refine Zb 14 V V V (op_index V te_30 V (.seq _ _) V V (by assumption) ?_)
 refine Zb 15 V V V (op_load_c1 V ta_9 V V (Zb 16 V V V (op_seql V V V ?_)));intro c16 h16
 refine Qc ?_
 obtain ⟨rfl,g16⟩|⟨rfl,g16⟩:=Ze h16
 ·refine Qg ?_
  refine c_skip ?_
  refine QC ?_
  refine Qr ?_
  refine Qu ?_
  refine Qa ?_
  refine Qk ?_
  refine go_lp ?_
  exact ⟨i+1,⟨by omega,not_mem_take hu hy (fun e=>g16 e.symm)⟩,by simp;omega,by3,by2⟩
 refine Qh ?_
 refine Qm ?_
 refine Qi ?_
 refine Qd ?_
 refine out_tmp V V (Le.refl _) by2 ⟨?_,V⟩
 rw [← firstAt_drop x xs i hu,drop_at hy,firstAt,if_pos g16]
theorem kids_c (t:Ty) (ks:List Ty):PCall Tryz.prog 39 [.agg t.cells,.seq 4 (Ty.cellss ks)] (.agg (Ty.mk t.kind t.name t.num ks).cells):=by
 obtain ⟨k1,s1,n1,ks1⟩:=t
 refine Zj Tryz.func39 V (by kernel_rfl) V (Zn V) ?_
 refine QD ?_
 refine Qz ?_;intro b2
 refine QA ?_;intro b4
 refine Qc ?_
 refine Qf ?_
 refine Qj ?_
 refine QG ?_
 refine Qj ?_
 refine QG ?_
 refine Qj ?_
 refine QG ?_
 refine Qa ?_
 refine Zb 12 V V V (op_build (ns:=[0,1,2,3]) (xs:=[.tmp 6,.tmp 8,.tmp 10,.tmp 11]) V tz_24 V tfl_24 V V V V ?_)
 refine Qv ?_
 refine Qc ?_
 refine Qd ?_
 exact out_cell (i:=0) V V V ta_24 V by1 by2 ⟨V,V⟩
end Go.Proofs.YtlkagbbbhkkogaaGreatDoor
namespace Go.Proofs.YtlkagbbbhkkogaaGreatDoor
open Go.RowKit
theorem count_c (d:Nat):∀ (t:Ty) (most:Int),t.size≤d→1≤most→most≤1000000→PCall Tryz.prog 37 [.agg t.cells,.val (.int .i64 most)] (.val (.int .i64 (t.cnt most))):=by
 induction d with
 | zero=>intro t most hd;have:=Ty.size_pos t;omega
 | succ d ih =>
  rintro ⟨k,s,n,ks⟩ most hd h1 h2
  have hl:=Ty.cellss_len ks
  rw [Ty.size] at hd
  refine Zj Tryz.func37 V (by kernel_rfl) V (Zn V) ?_
  refine c_start ?_
  refine c_lena (t:=0) (j:=3) V V (.seq _ _) (fun hmax=>?_)
  refine Qf ?_
  refine Qz ?_;intro b2
  refine Qi ?_
  refine Qo ?_
  refine Qb ?_
  refine Qb ?_
  refine c_bool 20 (k=1∧(0<ks.length∨n≠0)) ?_ _ _ V ?_
  ·skip
   refine Qj ?_
   refine QO ?_
   refine QU ?_;intro c9 h9
   refine Qa ?_
   obtain ⟨rfl,g9⟩|⟨rfl,g9⟩:=Ze h9
   ·skip
    refine Qt ?_
    refine Qt ?_
    refine QH ?_
    refine AOps.gu 16 V V V V V (AOps.gu 17 V V V V V (AOps.gu 18 V V V V V ?_))
    refine QH ?_
    refine Qs ?_
    refine Qk ?_
    refine BoolQ.mk V ?_ by4 by2
    simp_all
   skip
   refine QE ?_
   refine QK ?_
   refine QW ?_;intro n13
   refine Zm 14 V V V V V (op_gtr V V V ?_);intro c14 h14
   refine QL ?_
   obtain ⟨rfl,g14⟩|⟨rfl,g14⟩:=Ze h14
   ·skip
    refine QE ?_
    refine QK ?_
    refine Zm 18 V V V V V (op_neq V V V ?_);intro c18 h18
    refine Zm 19 V V V V V (op_pick V V V ?_)
    refine Qs ?_
    refine Qk ?_
    refine BoolQ.mk V ?_ by4 by2
    simp_all
   skip
   refine Qt ?_
   refine QH ?_
   refine Zm 19 V V V V V (op_pick V V V ?_)
   refine Qs ?_
   refine Qk ?_
   refine BoolQ.mk V ?_ by4 by2
   simp_all
  intro c20 h20
  refine Qe ?_
  obtain ⟨rfl,g20⟩|⟨rfl,g20⟩:=Ze h20
  ·refine Qg ?_
   refine Qp ?_
   refine Qo ?_
   refine Ql ?_
   refine c_loop (σ:=Nat × Int) (fun zz=>match zz with|(i,m)=>[(2,.ptr b2 0),(1,.val (.int .i64 most)),(5,.val (.int .i64 m)),(6,.val (.int .i64 i))]) (fun zz=>match zz with|(i,m)=>[.loc b2 [.val (.int .i64 k),.val (.string s),.val (.int .i64 n),.seq 4 (Ty.cellss ks)]]) (fun zz=>match zz with|(i,m)=>i≤ks.length∧1≤m∧m≤most∧Ty.cnts (ks.drop i) m most=Ty.cnt (.mk k s n ks) most) (fun zz=>match zz with|(i,m)=>ks.length - i) ((0,1)) ?_ ?_ ?_ ?_
   ·exact ⟨by omega,by omega,h1,by rw [List.drop_zero,Ty.cnt_not (by simpa [Ty.kind,Ty.kids,Ty.num,List.length_pos_iff] using g20)];rfl⟩
   ·exact by3
   ·exact by2
   rintro ⟨i,m⟩ hI
   try dsimp only [List.cons_append,List.nil_append] at hI ⊢
   obtain ⟨hi,m1,m2,hc⟩:=hI
   refine Qb ?_
   refine Qb ?_
   refine c_bool 31 (i<ks.length∧m<most) ?_ _ _ V ?_
   ·skip
    refine Qa ?_
    refine Qj ?_
    refine QO ?_
    refine Qw ?_;intro n25
    refine Qx ?_;intro c26 h26
    refine Qa ?_
    obtain ⟨rfl,g26⟩|⟨rfl,g26⟩:=Ze h26
    ·skip
     refine QB ?_
     refine Qk ?_
     refine BoolQ.mk V ?_ by4 by2
     simp_all;done
    skip
    refine QL ?_
    refine QL ?_
    refine Zm 30 V V V V V (op_lss V V V ?_);intro c30 h30
    refine Qs ?_
    refine Qk ?_
    refine BoolQ.mk V ?_ by4 by2
    simp_all;done
   intro c31 h31
   refine Qe ?_
   obtain ⟨rfl,g31⟩|⟨rfl,g31⟩:=Ze h31
   ·refine Qg ?_
    refine c_exit (x_code (x_lp (x_here ?_)))
    refine Qe ?_
    refine Qm ?_
    refine Qi ?_
    refine Qd ?_
    refine out_tmp V V (Le.refl _) by2 ⟨?_,V⟩
    rw [← hc]
    by_cases e:i<ks.length
    ·obtain ⟨x,hx⟩:=get_some e
     rw [drop_at hx,Ty.cnts,if_neg (fun q=>g31 ⟨e,q⟩)]
    rw [List.drop_eq_nil_of_le by5,Ty.cnts]
   refine Qh ?_
   refine Qp ?_
   refine Ql ?_
   obtain ⟨⟨k',s',n',ks'⟩,hx⟩:=get_some g31.1
   have hcx:=Ty.cellss_get hx
   have hsz:=Ty.size_at hx
   have hb:=Ty.cnt_bd (.mk k' s' n' ks') (most - m) by5
   refine Qn ?_
   refine Qj ?_
   refine QO ?_
   refine Qa ?_
   refine QI ?_
   refine QF ?_
   refine Qa ?_
   refine Qa ?_
   refine Zb 42 V V V (op_sub V V V (IntWalk.i64_in _ by5) ?_)
   refine Zb 43 V V V (op_callp (xs:=[.tmp 39,.tmp 42]) V V (ih (.mk k' s' n' ks') (most - m) by5 by5 by5) by0 ?_)
   refine Qu ?_
   refine Qq ?_
   refine QC ?_
   refine Qn ?_
   refine Qu ?_
   refine Qq ?_
   refine go_lp ?_
   refine ⟨(i+1,m+Ty.cnt (.mk k' s' n' ks') (most - m)),⟨by omega,by omega,by omega,?_⟩,by simp;omega,by3,by2⟩
   rw [← hc,drop_at hx,Ty.cnts,if_pos g31.2]
  refine Qh ?_
  refine Qm ?_
  refine Qi ?_
  refine Qd ?_
  exact out_tmp V V (Le.refl _) by2 ⟨by rw [Ty.cnt_var (by simpa [Ty.kind,Ty.kids,Ty.num,List.length_pos_iff] using g20)],V⟩
theorem Small_c (t:Ty) (most:Int) (h1:0≤most) (h2:most≤100000):BCall Tryz.prog 14 [.agg t.cells,.val (.int .i64 most)] (t.small most=true):=by
 obtain ⟨k,s,n,ks⟩:=t
 have hb:=Ty.cnt_bd (.mk k s n ks) (most+1) by5
 refine Zj Tryz.func14 V (by kernel_rfl) V (Zn V) ?_
 refine QD ?_
 refine Qz ?_;intro b2
 refine Qi ?_
 refine Qf ?_
 refine QR ?_
 refine Qa ?_
 refine Qu ?_
 refine Zb 8 V V V (op_callp (xs:=[.tmp 5,.tmp 7]) V V (count_c _ (.mk k s n ks) (most+1) (Nat.le_refl _) by5 by5) by0 ?_)
 refine Qa ?_
 refine Zb 10 V V V (op_leq V V V ?_);intro c10 h10
 refine Qi ?_
 refine Qd ?_
 exact out_tmp V V (Le.refl _) by2 ⟨⟨_,h10.trans (by simp [Ty.small]),V⟩,V⟩
end Go.Proofs.YtlkagbbbhkkogaaGreatDoor
namespace Go.Proofs.YtlkagbbbhkkogaaGreatDoor
open Go.RowKit
theorem les_eq {cs cs':List AV} (h:cs=cs'):Les cs cs':=by rw [h];exact Les.refl _
abbrev zTy:List AV:=[.val (.int .i64 0),.val (.string ⟨#[]⟩),.val (.int .i64 0),.val (.slice none 0 0)]
theorem none_c (x:Ty) (o:Ty→Option Ty) (ho:o x=none):ACall Tryz.prog 59 [.agg x.cells] [] (fun v M'=>[]=M'∧∃ (y:Ty) (c:Bool),v=.tup [.agg y.cells,.val (.bool c)]∧o x=if c then some y else none):=by
 obtain ⟨k,s,n,ks⟩:=x
 refine Zj Tryz.func59 V (by kernel_rfl) V (Zn V) ?_
 refine QD ?_
 refine Qz ?_;intro b1
 refine QA ?_;intro b2
 refine Qi ?_
 refine Qf ?_
 refine QM ?_
 refine Qv ?_
 refine Qi ?_
 refine Qd ?_
 exact out_ct (i:=0) V V V V ta_24 V by1 by2 ⟨V,.mk k s n ks,false,V,ho⟩
theorem turn_es (o:Ty→Option Ty) (ks:List Ty) (i:Nat) (x:Ty) (hx:ks[i]?=some x) (zc:List AV) :
    (Ty.cellss (Ty.turns o (ks.take i))++List.replicate (ks.length - i) zc).set i (x.turn o).cells=Ty.cellss (Ty.turns o (ks.take (i+1)))++List.replicate (ks.length - (i+1)) zc:=by
 have hi:i<ks.length:=by
  rcases Nat.lt_or_ge i ks.length with k|k
  ·exact k
  rw [List.getElem?_eq_none k] at hx;simp at hx
 have hl:(Ty.cellss (Ty.turns o (ks.take i))).length=i:=by rw [Ty.cellss_len,Ty.turns_len];simp;omega
 rw [List.set_append_right _ _ by5,hl,Nat.sub_self,show ks.length - i=(ks.length - (i+1))+1 from by omega,List.replicate_succ,List.set_cons_zero,take_snoc hx,Ty.turns_snoc,Ty.cellss_app]
 simp [Ty.cellss]
theorem turn_wide (o:Ty→Option Ty) (ks:List Ty) (i:Nat) (zc:List AV) (hz:zc.length=4):∀ e∈Ty.cellss (Ty.turns o (ks.take i))++List.replicate (ks.length - i) zc,e.length=4:=by
 intro e he
 rcases List.mem_append.1 he with q|q
 ·rw [Ty.cellss_map] at q
  obtain ⟨⟨k,s,n,l⟩,_,rfl⟩:=List.mem_map.1 q
  rfl
 rw [List.eq_of_mem_replicate q];exact hz
theorem turn_c (o:Ty→Option Ty) (f:FuncId) (fs cs:List AV) (Mc:Mem)
    (hf:∀ x,ACall Tryz.prog f (fs++[.agg (Ty.cells x)]++cs) Mc (fun v M'=>Mc=M'∧∃ (y:Ty) (c:Bool),v=.tup [.agg y.cells,.val (.bool c)]∧o x=if c then some y else none)) (d:Nat) :
    ∀ t:Ty,t.size≤d→t.size≤1000000→ACall Tryz.prog 57 [.agg t.cells,.clo (.func f) fs cs] Mc (fun v M'=>v=.agg (t.turn o).cells∧Mc=M'):=by
 induction d with
 | zero=>intro t hd;have:=Ty.size_pos t;omega
 | succ d ih =>
  rintro ⟨k,s,n,ks⟩ hd hmx
  have hl:=Ty.cellss_len ks
  have hls:=Ty.len_sizes ks
  rw [Ty.size] at hd hmx
  refine Zj Tryz.func57 V (by kernel_rfl) V (Zn V) ?_
  refine QD ?_
  refine Qz ?_;intro b2
  refine QA ?_;intro b4
  refine Qc ?_
  refine Qb ?_
  refine Qm ?_
  refine QM ?_
  refine Zb 13 V V V (op_callvm (xs:=[.tmp 12])  [.loc b4 _,.loc b2 _] V V V V (hf (.mk k s n ks)) (Les.refl _) (fun v13 M13 h13=>?_))
  obtain ⟨rfl,⟨yk,ys,yn,yks⟩,c15,rfl,hc⟩:=h13
  refine Qa ?_
  refine Zb 14 V V V (op_extract V V V (Zb 15 V V V (op_extract V V V ?_)))
  refine QA ?_;intro b5
  refine Qv ?_
  refine Qi ?_
  refine Qm ?_
  refine Qc ?_
  rcases c15 with _|_
  ·refine Qg ?_
   refine c_skip ?_
   refine Qe ?_
   refine Qf ?_
   refine Qj ?_
   refine QJ ?_
   refine Qw ?_;intro n20
   refine Zb 21 V V V (op_makeSlice el_22 V V V by5 V ?_);intro b21
   refine Qi ?_
   refine Qb ?_
   refine Qf ?_
   refine Qj ?_
   refine Zb 23 V V V (op_load_m1 (i:=3) V ta_22 V V V ?_)
   refine Qw ?_;intro n24
   refine Qa ?_
   refine Qc ?_
   refine Ql ?_
   rw [hl]
   refine c_loop (σ:=Nat) (fun zz=>match zz with|i=>[(1,.clo (.func f) fs cs),(2,.ptr b2 0),(4,.ptr b4 0),(7,.arr b21 0 ks.length ks.length),(23,.seq 4 (Ty.cellss ks)),(24,.val (.int .i64 ks.length)),(25,.val (.int .i64 i))]) (fun zz=>match zz with|i=>.loc b21 (Ty.cellss (Ty.turns o (ks.take i))++List.replicate (ks.length - i) zTy).flatten::.loc b5 (Ty.cells (.mk yk ys yn yks))::.loc b4 zTy::.loc b2 (Ty.cells (.mk k s n ks))::Mc) (fun zz=>match zz with|i=>i≤ks.length) (fun zz=>match zz with|i=>ks.length - i) (0) ?_ ?_ ?_ ?_
   ·simp
   ·exact by3
   ·exact by2
   rintro i hI
   try dsimp only [List.cons_append,List.nil_append] at hI ⊢
   refine Qf ?_
   refine Qx ?_;intro c26 h26
   refine Qc ?_
   refine Qb ?_
   obtain ⟨rfl,g26⟩|⟨rfl,g26⟩:=Ze h26
   ·refine Qg ?_
    refine c_exit (x_code (x_lp (x_here ?_)))
    refine Qe ?_
    refine Qb ?_
    have hw:=turn_wide o ks ks.length zTy rfl
    obtain rfl:i=ks.length:=by omega
    simp only [List.take_length,Nat.sub_self,List.replicate_zero,List.append_nil] at hw ⊢
    refine c_freeze (i:=0) (al':=[(2,.ptr b2 0),(4,.ptr b4 0),(7,.seq 4 (Ty.cellss (Ty.turns o ks)))]) V V hw (by rw [Ty.cellss_len,Ty.turns_len]) by5 (Frz.cons V (Le.refl _) (Frz.cons V (Le.refl _) (Frz.arr V Frz.nil))) ?_
    refine Qn ?_
    refine Qj ?_
    refine AOps.st0 V V (op_store (cs':=[_,_,_,_]) (i:=2) V ts_22 V V V V V (Zn V) V ?_)
    refine Qc ?_
    refine Qf ?_
    refine QX ?_
    refine QS ?_
    refine Qc ?_
    refine Qd ?_
    rw [Ty.turn_none (by simpa using hc)]
    exact out_cell (i:=1) V V V ta_24 V by1 (MLe.drop _ (MLe.drop _ (MLe.drop _ (MLe.refl _)))) ⟨V,V⟩
   refine Qh ?_
   refine Qp ?_
   refine Ql ?_
   refine Qb ?_
   obtain ⟨⟨k',s',n',ks'⟩,hx⟩:=get_some (l:=ks) (i:=i) by5
   have hcx:=Ty.cellss_get hx
   have hsz:=Ty.size_at hx
   have H:=ih (.mk k' s' n' ks') by5 by5
   have he:=turn_es o ks i _ hx zTy
   have hw:=turn_wide o ks i zTy rfl
   have hln:(Ty.cellss (Ty.turns o (ks.take i))++List.replicate (ks.length - i) zTy).length=ks.length:=by rw [List.length_append,Ty.cellss_len,Ty.turns_len];simp;omega
   generalize Ty.turn o _=r at H he
   obtain ⟨rk,rs,rn,rks⟩:=r
   refine Qn ?_
   refine QI ?_
   refine QF ?_
   refine QA ?_;intro b9
   refine QT ?_
   refine Qv ?_
   refine Qc ?_
   refine Qn ?_
   refine Qa ?_
   refine QR ?_
   refine Qa ?_
   refine Zb 34 V V V (op_callm (xs:=[.tmp 32,.tmp 33])  [.loc b9 _,.loc b21 _,.loc b5 _,.loc b4 _,.loc b2 _] V V V H (Les.refl _) (fun v34 M34 h34=>?_))
   obtain ⟨rfl,rfl⟩:=h34
   refine Zb 35 V V V (op_index_arr V te_22 V V V by5 ?_)
   refine AOps.st0 V V (op_store_row (k:=1) V ts_24 V V V V V (hw) (by5) ?_)
   refine Qk ?_
   refine QC ?_
   refine Qr ?_
   refine Qu ?_
   refine Qa ?_
   refine Qk ?_
   refine go_lp ?_
   refine ⟨i+1,by simp;omega,by simp;omega,by3,?_⟩
   exact MLe.drop _ (MLe.loc _ (les_eq (congrArg List.flatten he)) (MLe.refl _))
  refine Qh ?_
  refine Qf ?_
  refine QR ?_
  refine QS ?_
  refine Qc ?_
  refine Qd ?_
  rw [Ty.turn_some (by simpa using hc)]
  exact out_cell (i:=1) V V V ta_24 V by1 (MLe.drop _ (MLe.drop _ (MLe.drop _ (MLe.refl _)))) ⟨V,V⟩
theorem copy_c (t:Ty) (hmx:t.size≤1000000):PCall Tryz.prog 57 [.agg t.cells,.clo (.func 59) [] []] (.agg t.cells):=by
 have:=turn_c (fun _=>none) 59 [] [] [] (fun x=>none_c x (fun _=>none) rfl) t.size t (Nat.le_refl _) hmx
 rw [Ty.turn_id] at this
 exact this.mono (fun v M' ⟨h1,h2⟩=>⟨h1,h2.symm⟩)
theorem PutF_c (names:List ByteArray) (ts:List Ty) (b3 b4:Nat) (hts:∀ t∈ts,t.size≤1000000) (x:Ty):ACall Tryz.prog 58 [.agg x.cells,.ptr b3 0,.ptr b4 0] [.loc b3 [.seq 1 (strs names)],.loc b4 [.seq 4 (Ty.cellss ts)]] (fun v M'=>[.loc b3 [.seq 1 (strs names)],.loc b4 [.seq 4 (Ty.cellss ts)]]=M'∧∃ (y:Ty) (c:Bool),v=.tup [.agg y.cells,.val (.bool c)]∧putO names ts x=if c then some y else none):=by
 obtain ⟨k,s,n,ks⟩:=x
 have hl:=Ty.cellss_len ts
 have hfl:=firstAt_lt s names 0
 refine Zj Tryz.func58 V (by kernel_rfl) V (Zn V) ?_
 refine QD ?_
 refine Qz ?_;intro b3
 refine QA ?_;intro b4
 refine Qi ?_
 refine Qb ?_
 refine Qf ?_
 refine Qj ?_
 refine QG ?_
 refine Zb 9 V V V (op_neq V V V ?_);intro c9 h9
 refine Qc ?_
 obtain ⟨rfl,g9⟩|⟨rfl,g9⟩:=Ze h9
 ·refine Qg ?_
  refine c_skip ?_
  refine Qe ?_
  refine Qf ?_
  refine QJ ?_
  refine Qj ?_
  refine QG ?_
  refine Zb 14 V V V (op_callp (xs:=[.tmp 11,.tmp 13]) V V (IndexS_c names s) by0 ?_)
  refine Qi ?_
  refine Qb ?_
  refine Qb ?_
  refine c_bool 22 (firstAt s names 0<0∨(ts.length:Int)≤firstAt s names 0) ?_ _ _ V ?_
  ·skip
   refine Qa ?_
   refine Qx ?_;intro c16 h16
   refine Qa ?_
   obtain ⟨rfl,g16⟩|⟨rfl,g16⟩:=Ze h16
   ·skip
    refine QL ?_
    refine Zm 19 V V V V V (op_load_m1 (i:=3) V ta_22 V V V ?_)
    refine QW ?_;intro n20
    refine Zm 21 V V V V V (op_geq V V V ?_);intro c21 h21
    refine Qs ?_
    refine Qk ?_
    refine BoolQ.mk V ?_ by4 by2
    simp_all;omega
   skip
   refine Qt ?_
   refine Qt ?_
   refine Qs ?_
   refine Qk ?_
   refine BoolQ.mk V ?_ by4 by2
   simp_all;done
  intro c22 h22
  refine Qe ?_
  obtain ⟨rfl,g22⟩|⟨rfl,g22⟩:=Ze h22
  ·refine Qg ?_
   refine Qp ?_
   obtain ⟨j,hj⟩:∃ j:Nat,firstAt s names 0=j:=⟨(firstAt s names 0).toNat,by omega⟩
   obtain ⟨⟨yk,ys,yn,yks⟩,hy⟩:=get_some (l:=ts) (i:=j) by5
   have hcy:=Ty.cellss_get hy
   rw [hj]
   obtain rfl:k=1:=by simpa using g9
   refine Qr ?_
   refine Zb 24 V V V (op_load_m1 (i:=3) V ta_22 V V V ?_)
   refine Qa ?_
   refine QI ?_
   refine QF ?_
   refine Zb 28 V V V (op_callp (xs:=[.tmp 27,.func 59]) V V (copy_c (.mk yk ys yn yks) (hts _ (List.mem_of_getElem? hy))) by0 ?_)
   refine Qv ?_
   refine Qi ?_
   refine Qd ?_
   exact out_ct (i:=0) V V V V ta_24 V by1 (MLe.drop _ (MLe.drop _ (MLe.refl _))) ⟨V,.mk yk ys yn yks,true,V,by rw [putO_in hj,hy];rfl⟩
  refine Qh ?_
  refine Qf ?_
  refine QM ?_
  refine Qv ?_
  refine Qi ?_
  refine Qd ?_
  exact out_ct (i:=0) rfl rfl rfl rfl ta_24 rfl by1 (MLe.drop _ (MLe.drop _ (MLe.refl _))) ⟨rfl,.mk k s n ks,false,rfl,by rcases g22 with q|q;exact putO_out q;exact putO_big q⟩
 refine Qh ?_
 refine Qf ?_
 refine QM ?_
 refine Qv ?_
 refine Qi ?_
 refine Qd ?_
 exact out_ct (i:=0) V V V V ta_24 V by1 (MLe.drop _ (MLe.drop _ (MLe.refl _))) ⟨V,.mk k s n ks,false,V,putO_not g9⟩
theorem Put_c (names:List ByteArray) (ts:List Ty) (t:Ty) (hts:∀ t∈ts,t.size≤1000000) (hmx:t.size≤1000000):PCall Tryz.prog 38 [.seq 1 (strs names),.seq 4 (Ty.cellss ts),.agg t.cells] (.agg (t.turn (putO names ts)).cells):=by
 have W:=fun (b3 b4:Nat)=>turn_c (putO names ts) 58 [] [.ptr b3 0,.ptr b4 0] [.loc b3 [.seq 1 (strs names)],.loc b4 [.seq 4 (Ty.cellss ts)]] (fun x=>PutF_c names ts b3 b4 hts x) t.size t (Nat.le_refl _) hmx
 generalize Ty.turn _ t=r at W ⊢
 obtain ⟨rk,rs,rn,rks⟩:=r
 obtain ⟨k,s,n,ks⟩:=t
 refine Zj Tryz.func38 V (by kernel_rfl) V (Zn V) ?_
 refine QD ?_
 refine Zb 3 V V V (op_boxe (cs':=[_]) V V V V ?_);intro b3
 refine Zb 4 V V V (op_boxe (cs':=[_]) V V V V ?_);intro b4
 refine Qz ?_;intro b5
 refine QA ?_;intro b6
 refine Qc ?_
 refine Qb ?_
 refine c_mem (M':=[.loc b6 zTy,.loc b5 _,.loc b3 [.seq 1 (strs names)],.loc b4 [.seq 4 (Ty.cellss ts)]]) (MImp.cons _ (MImp.cons _ (MImp.swap _ _ _))) ?_
 refine Qr ?_
 refine QM ?_
 refine Zb 8 V V V (op_makeFunc (fs:=[]) (cs:=[.tmp 3,.tmp 4]) V V V ?_)
 refine Zb 9 V V V (op_callm (xs:=[.tmp 7,.tmp 8])  [.loc b6 _,.loc b5 _] V V V (W b3 b4) (Les.refl _) (fun v9 M9 h9=>?_))
 obtain ⟨rfl,rfl⟩:=h9
 refine Qv ?_
 refine Qc ?_
 refine Qd ?_
 exact out_cell (i:=0) V V V ta_24 V by1 by2 ⟨V,V⟩
theorem rPut_c (names:List ByteArray) (hnm:names.length≤1000000) (ts:List Ty) (d:Nat):∀ t:Ty,t.size≤d→t.size≤1000000→PCall Tryz.prog 17 [.seq 1 (strs names),.seq 4 (Ty.cellss ts),.agg t.cells] (.agg (t.turn (putO names ts)).cells):=by
 induction d with
 | zero=>intro t hd;have:=Ty.size_pos t;omega
 | succ d ih =>
  rintro ⟨k,s,n,ks⟩ hd hmx
  have hl:=Ty.cellss_len ks
  have hlt:=Ty.cellss_len ts
  have hln:=strs_len names
  have hls:=Ty.len_sizes ks
  rw [Ty.size] at hd hmx
  refine Zj Tryz.func17 V (by kernel_rfl) V (Zn V) ?_
  refine c_start ?_
  refine c_lens (t:=0) V (.seq _ _) (fun hmax=>?_)
  refine c_lens (t:=1) V (.seq _ _) (fun hmax1=>?_)
  refine Qf ?_
  refine Qz ?_;intro b5
  refine QA ?_;intro b6
  refine Qc ?_
  refine Qb ?_
  refine Qf ?_
  refine Qj ?_
  refine QG ?_
  refine QU ?_;intro c12 h12
  refine Qc ?_
  obtain ⟨rfl,g12⟩|⟨rfl,g12⟩:=Ze h12
  ·refine Qg ?_
   refine Qp ?_
   have hN:putO names ts (.mk k s n ks)=none:=by
    first
     | exact putO_not g12
     | exact hu.elim (fun h=>putO_out (by have h2:=h.2;rw [List.take_of_length_le by5] at h2;rw [firstAt_out h2];omega)) (fun h=>h.2)
   refine Qr ?_
   refine Qi ?_
   refine Qb ?_
   refine Qo ?_
   refine Ql ?_
   refine ACode.ownNil (t:=8) 24 4 V ?_
   refine c_loop (σ:=Nat × Value) (fun zz=>match zz with|(i,u)=>[(0,.seq 1 (strs names)),(1,.seq 4 (Ty.cellss ts)),(5,.ptr b5 0),(6,.ptr b6 0),(8,.own u 4 (Ty.cellss (Ty.turns (putO names ts) (ks.take i)))),(9,.val (.int .i64 i))]) (fun zz=>match zz with|(i,u)=>[.own 24 4 u,.loc b6 zTy,.loc b5 (Ty.cells (.mk k s n ks))]) (fun zz=>match zz with|(i,u)=>i≤ks.length) (fun zz=>match zz with|(i,u)=>ks.length - i) ((0,.slice none 0 0)) ?_ ?_ ?_ ?_
   ·simp
   ·exact by3
   ·exact by2
   rintro ⟨i,u⟩ hI
   try dsimp only [List.cons_append,List.nil_append] at hI ⊢
   refine Qb ?_
   refine Qm ?_
   refine Qj ?_
   refine QJ ?_
   refine Qw ?_;intro n39
   refine Qx ?_;intro c40 h40
   refine Qc ?_
   obtain ⟨rfl,g40⟩|⟨rfl,g40⟩:=Ze h40
   ·refine Qg ?_
    refine c_exit (x_code (x_lp (x_here ?_)))
    refine Qe ?_
    refine Qb ?_
    rw [List.take_of_length_le by5]
    refine Qr ?_
    refine QX ?_
    refine Qa ?_
    refine Zb 56 V V V (op_callp (xs:=[.tmp 54,.tmp 55]) V V (kids_c (.mk k s n ks) (Ty.turns (putO names ts) ks)) by0 ?_)
    refine QS ?_
    refine Qc ?_
    refine Qd ?_
    rw [Ty.turn_none hN]
    exact out_cell (i:=1) V V V ta_24 V by1 by2 ⟨V,V⟩
   refine Qh ?_
   refine Qp ?_
   refine Ql ?_
   obtain ⟨⟨k',s',n',ks'⟩,hx⟩:=get_some (l:=ks) (i:=i) by5
   have hcx:=Ty.cellss_get hx
   have hsz:=Ty.size_at hx
   have H:=ih (.mk k' s' n' ks') by5 by5
   have he:Ty.cellss (Ty.turns (putO names ts) (ks.take (i+1)))=Ty.cellss (Ty.turns (putO names ts) (ks.take i))++[(Ty.turn (putO names ts) (.mk k' s' n' ks')).cells]:=by rw [take_snoc hx,Ty.turns_snoc,Ty.cellss_app];rfl
   generalize Ty.turn (putO names ts) (.mk k' s' n' ks')=r at H he
   obtain ⟨rk,rs,rn,rks⟩:=r
   refine Qn ?_
   refine Qa ?_
   refine Qa ?_
   refine Qj ?_
   refine QJ ?_
   refine Qa ?_
   refine QI ?_
   refine QF ?_
   refine Zb 51 V V V (op_callp (xs:=[.tmp 44,.tmp 45,.tmp 50]) V V (H) by0 ?_)
   refine QZ ?_
   refine Q0 ?_
   intro u53
   refine Qq ?_
   refine QC ?_
   refine Qn ?_
   refine Qu ?_
   refine Qq ?_
   refine go_lp ?_
   exact ⟨(i+1,u53),by simp;omega,by simp;omega,(by repeat' (first|exact SLe.nil _|refine SLe.cons V ?_ ?_|exact Le.refl _|exact Le.own _ _ _|exact Le.nil _|(refine Le.own_eq ?_;(rw [he];rfl))|(refine Le.own_seq ?_;(rw [he];rfl))|(refine Le.seq_eq ?_;(rw [he];rfl)))),by2⟩
  refine Qh ?_
  refine Qo ?_
  refine Ql ?_
  refine c_loop (σ:=Nat) (fun zz=>match zz with|i=>[(0,.seq 1 (strs names)),(1,.seq 4 (Ty.cellss ts)),(5,.ptr b5 0),(6,.ptr b6 0),(7,.val (.int .i64 i))]) (fun zz=>match zz with|i=>[.loc b6 zTy,.loc b5 (Ty.cells (.mk k s n ks))]) (fun zz=>match zz with|i=>i≤names.length+1∧(i≤names.length∧s∉names.take i∨i=names.length+1∧putO names ts (.mk k s n ks)=none)) (fun zz=>match zz with|i=>names.length+1 - i) (0) ?_ ?_ ?_ ?_
  ·exact ⟨by omega,Or.inl ⟨by omega,by simp⟩⟩
  ·exact by3
  ·exact by2
  rintro i hI
  try dsimp only [List.cons_append,List.nil_append] at hI ⊢
  obtain ⟨hi,hu⟩:=hI
  refine Qb ?_
  refine Qm ?_
  refine Qa ?_
  refine QP ?_;intro n15
  refine Qx ?_;intro c16 h16
  refine Qc ?_
  obtain ⟨rfl,g16⟩|⟨rfl,g16⟩:=Ze h16
  ·refine Qg ?_
   refine c_exit (x_code (x_lp (x_here ?_)))
   refine Qe ?_
   refine Qb ?_
   have hN:putO names ts (.mk k s n ks)=none:=by
    first
     | exact putO_not g12
     | exact hu.elim (fun h=>putO_out (by have h2:=h.2;rw [List.take_of_length_le by5] at h2;rw [firstAt_out h2];omega)) (fun h=>h.2)
   refine Qr ?_
   refine Qi ?_
   refine Qb ?_
   refine Qo ?_
   refine Ql ?_
   refine ACode.ownNil (t:=8) 24 4 V ?_
   refine c_loop (σ:=Nat × Value) (fun zz=>match zz with|(i,u)=>[(0,.seq 1 (strs names)),(1,.seq 4 (Ty.cellss ts)),(5,.ptr b5 0),(6,.ptr b6 0),(8,.own u 4 (Ty.cellss (Ty.turns (putO names ts) (ks.take i)))),(9,.val (.int .i64 i))]) (fun zz=>match zz with|(i,u)=>[.own 24 4 u,.loc b6 zTy,.loc b5 (Ty.cells (.mk k s n ks))]) (fun zz=>match zz with|(i,u)=>i≤ks.length) (fun zz=>match zz with|(i,u)=>ks.length - i) ((0,.slice none 0 0)) ?_ ?_ ?_ ?_
   ·simp
   ·exact by3
   ·exact by2
   rintro ⟨i,u⟩ hI
   try dsimp only [List.cons_append,List.nil_append] at hI ⊢
   refine Qb ?_
   refine Qm ?_
   refine Qj ?_
   refine QJ ?_
   refine Qw ?_;intro n39
   refine Qx ?_;intro c40 h40
   refine Qc ?_
   obtain ⟨rfl,g40⟩|⟨rfl,g40⟩:=Ze h40
   ·refine Qg ?_
    refine c_exit (x_code (x_lp (x_here ?_)))
    refine Qe ?_
    refine Qb ?_
    rw [List.take_of_length_le by5]
    refine Qr ?_
    refine QX ?_
    refine Qa ?_
    refine Zb 56 V V V (op_callp (xs:=[.tmp 54,.tmp 55]) V V (kids_c (.mk k s n ks) (Ty.turns (putO names ts) ks)) by0 ?_)
    refine QS ?_
    refine Qc ?_
    refine Qd ?_
    rw [Ty.turn_none hN]
    exact out_cell (i:=1) V V V ta_24 V by1 by2 ⟨V,V⟩
   refine Qh ?_
   refine Qp ?_
   refine Ql ?_
   obtain ⟨⟨k',s',n',ks'⟩,hx⟩:=get_some (l:=ks) (i:=i) by5
   have hcx:=Ty.cellss_get hx
   have hsz:=Ty.size_at hx
   have H:=ih (.mk k' s' n' ks') by5 by5
   have he:Ty.cellss (Ty.turns (putO names ts) (ks.take (i+1)))=Ty.cellss (Ty.turns (putO names ts) (ks.take i))++[(Ty.turn (putO names ts) (.mk k' s' n' ks')).cells]:=by rw [take_snoc hx,Ty.turns_snoc,Ty.cellss_app];rfl
   generalize Ty.turn (putO names ts) (.mk k' s' n' ks')=r at H he
   obtain ⟨rk,rs,rn,rks⟩:=r
   refine Qn ?_
   refine Qa ?_
   refine Qa ?_
   refine Qj ?_
   refine QJ ?_
   refine Qa ?_
   refine QI ?_
   refine QF ?_
   refine Zb 51 V V V (op_callp (xs:=[.tmp 44,.tmp 45,.tmp 50]) V V (H) by0 ?_)
   refine QZ ?_
   refine Q0 ?_
   intro u53
   refine Qq ?_
   refine QC ?_
   refine Qn ?_
   refine Qu ?_
   refine Qq ?_
   refine go_lp ?_
   exact ⟨(i+1,u53),by simp;omega,by simp;omega,(by repeat' (first|exact SLe.nil _|refine SLe.cons V ?_ ?_|exact Le.refl _|exact Le.own _ _ _|exact Le.nil _|(refine Le.own_eq ?_;(rw [he];rfl))|(refine Le.own_seq ?_;(rw [he];rfl))|(refine Le.seq_eq ?_;(rw [he];rfl)))),by2⟩
  refine Qh ?_
  refine Qp ?_
  refine Ql ?_
  refine Qb ?_
  obtain ⟨y,hy⟩:=get_some (l:=names) (i:=i) by5
  have hcy:=strs_get hy
  refine c_drawn tmix V ?_
  refine Qy ?_
  refine Qy ?_
  refine DOps.st 21 V V (op_index V te_30 V (.seq _ _) V V (by assumption) ⟨V,V⟩) ?_
  refine DOps.st 22 V V (op_load_c1 V ta_9 V V ⟨V,V⟩) ?_
  refine DOps.st 23 V V (op_fieldAddr_m V tf_24_1 V ⟨V,V⟩) ?_
  refine DOps.st 24 V V (op_load_m1 (i:=1) V ta_9 V V V ⟨V,V⟩) ?_
  refine DOps.cm 25 V V (fun _ q=>op_seql V V V q) ?_;intro c25 h25
  show AGo _ _ _ _ _ _ _
  refine Qe ?_
  obtain ⟨rfl,g25⟩|⟨rfl,g25⟩:=Ze h25
  ·refine Qg ?_
   refine c_skip ?_
   refine QC ?_
   refine Qn ?_
   refine Qu ?_
   refine Qq ?_
   refine go_lp ?_
   first|(rw [hln];exact ⟨names.length+1,⟨by omega,Or.inr ⟨rfl,hB⟩⟩,by simp;omega,by3,by2⟩)|exact ⟨i+1,⟨by omega,by rcases hu with ⟨_,hu⟩|hu;exact Or.inl ⟨by omega,not_mem_take hu hy g25⟩;omega⟩,by simp;omega,by3,by2⟩
  refine Qh ?_
  refine Qb ?_
  refine Qm ?_
  refine Qa ?_
  refine Qw ?_;intro n28
  refine Qx ?_;intro c29 h29
  refine Qc ?_
  obtain ⟨rfl,g29⟩|⟨rfl,g29⟩:=Ze h29
  ·refine Qg ?_
   refine c_skip ?_
   refine Qe ?_
   obtain ⟨_,hu⟩:i≤names.length∧s∉names.take i:=by rcases hu with hu|hu;exact hu;omega
   have hB:putO names ts (.mk k s n ks)=none:=putO_big (by rw [firstAt_at hu (by rw [hy,g25])];omega)
   refine Qn ?_
   refine QP ?_;intro n35
   refine Qq ?_
   refine QC ?_
   refine Qn ?_
   refine Qu ?_
   refine Qq ?_
   refine go_lp ?_
   first|(rw [hln];exact ⟨names.length+1,⟨by omega,Or.inr ⟨rfl,hB⟩⟩,by simp;omega,by3,by2⟩)|exact ⟨i+1,⟨by omega,by rcases hu with ⟨_,hu⟩|hu;exact Or.inl ⟨by omega,not_mem_take hu hy g25⟩;omega⟩,by simp;omega,by3,by2⟩
  refine Qh ?_
  refine Qb ?_
  obtain ⟨⟨yk,ys,yn,yks⟩,hz⟩:=get_some (l:=ts) (i:=i) by5
  have hcz:=Ty.cellss_get hz
  refine Qn ?_
  refine Qa ?_
  refine QI ?_
  refine QF ?_
  refine Qv ?_
  refine Qc ?_
  refine Qd ?_
  obtain ⟨_,hu⟩:i≤names.length∧s∉names.take i:=by rcases hu with hu|hu;exact hu;omega
  have hR:Ty.turn (putO names ts) (.mk k s n ks)=.mk yk ys yn yks:=by
   refine Ty.turn_some ?_
   rw [g12,putO_in (firstAt_at hu (by rw [hy,g25])),hz]
  rw [hR]
  exact out_cell (i:=0) V V V ta_24 V by1 by2 ⟨V,V⟩
end Go.Proofs.YtlkagbbbhkkogaaGreatDoor
