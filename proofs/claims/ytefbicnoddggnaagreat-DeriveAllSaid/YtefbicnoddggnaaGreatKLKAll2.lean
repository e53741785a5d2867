/- Parts of a proof: short words; The frame of a law's row: if the call returns true and nothing below the heap's old size has turned, the row's post holds, whatever the arguments' types.; Arguments as trees: what a reading of an argument says, in the words of the logic; and how a law's call ends.; Arguments as trees, with bounds: no slice and no text is longer than L, and the whole is no greater than the bulk of the reading.; Arguments that are one cell.; More rules: a rune as a text; a part of a text; contracts of the model's own kind; bools that are known.; Types as plain data: a kind, a name, a number, and kids; their size, their sameness, and the count that the statements bound them by.; Types as plain data, on: what a type takes and answers, its parts in order, its variables and metas.; Types as plain data, on: types with others in places that are told.; Facts of the seat's types, one by one, by evaluation.; steps that stand often; Arguments of the layers' types, opened: types, texts, substitutions.; Patterns and expressions as plain data: their cells, their parts, their sameness but for places.; Names of patterns, free names of expressions, as plain functions.; How much an expression has, as cognatelaw05.Count counts it.; Declarations as plain data (printed by wip/gend.py).; The arguments of the statements of layer 18.; Plain arithmetic of 63-bit integers: what the functions of layer 1 compute, over Int, with no program in sight.; Plain arithmetic of words: what the functions of layer 2 compute.; Plain: bytes packed into words, eight a word, the first byte lowest.; Plain: words unpacked into bytes; when packing gives the words back.; the document's lexer as plain functions; the document's parser: the state and its small steps, as plain functions; Plain: the levels of operators.; the document's parser as plain functions; texts made of pieces with a blank between: what the lexer makes of them; derived expressions: their tokens, and what the parser makes of these; derived expressions, parsed; derived expressions, parsed whole; Plain: the digits of a number, as int63.Text lays them from the end of an array.; derived expressions: as trees of tokens, and as the document's text; the document's text of derived instances, and the expressions that it spells; the document's text of Ord and Show, and of a whole instance; derived expressions are fit to be parsed; the document's text of an instance, parsed; the numbers of arguments; names of constructors; the data types that the law asks of; Walks of layer 1: int63.Wrap, Fits, Add, Sub, Mul, Quo, Rem, Cmp and the reference's Mod, Mean, Wrap, Add, Sub, Mul, size, Signed, Quo.; int63.Text; Letter of the program -/
import Derived.Test.YtefbicnoddggnaaGreatKLKAll1
import Derived.ProofKit
import Derived.SizedLaws
import Derived.OpenShut
import Derived.ChangeArms
import Derived.Test.YtefbicnoddggnaaGreatRows
import Derived.Test.YtefbicnoddggnaaGreatProg
import Derived.RowKit
import Derived.Laws.Bits64
import Derived.Laws.BitsAllLaws
import Derived.Laws.BytesArg
import Derived.WideShapes
import Derived.WalkKit
import Derived.WalkSpells
import Derived.WalkLawsBesides
import Derived.Lib.Hide
set_option maxRecDepth 100000
set_option maxHeartbeats 4000000
namespace Go.Proofs.YtefbicnoddggnaaGreat
open Go.RowKit
theorem Y {α:Sort _} {a:α}:a=a:=rfl
abbrev Xr := @List.drop_of_length_le
abbrev Xq := @List.mem_of_getElem?
abbrev Xp := @Drops.nil
abbrev Xo := @Drops.skip
abbrev Xn := @Drops.keep
abbrev Xm := @Nat.le_of_ble_eq_true
abbrev Xl := @Le.own_eq
abbrev Xk := @BoolQ.mk
abbrev Xj := @SLe.cons
abbrev Xi := @Les.cons
abbrev Xh := @Les.refl
abbrev Xg := @Le.refl
abbrev Xf := @MLe.of_eq
abbrev Xe := @MLe.loc
abbrev Xd := @MLe.drop
abbrev Xc := @MLe.cons
abbrev Xb := @MLe.none
theorem by0 {p:Prop} (h:p:=by repeat' (first|exact MLe.refl _|refine MLe.loc _ (by repeat' (first|exact Le.refl _|exact Le.own _ _ _|exact Le.nil _|refine Le.agg ?_|refine Le.tup ?_|exact Les.refl _|refine Les.cons ?_ ?_|refine Le.seq ?_|exact Less.refl _|exact Less.nil|refine Less.cons ?_ rfl ?_)) ?_|refine MLe.drop _ ?_)):p:=h
theorem by1 {p:Prop} (h:p:=by repeat' (first|exact MLe.none _|refine MLe.loc _ (by repeat' (first|exact Le.refl _|exact Le.own _ _ _|exact Le.nil _|refine Le.agg ?_|refine Le.tup ?_|exact Les.refl _|refine Les.cons ?_ ?_|refine Le.seq ?_|exact Less.refl _|exact Less.nil|refine Less.cons ?_ rfl ?_)) ?_|refine MLe.drop _ ?_)):p:=h
theorem by2 {p:Prop} (h:p:=by repeat' (first|exact Le.refl _|exact Le.own _ _ _|exact Le.nil _|refine Le.agg ?_|refine Le.tup ?_|exact Les.refl _|refine Les.cons ?_ ?_|refine Le.seq ?_|exact Less.refl _|exact Less.nil|refine Less.cons ?_ rfl ?_)):p:=h
theorem by3 {p:Prop} (h:p:=by first|exact Les.refl _|(repeat' (first|exact Les.refl _|refine Les.cons ?_ ?_|exact Le.refl _|exact Le.own _ _ _|exact Le.nil _|refine Le.agg ?_))):p:=h
theorem by4 {p:Prop} (h:p:=by repeat' (first|exact Le.refl _|exact Le.own _ _ _|exact Le.nil _|refine Le.agg ?_|refine Le.tup ?_|exact Les.refl _|refine Les.cons ?_ ?_)):p:=h
theorem by5 {p:Prop} (h:p:=by first|exact MLe.none _|exact MLe.refl _|(repeat' (first|exact MLe.nil|exact MLe.refl _|refine MLe.cons _ ?_|refine MLe.drop _ ?_))):p:=h
theorem by6 {p:Prop} (h:p:=by repeat' (first|exact SLe.nil _|refine SLe.cons rfl ?_ ?_|exact Le.refl _|exact Le.own _ _ _|exact Le.nil _)):p:=h
theorem by7 {p:Prop} (h:p:=by repeat' (first|exact SLe.wo _ _|exact SLe.refl _|refine SLe.fresh rfl ?_)):p:=h
theorem by8 {p:Prop} (h:p:=by first|(simp;done)|(simp;omega)|omega):p:=h
theorem by9 {p:Prop} (h:p:=by first|omega|(simp at *;omega)):p:=h
theorem by10 {p:Prop} (h:p:=by simp [bts,zi,AV.cells]):p:=h
theorem by11 {p:Prop} (h:p:=by rw [Bi.cellss_app'];rfl):p:=h
theorem by12 {p:Prop} (h:p:=by first|rfl|omega):p:=h
theorem by13 {p:Prop} (h:p:=by clear hO;omega):p:=h
theorem by14 {p:Prop} (h:p:=by decide +kernel):p:=h
theorem by15 {p:Prop} (h:p:=by simp;omega):p:=h
theorem by16 {p:Prop} (h:p:=by assumption):p:=h
theorem by17 {p:Prop} (h:p:=by decide):p:=h
theorem by18 {p:Prop} (h:p:=by omega):p:=h
theorem by19 {p:Prop} (h:p:=by simp):p:=h
end Go.Proofs.YtefbicnoddggnaaGreat
namespace Go.Proofs.YtefbicnoddggnaaGreat
open Go.ChangeShapes Go.WideShapes Go.ChangeAt Go.RowKit
section
variable {H:Type} {enc:TypeId × Value→H} {P:Program}
theorem trodAll_below (hl:laidOutB P=true) {W W':World} (hb:Below W.heap.size W W') :
    ∀ {ts:List TypeId} {vs:List Value} {ds:List (DataW H)} {ps:List MemPlace},
     (∀ t∈ts,P.readableRec t=true∧t<P.types.size)→DataW.TrodAll enc P W 0 (fun _=>true) true ts vs ds ps →
     (∀ x∈ps,x.block<W.heap.size)→DataW.TrodAll enc P W' 0 (fun b=>decide (b<W.heap.size)) true ts vs ds ps
 | [],_,_,_,_,h,_=>by
  obtain ⟨rfl,rfl,rfl⟩:=trodAll_nil h
  exact trodAll_mk0
 | t::ts,_,_,_,hr,h,hlt=>by
  obtain ⟨v,vs,d,ds,p,q,rfl,rfl,rfl,h0,h1⟩:=trodAll_cons h
  exact trodAll_cons_mk (Below.trod hl (hr t by19).1 (hr t by19).2 h0 hb (fun x hx=>hlt x (by simp [hx])))
   (trodAll_below hl hb (fun t ht=>hr t (by simp [ht])) h1 (fun x hx=>hlt x (by simp [hx])))
theorem law_post {f:Func} {s:ChangeSpec} {W W':World} {args:Array Value} {ds gs:List (DataW H)} {before:List MemPlace} {tb:TypeId}
    (hl:laidOutB P=true) (hr:(f.params.toList.all fun t=>P.readableRec t && decide (t<P.types.size))=true)
    (hres:f.resultTypes=#[tb]) (htb:P.underlying tb=some .bool) (hvars:s.vars=[])
    (hs1:(s.fn H (ds++gs)).results=[.lit (.bool true)]) (hs2:(s.fn H (ds++gs)).args=ds) (hs3:(s.fn H (ds++gs)).vars=[])
    (hW:DataW.Whole enc P f.params.toList s.vars false W args.toList ds gs before) (hb:Below W.heap.size W W') :
    s.post enc P f false true false false W args (.bool true) W':=by
 have hW':=hW
 obtain ⟨p,q,hA,hV,rfl,hfz,hnd⟩:=hW
 have hr':∀ t∈f.params.toList,P.readableRec t=true∧t<P.types.size:=by
  intro t ht
  have:=List.all_eq_true.1 hr t ht
  simpa using this
 refine ⟨ds,gs,p++q,[],p,[],hW',?_,?_,?_,hb.frame _,fun h=>by cases h⟩
 ·rw [hs1,hres]
  exact trodAll_mk1 (shut_bool htb true)
 ·rw [hs2]
  exact trodAll_below hl hb hr' hA (fun x hx=>by simpa using hW'.lt x (by simp [hx]))
 rw [hs3,hvars]
 rfl
end
open Go.RowKit
def cellF (w:World):EH:=fun b i=>w.cell? ⟨b,i,none⟩
mutual
def ShapeC (P:Program):Nat→TypeId→List AV→Prop
 | 0,_,_=>False
 | n+1,t,cs=>match P.underlying t with
  | some .bool=>∃ b,cs=[.val (.bool b)]
  | some (.int k)=>∃ x,(k.min≤x∧x≤k.max)∧cs=[.val (.int k x)]
  | some .string=>∃ s:ByteArray,s.size≤maxLen∧cs=[.val (.string s)]
  | some (.slice e)=>∃ es,cs=[.seq (P.cellsOf e) es]∧es.length≤maxLen∧∀ x∈es,ShapeC P n e x
  | some (.struct fs)=>ShapeF P n fs.toList cs
  | _=>False
def ShapeF (P:Program):Nat→List Field→List AV→Prop
 | _,[],cs=>cs=[]
 | n,f::fs,cs=>∃ a b,cs=a++b∧ShapeC P n f.type a∧ShapeF P n fs b
end
def fsOk (P:Program) (S:List TypeId):Nat→List Field→Nat→Bool
 | k,[],n=>k == n
 | k,f::fs,n=>f.offset == k && S.contains f.type && fsOk P S (k+P.cellsOf f.type) fs n
def closedT (P:Program) (S:List TypeId):Bool:=S.all fun t=>match P.underlying t with
 | some .bool=>true
 | some (.int _)=>true
 | some .string=>true
 | some (.slice e)=>S.contains e && Nat.blt 0 (P.cellsOf e)
 | some (.struct fs)=>fsOk P S 0 fs.toList (P.cellsOf t)
 | _=>false
section
variable {H:Type} {enc:TypeId × Value→H} {P:Program} {w:World} {sp:Nat→Bool} {held:Bool}
theorem cells_get {a:Addr} {m:Nat} {ws:List Value} (h:w.cells? 0 a m=some ws):ws.length=m∧∀ j x,ws[j]?=some x→w.cell? (a.add j)=some x:=by
 unfold World.cells? at h
 rw [if_pos (Nat.zero_le _)] at h
 have hl:ws.length=m:=by simpa using mapM_some_length h
 refine ⟨hl,fun j x hx=>?_⟩
 have hj:j<m:=by
  rw [← hl]
  rcases Nat.lt_or_ge j ws.length with k|k
  ·exact k
  rw [List.getElem?_eq_none k] at hx;simp at hx
 have:=mapM_some_get h j j (by simp [hj])
 rw [this,hx]
theorem rows_of {fuel:Nat} {e:TypeId} {a:Addr} {m:Nat} {F:EH}:∀ n:Nat,(∀ i,i<n→∃ (ws:List Value) (es:List AV),w.cells? 0 (a.add (i * m)) m=some ws∧ShapeC P fuel e es∧Rels F es ws∧Ones ws) →
    ∃ (ess:List (List AV)) (vs:List Value),ess.length=n∧(∀ x∈ess,ShapeC P fuel e x∧x.length=m)∧Rels F ess.flatten vs∧Ones vs∧vs.length=n * m∧∀ j x,vs[j]?=some x→w.cell? (a.add j)=some x
 | 0,_=>⟨[],[],rfl,by simp,.nil,by intro v hv;simp at hv,by simp,by simp⟩
 | n+1,h=>by
  obtain ⟨ess,vs,h1,h2,h3,h4,h5,h6⟩:=rows_of n (fun i hi=>h i by18)
  obtain ⟨ws,es,k1,k2,k3,k4⟩:=h n by18
  obtain ⟨q1,q2⟩:=cells_get k1
  refine ⟨ess++[es],vs++ws,by simp [h1],fun x hx=>?_,by simpa using h3.app k3,fun v hv=>?_,by simp only [List.length_append,h5,q1,Nat.add_mul];omega,fun j x hx=>?_⟩
  ·rcases List.mem_append.1 hx with r|r
   ·exact h2 x r
   simp at r;subst r;exact ⟨k2,by rw [k3.len,q1]⟩
  ·rcases List.mem_append.1 hv with r|r
   ·exact h4 v r
   exact k4 v r
  rcases Nat.lt_or_ge j vs.length with r|r
  ·rw [List.getElem?_append_left r] at hx;exact h6 j x hx
  rw [List.getElem?_append_right r] at hx
  have:=q2 _ x hx
  have e1:(a.add (n * m)).add (j - vs.length)=a.add j:=by
   rw [h5] at r ⊢
   unfold Addr.add
   by_cases z1:n * m=0
   ·rw [if_pos z1]
    simp only [z1,Nat.sub_zero]
   rw [if_neg z1]
   have hj0:j≠0:=by omega
   rw [if_neg hj0]
   by_cases z2:j - n * m=0
   ·rw [if_pos z2]
    simp only [Addr.mk.injEq,true_and,and_true]
    omega
   rw [if_neg z2]
   simp only [Addr.mk.injEq,true_and,and_true]
   omega
  rwa [e1] at this
theorem open_shape {S:List TypeId} (hS:closedT P S=true):∀ (fuel:Nat) (t:TypeId) (vs:List Value) (x:DataW H × List MemPlace),t∈S→DataW.trod enc P w 0 sp held fuel t vs=some x →
    ∃ cs,ShapeC P fuel t cs∧Rels (cellF w) cs vs∧Ones vs:=by
 intro fuel
 induction fuel with
 | zero=>intro t vs x _ h;simp [DataW.trod] at h
 | succ n ih =>
  intro t vs x ht h
  have hc:=List.all_eq_true.1 hS t ht
  have hh:=h
  unfold DataW.trod at h
  unfold ShapeC
  cases hu:P.underlying t with
  | none=>rw [hu] at hc;simp at hc
  | some d =>
   rw [hu] at hc h
   cases d with
   | bool =>
    simp only at h
    split at h <;> first|(simp at h;done)|skip
    all_goals first|(rename_i b _;exact ⟨[.val (.bool b)],⟨b,rfl⟩,.cons (.val _) .nil,by intro v hv;simp at hv;subst hv;rfl⟩)|(simp_all;done)
   | int k =>
    simp only at h
    split at h <;> simp_all
    rename_i k' z _
    obtain ⟨⟨rfl,hwf⟩,_⟩:=h
    simp only [Lit.wf,Bool.and_eq_true,decide_eq_true_eq] at hwf
    exact ⟨_,⟨z,hwf,rfl⟩,.cons (.val _) .nil,by intro v hv;simp at hv;subst hv;rfl⟩
   | string =>
    simp only at h
    split at h <;> simp_all
    exact ⟨_,⟨_,h.1,rfl⟩,.cons (.val _) .nil,by intro v hv;simp at hv;subst hv;rfl⟩
   | slice e =>
    simp only [Bool.and_eq_true,List.contains_iff_mem,Nat.blt_eq] at hc
    obtain ⟨rfl,_⟩|⟨a,len,cap,elems,rest,n',hn,rfl,_,_,hlc,hcm,hel,hat,_⟩:=DataW.trod_slice hu hh
    ·exact ⟨[.seq (P.cellsOf e) []],⟨[],rfl,by simp,by simp⟩,.cons (.seq0 _ none 0 (fun _=>rfl)) .nil,by intro v hv;simp at hv;subst hv;rfl⟩
    obtain rfl:n=n':=by omega
    have hrows:∀ i,i<len→∃ ws es,w.cells? 0 (a.add (i * P.cellsOf e)) (P.cellsOf e)=some ws∧ShapeC P n e es∧Rels (cellF w) es ws∧Ones ws:=by
     intro i hi
     have h1:=hat i hi
     rw [List.getElem?_eq_getElem by18] at h1
     obtain ⟨ws,h2,h3⟩:=Option.bind_eq_some_iff.1 h1
     obtain ⟨es,h4,h5,h6⟩:=ih e ws _ hc.1 h3
     exact ⟨ws,es,h2,h4,h5,h6⟩
    obtain ⟨ess,vs',r1,r2,r3,r4,r5,r6⟩:=rows_of len hrows
    refine ⟨[.seq (P.cellsOf e) ess],⟨ess,rfl,by omega,fun x hx=>(r2 x hx).1⟩,.cons ?_ .nil,by intro v hv;simp at hv;subst hv;rfl⟩
    by_cases h0:len=0
    ·subst h0
     have:ess=[]:=List.eq_nil_of_length_eq_zero r1
     subst this
     exact .seq0 _ _ _ by19
    have hpos:0<vs'.length:=by rw [r5];exact Nat.mul_pos by18 hc.2
    have hsp:a.spot=none:=by
     have:=r6 0 vs'[0] (List.getElem?_eq_getElem hpos)
     have e0:a.add 0=a:=by simp [Addr.add]
     rw [e0] at this
     unfold World.cell? at this
     cases hs:a.spot with
     | none=>rfl
     | some q=>rw [hs] at this;simp at this;split at this <;> simp at this
    obtain ⟨b,off,spot⟩:=a
    simp only at hsp
    subst hsp
    subst r1
    refine .seq b off cap (fun x hx=>(r2 x hx).2) by18 (fun j x hx=>?_) r3 r4 by18
    have:=r6 j x hx
    rwa [addr_add0] at this
   | struct fs =>
    simp only at hc
    obtain ⟨xs,n',hn,_,hlen,hxl,hat⟩:=DataW.trod_struct hu hh
    obtain rfl:n=n':=by omega
    have hmem:∀ f∈fs.toList,∃ y,DataW.trod enc P w 0 sp held n f.type ((vs.drop f.offset).take (P.cellsOf f.type))=some y:=by
     intro f hf
     obtain ⟨i,hi,hie⟩:=List.mem_iff_getElem.1 hf
     have h1:=hat i f (by rw [← hie];simp at hi ⊢)
     rw [h1]
     simp at hi
     exact ⟨xs[i]'by18,List.getElem?_eq_getElem by18⟩
    have key:∀ (l:List Field) (k:Nat),(∀ f∈l,∃ y,DataW.trod enc P w 0 sp held n f.type ((vs.drop f.offset).take (P.cellsOf f.type))=some y)→fsOk P S k l (P.cellsOf t)=true →
        ∃ cs,ShapeF P n l cs∧Rels (cellF w) cs (vs.drop k)∧Ones (vs.drop k):=by
     intro l
     induction l with
     | nil =>
      intro k _ hk
      simp only [fsOk,beq_iff_eq] at hk
      refine ⟨[],by simp [ShapeF],?_,?_⟩
      ·rw [List.drop_eq_nil_of_le by18];exact .nil
      rw [List.drop_eq_nil_of_le by18];intro v hv;simp at hv
     | cons f l ihl =>
      intro k hf hk
      simp only [fsOk,Bool.and_eq_true,beq_iff_eq,List.contains_iff_mem] at hk
      obtain ⟨⟨rfl,hS1⟩,hk⟩:=hk
      obtain ⟨y,hy⟩:=hf f by19
      obtain ⟨c1,h1,h2,h3⟩:=ih f.type _ y hS1 hy
      obtain ⟨c2,h4,h5,h6⟩:=ihl (f.offset+P.cellsOf f.type) (fun g hg=>hf g (by simp [hg])) hk
      have e1:vs.drop f.offset=(vs.drop f.offset).take (P.cellsOf f.type)++vs.drop (f.offset+P.cellsOf f.type):=by
       rw [← List.drop_drop,List.take_append_drop]
      refine ⟨c1++c2,by rw [ShapeF];exact ⟨c1,c2,Y,h1,h4⟩,by rw [e1];exact h2.app h5,?_⟩
      rw [e1]
      intro v hv
      rcases List.mem_append.1 hv with q|q
      ·exact h3 v q
      exact h6 v q
    obtain ⟨cs,k1,k2,k3⟩:=key fs.toList 0 hmem hc
    rw [List.drop_zero] at k2 k3
    exact ⟨cs,k1,k2,k3⟩
   | _=>simp at hc
theorem Inv.start (w:World):Inv w.heap.size (cellF w) [] w:=⟨Nat.le_refl _,fun _ _ _ h=>h,by simp,List.Pairwise.nil⟩
theorem law_run {f:FuncId} {vs:List AV} {us:List Value} (h:ACall P f vs [] (fun v _=>v=.val (.bool true))) (hr:Rels (cellF w) vs us):Calls P f us.toArray w fun e w'=>e=.returned (.bool true)∧Below w.heap.size w w':=by
 refine (h.run w.heap.size (cellF w) [] w us (by simpa using Inv.start w) hr).mono ?_
 rintro e w' ⟨u,v,M',F',rfl,rfl,h3,_,_,h6⟩
 cases h3
 exact ⟨Y,h6⟩
theorem open_one {S:List TypeId} (hS:closedT P S=true) {t:TypeId} {v:Value} {d:DataW H} {ps:List MemPlace} (ht:t∈S) (h:DataW.Trod enc P w 0 sp held t v d ps):∃ fuel cs,ShapeC P fuel t cs∧Rels (cellF w) cs v.cells.toList∧Ones v.cells.toList:=by
 obtain ⟨fuel,h⟩:=h
 obtain ⟨cs,h1,h2,h3⟩:=open_shape hS fuel t _ _ ht h
 exact ⟨fuel,cs,h1,h2,h3⟩
theorem rel_cell {F:EH} {v:Value} {c:AV} (hv:∀ a,v≠.agg a) (h:Rels F [c] v.cells.toList):Rel F c v:=by
 have e:v.cells.toList=[v]:=by cases v <;> first|rfl|exact absurd rfl (hv _)
 rw [e] at h
 cases h with
 | cons h _=>exact h
end
mutual
def AV.bulk:AV→Nat
 | .val (.string s)=>s.size+1
 | .seq _ es=>bulkss es+1
 | _=>1
def bulks:List AV→Nat
 | []=>0
 | a::l=>a.bulk+bulks l
def bulkss:List (List AV)→Nat
 | []=>0
 | e::es=>bulks e+bulkss es
end
section
variable {H:Type} {enc:TypeId × Value→H} {P:Program} {w:World} {sp:Nat→Bool} {held:Bool} {L:Nat}
end
section
variable {P:Program} {L:Nat}
end
theorem okw_str {P:Program} {W:World} {r:Reach} {b:Nat} {t:TypeId} {v:Value} (ht:P.underlying t=some .string) (h:Value.okWide P W r b t v):∀ a,v≠.agg a:=by
 rintro a rfl
 unfold Value.okWide at h
 rw [ht] at h
 simp only [Cell.okWide,Cell.ok,ht] at h
section
variable {P:Program} {n:Nat} {al:Sl} {M:Mem} {o:Oper} {K:AV→Mem→Prop}
theorem op_substr {x lo hi:Operand} {t:TypeId} {s:ByteArray} {k k':IntKind} {a b:Int} {i j:Nat} (ho:o.op=.slice t x (some lo) (some hi) none) (ht:P.underlying t=some .string) (hx:al.ev x=some (.val (.string s))) (hlo:al.ev lo=some (.val (.int k a))) (hhi:al.ev hi=some (.val (.int k' b))) (ha:a=i) (hb:b=j) (hij:i≤j) (hj:j≤s.size) (q:K (.val (.string (s.extract i j))) M):OpT P o al M K :=
 OpT.plain fun n B F Mf ac w hi' hs=>by
  refine ⟨_,_,?_,q,.val _⟩
  subst ha hb
  have h1:(0:Int)≤(j:Int)∧(j:Int)≤(s.size:Int):=⟨by omega,by omega⟩
  have h2:(0:Int)≤(i:Int)∧(i:Int)≤(j:Int):=⟨by omega,by omega⟩
  simp [execOp,ho,Yc hs hx,Yc hs hlo,Yc hs hhi,Instr.sliceAt,underlying,ht,Instr.slice,Instr.sliceBounds,Instr.sliceBound,asIntOf,hj,hij]
theorem BCall.no {f:FuncId} {vs:List AV} {p:Prop} (h:BCall P f vs p) (hp:¬ p):PCall P f vs (.val (.bool false)) :=
 h.mono (by rintro v M' ⟨⟨c,hc,rfl⟩,rfl⟩;exact ⟨by cases c <;> simp_all,rfl⟩)
theorem Inv.kept {B:Nat} {F:EH} {M:Mem} {w w':World} (hi:Inv B F M w) (hb:Below w.heap.size w w'):Inv B F M w':=by
 refine ⟨Nat.le_trans hi.base hb.size,fun b i x h=>?_,fun r hr=>?_,hi.far⟩
 ·have h1:=hi.fix b i x h
  rw [hb.cell (p:=⟨b,i,none⟩) (cell_size h1)];exact h1
 exact (hi.ok r hr).stay (Ext.refl F) (fun b hbk=>⟨hb.block b ((hi.ok r hr).lt hbk),fun _=>Y⟩)
theorem PCall.of_calls {f:FuncId} {vs:List Value} {r:Value} (he:Enters P f) (h:∀ w,Calls P f vs.toArray w fun e w'=>e=.returned r∧Below w.heap.size w w'):PCall P f (vs.map AV.val) (.val r):=by
 refine ⟨he,fun B F Mf w us hi hr=>?_⟩
 have e:us=vs:=by
  have key:∀ (vs us:List Value),Rels F (vs.map AV.val) us→us=vs:=by
   intro vs
   induction vs with
   | nil=>intro us h;cases h;rfl
   | cons v vs ih =>
    intro us h
    cases h with
    | cons h hs=>cases h;rw [ih _ hs]
  exact key vs us hr
 subst e
 refine (h w).mono ?_
 rintro e w' ⟨rfl,hb⟩
 exact ⟨r,.val r,[],F,Y,⟨Y,Y⟩,.val r,Ext.refl F,hi.kept hb,hb.mono hi.base⟩
end
instance:DecidableEq ByteArray:=fun a b=>if h:a.toList=b.toList then isTrue (ba_eq h) else isFalse (fun e=>h (by rw [e]))
inductive Ty where
 | mk (k:Int) (s:ByteArray) (n:Int) (ks:List Ty)
def Ty.kind:Ty→Int|.mk k _ _ _=>k
def Ty.name:Ty→ByteArray|.mk _ s _ _=>s
def Ty.num:Ty→Int|.mk _ _ n _=>n
def Ty.kids:Ty→List Ty|.mk _ _ _ ks=>ks
mutual
def Ty.size:Ty→Nat
 | .mk _ _ _ ks=>1+Ty.sizes ks
def Ty.sizes:List Ty→Nat
 | []=>0
 | t::ts=>t.size+Ty.sizes ts
end
theorem Ty.size_pos (t:Ty):1≤t.size:=by cases t;simp [Ty.size]
theorem Ty.size_mem {t:Ty}:∀ {ts:List Ty},t∈ts→t.size≤Ty.sizes ts
 | [],h=>by simp at h
 | u::ts,h=>by
  rw [Ty.sizes]
  rcases List.mem_cons.1 h with rfl|h
  ·omega
  have:=Ty.size_mem h;omega
mutual
def Ty.cells:Ty→List AV
 | .mk k s n ks=>[.val (.int .i64 k),.val (.string s),.val (.int .i64 n),.seq 4 (Ty.cellss ks)]
def Ty.cellss:List Ty→List (List AV)
 | []=>[]
 | t::ts=>t.cells::Ty.cellss ts
end
theorem Ty.cellss_map:∀ ts:List Ty,Ty.cellss ts=ts.map Ty.cells
 | []=>by simp [Ty.cellss]
 | t::ts=>by simp [Ty.cellss,Ty.cellss_map ts]
theorem Ty.cellss_len (ts:List Ty):(Ty.cellss ts).length=ts.length:=by rw [Ty.cellss_map];simp
theorem Ty.cellss_get {ts:List Ty} {i:Nat} {t:Ty} (h:ts[i]?=some t):(Ty.cellss ts)[i]?=some t.cells:=by rw [Ty.cellss_map];simp [h]
theorem Ty.cellss_app (a b:List Ty):Ty.cellss (a++b)=Ty.cellss a++Ty.cellss b:=by simp [Ty.cellss_map]
theorem Ty.size_at {ts:List Ty} {i:Nat} {t:Ty} (h:ts[i]?=some t):t.size≤Ty.sizes ts:=Ty.size_mem (Xq h)
theorem Zo {α:Type} {l:List α} {i:Nat} (h:i<l.length):∃ x,l[i]?=some x:=⟨l[i],List.getElem?_eq_getElem h⟩
theorem drop_at {α:Type} {l:List α} {i:Nat} {x:α} (h:l[i]?=some x):l.drop i=x::l.drop (i+1):=by
 have hi:i<l.length:=by
  rcases Nat.lt_or_ge i l.length with k|k
  ·exact k
  rw [List.getElem?_eq_none k] at h;simp at h
 rw [List.drop_eq_getElem_cons hi]
 rw [List.getElem?_eq_getElem hi] at h
 simp at h
 rw [h]
mutual
def Ty.cnt:Ty→Int→Int
 | .mk k _ n ks,most=>if k=1∧(ks≠[]∨n≠0) then most else Ty.cnts ks 1 most
def Ty.cnts:List Ty→Int→Int→Int
 | [],n,_=>n
 | t::ts,n,most=>if n<most then Ty.cnts ts (n+t.cnt (most - n)) most else n
end
def Ty.small (t:Ty) (most:Int):Bool:=decide (t.cnt (most+1)≤most)
def strs (xs:List ByteArray):List (List AV):=xs.map fun s=>[.val (.string s)]
theorem Yz (xs:List ByteArray):(strs xs).length=xs.length:=by simp [strs]
theorem strs_get {xs:List ByteArray} {i:Nat} {s:ByteArray} (h:xs[i]?=some s):(strs xs)[i]?=some [.val (.string s)]:=by simp [strs,h]
theorem strs_app (a b:List ByteArray):strs (a++b)=strs a++strs b:=by simp [strs]
def Upto {α:Type} (xs ys:List α) (i:Nat):Prop:=∀ j,j<i→xs[j]?=ys[j]?
theorem Upto.zero {α:Type} (xs ys:List α):Upto xs ys 0:=fun j hj=>by omega
theorem Upto.succ {α:Type} {xs ys:List α} {i:Nat} {x y:α} (h:Upto xs ys i) (hx:xs[i]?=some x) (hy:ys[i]?=some y) (e:x=y):Upto xs ys (i+1):=fun j hj=>by
 by_cases q:j=i
 ·subst q;rw [hx,hy,e]
 exact h j by18
theorem Upto.eq {α:Type} {xs ys:List α} {i:Nat} (h:Upto xs ys i) (hl:xs.length=ys.length) (hi:xs.length≤i):xs=ys:=by
 apply List.ext_getElem?
 intro j
 rcases Nat.lt_or_ge j xs.length with k|k
 ·exact h j by18
 rw [List.getElem?_eq_none k,List.getElem?_eq_none by18]
theorem at_ne {α:Type} {xs ys:List α} {i:Nat} {x y:α} (hx:xs[i]?=some x) (hy:ys[i]?=some y) (e:x≠y):¬ xs=ys:=fun h=>by
 subst h;rw [hx] at hy;simp at hy;exact e hy
theorem len_ne {α:Type} {xs ys:List α} (h:xs.length≠ys.length):¬ xs=ys:=fun e=>h (by rw [e])
end Go.Proofs.YtefbicnoddggnaaGreat
namespace Go.Proofs.YtefbicnoddggnaaGreat
abbrev arrow:ByteArray:=⟨#[45,62]⟩
def Ty.isFun (t:Ty):Prop:=t.kind=3∧t.name=arrow∧t.kids.length=2
def Ty.args:Ty→List Ty
 | .mk k s _ [a,b]=>if k=3∧s=arrow then a::b.args else []
 | _=>[]
termination_by t=>t.size
decreasing_by simp [Ty.size,Ty.sizes];omega
theorem Ty.fun_kids {t:Ty} (h:t.isFun):∃ n a b,t=.mk 3 arrow n [a,b]:=by
 obtain ⟨k,s,n,ks⟩:=t
 obtain ⟨h1,h2,h3⟩:=h
 simp only [Ty.kind,Ty.name,Ty.kids] at h1 h2 h3
 subst h1 h2
 match ks,h3 with
 | [a,b],_=>exact ⟨n,a,b,rfl⟩
theorem Ty.args_fun (n:Int) (a b:Ty):Ty.args (.mk 3 arrow n [a,b])=a::b.args:=by rw [Ty.args];simp
theorem Ty.args_not {t:Ty} (h:¬ t.isFun):t.args=[]:=by
 rw [Ty.args.eq_def]
 split
 ·rw [if_neg]
  rintro ⟨rfl,rfl⟩
  exact h ⟨Y,Y,Y⟩
 rfl
theorem Ty.args_size:∀ (t:Ty),t.args.length≤t.size:=by
 intro t
 generalize hd:t.size=d
 induction d using Nat.strongRecOn generalizing t with
 | _ d ih =>
  by_cases h:t.isFun
  ·obtain ⟨n,a,b,rfl⟩:=Ty.fun_kids h
   rw [Ty.args_fun]
   have hb:b.size<d:=by rw [← hd];simp [Ty.size,Ty.sizes];omega
   have:=ih b.size hb b rfl
   simp
   omega
  rw [Ty.args_not h];simp
mutual
def Ty.all:Ty→List Ty
 | .mk k s n ks=>.mk k s n ks::Ty.alls ks
def Ty.alls:List Ty→List Ty
 | []=>[]
 | t::ts=>t.all++Ty.alls ts
end
theorem Yg {α:Type} {l:List α} {i:Nat} {x:α} (h:l[i]?=some x):l.take (i+1)=l.take i++[x]:=by
 have hi:i<l.length:=by
  rcases Nat.lt_or_ge i l.length with k|k
  ·exact k
  rw [List.getElem?_eq_none k] at h;simp at h
 rw [List.getElem?_eq_getElem hi] at h
 simp at h
 rw [List.take_succ_eq_append_getElem hi,h]
noncomputable instance (a:ByteArray) (l:List ByteArray):Decidable (a∈l):=Classical.propDecidable _
noncomputable def addVar (acc:List ByteArray) (t:Ty):List ByteArray:=if t.kind=1∧t.name∉acc then acc++[t.name] else acc
def addMeta (acc:List Int) (t:Ty):List Int:=if t.kind=2∧t.num∉acc then acc++[t.num] else acc
noncomputable def Ty.vars (t:Ty):List ByteArray:=t.all.foldl addVar []
def Ty.metas (t:Ty):List Int:=t.all.foldl addMeta []
mutual
def Ty.turn (o:Ty→Option Ty):Ty→Ty
 | .mk k s n ks=>match o (.mk k s n ks) with
  | some y=>y
  | none=>.mk k s n (Ty.turns o ks)
def Ty.turns (o:Ty→Option Ty):List Ty→List Ty
 | []=>[]
 | t::ts=>t.turn o::Ty.turns o ts
end
def firstAt {α:Type} [DecidableEq α] (x:α):List α→Nat→Int
 | [],_ => -1
 | y::ys,i=>if x=y then i else firstAt x ys (i+1)
theorem firstAt_drop {α:Type} [DecidableEq α] (x:α):∀ (xs:List α) (i:Nat),x∉xs.take i→firstAt x (xs.drop i) i=firstAt x xs 0:=by
 have key:∀ (xs:List α) (i k:Nat),x∉xs.take i→firstAt x xs k=firstAt x (xs.drop i) (k+i):=by
  intro xs
  induction xs with
  | nil=>intro i k _;simp [firstAt]
  | cons y ys ih =>
   intro i k h
   cases i with
   | zero=>simp
   | succ i =>
    simp only [List.take_succ_cons,List.mem_cons,not_or] at h
    rw [firstAt,if_neg h.1,List.drop_succ_cons,ih i (k+1) h.2]
    congr 1;omega
 intro xs i h
 have:=key xs i 0 h
 rw [this];congr 1;omega
theorem firstAt_nonneg {α:Type} [DecidableEq α] (x:α):∀ (xs:List α) (k:Nat),0≤firstAt x xs k↔x∈xs
 | [],k=>by simp [firstAt]
 | y::ys,k=>by
  rw [firstAt]
  by_cases e:x=y
  ·simp [e]
  rw [if_neg e,firstAt_nonneg x ys (k+1)];simp [e]
theorem not_mem_take {α:Type} {xs:List α} {i:Nat} {x y:α} (h:x∉xs.take i) (hx:xs[i]?=some y) (e:¬ y=x):x∉xs.take (i+1):=by
 rw [Yg hx,List.mem_append]
 rintro (q|q)
 ·exact h q
 simp at q;exact e q.symm
theorem tmix:Tryz.prog.follows .mixedOrders=true:=by kernel_rfl
theorem ts_2:(Tryz.prog.info? 2).map (·.size)=some 1:=by kernel_rfl
theorem ta_3:tyAgg Tryz.prog 3=some none:=by kernel_rfl
theorem ts_3:(Tryz.prog.info? 3).map (·.size)=some 1:=by kernel_rfl
theorem tu_3:Tryz.prog.underlying 3=some (.int .i64):=by kernel_rfl
theorem tu_5:Tryz.prog.underlying 5=some (.int .u8):=by kernel_rfl
theorem ta_9:tyAgg Tryz.prog 9=some none:=by kernel_rfl
theorem ts_9:(Tryz.prog.info? 9).map (·.size)=some 1:=by kernel_rfl
theorem tu_9:Tryz.prog.underlying 9=some (.string):=by kernel_rfl
theorem ts_23:(Tryz.prog.info? 23).map (·.size)=some 1:=by kernel_rfl
theorem te_23:tyElem Tryz.prog 23=some (34,5):=by kernel_rfl
theorem el_23:ElT Tryz.prog 23 34 (.agg #[(.string ⟨#[]⟩),(.slice none 0 0),(.slice none 0 0),(.slice none 0 0),(.int .i64 0)]) 5 96:=⟨by kernel_rfl,by kernel_rfl,rfl,by decide,by decide⟩
theorem tu_23:Tryz.prog.underlying 23=some (.slice 34):=by kernel_rfl
theorem ts_24:(Tryz.prog.info? 24).map (·.size)=some 1:=by kernel_rfl
theorem te_24:tyElem Tryz.prog 24=some (77,6):=by kernel_rfl
theorem el_24:ElT Tryz.prog 24 77 (.agg #[(.string ⟨#[]⟩),(.string ⟨#[]⟩),(.slice none 0 0),(.slice none 0 0),(.slice none 0 0),(.int .i64 0)]) 6 112:=⟨by kernel_rfl,by kernel_rfl,rfl,by decide,by decide⟩
theorem tu_24:Tryz.prog.underlying 24=some (.slice 77):=by kernel_rfl
theorem ta_25:tyAgg Tryz.prog 25=some none:=by kernel_rfl
theorem ts_25:(Tryz.prog.info? 25).map (·.size)=some 1:=by kernel_rfl
theorem te_25:tyElem Tryz.prog 25=some (49,8):=by kernel_rfl
theorem el_25:ElT Tryz.prog 25 49 (.agg #[(.string ⟨#[]⟩),(.int .i64 0),(.string ⟨#[]⟩),(.int .i64 0),(.slice none 0 0),(.slice none 0 0),(.slice none 0 0),(.int .i64 0)]) 8 128:=⟨by kernel_rfl,by kernel_rfl,rfl,by decide,by decide⟩
theorem tu_25:Tryz.prog.underlying 25=some (.slice 49):=by kernel_rfl
theorem ts_26:(Tryz.prog.info? 26).map (·.size)=some 1:=by kernel_rfl
theorem te_26:tyElem Tryz.prog 26=some (60,13):=by kernel_rfl
theorem el_26:ElT Tryz.prog 26 60 (.agg #[(.string ⟨#[]⟩),(.int .i64 0),(.string ⟨#[]⟩),(.int .i64 0),(.int .i64 0),(.string ⟨#[]⟩),(.int .i64 0),(.slice none 0 0),(.slice none 0 0),(.slice none 0 0),(.slice none 0 0),(.int .i64 0),(.int .i64 0)]) 13 192:=⟨by kernel_rfl,by kernel_rfl,rfl,by decide,by decide⟩
theorem tu_26:Tryz.prog.underlying 26=some (.slice 60):=by kernel_rfl
theorem ta_28:tyAgg Tryz.prog 28=some (some 4):=by kernel_rfl
theorem ts_28:(Tryz.prog.info? 28).map (·.size)=some 4:=by kernel_rfl
theorem tz_28:tyZero Tryz.prog 28=some (.agg #[(.slice none 0 0),(.slice none 0 0),(.slice none 0 0),(.slice none 0 0)]):=by kernel_rfl
theorem tfl_28:tyFlds Tryz.prog 28=some [(0,1),(1,1),(2,1),(3,1)]:=by kernel_rfl
theorem ts_31:(Tryz.prog.info? 31).map (·.size)=some 1:=by kernel_rfl
theorem te_31:tyElem Tryz.prog 31=some (9,1):=by kernel_rfl
theorem el_31:ElT Tryz.prog 31 9 (.string ⟨#[]⟩) 1 16:=⟨by kernel_rfl,by kernel_rfl,rfl,by decide,by decide⟩
theorem tu_31:Tryz.prog.underlying 31=some (.slice 9):=by kernel_rfl
theorem ts_32:(Tryz.prog.info? 32).map (·.size)=some 1:=by kernel_rfl
theorem te_32:tyElem Tryz.prog 32=some (54,3):=by kernel_rfl
theorem el_32:ElT Tryz.prog 32 54 (.agg #[(.string ⟨#[]⟩),(.slice none 0 0),(.int .i64 0)]) 3 48:=⟨by kernel_rfl,by kernel_rfl,rfl,by decide,by decide⟩
theorem tu_32:Tryz.prog.underlying 32=some (.slice 54):=by kernel_rfl
theorem ta_34:tyAgg Tryz.prog 34=some (some 5):=by kernel_rfl
theorem ts_34:(Tryz.prog.info? 34).map (·.size)=some 5:=by kernel_rfl
theorem tz_34:tyZero Tryz.prog 34=some (.agg #[(.string ⟨#[]⟩),(.slice none 0 0),(.slice none 0 0),(.slice none 0 0),(.int .i64 0)]):=by kernel_rfl
theorem tfl_34:tyFlds Tryz.prog 34=some [(0,1),(1,1),(2,1),(3,1),(4,1)]:=by kernel_rfl
theorem ta_38:tyAgg Tryz.prog 38=some (some 2):=by kernel_rfl
theorem ts_38:(Tryz.prog.info? 38).map (·.size)=some 2:=by kernel_rfl
theorem tz_38:tyZero Tryz.prog 38=some (.agg #[(.int .i64 0),(.int .i64 0)]):=by kernel_rfl
theorem tfl_38:tyFlds Tryz.prog 38=some [(0,1),(1,1)]:=by kernel_rfl
theorem ts_44:(Tryz.prog.info? 44).map (·.size)=some 1:=by kernel_rfl
theorem te_44:tyElem Tryz.prog 44=some (46,4):=by kernel_rfl
theorem el_44:ElT Tryz.prog 44 46 (.agg #[(.int .i64 0),(.string ⟨#[]⟩),(.int .i64 0),(.slice none 0 0)]) 4 56:=⟨by kernel_rfl,by kernel_rfl,rfl,by decide,by decide⟩
theorem tu_44:Tryz.prog.underlying 44=some (.slice 46):=by kernel_rfl
theorem ta_46:tyAgg Tryz.prog 46=some (some 4):=by kernel_rfl
theorem ts_46:(Tryz.prog.info? 46).map (·.size)=some 4:=by kernel_rfl
theorem tz_46:tyZero Tryz.prog 46=some (.agg #[(.int .i64 0),(.string ⟨#[]⟩),(.int .i64 0),(.slice none 0 0)]):=by kernel_rfl
theorem tfl_46:tyFlds Tryz.prog 46=some [(0,1),(1,1),(2,1),(3,1)]:=by kernel_rfl
theorem ts_47:(Tryz.prog.info? 47).map (·.size)=some 1:=by kernel_rfl
theorem te_47:tyElem Tryz.prog 47=some (97,5):=by kernel_rfl
theorem el_47:ElT Tryz.prog 47 97 (.agg #[(.string ⟨#[]⟩),(.int .i64 0),(.string ⟨#[]⟩),(.int .i64 0),(.slice none 0 0)]) 5 72:=⟨by kernel_rfl,by kernel_rfl,rfl,by decide,by decide⟩
theorem tu_47:Tryz.prog.underlying 47=some (.slice 97):=by kernel_rfl
theorem ta_49:tyAgg Tryz.prog 49=some (some 8):=by kernel_rfl
theorem ts_49:(Tryz.prog.info? 49).map (·.size)=some 8:=by kernel_rfl
theorem tz_49:tyZero Tryz.prog 49=some (.agg #[(.string ⟨#[]⟩),(.int .i64 0),(.string ⟨#[]⟩),(.int .i64 0),(.slice none 0 0),(.slice none 0 0),(.slice none 0 0),(.int .i64 0)]):=by kernel_rfl
theorem tfl_49:tyFlds Tryz.prog 49=some [(0,1),(1,4),(5,1),(6,1),(7,1)]:=by kernel_rfl
theorem ta_54:tyAgg Tryz.prog 54=some (some 3):=by kernel_rfl
theorem ts_54:(Tryz.prog.info? 54).map (·.size)=some 3:=by kernel_rfl
theorem tz_54:tyZero Tryz.prog 54=some (.agg #[(.string ⟨#[]⟩),(.slice none 0 0),(.int .i64 0)]):=by kernel_rfl
theorem tfl_54:tyFlds Tryz.prog 54=some [(0,1),(1,1),(2,1)]:=by kernel_rfl
theorem ts_55:(Tryz.prog.info? 55).map (·.size)=some 1:=by kernel_rfl
theorem te_55:tyElem Tryz.prog 55=some (58,11):=by kernel_rfl
theorem Xa:ElT Tryz.prog 55 58 (.agg #[(.int .i64 0),(.string ⟨#[]⟩),(.int .i64 0),(.int .i64 0),(.string ⟨#[]⟩),(.int .i64 0),(.slice none 0 0),(.slice none 0 0),(.slice none 0 0),(.slice none 0 0),(.int .i64 0)]) 11 168:=⟨by kernel_rfl,by kernel_rfl,rfl,by decide,by decide⟩
theorem tu_55:Tryz.prog.underlying 55=some (.slice 58):=by kernel_rfl
theorem ts_56:(Tryz.prog.info? 56).map (·.size)=some 1:=by kernel_rfl
theorem te_56:tyElem Tryz.prog 56=some (65,16):=by kernel_rfl
theorem el_56:ElT Tryz.prog 56 65 (.agg #[(.int .i64 0),(.string ⟨#[]⟩),(.int .i64 0),(.slice none 0 0),(.int .i64 0),(.int .i64 0),(.string ⟨#[]⟩),(.int .i64 0),(.int .i64 0),(.string ⟨#[]⟩),(.int .i64 0),(.slice none 0 0),(.slice none 0 0),(.slice none 0 0),(.slice none 0 0),(.int .i64 0)]) 16 232:=⟨by kernel_rfl,by kernel_rfl,rfl,by decide,by decide⟩
theorem tu_56:Tryz.prog.underlying 56=some (.slice 65):=by kernel_rfl
theorem Yf:tyAgg Tryz.prog 58=some (some 11):=by kernel_rfl
theorem ts_58:(Tryz.prog.info? 58).map (·.size)=some 11:=by kernel_rfl
theorem tz_58:tyZero Tryz.prog 58=some (.agg #[(.int .i64 0),(.string ⟨#[]⟩),(.int .i64 0),(.int .i64 0),(.string ⟨#[]⟩),(.int .i64 0),(.slice none 0 0),(.slice none 0 0),(.slice none 0 0),(.slice none 0 0),(.int .i64 0)]):=by kernel_rfl
theorem tfl_58:tyFlds Tryz.prog 58=some [(0,1),(1,1),(2,1),(3,4),(7,1),(8,1),(9,1),(10,1)]:=by kernel_rfl
theorem ta_60:tyAgg Tryz.prog 60=some (some 13):=by kernel_rfl
theorem ts_60:(Tryz.prog.info? 60).map (·.size)=some 13:=by kernel_rfl
theorem tz_60:tyZero Tryz.prog 60=some (.agg #[(.string ⟨#[]⟩),(.int .i64 0),(.string ⟨#[]⟩),(.int .i64 0),(.int .i64 0),(.string ⟨#[]⟩),(.int .i64 0),(.slice none 0 0),(.slice none 0 0),(.slice none 0 0),(.slice none 0 0),(.int .i64 0),(.int .i64 0)]):=by kernel_rfl
theorem tfl_60:tyFlds Tryz.prog 60=some [(0,1),(1,11),(12,1)]:=by kernel_rfl
theorem ts_61:(Tryz.prog.info? 61).map (·.size)=some 1:=by kernel_rfl
theorem te_61:tyElem Tryz.prog 61=some (63,5):=by kernel_rfl
theorem el_61:ElT Tryz.prog 61 63 (.agg #[(.int .i64 0),(.string ⟨#[]⟩),(.int .i64 0),(.slice none 0 0),(.int .i64 0)]) 5 64:=⟨by kernel_rfl,by kernel_rfl,rfl,by decide,by decide⟩
theorem tu_61:Tryz.prog.underlying 61=some (.slice 63):=by kernel_rfl
theorem ta_63:tyAgg Tryz.prog 63=some (some 5):=by kernel_rfl
theorem ts_63:(Tryz.prog.info? 63).map (·.size)=some 5:=by kernel_rfl
theorem tz_63:tyZero Tryz.prog 63=some (.agg #[(.int .i64 0),(.string ⟨#[]⟩),(.int .i64 0),(.slice none 0 0),(.int .i64 0)]):=by kernel_rfl
theorem tfl_63:tyFlds Tryz.prog 63=some [(0,1),(1,1),(2,1),(3,1),(4,1)]:=by kernel_rfl
theorem ta_65:tyAgg Tryz.prog 65=some (some 16):=by kernel_rfl
theorem ts_65:(Tryz.prog.info? 65).map (·.size)=some 16:=by kernel_rfl
theorem tz_65:tyZero Tryz.prog 65=some (.agg #[(.int .i64 0),(.string ⟨#[]⟩),(.int .i64 0),(.slice none 0 0),(.int .i64 0),(.int .i64 0),(.string ⟨#[]⟩),(.int .i64 0),(.int .i64 0),(.string ⟨#[]⟩),(.int .i64 0),(.slice none 0 0),(.slice none 0 0),(.slice none 0 0),(.slice none 0 0),(.int .i64 0)]):=by kernel_rfl
theorem tfl_65:tyFlds Tryz.prog 65=some [(0,5),(5,11)]:=by kernel_rfl
theorem ta_68:tyAgg Tryz.prog 68=some none:=by kernel_rfl
theorem te_68:tyElem Tryz.prog 68=some (72,4):=by kernel_rfl
theorem el_68:ElT Tryz.prog 68 72 (.agg #[(.int .i64 0),(.string ⟨#[]⟩),(.int .i64 0),(.int .i64 0)]) 4 40:=⟨by kernel_rfl,by kernel_rfl,rfl,by decide,by decide⟩
theorem tu_68:Tryz.prog.underlying 68=some (.slice 72):=by kernel_rfl
theorem tz_70:tyZero Tryz.prog 70=some (.agg #[(.slice none 0 0),(.int .i64 0),(.int .i64 0),(.int .i64 0),(.int .i64 0)]):=by kernel_rfl
theorem tfl_70:tyFlds Tryz.prog 70=some [(0,1),(1,1),(2,1),(3,1),(4,1)]:=by kernel_rfl
theorem Yd:tyAgg Tryz.prog 72=some (some 4):=by kernel_rfl
theorem ts_72:(Tryz.prog.info? 72).map (·.size)=some 4:=by kernel_rfl
theorem tz_72:tyZero Tryz.prog 72=some (.agg #[(.int .i64 0),(.string ⟨#[]⟩),(.int .i64 0),(.int .i64 0)]):=by kernel_rfl
theorem tf_72_1:tyFld Tryz.prog 72 1=some 1:=by kernel_rfl
theorem tf_72_3:tyFld Tryz.prog 72 3=some 3:=by kernel_rfl
theorem tfl_72:tyFlds Tryz.prog 72=some [(0,1),(1,1),(2,1),(3,1)]:=by kernel_rfl
theorem ta_75:tyAgg Tryz.prog 75=some none:=by kernel_rfl
theorem ts_75:(Tryz.prog.info? 75).map (·.size)=some 1:=by kernel_rfl
theorem te_75:tyElem Tryz.prog 75=some (105,6):=by kernel_rfl
theorem el_75:ElT Tryz.prog 75 105 (.agg #[(.string ⟨#[]⟩),(.int .i64 0),(.string ⟨#[]⟩),(.int .i64 0),(.slice none 0 0),(.int .i64 0)]) 6 80:=⟨by kernel_rfl,by kernel_rfl,rfl,by decide,by decide⟩
theorem tu_75:Tryz.prog.underlying 75=some (.slice 105):=by kernel_rfl
theorem ta_77:tyAgg Tryz.prog 77=some (some 6):=by kernel_rfl
theorem ts_77:(Tryz.prog.info? 77).map (·.size)=some 6:=by kernel_rfl
theorem tz_77:tyZero Tryz.prog 77=some (.agg #[(.string ⟨#[]⟩),(.string ⟨#[]⟩),(.slice none 0 0),(.slice none 0 0),(.slice none 0 0),(.int .i64 0)]):=by kernel_rfl
theorem tfl_77:tyFlds Tryz.prog 77=some [(0,1),(1,1),(2,1),(3,1),(4,1),(5,1)]:=by kernel_rfl
theorem ta_92:tyAgg Tryz.prog 92=some (some 6):=by kernel_rfl
theorem ts_92:(Tryz.prog.info? 92).map (·.size)=some 6:=by kernel_rfl
theorem tz_92:tyZero Tryz.prog 92=some (.agg #[(.string ⟨#[]⟩),(.slice none 0 0),(.slice none 0 0),(.slice none 0 0),(.int .i64 0),(.int .i64 0)]):=by kernel_rfl
theorem tfl_92:tyFlds Tryz.prog 92=some [(0,5),(5,1)]:=by kernel_rfl
theorem tz_97:tyZero Tryz.prog 97=some (.agg #[(.string ⟨#[]⟩),(.int .i64 0),(.string ⟨#[]⟩),(.int .i64 0),(.slice none 0 0)]):=by kernel_rfl
theorem tfl_97:tyFlds Tryz.prog 97=some [(0,1),(1,4)]:=by kernel_rfl
theorem tz_105:tyZero Tryz.prog 105=some (.agg #[(.string ⟨#[]⟩),(.int .i64 0),(.string ⟨#[]⟩),(.int .i64 0),(.slice none 0 0),(.int .i64 0)]):=by kernel_rfl
theorem tfl_105:tyFlds Tryz.prog 105=some [(0,1),(1,4),(5,1)]:=by kernel_rfl
theorem tu_150:Tryz.prog.underlying 150=some (.int .u64):=by kernel_rfl
theorem el_151:ElT Tryz.prog 151 5 (.int .u8 0) 1 1:=⟨by kernel_rfl,by kernel_rfl,rfl,by decide,by decide⟩
theorem tu_151:Tryz.prog.underlying 151=some (.slice 5):=by kernel_rfl
open Go.RowKit
def rg (l:List (Nat × Nat)):List Nat:=l.flatMap fun p=>List.range' p.1 p.2
def lkf:List (Nat × Nat × Nat)→Nat→Nat→Option Nat
 | [],_,_=>none
 |(a,b,c)::l,t,f=>bif Nat.beq a t && Nat.beq b f then some c else lkf l t f
def lkm:List Nat→Nat→Bool
 | [],_=>false
 | a::l,t=>Nat.beq a t || lkm l t
def tfL:List (Nat × Nat × Nat):=[(28,0,0),(28,1,1),(28,2,2),(28,3,3),(34,0,0),(34,1,1),(34,2,2),(34,3,3),(34,4,4),(38,0,0),(38,1,1),(46,0,0),(46,1,1),(46,2,2),(46,3,3),(49,0,0),(49,1,1),(49,2,5),(49,3,6),(49,4,7),(54,0,0),(54,1,1),(58,0,0),(58,1,1),(58,2,2),(58,3,3),(58,4,7),(58,5,8),(58,6,9),(58,7,10),(60,0,0),(60,1,1),(60,2,12),(63,0,0),(63,1,1),(63,2,2),(63,3,3),(63,4,4),(65,0,0),(65,1,5),(70,0,0),(70,1,1),(70,2,2),(70,3,3),(70,4,4),(72,0,0),(72,1,1),(72,2,2),(72,3,3),(77,0,0),(77,1,1),(77,2,2),(77,3,3),(77,4,4),(92,0,0),(92,1,5),(97,0,0),(97,1,1),(105,0,0),(105,1,1)]
def taL:List Nat:=[2,3,9,23,24,25,26,31,32,36,44,47,55,56,61,68,75]
theorem lkf_ok {t f c:Nat}:∀ l:List (Nat × Nat × Nat),(l.all fun e=>tyFld Tryz.prog e.1 e.2.1 == some e.2.2)=true→lkf l t f=some c→tyFld Tryz.prog t f=some c
 | [],_,h=>by simp [lkf] at h
 |(a,b,d)::l,hl,h=>by
  rw [List.all_cons,Bool.and_eq_true] at hl
  rw [lkf] at h
  cases q:(Nat.beq a t && Nat.beq b f) with
  | true =>
   rw [q] at h
   rw [Bool.and_eq_true] at q
   have h1:=Nat.eq_of_beq_eq_true q.1
   have h2:=Nat.eq_of_beq_eq_true q.2
   subst h1 h2
   have h3:d=c:=by simpa using h
   subst h3
   simpa using hl.1
  | false=>rw [q] at h;exact lkf_ok l hl.2 h
theorem lkm_ok {t:Nat}:∀ l:List Nat,(l.all fun e=>tyAgg Tryz.prog e == some none)=true→lkm l t=true→tyAgg Tryz.prog t=some none
 | [],_,h=>by simp [lkm] at h
 | a::l,hl,h=>by
  rw [List.all_cons,Bool.and_eq_true] at hl
  rw [lkm,Bool.or_eq_true] at h
  rcases h with h|h
  ·have h1:=Nat.eq_of_beq_eq_true h
   subst h1
   simpa using hl.1
  exact lkm_ok l hl.2 h
theorem tfL_ok:(tfL.all fun e=>tyFld Tryz.prog e.1 e.2.1 == some e.2.2)=true:=by kernel_rfl
theorem taL_ok:(taL.all fun e=>tyAgg Tryz.prog e == some none)=true:=by kernel_rfl
section
variable {al:Sl} {M:Mem} {K:AV→Mem→Prop} {o:Oper}
theorem op_fam {x:Operand} {t f b off fo:Nat} (ho:o.op=.fieldAddr t x f) (ht:lkf tfL t f=some fo) (hx:al.ev x=some (.ptr b off)) (q:K (.ptr b (off+fo)) M):OpT Tryz.prog o al M K:=op_fieldAddr_m ho (lkf_ok tfL tfL_ok ht) hx q
theorem op_fac {x:Operand} {t f fo:Nat} {cs cs':List AV} (ho:o.op=.fieldAddr t x f) (ht:lkf tfL t f=some fo) (hx:al.ev x=some (.cptr cs)) (hc:cs.drop fo=cs') (q:K (.cptr cs') M):OpT Tryz.prog o al M K:=op_fieldAddr_c ho (lkf_ok tfL tfL_ok ht) hx hc q
theorem op_lc1 {x:Operand} {t:Nat} {c:AV} {cs:List AV} (ho:o.op=.load t x) (ht:lkm taL t=true) (hx:al.ev x=some (.cptr cs)) (hc:cs[0]?=some c) (q:K c M):OpT Tryz.prog o al M K:=op_load_c1 ho (lkm_ok taL taL_ok ht) hx hc q
theorem op_lm1 {x:Operand} {t b off i:Nat} {c:AV} {cs:List AV} (ho:o.op=.load t x) (ht:lkm taL t=true) (hx:al.ev x=some (.ptr b off)) (hm:M[i]?=some (.loc b cs)) (hc:cs[off]?=some c) (q:K c M):OpT Tryz.prog o al M K:=Yn ho (lkm_ok taL taL_ok ht) hx hm hc q
end
structure Wr (q:Prop):Prop where
 out:q
section
variable {p q:Prop}
theorem Qc (k:q) (h:Wr q→p:=by intro k;refine go_code ?_;exact k.1):p:=h ⟨k⟩
theorem QG (k:q) (h:Wr q→p:=by intro k;refine c_seq ?_;exact k.1):p:=h ⟨k⟩
theorem Qac (k:q) (h:Wr q→p:=by intro k;refine AOps.nil ?_;exact k.1):p:=h ⟨k⟩
theorem Qi (k:q) (h:Wr q→p:=by intro k;refine c_region ?_;exact k.1):p:=h ⟨k⟩
theorem Qb (k:q) (h:Wr q→p:=by intro k;refine Zb _ rfl rfl rfl (op_move rfl rfl ?_);exact k.1):p:=h ⟨k⟩
theorem QZ (k:q) (h:Wr q→p:=by intro k;refine AOps.gf _ rfl rfl rfl rfl rfl ?_;exact k.1):p:=h ⟨k⟩
theorem Qa3 (k:q) (h:Wr q→p:=by intro k;refine Zb _ rfl rfl rfl (op_assign rfl rfl ?_);exact k.1):p:=h ⟨k⟩
theorem QH (k:q) (h:Wr q→p:=by intro k;refine c_cond_f rfl ?_;exact k.1):p:=h ⟨k⟩
theorem Qds (k:q) (h:Wr q→p:=by intro k;refine Zb _ rfl rfl rfl (op_pick rfl rfl rfl ?_);exact k.1):p:=h ⟨k⟩
theorem Qh (k:q) (h:Wr q→p:=by intro k;refine c_cond_t rfl ?_;exact k.1):p:=h ⟨k⟩
theorem Qu (k:q) (h:Wr q→p:=by intro k;refine Zb _ rfl rfl rfl (op_fam rfl rfl rfl ?_);exact k.1):p:=h ⟨k⟩
theorem Qam (k:q) (h:Wr q→p:=by intro k;refine c_block ?_;exact k.1):p:=h ⟨k⟩
theorem Qd (k:q) (h:Wr q→p:=by intro k;refine Zm _ rfl rfl rfl rfl rfl (op_move rfl rfl ?_);exact k.1):p:=h ⟨k⟩
theorem Qbi (k:q) (h:Wr q→p:=by intro k;refine Zb _ rfl rfl rfl (op_fac rfl rfl rfl rfl ?_);exact k.1):p:=h ⟨k⟩
theorem QbG (k:q) (h:Wr q→p:=by intro k;refine Zb _ rfl rfl rfl (op_lc1 rfl rfl rfl rfl ?_);exact k.1):p:=h ⟨k⟩
theorem Q5 (k:q) (h:Wr q→p:=by intro k;refine c_start ?_;exact k.1):p:=h ⟨k⟩
theorem QcY (k:q) (h:Wr q→p:=by intro k;refine AOps.gu _ rfl rfl rfl rfl rfl ?_;exact k.1):p:=h ⟨k⟩
theorem QaI (k:q) (h:Wr q→p:=by intro k;refine Zb _ rfl rfl rfl (op_add rfl rfl rfl (IntWalk.i64_in _ by18) ?_);exact k.1):p:=h ⟨k⟩
theorem QaJ (k:q) (h:Wr q→p:=by intro k;refine DOps.gf _ rfl rfl rfl rfl ?_;exact k.1):p:=h ⟨k⟩
theorem QV (k:q) (h:Wr q→p:=by intro k;refine Zm _ rfl rfl rfl rfl rfl (op_pick rfl rfl rfl ?_);exact k.1):p:=h ⟨k⟩
theorem Qk (k:q) (h:Wr q→p:=by intro k;refine Zb _ rfl rfl rfl (op_lss rfl rfl rfl ?_);exact k.1):p:=h ⟨k⟩
theorem Qj (k:q) (h:Wr q→p:=by intro k;refine Zb _ rfl rfl rfl (op_eql rfl rfl rfl ?_);exact k.1):p:=h ⟨k⟩
theorem QcE (k:q) (h:Wr q→p:=by intro k;refine Zb _ rfl rfl rfl (op_lm1 (i:=0) rfl rfl rfl rfl rfl ?_);exact k.1):p:=h ⟨k⟩
theorem QB (k:q) (h:Wr q→p:=by intro k;refine Zh _ (none) rfl rfl rfl rfl rfl (op_fam rfl rfl rfl ⟨rfl,rfl⟩) ?_;exact k.1):p:=h ⟨k⟩
theorem Qp (k:q) (h:Wr q→p:=by intro k;refine Zh _ (none) rfl rfl rfl rfl rfl (op_move rfl rfl ⟨rfl,rfl⟩) ?_;exact k.1):p:=h ⟨k⟩
theorem QcZ (k:q) (h:Wr q→p:=by intro k;refine Zm _ rfl rfl rfl rfl rfl (op_fac rfl rfl rfl rfl ?_);exact k.1):p:=h ⟨k⟩
theorem QR (k:q) (h:Wr q→p:=by intro k;refine Zu _ rfl rfl (op_move rfl rfl ⟨rfl,rfl⟩) ?_;exact k.1):p:=h ⟨k⟩
theorem QdV (k:q) (h:Wr q→p:=by intro k;refine Zm _ rfl rfl rfl rfl rfl (op_lc1 rfl rfl rfl rfl ?_);exact k.1):p:=h ⟨k⟩
theorem Qbj (k:q) (h:Wr q→p:=by intro k;refine Zb _ rfl rfl rfl (op_lm1 (i:=1) rfl rfl rfl rfl rfl ?_);exact k.1):p:=h ⟨k⟩
theorem QI (k:q) (h:Wr q→p:=by intro k;refine Zb _ rfl rfl rfl (Yl (cs':=[_,_,_,_,_,_,_,_,_,_,_]) rfl tz_58 rfl rfl ?_);exact k.1):p:=h ⟨k⟩
theorem Qan (k:q) (h:Wr q→p:=by intro k;refine Zm _ rfl rfl rfl rfl rfl (op_eql rfl rfl rfl ?_);exact k.1):p:=h ⟨k⟩
theorem Qz (k:q) (h:Wr q→p:=by intro k;refine Zb _ rfl rfl rfl (Yl (cs':=[_,_,_,_]) rfl tz_72 rfl rfl ?_);exact k.1):p:=h ⟨k⟩
theorem Qdt (k:q) (h:Wr q→p:=by intro k;refine Zu _ rfl rfl (op_lc1 rfl rfl rfl rfl ⟨rfl,rfl⟩) ?_;exact k.1):p:=h ⟨k⟩
theorem QdW (k:q) (h:Wr q→p:=by intro k;refine Zu _ rfl rfl (op_fac rfl rfl rfl rfl ⟨rfl,rfl⟩) ?_;exact k.1):p:=h ⟨k⟩
theorem Qb2 (k:q) (h:Wr q→p:=by intro k;refine Zb _ rfl rfl rfl (op_extract rfl rfl rfl ?_);exact k.1):p:=h ⟨k⟩
theorem QaT (k:q) (h:Wr q→p:=by intro k;(refine Zu _ rfl rfl (op_sadd rfl rfl rfl (by first|omega|(simp only [ByteArray.size_append];omega)) ⟨rfl,rfl⟩) ?_);exact k.1):p:=h ⟨k⟩
theorem QS (k:q) (h:Wr q→p:=by intro k;refine Zp rfl rfl (Zi (cs':=[_,_,_,_,_,_,_,_,_,_,_]) (i:=0) rfl ts_58 rfl rfl rfl rfl rfl (Xm rfl) rfl ?_);exact k.1):p:=h ⟨k⟩
theorem QD (k:q) (h:Wr q→p:=by intro k;(refine Zb _ rfl rfl rfl (op_sadd rfl rfl rfl (by first|omega|(simp only [ByteArray.size_append];omega)) ?_));exact k.1):p:=h ⟨k⟩
theorem QaC (k:q) (h:Wr q→p:=by intro k;refine Zh _ (none) rfl rfl rfl rfl rfl (Zz (cs':=[_,_,_,_,_,_]) rfl ta_92 rfl rfl rfl ⟨rfl,rfl⟩) ?_;exact k.1):p:=h ⟨k⟩
theorem Q6 (k:q) (h:Wr q→p:=by intro k;refine Zp rfl rfl (Zi (cs':=[_,_,_,_]) (i:=0) rfl ts_72 rfl rfl rfl rfl rfl (Xm rfl) rfl ?_);exact k.1):p:=h ⟨k⟩
theorem Qao (k:q) (h:Wr q→p:=by intro k;refine Zb _ rfl rfl rfl (op_neq rfl rfl rfl ?_);exact k.1):p:=h ⟨k⟩
theorem QbH (k:q) (h:Wr q→p:=by intro k;refine Zb _ rfl rfl rfl (Zv (cs':=[_,_,_,_]) (i:=0) rfl Yd rfl rfl rfl rfl ?_);exact k.1):p:=h ⟨k⟩
theorem QT (k:q) (h:Wr q→p:=by intro k;refine Zb _ rfl rfl rfl (op_sub rfl rfl rfl (IntWalk.i64_in _ by18) ?_);exact k.1):p:=h ⟨k⟩
theorem Qb3 (k:q) (h:Wr q→p:=by intro k;refine Zp rfl rfl (Zi (cs':=[_,_,_,_]) (i:=1) rfl ts_72 rfl rfl rfl rfl rfl (Xm rfl) rfl ?_);exact k.1):p:=h ⟨k⟩
theorem QW (k:q) (h:Wr q→p:=by intro k;refine Zb _ rfl rfl rfl (Yk rfl tu_44 rfl (.seq _ _) ?_);exact k.1):p:=h ⟨k⟩
theorem Q0 (k:q) (h:Wr q→p:=by intro k;refine Zb _ rfl rfl rfl (op_gtr rfl rfl rfl ?_);exact k.1):p:=h ⟨k⟩
theorem Qb4 (k:q) (h:Wr q→p:=by intro k;refine Zm _ rfl rfl rfl rfl rfl (op_fam rfl rfl rfl ?_);exact k.1):p:=h ⟨k⟩
theorem Qbk (k:q) (h:Wr q→p:=by intro k;refine Yq _ rfl rfl rfl rfl (op_fac rfl rfl rfl rfl ⟨rfl,rfl⟩) ?_;exact k.1):p:=h ⟨k⟩
theorem Qaj (k:q) (h:Wr q→p:=by intro k;refine Zb _ rfl rfl rfl (op_notc rfl rfl ?_);exact k.1):p:=h ⟨k⟩
theorem Qak (k:q) (h:Wr q→p:=by intro k;refine Zb _ rfl rfl rfl (Zv (cs':=[_,_,_,_,_,_,_,_,_,_,_]) (i:=0) rfl Yf rfl rfl rfl rfl ?_);exact k.1):p:=h ⟨k⟩
theorem QdX (k:q) (h:Wr q→p:=by intro k;refine Zh _ (none) rfl rfl rfl rfl rfl (op_lc1 rfl rfl rfl rfl ⟨rfl,rfl⟩) ?_;exact k.1):p:=h ⟨k⟩
theorem QdY (k:q) (h:Wr q→p:=by intro k;refine Zh _ (none) rfl rfl rfl rfl rfl (op_fac rfl rfl rfl rfl ⟨rfl,rfl⟩) ?_;exact k.1):p:=h ⟨k⟩
theorem Qb5 (k:q) (h:Wr q→p:=by intro k;refine c_drawn tmix rfl ?_;exact k.1):p:=h ⟨k⟩
theorem Qas (k:q) (h:Wr q→p:=by intro k;refine Zb _ rfl rfl rfl (op_seql rfl rfl rfl ?_);exact k.1):p:=h ⟨k⟩
theorem Qb6 (k:q) (h:Wr q→p:=by intro k;refine Zb _ rfl rfl rfl (op_len_str rfl tu_9 rfl ?_);exact k.1):p:=h ⟨k⟩
theorem Qdu (k:q) (h:Wr q→p:=by intro k;refine Zp rfl rfl (Zi (cs':=[_,_,_,_]) (i:=0) rfl ts_3 rfl rfl rfl rfl rfl (Xm rfl) rfl ?_);exact k.1):p:=h ⟨k⟩
theorem QaD (k:q) (h:Wr q→p:=by intro k;refine Zm _ rfl rfl rfl rfl rfl (op_neq rfl rfl rfl ?_);exact k.1):p:=h ⟨k⟩
theorem Qb7 (k:q) (h:Wr q→p:=by intro k;refine Yq _ rfl rfl rfl rfl (op_move rfl rfl ⟨rfl,rfl⟩) ?_;exact k.1):p:=h ⟨k⟩
theorem Qb8 (k:q) (h:Wr q→p:=by intro k;refine Zb _ rfl rfl rfl (op_boxc (cs':=[_,_,_,_,_,_]) rfl rfl rfl rfl ?_);exact k.1):p:=h ⟨k⟩
theorem QcF (k:q) (h:Wr q→p:=by intro k;refine Zb _ rfl rfl rfl (op_lm1 (i:=2) rfl rfl rfl rfl rfl ?_);exact k.1):p:=h ⟨k⟩
theorem QaK (k:q) (h:Wr q→p:=by intro k;refine Zu _ rfl rfl (op_pick rfl rfl rfl ⟨rfl,rfl⟩) ?_;exact k.1):p:=h ⟨k⟩
theorem QcG (k:q) (h:Wr q→p:=by intro k;refine Zb _ rfl rfl rfl (op_geq rfl rfl rfl ?_);exact k.1):p:=h ⟨k⟩
theorem QaU (k:q) (h:Wr q→p:=by intro k;refine Zb _ rfl rfl rfl (op_boxc (cs':=[_,_,_,_,_]) rfl rfl rfl rfl ?_);exact k.1):p:=h ⟨k⟩
theorem QaV (k:q) (h:Wr q→p:=by intro k;refine Zb _ rfl rfl rfl (Yl (cs':=[_,_,_,_,_]) rfl tz_63 rfl rfl ?_);exact k.1):p:=h ⟨k⟩
theorem Qa4 (k:q) (h:Wr q→p:=by intro k;refine Zb _ rfl rfl rfl (Yk rfl tu_31 rfl (.seq _ _) ?_);exact k.1):p:=h ⟨k⟩
theorem Qa5 (k:q) (h:Wr q→p:=by intro k;refine Zm _ rfl rfl rfl rfl rfl (op_notc rfl rfl ?_);exact k.1):p:=h ⟨k⟩
theorem QdZ (k:q) (h:Wr q→p:=by intro k;refine Ya [0,1,2,3,4,5,6,7] [3,5,7] [[],[0],[],[2],[2,3],[0,1,2,3,4],[0,1,2,3,4,5],[0,1,2,3,4,5,6]] tmix rfl ?_;exact k.1):p:=h ⟨k⟩
theorem Qbl (k:q) (h:Wr q→p:=by intro k;refine Zb _ rfl rfl rfl (Yk rfl tu_32 rfl (.seq _ _) ?_);exact k.1):p:=h ⟨k⟩
theorem Qdv (k:q) (h:Wr q→p:=by intro k;refine Yq _ rfl rfl rfl rfl (op_lc1 rfl rfl rfl rfl ⟨rfl,rfl⟩) ?_;exact k.1):p:=h ⟨k⟩
theorem Qbs (k:q) (h:Wr q→p:=by intro k;refine Zb _ rfl rfl rfl (Zz (cs':=[_,_,_,_,_,_,_,_,_,_,_]) rfl Yf rfl rfl rfl ?_);exact k.1):p:=h ⟨k⟩
theorem Qbt (k:q) (h:Wr q→p:=by intro k;refine Zu _ rfl rfl (op_fam rfl rfl rfl ⟨rfl,rfl⟩) ?_;exact k.1):p:=h ⟨k⟩
theorem Qbu (k:q) (h:Wr q→p:=by intro k;refine Zh _ (none) rfl rfl rfl rfl rfl (op_assign rfl rfl ⟨rfl,rfl⟩) ?_;exact k.1):p:=h ⟨k⟩
theorem Qbz (k:q) (h:Wr q→p:=by intro k;refine Zb _ rfl rfl rfl (Zv (cs':=[_,_,_,_,_]) (i:=0) rfl ta_63 rfl rfl rfl rfl ?_);exact k.1):p:=h ⟨k⟩
theorem QbA (k:q) (h:Wr q→p:=by intro k;refine Zb _ rfl rfl rfl (Yl (cs':=[_,_,_,_]) rfl tz_28 rfl rfl ?_);exact k.1):p:=h ⟨k⟩
theorem QbI (k:q) (h:Wr q→p:=by intro k;refine Zp rfl rfl (Zi (cs':=[_,_,_,_,_]) (i:=0) rfl ts_63 rfl rfl rfl rfl rfl (Xm rfl) rfl ?_);exact k.1):p:=h ⟨k⟩
theorem QbJ (k:q) (h:Wr q→p:=by intro k;refine Zp rfl rfl (Zi (cs':=[_,_,_,_,_,_,_,_,_,_,_]) (i:=1) rfl ts_58 rfl rfl rfl rfl rfl (Xm rfl) rfl ?_);exact k.1):p:=h ⟨k⟩
theorem QbK (k:q) (h:Wr q→p:=by intro k;refine Zb _ rfl rfl rfl (Zz (cs':=[_,_,_,_,_]) rfl ta_34 rfl rfl rfl ?_);exact k.1):p:=h ⟨k⟩
theorem QbL (k:q) (h:Wr q→p:=by intro k;refine Zu _ rfl rfl (Zv (cs':=[_,_,_]) (i:=0) rfl ta_54 rfl rfl rfl rfl ⟨rfl,rfl⟩) ?_;exact k.1):p:=h ⟨k⟩
theorem QbM (k:q) (h:Wr q→p:=by intro k;refine Zu _ rfl rfl (op_assign rfl rfl ⟨rfl,rfl⟩) ?_;exact k.1):p:=h ⟨k⟩
theorem Qb9 (k:q) (h:Wr q→p:=by intro k;refine Zb _ rfl rfl rfl (op_lm1 (i:=3) rfl rfl rfl rfl rfl ?_);exact k.1):p:=h ⟨k⟩
theorem Qca (k:q) (h:Wr q→p:=by intro k;refine Zp rfl rfl (Zi (cs':=[_,_,_,_,_,_,_,_,_,_,_]) (i:=2) rfl ts_58 rfl rfl rfl rfl rfl (Xm rfl) rfl ?_);exact k.1):p:=h ⟨k⟩
theorem Qcb (k:q) (h:Wr q→p:=by intro k;refine Zb _ rfl rfl rfl (Yl (cs':=[_,_,_]) rfl tz_54 rfl rfl ?_);exact k.1):p:=h ⟨k⟩
theorem Qcc (k:q) (h:Wr q→p:=by intro k;refine Zp rfl rfl (Zi (cs':=[_,_,_]) (i:=0) rfl ts_54 rfl rfl rfl rfl rfl (Xm rfl) rfl ?_);exact k.1):p:=h ⟨k⟩
theorem Qcd (k:q) (h:Wr q→p:=by intro k;refine Zh _ (some 1) rfl rfl rfl rfl rfl (Zv (cs':=[_,_,_,_,_,_]) (i:=0) rfl ta_92 rfl rfl rfl rfl ⟨rfl,rfl⟩) ?_;exact k.1):p:=h ⟨k⟩
theorem QcH (k:q) (h:Wr q→p:=by intro k;refine Zm _ rfl rfl rfl rfl rfl (op_sneq rfl rfl rfl ?_);exact k.1):p:=h ⟨k⟩
theorem QcI (k:q) (h:Wr q→p:=by intro k;refine Zb _ rfl rfl rfl (op_sneq rfl rfl rfl ?_);exact k.1):p:=h ⟨k⟩
theorem QcJ (k:q) (h:Wr q→p:=by intro k;refine Zm _ rfl rfl rfl rfl rfl (op_gtr rfl rfl rfl ?_);exact k.1):p:=h ⟨k⟩
theorem QcK (k:q) (h:Wr q→p:=by intro k;refine Zb _ rfl rfl rfl (Zz (cs':=[_,_,_,_,_,_]) rfl ta_92 rfl rfl rfl ?_);exact k.1):p:=h ⟨k⟩
theorem QcL (k:q) (h:Wr q→p:=by intro k;refine Zs 0 rfl rfl rfl rfl rfl (Zi (cs':=[_,_,_,_,_,_,_,_,_,_,_]) (i:=0) rfl ts_58 rfl rfl rfl rfl rfl (Xm rfl) rfl ⟨_,rfl,?_⟩);exact k.1):p:=h ⟨k⟩
theorem QcM (k:q) (h:Wr q→p:=by intro k;refine Zb _ rfl rfl rfl (op_boxc (cs':=[_,_,_]) rfl rfl rfl rfl ?_);exact k.1):p:=h ⟨k⟩
theorem QcN (k:q) (h:Wr q→p:=by intro k;refine Zb _ rfl rfl rfl (Zz (cs':=[_,_,_]) rfl ta_54 rfl rfl rfl ?_);exact k.1):p:=h ⟨k⟩
theorem QcO (k:q) (h:Wr q→p:=by intro k;refine Zu _ rfl rfl (op_lm1 (i:=0) rfl rfl rfl rfl rfl ⟨rfl,rfl⟩) ?_;exact k.1):p:=h ⟨k⟩
theorem QcP (k:q) (h:Wr q→p:=by intro k;refine Zb _ rfl rfl rfl (Yk rfl tu_56 rfl (.seq _ _) ?_);exact k.1):p:=h ⟨k⟩
theorem QcR (k:q) (h:Wr q→p:=by intro k;refine Zb _ rfl rfl rfl (Yk rfl tu_23 rfl (.seq _ _) ?_);exact k.1):p:=h ⟨k⟩
theorem QcS (k:q) (h:Wr q→p:=by intro k;refine Zb _ rfl rfl rfl (Yj rfl tu_9 rfl rfl rfl (hb) ?_);exact k.1):p:=h ⟨k⟩
theorem QcT (k:q) (h:Wr q→p:=by intro k;refine Zb _ rfl rfl rfl (op_field1 (ft:=3) (fo:=0) rfl (by kernel_rfl) ta_3 rfl rfl ?_);exact k.1):p:=h ⟨k⟩
theorem QcU (k:q) (h:Wr q→p:=by intro k;refine Zb _ rfl rfl rfl (Yl (cs':=[_,_,_,_]) rfl tz_46 rfl rfl ?_);exact k.1):p:=h ⟨k⟩
theorem QcV (k:q) (h:Wr q→p:=by intro k;refine Zp rfl rfl (Zi (cs':=[_,_,_,_]) (i:=0) rfl ts_46 rfl rfl rfl rfl rfl (Xm rfl) rfl ?_);exact k.1):p:=h ⟨k⟩
theorem QcW (k:q) (h:Wr q→p:=by intro k;refine Zb _ rfl rfl rfl (Zv (cs':=[_,_,_,_]) (i:=0) rfl ta_46 rfl rfl rfl rfl ?_);exact k.1):p:=h ⟨k⟩
theorem QcX (k:q) (h:Wr q→p:=by intro k;refine Zb _ rfl rfl rfl (Yl (cs':=[_,_,_,_,_,_,_,_]) rfl tz_49 rfl rfl ?_);exact k.1):p:=h ⟨k⟩
theorem Qc0 (k:q) (h:Wr q→p:=by intro k;refine Zb _ rfl rfl rfl (Yk rfl tu_26 rfl (.seq _ _) ?_);exact k.1):p:=h ⟨k⟩
theorem Qc1 (k:q) (h:Wr q→p:=by intro k;refine Zb _ rfl rfl rfl (op_boxc (cs':=[_,_,_,_,_,_,_,_,_,_,_]) rfl rfl rfl rfl ?_);exact k.1):p:=h ⟨k⟩
theorem Qc2 (k:q) (h:Wr q→p:=by intro k;(refine Zb _ rfl rfl rfl (Zr (i:=0) Xa rfl rfl rfl rfl (.seq _ _) (by simp only [List.length_map,List.length_reverse,List.length_cons,List.length_nil];omega) ?_));exact k.1):p:=h ⟨k⟩
theorem Qc3 (k:q) (h:Wr q→p:=by intro k;refine Zb _ rfl rfl rfl (op_boxc (cs':=[_,_,_,_]) rfl rfl rfl rfl ?_);exact k.1):p:=h ⟨k⟩
theorem Qc4 (k:q) (h:Wr q→p:=by intro k;refine Zm _ rfl rfl rfl rfl rfl (op_leq rfl rfl rfl ?_);exact k.1):p:=h ⟨k⟩
theorem Qc5 (k:q) (h:Wr q→p:=by intro k;refine Zp rfl rfl (Zi (i:=2) rfl ts_3 rfl rfl rfl rfl rfl (Xm rfl) rfl ?_);exact k.1):p:=h ⟨k⟩
theorem Qc6 (k:q) (h:Wr q→p:=by intro k;refine Zp rfl rfl (Zi (i:=3) rfl ts_3 rfl rfl rfl rfl rfl (Xm rfl) rfl ?_);exact k.1):p:=h ⟨k⟩
theorem Qc7 (k:q) (h:Wr q→p:=by intro k;refine Zb _ rfl rfl rfl (Zv (cs':=[_,_,_,_,_,_,_,_,_,_,_]) (i:=1) rfl Yf rfl rfl rfl rfl ?_);exact k.1):p:=h ⟨k⟩
theorem Qc8 (k:q) (h:Wr q→p:=by intro k;refine Zb _ rfl rfl rfl (op_sadd rfl rfl rfl by18 ?_);exact k.1):p:=h ⟨k⟩
theorem Qc9 (k:q) (h:Wr q→p:=by intro k;refine Zh _ (some 0) rfl rfl rfl rfl rfl (Zv (cs':=[_,_,_,_,_,_,_,_,_,_,_]) (i:=0) rfl Yf rfl rfl rfl rfl ⟨rfl,rfl⟩) ?_;exact k.1):p:=h ⟨k⟩
theorem Qda (k:q) (h:Wr q→p:=by intro k;refine Zb _ rfl rfl rfl (Yl (cs':=[_,_,_,_,_]) rfl tz_34 rfl rfl ?_);exact k.1):p:=h ⟨k⟩
theorem Qdb (k:q) (h:Wr q→p:=by intro k;refine Zb _ rfl rfl rfl (Zq rfl te_32 rfl (.seq _ _) rfl rfl (hcq) ?_);exact k.1):p:=h ⟨k⟩
theorem Qdc (k:q) (h:Wr q→p:=by intro k;refine Zp rfl rfl (Zi (cs':=[_,_,_,_]) (i:=0) rfl ts_28 rfl rfl rfl rfl rfl (Xm rfl) rfl ?_);exact k.1):p:=h ⟨k⟩
theorem Qdd (k:q) (h:Wr q→p:=by intro k;refine Zm _ rfl rfl rfl rfl rfl (op_lm1 (i:=1) rfl rfl rfl rfl rfl ?_);exact k.1):p:=h ⟨k⟩
theorem Qde (k:q) (h:Wr q→p:=by intro k;refine Yq _ rfl rfl rfl rfl (Zz (cs':=[_,_,_,_,_,_,_,_,_,_,_]) rfl Yf rfl rfl rfl ⟨rfl,rfl⟩) ?_;exact k.1):p:=h ⟨k⟩
theorem Qdf (k:q) (h:Wr q→p:=by intro k;refine Zm _ rfl rfl rfl rfl rfl (op_lss rfl rfl rfl ?_);exact k.1):p:=h ⟨k⟩
theorem Qdg (k:q) (h:Wr q→p:=by intro k;refine Zb _ rfl rfl rfl (Zd (xs:=[.tmp 48]) el_151 rfl rfl rfl rfl rfl rfl (Xm rfl) ?_);exact k.1):p:=h ⟨k⟩
theorem Qdh (k:q) (h:Wr q→p:=by intro k;(refine Zb _ rfl rfl rfl (Zr (i:=0) el_151 rfl rfl rfl rfl (.seq _ _) by8 ?_));exact k.1):p:=h ⟨k⟩
theorem Qdi (k:q) (h:Wr q→p:=by intro k;refine Zc Tryz.func70 rfl (by kernel_rfl) rfl (Xm rfl) ?_;exact k.1):p:=h ⟨k⟩
theorem Qdj (k:q) (h:Wr q→p:=by intro k;refine Zb _ rfl rfl rfl (Zk (ns:=[3]) (xs:=[.tmp 20]) rfl tz_72 rfl tfl_72 rfl rfl rfl rfl ?_);exact k.1):p:=h ⟨k⟩
theorem Qdk (k:q) (h:Wr q→p:=by intro k;refine Zp rfl rfl (Zi (cs':=[_,_,_,_,_]) (i:=0) rfl ts_3 rfl rfl rfl rfl rfl (Xm rfl) rfl ?_);exact k.1):p:=h ⟨k⟩
theorem Qdl (k:q) (h:Wr q→p:=by intro k;refine Zp rfl rfl (Zi (cs':=[_,_,_,_,_,_,_,_,_,_,_]) (i:=3) rfl ts_58 rfl rfl rfl rfl rfl (Xm rfl) rfl ?_);exact k.1):p:=h ⟨k⟩
theorem Qdm (k:q) (h:Wr q→p:=by intro k;refine Zs 0 rfl rfl rfl rfl rfl (Zi (cs':=[_,_,_,_,_,_,_,_,_,_,_]) (i:=0) rfl ts_55 rfl rfl rfl rfl rfl (Xm rfl) rfl ⟨_,rfl,?_⟩);exact k.1):p:=h ⟨k⟩
theorem Qdn (k:q) (h:Wr q→p:=by intro k;refine Zp rfl rfl (Zi (cs':=[_,_,_,_,_,_,_,_,_,_,_]) (i:=0) rfl ts_3 rfl rfl rfl rfl rfl (Xm rfl) rfl ?_);exact k.1):p:=h ⟨k⟩
theorem Qdo (k:q) (h:Wr q→p:=by intro k;refine Zp rfl rfl (Zi (cs':=[_,_,_,_,_]) (i:=0) rfl ts_34 rfl rfl rfl rfl rfl (Xm rfl) rfl ?_);exact k.1):p:=h ⟨k⟩
theorem Qdp (k:q) (h:Wr q→p:=by intro k;refine Zb _ rfl rfl rfl (Zv (cs':=[_,_,_,_,_]) (i:=0) rfl ta_34 rfl rfl rfl rfl ?_);exact k.1):p:=h ⟨k⟩
theorem Qdq (k:q) (h:Wr q→p:=by intro k;refine Zp rfl rfl (Zi (cs':=[_,_,_,_,_,_,_,_]) (i:=0) rfl ts_49 rfl rfl rfl rfl rfl (Xm rfl) rfl ?_);exact k.1):p:=h ⟨k⟩
theorem Qdr (k:q) (h:Wr q→p:=by intro k;(refine Zm _ rfl rfl rfl rfl rfl (Zq (i:=0) rfl te_55 rfl (.seq _ _) rfl rfl (by first|rfl|assumption) ?_));exact k.1):p:=h ⟨k⟩
theorem Qdw (k:q) (h:Wr q→p:=by intro k;refine Zu _ rfl rfl (Zz (cs':=[_,_,_,_,_]) rfl ta_63 rfl rfl rfl ⟨rfl,rfl⟩) ?_;exact k.1):p:=h ⟨k⟩
theorem Qdx (k:q) (h:Wr q→p:=by intro k;refine Zm _ rfl rfl rfl rfl rfl (Zz (cs':=[_,_,_,_]) rfl ta_46 rfl rfl rfl ?_);exact k.1):p:=h ⟨k⟩
theorem Qdy (k:q) (h:Wr q→p:=by intro k;refine Zm _ rfl rfl rfl rfl rfl (Yk rfl tu_55 rfl (.seq _ _) ?_);exact k.1):p:=h ⟨k⟩
theorem Qdz (k:q) (h:Wr q→p:=by intro k;refine Zm _ rfl rfl rfl rfl rfl (Yk rfl tu_56 rfl (.seq _ _) ?_);exact k.1):p:=h ⟨k⟩
theorem QdA (k:q) (h:Wr q→p:=by intro k;refine Zb _ rfl rfl rfl (Zq rfl te_56 rfl (.seq _ _) rfl rfl by16 ?_);exact k.1):p:=h ⟨k⟩
theorem QdB (k:q) (h:Wr q→p:=by intro k;refine Zb _ rfl rfl rfl (Zd (xs:=[.tmp 49]) Xa rfl rfl rfl rfl rfl rfl (Xm rfl) ?_);exact k.1):p:=h ⟨k⟩
theorem QdC (k:q) (h:Wr q→p:=by intro k;refine Zm _ rfl rfl rfl rfl rfl (Yk rfl tu_32 rfl (.seq _ _) ?_);exact k.1):p:=h ⟨k⟩
theorem QdD (k:q) (h:Wr q→p:=by intro k;refine Yq _ rfl rfl rfl rfl (Zz (cs':=[_,_,_,_]) rfl ta_46 rfl rfl rfl ⟨rfl,rfl⟩) ?_;exact k.1):p:=h ⟨k⟩
theorem QdE (k:q) (h:Wr q→p:=by intro k;refine Zb _ rfl rfl rfl (op_boxc (cs':=[_,_,_,_,_,_,_,_]) rfl rfl rfl rfl ?_);exact k.1):p:=h ⟨k⟩
theorem QdF (k:q) (h:Wr q→p:=by intro k;refine Zm _ rfl rfl rfl rfl rfl (op_len_str rfl tu_9 rfl ?_);exact k.1):p:=h ⟨k⟩
theorem QdG (k:q) (h:Wr q→p:=by intro k;refine Yq _ rfl rfl rfl rfl (op_fam rfl rfl rfl ⟨rfl,rfl⟩) ?_;exact k.1):p:=h ⟨k⟩
theorem QdH (k:q) (h:Wr q→p:=by intro k;refine Zh _ (none) rfl rfl rfl rfl rfl (op_nilCheck_m rfl rfl ⟨rfl,rfl⟩) ?_;exact k.1):p:=h ⟨k⟩
theorem QdI (k:q) (h:Wr q→p:=by intro k;refine Zp rfl rfl (Zi (i:=0) rfl ts_3 rfl rfl rfl rfl rfl (Xm rfl) rfl ?_);exact k.1):p:=h ⟨k⟩
theorem QdJ (k:q) (h:Wr q→p:=by intro k;refine Zb _ rfl rfl rfl (op_field1 (ft:=9) (fo:=1) rfl (by kernel_rfl) ta_9 rfl rfl ?_);exact k.1):p:=h ⟨k⟩
theorem QdK (k:q) (h:Wr q→p:=by intro k;refine Zp rfl rfl (Zi (cs':=[_,_,_,_,_]) (i:=2) rfl ts_63 rfl rfl rfl rfl rfl (Xm rfl) rfl ?_);exact k.1):p:=h ⟨k⟩
theorem QdL (k:q) (h:Wr q→p:=by intro k;refine Zp rfl rfl (Zi (cs':=[_,_,_,_,_]) (i:=1) rfl ts_63 rfl rfl rfl rfl rfl (Xm rfl) rfl ?_);exact k.1):p:=h ⟨k⟩
theorem QdM (k:q) (h:Wr q→p:=by intro k;refine Zb _ rfl rfl rfl (Zv (cs':=[_,_,_,_,_,_,_,_,_,_,_]) (i:=2) rfl Yf rfl rfl rfl rfl ?_);exact k.1):p:=h ⟨k⟩
theorem QdN (k:q) (h:Wr q→p:=by intro k;refine Zc Tryz.func72 rfl (by kernel_rfl) rfl (Xm rfl) ?_;exact k.1):p:=h ⟨k⟩
theorem QdO (k:q) (h:Wr q→p:=by intro k;refine Zb _ rfl rfl rfl (Zq rfl te_32 rfl (.seq _ _) rfl rfl (hcc) ?_);exact k.1):p:=h ⟨k⟩
theorem QdP (k:q) (h:Wr q→p:=by intro k;refine Ya [0,1,2,3,4,5] [5] [[],[],[1],[],[0,1,2,3],[0,1,2,3,4]] tmix rfl ?_;exact k.1):p:=h ⟨k⟩
theorem QdR (k:q) (h:Wr q→p:=by intro k;refine Zh _ (some 0) rfl rfl rfl rfl rfl (Zv (cs':=[_,_,_]) (i:=0) rfl ta_54 rfl rfl rfl rfl ⟨rfl,rfl⟩) ?_;exact k.1):p:=h ⟨k⟩
theorem QdS (k:q) (h:Wr q→p:=by intro k;refine Zb _ rfl rfl rfl (Zq rfl te_31 rfl (.seq _ _) rfl rfl (hcq) ?_);exact k.1):p:=h ⟨k⟩
theorem QdT (k:q) (h:Wr q→p:=by intro k;refine Zb _ rfl rfl rfl (Zv (cs':=[_,_,_,_]) (i:=0) rfl ta_28 rfl rfl rfl rfl ?_);exact k.1):p:=h ⟨k⟩
theorem QdU (k:q) (h:Wr q→p:=by intro k;refine Zp rfl rfl (Zi (cs':=[_,_,_,_]) (i:=2) rfl ts_28 rfl rfl rfl rfl rfl (Xm rfl) rfl ?_);exact k.1):p:=h ⟨k⟩
theorem Qd0 (k:q) (h:Wr q→p:=by intro k;refine Zm _ rfl rfl rfl rfl rfl (op_seql rfl rfl rfl ?_);exact k.1):p:=h ⟨k⟩
theorem Qd1 (k:q) (h:Wr q→p:=by intro k;refine Zb _ rfl rfl rfl (Yk rfl tu_61 rfl (.seq _ _) ?_);exact k.1):p:=h ⟨k⟩
theorem Qd2 (k:q) (h:Wr q→p:=by intro k;refine Zb _ rfl rfl rfl (Yk rfl tu_55 rfl (.seq _ _) ?_);exact k.1):p:=h ⟨k⟩
theorem Qd3 (k:q) (h:Wr q→p:=by intro k;refine Zb _ rfl rfl rfl (Zq rfl te_31 rfl (.seq _ _) rfl rfl by16 ?_);exact k.1):p:=h ⟨k⟩
theorem Qd4 (k:q) (h:Wr q→p:=by intro k;refine Zm _ rfl rfl rfl rfl rfl (op_geq rfl rfl rfl ?_);exact k.1):p:=h ⟨k⟩
theorem Qd5 (k:q) (h:Wr q→p:=by intro k;refine Zp rfl rfl (Zi (cs':=[_,_,_,_]) (i:=0) rfl ts_9 rfl rfl rfl rfl rfl (Xm rfl) rfl ?_);exact k.1):p:=h ⟨k⟩
theorem Qd6 (k:q) (h:Wr q→p:=by intro k;refine Zb _ rfl rfl rfl (Yj rfl tu_9 rfl rfl rfl (hb') ?_);exact k.1):p:=h ⟨k⟩
theorem Qd7 (k:q) (h:Wr q→p:=by intro k;refine Zb _ rfl rfl rfl (op_substr rfl tu_9 rfl rfl rfl (i:=F) (j:=n) rfl rfl by18 by18 ?_);exact k.1):p:=h ⟨k⟩
theorem Qd8 (k:q) (h:Wr q→p:=by intro k;refine Zu _ rfl rfl (op_lm1 (i:=1) rfl rfl rfl rfl rfl ⟨rfl,rfl⟩) ?_;exact k.1):p:=h ⟨k⟩
theorem Qd9 (k:q) (h:Wr q→p:=by intro k;refine Zp rfl rfl (Zi (cs':=[_,_,_,_]) (i:=1) rfl ts_46 rfl rfl rfl rfl rfl (Xm rfl) rfl ?_);exact k.1):p:=h ⟨k⟩
theorem Qea (k:q) (h:Wr q→p:=by intro k;refine Zp rfl rfl (Zi (cs':=[_,_,_,_]) (i:=2) rfl ts_46 rfl rfl rfl rfl rfl (Xm rfl) rfl ?_);exact k.1):p:=h ⟨k⟩
theorem Qeb (k:q) (h:Wr q→p:=by intro k;refine Zp rfl rfl (Zi (cs':=[_,_,_,_,_]) (i:=0) rfl ts_9 rfl rfl rfl rfl rfl (Xm rfl) rfl ?_);exact k.1):p:=h ⟨k⟩
theorem Qec (k:q) (h:Wr q→p:=by intro k;refine Zc Tryz.func106 rfl (by kernel_rfl) rfl (Xm rfl) ?_;exact k.1):p:=h ⟨k⟩
theorem Qed (k:q) (h:Wr q→p:=by intro k;refine Zc Tryz.func95 rfl (by kernel_rfl) rfl (Xm rfl) ?_;exact k.1):p:=h ⟨k⟩
theorem Qee (k:q) (h:Wr q→p:=by intro k;refine Zb _ rfl rfl rfl (Zk (ns:=[7]) (xs:=[.tmp 12]) rfl tz_58 rfl tfl_58 rfl rfl rfl rfl ?_);exact k.1):p:=h ⟨k⟩
theorem Qef (k:q) (h:Wr q→p:=by intro k;refine Zp rfl rfl (Zi (cs':=[_,_,_,_,_,_,_,_,_,_,_]) (i:=0) rfl ts_9 rfl rfl rfl rfl rfl (Xm rfl) rfl ?_);exact k.1):p:=h ⟨k⟩
theorem Qeg (k:q) (h:Wr q→p:=by intro k;refine Zm _ rfl rfl rfl rfl rfl (op_nilCheck_m rfl rfl ?_);exact k.1):p:=h ⟨k⟩
theorem Qeh (k:q) (h:Wr q→p:=by intro k;refine Zb _ rfl rfl rfl (Zk (ns:=[]) (xs:=[]) rfl tz_58 rfl tfl_58 rfl rfl rfl rfl ?_);exact k.1):p:=h ⟨k⟩
theorem Qei (k:q) (h:Wr q→p:=by intro k;refine Zp rfl rfl (Zi (cs':=[_,_,_,_,_,_,_,_]) (i:=1) rfl ts_49 rfl rfl rfl rfl rfl (Xm rfl) rfl ?_);exact k.1):p:=h ⟨k⟩
theorem Qej (k:q) (h:Wr q→p:=by intro k;refine Zc Tryz.func64 rfl (by kernel_rfl) rfl (Xm rfl) ?_;exact k.1):p:=h ⟨k⟩
theorem Qek (k:q) (h:Wr q→p:=by intro k;refine Ya [0,1,2,3,4,5,6,7,8,9,10] [8,10] [[],[],[],[2],[1,2,3],[],[0,1,2,3,4,5],[],[0,1,2,3,4,5,6,7],[0,1,2,3,4,5,6,7,8],[0,1,2,3,4,5,6,7,8,9]] tmix rfl ?_;exact k.1):p:=h ⟨k⟩
theorem Qel (k:q) (h:Wr q→p:=by intro k;refine Zs 0 rfl rfl rfl rfl rfl (Zi (cs':=[_,_,_,_,_,_,_,_,_,_,_,_,_]) (i:=0) rfl ts_9 rfl rfl rfl rfl rfl (Xm rfl) rfl ⟨_,rfl,?_⟩);exact k.1):p:=h ⟨k⟩
theorem Qem (k:q) (h:Wr q→p:=by intro k;refine Zs 0 rfl rfl rfl rfl rfl (Zi (cs':=[_,_,_,_,_,_,_,_,_,_,_,_,_]) (i:=0) rfl ts_58 rfl rfl rfl rfl rfl (Xm rfl) rfl ⟨_,rfl,?_⟩);exact k.1):p:=h ⟨k⟩
theorem Qen (k:q) (h:Wr q→p:=by intro k;refine Zc Tryz.func102 rfl (by kernel_rfl) rfl (Xm rfl) ?_;exact k.1):p:=h ⟨k⟩
theorem Qeo (k:q) (h:Wr q→p:=by intro k;refine Zs 0 rfl rfl rfl rfl rfl (Zi (cs':=[_,_,_,_]) (i:=0) rfl ts_23 rfl rfl rfl rfl rfl (Xm rfl) rfl ⟨_,rfl,?_⟩);exact k.1):p:=h ⟨k⟩
theorem Qep (k:q) (h:Wr q→p:=by intro k;refine Zs 0 rfl rfl rfl rfl rfl (Zi (cs':=[_,_,_,_]) (i:=0) rfl ts_25 rfl rfl rfl rfl rfl (Xm rfl) rfl ⟨_,rfl,?_⟩);exact k.1):p:=h ⟨k⟩
theorem Qeq (k:q) (h:Wr q→p:=by intro k;refine Zm _ rfl rfl rfl rfl rfl (Yk rfl tu_26 rfl (.seq _ _) ?_);exact k.1):p:=h ⟨k⟩
theorem Qer (k:q) (h:Wr q→p:=by intro k;refine Zb _ rfl rfl rfl (Yl (cs':=[_,_]) rfl tz_38 rfl rfl ?_);exact k.1):p:=h ⟨k⟩
theorem Qes (k:q) (h:Wr q→p:=by intro k;refine Zb _ rfl rfl rfl (Zq rfl te_23 rfl (.seq _ _) rfl rfl (hcq) ?_);exact k.1):p:=h ⟨k⟩
theorem Qet (k:q) (h:Wr q→p:=by intro k;refine Zh _ (none) rfl rfl rfl rfl rfl (Zk (ns:=[]) (xs:=[]) (cs':=[_,_,_,_]) rfl tz_28 rfl tfl_28 rfl rfl rfl rfl ⟨rfl,rfl⟩) ?_;exact k.1):p:=h ⟨k⟩
theorem Qeu (k:q) (h:Wr q→p:=by intro k;refine Zs 4 rfl rfl rfl rfl rfl (Zi (cs':=[_,_,_,_]) (i:=0) rfl ts_28 rfl rfl rfl rfl rfl (Xm rfl) rfl ⟨_,rfl,?_⟩);exact k.1):p:=h ⟨k⟩
theorem Qev (k:q) (h:Wr q→p:=by intro k;refine Zu _ rfl rfl (Zq rfl te_31 rfl (.seq _ _) rfl rfl by16 ⟨rfl,rfl⟩) ?_;exact k.1):p:=h ⟨k⟩
theorem Qew (k:q) (h:Wr q→p:=by intro k;refine Zu _ rfl rfl (Zq rfl te_44 rfl (.seq _ _) rfl rfl by16 ⟨rfl,rfl⟩) ?_;exact k.1):p:=h ⟨k⟩
theorem Qex (k:q) (h:Wr q→p:=by intro k;refine Zu _ rfl rfl (Zz (cs':=[_,_,_,_]) rfl ta_46 rfl rfl rfl ⟨rfl,rfl⟩) ?_;exact k.1):p:=h ⟨k⟩
theorem Qey (k:q) (h:Wr q→p:=by intro k;refine Zu _ rfl rfl (Zq rfl te_61 rfl (.seq _ _) rfl rfl by16 ⟨rfl,rfl⟩) ?_;exact k.1):p:=h ⟨k⟩
theorem Qez (k:q) (h:Wr q→p:=by intro k;refine Zu _ rfl rfl (Zq rfl te_26 rfl (.seq _ _) rfl rfl by16 ⟨rfl,rfl⟩) ?_;exact k.1):p:=h ⟨k⟩
theorem QeA (k:q) (h:Wr q→p:=by intro k;refine Yq _ rfl rfl rfl rfl (Zq rfl te_26 rfl (.seq _ _) rfl rfl by16 ⟨rfl,rfl⟩) ?_;exact k.1):p:=h ⟨k⟩
theorem QeB (k:q) (h:Wr q→p:=by intro k;refine Zu _ rfl rfl (Zq rfl te_56 rfl (.seq _ _) rfl rfl by16 ⟨rfl,rfl⟩) ?_;exact k.1):p:=h ⟨k⟩
theorem QeC (k:q) (h:Wr q→p:=by intro k;refine Yq _ rfl rfl rfl rfl (Zq rfl te_56 rfl (.seq _ _) rfl rfl by16 ⟨rfl,rfl⟩) ?_;exact k.1):p:=h ⟨k⟩
theorem QeD (k:q) (h:Wr q→p:=by intro k;refine Zu _ rfl rfl (Zq rfl te_55 rfl (.seq _ _) rfl rfl by16 ⟨rfl,rfl⟩) ?_;exact k.1):p:=h ⟨k⟩
theorem QeE (k:q) (h:Wr q→p:=by intro k;refine Zu _ rfl rfl (Zz (cs':=[_,_,_,_,_,_,_,_,_,_,_]) rfl Yf rfl rfl rfl ⟨rfl,rfl⟩) ?_;exact k.1):p:=h ⟨k⟩
theorem QeF (k:q) (h:Wr q→p:=by intro k;refine Zb _ rfl rfl rfl (Zr (i:=0) Xa rfl rfl rfl rfl (.seq _ _) by18 ?_);exact k.1):p:=h ⟨k⟩
theorem QeG (k:q) (h:Wr q→p:=by intro k;refine Zb _ rfl rfl rfl (Zq rfl te_26 rfl (.seq _ _) rfl rfl by16 ?_);exact k.1):p:=h ⟨k⟩
theorem QeH (k:q) (h:Wr q→p:=by intro k;refine Zb _ rfl rfl rfl (Zd (xs:=[.tmp 26]) Xa rfl rfl rfl rfl rfl rfl (Xm rfl) ?_);exact k.1):p:=h ⟨k⟩
theorem QeI (k:q) (h:Wr q→p:=by intro k;refine Zu _ rfl rfl (Zq rfl te_32 rfl (.seq _ _) rfl rfl by16 ⟨rfl,rfl⟩) ?_;exact k.1):p:=h ⟨k⟩
theorem QeJ (k:q) (h:Wr q→p:=by intro k;refine Yq _ rfl rfl rfl rfl (Zq rfl te_32 rfl (.seq _ _) rfl rfl by16 ⟨rfl,rfl⟩) ?_;exact k.1):p:=h ⟨k⟩
theorem QeK (k:q) (h:Wr q→p:=by intro k;refine Zu _ rfl rfl (Zq rfl te_75 rfl (.seq _ _) rfl rfl by16 ⟨rfl,rfl⟩) ?_;exact k.1):p:=h ⟨k⟩
theorem QeL (k:q) (h:Wr q→p:=by intro k;refine Yq _ rfl rfl rfl rfl (Zq rfl te_75 rfl (.seq _ _) rfl rfl by16 ⟨rfl,rfl⟩) ?_;exact k.1):p:=h ⟨k⟩
theorem QeM (k:q) (h:Wr q→p:=by intro k;refine Zu _ rfl rfl (Zq rfl te_47 rfl (.seq _ _) rfl rfl by16 ⟨rfl,rfl⟩) ?_;exact k.1):p:=h ⟨k⟩
theorem QeN (k:q) (h:Wr q→p:=by intro k;refine Yq _ rfl rfl rfl rfl (Zq rfl te_47 rfl (.seq _ _) rfl rfl by16 ⟨rfl,rfl⟩) ?_;exact k.1):p:=h ⟨k⟩
theorem QeO (k:q) (h:Wr q→p:=by intro k;refine Zu _ rfl rfl (Zq rfl te_25 rfl (.seq _ _) rfl rfl by16 ⟨rfl,rfl⟩) ?_;exact k.1):p:=h ⟨k⟩
theorem QeP (k:q) (h:Wr q→p:=by intro k;refine Zu _ rfl rfl (Zz (cs':=[_,_,_,_,_,_,_,_]) rfl ta_49 rfl rfl rfl ⟨rfl,rfl⟩) ?_;exact k.1):p:=h ⟨k⟩
theorem QeR (k:q) (h:Wr q→p:=by intro k;refine Zu _ rfl rfl (Zq rfl te_24 rfl (.seq _ _) rfl rfl by16 ⟨rfl,rfl⟩) ?_;exact k.1):p:=h ⟨k⟩
theorem QeS (k:q) (h:Wr q→p:=by intro k;refine Zu _ rfl rfl (Zz (cs':=[_,_,_,_,_,_]) rfl ta_77 rfl rfl rfl ⟨rfl,rfl⟩) ?_;exact k.1):p:=h ⟨k⟩
theorem QeT (k:q) (h:Wr q→p:=by intro k;refine Zu _ rfl rfl (Zq rfl te_23 rfl (.seq _ _) rfl rfl by16 ⟨rfl,rfl⟩) ?_;exact k.1):p:=h ⟨k⟩
theorem QeU (k:q) (h:Wr q→p:=by intro k;refine Zu _ rfl rfl (Zz (cs':=[_,_,_,_,_]) rfl ta_34 rfl rfl rfl ⟨rfl,rfl⟩) ?_;exact k.1):p:=h ⟨k⟩
theorem QeV (k:q) (h:Wr q→p:=by intro k;refine Zb _ rfl rfl rfl (op_convert rfl tu_5 tu_3 rfl (IntWalk.i64_in _ by18) ?_);exact k.1):p:=h ⟨k⟩
theorem QeW (k:q) (h:Wr q→p:=by intro k;refine Zm _ rfl rfl rfl rfl rfl (op_add rfl rfl rfl (IntWalk.i64_in _ by18) ?_);exact k.1):p:=h ⟨k⟩
theorem QeX (k:q) (h:Wr q→p:=by intro k;(refine Zm _ rfl rfl rfl rfl rfl (Yj (i:=0) rfl tu_9 rfl rfl by12 (hz0) ?_));exact k.1):p:=h ⟨k⟩
theorem QeY (k:q) (h:Wr q→p:=by intro k;refine Zb _ rfl rfl rfl (Zk (ns:=[]) (xs:=[]) rfl tz_72 rfl tfl_72 rfl rfl rfl rfl ?_);exact k.1):p:=h ⟨k⟩
theorem QeZ (k:q) (h:Wr q→p:=by intro k;refine Zb _ rfl rfl rfl (Zk (ns:=[]) (xs:=[]) rfl tz_46 rfl tfl_46 rfl rfl rfl rfl ?_);exact k.1):p:=h ⟨k⟩
theorem Qe0 (k:q) (h:Wr q→p:=by intro k;refine Zc Tryz.func111 rfl (by kernel_rfl) rfl (Xm rfl) ?_;exact k.1):p:=h ⟨k⟩
theorem Qe1 (k:q) (h:Wr q→p:=by intro k;refine Zb _ rfl rfl rfl (Zk (ns:=[4]) (xs:=[.tmp 8]) rfl tz_63 rfl tfl_63 rfl rfl rfl rfl ?_);exact k.1):p:=h ⟨k⟩
theorem Qe2 (k:q) (h:Wr q→p:=by intro k;refine Zs 0 rfl rfl rfl rfl rfl (Zi (cs':=[_,_,_,_,_]) (i:=0) rfl ts_61 rfl rfl rfl rfl rfl (Xm rfl) rfl ⟨_,rfl,?_⟩);exact k.1):p:=h ⟨k⟩
theorem Qe3 (k:q) (h:Wr q→p:=by intro k;(refine Zm _ rfl rfl rfl rfl rfl (Zq (i:=(j - 1)) rfl te_31 rfl (.seq _ _) rfl by12 (strs_at (ops:=ops) (i:=j - 1) by18) ?_));exact k.1):p:=h ⟨k⟩
theorem Qe4 (k:q) (h:Wr q→p:=by intro k;refine Zp rfl rfl (Zi (cs':=[_,_,_,_,_,_,_,_,_,_,_]) (i:=4) rfl ts_58 rfl rfl rfl rfl rfl (Xm rfl) rfl ?_);exact k.1):p:=h ⟨k⟩
theorem Qe5 (k:q) (h:Wr q→p:=by intro k;refine Zb _ rfl rfl rfl (Yl (cs':=[_,_,_,_,_,_,_,_,_,_,_,_,_]) rfl tz_60 rfl rfl ?_);exact k.1):p:=h ⟨k⟩
theorem Qe6 (k:q) (h:Wr q→p:=by intro k;refine Zp rfl rfl (Zi (cs':=[_,_,_,_,_,_,_,_,_,_,_]) (i:=0) rfl ts_2 rfl rfl rfl rfl rfl (Xm rfl) rfl ?_);exact k.1):p:=h ⟨k⟩
theorem Qe7 (k:q) (h:Wr q→p:=by intro k;refine Zb _ rfl rfl rfl (Yl (cs':=[_,_,_,_,_,_,_,_,_,_,_,_,_,_,_,_]) rfl tz_65 rfl rfl ?_);exact k.1):p:=h ⟨k⟩
theorem Qe8 (k:q) (h:Wr q→p:=by intro k;refine Zp rfl rfl (Zi (cs':=[_,_,_,_,_,_,_,_,_,_,_,_,_,_,_,_]) (i:=0) rfl ts_65 rfl rfl rfl rfl rfl (Xm rfl) rfl ?_);exact k.1):p:=h ⟨k⟩
theorem Qe9 (k:q) (h:Wr q→p:=by intro k;refine Zs 0 rfl rfl rfl rfl rfl (Zi (cs':=[_,_,_,_,_,_,_,_,_,_,_]) (i:=0) rfl ts_26 rfl rfl rfl rfl rfl (Xm rfl) rfl ⟨_,rfl,?_⟩);exact k.1):p:=h ⟨k⟩
theorem Qfa (k:q) (h:Wr q→p:=by intro k;refine Zp rfl rfl (Zi (cs':=[_,_,_,_,_]) (i:=2) rfl ts_34 rfl rfl rfl rfl rfl (Xm rfl) rfl ?_);exact k.1):p:=h ⟨k⟩
theorem Qfb (k:q) (h:Wr q→p:=by intro k;refine Zb _ rfl rfl rfl (Zv (cs':=[_,_,_]) (i:=0) rfl ta_54 rfl rfl rfl rfl ?_);exact k.1):p:=h ⟨k⟩
theorem Qfc (k:q) (h:Wr q→p:=by intro k;refine Zb _ rfl rfl rfl (Zv (cs':=[_,_,_,_,_,_]) (i:=3) rfl ta_77 rfl rfl rfl rfl ?_);exact k.1):p:=h ⟨k⟩
theorem Qfd (k:q) (h:Wr q→p:=by intro k;refine Zp rfl rfl (Zi (cs':=[_,_,_,_,_,_]) (i:=1) rfl ts_77 rfl rfl rfl rfl rfl (Xm rfl) rfl ?_);exact k.1):p:=h ⟨k⟩
theorem Qfe (k:q) (h:Wr q→p:=by intro k;refine Zh _ (some 3) rfl rfl rfl rfl rfl (op_lm1 (i:=0) rfl rfl rfl rfl rfl ⟨rfl,rfl⟩) ?_;exact k.1):p:=h ⟨k⟩
theorem Qff (k:q) (h:Wr q→p:=by intro k;refine Zb _ rfl rfl rfl (Zv (cs':=[_,_,_,_,_,_,_,_]) (i:=3) rfl ta_49 rfl rfl rfl rfl ?_);exact k.1):p:=h ⟨k⟩
theorem Qfg (k:q) (h:Wr q→p:=by intro k;refine Zb _ rfl rfl rfl (Zd (xs:=[.tmp 34]) el_61 rfl rfl rfl rfl rfl rfl (Xm rfl) ?_);exact k.1):p:=h ⟨k⟩
theorem Qfh (k:q) (h:Wr q→p:=by intro k;(refine Zb _ rfl rfl rfl (Zr (i:=3) el_61 rfl rfl rfl rfl (.seq _ _) (by simp only [List.length_map,List.length_reverse,List.length_cons,List.length_nil];omega) ?_));exact k.1):p:=h ⟨k⟩
theorem Qfi (k:q) (h:Wr q→p:=by intro k;refine Zp rfl rfl (Zi (cs':=[_,_,_,_,_]) (i:=1) rfl ts_61 rfl rfl rfl rfl rfl (Xm rfl) rfl ?_);exact k.1):p:=h ⟨k⟩
theorem Qfj (k:q) (h:Wr q→p:=by intro k;refine Zs 2 rfl rfl rfl rfl rfl (Zi (cs':=[_,_,_,_,_,_,_,_,_,_,_]) (i:=0) rfl ts_58 rfl rfl rfl rfl rfl (Xm rfl) rfl ⟨_,rfl,?_⟩);exact k.1):p:=h ⟨k⟩
theorem Qfk (k:q) (h:Wr q→p:=by intro k;refine Ya [0,1,2,3,4,5,6,7,8,9] [8] [[],[],[],[1,2],[],[1,2,3,4],[1,2,3,4,5],[1,2,3,4,5,6],[0,1,2,3,4,5,6,7],[0,1,2,3,4,5,6,7,8]] tmix rfl ?_;exact k.1):p:=h ⟨k⟩
theorem Qfl (k:q) (h:Wr q→p:=by intro k;refine Ya [0,1,2,3,4,5,6,7,8,9,10,11,12,13,14,15,16,17] [17] [[],[],[],[1,2],[],[],[],[],[1,2,3,7],[1,2,3,6,7,8],[1,2,3,6,7,8,9],[1,2,3,5,6,7,8,9,10],[],[1,2,3,5,6,7,8,9,10,11,12],[1,2,3,4,5,6,7,8,9,10,11,12,13],[1,2,3,4,5,6,7,8,9,10,11,12,13,14],[0,1,2,3,4,5,6,7,8,9,10,11,12,13,14,15],[0,1,2,3,4,5,6,7,8,9,10,11,12,13,14,15,16]] tmix rfl ?_;exact k.1):p:=h ⟨k⟩
theorem Qfm (k:q) (h:Wr q→p:=by intro k;refine Zh _ (none) rfl rfl rfl rfl rfl (Zd (xs:=[.tmp 48]) Xa rfl rfl rfl rfl rfl rfl (Xm rfl) ⟨rfl,rfl⟩) ?_;exact k.1):p:=h ⟨k⟩
theorem Qfn (k:q) (h:Wr q→p:=by intro k;refine Zh _ (none) rfl rfl rfl rfl rfl (Zd (xs:=[.tmp 50,.tmp 51]) Xa rfl rfl rfl rfl rfl rfl (Xm rfl) ⟨rfl,rfl⟩) ?_;exact k.1):p:=h ⟨k⟩
theorem Qfo (k:q) (h:Wr q→p:=by intro k;refine Zh _ (none) rfl rfl rfl rfl rfl (Zd (xs:=[.tmp 42,.tmp 53]) Xa rfl rfl rfl rfl rfl rfl (Xm rfl) ⟨rfl,rfl⟩) ?_;exact k.1):p:=h ⟨k⟩
theorem Qfp (k:q) (h:Wr q→p:=by intro k;refine Zb _ rfl rfl rfl (Zk (ns:=[]) (xs:=[]) (cs':=[_,_,_,_,_,_,_,_]) rfl tz_49 rfl tfl_49 rfl rfl rfl rfl ?_);exact k.1):p:=h ⟨k⟩
theorem Qfq (k:q) (h:Wr q→p:=by intro k;refine Zh _ (none) rfl rfl rfl rfl rfl (Zd (xs:=[.const (.string ⟨#[120]⟩),.const (.string ⟨#[121]⟩)]) el_31 rfl rfl rfl rfl rfl rfl (Xm rfl) ⟨rfl,rfl⟩) ?_;exact k.1):p:=h ⟨k⟩
theorem Qfr (k:q) (h:Wr q→p:=by intro k;refine Zb _ rfl rfl rfl (Zv (cs':=[_,_,_,_,_,_,_,_]) (i:=0) rfl ta_49 rfl rfl rfl rfl ?_);exact k.1):p:=h ⟨k⟩
theorem Qfs (k:q) (h:Wr q→p:=by intro k;(refine Zb _ rfl rfl rfl (Zr (i:=3) el_44 rfl rfl rfl rfl (.seq _ _) (by simp only [List.length_map,List.length_reverse,List.length_cons,List.length_nil];omega) ?_));exact k.1):p:=h ⟨k⟩
theorem Qft (k:q) (h:Wr q→p:=by intro k;(refine Zb _ rfl rfl rfl (Zr (i:=4) el_47 rfl rfl rfl rfl (.seq _ _) (by simp only [List.length_map,List.length_reverse,List.length_cons,List.length_nil];omega) ?_));exact k.1):p:=h ⟨k⟩
theorem Qfu (k:q) (h:Wr q→p:=by intro k;refine Zb _ rfl rfl rfl (op_convert rfl tu_150 tu_5 rfl (IntWalk.u8_in _ by18) ?_);exact k.1):p:=h ⟨k⟩
theorem Qfv (k:q) (h:Wr q→p:=by intro k;refine Zu _ rfl rfl (Zz (cs':=[_,_,_]) rfl ta_54 rfl rfl rfl ⟨rfl,rfl⟩) ?_;exact k.1):p:=h ⟨k⟩
theorem Qfw (k:q) (h:Wr q→p:=by intro k;refine Zu _ rfl rfl (Zq rfl te_32 rfl (.seq _ _) rfl rfl (hcq) ⟨rfl,rfl⟩) ?_;exact k.1):p:=h ⟨k⟩
theorem Qfx (k:q) (h:Wr q→p:=by intro k;refine Ya [0,1,2,3,4,5,6,7,8,9,10,11,12] [10,12] [[],[0],[],[2],[],[2,3,4],[2,3,4,5],[],[2,3,4,5,6,7],[2,3,4,5,6,7,8],[0,1,2,3,4,5,6,7,8,9],[0,1,2,3,4,5,6,7,8,9,10],[0,1,2,3,4,5,6,7,8,9,10,11]] tmix rfl ?_;exact k.1):p:=h ⟨k⟩
theorem Qfy (k:q) (h:Wr q→p:=by intro k;refine Zh _ (none) rfl rfl rfl rfl rfl (Zz (cs':=[_,_,_,_,_]) rfl ta_63 rfl rfl rfl ⟨rfl,rfl⟩) ?_;exact k.1):p:=h ⟨k⟩
theorem Qfz (k:q) (h:Wr q→p:=by intro k;refine Zh _ (none) rfl rfl rfl rfl rfl (Zq rfl te_56 rfl (.seq _ _) rfl rfl (hcz) ⟨rfl,rfl⟩) ?_;exact k.1):p:=h ⟨k⟩
theorem QfA (k:q) (h:Wr q→p:=by intro k;refine Zh _ (none) rfl rfl rfl rfl rfl (Zz (cs':=[_,_,_,_,_,_,_,_,_,_,_]) rfl Yf rfl rfl rfl ⟨rfl,rfl⟩) ?_;exact k.1):p:=h ⟨k⟩
theorem QfB (k:q) (h:Wr q→p:=by intro k;refine Zb _ rfl rfl rfl (Zz (cs':=[_,_,_,_,_,_,_,_]) rfl ta_49 rfl rfl rfl ?_);exact k.1):p:=h ⟨k⟩
theorem QfC (k:q) (h:Wr q→p:=by intro k;refine Zu _ rfl rfl (Zq rfl te_26 rfl (.seq _ _) rfl rfl (hcq) ⟨rfl,rfl⟩) ?_;exact k.1):p:=h ⟨k⟩
theorem QfD (k:q) (h:Wr q→p:=by intro k;(refine Zm _ rfl rfl rfl rfl rfl (Yj (i:=0) rfl tu_9 rfl rfl by12 (hb) ?_));exact k.1):p:=h ⟨k⟩
theorem QfE (k:q) (h:Wr q→p:=by intro k;refine Zb _ rfl rfl rfl (Zz (cs':=[_,_,_,_]) rfl ta_46 rfl rfl rfl ?_);exact k.1):p:=h ⟨k⟩
theorem QfF (k:q) (h:Wr q→p:=by intro k;refine Zb _ rfl rfl rfl (Zz (cs':=[_,_,_,_]) rfl ta_28 rfl rfl rfl ?_);exact k.1):p:=h ⟨k⟩
theorem QfG (k:q) (h:Wr q→p:=by intro k;refine Ya [0,1,3,4,2,6,5,7,8,9] [2,5,7,9] [[],[0],[0,1],[],[3],[0,1,2,3,4],[0,1,2],[0,1,2,3,4,5,6],[0,1,2,3,4,5,6,7],[0,1,2,3,4,5,6,7,8]] tmix rfl ?_;exact k.1):p:=h ⟨k⟩
theorem QfH (k:q) (h:Wr q→p:=by intro k;refine Zb _ rfl rfl rfl (Zk (ns:=[]) (xs:=[]) (cs':=[_,_]) rfl tz_38 rfl tfl_38 rfl rfl rfl rfl ?_);exact k.1):p:=h ⟨k⟩
theorem QfI (k:q) (h:Wr q→p:=by intro k;refine Zp rfl rfl (Zi (cs':=[_,_]) (i:=1) rfl ts_38 rfl rfl rfl rfl rfl (Xm rfl) rfl ?_);exact k.1):p:=h ⟨k⟩
theorem QfJ (k:q) (h:Wr q→p:=by intro k;refine Ya [0,1,2,3,4,5] [3] [[],[],[1],[0],[0,3],[0,1,2,3,4]] tmix rfl ?_;exact k.1):p:=h ⟨k⟩
theorem QfK (k:q) (h:Wr q→p:=by intro k;refine Yq _ rfl rfl rfl rfl (Zq rfl te_25 rfl (.seq _ _) rfl rfl (hcy) ⟨rfl,rfl⟩) ?_;exact k.1):p:=h ⟨k⟩
theorem QfL (k:q) (h:Wr q→p:=by intro k;refine Yq _ rfl rfl rfl rfl (Zz (cs':=[_,_,_,_,_,_,_,_]) rfl ta_49 rfl rfl rfl ⟨rfl,rfl⟩) ?_;exact k.1):p:=h ⟨k⟩
theorem Qa (k:q) (h:Wr q→p:=by intro k;refine Qac ?_;refine Qc ?_;exact k.1):p:=h ⟨k⟩
theorem Qo (k:q) (h:Wr q→p:=by intro k;refine QG ?_;refine Qi ?_;exact k.1):p:=h ⟨k⟩
theorem Qf (k:q) (h:Wr q→p:=by intro k;refine Qa3 ?_;refine Qa ?_;exact k.1):p:=h ⟨k⟩
theorem Qad (k:q) (h:Wr q→p:=by intro k;refine QZ ?_;refine QZ ?_;exact k.1):p:=h ⟨k⟩
theorem QJ (k:q) (h:Wr q→p:=by intro k;refine Qo ?_;refine Qb ?_;exact k.1):p:=h ⟨k⟩
theorem Qe (k:q) (h:Wr q→p:=by intro k;refine Qi ?_;refine Qb ?_;exact k.1):p:=h ⟨k⟩
theorem Qce (k:q) (h:Wr q→p:=by intro k;refine Qa3 ?_;refine Qac ?_;exact k.1):p:=h ⟨k⟩
theorem QK (k:q) (h:Wr q→p:=by intro k;refine Qo ?_;refine Qf ?_;exact k.1):p:=h ⟨k⟩
theorem Qw (k:q) (h:Wr q→p:=by intro k;refine QG ?_;refine QJ ?_;exact k.1):p:=h ⟨k⟩
theorem QN (k:q) (h:Wr q→p:=by intro k;refine QH ?_;refine c_skip ?_;refine Qc ?_;exact k.1):p:=h ⟨k⟩
theorem Qy (k:q) (h:Wr q→p:=by intro k;refine Qbi ?_;refine QbG ?_;exact k.1):p:=h ⟨k⟩
theorem Qm (k:q) (h:Wr q→p:=by intro k;refine Qad ?_;refine Qad ?_;exact k.1):p:=h ⟨k⟩
theorem Qg (k:q) (h:Wr q→p:=by intro k;refine Qds ?_;refine Qac ?_;exact k.1):p:=h ⟨k⟩
theorem Qq (k:q) (h:Wr q→p:=by intro k;refine Qds ?_;refine Qb ?_;exact k.1):p:=h ⟨k⟩
theorem Qa6 (k:q) (h:Wr q→p:=by intro k;refine QG ?_;refine Qam ?_;exact k.1):p:=h ⟨k⟩
theorem Qbm (k:q) (h:Wr q→p:=by intro k;refine go_blk ?_;refine Qc ?_;exact k.1):p:=h ⟨k⟩
theorem QaE (k:q) (h:Wr q→p:=by intro k;refine QH ?_;refine c_exit ?_;refine x_code ?_;refine x_lp ?_;refine x_here ?_;refine Qc ?_;exact k.1):p:=h ⟨k⟩
theorem Qat (k:q) (h:Wr q→p:=by intro k;refine Qo ?_;refine Qu ?_;exact k.1):p:=h ⟨k⟩
theorem Qs (k:q) (h:Wr q→p:=by intro k;refine Qf ?_;refine c_ret ?_;exact k.1):p:=h ⟨k⟩
theorem Qap (k:q) (h:Wr q→p:=by intro k;refine Qce ?_;refine go_lp ?_;exact k.1):p:=h ⟨k⟩
theorem Qn (k:q) (h:Wr q→p:=by intro k;refine Q5 ?_;refine Qo ?_;exact k.1):p:=h ⟨k⟩
theorem QbN (k:q) (h:Wr q→p:=by intro k;refine Qe ?_;refine QaI ?_;exact k.1):p:=h ⟨k⟩
theorem QL (k:q) (h:Wr q→p:=by intro k;refine QG ?_;refine QG ?_;exact k.1):p:=h ⟨k⟩
theorem QaL (k:q) (h:Wr q→p:=by intro k;refine Qad ?_;refine QZ ?_;exact k.1):p:=h ⟨k⟩
theorem Qae (k:q) (h:Wr q→p:=by intro k;refine Qh ?_;refine c_skip ?_;refine Qc ?_;refine Qa6 ?_;exact k.1):p:=h ⟨k⟩
theorem QM (k:q) (h:Wr q→p:=by intro k;refine Qds ?_;refine Qce ?_;exact k.1):p:=h ⟨k⟩
theorem Ql (k:q) (h:Wr q→p:=by intro k;refine Qa ?_;refine c_ret ?_;exact k.1):p:=h ⟨k⟩
theorem Qaq (k:q) (h:Wr q→p:=by intro k;refine Qbm ?_;refine QbN ?_;refine Qap ?_;exact k.1):p:=h ⟨k⟩
theorem QaW (k:q) (h:Wr q→p:=by intro k;refine QcY ?_;refine QcY ?_;exact k.1):p:=h ⟨k⟩
theorem QC (k:q) (h:Wr q→p:=by intro k;refine QcZ ?_;refine QdV ?_;exact k.1):p:=h ⟨k⟩
theorem Qv (k:q) (h:Wr q→p:=by intro k;refine Qa ?_;refine QG ?_;exact k.1):p:=h ⟨k⟩
theorem Qau (k:q) (h:Wr q→p:=by intro k;refine QH ?_;refine c_skip ?_;exact k.1):p:=h ⟨k⟩
theorem Qr (k:q) (h:Wr q→p:=by intro k;refine Qh ?_;refine QK ?_;refine c_ret ?_;exact k.1):p:=h ⟨k⟩
theorem QA (k:q) (h:Wr q→p:=by intro k;refine Qa ?_;refine Qo ?_;exact k.1):p:=h ⟨k⟩
theorem Qah (k:q) (h:Wr q→p:=by intro k;refine Zb _ rfl rfl rfl (op_nilCheck_m rfl rfl ?_);refine Qu ?_;exact k.1):p:=h ⟨k⟩
theorem Qt (k:q) (h:Wr q→p:=by intro k;refine Qa ?_;refine QJ ?_;exact k.1):p:=h ⟨k⟩
theorem Qbn (k:q) (h:Wr q→p:=by intro k;refine go_blk ?_;refine go_lp ?_;exact k.1):p:=h ⟨k⟩
theorem Qbo (k:q) (h:Wr q→p:=by intro k;refine Qat ?_;refine QcE ?_;exact k.1):p:=h ⟨k⟩
theorem Qx (k:q) (h:Wr q→p:=by intro k;refine Qae ?_;refine QG ?_;exact k.1):p:=h ⟨k⟩
theorem Q1 (k:q) (h:Wr q→p:=by intro k;refine Qq ?_;refine Qm ?_;exact k.1):p:=h ⟨k⟩
theorem Q7 (k:q) (h:Wr q→p:=by intro k;refine QN ?_;refine QG ?_;exact k.1):p:=h ⟨k⟩
theorem Qbv (k:q) (h:Wr q→p:=by intro k;refine Qa3 ?_;refine Qs ?_;exact k.1):p:=h ⟨k⟩
theorem QaX (k:q) (h:Wr q→p:=by intro k;refine Qi ?_;refine Qu ?_;exact k.1):p:=h ⟨k⟩
theorem Qa7 (k:q) (h:Wr q→p:=by intro k;refine Q5 ?_;refine QK ?_;exact k.1):p:=h ⟨k⟩
theorem QE (k:q) (h:Wr q→p:=by intro k;refine QaE ?_;refine QG ?_;exact k.1):p:=h ⟨k⟩
theorem QbB (k:q) (h:Wr q→p:=by intro k;refine QdW ?_;refine Qdt ?_;exact k.1):p:=h ⟨k⟩
theorem QF (k:q) (h:Wr q→p:=by intro k;refine Qe ?_;refine Qb ?_;exact k.1):p:=h ⟨k⟩
theorem Q2 (k:q) (h:Wr q→p:=by intro k;refine Qa ?_;refine Qw ?_;exact k.1):p:=h ⟨k⟩
theorem Q3 (k:q) (h:Wr q→p:=by intro k;refine QK ?_;refine Qam ?_;exact k.1):p:=h ⟨k⟩
theorem QO (k:q) (h:Wr q→p:=by intro k;refine Qw ?_;refine Qy ?_;exact k.1):p:=h ⟨k⟩
theorem QP (k:q) (h:Wr q→p:=by intro k;refine QJ ?_;refine Qb ?_;exact k.1):p:=h ⟨k⟩
theorem QU (k:q) (h:Wr q→p:=by intro k;refine Qd ?_;refine Qan ?_;exact k.1):p:=h ⟨k⟩
theorem Qav (k:q) (h:Wr q→p:=by intro k;refine Qa3 ?_;refine Qf ?_;exact k.1):p:=h ⟨k⟩
theorem QX (k:q) (h:Wr q→p:=by intro k;refine Qc ?_;refine c_ret ?_;exact k.1):p:=h ⟨k⟩
theorem QY (k:q) (h:Wr q→p:=by intro k;refine QN ?_;refine QJ ?_;exact k.1):p:=h ⟨k⟩
theorem QaY (k:q) (h:Wr q→p:=by intro k;refine Qat ?_;refine Qbj ?_;exact k.1):p:=h ⟨k⟩
theorem Q4 (k:q) (h:Wr q→p:=by intro k;refine Qo ?_;refine Qy ?_;exact k.1):p:=h ⟨k⟩
theorem Q8 (k:q) (h:Wr q→p:=by intro k;refine Qau ?_;refine Qaq ?_;exact k.1):p:=h ⟨k⟩
theorem Q9 (k:q) (h:Wr q→p:=by intro k;refine QbB ?_;refine QR ?_;exact k.1):p:=h ⟨k⟩
theorem Qaa (k:q) (h:Wr q→p:=by intro k;refine Qad ?_;refine QM ?_;exact k.1):p:=h ⟨k⟩
theorem Qab (k:q) (h:Wr q→p:=by intro k;refine Qh ?_;refine c_skip ?_;refine Qc ?_;refine Qam ?_;exact k.1):p:=h ⟨k⟩
theorem Qaf (k:q) (h:Wr q→p:=by intro k;refine QaJ ?_;refine QaJ ?_;refine QaJ ?_;refine QaJ ?_;exact k.1):p:=h ⟨k⟩
theorem Qa8 (k:q) (h:Wr q→p:=by intro k;refine QaW ?_;refine QaW ?_;exact k.1):p:=h ⟨k⟩
theorem Qag (k:q) (h:Wr q→p:=by intro k;refine Qh ?_;refine Qo ?_;exact k.1):p:=h ⟨k⟩
theorem Qai (k:q) (h:Wr q→p:=by intro k;refine Qad ?_;refine Qg ?_;exact k.1):p:=h ⟨k⟩
theorem QbO (k:q) (h:Wr q→p:=by intro k;refine QB ?_;refine Zh _ (some 0) rfl rfl rfl rfl rfl (op_lm1 (i:=0) rfl rfl rfl rfl rfl ⟨rfl,rfl⟩) ?_;exact k.1):p:=h ⟨k⟩
theorem Qal (k:q) (h:Wr q→p:=by intro k;refine Qw ?_;refine Qb ?_;exact k.1):p:=h ⟨k⟩
theorem Qar (k:q) (h:Wr q→p:=by intro k;refine Qu ?_;refine QcE ?_;exact k.1):p:=h ⟨k⟩
theorem Qaw (k:q) (h:Wr q→p:=by intro k;refine Qf ?_;refine QG ?_;exact k.1):p:=h ⟨k⟩
theorem Qax (k:q) (h:Wr q→p:=by intro k;refine Qbm ?_;refine Qi ?_;refine QaI ?_;refine Qb ?_;refine Qac ?_;refine go_lp ?_;exact k.1):p:=h ⟨k⟩
theorem Qay (k:q) (h:Wr q→p:=by intro k;refine Qy ?_;refine Qb ?_;exact k.1):p:=h ⟨k⟩
theorem Qaz (k:q) (h:Wr q→p:=by intro k;refine Qce ?_;refine Qaq ?_;exact k.1):p:=h ⟨k⟩
theorem QaA (k:q) (h:Wr q→p:=by intro k;refine Qb ?_;refine Qb ?_;exact k.1):p:=h ⟨k⟩
theorem QaB (k:q) (h:Wr q→p:=by intro k;refine QN ?_;refine Qw ?_;exact k.1):p:=h ⟨k⟩
theorem Qcf (k:q) (h:Wr q→p:=by intro k;refine QbH ?_;refine Qb ?_;refine Qb3 ?_;refine Qbv ?_;exact k.1):p:=h ⟨k⟩
theorem Qcg (k:q) (h:Wr q→p:=by intro k;refine Q1 ?_;refine QaL ?_;exact k.1):p:=h ⟨k⟩
theorem Qch (k:q) (h:Wr q→p:=by intro k;refine Qd ?_;refine Qd ?_;exact k.1):p:=h ⟨k⟩
theorem QaF (k:q) (h:Wr q→p:=by intro k;refine Qce ?_;refine Qbn ?_;exact k.1):p:=h ⟨k⟩
theorem QaG (k:q) (h:Wr q→p:=by intro k;refine Qh ?_;refine QG ?_;exact k.1):p:=h ⟨k⟩
theorem QaH (k:q) (h:Wr q→p:=by intro k;refine QdY ?_;refine QdX ?_;exact k.1):p:=h ⟨k⟩
theorem QaM (k:q) (h:Wr q→p:=by intro k;refine QaE ?_;refine QK ?_;refine c_ret ?_;exact k.1):p:=h ⟨k⟩
theorem QaN (k:q) (h:Wr q→p:=by intro k;refine Qb ?_;refine Qa ?_;refine Qam ?_;exact k.1):p:=h ⟨k⟩
theorem QaO (k:q) (h:Wr q→p:=by intro k;refine Qo ?_;refine Qk ?_;exact k.1):p:=h ⟨k⟩
theorem QaP (k:q) (h:Wr q→p:=by intro k;refine Qh ?_;refine QJ ?_;exact k.1):p:=h ⟨k⟩
theorem QaR (k:q) (h:Wr q→p:=by intro k;refine Qf ?_;refine QJ ?_;exact k.1):p:=h ⟨k⟩
theorem QaS (k:q) (h:Wr q→p:=by intro k;refine Qc ?_;refine QG ?_;exact k.1):p:=h ⟨k⟩
theorem QaZ (k:q) (h:Wr q→p:=by intro k;refine Qb4 ?_;refine Zm _ rfl rfl rfl rfl rfl (op_lm1 (i:=0) rfl rfl rfl rfl rfl ?_);exact k.1):p:=h ⟨k⟩
theorem Qa0 (k:q) (h:Wr q→p:=by intro k;refine Qh ?_;refine QaX ?_;refine Qdu ?_;exact k.1):p:=h ⟨k⟩
theorem Qa1 (k:q) (h:Wr q→p:=by intro k;refine Qac ?_;refine Qbn ?_;exact k.1):p:=h ⟨k⟩
theorem Qa2 (k:q) (h:Wr q→p:=by intro k;refine QaL ?_;refine Qq ?_;exact k.1):p:=h ⟨k⟩
theorem Qa9 (k:q) (h:Wr q→p:=by intro k;refine Qm ?_;refine QZ ?_;exact k.1):p:=h ⟨k⟩
theorem Qba (k:q) (h:Wr q→p:=by intro k;refine Qf ?_;refine QL ?_;exact k.1):p:=h ⟨k⟩
theorem Qbb (k:q) (h:Wr q→p:=by intro k;refine Qh ?_;refine Qe ?_;exact k.1):p:=h ⟨k⟩
theorem Qbc (k:q) (h:Wr q→p:=by intro k;refine Qa7 ?_;refine QG ?_;exact k.1):p:=h ⟨k⟩
theorem Qbd (k:q) (h:Wr q→p:=by intro k;refine Qad ?_;refine Qq ?_;exact k.1):p:=h ⟨k⟩
theorem Qbe (k:q) (h:Wr q→p:=by intro k;refine QV ?_;refine QV ?_;refine Qg ?_;exact k.1):p:=h ⟨k⟩
theorem Qbf (k:q) (h:Wr q→p:=by intro k;refine Qb ?_;refine Qb2 ?_;refine Qb2 ?_;exact k.1):p:=h ⟨k⟩
theorem Qbg (k:q) (h:Wr q→p:=by intro k;refine QN ?_;refine Qo ?_;exact k.1):p:=h ⟨k⟩
theorem Qbh (k:q) (h:Wr q→p:=by intro k;refine Qa ?_;refine Qa6 ?_;exact k.1):p:=h ⟨k⟩
theorem Qbp (k:q) (h:Wr q→p:=by intro k;refine QaE ?_;refine QL ?_;exact k.1):p:=h ⟨k⟩
theorem Qbq (k:q) (h:Wr q→p:=by intro k;refine Qa ?_;refine Qbo ?_;exact k.1):p:=h ⟨k⟩
theorem Qbr (k:q) (h:Wr q→p:=by intro k;refine Qn ?_;refine QI ?_;exact k.1):p:=h ⟨k⟩
theorem Qbw (k:q) (h:Wr q→p:=by intro k;refine QZ ?_;refine QV ?_;exact k.1):p:=h ⟨k⟩
theorem Qbx (k:q) (h:Wr q→p:=by intro k;refine Qau ?_;refine go_lp ?_;exact k.1):p:=h ⟨k⟩
theorem Qby (k:q) (h:Wr q→p:=by intro k;refine QdZ ?_;refine QbO ?_;refine Qp ?_;exact k.1):p:=h ⟨k⟩
theorem QbC (k:q) (h:Wr q→p:=by intro k;refine Qy ?_;refine Qy ?_;exact k.1):p:=h ⟨k⟩
theorem QbD (k:q) (h:Wr q→p:=by intro k;refine Qv ?_;refine Qbo ?_;exact k.1):p:=h ⟨k⟩
theorem QbE (k:q) (h:Wr q→p:=by intro k;refine QH ?_;refine QaY ?_;refine Qj ?_;exact k.1):p:=h ⟨k⟩
theorem QbF (k:q) (h:Wr q→p:=by intro k;refine QaT ?_;refine QaT ?_;exact k.1):p:=h ⟨k⟩
theorem QbP (k:q) (h:Wr q→p:=by intro k;refine Qb5 ?_;refine QR ?_;exact k.1):p:=h ⟨k⟩
theorem QbR (k:q) (h:Wr q→p:=by intro k;refine QC ?_;refine QC ?_;exact k.1):p:=h ⟨k⟩
theorem QbS (k:q) (h:Wr q→p:=by intro k;refine Qm ?_;refine QaL ?_;exact k.1):p:=h ⟨k⟩
theorem QbT (k:q) (h:Wr q→p:=by intro k;refine QN ?_;refine QL ?_;exact k.1):p:=h ⟨k⟩
theorem QbU (k:q) (h:Wr q→p:=by intro k;refine Qi ?_;refine Qf ?_;refine Qam ?_;exact k.1):p:=h ⟨k⟩
theorem QbV (k:q) (h:Wr q→p:=by intro k;refine Qb ?_;refine Qj ?_;exact k.1):p:=h ⟨k⟩
theorem QbW (k:q) (h:Wr q→p:=by intro k;refine Qb6 ?_;refine Qk ?_;exact k.1):p:=h ⟨k⟩
theorem QbX (k:q) (h:Wr q→p:=by intro k;refine Q6 ?_;refine Q2 ?_;exact k.1):p:=h ⟨k⟩
theorem QbY (k:q) (h:Wr q→p:=by intro k;refine QA ?_;refine Qcf ?_;exact k.1):p:=h ⟨k⟩
theorem QbZ (k:q) (h:Wr q→p:=by intro k;refine Qah ?_;refine QcF ?_;exact k.1):p:=h ⟨k⟩
theorem Qb0 (k:q) (h:Wr q→p:=by intro k;refine QV ?_;refine QV ?_;refine QM ?_;exact k.1):p:=h ⟨k⟩
theorem Qb1 (k:q) (h:Wr q→p:=by intro k;refine Qa ?_;refine Qh ?_;exact k.1):p:=h ⟨k⟩
theorem Qci (k:q) (h:Wr q→p:=by intro k;refine Q7 ?_;refine Q3 ?_;exact k.1):p:=h ⟨k⟩
theorem Qcj (k:q) (h:Wr q→p:=by intro k;refine Qcg ?_;refine Qg ?_;exact k.1):p:=h ⟨k⟩
theorem Qck (k:q) (h:Wr q→p:=by intro k;refine Qm ?_;refine Qad ?_;exact k.1):p:=h ⟨k⟩
theorem Qcl (k:q) (h:Wr q→p:=by intro k;refine Qbk ?_;refine Qdv ?_;refine Qb7 ?_;exact k.1):p:=h ⟨k⟩
theorem Qcm (k:q) (h:Wr q→p:=by intro k;refine QK ?_;refine QG ?_;exact k.1):p:=h ⟨k⟩
theorem Qcn (k:q) (h:Wr q→p:=by intro k;refine QaE ?_;refine QJ ?_;exact k.1):p:=h ⟨k⟩
theorem Qco (k:q) (h:Wr q→p:=by intro k;refine Qb ?_;refine QcG ?_;exact k.1):p:=h ⟨k⟩
theorem Qcp (k:q) (h:Wr q→p:=by intro k;refine Qa7 ?_;refine QJ ?_;exact k.1):p:=h ⟨k⟩
theorem Qcq (k:q) (h:Wr q→p:=by intro k;refine QaL ?_;refine Qa8 ?_;exact k.1):p:=h ⟨k⟩
theorem Qcr (k:q) (h:Wr q→p:=by intro k;refine Qch ?_;refine Zm _ rfl rfl rfl rfl rfl (Yj rfl tu_9 rfl rfl rfl ((hb by18).1) ?_);exact k.1):p:=h ⟨k⟩
theorem Qcs (k:q) (h:Wr q→p:=by intro k;refine Qf ?_;refine Qw ?_;exact k.1):p:=h ⟨k⟩
theorem Qct (k:q) (h:Wr q→p:=by intro k;refine Qa3 ?_;refine Qbv ?_;exact k.1):p:=h ⟨k⟩
theorem Qcu (k:q) (h:Wr q→p:=by intro k;refine Qav ?_;refine Qw ?_;exact k.1):p:=h ⟨k⟩
theorem Qcv (k:q) (h:Wr q→p:=by intro k;refine Q7 ?_;refine Qbo ?_;exact k.1):p:=h ⟨k⟩
theorem Qcw (k:q) (h:Wr q→p:=by intro k;refine QB ?_;refine Zh _ (some 1) rfl rfl rfl rfl rfl (op_lm1 (i:=0) rfl rfl rfl rfl rfl ⟨rfl,rfl⟩) ?_;exact k.1):p:=h ⟨k⟩
theorem Qcx (k:q) (h:Wr q→p:=by intro k;refine QaI ?_;refine Qah ?_;exact k.1):p:=h ⟨k⟩
theorem Qcy (k:q) (h:Wr q→p:=by intro k;refine Qah ?_;refine Qbj ?_;refine Qao ?_;exact k.1):p:=h ⟨k⟩
theorem Qcz (k:q) (h:Wr q→p:=by intro k;refine Qa ?_;refine QaX ?_;refine Qbj ?_;exact k.1):p:=h ⟨k⟩
theorem QcA (k:q) (h:Wr q→p:=by intro k;refine Qds ?_;refine Qa ?_;exact k.1):p:=h ⟨k⟩
theorem QcB (k:q) (h:Wr q→p:=by intro k;refine QS ?_;refine Ql ?_;exact k.1):p:=h ⟨k⟩
theorem QcC (k:q) (h:Wr q→p:=by intro k;refine Qn ?_;refine Qb8 ?_;refine QI ?_;exact k.1):p:=h ⟨k⟩
theorem QcD (k:q) (h:Wr q→p:=by intro k;refine QaC ?_;refine QaC ?_;exact k.1):p:=h ⟨k⟩
end
section
variable {P:Program}
theorem shape_str {fuel:Nat} {t:TypeId} {cs:List AV} (ht:P.underlying t=some .string) (h:ShapeC P fuel t cs):∃ s:ByteArray,s.size≤maxLen∧cs=[.val (.string s)]:=by
 cases fuel with
 | zero=>unfold ShapeC at h;exact h.elim
 | succ n=>unfold ShapeC at h;rw [ht] at h;exact h
end
inductive Pa where
 | mk (k:Int) (s:ByteArray) (n:Int) (ks:List Pa) (p:Int)
mutual
inductive Ex where
 | mk (k:Int) (s:ByteArray) (n:Int) (t:Ty) (ks:List Ex) (al:List Al) (bs:List Bi) (p:Int)
inductive Al where
 | mk (q:Pa) (e:Ex)
inductive Bi where
 | mk (s:ByteArray) (e:Ex) (p:Int)
end
mutual
def Pa.cells:Pa→List AV
 | .mk k s n ks p=>[.val (.int .i64 k),.val (.string s),.val (.int .i64 n),.seq 5 (Pa.cellss ks),.val (.int .i64 p)]
def Pa.cellss:List Pa→List (List AV)
 | []=>[]
 | t::ts=>t.cells::Pa.cellss ts
end
mutual
def Ex.cells:Ex→List AV
 | .mk k s n t ks al bs p=>.val (.int .i64 k)::.val (.string s)::.val (.int .i64 n)::(t.cells++[.seq 11 (Ex.cellss ks),.seq 16 (Al.cellss al),.seq 13 (Bi.cellss bs),.val (.int .i64 p)])
def Ex.cellss:List Ex→List (List AV)
 | []=>[]
 | t::ts=>t.cells::Ex.cellss ts
def Al.cells:Al→List AV
 | .mk q e=>q.cells++e.cells
def Al.cellss:List Al→List (List AV)
 | []=>[]
 | t::ts=>t.cells::Al.cellss ts
def Bi.cells:Bi→List AV
 | .mk s e p=>.val (.string s)::(e.cells++[.val (.int .i64 p)])
def Bi.cellss:List Bi→List (List AV)
 | []=>[]
 | t::ts=>t.cells::Bi.cellss ts
end
theorem Pa.cellss_map:∀ ts:List Pa,Pa.cellss ts=ts.map Pa.cells
 | []=>by simp [Pa.cellss]
 | t::ts=>by simp [Pa.cellss,Pa.cellss_map ts]
theorem Ex.cellss_map:∀ ts:List Ex,Ex.cellss ts=ts.map Ex.cells
 | []=>by simp [Ex.cellss]
 | t::ts=>by simp [Ex.cellss,Ex.cellss_map ts]
theorem Al.cellss_map:∀ ts:List Al,Al.cellss ts=ts.map Al.cells
 | []=>by simp [Al.cellss]
 | t::ts=>by simp [Al.cellss,Al.cellss_map ts]
theorem Bi.cellss_map:∀ ts:List Bi,Bi.cellss ts=ts.map Bi.cells
 | []=>by simp [Bi.cellss]
 | t::ts=>by simp [Bi.cellss,Bi.cellss_map ts]
theorem Pa.cellss_len (ts:List Pa):(Pa.cellss ts).length=ts.length:=by rw [Pa.cellss_map];simp
theorem Ex.cellss_len (ts:List Ex):(Ex.cellss ts).length=ts.length:=by rw [Ex.cellss_map];simp
theorem Al.cellss_len (ts:List Al):(Al.cellss ts).length=ts.length:=by rw [Al.cellss_map];simp
theorem Bi.cellss_len (ts:List Bi):(Bi.cellss ts).length=ts.length:=by rw [Bi.cellss_map];simp
theorem Pa.cellss_get {ts:List Pa} {i:Nat} {t:Pa} (h:ts[i]?=some t):(Pa.cellss ts)[i]?=some t.cells:=by rw [Pa.cellss_map];simp [h]
theorem Ex.cellss_get {ts:List Ex} {i:Nat} {t:Ex} (h:ts[i]?=some t):(Ex.cellss ts)[i]?=some t.cells:=by rw [Ex.cellss_map];simp [h]
theorem Al.cellss_get {ts:List Al} {i:Nat} {t:Al} (h:ts[i]?=some t):(Al.cellss ts)[i]?=some t.cells:=by rw [Al.cellss_map];simp [h]
theorem Bi.cellss_get {ts:List Bi} {i:Nat} {t:Bi} (h:ts[i]?=some t):(Bi.cellss ts)[i]?=some t.cells:=by rw [Bi.cellss_map];simp [h]
def Al.e:Al→Ex|.mk _ e=>e
def Al.q:Al→Pa|.mk q _=>q
def Bi.e:Bi→Ex|.mk _ e _=>e
def Bi.s:Bi→ByteArray|.mk s _ _=>s
mutual
def Pa.bare:Pa→Pa
 | .mk k s n ks _=>.mk k s n (Pa.bares ks) 0
def Pa.bares:List Pa→List Pa
 | []=>[]
 | t::ts=>t.bare::Pa.bares ts
end
mutual
def Ex.bare:Ex→Ex
 | .mk k s n t ks al bs _=>.mk k s n t (Ex.bares ks) (Al.bares al) (Bi.bares bs) 0
def Ex.bares:List Ex→List Ex
 | []=>[]
 | t::ts=>t.bare::Ex.bares ts
def Al.bare:Al→Al
 | .mk q e=>.mk q.bare e.bare
def Al.bares:List Al→List Al
 | []=>[]
 | t::ts=>t.bare::Al.bares ts
def Bi.bare:Bi→Bi
 | .mk s e _=>.mk s e.bare 0
def Bi.bares:List Bi→List Bi
 | []=>[]
 | t::ts=>t.bare::Bi.bares ts
end
theorem Pa.bares_map:∀ ts:List Pa,Pa.bares ts=ts.map Pa.bare
 | []=>by simp [Pa.bares]
 | t::ts=>by simp [Pa.bares,Pa.bares_map ts]
theorem Ex.bares_map:∀ ts:List Ex,Ex.bares ts=ts.map Ex.bare
 | []=>by simp [Ex.bares]
 | t::ts=>by simp [Ex.bares,Ex.bares_map ts]
theorem Al.bares_map:∀ ts:List Al,Al.bares ts=ts.map Al.bare
 | []=>by simp [Al.bares]
 | t::ts=>by simp [Al.bares,Al.bares_map ts]
theorem Bi.bares_map:∀ ts:List Bi,Bi.bares ts=ts.map Bi.bare
 | []=>by simp [Bi.bares]
 | t::ts=>by simp [Bi.bares,Bi.bares_map ts]
theorem Pa.bare_iff {k1 k2 n1 n2 p1 p2:Int} {s1 s2:ByteArray} {ks1 ks2:List Pa}:(Pa.mk k1 s1 n1 ks1 p1).bare=(Pa.mk k2 s2 n2 ks2 p2).bare↔k1=k2∧s1=s2∧n1=n2∧ks1.map Pa.bare=ks2.map Pa.bare:=by
 simp [Pa.bare,Pa.bares_map]
theorem Ex.bare_iff {k1 k2 n1 n2 p1 p2:Int} {s1 s2:ByteArray} {t1 t2:Ty} {ks1 ks2:List Ex} {al1 al2:List Al} {bs1 bs2:List Bi}:(Ex.mk k1 s1 n1 t1 ks1 al1 bs1 p1).bare=(Ex.mk k2 s2 n2 t2 ks2 al2 bs2 p2).bare↔k1=k2∧s1=s2∧n1=n2∧t1=t2∧ks1.map Ex.bare=ks2.map Ex.bare∧al1.map Al.bare=al2.map Al.bare∧bs1.map Bi.bare=bs2.map Bi.bare:=by
 simp [Ex.bare,Ex.bares_map,Al.bares_map,Bi.bares_map]
theorem Al.bare_iff {q1 q2:Pa} {e1 e2:Ex}:(Al.mk q1 e1).bare=(Al.mk q2 e2).bare↔q1.bare=q2.bare∧e1.bare=e2.bare:=by simp [Al.bare]
theorem Bi.bare_iff {s1 s2:ByteArray} {e1 e2:Ex} {p1 p2:Int}:(Bi.mk s1 e1 p1).bare=(Bi.mk s2 e2 p2).bare↔s1=s2∧e1.bare=e2.bare:=by simp [Bi.bare]
theorem Pa.lt_kid {x:Pa} {k n p:Int} {s:ByteArray} {ks:List Pa} (h:x∈ks):SizeOf.sizeOf x<SizeOf.sizeOf (Pa.mk k s n ks p):=by
 have:=List.sizeOf_lt_of_mem h
 simp;omega
section
variable {x:Ex} {a:Al} {b:Bi} {k n p:Int} {s:ByteArray} {t:Ty} {ks:List Ex} {al:List Al} {bs:List Bi}
theorem Ex.lt_kid (h:x∈ks):SizeOf.sizeOf x<SizeOf.sizeOf (Ex.mk k s n t ks al bs p):=by
 have:=List.sizeOf_lt_of_mem h
 simp;omega
theorem Ex.lt_alt (h:a∈al):SizeOf.sizeOf a<SizeOf.sizeOf (Ex.mk k s n t ks al bs p):=by
 have:=List.sizeOf_lt_of_mem h
 simp;omega
theorem Ex.lt_bind (h:b∈bs):SizeOf.sizeOf b<SizeOf.sizeOf (Ex.mk k s n t ks al bs p):=by
 have:=List.sizeOf_lt_of_mem h
 simp;omega
theorem Al.lt_e (a:Al):SizeOf.sizeOf a.e<SizeOf.sizeOf a:=by cases a;simp [Al.e];omega
theorem Bi.lt_e (a:Bi):SizeOf.sizeOf a.e<SizeOf.sizeOf a:=by cases a;simp [Bi.e];omega
end
def Ex.parts:Ex→List Ex
 | .mk k _ _ _ ks al bs _=>(if k=7 then [] else ks)++bs.map Bi.e++(if k=7 then ks else [])++al.map Al.e
theorem Ex.lt_part {e x:Ex} (h:x∈e.parts):SizeOf.sizeOf x<SizeOf.sizeOf e:=by
 obtain ⟨k,s,n,t,ks,al,bs,p⟩:=e
 simp only [Ex.parts,List.mem_append,List.mem_map] at h
 rcases h with ((h|⟨b,hb,rfl⟩)|h)|⟨a,ha,rfl⟩
 ·split at h
  ·simp at h
  exact Ex.lt_kid h
 ·exact Nat.lt_trans (Bi.lt_e b) (Ex.lt_bind hb)
 ·split at h
  ·exact Ex.lt_kid h
  simp at h
 exact Nat.lt_trans (Al.lt_e a) (Ex.lt_alt ha)
def Ex.sz (e:Ex):Nat:=1+(e.parts.attach.map fun x=>Ex.sz x.1).sum
termination_by SizeOf.sizeOf e
decreasing_by exact Ex.lt_part x.2
def maxOf:List Nat→Nat
 | []=>0
 | x::xs=>max x (maxOf xs)
def Ex.dp (e:Ex):Nat:=1+maxOf (e.parts.attach.map fun x=>Ex.dp x.1)
termination_by SizeOf.sizeOf e
decreasing_by exact Ex.lt_part x.2
theorem upto_map {α β:Type} (f:α→β) {xs ys:List α} {i:Nat} {x y:α} (h:Upto (xs.map f) (ys.map f) i) (hx:xs[i]?=some x) (hy:ys[i]?=some y) (e:f x=f y):Upto (xs.map f) (ys.map f) (i+1) :=
 h.succ (x:=f x) (y:=f y) (by simp [hx]) (by simp [hy]) e
theorem map_ne {α β:Type} (f:α→β) {xs ys:List α} {i:Nat} {x y:α} (hx:xs[i]?=some x) (hy:ys[i]?=some y) (e:¬ f x=f y):¬ xs.map f=ys.map f:=fun q=>e (by
 have:(xs.map f)[i]?=(ys.map f)[i]?:=by rw [q]
 simpa [hx,hy] using this)
theorem map_len_ne {α β:Type} (f:α→β) {xs ys:List α} (h:¬ xs.length=ys.length):¬ xs.map f=ys.map f:=fun q=>h (by simpa using congrArg List.length q)
abbrev Txt:=ByteArray
mutual
def Pa.names:Pa→List Txt
 | .mk k s _ ks _=>(if k=2 then [s] else [])++Pa.namess ks
def Pa.namess:List Pa→List Txt
 | []=>[]
 | t::ts=>t.names++Pa.namess ts
end
mutual
def Pa.size:Pa→Nat
 | .mk _ _ _ ks _=>1+Pa.sizes ks
def Pa.sizes:List Pa→Nat
 | []=>0
 | t::ts=>t.size+Pa.sizes ts
end
mutual
def Ex.w:Ex→Nat
 | .mk _ _ _ _ ks al bs _=>1+Ex.ws ks+Al.ws al+Bi.ws bs
def Ex.ws:List Ex→Nat
 | []=>0
 | t::ts=>t.w+Ex.ws ts
def Al.w:Al→Nat
 | .mk q e=>q.size+e.w
def Al.ws:List Al→Nat
 | []=>0
 | t::ts=>t.w+Al.ws ts
def Bi.w:Bi→Nat
 | .mk _ e _=>1+e.w
def Bi.ws:List Bi→Nat
 | []=>0
 | t::ts=>t.w+Bi.ws ts
end
theorem Bi.len_ws (ts:List Bi):ts.length≤Bi.ws ts:=by
 induction ts with
 | nil=>simp [Bi.ws]
 | cons t ts ih=>cases t;rw [Bi.ws,Bi.w,List.length_cons];omega
abbrev Bi.names (bs:List Bi):List Txt:=bs.map Bi.s
def Ty.kn:Ty→Nat|.mk _ _ _ ks=>ks.length
def Pa.kn:Pa→Nat|.mk _ _ _ ks _=>ks.length
mutual
def Ex.cnt:Ex→Int→Int
 | .mk _ _ _ t ks al bs _,m=>Al.cnts al m (Bi.cnts bs m (Ex.cnts ks m (1+t.kn)))
def Ex.cnts:List Ex→Int→Int→Int
 | [],_,n=>n
 | x::xs,m,n=>if n<m then Ex.cnts xs m (n+x.cnt (m - n)) else n
def Bi.cnt:Bi→Int→Int
 | .mk _ e _,m=>1+e.cnt m
def Bi.cnts:List Bi→Int→Int→Int
 | [],_,n=>n
 | x::xs,m,n=>if n<m then Bi.cnts xs m (n+x.cnt (m - n)) else n
def Al.cnt:Al→Int→Int
 | .mk q e,m=>1+e.cnt m+q.kn
def Al.cnts:List Al→Int→Int→Int
 | [],_,n=>n
 | x::xs,m,n=>if n<m then Al.cnts xs m (n+x.cnt (m - n)) else n
end
theorem Ex.cellss_app (a b:List Ex):Ex.cellss (a++b)=Ex.cellss a++Ex.cellss b:=by simp [Ex.cellss_map]
def I64 (x:Int):Prop := -9223372036854775808≤x∧x≤9223372036854775807
theorem I64.of {x:Int} (h:IntKind.i64.min≤x∧x≤IntKind.i64.max):I64 x:=by
 have h1:IntKind.i64.min = -9223372036854775808:=by decide
 have h2:IntKind.i64.max=9223372036854775807:=by decide
 rw [h1,h2] at h;exact h
inductive Pr where
 | mk (c:ByteArray) (t:Ty)
def Pr.cells:Pr→List AV
 | .mk c t=>.val (.string c)::t.cells
def Pr.c:Pr→ByteArray|.mk c _=>c
def Pr.t:Pr→Ty|.mk _ t=>t
def Pr.cellss (l:List Pr):List (List AV):=l.map Pr.cells
theorem Pr.cellss_map (l:List Pr):Pr.cellss l=l.map Pr.cells:=rfl
theorem Pr.cellss_len (l:List Pr):(Pr.cellss l).length=l.length:=by simp [Pr.cellss]
theorem Pr.cellss_get {l:List Pr} {i:Nat} {x:Pr} (h:l[i]?=some x):(Pr.cellss l)[i]?=some x.cells:=by simp [Pr.cellss,h]
inductive Cn where
 | mk (s:ByteArray) (ts:List Ty) (p:Int)
def Cn.cells:Cn→List AV
 | .mk s ts p=>.val (.string s)::.seq 4 (Ty.cellss ts)::[.val (.int .i64 p)]
def Cn.s:Cn→ByteArray|.mk s _ _=>s
def Cn.ts:Cn→List Ty|.mk _ ts _=>ts
def Cn.p:Cn→Int|.mk _ _ p=>p
def Cn.cellss (l:List Cn):List (List AV):=l.map Cn.cells
theorem Cn.cellss_map (l:List Cn):Cn.cellss l=l.map Cn.cells:=rfl
theorem Cn.cellss_len (l:List Cn):(Cn.cellss l).length=l.length:=by simp [Cn.cellss]
theorem Cn.cellss_get {l:List Cn} {i:Nat} {x:Cn} (h:l[i]?=some x):(Cn.cellss l)[i]?=some x.cells:=by simp [Cn.cellss,h]
inductive Da where
 | mk (s:ByteArray) (ps:List ByteArray) (cs:List Cn) (dv:List ByteArray) (p:Int)
def Da.cells:Da→List AV
 | .mk s ps cs dv p=>.val (.string s)::.seq 1 (strs ps)::.seq 3 (Cn.cellss cs)::.seq 1 (strs dv)::[.val (.int .i64 p)]
def Da.s:Da→ByteArray|.mk s _ _ _ _=>s
def Da.ps:Da→List ByteArray|.mk _ ps _ _ _=>ps
def Da.cs:Da→List Cn|.mk _ _ cs _ _=>cs
def Da.dv:Da→List ByteArray|.mk _ _ _ dv _=>dv
def Da.p:Da→Int|.mk _ _ _ _ p=>p
def Da.cellss (l:List Da):List (List AV):=l.map Da.cells
theorem Da.cellss_map (l:List Da):Da.cellss l=l.map Da.cells:=rfl
theorem Da.cellss_len (l:List Da):(Da.cellss l).length=l.length:=by simp [Da.cellss]
theorem Da.cellss_get {l:List Da} {i:Nat} {x:Da} (h:l[i]?=some x):(Da.cellss l)[i]?=some x.cells:=by simp [Da.cellss,h]
inductive Me where
 | mk (s:ByteArray) (t:Ty) (p:Int)
def Me.cells:Me→List AV
 | .mk s t p=>.val (.string s)::t.cells++([.val (.int .i64 p)])
def Me.s:Me→ByteArray|.mk s _ _=>s
def Me.t:Me→Ty|.mk _ t _=>t
def Me.p:Me→Int|.mk _ _ p=>p
def Me.cellss (l:List Me):List (List AV):=l.map Me.cells
theorem Me.cellss_map (l:List Me):Me.cellss l=l.map Me.cells:=rfl
theorem Me.cellss_len (l:List Me):(Me.cellss l).length=l.length:=by simp [Me.cellss]
theorem Me.cellss_get {l:List Me} {i:Nat} {x:Me} (h:l[i]?=some x):(Me.cellss l)[i]?=some x.cells:=by simp [Me.cellss,h]
inductive Cl where
 | mk (s:ByteArray) (v:ByteArray) (su:List ByteArray) (ms:List Me) (ds:List Bi) (p:Int)
def Cl.cells:Cl→List AV
 | .mk s v su ms ds p=>.val (.string s)::.val (.string v)::.seq 1 (strs su)::.seq 6 (Me.cellss ms)::.seq 13 (Bi.cellss ds)::[.val (.int .i64 p)]
def Cl.s:Cl→ByteArray|.mk s _ _ _ _ _=>s
def Cl.v:Cl→ByteArray|.mk _ v _ _ _ _=>v
def Cl.su:Cl→List ByteArray|.mk _ _ su _ _ _=>su
def Cl.ms:Cl→List Me|.mk _ _ _ ms _ _=>ms
def Cl.ds:Cl→List Bi|.mk _ _ _ _ ds _=>ds
def Cl.p:Cl→Int|.mk _ _ _ _ _ p=>p
def Cl.cellss (l:List Cl):List (List AV):=l.map Cl.cells
theorem Cl.cellss_map (l:List Cl):Cl.cellss l=l.map Cl.cells:=rfl
theorem Cl.cellss_len (l:List Cl):(Cl.cellss l).length=l.length:=by simp [Cl.cellss]
theorem Cl.cellss_get {l:List Cl} {i:Nat} {x:Cl} (h:l[i]?=some x):(Cl.cellss l)[i]?=some x.cells:=by simp [Cl.cellss,h]
inductive In where
 | mk (c:ByteArray) (hd:Ty) (cx:List Pr) (bs:List Bi) (p:Int)
def In.cells:In→List AV
 | .mk c hd cx bs p=>.val (.string c)::hd.cells++(.seq 5 (Pr.cellss cx)::.seq 13 (Bi.cellss bs)::[.val (.int .i64 p)])
def In.c:In→ByteArray|.mk c _ _ _ _=>c
def In.hd:In→Ty|.mk _ hd _ _ _=>hd
def In.cx:In→List Pr|.mk _ _ cx _ _=>cx
def In.bs:In→List Bi|.mk _ _ _ bs _=>bs
def In.p:In→Int|.mk _ _ _ _ p=>p
def In.cellss (l:List In):List (List AV):=l.map In.cells
theorem In.cellss_map (l:List In):In.cellss l=l.map In.cells:=rfl
theorem In.cellss_len (l:List In):(In.cellss l).length=l.length:=by simp [In.cellss]
theorem In.cellss_get {l:List In} {i:Nat} {x:In} (h:l[i]?=some x):(In.cellss l)[i]?=some x.cells:=by simp [In.cellss,h]
inductive Pg where
 | mk (da:List Da) (cl:List Cl) (ins:List In) (bs:List Bi)
def Pg.cells:Pg→List AV
 | .mk da cl ins bs=>.seq 5 (Da.cellss da)::.seq 6 (Cl.cellss cl)::.seq 8 (In.cellss ins)::[.seq 13 (Bi.cellss bs)]
def Pg.da:Pg→List Da|.mk da _ _ _=>da
def Pg.cl:Pg→List Cl|.mk _ cl _ _=>cl
def Pg.ins:Pg→List In|.mk _ _ ins _=>ins
def Pg.bs:Pg→List Bi|.mk _ _ _ bs=>bs
def Pg.cellss (l:List Pg):List (List AV):=l.map Pg.cells
theorem Pg.cellss_map (l:List Pg):Pg.cellss l=l.map Pg.cells:=rfl
theorem Pg.cellss_len (l:List Pg):(Pg.cellss l).length=l.length:=by simp [Pg.cellss]
theorem Pg.cellss_get {l:List Pg} {i:Nat} {x:Pg} (h:l[i]?=some x):(Pg.cellss l)[i]?=some x.cells:=by simp [Pg.cellss,h]
inductive En where
 | mk (da:List Da) (cl:List Cl) (ins:List In)
def En.cells:En→List AV
 | .mk da cl ins=>.seq 5 (Da.cellss da)::.seq 6 (Cl.cellss cl)::[.seq 8 (In.cellss ins)]
def En.da:En→List Da|.mk da _ _=>da
def En.cl:En→List Cl|.mk _ cl _=>cl
def En.ins:En→List In|.mk _ _ ins=>ins
def En.cellss (l:List En):List (List AV):=l.map En.cells
theorem En.cellss_map (l:List En):En.cellss l=l.map En.cells:=rfl
theorem En.cellss_len (l:List En):(En.cellss l).length=l.length:=by simp [En.cellss]
theorem En.cellss_get {l:List En} {i:Nat} {x:En} (h:l[i]?=some x):(En.cellss l)[i]?=some x.cells:=by simp [En.cellss,h]
abbrev S18:List TypeId:=[9,3,31,46,44,54,32,34]
theorem closed18:closedT Tryz.prog S18=true:=by kernel_rfl
def W63 (n:Int):Int:=(n+4611686018427387904) % 9223372036854775808 - 4611686018427387904
theorem W63_bd (n:Int) : -4611686018427387904≤W63 n∧W63 n≤4611686018427387903:=by unfold W63;omega
theorem W63_lo (n:Int) : -4611686018427387904≤W63 n:=(W63_bd n).1
theorem W63_hi (n:Int):W63 n≤4611686018427387903:=(W63_bd n).2
theorem W63_shift (n:Int):wrap64 (n * 2) / 2=W63 n:=by unfold wrap64 W63;omega
theorem W63_id (n:Int) (h1 : -4611686018427387904≤n) (h2:n≤4611686018427387903):W63 n=n:=by unfold W63;omega
theorem W63_congr {a b:Int} (h:a % 9223372036854775808=b % 9223372036854775808):W63 a=W63 b:=by unfold W63;omega
def R63 (n:Int):Int:=n % 9223372036854775808
theorem R63_lo (n:Int):0≤R63 n:=by unfold R63;omega
theorem R63_hi (n:Int):R63 n≤9223372036854775807:=by unfold R63;omega
theorem R63_u64 (n:Int):(IntKind.u64.wrap n).tmod 9223372036854775808=R63 n:=by
 rw [Int.tmod_eq_emod_of_nonneg (by simp [IntKind.wrap_u64];omega)]
 simp only [IntKind.wrap_u64,R63];omega
theorem W63_R63 (n:Int):W63 (R63 n)=W63 n:=W63_congr (by unfold R63;omega)
def absI (x:Int):Int:=if x<0 then -x else x
def sgn (u:Int) (neg:Bool):Int:=if neg then -u else u
theorem absI_lo (x:Int):0≤absI x:=by unfold absI;omega
theorem absI_W63 (n:Int):absI (W63 n)≤4611686018427387904:=by have:=W63_bd n;unfold absI;omega
end Go.Proofs.YtefbicnoddggnaaGreat
namespace Go.Proofs.YtefbicnoddggnaaGreat
def bytesN (s:ByteArray):List Nat:=s.data.toList.map UInt8.toNat
theorem bytesN_len (s:ByteArray):(bytesN s).length=s.size:=by simp [bytesN]
theorem bytesN_get (s:ByteArray) (k:Nat) (h:k<s.size) (h':k<(bytesN s).length):(bytesN s)[k]=(s[k]).toNat:=by
 simp [bytesN];rfl
theorem bytesN_lt (s:ByteArray):∀ x∈bytesN s,x<256:=by
 intro x hx
 simp only [bytesN,List.mem_map] at hx
 obtain ⟨b,_,rfl⟩:=hx
 exact b.toNat_lt
def strN (b:List Nat):ByteArray:=strOfNums (b.map fun x:Nat=>(x:Int))
theorem bytesN_strN (b:List Nat) (h:∀ x∈b,x<256):bytesN (strN b)=b:=by
 unfold bytesN strN
 rw [strOfNums_data,List.map_map,List.map_map]
 conv=>rhs;rw [← List.map_id b]
 apply List.map_congr_left
 intro x hx
 have:=h x hx
 simp;omega
theorem strN_bytesN (s:ByteArray):strN (bytesN s)=s:=by
 apply Go.WideShapes.bytes_inj
 unfold bytesN strN
 rw [strOfNums_data,List.map_map,List.map_map]
 conv=>rhs;rw [← List.map_id s.data.toList]
 apply List.map_congr_left
 intro x _
 simp
def rst (s:ByteArray) (i:Nat):List Nat:=(bytesN s).drop i
theorem rst_len (s:ByteArray) (i:Nat):(rst s i).length=s.size - i:=by unfold rst;rw [List.length_drop,bytesN_len]
theorem rst_nil {s:ByteArray} {i:Nat} (h:s.size≤i):rst s i=[]:=by
 apply List.eq_nil_of_length_eq_zero;rw [rst_len];omega
theorem Yu {s:ByteArray} {i:Nat} (h:i<s.size):∃ b:UInt8,s[i]?=some b∧rst s i=b.toNat::rst s (i+1)∧b.toNat<256:=by
 refine ⟨s[i],?_,?_,UInt8.toNat_lt _⟩
 ·simp [h]
 unfold rst
 have h':i<(bytesN s).length:=by rw [bytesN_len];exact h
 rw [List.drop_eq_getElem_cons h',bytesN_get s i h h']
theorem rst_drop (s:ByteArray) (i n:Nat):(rst s i).drop n=rst s (i+n):=by unfold rst;rw [List.drop_drop]
theorem rst_cut (s:ByteArray) (i j:Nat):s.extract i j=strN ((rst s i).take (j - i)):=by
 rw [← strN_bytesN (s.extract i j)]
 congr 1
 unfold rst bytesN
 rw [ByteArray.data_extract,Array.toList_extract,List.extract_eq_take_drop,List.map_take,List.map_drop]
theorem rst_lt (s:ByteArray) (i:Nat):∀ x∈rst s i,x<256:=fun x hx=>bytesN_lt s x (List.mem_of_mem_drop hx)

/- what bytes are -/
def smallC (c:Nat):Bool:=(97≤c && c≤122) || c == 95
def greatC (c:Nat):Bool:=65≤c && c≤90
def digitC (c:Nat):Bool:=48≤c && c≤57
def nameC (c:Nat):Bool:=smallC c || greatC c || digitC c || c == 39
def signL:List Nat:=[33,36,37,38,42,43,46,47,60,61,62,63,64,94,124,126,58,45]
def signC (c:Nat):Bool:=signL.contains c
def blankC (c:Nat):Bool:=c == 32 || c == 9 || c == 10 || c == 13
def kindC (k c:Nat):Bool:=if k=1 then nameC c else if k=2 then digitC c else signC c
def run (k:Nat):List Nat→Nat
 | []=>0
 | c::l=>if kindC k c=true then run k l+1 else 0
theorem run_le (k:Nat):∀ l,run k l≤l.length
 | []=>Nat.le_refl _
 | c::l=>by
  unfold run
  have:=run_le k l
  split <;> simp <;> omega
def ovr:Bool→List Nat→Nat
 | _,[]=>0
 | true,c::l=>if c=10 then ovr false l+1 else ovr true l+1
 | false,c::l=>if c=35 then ovr true l+1 else if blankC c=true then ovr false l+1 else 0
theorem ovr_le:∀ (b:Bool) (l:List Nat),ovr b l≤l.length
 | b,[]=>by cases b <;> exact Nat.le_refl _
 | true,c::l=>by
  unfold ovr
  have h1:=ovr_le true l
  have h2:=ovr_le false l
  split <;> simp <;> omega
 | false,c::l=>by
  unfold ovr
  have h1:=ovr_le true l
  have h2:=ovr_le false l
  split
  ·simp;omega
  split <;> simp <;> omega
theorem ovr_nil (b:Bool):ovr b []=0:=by cases b <;> rfl
theorem ovr_10 (l:List Nat):ovr true (10::l)=ovr false (10::l):=rfl
theorem ovr_n10 {c:Nat} (l:List Nat) (h:c≠10):ovr true (c::l)=ovr true l+1:=by rw [ovr,if_neg h]
theorem ovr_35 (l:List Nat):ovr false (35::l)=ovr true (35::l):=rfl
theorem ovr_blank {c:Nat} (l:List Nat) (h:c≠35) (hb:blankC c=true):ovr false (c::l)=ovr false l+1:=by rw [ovr,if_neg h,if_pos hb]
theorem ovr_stop {c:Nat} (l:List Nat) (h:c≠35) (hb:¬ blankC c=true):ovr false (c::l)=0:=by rw [ovr,if_neg h,if_neg hb]

/- characters -/
def cont:Nat→Int→List Nat→Option Int
 | 0,v,_=>some v
 | _+1,_,[]=>none
 | n+1,v,d::l=>if d<128∨191<d then none else cont n (64 * v+d - 128) l
def utfN (c:Nat):Nat:=if c<192 then 0 else if c<224 then 2 else if c<240 then 3 else if c<248 then 4 else 0
def utfV (c:Nat):Int:=if c<192 then 0 else if c<224 then c - 192 else if c<240 then c - 224 else if c<248 then c - 240 else 0
def utfM (c:Nat):Int:=if c<192 then 0 else if c<224 then 128 else if c<240 then 2048 else if c<248 then 65536 else 0
def utfL:List Nat→Nat
 | []=>0
 | c::l=>if c<128 then 1 else if utfN c=0∨l.length+1<utfN c then 0 else
  match cont (utfN c - 1) (utfV c) l with
  | none=>0
  | some v=>if v<utfM c∨1114111<v∨(55296≤v∧v≤57343) then 0 else utfN c
theorem utfN_le (c:Nat):utfN c≤4:=by unfold utfN;repeat' split <;> try omega
theorem utfL_cons (c:Nat) (l:List Nat):utfL (c::l)=if c<128 then 1 else if utfN c=0∨l.length+1<utfN c then 0 else
    match cont (utfN c - 1) (utfV c) l with
    | none=>0
    | some v=>if v<utfM c∨1114111<v∨(55296≤v∧v≤57343) then 0 else utfN c:=rfl
theorem utfL_le (l:List Nat):utfL l≤l.length:=by
 cases l with
 | nil=>exact Nat.le_refl _
 | cons c l =>
  rw [utfL_cons]
  by_cases h1:c<128
  ·rw [if_pos h1];simp
  rw [if_neg h1]
  by_cases h2:utfN c=0∨l.length+1<utfN c
  ·rw [if_pos h2];simp
  rw [if_neg h2]
  cases cont (utfN c - 1) (utfV c) l with
  | none=>simp
  | some v =>
   simp only [List.length_cons]
   by_cases h3:v<utfM c∨1114111<v∨(55296≤v∧v≤57343)
   ·rw [if_pos h3];omega
   rw [if_neg h3];omega
def badF:Nat→Nat→List Nat→Int
 | 0,_,_ => -1
 | _+1,_,[] => -1
 | f+1,i,c::l=>if utfL (c::l)=0 then i else badF f (i+utfL (c::l)) ((c::l).drop (utfL (c::l)))

/- texts -/
def unesc (c:Nat):Option Nat:=if c=110 then some 10 else if c=116 then some 9 else if c=34∨c=92 then some c else none
def txL:List Nat→Option (List Nat × Nat)
 | []=>none
 | c::l=>if c=34 then some ([],1) else if c=10 then none else if c=92 then
     match l with
     | []=>none
     | d::l'=>match unesc d with
      | none=>none
      | some x=>(txL l').map fun r=>(x::r.1,r.2+2)
  else (txL l).map fun r=>(c::r.1,r.2+1)

/- tokens -/
structure Tok where
 k:Int
 t:ByteArray
 n:Int
 a:Int
deriving DecidableEq
def Tok.cells (t:Tok):List Value:=[.int .i64 t.k,.string t.t,.int .i64 t.n,.int .i64 t.a]
def tok0 (a:Int):Tok:=⟨0,⟨#[]⟩,0,a⟩
def keysL:List ByteArray:=[⟨#[100,97,116,97]⟩,⟨#[99,108,97,115,115]⟩,⟨#[105,110,115,116,97,110,99,101]⟩,⟨#[102,114,111,109]⟩,⟨#[119,104,101,114,101]⟩,⟨#[101,110,100]⟩,⟨#[100,101,114,105,118,105,110,103]⟩,⟨#[100,101,102]⟩,⟨#[108,101,116]⟩,⟨#[114,101,99]⟩,⟨#[97,110,100]⟩,⟨#[105,110]⟩,⟨#[99,97,115,101]⟩,⟨#[111,102]⟩,⟨#[105,102]⟩,⟨#[116,104,101,110]⟩,⟨#[101,108,115,101]⟩]
def marksL:List ByteArray:=[⟨#[40]⟩,⟨#[41]⟩,⟨#[44]⟩,⟨#[59]⟩,⟨#[92]⟩,⟨#[95]⟩,⟨#[61]⟩,⟨#[45,62]⟩,⟨#[124]⟩,⟨#[58]⟩]
def amongB (s:ByteArray) (l:List ByteArray):Bool:=l.any fun x=>decide (x=s)
def keyT (s:ByteArray):Bool:=amongB s keysL
def markT (s:ByteArray):Bool:=amongB s marksL
def zeros:List Nat→Nat
 | []=>0
 | c::l=>if c=48∧l≠[] then zeros l+1 else 0
def valO:Nat→List Nat→Option Nat
 | n,[]=>some n
 | n,d::l=>if 4611686018427387904<(10 * n+(d - 48)) % 18446744073709551616 then none else valO ((10 * n+(d - 48)) % 18446744073709551616) l
def parL (l:List Nat):Option Nat:=match valO 0 l with
 | none=>none
 | some n=>if n=4611686018427387904 then none else some n
def kindT (c:Nat) (w:ByteArray):Int:=if markT w=true then 7 else if keyT w=true then 6 else if signC c=true then 5 else if greatC c=true then 2 else 1
def oneL (at_:Int):List Nat→Tok × Int × Int
 | []=>(tok0 at_,0,0)
 | c::r =>
  if c=34 then
   match txL r with
   | none=>(tok0 at_,0,103)
   | some x=>(⟨4,strN x.1,0,at_⟩,at_+1+x.2,0)
  else if digitC c=true then
   let d:=(c::r).take (run 2 (c::r))
   let z:=d.drop (zeros d)
   match parL z with
   | none=>(tok0 at_,0,102)
   | some v=>(⟨3,strN z,v,at_⟩,at_+run 2 (c::r),0)
  else
   let k:=if smallC c=true∨greatC c=true then run 1 (c::r) else if signC c=true then run 3 (c::r) else 1
   let w:=strN ((c::r).take k)
   if ¬ (smallC c=true∨greatC c=true∨signC c=true)∧markT w=false then (tok0 at_,0,101)
   else if 40<k then (⟨0,w,0,at_⟩,0,104)
   else (⟨kindT c w,w,0,at_⟩,at_+k,0)
def lexF:Nat→Int→List Nat→List Tok→List Tok × Int × Int
 | _,i,[],acc=>(acc++[tok0 i],0,0)
 | 0,_,_::_,_=>([],0,0)
 | f+1,i,c::l,acc =>
  let o:=oneL i (c::l)
  if o.2.2≠0 then ([],o.2.2,i) else
   let l':=(c::l).drop (o.2.1 - i).toNat
   let k:=ovr false l'
   lexF f (o.2.1+k) (l'.drop k) (acc++[o.1])
def scanT (s:ByteArray):List Tok × Int × Int :=
 if 60000<s.size then ([],3,0) else
 if 0≤badF (s.size+1) 0 (rst s 0) then ([],100,badF (s.size+1) 0 (rst s 0)) else
 lexF (s.size+1) (ovr false (rst s 0)) ((rst s 0).drop (ovr false (rst s 0))) []
structure PS where
 at_:Nat
 lv:Int
 e:Int
 wh:Int
deriving DecidableEq
def nxt (L:List Tok) (p:PS):Tok:=if p.e≠0 then tok0 0 else (L[p.at_]?).getD (tok0 0)
def failP (p:PS) (e wh:Int):PS:=if p.e=0 then { p with e:=e,wh:=wh } else p
def isP (L:List Tok) (p:PS) (s:ByteArray):Bool:=decide (6≤(nxt L p).k∧(nxt L p).t=s)
def stepP (p:PS):PS:={ p with at_:=p.at_+1 }
def takeP (L:List Tok) (p:PS) (kind:Int) (s:ByteArray):Tok × PS :=
 if p.e≠0 then (nxt L p,p)
 else if (kind<6∧(nxt L p).k≠kind)∨(6≤kind∧((nxt L p).k<6∨(nxt L p).t≠s)) then (tok0 0,failP p 110 (nxt L p).a)
 else (nxt L p,stepP p)
def deeperP (L:List Tok) (p:PS):PS:=if 300<p.lv+1 then failP { p with lv:=p.lv+1 } 111 (nxt L { p with lv:=p.lv+1 }).a else { p with lv:=p.lv+1 }
theorem nxt_in {L:List Tok} {p:PS} (h:(nxt L p).k≠0):p.e=0∧p.at_<L.length:=by
 unfold nxt at h
 by_cases q:p.e≠0
 ·rw [if_pos q] at h;exact absurd rfl h
 rw [if_neg q] at h
 refine ⟨Classical.not_not.1 q,?_⟩
 rcases Nat.lt_or_ge p.at_ L.length with q2|q2
 ·exact q2
 rw [List.getElem?_eq_none q2] at h;exact absurd rfl h
def rowsT:List (List (List UInt8)):=[[[58,61]],[[124,124]],[[38,38]],[[61,61],[47,61],[60],[60,61],[62],[62,61]],[[58,58],[94]],[[43],[45]],[[42],[47],[37]]]
def lvl (op:List UInt8):Nat:=rowsT.findIdx (fun r=>r.contains op)+1
def sideN (l:Nat):Nat:=if l=4 then 0 else if l<6 then 2 else 1
abbrev kE:ByteArray:=⟨#[]⟩
abbrev kLP:ByteArray:=⟨#[40]⟩
abbrev kRP:ByteArray:=⟨#[41]⟩
abbrev kComma:ByteArray:=⟨#[44]⟩
abbrev kSemi:ByteArray:=⟨#[59]⟩
abbrev kBack:ByteArray:=⟨#[92]⟩
abbrev kUn:ByteArray:=⟨#[95]⟩
abbrev kEq:ByteArray:=⟨#[61]⟩
abbrev kArrow:ByteArray:=⟨#[45,62]⟩
abbrev kBar:ByteArray:=⟨#[124]⟩
abbrev kColon:ByteArray:=⟨#[58]⟩
abbrev kData:ByteArray:=⟨#[100,97,116,97]⟩
abbrev kClass:ByteArray:=⟨#[99,108,97,115,115]⟩
abbrev kInst:ByteArray:=⟨#[105,110,115,116,97,110,99,101]⟩
abbrev kFrom:ByteArray:=⟨#[102,114,111,109]⟩
abbrev kWhere:ByteArray:=⟨#[119,104,101,114,101]⟩
abbrev kEnd:ByteArray:=⟨#[101,110,100]⟩
abbrev kDeriv:ByteArray:=⟨#[100,101,114,105,118,105,110,103]⟩
abbrev kDef:ByteArray:=⟨#[100,101,102]⟩
abbrev kLet:ByteArray:=⟨#[108,101,116]⟩
abbrev kRec:ByteArray:=⟨#[114,101,99]⟩
abbrev kAnd:ByteArray:=⟨#[97,110,100]⟩
abbrev kIn:ByteArray:=⟨#[105,110]⟩
abbrev kCase:ByteArray:=⟨#[99,97,115,101]⟩
abbrev kOf:ByteArray:=⟨#[111,102]⟩
abbrev kIf:ByteArray:=⟨#[105,102]⟩
abbrev kThen:ByteArray:=⟨#[116,104,101,110]⟩
abbrev kElse:ByteArray:=⟨#[101,108,115,101]⟩
abbrev kUnit:ByteArray:=⟨#[85,110,105,116]⟩
abbrev kAA:ByteArray:=⟨#[38,38]⟩
abbrev kOO:ByteArray:=⟨#[124,124]⟩
def ty0:Ty:=.mk 0 kE 0 []
def pa0:Pa:=.mk 0 kE 0 [] 0
def ex0:Ex:=.mk 0 kE 0 ty0 [] [] [] 0
def decP (p:PS):PS:={ p with lv:=p.lv - 1 }
section
variable (L:List Tok)
def nameP (p:PS):Tok × PS :=
 if isP L p kLP=true then ((takeP L (stepP p) 5 kE).1,(takeP L (takeP L (stepP p) 5 kE).2 7 kRP).2) else takeP L p 1 kE
def uppersL:Nat→PS→List ByteArray→List ByteArray × PS
 | 0,p,acc=>(acc,p)
 | f+1,p,acc=>if isP L p kComma=true then uppersL f (takeP L (stepP p) 2 kE).2 (acc++[(takeP L (stepP p) 2 kE).1.t]) else (acc,p)
def uppersP (p:PS):List ByteArray × PS:=uppersL L (L.length+1) (takeP L p 2 kE).2 [(takeP L p 2 kE).1.t]
def startsP (what:Int) (p:PS):Prop :=
 (nxt L p).k=1∨(nxt L p).k=2∨isP L p kLP=true∨(1≤what∧(nxt L p).k=3)∨(what=1∧isP L p kUn=true)∨(what=2∧((nxt L p).k=4∨isP L p kCase=true))
instance (what:Int) (p:PS):Decidable (startsP L what p):=by unfold startsP;infer_instance
def atypeG (T:PS→Ty × PS) (p:PS):Ty × PS :=
 if (nxt L p).k=2 then (.mk 3 (nxt L p).t 0 [],stepP p)
 else if (nxt L p).k=1 then (.mk 1 (nxt L p).t 0 [],stepP p)
 else if isP L (takeP L p 7 kLP).2 kRP=true then (.mk 3 kUnit 0 [],stepP (takeP L p 7 kLP).2)
 else ((T (takeP L p 7 kLP).2).1,(takeP L (T (takeP L p 7 kLP).2).2 7 kRP).2)
def typesL (T:PS→Ty × PS):Nat→PS→List Ty→List Ty × PS
 | 0,p,acc=>(acc,p)
 | f+1,p,acc=>if startsP L 0 p then typesL T f (atypeG L T p).2 (acc++[(atypeG L T p).1]) else (acc,p)
def typeH (T:PS→Ty × PS) (q:PS):Ty × PS :=
 if (nxt L q).k=2 then (.mk 3 (nxt L q).t 0 (typesL L T (L.length+1) (stepP q) []).1,(typesL L T (L.length+1) (stepP q) []).2)
 else atypeG L T q
def typeR (T:PS→Ty × PS) (x:Ty × PS):Ty × PS :=
 if isP L x.2 kArrow=true then (.mk 3 kArrow 0 [x.1,(T (stepP x.2)).1],decP (T (stepP x.2)).2) else (x.1,decP x.2)
def typeF:Nat→PS→Ty × PS
 | 0,p=>(ty0,p)
 | n+1,p=>if p.e≠0 then (ty0,p) else typeR L (typeF n) (typeH L (typeF n) (deeperP L p))
def typeP (p:PS):Ty × PS:=typeF L 302 p
def apatG (T:PS→Pa × PS) (p:PS):Pa × PS :=
 if (nxt L p).k=2 then (.mk 3 (nxt L p).t 0 [] (nxt L p).a,stepP p)
 else if (nxt L p).k=1 then (.mk 2 (nxt L p).t 0 [] (nxt L p).a,stepP p)
 else if (nxt L p).k=3 then (.mk 4 kE (nxt L p).n [] (nxt L p).a,stepP p)
 else if isP L p kUn=true then (.mk 1 kE 0 [] (nxt L p).a,stepP p)
 else if isP L (takeP L p 7 kLP).2 kRP=true then (.mk 3 kUnit 0 [] (nxt L p).a,stepP (takeP L p 7 kLP).2)
 else ((T (takeP L p 7 kLP).2).1,(takeP L (T (takeP L p 7 kLP).2).2 7 kRP).2)
def patsL (T:PS→Pa × PS):Nat→PS→List Pa→List Pa × PS
 | 0,p,acc=>(acc,p)
 | f+1,p,acc=>if startsP L 1 p then patsL T f (apatG L T p).2 (acc++[(apatG L T p).1]) else (acc,p)
def patF:Nat→PS→Pa × PS
 | 0,p=>(pa0,p)
 | n+1,p=>if p.e≠0 then (pa0,p)
  else if (nxt L (deeperP L p)).k=2 then
   (.mk 3 (nxt L (deeperP L p)).t 0 (patsL L (patF n) (L.length+1) (stepP (deeperP L p)) []).1 (nxt L (deeperP L p)).a,decP (patsL L (patF n) (L.length+1) (stepP (deeperP L p)) []).2)
  else ((apatG L (patF n) (deeperP L p)).1,decP (apatG L (patF n) (deeperP L p)).2)
def patP (p:PS):Pa × PS:=patF L 302 p
end
/- operators -/
def lvT (ops:List Tok) (i:Nat):Nat:=lvl ((ops[i]?).getD (tok0 0)).t.toList
def rootB (ops:List Tok):Nat→Nat→Nat→Nat
 | 0,a,_=>a
 | f+1,a,i=>rootB ops f (if lvT ops i<lvT ops a∨(lvT ops i=lvT ops a∧sideN (lvT ops a)=1) then i else a) (i+1)
def opE (k:Int) (ks:List Ex) (a:Int):Ex:=.mk k kE 0 ty0 ks [] [] a
def namE (k:Int) (s:ByteArray) (a:Int):Ex:=.mk k s 0 ty0 [] [] [] a
def binE (op:Tok) (x y:Ex):Ex :=
 if op.t=kAA then opE 10 [x,y] op.a else if op.t=kOO then opE 11 [x,y] op.a
 else opE 5 [opE 5 [namE 3 op.t op.a,x] op.a,y] op.a
def buildF (l:List Ex) (ops:List Tok):Nat→Nat→Nat→Ex
 | 0,a,_=>(l[a]?).getD ex0
 | d+1,a,b=>if a=b then (l[a]?).getD ex0
  else binE ((ops[rootB ops (b - (a+1)) a (a+1)]?).getD (tok0 0)) (buildF l ops d a (rootB ops (b - (a+1)) a (a+1))) (buildF l ops d (rootB ops (b - (a+1)) a (a+1)+1) b)
def backL (lv:Nat→Nat):Nat→Bool
 | 0=>false
 | i+1=>if 4<lv i then backL lv i else decide (lv i=4)
def clashL (lv:Nat→Nat):Nat→Nat→Int
 | 0,_ => -1
 | f+1,k=>if lv k=4∧backL lv k=true then k else clashL lv f (k+1)
def clashP (ops:List Tok):Int:=clashL (lvT ops) ops.length 0
section
variable (L:List Tok)
def bindG (E:PS→Ex × PS) (p:PS):Bi × PS :=
 (.mk (nameP L p).1.t (E (takeP L (nameP L p).2 7 kEq).2).1 (nameP L p).1.a,(E (takeP L (nameP L p).2 7 kEq).2).2)
def bindsL (E:PS→Ex × PS):Nat→PS→List Bi→List Bi × PS
 | 0,p,acc=>(acc,p)
 | f+1,p,acc=>if isP L p kAnd=true then bindsL E f (bindG L E (stepP p)).2 (acc++[(bindG L E (stepP p)).1]) else (acc,p)
def lambdaG (E:PS→Ex × PS):Nat→PS→Int→Ex × PS
 | 0,p,_=>(ex0,p)
 | f+1,p,a =>
  if (nxt L (takeP L p 1 kE).2).k=1 then
   (.mk 6 (takeP L p 1 kE).1.t 0 ty0 [(lambdaG E f (takeP L p 1 kE).2 (nxt L (takeP L p 1 kE).2).a).1] [] [] a,(lambdaG E f (takeP L p 1 kE).2 (nxt L (takeP L p 1 kE).2).a).2)
  else (.mk 6 (takeP L p 1 kE).1.t 0 ty0 [(E (takeP L (takeP L p 1 kE).2 7 kArrow).2).1] [] [] a,(E (takeP L (takeP L p 1 kE).2 7 kArrow).2).2)
def altG (E:PS→Ex × PS) (p:PS):Al × PS :=
 (.mk (patP L p).1 (E (takeP L (patP L p).2 7 kArrow).2).1,(E (takeP L (patP L p).2 7 kArrow).2).2)
def altsL (E:PS→Ex × PS):Nat→PS→List Al→List Al × PS
 | 0,p,acc=>(acc,p)
 | f+1,p,acc=>if p.e≠0 then (acc,p)
  else if isP L (altG L E p).2 kBar=true then altsL E f (stepP (altG L E p).2) (acc++[(altG L E p).1])
  else (acc++[(altG L E p).1],(altG L E p).2)
def caseG (E:PS→Ex × PS) (a:Int) (p:PS):Ex × PS :=
 let y:=altsL L E (L.length+1) (takeP L (E p).2 6 kOf).2 []
 (.mk 8 kE 0 ty0 [(E p).1] y.1 [] a,(takeP L y.2 6 kEnd).2)
def annG (a:Int) (x:Ex × PS):Ex × PS :=
 if isP L x.2 kColon=true then (.mk 12 kE 0 (typeP L (stepP x.2)).1 [x.1] [] [] a,(takeP L (typeP L (stepP x.2)).2 7 kRP).2)
 else (x.1,(takeP L x.2 7 kRP).2)
def atomG (E:PS→Ex × PS) (p:PS):Ex × PS :=
 if (nxt L p).k=1 then (namE 3 (nxt L p).t (nxt L p).a,stepP p)
 else if (nxt L p).k=2 then (namE 4 (nxt L p).t (nxt L p).a,stepP p)
 else if (nxt L p).k=3 then (.mk 1 kE (nxt L p).n ty0 [] [] [] (nxt L p).a,stepP p)
 else if (nxt L p).k=4 then (namE 2 (nxt L p).t (nxt L p).a,stepP p)
 else if isP L p kCase=true then caseG L E (nxt L p).a (stepP p)
 else if isP L (takeP L p 7 kLP).2 kRP=true then (namE 4 kUnit (nxt L p).a,stepP (takeP L p 7 kLP).2)
 else if (nxt L (takeP L p 7 kLP).2).k=5 then
  (namE 3 (takeP L (takeP L p 7 kLP).2 5 kE).1.t (nxt L p).a,(takeP L (takeP L (takeP L p 7 kLP).2 5 kE).2 7 kRP).2)
 else annG L (nxt L p).a (E (takeP L p 7 kLP).2)
def appsL (E:PS→Ex × PS) (a:Int):Nat→PS→Ex→Ex × PS
 | 0,p,x=>(x,p)
 | f+1,p,x=>if startsP L 2 p then appsL E a f (atomG L E p).2 (opE 5 [x,(atomG L E p).1] a) else (x,p)
def letG (E:PS→Ex × PS) (a n:Int) (p:PS):Ex × PS :=
 let bs:=bindsL L E (L.length+1) (bindG L E p).2 [(bindG L E p).1]
 (.mk 7 kE n ty0 [(E (takeP L bs.2 6 kIn).2).1] [] bs.1 a,(E (takeP L bs.2 6 kIn).2).2)
def ifG (E:PS→Ex × PS) (a:Int) (p:PS):Ex × PS :=
 let y:=E (takeP L (E p).2 6 kThen).2
 let z:=E (takeP L y.2 6 kElse).2
 (opE 9 [(E p).1,y.1,z.1] a,z.2)
def operandG (E:PS→Ex × PS) (p:PS):Ex × PS :=
 if isP L p kBack=true then lambdaG L E (L.length+1) (stepP p) (nxt L p).a
 else if isP L p kLet=true then
  if isP L (stepP p) kRec=true then letG L E (nxt L p).a 1 (stepP (stepP p)) else letG L E (nxt L p).a 0 (stepP p)
 else if isP L p kIf=true then ifG L E (nxt L p).a (stepP p)
 else appsL L E (nxt L p).a (L.length+1) (atomG L E p).2 (atomG L E p).1
def opsL (E:PS→Ex × PS):Nat→PS→List Ex→List Tok→(List Ex × List Tok) × PS
 | 0,p,l,o=>((l,o),p)
 | f+1,p,l,o=>if (nxt L p).k=5 then opsL E f (operandG L E (takeP L p 5 kE).2).2 (l++[(operandG L E (takeP L p 5 kE).2).1]) (o++[(takeP L p 5 kE).1]) else ((l,o),p)
def joinE (y:(List Ex × List Tok) × PS):Ex × PS :=
 if y.2.e≠0 then (ex0,y.2)
 else if 0≤clashP y.1.2 then (ex0,failP y.2 112 ((y.1.2[(clashP y.1.2).toNat]?).getD (tok0 0)).a)
 else (buildF y.1.1 y.1.2 y.1.2.length 0 y.1.2.length,decP y.2)
def expF:Nat→PS→Ex × PS
 | 0,p=>(ex0,p)
 | n+1,p=>if p.e≠0 then (ex0,p)
  else joinE (opsL L (expF n) (L.length+1) (operandG L (expF n) (deeperP L p)).2 [(operandG L (expF n) (deeperP L p)).1] [])
def expP (p:PS):Ex × PS:=expF L 302 p
def bindP (p:PS):Bi × PS:=bindG L (expP L) p
/- declarations -/
def paramsL:Nat→PS→List ByteArray→List ByteArray × PS
 | 0,p,acc=>(acc,p)
 | f+1,p,acc=>if (nxt L p).k=1 then paramsL f (takeP L p 1 kE).2 (acc++[(takeP L p 1 kE).1.t]) else (acc,p)
def conP (p:PS):Cn × PS :=
 let a:=typesL L (typeP L) (L.length+1) (takeP L p 2 kE).2 []
 (.mk (takeP L p 2 kE).1.t a.1 (takeP L p 2 kE).1.a,a.2)
def consL:Nat→PS→List Cn→List Cn × PS
 | 0,p,acc=>(acc,p)
 | f+1,p,acc=>if p.e≠0 then (acc,p)
  else if isP L (conP L p).2 kBar=true then consL f (stepP (conP L p).2) (acc++[(conP L p).1])
  else (acc++[(conP L p).1],(conP L p).2)
def derivP (p:PS):List ByteArray × PS :=
 if isP L p kDeriv=true then ((uppersP L (takeP L (stepP p) 7 kLP).2).1,(takeP L (uppersP L (takeP L (stepP p) 7 kLP).2).2 7 kRP).2) else ([],p)
def dataP (p:PS):Da × PS :=
 let a:=paramsL L (L.length+1) (takeP L p 2 kE).2 []
 let c:=consL L (L.length+1) (takeP L a.2 7 kEq).2 []
 (.mk (takeP L p 2 kE).1.t a.1 c.1 (derivP L c.2).1 (takeP L p 2 kE).1.a,(derivP L c.2).2)
def clsL:Nat→PS→List Me→List Bi→(List Me × List Bi) × PS
 | 0,p,ms,ds=>((ms,ds),p)
 | f+1,p,ms,ds=>if p.e≠0 then ((ms,ds),p)
  else if isP L p kEnd=true then ((ms,ds),stepP p)
  else if isP L p kDef=true then clsL f (takeP L (bindP L (stepP p)).2 7 kSemi).2 ms (ds++[(bindP L (stepP p)).1])
  else clsL f (takeP L (typeP L (takeP L (nameP L p).2 7 kColon).2).2 7 kSemi).2 (ms++[.mk (nameP L p).1.t (typeP L (takeP L (nameP L p).2 7 kColon).2).1 (nameP L p).1.a]) ds
def supersP (p:PS):List ByteArray × PS:=if isP L p kFrom=true then uppersP L (stepP p) else ([],p)
def classP (p:PS):Cl × PS :=
 let s:=supersP L (takeP L (takeP L p 2 kE).2 1 kE).2
 let r:=clsL L (L.length+1) (takeP L s.2 6 kWhere).2 [] []
 (.mk (takeP L p 2 kE).1.t (takeP L (takeP L p 2 kE).2 1 kE).1.t s.1 r.1.1 r.1.2 (takeP L p 2 kE).1.a,r.2)
def predP (p:PS):Pr × PS :=
 (.mk (takeP L p 2 kE).1.t (.mk 1 (takeP L (takeP L p 2 kE).2 1 kE).1.t 0 []),(takeP L (takeP L p 2 kE).2 1 kE).2)
def ctxL:Nat→PS→List Pr→List Pr × PS
 | 0,p,acc=>(acc,p)
 | f+1,p,acc=>if p.e≠0 then (acc,p)
  else if isP L (predP L p).2 kComma=true then ctxL f (stepP (predP L p).2) (acc++[(predP L p).1])
  else (acc++[(predP L p).1],(predP L p).2)
def ctxP (p:PS):List Pr × PS:=if isP L p kFrom=true then ctxL L (L.length+1) (stepP p) [] else ([],p)
def insL:Nat→PS→List Bi→List Bi × PS
 | 0,p,bs=>(bs,p)
 | f+1,p,bs=>if p.e≠0 then (bs,p)
  else if isP L p kEnd=true then (bs,stepP p)
  else insL f (takeP L (bindP L (takeP L p 6 kDef).2).2 7 kSemi).2 (bs++[(bindP L (takeP L p 6 kDef).2).1])
def instP (p:PS):In × PS :=
 let h:=atypeG L (typeP L) (takeP L p 2 kE).2
 let c:=ctxP L h.2
 let b:=insL L (L.length+1) (takeP L c.2 6 kWhere).2 []
 (.mk (takeP L p 2 kE).1.t h.1 c.1 b.1 (takeP L p 2 kE).1.a,b.2)
def declP (p:PS) (x:Pg):Pg × PS :=
 if isP L p kData=true then (.mk (x.da++[(dataP L (stepP p)).1]) x.cl x.ins x.bs,(dataP L (stepP p)).2)
 else if isP L p kClass=true then (.mk x.da (x.cl++[(classP L (stepP p)).1]) x.ins x.bs,(classP L (stepP p)).2)
 else if isP L p kInst=true then (.mk x.da x.cl (x.ins++[(instP L (stepP p)).1]) x.bs,(instP L (stepP p)).2)
 else (.mk x.da x.cl x.ins (x.bs++[(bindP L (takeP L p 6 kDef).2).1]),(bindP L (takeP L p 6 kDef).2).2)
def progL:Nat→PS→Pg→Pg × PS
 | 0,p,x=>(x,p)
 | f+1,p,x=>if p.e≠0∨(nxt L p).k=0 then (x,p)
  else progL f (takeP L (declP L p x).2 7 kSemi).2 (declP L p x).1
end
def pg0:Pg:=.mk [] [] [] []
def beginP (s:List Tok × Int × Int):PS:=if s.2.1≠0 then failP ⟨0,0,0,0⟩ s.2.1 s.2.2 else ⟨0,0,0,0⟩
def progT (src:ByteArray):Pg × Int × Int :=
 let r:=progL (scanT src).1 ((scanT src).1.length+1) (beginP (scanT src)) pg0
 if r.2.e≠0 then (pg0,r.2.e,r.2.wh) else (r.1,0,0)
theorem bytesN_app (a b:ByteArray):bytesN (a++b)=bytesN a++bytesN b:=by
 simp [bytesN,ByteArray.data_append]
def spc (ws:List (List Nat)):List Nat:=ws.flatMap (fun w=>32::w)
theorem spc_nil:spc []=[]:=rfl
theorem spc_cons (w:List Nat) (ws:List (List Nat)):spc (w::ws)=32::(w++spc ws):=by simp [spc]
theorem spc_app (a b:List (List Nat)):spc (a++b)=spc a++spc b:=by simp [spc]
abbrev Tk:=Int × ByteArray × Int
def Tok.tk (t:Tok):Tk:=(t.k,t.t,t.n)
def Stp (rest:List Nat):Prop:=rest=[]∨∃ r,rest=32::r
theorem spc_stp (ws:List (List Nat)):Stp (spc ws):=by
 cases ws with
 | nil=>exact .inl rfl
 | cons w ws=>exact .inr ⟨_,spc_cons w ws⟩
structure Pce (w:List Nat) (t:Tk):Prop where
 hd:∃ c r,w=c::r∧c≠35∧blankC c=false
 one:∀ (a:Int) (rest:List Nat),Stp rest→oneL a (w++rest)=(⟨t.1,t.2.1,t.2.2,a⟩,a+w.length,0)
theorem run_stp (k:Nat):∀ (w rest:List Nat),(∀ c∈w,kindC k c=true)→Stp rest→run k (w++rest)=w.length
 | [],rest,_,h=>by
  rcases h with rfl|⟨r,rfl⟩
  ·rfl
  rw [List.nil_append,run]
  have:¬ kindC k 32=true:=by
   unfold kindC
   split
   ·decide
   split
   ·decide
   decide
  rw [if_neg this];rfl
 | c::w,rest,hw,h=>by
  rw [List.cons_append,run,if_pos (hw c by19),run_stp k w rest (fun d hd=>hw d (by simp [hd])) h,List.length_cons]
def oneK (a:Int) (c:Nat) (r:List Nat) (k:Nat):Tok × Int × Int :=
 if ¬ (smallC c=true∨greatC c=true∨signC c=true)∧markT (strN ((c::r).take k))=false then (tok0 a,0,101)
 else if 40<k then (⟨0,strN ((c::r).take k),0,a⟩,0,104)
 else (⟨kindT c (strN ((c::r).take k)),strN ((c::r).take k),0,a⟩,a+k,0)
theorem txL_one (c:Nat) (l:List Nat) (h1:c≠34) (h2:c≠10) (h3:c≠92):txL (c::l)=(txL l).map fun r=>(c::r.1,r.2+1):=by
 rw [txL.eq_def]
 simp only []
 rw [if_neg h1,if_neg h2,if_neg h3]
theorem txL_end (l:List Nat):txL (34::l)=some ([],1):=by
 rw [txL.eq_def]
 rfl
theorem oneL_cons (a:Int) (c:Nat) (r:List Nat):oneL a (c::r)=if c=34 then
      match txL r with
      | none=>(tok0 a,0,103)
      | some x=>(⟨4,strN x.1,0,a⟩,a+1+x.2,0)
    else if digitC c=true then
     match parL (((c::r).take (run 2 (c::r))).drop (zeros ((c::r).take (run 2 (c::r))))) with
     | none=>(tok0 a,0,102)
     | some v=>(⟨3,strN (((c::r).take (run 2 (c::r))).drop (zeros ((c::r).take (run 2 (c::r))))),v,a⟩,a+run 2 (c::r),0)
    else oneK a c r (if smallC c=true∨greatC c=true then run 1 (c::r) else if signC c=true then run 3 (c::r) else 1):=rfl
theorem small_not {c:Nat} (h:smallC c=true∨greatC c=true):c≠34∧digitC c=false∧c≠35∧blankC c=false:=by
 simp only [smallC,greatC,digitC,blankC,Bool.or_eq_true,Bool.and_eq_true,decide_eq_true_eq,beq_iff_eq,Bool.and_eq_false_iff,decide_eq_false_iff_not,Bool.or_eq_false_iff,beq_eq_false_iff_ne] at *
 omega
theorem pce_word {c:Nat} {r:List Nat} (hc:smallC c=true∨greatC c=true) (hr:∀ d∈r,nameC d=true) (hl:r.length+1≤40):Pce (c::r) (kindT c (strN (c::r)),strN (c::r),0):=by
 obtain ⟨h1,h2,h3,h4⟩:=small_not hc
 refine ⟨⟨c,r,Y,h3,h4⟩,fun a rest hs=>?_⟩
 have hrun:run 1 (c::r++rest)=(c::r).length:=run_stp 1 (c::r) rest (fun d hd=>by
  rcases List.mem_cons.1 hd with rfl|hd
  ·show nameC d=true
   unfold nameC
   rcases hc with hc|hc <;> rw [hc] <;> simp
  exact hr d hd) hs
 rw [List.cons_append] at hrun ⊢
 rw [oneL_cons,if_neg h1,if_neg (by rw [h2];decide),if_pos hc,hrun,oneK]
 rw [if_neg (fun q=>q.1 (hc.elim .inl (fun q=>.inr (.inl q)))),if_neg (by simp only [List.length_cons];omega)]
 have ht:(c::(r++rest)).take (c::r).length=c::r:=by
  rw [← List.cons_append,List.take_left'];rfl
 rw [ht]
theorem pce_sign {c:Nat} {r:List Nat} (hc:∀ d∈c::r,signC d=true) (hl:r.length+1≤40) (hs0:c≠34∧digitC c=false∧c≠35∧blankC c=false∧smallC c=false∧greatC c=false):Pce (c::r) (kindT c (strN (c::r)),strN (c::r),0):=by
 obtain ⟨h1,h2,h3,h4,h5,h6⟩:=hs0
 refine ⟨⟨c,r,Y,h3,h4⟩,fun a rest hs=>?_⟩
 have hrun:run 3 (c::r++rest)=(c::r).length:=run_stp 3 (c::r) rest (fun d hd=>hc d hd) hs
 have hcs:signC c=true:=hc c by19
 rw [List.cons_append] at hrun ⊢
 have hng:¬ (smallC c=true∨greatC c=true):=by rw [h5,h6];simp
 rw [oneL_cons,if_neg h1,if_neg (by rw [h2];decide),if_neg hng,if_pos hcs,hrun,oneK]
 rw [if_neg (fun q=>q.1 (.inr (.inr hcs))),if_neg (by simp only [List.length_cons];omega)]
 have ht:(c::(r++rest)).take (c::r).length=c::r:=by
  rw [← List.cons_append,List.take_left'];rfl
 rw [ht]
theorem txL_app:∀ (b rest:List Nat),(∀ c∈b,c≠34∧c≠10∧c≠92)→txL (b++34::rest)=some (b,b.length+1)
 | [],rest,_=>by rw [List.nil_append,txL_end];rfl
 | c::b,rest,h=>by
  obtain ⟨h1,h2,h3⟩:=h c by19
  rw [List.cons_append,txL_one _ _ h1 h2 h3,txL_app b rest (fun d hd=>h d (by simp [hd]))]
  rfl
theorem pce_text {b:List Nat} (h:∀ c∈b,c≠34∧c≠10∧c≠92):Pce (34::(b++[34])) (4,strN b,0):=by
 refine ⟨⟨34,_,Y,by decide,by decide⟩,fun a rest _=>?_⟩
 rw [List.cons_append,List.append_assoc]
 rw [oneL_cons,if_pos rfl,List.cons_append,List.nil_append,txL_app b rest h]
 simp only [List.length_cons,List.length_append,List.length_nil]
 refine Prod.ext Y (Prod.ext ?_ Y)
 show a+1+((b.length+1:Nat):Int)=a+((b.length+(0+1)+1:Nat):Int)
 omega
theorem ovr_w {w:List Nat} {t:Tk} (h:Pce w t) (rest:List Nat):ovr false (w++rest)=0:=by
 obtain ⟨c,r,rfl,h1,h2⟩:=h.hd
 rw [List.cons_append,ovr_stop _ h1 (by rw [h2];decide)]
theorem lexF_spc:∀ (ws:List (List Nat × Tk)) (w:List Nat) (t:Tk) (f:Nat) (i:Int) (acc:List Tok),Pce w t→(∀ p∈ws,Pce p.1 p.2)→ws.length+1≤f→∃ L:List Tok,lexF f i (w++spc (ws.map Prod.fst)) acc=(acc++L,0,0)∧L.map Tok.tk=(t::ws.map Prod.snd)++[((0,kE,0):Tk)]
 | ws,w,t,0,_,_,_,_,hf=>by omega
 | ws,w,t,f+1,i,acc,hw,hws,hf=>by
  have hone:=hw.one i (spc (ws.map Prod.fst)) (spc_stp _)
  obtain ⟨c,r,hcr,_,_⟩:=hw.hd
  have hne:w++spc (ws.map Prod.fst)=c::(r++spc (ws.map Prod.fst)):=by rw [hcr];rfl
  have hdrop:(w++spc (ws.map Prod.fst)).drop ((i+w.length) - i).toNat=spc (ws.map Prod.fst):=by
   rw [show ((i+w.length) - i).toNat=w.length by omega,List.drop_left'];rfl
  rw [hne] at hone hdrop ⊢
  rw [lexF,hone]
  simp only [ne_eq,not_true_eq_false,if_false,hdrop]
  cases ws with
  | nil =>
   refine ⟨[⟨t.1,t.2.1,t.2.2,i⟩,tok0 (i+w.length)],?_,Y⟩
   simp only [List.map_nil,spc_nil,ovr_nil,List.drop_nil]
   rw [lexF]
   simp
  | cons p ws =>
   have hp:=hws p by19
   have hk:ovr false (spc ((p::ws).map Prod.fst))=1:=by
    rw [List.map_cons,spc_cons,ovr_blank _ by17 by17,ovr_w hp]
   rw [hk]
   have hd1:(spc ((p::ws).map Prod.fst)).drop 1=p.1++spc (ws.map Prod.fst):=by
    rw [List.map_cons,spc_cons];rfl
   rw [hd1]
   obtain ⟨L,h1,h2⟩:=lexF_spc ws p.1 p.2 f (i+w.length+(1:Nat)) (acc++[⟨t.1,t.2.1,t.2.2,i⟩]) hp (fun q hq=>hws q (by simp [hq])) (by simp only [List.length_cons] at hf;omega)
   refine ⟨⟨t.1,t.2.1,t.2.2,i⟩::L,?_,by rw [List.map_cons,h2];rfl⟩
   rw [h1]
   simp
theorem badF_ascii:∀ (f i:Nat) (l:List Nat),(∀ c∈l,c<128)→badF f i l = -1
 | 0,_,_,_=>by rw [badF]
 | _+1,_,[],_=>by rw [badF]
 | f+1,i,c::l,h=>by
  have hc:utfL (c::l)=1:=by rw [utfL_cons,if_pos (h c by19)]
  rw [badF,hc,if_neg by17]
  exact badF_ascii f _ _ (fun d hd=>h d (by simp at hd;simp [hd]))
theorem scan_law {s:ByteArray} {w:List Nat} {t:Tk} {ws:List (List Nat × Tk)} (hs:bytesN s=92::(w++spc (ws.map Prod.fst))) (hsz:s.size≤60000) (hasc:∀ c∈bytesN s,c<128) (hw:Pce w t) (hws:∀ p∈ws,Pce p.1 p.2):∃ L:List Tok,scanT s=(L,0,0)∧L.map Tok.tk=((7,kBack,0)::t::ws.map Prod.snd)++[((0,kE,0):Tk)]:=by
 have hr0:rst s 0=92::(w++spc (ws.map Prod.fst)):=by rw [← hs];rfl
 have hlen:(bytesN s).length=s.size:=bytesN_len s
 have hwl:ws.length+1≤s.size:=by
  rw [← hlen,hs]
  have:∀ l:List (List Nat × Tk),l.length≤(spc (l.map Prod.fst)).length:=by
   intro l
   induction l with
   | nil=>exact Nat.le_refl _
   | cons p l ih=>rw [List.map_cons,spc_cons];simp only [List.length_cons,List.length_append];omega
  have:=this ws
  simp only [List.length_cons,List.length_append]
  omega
 unfold scanT
 rw [if_neg by18,badF_ascii _ _ _ (by rw [hr0,← hs];exact hasc),if_neg by18,hr0]
 have h0:ovr false (92::(w++spc (ws.map Prod.fst)))=0:=ovr_stop _ by17 by17
 rw [h0,List.drop_zero]
 have hone:oneL (0:Nat) (92::(w++spc (ws.map Prod.fst)))=(⟨7,kBack,0,0⟩,1,0):=by
  have e1:¬ (smallC 92=true∨greatC 92=true):=by decide
  have e2:¬ signC 92=true:=by decide
  have e3:(92::(w++spc (ws.map Prod.fst))).take 1=[92]:=rfl
  rw [oneL_cons,if_neg by17,if_neg by17,if_neg e1,if_neg e2,oneK,e3]
  rw [if_neg by14,if_neg by14,show kindT 92 (strN [92])=7 by decide +kernel]
  rfl
 obtain ⟨L,h1,h2⟩:=lexF_spc ws w t s.size 1 [⟨7,kBack,0,0⟩] hw hws hwl
 refine ⟨⟨7,kBack,0,0⟩::L,?_,by rw [List.map_cons,h2];rfl⟩
 rw [lexF,hone]
 simp only [ne_eq,not_true_eq_false,if_false]
 have e4:(92::(w++spc (ws.map Prod.fst))).drop ((1:Int) - ((0:Nat):Int)).toNat=w++spc (ws.map Prod.fst):=rfl
 rw [e4,ovr_w hw,List.drop_zero]
 exact h1
/- where the parser stands -/
def Now (L:List Tok) (p:PS) (ts:List Tk):Prop:=p.e=0∧(L.map Tok.tk).drop p.at_=ts
section
variable {L:List Tok} {p:PS} {t:Tk} {ts:List Tk}
theorem Now.len (h:Now L p ts):ts.length≤L.length:=by
 rw [← h.2,List.length_drop,List.length_map];omega
theorem Now.get (h:Now L p (t::ts)):∃ x:Tok,L[p.at_]?=some x∧x.tk=t:=by
 have h1:((L.map Tok.tk).drop p.at_)[0]?=some t:=by rw [h.2];rfl
 rw [List.getElem?_drop,List.getElem?_map,Nat.add_zero] at h1
 cases hx:L[p.at_]? with
 | none=>rw [hx] at h1;simp at h1
 | some x=>rw [hx] at h1;exact ⟨x,rfl,by simpa using h1⟩
theorem Now.nxt (h:Now L p (t::ts)):(nxt L p).tk=t:=by
 obtain ⟨x,h1,h2⟩:=h.get
 unfold Go.Proofs.YtefbicnoddggnaaGreat.nxt
 rw [if_neg (by rw [h.1];decide),h1]
 exact h2
theorem Now.k (h:Now L p (t::ts)):(Go.Proofs.YtefbicnoddggnaaGreat.nxt L p).k=t.1:=by rw [← h.nxt];rfl
theorem Now.tx (h:Now L p (t::ts)):(Go.Proofs.YtefbicnoddggnaaGreat.nxt L p).t=t.2.1:=by rw [← h.nxt];rfl
theorem Now.step (h:Now L p (t::ts)):Now L (stepP p) ts:=by
 refine ⟨h.1,?_⟩
 show (L.map Tok.tk).drop (p.at_+1)=ts
 rw [← List.drop_drop,h.2];rfl
theorem Now.is (h:Now L p (t::ts)) (s:ByteArray):isP L p s=decide (6≤t.1∧t.2.1=s):=by
 unfold isP
 exact decide_eq_decide.2 (by rw [h.k,h.tx])
theorem Now.take (h:Now L p (t::ts)) {kind:Int} {s:ByteArray} (hk:(kind<6∧t.1=kind)∨(6≤kind∧6≤t.1∧t.2.1=s)):takeP L p kind s=(Go.Proofs.YtefbicnoddggnaaGreat.nxt L p,stepP p):=by
 unfold takeP
 rw [if_neg (by rw [h.1];decide),h.k,h.tx,if_neg]
 rintro (⟨h1,h2⟩|⟨h1,h2⟩)
 ·obtain ⟨_,h3⟩|⟨h3,_⟩:=hk
  ·exact h2 h3
  omega
 obtain ⟨h3,_⟩|⟨_,h4,h5⟩:=hk
 ·omega
 rcases h2 with h2|h2
 ·omega
 exact h2 h5
theorem Now.deep (h:Now L p ts) (hl:p.lv+1≤300):deeperP L p={ p with lv:=p.lv+1 }∧Now L { p with lv:=p.lv+1 } ts:=by
 unfold deeperP
 rw [if_neg by18]
 exact ⟨Y,h⟩
theorem Now.dec (h:Now L p ts):Now L (decP p) ts:=h
end
/- places -/
mutual
def Pa.pin (a:Int):Pa→Pa
 | .mk k s n ks _=>.mk k s n (Pa.pins a ks) a
def Pa.pins (a:Int):List Pa→List Pa
 | []=>[]
 | x::l=>x.pin a::Pa.pins a l
end
mutual
def Ex.pin (a:Int):Ex→Ex
 | .mk k s n _ ks al _ _=>.mk k s n ty0 (Ex.pins a ks) (Al.pins a al) [] a
def Ex.pins (a:Int):List Ex→List Ex
 | []=>[]
 | x::l=>x.pin a::Ex.pins a l
def Al.pin (a:Int):Al→Al
 | .mk q e=>.mk (q.pin a) (e.pin a)
def Al.pins (a:Int):List Al→List Al
 | []=>[]
 | x::l=>x.pin a::Al.pins a l
end
theorem Pa.pins_map (a:Int):∀ l:List Pa,Pa.pins a l=l.map (Pa.pin a)
 | []=>rfl
 | x::l=>by rw [Pa.pins,Pa.pins_map a l];rfl
theorem Ex.pins_map (a:Int):∀ l:List Ex,Ex.pins a l=l.map (Ex.pin a)
 | []=>rfl
 | x::l=>by rw [Ex.pins,Ex.pins_map a l];rfl
theorem Al.pins_map (a:Int):∀ l:List Al,Al.pins a l=l.map (Al.pin a)
 | []=>rfl
 | x::l=>by rw [Al.pins,Al.pins_map a l];rfl
/- an operand, and a pattern: a head and what stands behind it -/
abbrev Opd:=Tk × List Tk
def atX (a:Int) (t:Tk):Ex:=if t.1=1 then namE 3 t.2.1 a else if t.1=2 then namE 4 t.2.1 a else namE 2 t.2.1 a
def apX (a:Int) (x:Ex):List Tk→Ex
 | []=>x
 | t::l=>apX a (opE 5 [x,atX a t] a) l
def opX (a:Int) (o:Opd):Ex:=apX a (atX a o.1) o.2
def opT (o:Opd):List Tk:=o.1::o.2
def opOk (o:Opd):Prop:=∀ t∈opT o,t.1=1∨t.1=2∨t.1=4
def chX (a:Int) (s:ByteArray):Opd→List Opd→Ex
 | x,[]=>opX a x
 | x,y::l=>binE ⟨5,s,0,a⟩ (opX a x) (chX a s y l)
def chT (s:ByteArray):List Opd→List Tk
 | []=>[]
 | y::l=>((5,s,0):Tk)::(opT y++chT s l)
def apatX (a:Int) (t:Tk):Pa:=if t.1=1 then .mk 2 t.2.1 0 [] a else .mk 1 kE 0 [] a
def paX (a:Int) (o:Opd):Pa:=if o.1.1=2 then .mk 3 o.1.2.1 0 (o.2.map (apatX a)) a else apatX a o.1
def apOk (t:Tk):Prop:=t.1=1∨(t.1=7∧t.2.1=kUn)
def paOk (o:Opd):Prop:=(o.1.1=2∧∀ t∈o.2,apOk t)∨(apOk o.1∧o.2=[])
inductive Dx where
 | ops (s:ByteArray) (x:Opd) (l:List Opd)
 | cas (h:Opd) (q:Opd) (e:Dx) (l:List (Opd × Dx))
 | lam (ns:List ByteArray) (n:ByteArray) (e:Dx)
mutual
def Dx.ex (a:Int):Dx→Ex
 | .ops s x l=>chX a s x l
 | .cas h q e l=>.mk 8 kE 0 ty0 [opX a h] (.mk (paX a q) (e.ex a)::Dx.alts a l) [] a
 | .lam ns n e=>Dx.lams a ns n (e.ex a)
def Dx.alts (a:Int):List (Opd × Dx)→List Al
 | []=>[]
 |(q,e)::l=>.mk (paX a q) (e.ex a)::Dx.alts a l
def Dx.lams (a:Int):List ByteArray→ByteArray→Ex→Ex
 | [],n,x=>.mk 6 n 0 ty0 [x] [] [] a
 | m::ns,n,x=>.mk 6 m 0 ty0 [Dx.lams a ns n x] [] [] a
end
mutual
def Dx.tk:Dx→List Tk
 | .ops s x l=>opT x++chT s l
 | .cas h q e l=>((6,kCase,0):Tk)::(opT h++((6,kOf,0):Tk)::(opT q++((7,kArrow,0):Tk)::(e.tk++(Dx.altk l++[((6,kEnd,0):Tk)]))))
 | .lam ns n e=>((7,kBack,0):Tk)::(ns.map (fun m=>((1,m,0):Tk))++((1,n,0):Tk)::((7,kArrow,0):Tk)::e.tk)
def Dx.altk:List (Opd × Dx)→List Tk
 | []=>[]
 |(q,e)::l=>((7,kBar,0):Tk)::(opT q++((7,kArrow,0):Tk)::(e.tk++Dx.altk l))
end
mutual
def Dx.ok:Dx→Prop
 | .ops s x l=>opOk x∧(∀ y∈l,opOk y)∧lvl s.toList≠4∧sideN (lvl s.toList)≠1
 | .cas h q e l=>opOk h∧paOk q∧e.ok∧Dx.oks l
 | .lam _ _ e=>e.ok
def Dx.oks:List (Opd × Dx)→Prop
 | []=>True
 |(q,e)::l=>paOk q∧e.ok∧Dx.oks l
end
mutual
def Dx.dep:Dx→Nat
 | .ops _ _ _=>2
 | .cas _ _ e l=>3+max e.dep (Dx.deps l)
 | .lam _ _ e=>1+e.dep
def Dx.deps:List (Opd × Dx)→Nat
 | []=>0
 |(_,e)::l=>max e.dep (Dx.deps l)
end
def Trm (t:Tk):Prop:=t.1=0∨(t.1=6∧(t.2.1=kOf∨t.2.1=kEnd))∨(t.1=7∧t.2.1=kBar)
theorem kne {a b:ByteArray} (h:(a.data.toList == b.data.toList)=false):a≠b:=fun q=>by
 subst q
 simp at h
section
variable {L:List Tok} {p:PS} {t:Tk} {ts:List Tk} (a:Int)
theorem Trm.not5 (h:Trm t):t.1≠5:=by unfold Trm at h;omega
theorem starts_yes (h:Now L p (t::ts)) (ht:t.1=1∨t.1=2∨t.1=4):startsP L 2 p:=by
 unfold startsP
 rw [h.k]
 rcases ht with ht|ht|ht
 ·exact .inl ht
 ·exact .inr (.inl ht)
 exact .inr (.inr (.inr (.inr (.inr ⟨Y,.inl ht⟩))))
theorem starts_no (h:Now L p (t::ts)) (ht:Trm t∨t.1=5):¬ startsP L 2 p:=by
 unfold startsP
 rw [h.k,h.is,h.is,h.is]
 simp only [decide_eq_true_eq]
 unfold Trm at ht
 rintro (q|q|q|q|q|q)
 ·omega
 ·omega
 ·rcases ht with (ht|⟨_,ht|ht⟩|⟨_,ht⟩)|ht
  ·omega
  ·rw [ht] at q;exact absurd q.2 (kne by17)
  ·rw [ht] at q;exact absurd q.2 (kne by17)
  ·rw [ht] at q;exact absurd q.2 (kne by17)
  omega
 ·omega
 ·omega
 rcases q.2 with q|q
 ·omega
 rcases ht with (ht|⟨_,ht|ht⟩|⟨_,ht⟩)|ht
 ·omega
 ·rw [ht] at q;exact absurd q.2 (kne by17)
 ·rw [ht] at q;exact absurd q.2 (kne by17)
 ·rw [ht] at q;exact absurd q.2 (kne by17)
 omega
theorem atom_got {E:PS→Ex × PS} (h:Now L p (t::ts)) (ht:t.1=1∨t.1=2∨t.1=4):Ex.pin a (atomG L E p).1=atX a t∧(atomG L E p).2=stepP p:=by
 unfold atomG atX
 rw [h.k,h.tx]
 rcases ht with ht|ht|ht
 ·rw [if_pos ht,if_pos ht];exact ⟨rfl,rfl⟩
 ·rw [if_neg by18,if_pos ht,if_neg by18,if_pos ht];exact ⟨rfl,rfl⟩
 rw [if_neg by18,if_neg by18,if_neg by18,if_pos ht,if_neg by18,if_neg by18];exact ⟨rfl,rfl⟩
theorem apps_got {E:PS→Ex × PS} {r:Tk} {rest:List Tk} (hr:Trm r∨r.1=5):∀ (l:List Tk) (f:Nat) (p:PS) (x:Ex) (b:Int),(∀ t∈l,t.1=1∨t.1=2∨t.1=4)→Now L p (l++r::rest)→l.length<f→∃ y q,appsL L E b f p x=(y,q)∧Ex.pin a y=apX a (Ex.pin a x) l∧Now L q (r::rest)∧q.lv=p.lv
 | _,0,_,_,_,_,_,hf=>by omega
 | [],f+1,p,x,b,_,h,_=>by
  rw [appsL,if_neg (starts_no h hr)]
  exact ⟨x,p,Y,Y,h,Y⟩
 | t::l,f+1,p,x,b,hl,h,hf=>by
  have ht:=hl t by19
  obtain ⟨h1,h2⟩:=atom_got a (E:=E) h ht
  rw [appsL,if_pos (starts_yes h ht),h2]
  obtain ⟨y,q,e1,e2,e3,e4⟩:=apps_got hr l f (stepP p) (opE 5 [x,(atomG L E p).1] b) b (fun u hu=>hl u (by simp [hu])) h.step (by simp only [List.length_cons] at hf;omega)
  refine ⟨y,q,e1,?_,e3,e4⟩
  rw [e2,apX]
  congr 1
  simp only [opE,Ex.pin,Ex.pins,Al.pins,h1]
theorem opd_got {E:PS→Ex × PS} {r:Tk} {rest:List Tk} (hr:Trm r∨r.1=5) {o:Opd} (ho:opOk o) (h:Now L p (opT o++r::rest)):∃ y q,operandG L E p=(y,q)∧Ex.pin a y=opX a o∧Now L q (r::rest)∧q.lv=p.lv:=by
 have hk:=ho o.1 (by simp [opT])
 have h':Now L p (o.1::(o.2++r::rest)):=h
 have hn:∀ s,isP L p s=false:=fun s=>by
  rw [h'.is]
  exact decide_eq_false (fun q=>by have:=q.1;omega)
 obtain ⟨h1,h2⟩:=atom_got a (E:=E) h' hk
 unfold operandG
 rw [hn,hn,hn,if_neg by17,if_neg by17,if_neg by17,h2]
 have hlen:=h'.step.len
 obtain ⟨y,q,e1,e2,e3,e4⟩:=apps_got a (L:=L) (E:=E) hr o.2 (L.length+1) (stepP p) (atomG L E p).1 (nxt L p).a (fun u hu=>ho u (by simp [opT,hu])) h'.step (by simp only [List.length_append,List.length_cons] at hlen;omega)
 exact ⟨y,q,e1,by rw [e2,h1];rfl,e3,e4⟩
theorem opsL_got {E:PS→Ex × PS} {r:Tk} {rest:List Tk} (hr:Trm r) (s:ByteArray):∀ (l:List Opd) (f:Nat) (p:PS) (xs:List Ex) (os:List Tok),(∀ y∈l,opOk y)→Now L p (chT s l++r::rest)→l.length<f→∃ ys us q,opsL L E f p xs os=((xs++ys,os++us),q)∧ys.map (Ex.pin a)=l.map (opX a)∧us.map Tok.tk=l.map (fun _=>((5,s,0):Tk))∧Now L q (r::rest)∧q.lv=p.lv
 | _,0,_,_,_,_,_,hf=>by omega
 | [],f+1,p,xs,os,_,h,_=>by
  have h':Now L p (r::rest):=h
  rw [opsL,if_neg (by rw [h'.k];exact hr.not5)]
  exact ⟨[],[],p,by simp,Y,Y,h',Y⟩
 | y::l,f+1,p,xs,os,hl,h,hf=>by
  have h':Now L p (((5,s,0):Tk)::(opT y++(chT s l++r::rest))):=by
   have:=h
   rw [chT,List.cons_append,List.append_assoc] at this
   exact this
  rw [opsL,if_pos h'.k,h'.take (.inl ⟨by omega,rfl⟩)]
  obtain ⟨z,rest',hz,hz2⟩:∃ z rest',chT s l++r::rest=z::rest'∧(Trm z∨z.1=5):=by
   cases l with
   | nil=>exact ⟨r,rest,rfl,.inl hr⟩
   | cons w l=>exact ⟨_,_,rfl,.inr rfl⟩
  have h2:=h'.step
  rw [hz] at h2
  obtain ⟨x,q,e1,e2,e3,e4⟩:=opd_got a (L:=L) (E:=E) hz2 (hl y by19) h2
  rw [e1]
  rw [← hz] at e3
  obtain ⟨ys,us,q2,g1,g2,g3,g4,g5⟩:=opsL_got hr s l f q (xs++[x]) (os++[nxt L p]) (fun w hw=>hl w (by simp [hw])) e3 (by simp only [List.length_cons] at hf;omega)
  refine ⟨x::ys,nxt L p::us,q2,?_,by rw [List.map_cons,List.map_cons,e2,g2],by rw [List.map_cons,List.map_cons,h'.nxt,g3],g4,by rw [g5,e4];rfl⟩
  simp only []
  rw [g1]
  simp
/- operators -/
theorem lvT_same {us:List Tok} {s:ByteArray} (h:∀ u∈us,u.t=s) {i:Nat} (hi:i<us.length):lvT us i=lvl s.toList:=by
 unfold lvT
 rw [List.getElem?_eq_getElem hi,Option.getD_some,h _ (List.getElem_mem hi)]
theorem clash_none {us:List Tok} {s:ByteArray} (h:∀ u∈us,u.t=s) (hs:lvl s.toList≠4):clashP us = -1:=by
 have key:∀ (f k:Nat),k+f≤us.length→clashL (lvT us) f k = -1:=by
  intro f
  induction f with
  | zero=>intro k _;rfl
  | succ f ih =>
   intro k hk
   rw [clashL,if_neg (fun q=>hs (by rw [← lvT_same h (i:=k) by18];exact q.1))]
   exact ih (k+1) by18
 exact key us.length 0 by18
theorem root_first {us:List Tok} {s:ByteArray} (h:∀ u∈us,u.t=s) (hs:sideN (lvl s.toList)≠1):∀ (f b i:Nat),b<us.length→i+f≤us.length→rootB us f b i=b
 | 0,b,i,_,_=>rfl
 | f+1,b,i,hb,hi=>by
  rw [rootB,lvT_same h hb,lvT_same h (i:=i) by18,if_neg (fun q=>by
   rcases q with q|q
   ·omega
   exact hs q.2)]
  exact root_first h hs f b (i+1) hb by18
theorem bin_pin {u:Tok} {s:ByteArray} (h:u.t=s) (x y:Ex):Ex.pin a (binE u x y)=binE ⟨5,s,0,a⟩ (Ex.pin a x) (Ex.pin a y):=by
 unfold binE
 rw [h]
 by_cases h1:s=kAA
 ·rw [if_pos h1,if_pos h1];rfl
 rw [if_neg h1,if_neg h1]
 by_cases h2:s=kOO
 ·rw [if_pos h2,if_pos h2];rfl
 rw [if_neg h2,if_neg h2];rfl
theorem build_got {xs:List Ex} {us:List Tok} {s:ByteArray} (h:∀ u∈us,u.t=s) (hs:sideN (lvl s.toList)≠1):∀ (l:List Opd) (x:Opd) (d i:Nat),i+l.length=us.length→l.length≤d→(xs.map (Ex.pin a)).drop i=opX a x::l.map (opX a)→Ex.pin a (buildF xs us d i us.length)=chX a s x l:=by
 have hget:∀ {i:Nat} {x:Opd} {l:List Ex},(xs.map (Ex.pin a)).drop i=opX a x::l→Ex.pin a ((xs[i]?).getD ex0)=opX a x:=fun {i x l} hd=>by
  have h1:((xs.map (Ex.pin a)).drop i)[0]?=some (opX a x):=by rw [hd];rfl
  rw [List.getElem?_drop,List.getElem?_map,Nat.add_zero] at h1
  cases hx:xs[i]? with
  | none=>rw [hx] at h1;simp at h1
  | some y=>rw [hx] at h1;simpa using h1
 intro l
 induction l with
 | nil =>
  intro x d i hi _ hd
  have hi':i=us.length:=by simpa using hi
  rw [chX]
  cases d with
  | zero=>rw [buildF];exact hget hd
  | succ d=>rw [buildF,if_pos hi'];exact hget hd
 | cons y l ih =>
  intro x d i hi hl hd
  simp only [List.length_cons] at hi hl
  cases d with
  | zero=>omega
  | succ d =>
   rw [buildF,if_neg by18,root_first h hs _ i (i+1) by18 by18]
   have hu:∃ u,us[i]?=some u:=⟨us[i]'by18,List.getElem?_eq_getElem by18⟩
   obtain ⟨u,hu⟩:=hu
   rw [hu,Option.getD_some,bin_pin a (h u (Xq hu)),chX]
   have h1:Ex.pin a (buildF xs us d i i)=opX a x:=by
    cases d with
    | zero=>rw [buildF];exact hget hd
    | succ d=>rw [buildF,if_pos rfl];exact hget hd
   have h2:(xs.map (Ex.pin a)).drop (i+1)=opX a y::l.map (opX a):=by
    rw [← List.drop_drop,hd];rfl
   rw [h1,ih y d (i+1) by18 by18 h2]
/- patterns -/
theorem apat_got {T:PS→Pa × PS} (h:Now L p (t::ts)) (ht:apOk t):Pa.pin a (apatG L T p).1=apatX a t∧(apatG L T p).2=stepP p:=by
 unfold apatG apatX
 rw [h.k,h.tx,h.is]
 rcases ht with ht|⟨ht,ht2⟩
 ·rw [if_neg by18,if_pos ht,if_pos ht];exact ⟨rfl,rfl⟩
 rw [if_neg by18,if_neg by18,if_neg by18,if_pos (decide_eq_true ⟨by omega,ht2⟩),if_neg by18];exact ⟨rfl,rfl⟩
theorem pats_got {T:PS→Pa × PS} {rest:List Tk}:∀ (l:List Tk) (f:Nat) (p:PS) (acc:List Pa),(∀ t∈l,apOk t)→Now L p (l++((7,kArrow,0):Tk)::rest)→l.length<f→∃ ys q,patsL L T f p acc=(acc++ys,q)∧ys.map (Pa.pin a)=l.map (apatX a)∧Now L q (((7,kArrow,0):Tk)::rest)∧q.lv=p.lv
 | _,0,_,_,_,_,hf=>by omega
 | [],f+1,p,acc,_,h,_=>by
  have h':Now L p (((7,kArrow,0):Tk)::rest):=h
  have hn:¬ startsP L 1 p:=by
   unfold startsP
   rw [h'.k,h'.is,h'.is,h'.is]
   simp only [decide_eq_true_eq]
   rintro (q|q|q|q|q|q)
   ·omega
   ·omega
   ·exact absurd q.2 (kne by17)
   ·omega
   ·exact absurd q.2.2 (kne by17)
   omega
  rw [patsL,if_neg hn]
  exact ⟨[],p,by simp,Y,h',Y⟩
 | t::l,f+1,p,acc,hl,h,hf=>by
  have ht:=hl t by19
  have h':Now L p (t::(l++((7,kArrow,0):Tk)::rest)):=h
  have hs:startsP L 1 p:=by
   unfold startsP
   rw [h'.k,h'.is,h'.is,h'.is]
   rcases ht with ht|⟨ht,ht2⟩
   ·exact .inl ht
   exact .inr (.inr (.inr (.inr (.inl ⟨Y,decide_eq_true ⟨by omega,ht2⟩⟩))))
  obtain ⟨h1,h2⟩:=apat_got a (T:=T) h' ht
  rw [patsL,if_pos hs,h2]
  obtain ⟨ys,q,e1,e2,e3,e4⟩:=pats_got l f (stepP p) (acc++[(apatG L T p).1]) (fun u hu=>hl u (by simp [hu])) h'.step (by simp only [List.length_cons] at hf;omega)
  exact ⟨(apatG L T p).1::ys,q,by rw [e1];simp,by rw [List.map_cons,List.map_cons,h1,e2],e3,e4⟩
theorem pat_got {rest:List Tk} {o:Opd} (ho:paOk o) (h:Now L p (opT o++((7,kArrow,0):Tk)::rest)) (hl:p.lv+1≤300):∃ y q,patP L p=(y,q)∧Pa.pin a y=paX a o∧Now L q (((7,kArrow,0):Tk)::rest)∧q.lv=p.lv:=by
 have h':Now L p (o.1::(o.2++((7,kArrow,0):Tk)::rest)):=h
 obtain ⟨hd,hn⟩:=h'.deep hl
 unfold patP
 rw [patF,if_neg (by rw [h.1];decide),hd,hn.k]
 obtain ⟨h2,hargs⟩|⟨hap,hnil⟩:=ho
 ·rw [if_pos h2,hn.tx]
  have hlen:=hn.step.len
  obtain ⟨ys,q,e1,e2,e3,e4⟩:=pats_got a (L:=L) (T:=patF L 301) (rest:=rest) o.2 (L.length+1) _ [] hargs hn.step (by simp only [List.length_append,List.length_cons] at hlen;omega)
  rw [e1]
  refine ⟨_,_,Y,?_,e3.dec,?_⟩
  ·unfold paX
   rw [if_pos h2,← e2,Pa.pin,Pa.pins_map]
   rfl
  show q.lv - 1=p.lv
  rw [e4]
  show p.lv+1 - 1=p.lv
  omega
 have hk:¬ o.1.1=2:=by rcases hap with q|q <;> omega
 rw [if_neg hk]
 obtain ⟨e1,e2⟩:=apat_got a (T:=patF L 301) hn hap
 refine ⟨_,_,Y,?_,?_,?_⟩
 ·unfold paX
  rw [if_neg hk]
  exact e1
 ·rw [e2]
  have:=hn.step
  rw [hnil] at this
  exact this.dec
 rw [e2]
 show p.lv+1 - 1=p.lv
 omega
end
theorem join_one {q:PS} (h:q.e=0) (x:Ex):joinE (([x],[]),q)=(x,decP q):=by
 have hc:clashP [] = -1:=rfl
 unfold joinE
 simp only []
 rw [if_neg (by rw [h];decide),hc,if_neg by17]
 rfl
section
variable {L:List Tok} (a:Int)
theorem ops_got {n:Nat} {p:PS} {s:ByteArray} {x:Opd} {l:List Opd} {r:Tk} {rest:List Tk} (h1:opOk x) (h2:∀ y∈l,opOk y) (h4:lvl s.toList≠4) (hs:sideN (lvl s.toList)≠1) (h:Now L p (opT x++(chT s l++r::rest))) (hr:Trm r) (hl:p.lv+1≤300):∃ y q,expF L (n+1) p=(y,q)∧Ex.pin a y=chX a s x l∧Now L q (r::rest)∧q.lv=p.lv:=by
 obtain ⟨hd,hn⟩:=h.deep hl
 rw [expF,if_neg (by rw [h.1];decide),hd]
 obtain ⟨z,rest',hz,hz2⟩:∃ z rest',chT s l++r::rest=z::rest'∧(Trm z∨z.1=5):=by
  cases l with
  | nil=>exact ⟨r,rest,rfl,.inl hr⟩
  | cons w l=>exact ⟨_,_,rfl,.inr rfl⟩
 rw [hz] at hn
 obtain ⟨x0,q,e1,e2,e3,e4⟩:=opd_got a (L:=L) (E:=expF L n) hz2 h1 hn
 rw [← hz] at e3
 have hlen:=e3.len
 have hcl:∀ l:List Opd,l.length≤(chT s l).length:=by
  intro l
  induction l with
  | nil=>exact Nat.le_refl _
  | cons y l ih=>rw [chT];simp only [List.length_cons,List.length_append];omega
 have hcl:=hcl l
 obtain ⟨ys,us,q2,g1,g2,g3,g4,g5⟩:=opsL_got a (L:=L) (E:=expF L n) hr s l (L.length+1) q [x0] [] h2 e3 (by simp only [List.length_append,List.length_cons] at hlen;omega)
 rw [e1]
 simp only []
 rw [g1]
 have hus:∀ u∈us,u.t=s:=fun u hu=>by
  have:u.tk∈us.map Tok.tk:=List.mem_map_of_mem hu
  rw [g3] at this
  obtain ⟨_,_,hh⟩:=List.mem_map.1 this
  exact (congrArg (fun t:Tk=>t.2.1) hh).symm
 have hul:us.length=l.length:=by
  have:=congrArg List.length g3
  simpa using this
 have hj:joinE (([x0]++ys,[]++us),q2)=(buildF ([x0]++ys) us us.length 0 us.length,decP q2):=by
  unfold joinE
  simp only [List.nil_append]
  rw [if_neg (by rw [g4.1];decide),clash_none hus h4,if_neg by17]
 rw [hj]
 refine ⟨_,_,Y,?_,g4.dec,?_⟩
 ·refine build_got a hus hs l x us.length 0 by18 by18 ?_
  rw [List.drop_zero,List.singleton_append,List.map_cons,e2,g2]
 show q2.lv - 1=p.lv
 rw [g5,e4]
 show p.lv+1 - 1=p.lv
 omega
def Parses (a:Int) (L:List Tok) (n:Nat) (v:Int) (e:Dx):Prop:=∀ (p:PS) (r:Tk) (rest:List Tk),p.lv=v→Now L p (e.tk++r::rest)→Trm r→∃ y q,expF L n p=(y,q)∧Ex.pin a y=e.ex a∧Now L q (r::rest)∧q.lv=p.lv
theorem alts_got {n:Nat} {rest:List Tk}:∀ (l:List (Opd × Dx)) (o:Opd) (e:Dx) (f:Nat) (p:PS) (acc:List Al),Parses a L n p.lv e→(∀ x∈l,Parses a L n p.lv x.2)→paOk o→(∀ x∈l,paOk x.1)→p.lv+1≤300→Now L p (opT o++((7,kArrow,0):Tk)::(e.tk++(Dx.altk l++((6,kEnd,0):Tk)::rest)))→l.length+1≤f→∃ ys z,altsL L (expF L n) f p acc=(acc++ys,z)∧ys.map (Al.pin a)=.mk (paX a o) (e.ex a)::Dx.alts a l∧Now L z (((6,kEnd,0):Tk)::rest)∧z.lv=p.lv
 | _,_,_,0,_,_,_,_,_,_,_,_,hf=>by omega
 | l,o,e,f+1,p,acc,he,hle,ho,hlo,hv,h,hf=>by
  obtain ⟨y,q,e1,e2,e3,e4⟩:=pat_got a ho h hv
  have ht:=e3.take (kind:=7) (s:=kArrow) (.inr ⟨by omega,by omega,rfl⟩)
  rw [altsL,if_neg (by rw [h.1];decide)]
  unfold altG
  rw [e1]
  simp only []
  rw [ht]
  simp only []
  cases l with
  | nil =>
   obtain ⟨x,z,g1,g2,g3,g4⟩:=he (stepP q) (6,kEnd,0) rest e4 e3.step (.inr (.inl ⟨rfl,.inr rfl⟩))
   rw [g1]
   simp only []
   rw [g3.is,if_neg (by rw [decide_eq_true_eq];exact fun k=>absurd k.2 (kne by17))]
   exact ⟨[.mk y x],z,Y,by rw [List.map_cons,List.map_nil,Al.pin,e2,g2];rfl,g3,by rw [g4];exact e4⟩
  | cons w l =>
   obtain ⟨o2,e'⟩:=w
   have h2:Now L (stepP q) (e.tk++((7,kBar,0):Tk)::(opT o2++((7,kArrow,0):Tk)::(e'.tk++(Dx.altk l++((6,kEnd,0):Tk)::rest)))):=by
    have:=e3.step
    rw [Dx.altk] at this
    simpa using this
   obtain ⟨x,z,g1,g2,g3,g4⟩:=he (stepP q) _ _ e4 h2 (.inr (.inr ⟨rfl,rfl⟩))
   rw [g1]
   simp only []
   have hlv:z.lv=p.lv:=g4.trans e4
   rw [g3.is,if_pos (decide_eq_true ⟨by omega,rfl⟩)]
   obtain ⟨ys,z2,k1,k2,k3,k4⟩:=alts_got l o2 e' f (stepP z) (acc++[.mk y x]) (by show Parses a L n z.lv e';rw [hlv];exact hle (o2,e') by19) (fun u hu=>by show Parses a L n z.lv u.2;rw [hlv];exact hle u (by simp [hu])) (hlo (o2,e') by19) (fun u hu=>hlo u (by simp [hu])) (by show z.lv+1≤300;omega) g3.step (by simp only [List.length_cons] at hf;omega)
   exact ⟨.mk y x::ys,z2,by rw [k1];simp,by rw [List.map_cons,Al.pin,e2,g2,k2];rfl,k3,by rw [k4];exact hlv⟩
theorem lam_got {n:Nat} {e:Dx} {r:Tk} {rest:List Tk} (hr:Trm r):∀ (ns:List ByteArray) (m:ByteArray) (f:Nat) (p:PS) (b:Int),Parses a L n p.lv e→Now L p (ns.map (fun m=>((1,m,0):Tk))++((1,m,0):Tk)::((7,kArrow,0):Tk)::(e.tk++r::rest))→ns.length+1≤f→∃ y q,lambdaG L (expF L n) f p b=(y,q)∧Ex.pin a y=Dx.lams a ns m (e.ex a)∧Now L q (r::rest)∧q.lv=p.lv
 | _,_,0,_,_,_,_,hf=>by omega
 | [],m,f+1,p,b,he,h,_=>by
  have h':Now L p (((1,m,0):Tk)::((7,kArrow,0):Tk)::(e.tk++r::rest)):=h
  have h2:=h'.step
  rw [lambdaG,h'.take (kind:=1) (s:=kE) (.inl ⟨by omega,rfl⟩)]
  simp only []
  rw [h2.k,if_neg by17,h2.take (kind:=7) (s:=kArrow) (.inr ⟨by omega,by omega,rfl⟩),h'.tx]
  obtain ⟨x,z,g1,g2,g3,g4⟩:=he (stepP (stepP p)) r rest rfl h2.step hr
  simp only []
  rw [g1]
  exact ⟨_,_,Y,by simp only [Ex.pin,Ex.pins,Al.pins,g2];rfl,g3,g4⟩
 | m1::ns,m,f+1,p,b,he,h,hf=>by
  have h':Now L p (((1,m1,0):Tk)::(ns.map (fun m=>((1,m,0):Tk))++((1,m,0):Tk)::((7,kArrow,0):Tk)::(e.tk++r::rest))):=h
  have h2:=h'.step
  have hk:(nxt L (stepP p)).k=1:=by
   cases ns with
   | nil=>exact Now.k (t:=((1,m,0):Tk)) h2
   | cons m2 ns=>exact Now.k (t:=((1,m2,0):Tk)) h2
  rw [lambdaG,h'.take (kind:=1) (s:=kE) (.inl ⟨by omega,rfl⟩)]
  simp only []
  rw [if_pos hk,h'.tx]
  obtain ⟨x,z,g1,g2,g3,g4⟩:=lam_got hr ns m f (stepP p) (nxt L (stepP p)).a he h2 (by simp only [List.length_cons] at hf;omega)
  rw [g1]
  exact ⟨_,_,Y,by simp only [Ex.pin,Ex.pins,Al.pins,g2];rfl,g3,g4⟩
theorem deps_mem {l:List (Opd × Dx)} {x:Opd × Dx} (h:x∈l):x.2.dep≤Dx.deps l:=by
 induction l with
 | nil=>simp at h
 | cons y l ih =>
  obtain ⟨o,e⟩:=y
  rw [Dx.deps]
  rcases List.mem_cons.1 h with rfl|h
  ·exact Nat.le_max_left _ _
  have:=ih h;omega
theorem oks_mem {l:List (Opd × Dx)} {x:Opd × Dx} (hl:Dx.oks l) (h:x∈l):paOk x.1∧x.2.ok:=by
 induction l with
 | nil=>simp at h
 | cons y l ih =>
  obtain ⟨o,e⟩:=y
  rw [Dx.oks] at hl
  rcases List.mem_cons.1 h with rfl|h
  ·exact ⟨hl.1,hl.2.1⟩
  exact ih hl.2.2 h
theorem altk_len:∀ l:List (Opd × Dx),l.length≤(Dx.altk l).length
 | []=>Nat.le_refl _
 |(o,e)::l=>by
  have:=altk_len l
  rw [Dx.altk]
  simp only [List.length_cons,List.length_append]
  omega
theorem dx_got:∀ (k:Nat) (e:Dx),e.dep≤k→e.ok→∀ (n:Nat) (v:Int),e.dep≤n→v+e.dep≤300→Parses a L n v e
 | 0,.ops _ _ _,hk,_,_,_,_,_=>by rw [Dx.dep] at hk;omega
 | 0,.cas _ _ _ _,hk,_,_,_,_,_=>by rw [Dx.dep] at hk;omega
 | 0,.lam _ _ _,hk,_,_,_,_,_=>by rw [Dx.dep] at hk;omega
 | _,.ops _ _ _,_,_,0,_,hn,_=>by rw [Dx.dep] at hn;omega
 | _,.cas _ _ _ _,_,_,0,_,hn,_=>by rw [Dx.dep] at hn;omega
 | _,.lam _ _ _,_,_,0,_,hn,_=>by rw [Dx.dep] at hn;omega
 | k+1,.ops s x l,_,hok,n+1,v,_,hv=>fun p r rest hp h hr=>by
  rw [Dx.ok] at hok
  rw [Dx.dep] at hv
  rw [Dx.tk,List.append_assoc] at h
  rw [Dx.ex]
  exact ops_got a hok.1 hok.2.1 hok.2.2.1 hok.2.2.2 h hr by18
 | k+1,.cas o q e l,hk,hok,n+1,v,hn,hv=>fun p r rest hp h hr=>by
  rw [Dx.ok] at hok
  rw [Dx.dep] at hv hk hn
  obtain ⟨ho,hq,he,hl⟩:=hok
  rw [Dx.tk] at h
  replace h:Now L p (((6,kCase,0):Tk)::(opT o++((6,kOf,0):Tk)::(opT q++((7,kArrow,0):Tk)::(e.tk++(Dx.altk l++((6,kEnd,0):Tk)::(r::rest)))))):=by simpa using h
  obtain ⟨hd,hn1⟩:=h.deep by18
  rw [expF,if_neg (by rw [h.1];decide),hd]
  have hno:∀ s,kCase≠s→isP L { p with lv:=p.lv+1 } s=false:=fun s hs=>by
   rw [hn1.is]
   exact decide_eq_false (fun q=>hs q.2)
  have hyes:isP L { p with lv:=p.lv+1 } kCase=true:=by
   rw [hn1.is]
   exact decide_eq_true ⟨by omega,Y⟩
  have hst:=hn1.step
  have hS:Now L (stepP { p with lv:=p.lv+1 }) (opT o++(chT kAA []++((6,kOf,0):Tk)::(opT q++((7,kArrow,0):Tk)::(e.tk++(Dx.altk l++((6,kEnd,0):Tk)::(r::rest)))))):=hst
  obtain ⟨n',rfl⟩:∃ n',n=n'+1:=⟨n - 1,by omega⟩
  obtain ⟨x,q1,e1,e2,e3,e4⟩:=ops_got a (n:=n') (s:=kAA) (l:=[]) ho by19 by14 by14 hS (.inr (.inl ⟨rfl,.inl rfl⟩)) (by show p.lv+1+1≤300;omega)
  have h3:=e3.step
  have e4':q1.lv=p.lv+1:=e4
  have hln:=h3.len
  have hak:=altk_len l
  obtain ⟨ys,z,g1,g2,g3,g4⟩:=alts_got a (L:=L) (n:=n'+1) (rest:=r::rest) l q e (L.length+1) (stepP q1) [] (by show Parses a L (n'+1) q1.lv e;exact dx_got k e by18 he (n'+1) _ by18 by18) (fun w hw=>by
   show Parses a L (n'+1) q1.lv w.2
   have:=deps_mem hw
   exact dx_got k w.2 by18 (oks_mem hl hw).2 (n'+1) _ by18 by18) hq (fun w hw=>(oks_mem hl hw).1) (by show q1.lv+1≤300;omega) h3 (by simp only [List.length_append,List.length_cons] at hln;omega)
  have hcg:∀ b,caseG L (expF L (n'+1)) b (stepP { p with lv:=p.lv+1 })=(.mk 8 kE 0 ty0 [x] ys [] b,stepP z):=fun b=>by
   unfold caseG
   rw [e1]
   simp only []
   rw [e3.take (kind:=6) (s:=kOf) (.inr ⟨by omega,by omega,rfl⟩)]
   simp only []
   rw [g1]
   simp only [List.nil_append]
   rw [g3.take (kind:=6) (s:=kEnd) (.inr ⟨by omega,by omega,rfl⟩)]
  have hat:atomG L (expF L (n'+1)) { p with lv:=p.lv+1 }=(.mk 8 kE 0 ty0 [x] ys [] (nxt L { p with lv:=p.lv+1 }).a,stepP z):=by
   unfold atomG
   rw [hn1.k,if_neg by17,if_neg by17,if_neg by17,if_neg by17,if_pos hyes,hcg]
  have hop:∃ y0,operandG L (expF L (n'+1)) { p with lv:=p.lv+1 }=(y0,stepP z)∧Ex.pin a y0=Dx.ex a (.cas o q e l):=by
   refine ⟨.mk 8 kE 0 ty0 [x] ys [] (nxt L { p with lv:=p.lv+1 }).a,?_,?_⟩
   ·unfold operandG
    rw [hno _ (kne by17),hno _ (kne by17),hno _ (kne by17),if_neg by17,if_neg by17,if_neg by17,hat]
    simp only []
    rw [appsL,if_neg (starts_no g3.step (.inl hr))]
   simp only [Ex.pin,Ex.pins,e2]
   rw [Al.pins_map,g2]
   rfl
  obtain ⟨y0,hop,hy0⟩:=hop
  rw [hop]
  simp only []
  have hr0:Now L (stepP z) (r::rest):=g3.step
  rw [opsL,if_neg (by rw [hr0.k];exact hr.not5),join_one hr0.1]
  exact ⟨y0,_,Y,hy0,hr0.dec,by
   show z.lv - 1=p.lv
   rw [g4]
   show q1.lv - 1=p.lv
   omega⟩
 | k+1,.lam ns m e,hk,hok,n+1,v,hn,hv=>fun p r rest hp h hr=>by
  rw [Dx.ok] at hok
  rw [Dx.dep] at hv hk hn
  rw [Dx.tk] at h
  replace h:Now L p (((7,kBack,0):Tk)::(ns.map (fun m=>((1,m,0):Tk))++((1,m,0):Tk)::((7,kArrow,0):Tk)::(e.tk++r::rest))):=by simpa using h
  obtain ⟨hd,hn1⟩:=h.deep by18
  rw [expF,if_neg (by rw [h.1];decide),hd]
  have hyes:isP L { p with lv:=p.lv+1 } kBack=true:=by
   rw [hn1.is]
   exact decide_eq_true ⟨by omega,Y⟩
  have hln:=hn1.len
  obtain ⟨y,q,g1,g2,g3,g4⟩:=lam_got a (L:=L) (n:=n) (e:=e) hr ns m (L.length+1) (stepP { p with lv:=p.lv+1 }) (nxt L { p with lv:=p.lv+1 }).a (dx_got k e by18 hok n _ by18 (by show p.lv+1+_≤300;omega)) hn1.step (by simp only [List.length_append,List.length_cons,List.length_map] at hln;omega)
  unfold operandG
  rw [if_pos hyes,g1]
  simp only []
  rw [opsL,if_neg (by rw [g3.k];exact hr.not5),join_one g3.1]
  exact ⟨y,_,Y,g2,g3.dec,by
   show q.lv - 1=p.lv
   rw [g4]
   show p.lv+1 - 1=p.lv
   omega⟩
theorem exp_law {e:Dx} (hok:e.ok) (hd:e.dep≤200) (hL:L.map Tok.tk=e.tk++[((0,kE,0):Tk)]):∃ y q,expP L ⟨0,0,0,0⟩=(y,q)∧Ex.pin a y=e.ex a∧q.e=0∧(takeP L q 0 kE).2.e=0:=by
 obtain ⟨y,q,e1,e2,e3,_⟩:=dx_got a (L:=L) e.dep e (Nat.le_refl _) hok 302 0 by18 by18 ⟨0,0,0,0⟩ (0,kE,0) [] rfl ⟨rfl,by rw [List.drop_zero];exact hL⟩ (.inl rfl)
 exact ⟨y,q,e1,e2,e3.1,by rw [e3.take (kind:=0) (s:=kE) (.inl ⟨by omega,Y⟩)];exact e3.step.1⟩
end
def digs:Nat→Nat→List Int→List Int
 | 0,_,acc=>acc
 | f+1,u,acc=>if u / 10=0 then (48+(u:Int) % 10)::acc else digs f (u / 10) ((48+(u:Int) % 10)::acc)
def txt (z:Int):ByteArray:=strOfNums (if z<0 then 45::digs 20 (-z).toNat [] else digs 20 z.toNat [])
theorem txt_neg {z:Int} (h:z<0) {ds:List Int} (hd:digs 20 (-z).toNat []=ds):txt z=strOfNums (45::ds):=by
 unfold txt;rw [if_pos h,hd]
theorem txt_pos {z:Int} (h:0≤z) {ds:List Int} (hd:digs 20 z.toNat []=ds):txt z=strOfNums ds:=by
 unfold txt;rw [if_neg by18,hd]
structure TextAt (U:Nat) (C:Array Value) (a u:Nat) (acc:List Int):Prop where
 size:C.size=20
 lo:1≤a
 hi:a≤20
 len:acc.length=20 - a
 cells:∀ i,i<acc.length→C[a+i]?=some (.int .u8 (acc.getD i 0))
 small:u<10 ^ (a - 1)
 le:u≤U
 more:a=20∨0<u
 rest:digs a u acc=digs 20 U []
theorem TextAt.start {U:Nat} {C:Array Value} (hC:C.size=20) (h:U<10 ^ 19):TextAt U C 20 U [] :=
 ⟨hC,by omega,by omega,rfl,fun i hi=>by simp at hi,h,Nat.le_refl _,Or.inl rfl,rfl⟩
theorem TextAt.two {U:Nat} {C:Array Value} {a u:Nat} {acc:List Int} (h:TextAt U C a u acc):2≤a:=by
 rcases h.more with e|e
 ·omega
 have hs:=h.small
 have hl:=h.lo
 rcases Nat.lt_or_ge a 2 with k|k
 ·have:a=1:=by omega
  subst this
  simp at hs
  omega
 exact k
theorem cells_put {C:Array Value} {a:Nat} {acc:List Int} {x:Int} (hC:a≤C.size) (ha:1≤a)
    (h:∀ i,i<acc.length→C[a+i]?=some (.int .u8 (acc.getD i 0))) :
    ∀ i,i<(x::acc).length→(C.setIfInBounds (a - 1) (.int .u8 x))[a - 1+i]?=some (.int .u8 ((x::acc).getD i 0)):=by
 intro i hi
 cases i with
 | zero=>rw [Array.getElem?_setIfInBounds];rw [if_pos by18,if_pos by18];simp
 | succ i =>
  simp only [List.length_cons] at hi
  rw [Array.getElem?_setIfInBounds,if_neg by18]
  have:=h i by18
  rw [show a - 1+(i+1)=a+i from by omega,this]
  simp
theorem TextAt.step {U:Nat} {C:Array Value} {a u:Nat} {acc:List Int} (h:TextAt U C a u acc) (hu:u / 10≠0) :
    TextAt U (C.setIfInBounds (a - 1) (.int .u8 (48+(u:Int) % 10))) (a - 1) (u / 10) ((48+(u:Int) % 10)::acc):=by
 have h2:=h.two
 have hs:=h.small
 have hC:=h.size
 have hhi:=h.hi
 obtain ⟨b,rfl⟩:∃ b,a=b+2:=⟨a - 2,by omega⟩
 have hlen:=h.len
 refine ⟨by simp [hC],by omega,by omega,by simp;omega,cells_put by18 by18 h.cells,?_,(by have:=h.le;omega),Or.inr by18,?_⟩
 ·show u / 10<10 ^ (b+2 - 1 - 1)
  have e:(10:Nat) ^ (b+2 - 1)=10 ^ b * 10:=by rw [show b+2 - 1=b+1 from by omega,Nat.pow_succ]
  rw [show b+2 - 1 - 1=b from by omega]
  rw [e] at hs
  generalize (10:Nat) ^ b=z at *
  omega
 have hr:=h.rest
 rw [← hr,show b+2 - 1=b+1 from by omega,show b+2=(b+1)+1 from by omega]
 conv=>rhs;rw [digs,if_neg hu]
theorem TextAt.last {U:Nat} {C:Array Value} {a u:Nat} {acc:List Int} (h:TextAt U C a u acc) (hu:u / 10=0) :
    digs 20 U []=(48+(u:Int) % 10)::acc:=by
 have h2:=h.two
 obtain ⟨b,rfl⟩:∃ b,a=b+1:=⟨a - 1,by omega⟩
 rw [← h.rest,digs,if_pos hu]
/- a token's bytes -/
def tkB (t:Tk):List Nat:=if t.1=4 then 34::(bytesN t.2.1++[34]) else bytesN t.2.1
def TkG (t:Tk):Prop:=Pce (tkB t) t∧∀ c∈tkB t,c<128
def OpdG (o:Opd):Prop:=∀ t∈opT o,TkG t
mutual
def Dx.gd:Dx→Prop
 | .ops s x l=>OpdG x∧(∀ y∈l,OpdG y)∧TkG (5,s,0)
 | .cas h q e l=>OpdG h∧OpdG q∧e.gd∧Dx.gds l
 | .lam _ _ _=>False
def Dx.gds:List (Opd × Dx)→Prop
 | []=>True
 |(q,e)::l=>OpdG q∧e.gd∧Dx.gds l
end
theorem Ys {c:Nat} {r:List Nat} {s:ByteArray} {k:Int} (hs:bytesN s=c::r) (hk:k≠4) (hc:smallC c=true∨greatC c=true) (hr:∀ d∈r,nameC d=true) (hl:r.length+1≤40) (hkt:kindT c s=k):TkG (k,s,0):=by
 have he:strN (c::r)=s:=by rw [← hs,strN_bytesN]
 have hp:=pce_word hc hr hl
 rw [he,hkt] at hp
 have hn:∀ d,nameC d=true→d<128:=fun d hd=>by
  simp only [nameC,smallC,greatC,digitC,Bool.or_eq_true,Bool.and_eq_true,decide_eq_true_eq,beq_iff_eq] at hd
  omega
 unfold TkG tkB
 rw [if_neg hk]
 show Pce (bytesN s) _∧∀ c∈bytesN s,c<128
 rw [hs]
 refine ⟨hp,fun d hd=>?_⟩
 rcases List.mem_cons.1 hd with rfl|hd
 ·exact hn d (by unfold nameC;rcases hc with hc|hc <;> rw [hc] <;> simp)
 exact hn d (hr d hd)
theorem tkg_sign {c:Nat} {r:List Nat} {s:ByteArray} {k:Int} (hs:bytesN s=c::r) (hk:k≠4) (hc:∀ d∈c::r,signC d=true) (hl:r.length+1≤40) (h0:c≠34∧digitC c=false∧c≠35∧blankC c=false∧smallC c=false∧greatC c=false) (hkt:kindT c s=k):TkG (k,s,0):=by
 have he:strN (c::r)=s:=by rw [← hs,strN_bytesN]
 have hp:=pce_sign hc hl h0
 rw [he,hkt] at hp
 have hn:∀ d,signC d=true→d<128:=fun d hd=>by
  simp only [signC,signL,List.contains_eq_mem,decide_eq_true_eq,List.mem_cons,List.not_mem_nil,or_false] at hd
  omega
 unfold TkG tkB
 rw [if_neg hk]
 show Pce (bytesN s) _∧∀ c∈bytesN s,c<128
 rw [hs]
 exact ⟨hp,fun d hd=>hn d (hc d hd)⟩
theorem tkg_text {s:ByteArray} (h:∀ c∈bytesN s,c≠34∧c≠10∧c≠92∧c<128):TkG (4,s,0):=by
 have hp:=pce_text (b:=bytesN s) (fun c hc=>⟨(h c hc).1,(h c hc).2.1,(h c hc).2.2.1⟩)
 rw [strN_bytesN] at hp
 unfold TkG tkB
 rw [if_pos rfl]
 refine ⟨hp,fun d hd=>?_⟩
 simp only [List.mem_cons,List.mem_append,List.not_mem_nil,or_false] at hd
 rcases hd with rfl|hd|rfl
 ·decide
 ·exact (h d hd).2.2.2
 decide
/- the words of the language that are used -/
theorem tkg_case:TkG (6,kCase,0):=Ys (c:=99) (r:=[97,115,101]) rfl by17 by17 by17 by17 by14
theorem tkg_of:TkG (6,kOf,0):=Ys (c:=111) (r:=[102]) rfl by17 by17 by17 by17 by14
theorem tkg_end:TkG (6,kEnd,0):=Ys (c:=101) (r:=[110,100]) rfl by17 by17 by17 by17 by14
theorem tkg_wild:TkG (7,kUn,0):=Ys (c:=95) (r:=[]) rfl by17 by17 by17 by17 by14
theorem tkg_arrow:TkG (7,kArrow,0):=tkg_sign (c:=45) (r:=[62]) rfl by17 by17 by17 by17 by14
theorem tkg_bar:TkG (7,kBar,0):=tkg_sign (c:=124) (r:=[]) rfl by17 by17 by17 by17 by14
abbrev kHat:ByteArray:=⟨#[94]⟩
theorem tkg_aa:TkG (5,kAA,0):=tkg_sign (c:=38) (r:=[38]) rfl by17 by17 by17 by17 by14
theorem tkg_hat:TkG (5,kHat,0):=tkg_sign (c:=94) (r:=[]) rfl by17 by17 by17 by17 by14
theorem chT_g {s:ByteArray} (hs:TkG (5,s,0)):∀ l:List Opd,(∀ y∈l,OpdG y)→∀ t∈chT s l,TkG t
 | [],_,t,ht=>by simp [chT] at ht
 | y::l,h,t,ht=>by
  rw [chT] at ht
  rcases List.mem_cons.1 ht with rfl|ht
  ·exact hs
  rcases List.mem_append.1 ht with ht|ht
  ·exact h y by19 t ht
  exact chT_g hs l (fun z hz=>h z (by simp [hz])) t ht
mutual
theorem Dx.all_g:∀ e:Dx,e.gd→∀ t∈e.tk,TkG t
 | .ops s x l,h,t,ht=>by
  rw [Dx.gd] at h
  rw [Dx.tk] at ht
  rcases List.mem_append.1 ht with ht|ht
  ·exact h.1 t ht
  exact chT_g h.2.2 l h.2.1 t ht
 | .cas o q e l,h,t,ht=>by
  rw [Dx.gd] at h
  rw [Dx.tk] at ht
  simp only [List.mem_cons,List.mem_append,List.not_mem_nil,or_false] at ht
  rcases ht with rfl|ht|rfl|ht|rfl|ht|ht|rfl
  ·exact tkg_case
  ·exact h.1 t ht
  ·exact tkg_of
  ·exact h.2.1 t ht
  ·exact tkg_arrow
  ·exact Dx.all_g e h.2.2.1 t ht
  ·exact Dx.alts_g l h.2.2.2 t ht
  exact tkg_end
 | .lam _ _ _,h,_,_=>by rw [Dx.gd] at h;exact absurd h id
theorem Dx.alts_g:∀ l:List (Opd × Dx),Dx.gds l→∀ t∈Dx.altk l,TkG t
 | [],_,t,ht=>by rw [Dx.altk] at ht;simp at ht
 |(q,e)::l,h,t,ht=>by
  rw [Dx.gds] at h
  rw [Dx.altk] at ht
  simp only [List.mem_cons,List.mem_append] at ht
  rcases ht with rfl|ht|rfl|ht|ht
  ·exact tkg_bar
  ·exact h.1 t ht
  ·exact tkg_arrow
  ·exact Dx.all_g e h.2.1 t ht
  exact Dx.alts_g l h.2.2 t ht
end
def tksB (l:List Tk):List Nat:=spc (l.map tkB)
theorem tksB_nil:tksB []=[]:=rfl
theorem Yo (t:Tk) (l:List Tk):tksB (t::l)=32::(tkB t++tksB l):=spc_cons _ _
theorem tksB_app (a b:List Tk):tksB (a++b)=tksB a++tksB b:=by unfold tksB;rw [List.map_append,spc_app]
def Spells (s:ByteArray) (e:Dx):Prop:=32::bytesN s=tksB e.tk
theorem lam_law (a:Int) {s:ByteArray} {ns:List ByteArray} {n:ByteArray} {e:Dx} (hs:bytesN s=92::(tksB (ns.map (fun m=>((1,m,0):Tk))++((1,n,0):Tk)::((7,kArrow,0):Tk)::e.tk)).tail) (hns:∀ m∈ns,TkG (1,m,0)) (hn:TkG (1,n,0)) (hg:e.gd) (hok:e.ok) (hd:e.dep≤190) (hsz:s.size≤60000):∃ y q,expP (scanT s).1 (beginP (scanT s))=(y,q)∧Ex.pin a y=(Dx.lam ns n e).ex a∧q.e=0∧(takeP (scanT s).1 q 0 kE).2.e=0:=by
 obtain ⟨t0,ts,ht⟩:∃ t0 ts,ns.map (fun m=>((1,m,0):Tk))++((1,n,0):Tk)::((7,kArrow,0):Tk)::e.tk=t0::ts:=by
  cases ns with
  | nil=>exact ⟨_,_,rfl⟩
  | cons m ns=>exact ⟨_,_,rfl⟩
 have hall:∀ t∈t0::ts,TkG t:=fun t hm=>by
  rw [← ht] at hm
  simp only [List.mem_append,List.mem_cons,List.mem_map] at hm
  rcases hm with ⟨m,hm,rfl⟩|rfl|rfl|hm
  ·exact hns m hm
  ·exact hn
  ·exact tkg_arrow
  exact Dx.all_g e hg t hm
 rw [ht,Yo] at hs
 have hs2:bytesN s=92::(tkB t0++spc ((ts.map fun t=>(tkB t,t)).map Prod.fst)):=by
  rw [hs]
  show 92::(tkB t0++tksB ts)=_
  unfold tksB
  rw [List.map_map]
  rfl
 obtain ⟨L,h1,h2⟩:=scan_law (t:=t0) hs2 hsz (fun c hc=>by
  rw [hs] at hc
  have hc:c=92∨c∈tkB t0∨c∈tksB ts:=by simpa using hc
  rcases hc with rfl|hc|hc
  ·decide
  ·exact (hall t0 by19).2 c hc
  ·unfold tksB spc at hc
   obtain ⟨w,hw,hc⟩:=List.mem_flatMap.1 hc
   obtain ⟨t,ht,rfl⟩:=List.mem_map.1 hw
   rcases List.mem_cons.1 hc with rfl|hc
   ·decide
   exact (hall t (by simp [ht])).2 c hc) (hall t0 by19).1 (fun p hp=>by
  obtain ⟨t,ht,rfl⟩:=List.mem_map.1 hp
  exact (hall t (by simp [ht])).1)
 rw [h1]
 have hL:L.map Tok.tk=(Dx.lam ns n e).tk++[((0,kE,0):Tk)]:=by
  rw [h2,Dx.tk,ht,List.map_map]
  have:(Prod.snd ∘ fun t:Tk=>(tkB t,t))=id:=rfl
  rw [this,List.map_id]
 have:=exp_law a (L:=L) (e:=.lam ns n e) (by rw [Dx.ok];exact hok) (by rw [Dx.dep];omega) hL
 exact this
abbrev kX:ByteArray:=⟨#[120]⟩
abbrev kY:ByteArray:=⟨#[121]⟩
abbrev kR:ByteArray:=⟨#[114]⟩
abbrev kEqN:ByteArray:=⟨#[101,113]⟩
abbrev kCmp:ByteArray:=⟨#[99,111,109,112,97,114,101]⟩
abbrev kShw:ByteArray:=⟨#[115,104,111,119]⟩
abbrev kTrue:ByteArray:=⟨#[84,114,117,101]⟩
abbrev kFalse:ByteArray:=⟨#[70,97,108,115,101]⟩
abbrev kEQ:ByteArray:=⟨#[69,81]⟩
abbrev kLT:ByteArray:=⟨#[76,84]⟩
abbrev kGT:ByteArray:=⟨#[71,84]⟩
section
variable (nm:Nat→ByteArray)
/- the texts, as the document's functions make them; nm k: the number of argument k -/
def argsT (of:ByteArray):Nat→ByteArray
 | 0=>kE
 | i+1=>if of=kE then argsT of i++⟨#[32,95]⟩ else argsT of i++⟨#[32]⟩++of++nm i
def twoT (f:ByteArray) (i:Nat):ByteArray:=f++⟨#[32,120]⟩++nm i++⟨#[32,121]⟩++nm i
def eqS:Nat→ByteArray
 | 0=>kE
 | k+1=>(if 0<k then eqS k++⟨#[32,38,38,32]⟩ else eqS k)++twoT nm kEqN k
/- tokens -/
def argK (of:ByteArray) (i:Nat):Tk:=if of=kE then (7,kUn,0) else (1,of++nm i,0)
def argsK (of:ByteArray):Nat→List Tk
 | 0=>[]
 | i+1=>argsK of i++[argK nm of i]
def twoK (f:ByteArray) (i:Nat):Opd:=((1,f,0),[(1,kX++nm i,0),(1,kY++nm i,0)])
theorem args_spell (of:ByteArray):∀ n,bytesN (argsT nm of n)=tksB (argsK nm of n)
 | 0=>rfl
 | i+1=>by
  rw [argsT,argsK,tksB_app,← args_spell of i]
  unfold argK
  by_cases h:of=kE
  ·rw [if_pos h,if_pos h,bytesN_app]
   rfl
  rw [if_neg h,if_neg h]
  generalize nm i=m
  rw [bytesN_app,bytesN_app,bytesN_app,Yo,tksB_nil]
  simp [tkB,bytesN]
theorem two_spell (f:ByteArray) (i:Nat):32::bytesN (twoT nm f i)=tksB (opT (twoK nm f i)):=by
 unfold twoT twoK opT
 generalize nm i=m
 simp only [Yo,tksB_nil,tkB]
 simp [bytesN]
/- bytes of what stands between -/
theorem lit_bl:bytesN ⟨#[32]⟩=[32]:=rfl
theorem lit_arr:bytesN ⟨#[32,45,62,32]⟩=[32,45,62,32]:=rfl
theorem lit_aa:bytesN ⟨#[32,38,38,32]⟩=[32,38,38,32]:=rfl
theorem lit_bar:bytesN ⟨#[32,124,32]⟩=[32,124,32]:=rfl
theorem lit_cy:bytesN ⟨#[99,97,115,101,32,121,32,111,102,32]⟩=[99,97,115,101,32,121,32,111,102,32]:=rfl
theorem lit_no:bytesN ⟨#[32,124,32,95,32,45,62,32,70,97,108,115,101]⟩=[32,124,32,95,32,45,62,32,70,97,108,115,101]:=rfl
theorem lit_end:bytesN ⟨#[32,101,110,100]⟩=[32,101,110,100]:=rfl
/- operands of one word -/
def varO (s:ByteArray):Opd:=((1,s,0),[])
def conO (s:ByteArray):Opd:=((2,s,0),[])
def strO (s:ByteArray):Opd:=((4,s,0),[])
def wilO:Opd:=((7,kUn,0),[])
def patO (c:ByteArray) (of:ByteArray) (n:Nat):Opd:=((2,c,0),argsK nm of n)
def opD (x:Opd):Dx:=.ops kAA x []
theorem chT_app (s:ByteArray):∀ a b:List Opd,chT s (a++b)=chT s a++chT s b
 | [],_=>rfl
 | x::a,b=>by
  show ((5,s,0):Tk)::(opT x++chT s (a++b))=((5,s,0):Tk)::(opT x++chT s a)++chT s b
  rw [chT_app s a b];simp
theorem pat_spell (c of:ByteArray) (n:Nat):32::(bytesN c++bytesN (argsT nm of n))=tksB (opT (patO nm c of n)):=by
 rw [args_spell]
 show _=tksB (((2,c,0):Tk)::argsK nm of n)
 rw [Yo]
 rfl
/- Eq -/
def eqL:Nat→List Opd
 | 0=>[]
 | k+1=>eqL k++[twoK nm kEqN (k+1)]
def eqE:Nat→Dx
 | 0=>opD (conO kTrue)
 | n+1=>.ops kAA (twoK nm kEqN 0) (eqL nm n)
theorem eqS_spell:∀ n,32::bytesN (eqS nm (n+1))=tksB (eqE nm (n+1)).tk
 | 0=>by
  show 32::bytesN (kE++twoT nm kEqN 0)=tksB (opT (twoK nm kEqN 0)++[])
  rw [bytesN_app,List.append_nil,← two_spell]
  rfl
 | n+1=>by
  have h:=eqS_spell n
  show 32::bytesN (eqS nm (n+1)++⟨#[32,38,38,32]⟩++twoT nm kEqN (n+1))=tksB (opT (twoK nm kEqN 0)++chT kAA (eqL nm n++[twoK nm kEqN (n+1)]))
  replace h:32::bytesN (eqS nm (n+1))=tksB (opT (twoK nm kEqN 0)++chT kAA (eqL nm n)):=h
  have h2:tksB (chT kAA [twoK nm kEqN (n+1)])=32::38::38::32::bytesN (twoT nm kEqN (n+1)):=by
   show tksB (((5,kAA,0):Tk)::(opT (twoK nm kEqN (n+1))++[]))=_
   rw [Yo,List.append_nil,← two_spell]
   rfl
  rw [chT_app,← List.append_assoc,tksB_app,← h,h2,bytesN_app,bytesN_app,lit_aa]
  simp
def eqT (c:ByteArray) (n cons:Nat):ByteArray :=
 (if 1<cons then ⟨#[99,97,115,101,32,121,32,111,102,32]⟩++c++argsT nm kY n++⟨#[32,45,62,32]⟩++(if n=0 then kTrue else eqS nm n)++⟨#[32,124,32,95,32,45,62,32,70,97,108,115,101]⟩
  else ⟨#[99,97,115,101,32,121,32,111,102,32]⟩++c++argsT nm kY n++⟨#[32,45,62,32]⟩++(if n=0 then kTrue else eqS nm n))++⟨#[32,101,110,100]⟩
def eqD (c:ByteArray) (n cons:Nat):Dx:=.cas (varO kY) (patO nm c kY n) (eqE nm n) (if 1<cons then [(wilO,opD (conO kFalse))] else [])
theorem eqE_spell (n:Nat):Spells (if n=0 then kTrue else eqS nm n) (eqE nm n):=by
 unfold Spells
 cases n with
 | zero=>rfl
 | succ n=>rw [if_neg by18];exact eqS_spell nm n
theorem cas_spell {h q:Opd} {e:Dx} {l:List (Opd × Dx)} {bh bq be bl:List Nat} (h1:bh=tksB (opT h)) (h2:bq=tksB (opT q)) (h3:be=tksB e.tk) (h4:bl=tksB (Dx.altk l)):[32,99,97,115,101]++bh++[32,111,102]++bq++[32,45,62]++be++bl++[32,101,110,100]=tksB (Dx.cas h q e l).tk:=by
 rw [Dx.tk,Yo,tksB_app,Yo,tksB_app,Yo,tksB_app,tksB_app,Yo,tksB_nil,← h1,← h2,← h3,← h4]
 show _=32::([99,97,115,101]++(bh++32::([111,102]++(bq++32::([45,62]++(be++(bl++32::([101,110,100]++[])))))))) 
 simp
theorem alt_spell {q:Opd} {e:Dx} {l:List (Opd × Dx)} {bq be bl:List Nat} (h2:bq=tksB (opT q)) (h3:be=tksB e.tk) (h4:bl=tksB (Dx.altk l)):[32,124]++bq++[32,45,62]++be++bl=tksB (Dx.altk ((q,e)::l)):=by
 rw [Dx.altk,Yo,tksB_app,Yo,tksB_app,← h2,← h3,← h4]
 show _=32::([124]++(bq++32::([45,62]++(be++bl))))
 simp
theorem eq_spell (c:ByteArray) (n cons:Nat):Spells (eqT nm c n cons) (eqD nm c n cons):=by
 unfold Spells eqT eqD
 have h3:=eqE_spell nm n
 unfold Spells at h3
 generalize (if n=0 then kTrue else eqS nm n)=s at *
 by_cases h:1<cons
 ·rw [if_pos h,if_pos h,← cas_spell (h:=varO kY) rfl (pat_spell nm c kY n) h3 (alt_spell (q:=wilO) (e:=opD (conO kFalse)) rfl rfl rfl)]
  simp only [bytesN_app,lit_cy,lit_arr,lit_no,lit_end,show tksB (opT (varO kY))=[32,121] from rfl,show tksB (opT wilO)=[32,95] from rfl,show tksB (opD (conO kFalse)).tk=[32,70,97,108,115,101] from rfl,show tksB (Dx.altk [])=[] from rfl]
  simp
 rw [if_neg h,if_neg h,← cas_spell (h:=varO kY) (l:=[]) rfl (pat_spell nm c kY n) h3 rfl]
 simp only [bytesN_app,lit_cy,lit_arr,lit_end,show tksB (opT (varO kY))=[32,121] from rfl,show tksB (Dx.altk [])=[] from rfl]
 simp
end
section
variable (nm:Nat→ByteArray)
/- Ord -/
def ordT:Nat→Nat→ByteArray
 | 0,k=>twoT nm kCmp k
 | r+1,k=>⟨#[99,97,115,101,32]⟩++twoT nm kCmp k++⟨#[32,111,102,32,69,81,32,45,62,32]⟩++ordT r (k+1)++⟨#[32,124,32,114,32,45,62,32,114,32,101,110,100]⟩
def ordD:Nat→Nat→Dx
 | 0,k=>opD (twoK nm kCmp k)
 | r+1,k=>.cas (twoK nm kCmp k) (conO kEQ) (ordD r (k+1)) [(varO kR,opD (varO kR))]
theorem lit_c:bytesN ⟨#[99,97,115,101,32]⟩=[99,97,115,101,32]:=rfl
theorem lit_oe:bytesN ⟨#[32,111,102,32,69,81,32,45,62,32]⟩=[32,111,102,32,69,81,32,45,62,32]:=rfl
theorem lit_rr:bytesN ⟨#[32,124,32,114,32,45,62,32,114,32,101,110,100]⟩=[32,124,32,114,32,45,62,32,114,32,101,110,100]:=rfl
theorem ord_spell:∀ r k,Spells (ordT nm r k) (ordD nm r k)
 | 0,k=>by
  unfold Spells
  rw [ordT,ordD,two_spell]
  show _=tksB (opT (twoK nm kCmp k)++[])
  rw [List.append_nil]
 | r+1,k=>by
  have h:=ord_spell r (k+1)
  have h2:=two_spell nm kCmp k
  unfold Spells at h ⊢
  rw [ordD,← cas_spell h2 (q:=conO kEQ) rfl h (alt_spell (q:=varO kR) (e:=opD (varO kR)) rfl rfl rfl),ordT]
  simp only [bytesN_app,lit_c,lit_oe,lit_rr,show tksB (opT (conO kEQ))=[32,69,81] from rfl,show tksB (opT (varO kR))=[32,114] from rfl,show tksB (opD (varO kR)).tk=[32,114] from rfl,show tksB (Dx.altk [])=[] from rfl]
  simp
def orderT (n:Nat):ByteArray:=if n=0 then kEQ else ordT nm (n - 1) 0
def orderD (n:Nat):Dx:=if n=0 then opD (conO kEQ) else ordD nm (n - 1) 0
theorem order_spell (n:Nat):Spells (orderT nm n) (orderD nm n):=by
 unfold orderT orderD
 by_cases h:n=0
 ·rw [if_pos h,if_pos h];exact (rfl:32::bytesN kEQ=tksB (opD (conO kEQ)).tk)
 rw [if_neg h,if_neg h];exact ord_spell nm _ _
def altT (f:Nat→Cn→ByteArray):Nat→ByteArray→List Cn→ByteArray
 | _,s,[]=>s
 | k,s,c::l=>altT f (k+1) ((if 0<k then s++⟨#[32,124,32]⟩ else s)++f k c) l
def altD (g:Nat→Cn→Opd × Dx):Nat→List Cn→List (Opd × Dx)
 | _,[]=>[]
 | k,c::l=>g k c::altD g (k+1) l
theorem alts_spell {f:Nat→Cn→ByteArray} {g:Nat→Cn→Opd × Dx} (h:∀ k c,32::bytesN (f k c)=tksB (opT (g k c).1)++[32,45,62]++tksB (g k c).2.tk):∀ (l:List Cn) (k:Nat) (s:ByteArray),0<k→bytesN (altT f k s l)=bytesN s++tksB (Dx.altk (altD g k l))
 | [],k,s,_=>by rw [altT,altD];show _=bytesN s++[];rw [List.append_nil]
 | c::l,k,s,hk=>by
  rw [altT,altD,alts_spell h l (k+1) _ by18,if_pos hk,← alt_spell (q:=(g k c).1) (e:=(g k c).2) rfl rfl rfl]
  have:=h k c
  generalize tksB (Dx.altk (altD g (k+1) l))=z
  rw [bytesN_app,bytesN_app,lit_bar]
  have e:bytesN s++[32,124,32]++bytesN (f k c)=bytesN s++[32,124]++(32::bytesN (f k c)):=by simp
  rw [e,this]
  simp
def casD (h:Opd):List (Opd × Dx)→Dx
 | []=>opD h
 |(q,e)::l=>.cas h q e l
theorem casT_spell {f:Nat→Cn→ByteArray} {g:Nat→Cn→Opd × Dx} (h:∀ k c,32::bytesN (f k c)=tksB (opT (g k c).1)++[32,45,62]++tksB (g k c).2.tk) {x:Opd} {s:ByteArray} (c:Cn) (l:List Cn):bytesN (altT f 0 s (c::l)++⟨#[32,101,110,100]⟩)=bytesN s++bytesN (f 0 c)++tksB (Dx.altk (altD g 1 l))++[32,101,110,100]∧tksB (casD x (altD g 0 (c::l))).tk=[32,99,97,115,101]++tksB (opT x)++[32,111,102]++(32::bytesN (f 0 c))++tksB (Dx.altk (altD g 1 l))++[32,101,110,100]:=by
 constructor
 ·rw [bytesN_app,lit_end,altT,alts_spell h l 1 _ by18,if_neg by18,bytesN_app]
 rw [altD,h]
 show tksB (Dx.cas x (g 0 c).1 (g 0 c).2 _).tk=_
 rw [← cas_spell rfl rfl rfl rfl]
 simp
def cmpF (i k:Nat) (c:Cn):ByteArray:=if k<i then c.s++argsT nm kE c.ts.length++⟨#[32,45,62,32,71,84]⟩ else if k=i then c.s++argsT nm kY c.ts.length++⟨#[32,45,62,32]⟩++orderT nm c.ts.length else c.s++argsT nm kE c.ts.length++⟨#[32,45,62,32,76,84]⟩
def cmpG (i k:Nat) (c:Cn):Opd × Dx:=if k<i then (patO nm c.s kE c.ts.length,opD (conO kGT)) else if k=i then (patO nm c.s kY c.ts.length,orderD nm c.ts.length) else (patO nm c.s kE c.ts.length,opD (conO kLT))
theorem lit_gt:bytesN ⟨#[32,45,62,32,71,84]⟩=[32,45,62,32,71,84]:=rfl
theorem lit_lt:bytesN ⟨#[32,45,62,32,76,84]⟩=[32,45,62,32,76,84]:=rfl
theorem cmpF_spell (i k:Nat) (c:Cn):32::bytesN (cmpF nm i k c)=tksB (opT (cmpG nm i k c).1)++[32,45,62]++tksB (cmpG nm i k c).2.tk:=by
 unfold cmpF cmpG
 have h:=order_spell nm c.ts.length
 unfold Spells at h
 by_cases h1:k<i
 ·rw [if_pos h1,if_pos h1,← pat_spell]
  simp only [bytesN_app,lit_gt,show tksB (opD (conO kGT)).tk=[32,71,84] from rfl]
  simp
 by_cases h2:k=i
 ·rw [if_neg h1,if_pos h2,if_neg h1,if_pos h2,← pat_spell,← h]
  simp only [bytesN_app,lit_arr]
  simp
 rw [if_neg h1,if_neg h2,if_neg h1,if_neg h2,← pat_spell]
 simp only [bytesN_app,lit_lt,show tksB (opD (conO kLT)).tk=[32,76,84] from rfl]
 simp
def cmpT (i:Nat) (cs:List Cn):ByteArray:=altT (cmpF nm i) 0 ⟨#[99,97,115,101,32,121,32,111,102,32]⟩ cs++⟨#[32,101,110,100]⟩
def cmpD (i:Nat) (cs:List Cn):Dx:=casD (varO kY) (altD (cmpG nm i) 0 cs)
theorem cmp_spell (i:Nat) (c:Cn) (l:List Cn):Spells (cmpT nm i (c::l)) (cmpD nm i (c::l)):=by
 obtain ⟨h1,h2⟩:=casT_spell (cmpF_spell nm i) (x:=varO kY) (s:=⟨#[99,97,115,101,32,121,32,111,102,32]⟩) c l
 unfold Spells cmpT cmpD
 rw [h1,h2,lit_cy,show tksB (opT (varO kY))=[32,121] from rfl]
 simp
/- Show -/
def showO (k:Nat):Opd:=((1,kShw,0),[(1,kX++nm k,0)])
def shS (c:ByteArray):Nat→ByteArray
 | 0=>⟨#[34,40]⟩++c++⟨#[32,34]⟩
 | k+1=>(if 0<k then shS c k++⟨#[32,94,32,34,32,34]⟩ else shS c k)++⟨#[32,94,32,115,104,111,119,32,120]⟩++nm k
def shL:Nat→List Opd
 | 0=>[]
 | k+1=>(if 0<k then shL k++[strO ⟨#[32]⟩] else shL k)++[showO nm k]
theorem lit_q1:bytesN ⟨#[34,40]⟩=[34,40]:=rfl
theorem lit_q2:bytesN ⟨#[32,34]⟩=[32,34]:=rfl
theorem lit_q3:bytesN ⟨#[32,94,32,34,32,34]⟩=[32,94,32,34,32,34]:=rfl
theorem lit_q4:bytesN ⟨#[32,94,32,115,104,111,119,32,120]⟩=[32,94,32,115,104,111,119,32,120]:=rfl
theorem lit_q5:bytesN ⟨#[32,94,32,34,41,34]⟩=[32,94,32,34,41,34]:=rfl
theorem lit_q6:bytesN ⟨#[34]⟩=[34]:=rfl
theorem showO_spell (k:Nat):tksB (chT kHat [showO nm k])=[32,94,32,115,104,111,119,32,120]++bytesN (nm k):=by
 show tksB [((5,kHat,0):Tk),(1,kShw,0),(1,kX++nm k,0)]=_
 rw [Yo,Yo,Yo,tksB_nil]
 show 32::([94]++32::([115,104,111,119]++32::(bytesN (kX++nm k)++[])))=_
 rw [bytesN_app]
 show 32::([94]++32::([115,104,111,119]++32::([120]++bytesN (nm k)++[])))=_
 simp
theorem sh_spell (c:ByteArray):∀ n,32::bytesN (shS nm c n)=tksB (opT (strO (⟨#[40]⟩++c++⟨#[32]⟩))++chT kHat (shL nm n))
 | 0=>by
  show _=tksB ([((4,⟨#[40]⟩++c++⟨#[32]⟩,0):Tk)]++[])
  rw [List.append_nil,Yo,tksB_nil]
  show 32::bytesN (⟨#[34,40]⟩++c++⟨#[32,34]⟩)=32::((34::(bytesN (⟨#[40]⟩++c++⟨#[32]⟩)++[34]))++[])
  rw [bytesN_app,bytesN_app,bytesN_app,bytesN_app,lit_q1,lit_q2,lit_bl,show bytesN ⟨#[40]⟩=[40] from rfl]
  simp
 | k+1=>by
  have h:=sh_spell c k
  have h2:=showO_spell nm k
  rw [shS,shL]
  by_cases hk:0<k
  ·rw [if_pos hk,if_pos hk,chT_app,chT_app,← List.append_assoc,← List.append_assoc,tksB_app,tksB_app,← h,h2]
   simp only [bytesN_app,lit_q3,lit_q4,show tksB (chT kHat [strO ⟨#[32]⟩])=[32,94,32,34,32,34] from rfl]
   simp
  rw [if_neg hk,if_neg hk,chT_app,← List.append_assoc,tksB_app,← h,h2]
  simp only [bytesN_app,lit_q4]
  simp
def showT (c:Cn):ByteArray:=if c.ts.length=0 then ⟨#[34]⟩++c.s++⟨#[34]⟩ else shS nm c.s c.ts.length++⟨#[32,94,32,34,41,34]⟩
def showD (c:Cn):Dx:=if c.ts.length=0 then .ops kHat (strO c.s) [] else .ops kHat (strO (⟨#[40]⟩++c.s++⟨#[32]⟩)) (shL nm c.ts.length++[strO ⟨#[41]⟩])
theorem show_spell (c:Cn):Spells (showT nm c) (showD nm c):=by
 unfold Spells showT showD
 by_cases h:c.ts.length=0
 ·rw [if_pos h,if_pos h]
  show _=tksB [((4,c.s,0):Tk)]
  rw [Yo,tksB_nil]
  show _=32::((34::(bytesN c.s++[34]))++[])
  rw [bytesN_app,bytesN_app,lit_q6]
  simp
 rw [if_neg h,if_neg h]
 show _=tksB (opT (strO (⟨#[40]⟩++c.s++⟨#[32]⟩))++chT kHat (shL nm c.ts.length++[strO ⟨#[41]⟩]))
 rw [chT_app,← List.append_assoc,tksB_app,← sh_spell,bytesN_app,lit_q5,show tksB (chT kHat [strO ⟨#[41]⟩])=[32,94,32,34,41,34] from rfl]
 simp
/- a whole instance: what is said of each constructor by its place -/
def allF (one:Nat→Cn→ByteArray) (k:Nat) (c:Cn):ByteArray:=c.s++argsT nm kX c.ts.length++⟨#[32,45,62,32]⟩++one k c
def allG (one:Nat→Cn→Dx) (k:Nat) (c:Cn):Opd × Dx:=(patO nm c.s kX c.ts.length,one k c)
def allT (s:ByteArray) (one:Nat→Cn→ByteArray) (cs:List Cn):ByteArray:=altT (allF nm one) 0 s cs++⟨#[32,101,110,100]⟩
def allD (one:Nat→Cn→Dx) (cs:List Cn):Dx:=casD (varO kX) (altD (allG nm one) 0 cs)
theorem all_spell {t:Nat→Cn→ByteArray} {d:Nat→Cn→Dx} (h:∀ k c,Spells (t k c) (d k c)) {s:ByteArray} {ns:List ByteArray} {n:ByteArray} (hs:bytesN s=92::(tksB (ns.map (fun m=>((1,m,0):Tk))++((1,n,0):Tk)::[((7,kArrow,0):Tk)])).tail++[32,99,97,115,101,32,120,32,111,102,32]) (c:Cn) (l:List Cn):bytesN (allT nm s t (c::l))=92::(tksB (ns.map (fun m=>((1,m,0):Tk))++((1,n,0):Tk)::((7,kArrow,0):Tk)::(allD nm d (c::l)).tk)).tail:=by
 have hF:∀ k c,32::bytesN (allF nm t k c)=tksB (opT (allG nm d k c).1)++[32,45,62]++tksB (allG nm d k c).2.tk:=fun k c=>by
  have h1:=h k c
  unfold Spells at h1
  unfold allF allG
  rw [← pat_spell,← h1]
  simp only [bytesN_app,lit_arr]
  simp
 obtain ⟨h1,h2⟩:=casT_spell hF (x:=varO kX) (s:=s) c l
 unfold allT allD
 rw [h1,hs]
 have e:∀ D:List Tk,ns.map (fun m=>((1,m,0):Tk))++((1,n,0):Tk)::((7,kArrow,0):Tk)::D=(ns.map (fun m=>((1,m,0):Tk))++((1,n,0):Tk)::[((7,kArrow,0):Tk)])++D:=fun D=>by simp
 rw [e (casD (varO kX) (altD (allG nm d) 0 (c::l))).tk]
 generalize hX:ns.map (fun m=>((1,m,0):Tk))++((1,n,0):Tk)::[((7,kArrow,0):Tk)]=X at *
 have hne:tksB X≠[]:=by
  cases X with
  | nil=>simp at hX
  | cons x a=>rw [Yo];simp
 rw [tksB_app,h2,show tksB (opT (varO kX))=[32,120] from rfl,List.tail_append_of_ne_nil hne]
 simp
end
structure Fine (B:Nat) (e:Dx):Prop where
 gd:e.gd
 ok:e.ok
 dep:e.dep≤B
theorem Fine.up {A B:Nat} {e:Dx} (h:Fine A e) (hb:A≤B):Fine B e:=⟨h.gd,h.ok,Nat.le_trans h.dep hb⟩
theorem gds_iff:∀ l:List (Opd × Dx),Dx.gds l↔∀ x∈l,OpdG x.1∧x.2.gd
 | []=>by simp [Dx.gds]
 |(q,e)::l=>by simp [Dx.gds,gds_iff l,and_assoc]
theorem oks_iff:∀ l:List (Opd × Dx),Dx.oks l↔∀ x∈l,paOk x.1∧x.2.ok
 | []=>by simp [Dx.oks]
 |(q,e)::l=>by simp [Dx.oks,oks_iff l,and_assoc]
theorem deps_le {B:Nat}:∀ l:List (Opd × Dx),(∀ x∈l,x.2.dep≤B)→Dx.deps l≤B
 | [],_=>by simp [Dx.deps]
 |(q,e)::l,h=>by
  rw [Dx.deps]
  have h1:e.dep≤B:=h (q,e) by19
  have h2:=deps_le l (fun x hx=>h x (by simp [hx]))
  omega
theorem Fine.ops {s:ByteArray} (hs:TkG (5,s,0)) (hl:lvl s.toList≠4∧sideN (lvl s.toList)≠1) {x:Opd} {l:List Opd} (hx:OpdG x∧opOk x) (h:∀ y∈l,OpdG y∧opOk y):Fine 2 (.ops s x l) :=
 ⟨by rw [Dx.gd];exact ⟨hx.1,fun y hy=>(h y hy).1,hs⟩,by rw [Dx.ok];exact ⟨hx.2,fun y hy=>(h y hy).2,hl.1,hl.2⟩,by rw [Dx.dep];omega⟩
theorem Fine.op {x:Opd} (hx:OpdG x∧opOk x):Fine 2 (opD x):=Fine.ops tkg_aa by14 hx by19
theorem Fine.cas {B:Nat} {h q:Opd} {e:Dx} {l:List (Opd × Dx)} (hh:OpdG h∧opOk h) (hq:OpdG q∧paOk q) (he:Fine B e) (hl:∀ x∈l,(OpdG x.1∧paOk x.1)∧Fine B x.2):Fine (B+3) (.cas h q e l):=by
 refine ⟨?_,?_,?_⟩
 ·rw [Dx.gd];exact ⟨hh.1,hq.1,he.gd,(gds_iff l).2 fun x hx=>⟨(hl x hx).1.1,(hl x hx).2.gd⟩⟩
 ·rw [Dx.ok];exact ⟨hh.2,hq.2,he.ok,(oks_iff l).2 fun x hx=>⟨(hl x hx).1.2,(hl x hx).2.ok⟩⟩
 rw [Dx.dep]
 have:=deps_le l (fun x hx=>(hl x hx).2.dep)
 have:=he.dep
 omega
theorem Fine.casD {B:Nat} {h:Opd} {l:List (Opd × Dx)} (hh:OpdG h∧opOk h) (hl:∀ x∈l,(OpdG x.1∧paOk x.1)∧Fine B x.2):Fine (B+3) (casD h l):=by
 cases l with
 | nil=>exact (Fine.op hh).up by18
 | cons x l =>
  obtain ⟨q,e⟩:=x
  exact Fine.cas hh (hl (q,e) by19).1 (hl (q,e) by19).2 (fun x hx=>hl x (by simp [hx]))
theorem altD_mem {g:Nat→Cn→Opd × Dx} {x:Opd × Dx}:∀ {l:List Cn} {k:Nat},x∈altD g k l→∃ i c,c∈l∧x=g i c
 | [],_,h=>by simp [altD] at h
 | c::l,k,h=>by
  rw [altD] at h
  rcases List.mem_cons.1 h with h|h
  ·exact ⟨k,c,by simp,h⟩
  obtain ⟨i,d,h1,h2⟩:=altD_mem h
  exact ⟨i,d,by simp [h1],h2⟩
theorem one_fine {k:Int} {s:ByteArray} (h:TkG (k,s,0)) (hk:k=1∨k=2∨k=4):OpdG ((k,s,0),[])∧opOk ((k,s,0),[]) :=
 ⟨fun t ht=>by rw [opT,List.mem_singleton] at ht;subst ht;exact h,fun t ht=>by rw [opT,List.mem_singleton] at ht;subst ht;exact hk⟩
theorem tkg_y:TkG (1,kY,0):=Ys (c:=121) (r:=[]) rfl by17 by17 by17 by17 by14
theorem tkg_x:TkG (1,kX,0):=Ys (c:=120) (r:=[]) rfl by17 by17 by17 by17 by14
theorem tkg_r:TkG (1,kR,0):=Ys (c:=114) (r:=[]) rfl by17 by17 by17 by17 by14
theorem tkg_eq:TkG (1,kEqN,0):=Ys (c:=101) (r:=[113]) rfl by17 by17 by17 by17 by14
theorem tkg_cmp:TkG (1,kCmp,0):=Ys (c:=99) (r:=[111,109,112,97,114,101]) rfl by17 by17 by17 by17 by14
theorem tkg_shw:TkG (1,kShw,0):=Ys (c:=115) (r:=[104,111,119]) rfl by17 by17 by17 by17 by14
theorem tkg_true:TkG (2,kTrue,0):=Ys (c:=84) (r:=[114,117,101]) rfl by17 by17 by17 by17 by14
theorem tkg_false:TkG (2,kFalse,0):=Ys (c:=70) (r:=[97,108,115,101]) rfl by17 by17 by17 by17 by14
theorem tkg_EQ:TkG (2,kEQ,0):=Ys (c:=69) (r:=[81]) rfl by17 by17 by17 by17 by14
theorem tkg_LT:TkG (2,kLT,0):=Ys (c:=76) (r:=[84]) rfl by17 by17 by17 by17 by14
theorem tkg_GT:TkG (2,kGT,0):=Ys (c:=71) (r:=[84]) rfl by17 by17 by17 by17 by14
structure GN (s:ByteArray):Prop where
 tk:TkG (2,s,0)
 tx:∀ c∈bytesN s,c≠34∧c≠10∧c≠92∧c<128
def NmG (nm:Nat→ByteArray):Prop:=∀ i,i<8→TkG (1,kX++nm i,0)∧TkG (1,kY++nm i,0)
def CnG (cs:List Cn):Prop:=∀ c∈cs,GN c.s∧c.ts.length≤8
section
variable {nm:Nat→ByteArray} (hnm:NmG nm)
include hnm
theorem two_fine {f:ByteArray} (hf:TkG (1,f,0)) {i:Nat} (hi:i<8):OpdG (twoK nm f i)∧opOk (twoK nm f i):=by
 refine ⟨fun t ht=>?_,fun t ht=>?_⟩ <;> unfold twoK opT at ht <;> simp only [List.mem_cons,List.not_mem_nil,or_false] at ht <;> rcases ht with rfl|rfl|rfl
 ·exact hf
 ·exact (hnm i hi).1
 ·exact (hnm i hi).2
 ·exact .inl Y
 ·exact .inl Y
 exact .inl Y
theorem args_fine {of:ByteArray} (ho:of=kE∨of=kX∨of=kY):∀ (n:Nat),n≤8→∀ t∈argsK nm of n,TkG t∧apOk t
 | 0,_,t,ht=>by simp [argsK] at ht
 | n+1,hn,t,ht=>by
  rw [argsK] at ht
  rcases List.mem_append.1 ht with ht|ht
  ·exact args_fine ho n by18 t ht
  rw [List.mem_singleton] at ht
  subst ht
  unfold argK
  by_cases h:of=kE
  ·rw [if_pos h];exact ⟨tkg_wild,.inr ⟨rfl,rfl⟩⟩
  rw [if_neg h]
  rcases ho with ho|ho|ho
  ·exact absurd ho h
  ·subst ho;exact ⟨(hnm n by18).1,.inl rfl⟩
  subst ho;exact ⟨(hnm n by18).2,.inl rfl⟩
theorem pat_fine {c of:ByteArray} (hc:GN c) (ho:of=kE∨of=kX∨of=kY) {n:Nat} (hn:n≤8):OpdG (patO nm c of n)∧paOk (patO nm c of n):=by
 refine ⟨fun t ht=>?_,.inl ⟨Y,fun t ht=>(args_fine hnm ho n hn t ht).2⟩⟩
 rcases List.mem_cons.1 ht with rfl|ht
 ·exact hc.tk
 exact (args_fine hnm ho n hn t ht).1
theorem eqL_fine:∀ n,n<8→∀ y∈eqL nm n,OpdG y∧opOk y
 | 0,_,y,hy=>by simp [eqL] at hy
 | n+1,hn,y,hy=>by
  rw [eqL] at hy
  rcases List.mem_append.1 hy with hy|hy
  ·exact eqL_fine n by18 y hy
  rw [List.mem_singleton] at hy;subst hy;exact two_fine hnm tkg_eq hn
theorem eqE_fine:∀ n,n≤8→Fine 2 (eqE nm n)
 | 0,_=>Fine.op (one_fine tkg_true (.inr (.inl rfl)))
 | n+1,hn=>Fine.ops tkg_aa by14 (two_fine hnm tkg_eq by18) (eqL_fine hnm n by18)
theorem eq_fine {c:ByteArray} (hc:GN c) {n:Nat} (hn:n≤8) (cons:Nat):Fine 29 (eqD nm c n cons):=by
 refine (Fine.cas (B:=2) (one_fine tkg_y (.inl Y)) (pat_fine hnm hc (.inr (.inr Y)) hn) (eqE_fine hnm n hn) (fun x hx=>?_)).up by18
 split at hx
 ·rw [List.mem_singleton] at hx
  subst hx
  exact ⟨⟨fun t ht=>by rw [wilO,opT,List.mem_singleton] at ht;subst ht;exact tkg_wild,.inr ⟨.inr ⟨rfl,rfl⟩,rfl⟩⟩,Fine.op (one_fine tkg_false (.inr (.inl rfl)))⟩
 simp at hx
theorem ord_fine:∀ r k,r+k<8→Fine (3 * r+2) (ordD nm r k)
 | 0,k,h=>Fine.op (two_fine hnm tkg_cmp by18)
 | r+1,k,h=>(Fine.cas (B:=3 * r+2) (two_fine hnm tkg_cmp by18) ⟨(one_fine tkg_EQ (.inr (.inl rfl))).1,.inl ⟨rfl,by simp⟩⟩ (ord_fine r (k+1) by18) (fun x hx=>by
  rw [List.mem_singleton] at hx
  subst hx
  exact ⟨⟨(one_fine tkg_r (.inl Y)).1,.inr ⟨.inl Y,Y⟩⟩,(Fine.op (one_fine tkg_r (.inl Y))).up by18⟩)).up by18
theorem order_fine {n:Nat} (hn:n≤8):Fine 26 (orderD nm n):=by
 unfold orderD
 split
 ·exact (Fine.op (one_fine tkg_EQ (.inr (.inl Y)))).up by18
 exact (ord_fine hnm (n - 1) 0 by18).up by18
theorem cmp_fine {cs:List Cn} (hcs:CnG cs) (i:Nat):Fine 29 (cmpD nm i cs):=by
 refine Fine.casD (B:=26) (one_fine tkg_y (.inl Y)) (fun x hx=>?_)
 obtain ⟨k,c,hc,rfl⟩:=altD_mem hx
 obtain ⟨h1,h2⟩:=hcs c hc
 unfold cmpG
 split
 ·exact ⟨pat_fine hnm h1 (.inl Y) h2,(Fine.op (one_fine tkg_GT (.inr (.inl Y)))).up by18⟩
 split
 ·exact ⟨pat_fine hnm h1 (.inr (.inr Y)) h2,order_fine hnm h2⟩
 exact ⟨pat_fine hnm h1 (.inl Y) h2,(Fine.op (one_fine tkg_LT (.inr (.inl Y)))).up by18⟩
theorem shL_fine:∀ n,n≤8→∀ y∈shL nm n,OpdG y∧opOk y
 | 0,_,y,hy=>by simp [shL] at hy
 | n+1,hn,y,hy=>by
  rw [shL] at hy
  have hs:OpdG (strO ⟨#[32]⟩)∧opOk (strO ⟨#[32]⟩):=one_fine (tkg_text by14) (.inr (.inr rfl))
  have ho:OpdG (showO nm n)∧opOk (showO nm n):=by
   refine ⟨fun t ht=>?_,fun t ht=>?_⟩ <;> unfold showO opT at ht <;> simp only [List.mem_cons,List.not_mem_nil,or_false] at ht <;> rcases ht with rfl|rfl
   ·exact tkg_shw
   ·exact (hnm n by18).1
   ·exact .inl Y
   exact .inl Y
  rcases List.mem_append.1 hy with hy|hy
  ·split at hy
   ·rcases List.mem_append.1 hy with hy|hy
    ·exact shL_fine n by18 y hy
    rw [List.mem_singleton] at hy;subst hy;exact hs
   exact shL_fine n by18 y hy
  rw [List.mem_singleton] at hy;subst hy;exact ho
theorem show_fine {c:Cn} (hc:GN c.s) (hn:c.ts.length≤8):Fine 29 (showD nm c):=by
 unfold showD
 split
 ·exact (Fine.ops tkg_hat by14 (one_fine (tkg_text hc.tx) (.inr (.inr Y))) by19).up by18
 refine (Fine.ops tkg_hat by14 (one_fine (tkg_text fun d hd=>?_) (.inr (.inr Y))) (fun y hy=>?_)).up by18
 ·rw [bytesN_app,bytesN_app] at hd
  simp only [List.mem_append] at hd
  rcases hd with (hd|hd)|hd
  ·rw [show bytesN ⟨#[40]⟩=[40] from rfl,List.mem_singleton] at hd;subst hd;decide
  ·exact hc.tx d hd
  rw [lit_bl,List.mem_singleton] at hd;subst hd;decide
 rcases List.mem_append.1 hy with hy|hy
 ·exact shL_fine hnm _ hn y hy
 rw [List.mem_singleton] at hy;subst hy;exact one_fine (tkg_text by14) (.inr (.inr rfl))
theorem all_fine {one:Nat→Cn→Dx} {cs:List Cn} (hcs:CnG cs) (h:∀ k,∀ c∈cs,Fine 29 (one k c)):Fine 32 (allD nm one cs):=by
 refine Fine.casD (B:=29) (one_fine tkg_x (.inl Y)) (fun x hx=>?_)
 obtain ⟨k,c,hc,rfl⟩:=altD_mem hx
 exact ⟨pat_fine hnm (hcs c hc).1 (.inr (.inl Y)) (hcs c hc).2,h k c hc⟩
end
abbrev kHead2:ByteArray:=⟨#[92,120,32,121,32,45,62,32,99,97,115,101,32,120,32,111,102,32]⟩
abbrev kHead1:ByteArray:=⟨#[92,120,32,45,62,32,99,97,115,101,32,120,32,111,102,32]⟩
section
variable (nm:Nat→ByteArray)
def eqI (cs:List Cn):ByteArray:=allT nm kHead2 (fun _ c=>eqT nm c.s c.ts.length cs.length) cs
def ordI (cs:List Cn):ByteArray:=allT nm kHead2 (fun i _=>cmpT nm i cs) cs
def showI (cs:List Cn):ByteArray:=allT nm kHead1 (fun _ c=>showT nm c) cs
def eqX (a:Int) (cs:List Cn):Ex:=(Dx.lam [kX] kY (allD nm (fun _ c=>eqD nm c.s c.ts.length cs.length) cs)).ex a
def ordX (a:Int) (cs:List Cn):Ex:=(Dx.lam [kX] kY (allD nm (fun i _=>cmpD nm i cs) cs)).ex a
def showX (a:Int) (cs:List Cn):Ex:=(Dx.lam [] kX (allD nm (fun _ c=>showD nm c) cs)).ex a
/- how long the texts are -/
theorem altT_size {f:Nat→Cn→ByteArray} {B:Nat}:∀ (l:List Cn) (k:Nat) (s:ByteArray),(∀ k,∀ c∈l,(f k c).size≤B)→(altT f k s l).size≤s.size+l.length * (B+3)
 | [],_,s,_=>by simp [altT]
 | c::l,k,s,h=>by
  rw [altT]
  have h1:=altT_size (f:=f) (B:=B) l (k+1) ((if 0<k then s++⟨#[32,124,32]⟩ else s)++f k c) (fun k c hc=>h k c (by simp [hc]))
  have h2:=h k c by19
  have h3:((if 0<k then s++⟨#[32,124,32]⟩ else s)++f k c).size≤s.size+3+(f k c).size:=by
   rw [ByteArray.size_append]
   split
   ·rw [ByteArray.size_append];exact Nat.le_refl _
   omega
  rw [List.length_cons,Nat.add_mul]
  omega
variable {nm} (hsz:∀ i,i<8→(nm i).size=1)
include hsz
theorem args_size {of:ByteArray} (ho:of.size≤1):∀ n,n≤8→(argsT nm of n).size≤3 * n
 | 0,_=>by show (0:Nat)≤_;omega
 | n+1,hn=>by
  have h1:=args_size ho n by18
  have h2:=hsz n by18
  rw [argsT]
  split <;> simp only [ByteArray.size_append]
  ·show _+2≤_;omega
  show _+1+_+_≤_;omega
theorem two_size (f:ByteArray) {i:Nat} (hi:i<8):(twoT nm f i).size=f.size+6:=by
 have h2:=hsz i hi
 unfold twoT
 simp only [ByteArray.size_append]
 show _+2+_+2+_=_
 omega
theorem eqS_size:∀ n,n≤8→(eqS nm n).size≤12 * n
 | 0,_=>by show (0:Nat)≤_;omega
 | n+1,hn=>by
  have h1:=eqS_size n by18
  have h2:=two_size hsz kEqN (i:=n) by18
  have h3:kEqN.size=2:=rfl
  rw [eqS]
  split <;> simp only [ByteArray.size_append]
  ·show _+4+_≤_;omega
  omega
theorem eqT_size {c:ByteArray} (hc:c.size≤40) {n:Nat} (hn:n≤8) (cons:Nat):(eqT nm c n cons).size≤3000:=by
 have h1:=args_size hsz (of:=kY) by17 n hn
 have h2:=eqS_size hsz n hn
 have h3:(if n=0 then kTrue else eqS nm n).size≤100:=by
  split
  ·decide
  omega
 unfold eqT
 generalize (if n=0 then kTrue else eqS nm n)=s at *
 split <;> simp only [ByteArray.size_append]
 ·show 10+_+_+4+_+13+4≤_;omega
 show 10+_+_+4+_+4≤_;omega
theorem ord_size:∀ r k,r+k<8→(ordT nm r k).size≤50 * (r+1)
 | 0,k,h=>by
  have h2:=two_size hsz kCmp (i:=k) by18
  have h3:kCmp.size=7:=rfl
  rw [ordT];omega
 | r+1,k,h=>by
  have h2:=two_size hsz kCmp (i:=k) by18
  have h3:kCmp.size=7:=rfl
  have h1:=ord_size r (k+1) by18
  rw [ordT]
  simp only [ByteArray.size_append]
  show 5+_+10+_+13≤_
  omega
theorem order_size {n:Nat} (hn:n≤8):(orderT nm n).size≤400:=by
 unfold orderT
 split
 ·decide
 have:=ord_size hsz (n - 1) 0 by18;omega
theorem cmp_size (i:Nat) {cs:List Cn} (hl:cs.length≤6) (hcs:∀ c∈cs,c.s.size≤40∧c.ts.length≤8):(cmpT nm i cs).size≤3000:=by
 have h:=altT_size (f:=cmpF nm i) (B:=480) cs 0 ⟨#[99,97,115,101,32,121,32,111,102,32]⟩ (fun k c hc=>by
  obtain ⟨h1,h2⟩:=hcs c hc
  have h3:=args_size hsz (of:=kY) by17 _ h2
  have h4:=args_size hsz (of:=kE) by17 _ h2
  have h5:=order_size hsz h2
  unfold cmpF
  split
  ·simp only [ByteArray.size_append];show _+_+6≤_;omega
  split
  ·simp only [ByteArray.size_append];show _+_+4+_≤_;omega
  simp only [ByteArray.size_append];show _+_+6≤_;omega)
 unfold cmpT
 rw [ByteArray.size_append]
 replace h:(altT (cmpF nm i) 0 ⟨#[99,97,115,101,32,121,32,111,102,32]⟩ cs).size≤10+cs.length * 483:=h
 show _+4≤_
 omega
theorem shS_size {c:ByteArray} (hc:c.size≤40):∀ n,n≤8→(shS nm c n).size≤44+16 * n
 | 0,_=>by
  rw [shS]
  simp only [ByteArray.size_append]
  show 2+_+2≤_
  omega
 | n+1,hn=>by
  have h1:=shS_size hc n by18
  have h2:=hsz n by18
  rw [shS]
  split <;> simp only [ByteArray.size_append]
  ·show _+6+9+_≤_;omega
  show _+9+_≤_;omega
theorem show_size {c:Cn} (hc:c.s.size≤40) (hn:c.ts.length≤8):(showT nm c).size≤3000:=by
 have:=shS_size hsz hc _ hn
 unfold showT
 split <;> simp only [ByteArray.size_append]
 ·show 1+_+1≤_;omega
 show _+6≤_;omega
theorem all_size {s:ByteArray} (hs:s.size≤20) {one:Nat→Cn→ByteArray} {cs:List Cn} (hl:cs.length≤6) (hcs:∀ c∈cs,c.s.size≤40∧c.ts.length≤8) (h1:∀ k,∀ c∈cs,(one k c).size≤3000):(allT nm s one cs).size≤60000:=by
 have h:=altT_size (f:=allF nm one) (B:=3100) cs 0 s (fun k c hc=>by
  obtain ⟨h2,h3⟩:=hcs c hc
  have h4:=args_size hsz (of:=kX) by17 _ h3
  have h5:=h1 k c hc
  unfold allF
  simp only [ByteArray.size_append]
  show _+_+4+_≤_
  omega)
 unfold allT
 rw [ByteArray.size_append]
 show _+4≤_
 omega
end
structure DtG (cs:List Cn):Prop where
 ne:cs≠[]
 len:cs.length≤6
 cn:CnG cs
 sz:∀ c∈cs,c.s.size≤40
abbrev Parsed (a:Int) (s:ByteArray) (e:Ex):Prop:=∃ y q,expP (scanT s).1 (beginP (scanT s))=(y,q)∧Ex.pin a y=e∧q.e=0∧(takeP (scanT s).1 q 0 kE).2.e=0
section
variable {nm:Nat→ByteArray} (hnm:NmG nm) (hsz:∀ i,i<8→(nm i).size=1)
include hnm hsz
theorem eqI_law (a:Int) {cs:List Cn} (h:DtG cs):Parsed a (eqI nm cs) (eqX nm a cs):=by
 obtain ⟨c,l,rfl⟩:∃ c l,cs=c::l:=by
  cases cs with
  | nil=>exact absurd rfl h.ne
  | cons c l=>exact ⟨c,l,rfl⟩
 have hf:=all_fine hnm h.cn (one:=fun _ d=>eqD nm d.s d.ts.length (c::l).length) (fun _ d hd=>eq_fine hnm (h.cn d hd).1 (h.cn d hd).2 _)
 exact lam_law a (ns:=[kX]) (n:=kY) (all_spell nm (fun _ d=>eq_spell nm d.s d.ts.length (c::l).length) (s:=kHead2) (ns:=[kX]) (n:=kY) by14 c l) (fun m hm=>by rw [List.mem_singleton] at hm;subst hm;exact tkg_x) tkg_y hf.gd hf.ok (Nat.le_trans hf.dep by17) (all_size hsz by17 h.len (fun d hd=>⟨h.sz d hd,(h.cn d hd).2⟩) (fun _ d hd=>eqT_size hsz (h.sz d hd) (h.cn d hd).2 _))
theorem ordI_law (a:Int) {cs:List Cn} (h:DtG cs):Parsed a (ordI nm cs) (ordX nm a cs):=by
 obtain ⟨c,l,rfl⟩:∃ c l,cs=c::l:=by
  cases cs with
  | nil=>exact absurd rfl h.ne
  | cons c l=>exact ⟨c,l,rfl⟩
 have hf:=all_fine hnm h.cn (one:=fun i _=>cmpD nm i (c::l)) (fun i _ _=>cmp_fine hnm h.cn i)
 exact lam_law a (ns:=[kX]) (n:=kY) (all_spell nm (fun i _=>cmp_spell nm i c l) (s:=kHead2) (ns:=[kX]) (n:=kY) by14 c l) (fun m hm=>by rw [List.mem_singleton] at hm;subst hm;exact tkg_x) tkg_y hf.gd hf.ok (Nat.le_trans hf.dep by17) (all_size hsz by17 h.len (fun d hd=>⟨h.sz d hd,(h.cn d hd).2⟩) (fun i _ _=>cmp_size hsz i h.len (fun d hd=>⟨h.sz d hd,(h.cn d hd).2⟩)))
theorem showI_law (a:Int) {cs:List Cn} (h:DtG cs):Parsed a (showI nm cs) (showX nm a cs):=by
 obtain ⟨c,l,rfl⟩:∃ c l,cs=c::l:=by
  cases cs with
  | nil=>exact absurd rfl h.ne
  | cons c l=>exact ⟨c,l,rfl⟩
 have hf:=all_fine hnm h.cn (one:=fun _ d=>showD nm d) (fun _ d hd=>show_fine hnm (h.cn d hd).1 (h.cn d hd).2)
 exact lam_law a (ns:=[]) (n:=kX) (all_spell nm (fun _ d=>show_spell nm d) (s:=kHead1) (ns:=[]) (n:=kX) by14 c l) by19 tkg_x hf.gd hf.ok (Nat.le_trans hf.dep by17) (all_size hsz by17 h.len (fun d hd=>⟨h.sz d hd,(h.cn d hd).2⟩) (fun _ d hd=>show_size hsz (h.sz d hd) (h.cn d hd).2))
end
def num (i:Nat):ByteArray:=txt (W63 (i+1))
theorem num_at:∀ i,i<8→num i=⟨#[UInt8.ofNat (49+i)]⟩:=by
 have h:∀ i:Fin 8,(num i.1).data=#[UInt8.ofNat (49+i.1)]:=by decide +kernel
 intro i hi
 have:=h ⟨i,hi⟩
 generalize num i=x at *
 obtain ⟨d⟩:=x
 exact congrArg ByteArray.mk this
theorem num_size (i:Nat) (hi:i<8):(num i).size=1:=by rw [num_at i hi];rfl
theorem num_good:NmG num:=by
 intro i hi
 rw [num_at i hi]
 have hb:∀ (i:Fin 8) (k:UInt8),bytesN (⟨#[k]⟩++⟨#[UInt8.ofNat (49+i.1)]⟩)=[k.toNat,49+i.1]:=by
  intro i k
  rw [bytesN_app]
  show [k.toNat]++[(UInt8.ofNat (49+i.1)).toNat]=_
  have:∀ i:Fin 8,(UInt8.ofNat (49+i.1)).toNat=49+i.1:=by decide
  rw [this]
  rfl
 have hn:∀ i:Fin 8,nameC (49+i.1)=true:=by decide +kernel
 have hx:∀ i:Fin 8,kindT 120 (kX++⟨#[UInt8.ofNat (49+i.1)]⟩)=1:=by decide +kernel
 have hy:∀ i:Fin 8,kindT 121 (kY++⟨#[UInt8.ofNat (49+i.1)]⟩)=1:=by decide +kernel
 exact ⟨Ys (c:=120) (r:=[49+i]) (hb ⟨i,hi⟩ 120) by17 by17 (fun d hd=>by rw [List.mem_singleton] at hd;subst hd;exact hn ⟨i,hi⟩) by19 (hx ⟨i,hi⟩),
  Ys (c:=121) (r:=[49+i]) (hb ⟨i,hi⟩ 121) by17 by17 (fun d hd=>by rw [List.mem_singleton] at hd;subst hd;exact hn ⟨i,hi⟩) by19 (hy ⟨i,hi⟩)⟩
def namesP (s:ByteArray):Prop:=∀ c∈bytesN s,nameC c=true
def upP (s:ByteArray):Prop:=s.size≤40∧∃ c r,bytesN s=c::r∧greatC c=true∧∀ d∈c::r,nameC d=true
theorem amongB_mem {s:ByteArray} {l:List ByteArray} (h:amongB s l=true):s∈l:=by
 unfold amongB at h
 obtain ⟨x,hx,h⟩:=List.any_eq_true.1 h
 have h:x=s:=by simpa using h
 rw [← h];exact hx
theorem among_up {l:List ByteArray} (hl:∀ w∈l,greatC ((bytesN w).headD 0)=false) {s:ByteArray} {c:Nat} {r:List Nat} (hs:bytesN s=c::r) (hc:greatC c=true):s∉l:=fun h=>by
 have:=hl s h
 rw [hs] at this
 exact absurd (hc.symm.trans this) by17
theorem kind_up {s:ByteArray} {c:Nat} {r:List Nat} (hs:bytesN s=c::r) (hc:greatC c=true):kindT c s=2:=by
 have hm:¬ markT s=true:=fun h=>among_up (l:=marksL) by14 hs hc (amongB_mem h)
 have hk:¬ keyT s=true:=fun h=>among_up (l:=keysL) by14 hs hc (amongB_mem h)
 have hg:¬ signC c=true:=fun h=>by
  have:∀ c∈signL,greatC c=false:=by decide
  have:=this c (by simpa [signC] using h)
  exact absurd (hc.symm.trans this) by17
 unfold kindT
 rw [if_neg hm,if_neg hk,if_neg hg,if_pos hc]
theorem upP.gn {s:ByteArray} (h:upP s):GN s:=by
 obtain ⟨h1,c,r,hs,hc,hr⟩:=h
 have hl:r.length+1≤40:=by
  have:=bytesN_len s
  rw [hs] at this
  simp only [List.length_cons] at this
  omega
 refine ⟨Ys hs by17 (.inr hc) (fun d hd=>hr d (by simp [hd])) hl (kind_up hs hc),fun d hd=>?_⟩
 rw [hs] at hd
 have:=hr d hd
 have hn:∀ d,nameC d=true→d≠34∧d≠10∧d≠92∧d<128:=by
  intro d hd
  unfold nameC smallC greatC digitC at hd
  simp only [Bool.or_eq_true,Bool.and_eq_true,decide_eq_true_eq,beq_iff_eq] at hd
  omega
 exact hn d this
open Go.RowKit
theorem ret_int {k:IntKind} {a b:Int} (h:a=b):Ending.returned (.int k a)=.returned (.int k b):=by rw [h]
set_option maxHeartbeats 400000 in
theorem Wrap_c (n:Int) (w:World):Calls Tryz.prog 103 #[.int .i64 n] w fun e w'=>e=.returned (.int .i64 (W63 n))∧w=w':=by
 go_enter Tryz.func103,Tryz.ntmps103
 go_wp2
 go_ret
 exact ⟨ret_int (W63_shift n),Y⟩
set_option maxHeartbeats 400000 in
theorem Mod_c (n:Int) (w:World):Calls Tryz.prog 113 #[.int .i64 n] w fun e w'=>e=.returned (.int .u64 (R63 n))∧w=w':=by
 go_enter Tryz.func113,Tryz.ntmps113
 go_wp2
 go_ret
 exact ⟨ret_int (R63_u64 n),Y⟩
set_option maxHeartbeats 400000 in
theorem Mean_c (n:Int) (w:World) (h1:0≤n) (h2:n≤9223372036854775807):Calls Tryz.prog 112 #[.int .u64 n] w fun e w'=>e=.returned (.int .i64 (W63 n))∧w=w':=by
 go_enter Tryz.func112,Tryz.ntmps112
 go_wp2
 all_goals go_ret
 all_goals exact ⟨ret_int (by unfold W63;omega),rfl⟩
set_option maxHeartbeats 400000 in
theorem RWrap_c (n:Int) (w:World):Calls Tryz.prog 107 #[.int .i64 n] w fun e w'=>e=.returned (.int .i64 (W63 n))∧w=w':=by
 go_enter Tryz.func107,Tryz.ntmps107
 go_wp2_with (first|(go_at_call 113;refine (Mod_c _ _).mono ?_;rintro e w' ⟨rfl,rfl⟩)|(go_at_call 112;refine (Mean_c _ _ (R63_lo _) (R63_hi _)).mono ?_;rintro e w' ⟨rfl,rfl⟩))
 go_ret
 exact ⟨ret_int (W63_R63 n),Y⟩
set_option maxHeartbeats 400000 in
theorem RSub_c (a b:Int) (w:World):Calls Tryz.prog 110 #[.int .i64 a,.int .i64 b] w fun e w'=>e=.returned (.int .i64 (W63 (a - b)))∧w=w':=by
 have a1:=R63_lo a
 have a2:=R63_hi a
 have b1:=R63_lo b
 have b2:=R63_hi b
 go_enter Tryz.func110,Tryz.ntmps110
 go_wp2_with (first|(go_at_call 113;refine (Mod_c _ _).mono ?_;rintro e w' ⟨rfl,rfl⟩)|(go_at_call 112;refine (Mean_c _ _ by18 by18).mono ?_;rintro e w' ⟨rfl,rfl⟩))
 go_ret
 exact ⟨ret_int (W63_congr (by unfold R63;omega)),Y⟩
set_option maxHeartbeats 400000 in
theorem size_c (n:Int) (w:World) (h1 : -9223372036854775808≤n) (h2:n≤9223372036854775807):Calls Tryz.prog 109 #[.int .i64 n] w fun e w'=>e=.returned (.int .u64 (absI n))∧w=w':=by
 go_enter Tryz.func109,Tryz.ntmps109
 go_wp2
 all_goals go_ret
 all_goals exact ⟨ret_int (by unfold absI;omega),rfl⟩
set_option maxHeartbeats 400000 in
theorem Signed_c (u:Int) (neg:Bool) (w:World) (h1:0≤u) (h2:u≤9223372036854775807):Calls Tryz.prog 105 #[.int .u64 u,.bool neg] w fun e w'=>e=.returned (.int .i64 (W63 (sgn u neg)))∧w=w':=by
 cases neg with
 | true =>
  go_enter Tryz.func105,Tryz.ntmps105
  go_wp2_with (go_at_call 110;refine (RSub_c _ _ _).mono ?_;rintro e w' ⟨rfl,rfl⟩)
  go_ret
  exact ⟨ret_int (W63_congr (by simp [sgn];try omega)),Y⟩
 | false =>
  go_enter Tryz.func105,Tryz.ntmps105
  go_wp2_with (go_at_call 107;refine (RWrap_c _ _).mono ?_;rintro e w' ⟨rfl,rfl⟩)
  go_ret
  exact ⟨ret_int (W63_congr (by simp [sgn];try omega)),Y⟩
theorem sl20 (w:World) (B:Nat) (x:Int) (h0:0≤x) (h1:x<20) :
    (Instr.sliceAt 149 (.pointer (some ⟨B,0,none⟩)) (some (.int .i64 x)) none none).run Tryz.prog w=.ok (.slice (some ⟨B,x.toNat,none⟩) (20 - x.toNat) (20 - x.toNat)) w:=by
 have hl:Tryz.prog.arrayLen 149=20:=by kernel_rfl
 have hs:(sizeOf (Tryz.prog.elem 149)).run Tryz.prog w=.ok 1 w:=by kernel_rfl
 rw [run_sliceAt_array_l w 149 ⟨B,0,none⟩ (by kernel_rfl) .i64 x h0 (by rw [hl];omega),hs]
 simp only [Result.andThen,slicedAt,hl]
 rw [if_neg by18]
 simp [Addr.add]
 omega
set_option maxHeartbeats 400000 in
theorem Text_pos (n:Int) (w:World) (h:0≤W63 n):Calls Tryz.prog 85 #[.int .i64 n] w fun e w'=>e=.returned (.string (txt (W63 n)))∧Below w.heap.size w w':=by
 have h2:=W63_hi n
 generalize hz:W63 n=z at *
 have Hz:=Lib.hid hz
 clear hz
 obtain ⟨U,rfl⟩:=Int.eq_ofNat_of_zero_le h
 have hlt:¬ ((U:Int)<0):=by omega
 go_enter Tryz.func85,Tryz.ntmps85
 go_wp2_with (go_at_call 103;refine (Wrap_c _ _).mono ?_;rw [Hz.out];rintro e w' ⟨rfl,rfl⟩)
 go_loopw [4,5] (fun va vu wr=>∃ (C:Array Value) (a u:Nat) (acc:List Int),va=.int .i64 a∧vu=.int .u64 u∧TextAt U C a u acc∧wr=w.alloc (.cells C 149)) (fun va _ _=>(intOf va).toNat)
 case atStart=>exact ⟨_,20,U,[],rfl,rfl,TextAt.start rfl by18,rfl⟩
 case round =>
  obtain ⟨C,a,u,acc,rfl,rfl,hT,rfl⟩:=hrel
  have hT2:=hT.two
  have hThi:=hT.hi
  have hTle:=hT.le
  have hTs:=hT.size
  obtain ⟨v0,hv0⟩:∃ v,C[a - 1]?=some v:=⟨_,Array.getElem?_eq_getElem by18⟩
  have hsl:∀ w',_:=fun w'=>sl20 w' w.heap.size ((a:Int) - 1) by18 by18
  rw [show ((a:Int) - 1).toNat=a - 1 from by omega] at hsl
  have hcv:(convert 151 9 (.slice (some ⟨w.heap.size,a - 1,none⟩) (20 - (a - 1)) (20 - (a - 1)))).run Tryz.prog (w.alloc (.cells (C.setIfInBounds (a - 1) (.int .u8 (48+(u:Int) % 10))) 149))=_:=run_convert_bytes_arg _ 151 5 (by kernel_rfl) (by kernel_rfl) w.heap.size (a - 1) (20 - (a - 1)) (20 - (a - 1)) ((48+(u:Int) % 10)::acc) (by have:=hT.len;simp;omega) (fun i hi=>by
   have hc:=cells_put (x:=48+(u:Int) % 10) by18 by18 hT.cells i (by have:=hT.len;simp;omega)
   rw [World.cell?_alloc_at _ _ _ _ rfl];exact hc) 9 (by kernel_rfl)
  have HTs:=Lib.hid hTs
  clear hTs
  go_wp2
  ·go_ret
   have hu0:((u:Int) / 10 == 0)=true:=by assumption
   have hu1:u / 10=0:=by simp at hu0;omega
   refine ⟨?_,(Below.refl _ _).alloc (Nat.le_refl _) _⟩
   rw [txt_pos h (ds:=(48+(u:Int) % 10)::acc) (by rw [← hT.last hu1];rfl)];rfl
  have hu0:((u:Int) / 10 == 0)=false:=by assumption
  have hu1:u / 10≠0:=by intro hx;simp at hu0;omega
  go_roundw
  case rel=>exact ⟨_,a - 1,u / 10,_,by congr 1;omega,by congr 1,hT.step hu1,rfl⟩
  case measure=>simp [intOf];omega
set_option maxHeartbeats 400000 in
theorem Text_neg (n:Int) (w:World) (h:W63 n<0):Calls Tryz.prog 85 #[.int .i64 n] w fun e w'=>e=.returned (.string (txt (W63 n)))∧Below w.heap.size w w':=by
 have h2:=W63_lo n
 generalize hz:W63 n=z at *
 have Hz:=Lib.hid hz
 clear hz
 obtain ⟨U,rfl⟩:∃ U:Nat,z = -(U:Int):=⟨(-z).toNat,by omega⟩
 go_enter Tryz.func85,Tryz.ntmps85
 go_wp2_with (go_at_call 103;refine (Wrap_c _ _).mono ?_;rw [Hz.out];rintro e w' ⟨rfl,rfl⟩)
 go_loopw [4,5] (fun va vu wr=>∃ (C:Array Value) (a u:Nat) (acc:List Int),va=.int .i64 a∧vu=.int .u64 u∧TextAt U C a u acc∧wr=w.alloc (.cells C 149)) (fun va _ _=>(intOf va).toNat)
 case atStart=>exact ⟨_,20,U,[],rfl,by congr 1;simp only [IntKind.wrap_u64];omega,TextAt.start rfl by18,rfl⟩
 case round =>
  obtain ⟨C,a,u,acc,rfl,rfl,hT,rfl⟩:=hrel
  have hT2:=hT.two
  have hThi:=hT.hi
  have hTle:=hT.le
  have hTs:=hT.size
  obtain ⟨v0,hv0⟩:∃ v,C[a - 1]?=some v:=⟨_,Array.getElem?_eq_getElem by18⟩
  obtain ⟨v1,hv1⟩:∃ v,(C.setIfInBounds (a - 1) (.int .u8 (48+(u:Int) % 10)))[a - 1 - 1]?=some v:=⟨_,Array.getElem?_eq_getElem by15⟩
  have hsl:∀ w',_:=fun w'=>sl20 w' w.heap.size ((a:Int) - 1 - 1) by18 by18
  rw [show ((a:Int) - 1 - 1).toNat=a - 1 - 1 from by omega] at hsl
  have hcv:(convert 151 9 (.slice (some ⟨w.heap.size,a - 1 - 1,none⟩) (20 - (a - 1 - 1)) (20 - (a - 1 - 1)))).run Tryz.prog (w.alloc (.cells ((C.setIfInBounds (a - 1) (.int .u8 (48+(u:Int) % 10))).setIfInBounds (a - 1 - 1) (.int .u8 45)) 149))=_:=run_convert_bytes_arg _ 151 5 (by kernel_rfl) (by kernel_rfl) w.heap.size (a - 1 - 1) (20 - (a - 1 - 1)) (20 - (a - 1 - 1)) (45::(48+(u:Int) % 10)::acc) (by have:=hT.len;simp;omega) (fun i hi=>by
   have hc:=cells_put (x:=45) by15 by18 (cells_put (x:=48+(u:Int) % 10) by18 by18 hT.cells) i (by have:=hT.len;simp;omega)
   rw [World.cell?_alloc_at _ _ _ _ rfl];exact hc) 9 (by kernel_rfl)
  have HTs:=Lib.hid hTs
  clear hTs
  go_wp2
  ·go_ret
   have hu0:((u:Int) / 10 == 0)=true:=by assumption
   have hu1:u / 10=0:=by simp at hu0;omega
   refine ⟨?_,(Below.refl _ _).alloc (Nat.le_refl _) _⟩
   rw [txt_neg h (ds:=(48+(u:Int) % 10)::acc) (by rw [← hT.last hu1];congr 1;omega)];rfl
  have hu0:((u:Int) / 10 == 0)=false:=by assumption
  have hu1:u / 10≠0:=by intro hx;simp at hu0;omega
  go_roundw
  case rel=>exact ⟨_,a - 1,u / 10,_,by congr 1;omega,by congr 1,hT.step hu1,rfl⟩
  case measure=>simp [intOf];omega
theorem Text_c (n:Int) (w:World):Calls Tryz.prog 85 #[.int .i64 n] w fun e w'=>e=.returned (.string (txt (W63 n)))∧Below w.heap.size w w':=by
 rcases Int.lt_or_le (W63 n) 0 with h|h
 ·exact Text_neg n w h
 exact Text_pos n w h
theorem TextA_c (n:Int):PCall Tryz.prog 85 [.val (.int .i64 n)] (.val (.string (txt (W63 n)))) :=
 PCall.of_calls (vs:=[.int .i64 n]) (enters_of Tryz.func85 (by kernel_rfl) rfl) (fun w=>Text_c n w)
theorem digs_le:∀ (f u:Nat) (acc:List Int),(digs f u acc).length≤f+acc.length
 | 0,u,acc=>by simp [digs]
 | f+1,u,acc=>by
  rw [digs]
  split
  ·simp;omega
  have:=digs_le f (u / 10) ((48+(u:Int) % 10)::acc)
  simp at this ⊢
  omega
theorem txt_size (z:Int):(txt z).size≤21:=by
 unfold txt strOfNums
 split
 ·have:=digs_le 20 (-z).toNat []
  simp [ByteArray.size] at this ⊢
  omega
 have:=digs_le 20 z.toNat []
 simp [ByteArray.size] at this ⊢
 omega
end Go.Proofs.YtefbicnoddggnaaGreat
