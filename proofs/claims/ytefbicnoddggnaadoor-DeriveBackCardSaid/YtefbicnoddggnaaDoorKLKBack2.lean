/- Parts of a proof: short words; The frame of a law's row: if the call returns true and nothing below the heap's old size has turned, the row's post holds, whatever the arguments' types.; Arguments as trees: what a reading of an argument says, in the words of the logic; and how a law's call ends.; Arguments as trees, with bounds: no slice and no text is longer than L, and the whole is no greater than the bulk of the reading.; Arguments that are one cell.; More rules: a rune as a text; a part of a text; contracts of the model's own kind; bools that are known.; Types as plain data: a kind, a name, a number, and kids; their size, their sameness, and the count that the statements bound them by.; Types as plain data, on: what a type takes and answers, its parts in order, its variables and metas.; Types as plain data, on: types with others in places that are told.; Facts of the seat's types, one by one, by evaluation.; steps that stand often; Arguments of the layers' types, opened: types, texts, substitutions.; Patterns and expressions as plain data: their cells, their parts, their sameness but for places.; Names of patterns, free names of expressions, as plain functions.; How much an expression has, as cognatelaw05.Count counts it.; Declarations as plain data (printed by wip/gend.py).; The arguments of the statements of layer 18.; Plain arithmetic of 63-bit integers: what the functions of layer 1 compute, over Int, with no program in sight.; Plain arithmetic of words: what the functions of layer 2 compute.; Plain: bytes packed into words, eight a word, the first byte lowest.; Plain: words unpacked into bytes; when packing gives the words back.; the document's lexer as plain functions; the document's parser: the state and its small steps, as plain functions; Plain: the levels of operators.; the document's parser as plain functions; texts made of pieces with a blank between: what the lexer makes of them; derived expressions: their tokens, and what the parser makes of these; derived expressions, parsed; derived expressions, parsed whole; Plain: the digits of a number, as int63.Text lays them from the end of an array.; derived expressions: as trees of tokens, and as the document's text; the document's text of derived instances, and the expressions that it spells; the document's text of Ord and Show, and of a whole instance; derived expressions are fit to be parsed; the document's text of an instance, parsed; the numbers of arguments; names of constructors; the data types that the law asks of; Walks of layer 1: int63.Wrap, Fits, Add, Sub, Mul, Quo, Rem, Cmp and the reference's Mod, Mean, Wrap, Add, Sub, Mul, size, Signed, Quo.; int63.Text; Letter of the program; Bytes as a text.; The logic of trees, part 18: calls of what Go gives without a body; texts, greater.; The logic of trees, part 19: calls that turn one piece of the memory; a nil as a slice of the call's own.; The logic of trees, part 20: regions whose order is drawn, and in which a new variable is made at no told place: it may be made at any time.; words on memory that the texts on declarations share; cognateref05.Texts, SameType, SameTypes; cognatelaw08.ints; operations that are guarded, in a drawn region that writes; derive: makers of expressions; derive: patterns, pairs, the order of arguments; derive: the order of arguments; Eq's alternatives of one constructor; derive: one constructor's alternatives of Eq, Ord and Show; derive: Show's alternatives; the alternatives of all constructors; derive.Inst; the document's lexer: what bytes are; the document's lexer: over; the document's lexer: among, Key, Mark; Utf, bad; which data types the statements ask of -/
import Derived.Test.YtefbicnoddggnaaDoorKLKBack1
import Derived.ProofKit
import Derived.SizedLaws
import Derived.OpenShut
import Derived.ChangeArms
import Derived.Test.YtefbicnoddggnaaDoorRows
import Derived.Test.YtefbicnoddggnaaDoorProg
import Derived.RowKit
import Derived.Laws.Bits64
import Derived.Laws.BitsAllLaws
import Derived.Laws.BytesArg
import Derived.WideShapes
import Derived.WalkKit
import Derived.WalkSpells
import Derived.WalkLawsBesides
import Derived.Lib.Hide
import Derived.Lib.Bytealg
set_option maxRecDepth 100000
set_option maxHeartbeats 4000000
namespace Go.Proofs.YtefbicnoddggnaaDoor
open Go.RowKit
theorem O {α:Sort _} {a:α}:a=a:=rfl
abbrev Yg := @List.mem_of_getElem?
abbrev Yf := @Drops.nil
abbrev Ye := @Drops.skip
abbrev Yd := @Drops.keep
abbrev Yc := @Nat.le_of_ble_eq_true
abbrev Yb := @BoolQ.mk
abbrev Ya := @SLe.cons
abbrev Zz := @Les.cons
abbrev Zy := @Le.refl
abbrev Zx := @MLe.drop
abbrev Zw := @MLe.none
abbrev Zv := @MLe.refl
theorem by0 {p:Prop} (h:p:=by repeat' (first|exact MLe.refl _|refine MLe.loc _ (by repeat' (first|exact Le.refl _|exact Le.own _ _ _|exact Le.nil _|refine Le.agg ?_|refine Le.tup ?_|exact Les.refl _|refine Les.cons ?_ ?_|refine Le.seq ?_|exact Less.refl _|exact Less.nil|refine Less.cons ?_ rfl ?_)) ?_|refine MLe.drop _ ?_)):p:=h
theorem by1 {p:Prop} (h:p:=by repeat' (first|exact MLe.none _|refine MLe.loc _ (by repeat' (first|exact Le.refl _|exact Le.own _ _ _|exact Le.nil _|refine Le.agg ?_|refine Le.tup ?_|exact Les.refl _|refine Les.cons ?_ ?_|refine Le.seq ?_|exact Less.refl _|exact Less.nil|refine Less.cons ?_ rfl ?_)) ?_|refine MLe.drop _ ?_)):p:=h
theorem by2 {p:Prop} (h:p:=by repeat' (first|exact Le.refl _|exact Le.own _ _ _|exact Le.nil _|refine Le.agg ?_|refine Le.tup ?_|exact Les.refl _|refine Les.cons ?_ ?_|refine Le.seq ?_|exact Less.refl _|exact Less.nil|refine Less.cons ?_ rfl ?_)):p:=h
theorem by3 {p:Prop} (h:p:=by first|exact Les.refl _|(repeat' (first|exact Les.refl _|refine Les.cons ?_ ?_|exact Le.refl _|exact Le.own _ _ _|exact Le.nil _|refine Le.agg ?_))):p:=h
theorem by4 {p:Prop} (h:p:=by repeat' (first|exact Le.refl _|exact Le.own _ _ _|exact Le.nil _|refine Le.agg ?_|refine Le.tup ?_|exact Les.refl _|refine Les.cons ?_ ?_)):p:=h
theorem by5 {p:Prop} (h:p:=by first|exact MLe.none _|exact MLe.refl _|(repeat' (first|exact MLe.nil|exact MLe.refl _|refine MLe.cons _ ?_|refine MLe.drop _ ?_))):p:=h
theorem by6 {p:Prop} (h:p:=by repeat' (first|exact SLe.nil _|refine SLe.cons rfl ?_ ?_|exact Le.refl _|exact Le.own _ _ _|exact Le.nil _)):p:=h
theorem by7 {p:Prop} (h:p:=by repeat' (first|exact SLe.wo _ _|exact SLe.refl _|refine SLe.fresh rfl ?_)):p:=h
theorem by8 {p:Prop} (h:p:=by first|omega|(simp at *;omega)):p:=h
theorem by9 {p:Prop} (h:p:=by decide +kernel):p:=h
theorem by10 {p:Prop} (h:p:=by decide):p:=h
theorem by11 {p:Prop} (h:p:=by omega):p:=h
theorem by12 {p:Prop} (h:p:=by simp):p:=h
end Go.Proofs.YtefbicnoddggnaaDoor
namespace Go.Proofs.YtefbicnoddggnaaDoor
open Go.ChangeShapes Go.WideShapes Go.ChangeAt Go.RowKit
section
variable {H:Type} {enc:TypeId × Value→H} {P:Program}
theorem trodAll_below (hl:laidOutB P=true) {W W':World} (hb:Below W.heap.size W W') :
    ∀ {ts:List TypeId} {vs:List Value} {ds:List (DataW H)} {ps:List MemPlace},
     (∀ t∈ts,P.readableRec t=true∧t<P.types.size)→DataW.TrodAll enc P W 0 (fun _=>true) true ts vs ds ps →
     (∀ x∈ps,x.block<W.heap.size)→DataW.TrodAll enc P W' 0 (fun b=>decide (b<W.heap.size)) true ts vs ds ps
 | [],_,_,_,_,h,_=>by
  obtain ⟨rfl,rfl,rfl⟩:=trodAll_nil h
  exact trodAll_mk0
 | t::ts,_,_,_,hr,h,hlt=>by
  obtain ⟨v,vs,d,ds,p,q,rfl,rfl,rfl,h0,h1⟩:=trodAll_cons h
  exact trodAll_cons_mk (Below.trod hl (hr t by12).1 (hr t by12).2 h0 hb (fun x hx=>hlt x (by simp [hx])))
   (trodAll_below hl hb (fun t ht=>hr t (by simp [ht])) h1 (fun x hx=>hlt x (by simp [hx])))
theorem law_post {f:Func} {s:ChangeSpec} {W W':World} {args:Array Value} {ds gs:List (DataW H)} {before:List MemPlace} {tb:TypeId}
    (hl:laidOutB P=true) (hr:(f.params.toList.all fun t=>P.readableRec t && decide (t<P.types.size))=true)
    (hres:f.resultTypes=#[tb]) (htb:P.underlying tb=some .bool) (hvars:s.vars=[])
    (hs1:(s.fn H (ds++gs)).results=[.lit (.bool true)]) (hs2:(s.fn H (ds++gs)).args=ds) (hs3:(s.fn H (ds++gs)).vars=[])
    (hW:DataW.Whole enc P f.params.toList s.vars false W args.toList ds gs before) (hb:Below W.heap.size W W') :
    s.post enc P f false true false false W args (.bool true) W':=by
 have hW':=hW
 obtain ⟨p,q,hA,hV,rfl,hfz,hnd⟩:=hW
 have hr':∀ t∈f.params.toList,P.readableRec t=true∧t<P.types.size:=by
  intro t ht
  have:=List.all_eq_true.1 hr t ht
  simpa using this
 refine ⟨ds,gs,p++q,[],p,[],hW',?_,?_,?_,hb.frame _,fun h=>by cases h⟩
 ·rw [hs1,hres]
  exact trodAll_mk1 (shut_bool htb true)
 ·rw [hs2]
  exact trodAll_below hl hb hr' hA (fun x hx=>by simpa using hW'.lt x (by simp [hx]))
 rw [hs3,hvars]
 rfl
end
open Go.RowKit
def cellF (w:World):EH:=fun b i=>w.cell? ⟨b,i,none⟩
mutual
def ShapeC (P:Program):Nat→TypeId→List AV→Prop
 | 0,_,_=>False
 | n+1,t,cs=>match P.underlying t with
  | some .bool=>∃ b,cs=[.val (.bool b)]
  | some (.int k)=>∃ x,(k.min≤x∧x≤k.max)∧cs=[.val (.int k x)]
  | some .string=>∃ s:ByteArray,s.size≤maxLen∧cs=[.val (.string s)]
  | some (.slice e)=>∃ es,cs=[.seq (P.cellsOf e) es]∧es.length≤maxLen∧∀ x∈es,ShapeC P n e x
  | some (.struct fs)=>ShapeF P n fs.toList cs
  | _=>False
def ShapeF (P:Program):Nat→List Field→List AV→Prop
 | _,[],cs=>cs=[]
 | n,f::fs,cs=>∃ a b,cs=a++b∧ShapeC P n f.type a∧ShapeF P n fs b
end
def fsOk (P:Program) (S:List TypeId):Nat→List Field→Nat→Bool
 | k,[],n=>k == n
 | k,f::fs,n=>f.offset == k && S.contains f.type && fsOk P S (k+P.cellsOf f.type) fs n
def closedT (P:Program) (S:List TypeId):Bool:=S.all fun t=>match P.underlying t with
 | some .bool=>true
 | some (.int _)=>true
 | some .string=>true
 | some (.slice e)=>S.contains e && Nat.blt 0 (P.cellsOf e)
 | some (.struct fs)=>fsOk P S 0 fs.toList (P.cellsOf t)
 | _=>false
section
variable {H:Type} {enc:TypeId × Value→H} {P:Program} {w:World} {sp:Nat→Bool} {held:Bool}
theorem cells_get {a:Addr} {m:Nat} {ws:List Value} (h:w.cells? 0 a m=some ws):ws.length=m∧∀ j x,ws[j]?=some x→w.cell? (a.add j)=some x:=by
 unfold World.cells? at h
 rw [if_pos (Nat.zero_le _)] at h
 have hl:ws.length=m:=by simpa using mapM_some_length h
 refine ⟨hl,fun j x hx=>?_⟩
 have hj:j<m:=by
  rw [← hl]
  rcases Nat.lt_or_ge j ws.length with k|k
  ·exact k
  rw [List.getElem?_eq_none k] at hx;simp at hx
 have:=mapM_some_get h j j (by simp [hj])
 rw [this,hx]
theorem rows_of {fuel:Nat} {e:TypeId} {a:Addr} {m:Nat} {F:EH}:∀ n:Nat,(∀ i,i<n→∃ (ws:List Value) (es:List AV),w.cells? 0 (a.add (i * m)) m=some ws∧ShapeC P fuel e es∧Rels F es ws∧Ones ws) →
    ∃ (ess:List (List AV)) (vs:List Value),ess.length=n∧(∀ x∈ess,ShapeC P fuel e x∧x.length=m)∧Rels F ess.flatten vs∧Ones vs∧vs.length=n * m∧∀ j x,vs[j]?=some x→w.cell? (a.add j)=some x
 | 0,_=>⟨[],[],rfl,by simp,.nil,by intro v hv;simp at hv,by simp,by simp⟩
 | n+1,h=>by
  obtain ⟨ess,vs,h1,h2,h3,h4,h5,h6⟩:=rows_of n (fun i hi=>h i by11)
  obtain ⟨ws,es,k1,k2,k3,k4⟩:=h n by11
  obtain ⟨q1,q2⟩:=cells_get k1
  refine ⟨ess++[es],vs++ws,by simp [h1],fun x hx=>?_,by simpa using h3.app k3,fun v hv=>?_,by simp only [List.length_append,h5,q1,Nat.add_mul];omega,fun j x hx=>?_⟩
  ·rcases List.mem_append.1 hx with r|r
   ·exact h2 x r
   simp at r;subst r;exact ⟨k2,by rw [k3.len,q1]⟩
  ·rcases List.mem_append.1 hv with r|r
   ·exact h4 v r
   exact k4 v r
  rcases Nat.lt_or_ge j vs.length with r|r
  ·rw [List.getElem?_append_left r] at hx;exact h6 j x hx
  rw [List.getElem?_append_right r] at hx
  have:=q2 _ x hx
  have e1:(a.add (n * m)).add (j - vs.length)=a.add j:=by
   rw [h5] at r ⊢
   unfold Addr.add
   by_cases z1:n * m=0
   ·rw [if_pos z1]
    simp only [z1,Nat.sub_zero]
   rw [if_neg z1]
   have hj0:j≠0:=by omega
   rw [if_neg hj0]
   by_cases z2:j - n * m=0
   ·rw [if_pos z2]
    simp only [Addr.mk.injEq,true_and,and_true]
    omega
   rw [if_neg z2]
   simp only [Addr.mk.injEq,true_and,and_true]
   omega
  rwa [e1] at this
theorem open_shape {S:List TypeId} (hS:closedT P S=true):∀ (fuel:Nat) (t:TypeId) (vs:List Value) (x:DataW H × List MemPlace),t∈S→DataW.trod enc P w 0 sp held fuel t vs=some x →
    ∃ cs,ShapeC P fuel t cs∧Rels (cellF w) cs vs∧Ones vs:=by
 intro fuel
 induction fuel with
 | zero=>intro t vs x _ h;simp [DataW.trod] at h
 | succ n ih =>
  intro t vs x ht h
  have hc:=List.all_eq_true.1 hS t ht
  have hh:=h
  unfold DataW.trod at h
  unfold ShapeC
  cases hu:P.underlying t with
  | none=>rw [hu] at hc;simp at hc
  | some d =>
   rw [hu] at hc h
   cases d with
   | bool =>
    simp only at h
    split at h <;> first|(simp at h;done)|skip
    all_goals first|(rename_i b _;exact ⟨[.val (.bool b)],⟨b,rfl⟩,.cons (.val _) .nil,by intro v hv;simp at hv;subst hv;rfl⟩)|(simp_all;done)
   | int k =>
    simp only at h
    split at h <;> simp_all
    rename_i k' z _
    obtain ⟨⟨rfl,hwf⟩,_⟩:=h
    simp only [Lit.wf,Bool.and_eq_true,decide_eq_true_eq] at hwf
    exact ⟨_,⟨z,hwf,rfl⟩,.cons (.val _) .nil,by intro v hv;simp at hv;subst hv;rfl⟩
   | string =>
    simp only at h
    split at h <;> simp_all
    exact ⟨_,⟨_,h.1,rfl⟩,.cons (.val _) .nil,by intro v hv;simp at hv;subst hv;rfl⟩
   | slice e =>
    simp only [Bool.and_eq_true,List.contains_iff_mem,Nat.blt_eq] at hc
    obtain ⟨rfl,_⟩|⟨a,len,cap,elems,rest,n',hn,rfl,_,_,hlc,hcm,hel,hat,_⟩:=DataW.trod_slice hu hh
    ·exact ⟨[.seq (P.cellsOf e) []],⟨[],rfl,by simp,by simp⟩,.cons (.seq0 _ none 0 (fun _=>rfl)) .nil,by intro v hv;simp at hv;subst hv;rfl⟩
    obtain rfl:n=n':=by omega
    have hrows:∀ i,i<len→∃ ws es,w.cells? 0 (a.add (i * P.cellsOf e)) (P.cellsOf e)=some ws∧ShapeC P n e es∧Rels (cellF w) es ws∧Ones ws:=by
     intro i hi
     have h1:=hat i hi
     rw [List.getElem?_eq_getElem by11] at h1
     obtain ⟨ws,h2,h3⟩:=Option.bind_eq_some_iff.1 h1
     obtain ⟨es,h4,h5,h6⟩:=ih e ws _ hc.1 h3
     exact ⟨ws,es,h2,h4,h5,h6⟩
    obtain ⟨ess,vs',r1,r2,r3,r4,r5,r6⟩:=rows_of len hrows
    refine ⟨[.seq (P.cellsOf e) ess],⟨ess,rfl,by omega,fun x hx=>(r2 x hx).1⟩,.cons ?_ .nil,by intro v hv;simp at hv;subst hv;rfl⟩
    by_cases h0:len=0
    ·subst h0
     have:ess=[]:=List.eq_nil_of_length_eq_zero r1
     subst this
     exact .seq0 _ _ _ by12
    have hpos:0<vs'.length:=by rw [r5];exact Nat.mul_pos by11 hc.2
    have hsp:a.spot=none:=by
     have:=r6 0 vs'[0] (List.getElem?_eq_getElem hpos)
     have e0:a.add 0=a:=by simp [Addr.add]
     rw [e0] at this
     unfold World.cell? at this
     cases hs:a.spot with
     | none=>rfl
     | some q=>rw [hs] at this;simp at this;split at this <;> simp at this
    obtain ⟨b,off,spot⟩:=a
    simp only at hsp
    subst hsp
    subst r1
    refine .seq b off cap (fun x hx=>(r2 x hx).2) by11 (fun j x hx=>?_) r3 r4 by11
    have:=r6 j x hx
    rwa [addr_add0] at this
   | struct fs =>
    simp only at hc
    obtain ⟨xs,n',hn,_,hlen,hxl,hat⟩:=DataW.trod_struct hu hh
    obtain rfl:n=n':=by omega
    have hmem:∀ f∈fs.toList,∃ y,DataW.trod enc P w 0 sp held n f.type ((vs.drop f.offset).take (P.cellsOf f.type))=some y:=by
     intro f hf
     obtain ⟨i,hi,hie⟩:=List.mem_iff_getElem.1 hf
     have h1:=hat i f (by rw [← hie];simp at hi ⊢)
     rw [h1]
     simp at hi
     exact ⟨xs[i]'by11,List.getElem?_eq_getElem by11⟩
    have key:∀ (l:List Field) (k:Nat),(∀ f∈l,∃ y,DataW.trod enc P w 0 sp held n f.type ((vs.drop f.offset).take (P.cellsOf f.type))=some y)→fsOk P S k l (P.cellsOf t)=true →
        ∃ cs,ShapeF P n l cs∧Rels (cellF w) cs (vs.drop k)∧Ones (vs.drop k):=by
     intro l
     induction l with
     | nil =>
      intro k _ hk
      simp only [fsOk,beq_iff_eq] at hk
      refine ⟨[],by simp [ShapeF],?_,?_⟩
      ·rw [List.drop_eq_nil_of_le by11];exact .nil
      rw [List.drop_eq_nil_of_le by11];intro v hv;simp at hv
     | cons f l ihl =>
      intro k hf hk
      simp only [fsOk,Bool.and_eq_true,beq_iff_eq,List.contains_iff_mem] at hk
      obtain ⟨⟨rfl,hS1⟩,hk⟩:=hk
      obtain ⟨y,hy⟩:=hf f by12
      obtain ⟨c1,h1,h2,h3⟩:=ih f.type _ y hS1 hy
      obtain ⟨c2,h4,h5,h6⟩:=ihl (f.offset+P.cellsOf f.type) (fun g hg=>hf g (by simp [hg])) hk
      have e1:vs.drop f.offset=(vs.drop f.offset).take (P.cellsOf f.type)++vs.drop (f.offset+P.cellsOf f.type):=by
       rw [← List.drop_drop,List.take_append_drop]
      refine ⟨c1++c2,by rw [ShapeF];exact ⟨c1,c2,O,h1,h4⟩,by rw [e1];exact h2.app h5,?_⟩
      rw [e1]
      intro v hv
      rcases List.mem_append.1 hv with q|q
      ·exact h3 v q
      exact h6 v q
    obtain ⟨cs,k1,k2,k3⟩:=key fs.toList 0 hmem hc
    rw [List.drop_zero] at k2 k3
    exact ⟨cs,k1,k2,k3⟩
   | _=>simp at hc
theorem Inv.start (w:World):Inv w.heap.size (cellF w) [] w:=⟨Nat.le_refl _,fun _ _ _ h=>h,by simp,List.Pairwise.nil⟩
theorem open_one {S:List TypeId} (hS:closedT P S=true) {t:TypeId} {v:Value} {d:DataW H} {ps:List MemPlace} (ht:t∈S) (h:DataW.Trod enc P w 0 sp held t v d ps):∃ fuel cs,ShapeC P fuel t cs∧Rels (cellF w) cs v.cells.toList∧Ones v.cells.toList:=by
 obtain ⟨fuel,h⟩:=h
 obtain ⟨cs,h1,h2,h3⟩:=open_shape hS fuel t _ _ ht h
 exact ⟨fuel,cs,h1,h2,h3⟩
theorem rel_agg {F:EH} {v:Value} {cs:List AV} (hv:∃ a,v=.agg a) (h:Rels F cs v.cells.toList) (h1:Ones v.cells.toList):Rel F (.agg cs) v:=by
 obtain ⟨a,rfl⟩:=hv
 have:=Rel.agg h h1
 simpa [Value.cells] using this
end
mutual
def AV.bulk:AV→Nat
 | .val (.string s)=>s.size+1
 | .seq _ es=>bulkss es+1
 | _=>1
def bulks:List AV→Nat
 | []=>0
 | a::l=>a.bulk+bulks l
def bulkss:List (List AV)→Nat
 | []=>0
 | e::es=>bulks e+bulkss es
end
section
variable {H:Type} {enc:TypeId × Value→H} {P:Program} {w:World} {sp:Nat→Bool} {held:Bool} {L:Nat}
end
section
variable {P:Program} {L:Nat}
end
end Go.Proofs.YtefbicnoddggnaaDoor
namespace Go.Proofs.YtefbicnoddggnaaDoor
open Go.RowKit
section
variable {P:Program} {n:Nat} {al:Sl} {M:Mem} {o:Oper} {K:AV→Mem→Prop}
theorem BCall.yes {f:FuncId} {vs:List AV} {p:Prop} (h:BCall P f vs p) (hp:p):PCall P f vs (.val (.bool true)) :=
 h.mono (by rintro v M' ⟨⟨c,hc,rfl⟩,rfl⟩;exact ⟨by rw [hc.2 hp],rfl⟩)
theorem BCall.no {f:FuncId} {vs:List AV} {p:Prop} (h:BCall P f vs p) (hp:¬ p):PCall P f vs (.val (.bool false)) :=
 h.mono (by rintro v M' ⟨⟨c,hc,rfl⟩,rfl⟩;exact ⟨by cases c <;> simp_all,rfl⟩)
theorem Inv.kept {B:Nat} {F:EH} {M:Mem} {w w':World} (hi:Inv B F M w) (hb:Below w.heap.size w w'):Inv B F M w':=by
 refine ⟨Nat.le_trans hi.base hb.size,fun b i x h=>?_,fun r hr=>?_,hi.far⟩
 ·have h1:=hi.fix b i x h
  rw [hb.cell (p:=⟨b,i,none⟩) (cell_size h1)];exact h1
 exact (hi.ok r hr).stay (Ext.refl F) (fun b hbk=>⟨hb.block b ((hi.ok r hr).lt hbk),fun _=>O⟩)
theorem PCall.of_calls {f:FuncId} {vs:List Value} {r:Value} (he:Enters P f) (h:∀ w,Calls P f vs.toArray w fun e w'=>e=.returned r∧Below w.heap.size w w'):PCall P f (vs.map AV.val) (.val r):=by
 refine ⟨he,fun B F Mf w us hi hr=>?_⟩
 have e:us=vs:=by
  have key:∀ (vs us:List Value),Rels F (vs.map AV.val) us→us=vs:=by
   intro vs
   induction vs with
   | nil=>intro us h;cases h;rfl
   | cons v vs ih =>
    intro us h
    cases h with
    | cons h hs=>cases h;rw [ih _ hs]
  exact key vs us hr
 subst e
 refine (h w).mono ?_
 rintro e w' ⟨rfl,hb⟩
 exact ⟨r,.val r,[],F,O,⟨O,O⟩,.val r,Ext.refl F,hi.kept hb,hb.mono hi.base⟩
end
instance:DecidableEq ByteArray:=fun a b=>if h:a.toList=b.toList then isTrue (ba_eq h) else isFalse (fun e=>h (by rw [e]))
inductive Ty where
 | mk (k:Int) (s:ByteArray) (n:Int) (ks:List Ty)
def Ty.kind:Ty→Int|.mk k _ _ _=>k
def Ty.name:Ty→ByteArray|.mk _ s _ _=>s
def Ty.num:Ty→Int|.mk _ _ n _=>n
def Ty.kids:Ty→List Ty|.mk _ _ _ ks=>ks
mutual
def Ty.size:Ty→Nat
 | .mk _ _ _ ks=>1+Ty.sizes ks
def Ty.sizes:List Ty→Nat
 | []=>0
 | t::ts=>t.size+Ty.sizes ts
end
theorem Ty.size_mem {t:Ty}:∀ {ts:List Ty},t∈ts→t.size≤Ty.sizes ts
 | [],h=>by simp at h
 | u::ts,h=>by
  rw [Ty.sizes]
  rcases List.mem_cons.1 h with rfl|h
  ·omega
  have:=Ty.size_mem h;omega
theorem Ty.size_kid {t u:Ty} (h:u∈t.kids):u.size<t.size:=by
 obtain ⟨k,s,n,ks⟩:=t
 have:=Ty.size_mem (show u∈ks from h)
 rw [Ty.size];omega
mutual
def Ty.cells:Ty→List AV
 | .mk k s n ks=>[.val (.int .i64 k),.val (.string s),.val (.int .i64 n),.seq 4 (Ty.cellss ks)]
def Ty.cellss:List Ty→List (List AV)
 | []=>[]
 | t::ts=>t.cells::Ty.cellss ts
end
theorem Ty.cellss_map:∀ ts:List Ty,Ty.cellss ts=ts.map Ty.cells
 | []=>by simp [Ty.cellss]
 | t::ts=>by simp [Ty.cellss,Ty.cellss_map ts]
theorem Ty.cellss_len (ts:List Ty):(Ty.cellss ts).length=ts.length:=by rw [Ty.cellss_map];simp
theorem Ty.cellss_get {ts:List Ty} {i:Nat} {t:Ty} (h:ts[i]?=some t):(Ty.cellss ts)[i]?=some t.cells:=by rw [Ty.cellss_map];simp [h]
theorem Zm {α:Type} {l:List α} {i:Nat} (h:i<l.length):∃ x,l[i]?=some x:=⟨l[i],List.getElem?_eq_getElem h⟩
theorem drop_at {α:Type} {l:List α} {i:Nat} {x:α} (h:l[i]?=some x):l.drop i=x::l.drop (i+1):=by
 have hi:i<l.length:=by
  rcases Nat.lt_or_ge i l.length with k|k
  ·exact k
  rw [List.getElem?_eq_none k] at h;simp at h
 rw [List.drop_eq_getElem_cons hi]
 rw [List.getElem?_eq_getElem hi] at h
 simp at h
 rw [h]
mutual
def Ty.cnt:Ty→Int→Int
 | .mk k _ n ks,most=>if k=1∧(ks≠[]∨n≠0) then most else Ty.cnts ks 1 most
def Ty.cnts:List Ty→Int→Int→Int
 | [],n,_=>n
 | t::ts,n,most=>if n<most then Ty.cnts ts (n+t.cnt (most - n)) most else n
end
def Ty.small (t:Ty) (most:Int):Bool:=decide (t.cnt (most+1)≤most)
def strs (xs:List ByteArray):List (List AV):=xs.map fun s=>[.val (.string s)]
theorem Zq (xs:List ByteArray):(strs xs).length=xs.length:=by simp [strs]
theorem strs_get {xs:List ByteArray} {i:Nat} {s:ByteArray} (h:xs[i]?=some s):(strs xs)[i]?=some [.val (.string s)]:=by simp [strs,h]
theorem strs_app (a b:List ByteArray):strs (a++b)=strs a++strs b:=by simp [strs]
def Upto {α:Type} (xs ys:List α) (i:Nat):Prop:=∀ j,j<i→xs[j]?=ys[j]?
theorem Upto.zero {α:Type} (xs ys:List α):Upto xs ys 0:=fun j hj=>by omega
theorem Upto.succ {α:Type} {xs ys:List α} {i:Nat} {x y:α} (h:Upto xs ys i) (hx:xs[i]?=some x) (hy:ys[i]?=some y) (e:x=y):Upto xs ys (i+1):=fun j hj=>by
 by_cases q:j=i
 ·subst q;rw [hx,hy,e]
 exact h j by11
theorem Upto.eq {α:Type} {xs ys:List α} {i:Nat} (h:Upto xs ys i) (hl:xs.length=ys.length) (hi:xs.length≤i):xs=ys:=by
 apply List.ext_getElem?
 intro j
 rcases Nat.lt_or_ge j xs.length with k|k
 ·exact h j by11
 rw [List.getElem?_eq_none k,List.getElem?_eq_none by11]
end Go.Proofs.YtefbicnoddggnaaDoor
namespace Go.Proofs.YtefbicnoddggnaaDoor
abbrev arrow:ByteArray:=⟨#[45,62]⟩
def Ty.args:Ty→List Ty
 | .mk k s _ [a,b]=>if k=3∧s=arrow then a::b.args else []
 | _=>[]
termination_by t=>t.size
decreasing_by simp [Ty.size,Ty.sizes];omega
mutual
def Ty.all:Ty→List Ty
 | .mk k s n ks=>.mk k s n ks::Ty.alls ks
def Ty.alls:List Ty→List Ty
 | []=>[]
 | t::ts=>t.all++Ty.alls ts
end
theorem Ty.sizes_app:∀ a b:List Ty,Ty.sizes (a++b)=Ty.sizes a+Ty.sizes b
 | [],b=>by simp [Ty.sizes]
 | t::ts,b=>by simp [Ty.sizes,Ty.sizes_app ts b];omega
theorem Ty.sizes_take (ks:List Ty) (i:Nat):Ty.sizes (ks.take i)≤Ty.sizes ks:=by
 have:=Ty.sizes_app (ks.take i) (ks.drop i)
 rw [List.take_append_drop] at this
 omega
theorem take_snoc {α:Type} {l:List α} {i:Nat} {x:α} (h:l[i]?=some x):l.take (i+1)=l.take i++[x]:=by
 have hi:i<l.length:=by
  rcases Nat.lt_or_ge i l.length with k|k
  ·exact k
  rw [List.getElem?_eq_none k] at h;simp at h
 rw [List.getElem?_eq_getElem hi] at h
 simp at h
 rw [List.take_succ_eq_append_getElem hi,h]
noncomputable instance (a:ByteArray) (l:List ByteArray):Decidable (a∈l):=Classical.propDecidable _
noncomputable def addVar (acc:List ByteArray) (t:Ty):List ByteArray:=if t.kind=1∧t.name∉acc then acc++[t.name] else acc
def addMeta (acc:List Int) (t:Ty):List Int:=if t.kind=2∧t.num∉acc then acc++[t.num] else acc
noncomputable def Ty.vars (t:Ty):List ByteArray:=t.all.foldl addVar []
def Ty.metas (t:Ty):List Int:=t.all.foldl addMeta []
mutual
def Ty.turn (o:Ty→Option Ty):Ty→Ty
 | .mk k s n ks=>match o (.mk k s n ks) with
  | some y=>y
  | none=>.mk k s n (Ty.turns o ks)
def Ty.turns (o:Ty→Option Ty):List Ty→List Ty
 | []=>[]
 | t::ts=>t.turn o::Ty.turns o ts
end
def firstAt {α:Type} [DecidableEq α] (x:α):List α→Nat→Int
 | [],_ => -1
 | y::ys,i=>if x=y then i else firstAt x ys (i+1)
theorem firstAt_drop {α:Type} [DecidableEq α] (x:α):∀ (xs:List α) (i:Nat),x∉xs.take i→firstAt x (xs.drop i) i=firstAt x xs 0:=by
 have key:∀ (xs:List α) (i k:Nat),x∉xs.take i→firstAt x xs k=firstAt x (xs.drop i) (k+i):=by
  intro xs
  induction xs with
  | nil=>intro i k _;simp [firstAt]
  | cons y ys ih =>
   intro i k h
   cases i with
   | zero=>simp
   | succ i =>
    simp only [List.take_succ_cons,List.mem_cons,not_or] at h
    rw [firstAt,if_neg h.1,List.drop_succ_cons,ih i (k+1) h.2]
    congr 1;omega
 intro xs i h
 have:=key xs i 0 h
 rw [this];congr 1;omega
theorem firstAt_nonneg {α:Type} [DecidableEq α] (x:α):∀ (xs:List α) (k:Nat),0≤firstAt x xs k↔x∈xs
 | [],k=>by simp [firstAt]
 | y::ys,k=>by
  rw [firstAt]
  by_cases e:x=y
  ·simp [e]
  rw [if_neg e,firstAt_nonneg x ys (k+1)];simp [e]
theorem not_mem_take {α:Type} {xs:List α} {i:Nat} {x y:α} (h:x∉xs.take i) (hx:xs[i]?=some y) (e:¬ y=x):x∉xs.take (i+1):=by
 rw [take_snoc hx,List.mem_append]
 rintro (q|q)
 ·exact h q
 simp at q;exact e q.symm
theorem tmix:Tryd.prog.follows .mixedOrders=true:=by kernel_rfl
theorem ts_1:(Tryd.prog.info? 1).map (·.size)=some 1:=by kernel_rfl
theorem tz_1:tyZero Tryd.prog 1=some .nilFunc:=by kernel_rfl
theorem ta_3:tyAgg Tryd.prog 3=some none:=by kernel_rfl
theorem ts_3:(Tryd.prog.info? 3).map (·.size)=some 1:=by kernel_rfl
theorem tu_3:Tryd.prog.underlying 3=some (.int .i64):=by kernel_rfl
theorem tu_4:Tryd.prog.underlying 4=some (.bool):=by kernel_rfl
theorem tu_5:Tryd.prog.underlying 5=some (.int .u8):=by kernel_rfl
theorem ts_9:(Tryd.prog.info? 9).map (·.size)=some 1:=by kernel_rfl
theorem tu_9:Tryd.prog.underlying 9=some (.string):=by kernel_rfl
theorem ta_22:tyAgg Tryd.prog 22=some none:=by kernel_rfl
theorem ts_22:(Tryd.prog.info? 22).map (·.size)=some 1:=by kernel_rfl
theorem te_22:tyElem Tryd.prog 22=some (9,1):=by kernel_rfl
theorem el_22:ElT Tryd.prog 22 9 (.string ⟨#[]⟩) 1 16:=⟨by kernel_rfl,by kernel_rfl,rfl,by decide,by decide⟩
theorem tu_22:Tryd.prog.underlying 22=some (.slice 9):=by kernel_rfl
theorem te_23:tyElem Tryd.prog 23=some (47,3):=by kernel_rfl
theorem el_23:ElT Tryd.prog 23 47 (.agg #[(.string ⟨#[]⟩),(.slice none 0 0),(.int .i64 0)]) 3 48:=⟨by kernel_rfl,by kernel_rfl,rfl,by decide,by decide⟩
theorem tu_23:Tryd.prog.underlying 23=some (.slice 47):=by kernel_rfl
theorem ta_25:tyAgg Tryd.prog 25=some (some 5):=by kernel_rfl
theorem tz_25:tyZero Tryd.prog 25=some (.agg #[(.string ⟨#[]⟩),(.slice none 0 0),(.slice none 0 0),(.slice none 0 0),(.int .i64 0)]):=by kernel_rfl
theorem tfl_25:tyFlds Tryd.prog 25=some [(0,1),(1,1),(2,1),(3,1),(4,1)]:=by kernel_rfl
theorem ta_28:tyAgg Tryd.prog 28=some none:=by kernel_rfl
theorem ts_28:(Tryd.prog.info? 28).map (·.size)=some 1:=by kernel_rfl
theorem te_28:tyElem Tryd.prog 28=some (30,4):=by kernel_rfl
theorem el_28:ElT Tryd.prog 28 30 (.agg #[(.int .i64 0),(.string ⟨#[]⟩),(.int .i64 0),(.slice none 0 0)]) 4 56:=⟨by kernel_rfl,by kernel_rfl,rfl,by decide,by decide⟩
theorem tu_28:Tryd.prog.underlying 28=some (.slice 30):=by kernel_rfl
theorem ta_30:tyAgg Tryd.prog 30=some (some 4):=by kernel_rfl
theorem ts_30:(Tryd.prog.info? 30).map (·.size)=some 4:=by kernel_rfl
theorem tz_30:tyZero Tryd.prog 30=some (.agg #[(.int .i64 0),(.string ⟨#[]⟩),(.int .i64 0),(.slice none 0 0)]):=by kernel_rfl
theorem tfl_30:tyFlds Tryd.prog 30=some [(0,1),(1,1),(2,1),(3,1)]:=by kernel_rfl
theorem ts_31:(Tryd.prog.info? 31).map (·.size)=some 1:=by kernel_rfl
theorem el_31:ElT Tryd.prog 31 59 (.agg #[(.string ⟨#[]⟩),(.int .i64 0),(.string ⟨#[]⟩),(.int .i64 0),(.slice none 0 0)]) 5 72:=⟨by kernel_rfl,by kernel_rfl,rfl,by decide,by decide⟩
theorem tu_31:Tryd.prog.underlying 31=some (.slice 59):=by kernel_rfl
theorem te_32:tyElem Tryd.prog 32=some (43,13):=by kernel_rfl
theorem el_32:ElT Tryd.prog 32 43 (.agg #[(.string ⟨#[]⟩),(.int .i64 0),(.string ⟨#[]⟩),(.int .i64 0),(.int .i64 0),(.string ⟨#[]⟩),(.int .i64 0),(.slice none 0 0),(.slice none 0 0),(.slice none 0 0),(.slice none 0 0),(.int .i64 0),(.int .i64 0)]) 13 192:=⟨by kernel_rfl,by kernel_rfl,rfl,by decide,by decide⟩
theorem tu_32:Tryd.prog.underlying 32=some (.slice 43):=by kernel_rfl
theorem ta_34:tyAgg Tryd.prog 34=some (some 8):=by kernel_rfl
theorem ts_34:(Tryd.prog.info? 34).map (·.size)=some 8:=by kernel_rfl
theorem tz_34:tyZero Tryd.prog 34=some (.agg #[(.string ⟨#[]⟩),(.int .i64 0),(.string ⟨#[]⟩),(.int .i64 0),(.slice none 0 0),(.slice none 0 0),(.slice none 0 0),(.int .i64 0)]):=by kernel_rfl
theorem tfl_34:tyFlds Tryd.prog 34=some [(0,1),(1,4),(5,1),(6,1),(7,1)]:=by kernel_rfl
theorem te_38:tyElem Tryd.prog 38=some (41,11):=by kernel_rfl
theorem el_38:ElT Tryd.prog 38 41 (.agg #[(.int .i64 0),(.string ⟨#[]⟩),(.int .i64 0),(.int .i64 0),(.string ⟨#[]⟩),(.int .i64 0),(.slice none 0 0),(.slice none 0 0),(.slice none 0 0),(.slice none 0 0),(.int .i64 0)]) 11 168:=⟨by kernel_rfl,by kernel_rfl,rfl,by decide,by decide⟩
theorem tu_38:Tryd.prog.underlying 38=some (.slice 41):=by kernel_rfl
theorem te_39:tyElem Tryd.prog 39=some (52,16):=by kernel_rfl
theorem el_39:ElT Tryd.prog 39 52 (.agg #[(.int .i64 0),(.string ⟨#[]⟩),(.int .i64 0),(.slice none 0 0),(.int .i64 0),(.int .i64 0),(.string ⟨#[]⟩),(.int .i64 0),(.int .i64 0),(.string ⟨#[]⟩),(.int .i64 0),(.slice none 0 0),(.slice none 0 0),(.slice none 0 0),(.slice none 0 0),(.int .i64 0)]) 16 232:=⟨by kernel_rfl,by kernel_rfl,rfl,by decide,by decide⟩
theorem tu_39:Tryd.prog.underlying 39=some (.slice 52):=by kernel_rfl
theorem ta_41:tyAgg Tryd.prog 41=some (some 11):=by kernel_rfl
theorem ts_41:(Tryd.prog.info? 41).map (·.size)=some 11:=by kernel_rfl
theorem tz_41:tyZero Tryd.prog 41=some (.agg #[(.int .i64 0),(.string ⟨#[]⟩),(.int .i64 0),(.int .i64 0),(.string ⟨#[]⟩),(.int .i64 0),(.slice none 0 0),(.slice none 0 0),(.slice none 0 0),(.slice none 0 0),(.int .i64 0)]):=by kernel_rfl
theorem tf_41_0:tyFld Tryd.prog 41 0=some 0:=by kernel_rfl
theorem tfl_41:tyFlds Tryd.prog 41=some [(0,1),(1,1),(2,1),(3,4),(7,1),(8,1),(9,1),(10,1)]:=by kernel_rfl
theorem ta_43:tyAgg Tryd.prog 43=some (some 13):=by kernel_rfl
theorem ts_43:(Tryd.prog.info? 43).map (·.size)=some 13:=by kernel_rfl
theorem tz_43:tyZero Tryd.prog 43=some (.agg #[(.string ⟨#[]⟩),(.int .i64 0),(.string ⟨#[]⟩),(.int .i64 0),(.int .i64 0),(.string ⟨#[]⟩),(.int .i64 0),(.slice none 0 0),(.slice none 0 0),(.slice none 0 0),(.slice none 0 0),(.int .i64 0),(.int .i64 0)]):=by kernel_rfl
theorem tfl_43:tyFlds Tryd.prog 43=some [(0,1),(1,11),(12,1)]:=by kernel_rfl
theorem ta_47:tyAgg Tryd.prog 47=some (some 3):=by kernel_rfl
theorem ts_47:(Tryd.prog.info? 47).map (·.size)=some 3:=by kernel_rfl
theorem tz_47:tyZero Tryd.prog 47=some (.agg #[(.string ⟨#[]⟩),(.slice none 0 0),(.int .i64 0)]):=by kernel_rfl
theorem tfl_47:tyFlds Tryd.prog 47=some [(0,1),(1,1),(2,1)]:=by kernel_rfl
theorem ts_48:(Tryd.prog.info? 48).map (·.size)=some 1:=by kernel_rfl
theorem te_48:tyElem Tryd.prog 48=some (50,5):=by kernel_rfl
theorem el_48:ElT Tryd.prog 48 50 (.agg #[(.int .i64 0),(.string ⟨#[]⟩),(.int .i64 0),(.slice none 0 0),(.int .i64 0)]) 5 64:=⟨by kernel_rfl,by kernel_rfl,rfl,by decide,by decide⟩
theorem tu_48:Tryd.prog.underlying 48=some (.slice 50):=by kernel_rfl
theorem ta_50:tyAgg Tryd.prog 50=some (some 5):=by kernel_rfl
theorem ts_50:(Tryd.prog.info? 50).map (·.size)=some 5:=by kernel_rfl
theorem tz_50:tyZero Tryd.prog 50=some (.agg #[(.int .i64 0),(.string ⟨#[]⟩),(.int .i64 0),(.slice none 0 0),(.int .i64 0)]):=by kernel_rfl
theorem tfl_50:tyFlds Tryd.prog 50=some [(0,1),(1,1),(2,1),(3,1),(4,1)]:=by kernel_rfl
theorem ta_52:tyAgg Tryd.prog 52=some (some 16):=by kernel_rfl
theorem ts_52:(Tryd.prog.info? 52).map (·.size)=some 16:=by kernel_rfl
theorem tz_52:tyZero Tryd.prog 52=some (.agg #[(.int .i64 0),(.string ⟨#[]⟩),(.int .i64 0),(.slice none 0 0),(.int .i64 0),(.int .i64 0),(.string ⟨#[]⟩),(.int .i64 0),(.int .i64 0),(.string ⟨#[]⟩),(.int .i64 0),(.slice none 0 0),(.slice none 0 0),(.slice none 0 0),(.slice none 0 0),(.int .i64 0)]):=by kernel_rfl
theorem tfl_52:tyFlds Tryd.prog 52=some [(0,5),(5,11)]:=by kernel_rfl
theorem ta_54:tyAgg Tryd.prog 54=some (some 6):=by kernel_rfl
theorem ts_54:(Tryd.prog.info? 54).map (·.size)=some 6:=by kernel_rfl
theorem tz_54:tyZero Tryd.prog 54=some (.agg #[(.string ⟨#[]⟩),(.slice none 0 0),(.slice none 0 0),(.slice none 0 0),(.int .i64 0),(.int .i64 0)]):=by kernel_rfl
theorem tfl_54:tyFlds Tryd.prog 54=some [(0,5),(5,1)]:=by kernel_rfl
theorem tz_59:tyZero Tryd.prog 59=some (.agg #[(.string ⟨#[]⟩),(.int .i64 0),(.string ⟨#[]⟩),(.int .i64 0),(.slice none 0 0)]):=by kernel_rfl
theorem tfl_59:tyFlds Tryd.prog 59=some [(0,1),(1,4)]:=by kernel_rfl
theorem tu_60:Tryd.prog.underlying 60=some (.array 13 3):=by kernel_rfl
theorem tz_66:tyZero Tryd.prog 66=some (.agg #[(.slice none 0 0),(.slice none 0 0)]):=by kernel_rfl
theorem tf_66_0:tyFld Tryd.prog 66 0=some 0:=by kernel_rfl
theorem tf_66_1:tyFld Tryd.prog 66 1=some 1:=by kernel_rfl
theorem tfl_66:tyFlds Tryd.prog 66=some [(0,1),(1,1)]:=by kernel_rfl
open Go.RowKit
def rg (l:List (Nat × Nat)):List Nat:=l.flatMap fun p=>List.range' p.1 p.2
def lkf:List (Nat × Nat × Nat)→Nat→Nat→Option Nat
 | [],_,_=>none
 |(a,b,c)::l,t,f=>bif Nat.beq a t && Nat.beq b f then some c else lkf l t f
def lkm:List Nat→Nat→Bool
 | [],_=>false
 | a::l,t=>Nat.beq a t || lkm l t
def tfL:List (Nat × Nat × Nat):=[(25,0,0),(25,1,1),(25,2,2),(25,3,3),(25,4,4),(30,0,0),(30,1,1),(30,2,2),(30,3,3),(34,0,0),(34,1,1),(34,2,5),(34,3,6),(41,0,0),(41,1,1),(41,2,2),(41,3,3),(41,4,7),(41,5,8),(41,6,9),(43,0,0),(43,1,1),(47,0,0),(47,1,1),(50,0,0),(50,1,1),(50,2,2),(50,3,3),(52,0,0),(52,1,5),(54,0,0),(54,1,5),(66,0,0),(66,1,1)]
def taL:List Nat:=[1,2,3,9,22,23,28,31,32,38,39,48,64]
theorem lkf_ok {t f c:Nat}:∀ l:List (Nat × Nat × Nat),(l.all fun e=>tyFld Tryd.prog e.1 e.2.1 == some e.2.2)=true→lkf l t f=some c→tyFld Tryd.prog t f=some c
 | [],_,h=>by simp [lkf] at h
 |(a,b,d)::l,hl,h=>by
  rw [List.all_cons,Bool.and_eq_true] at hl
  rw [lkf] at h
  cases q:(Nat.beq a t && Nat.beq b f) with
  | true =>
   rw [q] at h
   rw [Bool.and_eq_true] at q
   have h1:=Nat.eq_of_beq_eq_true q.1
   have h2:=Nat.eq_of_beq_eq_true q.2
   subst h1 h2
   have h3:d=c:=by simpa using h
   subst h3
   simpa using hl.1
  | false=>rw [q] at h;exact lkf_ok l hl.2 h
theorem lkm_ok {t:Nat}:∀ l:List Nat,(l.all fun e=>tyAgg Tryd.prog e == some none)=true→lkm l t=true→tyAgg Tryd.prog t=some none
 | [],_,h=>by simp [lkm] at h
 | a::l,hl,h=>by
  rw [List.all_cons,Bool.and_eq_true] at hl
  rw [lkm,Bool.or_eq_true] at h
  rcases h with h|h
  ·have h1:=Nat.eq_of_beq_eq_true h
   subst h1
   simpa using hl.1
  exact lkm_ok l hl.2 h
theorem tfL_ok:(tfL.all fun e=>tyFld Tryd.prog e.1 e.2.1 == some e.2.2)=true:=by kernel_rfl
theorem taL_ok:(taL.all fun e=>tyAgg Tryd.prog e == some none)=true:=by kernel_rfl
section
variable {al:Sl} {M:Mem} {K:AV→Mem→Prop} {o:Oper}
theorem op_fam {x:Operand} {t f b off fo:Nat} (ho:o.op=.fieldAddr t x f) (ht:lkf tfL t f=some fo) (hx:al.ev x=some (.ptr b off)) (q:K (.ptr b (off+fo)) M):OpT Tryd.prog o al M K:=op_fieldAddr_m ho (lkf_ok tfL tfL_ok ht) hx q
theorem op_fac {x:Operand} {t f fo:Nat} {cs cs':List AV} (ho:o.op=.fieldAddr t x f) (ht:lkf tfL t f=some fo) (hx:al.ev x=some (.cptr cs)) (hc:cs.drop fo=cs') (q:K (.cptr cs') M):OpT Tryd.prog o al M K:=op_fieldAddr_c ho (lkf_ok tfL tfL_ok ht) hx hc q
theorem op_lc1 {x:Operand} {t:Nat} {c:AV} {cs:List AV} (ho:o.op=.load t x) (ht:lkm taL t=true) (hx:al.ev x=some (.cptr cs)) (hc:cs[0]?=some c) (q:K c M):OpT Tryd.prog o al M K:=op_load_c1 ho (lkm_ok taL taL_ok ht) hx hc q
theorem op_lm1 {x:Operand} {t b off i:Nat} {c:AV} {cs:List AV} (ho:o.op=.load t x) (ht:lkm taL t=true) (hx:al.ev x=some (.ptr b off)) (hm:M[i]?=some (.loc b cs)) (hc:cs[off]?=some c) (q:K c M):OpT Tryd.prog o al M K:=op_load_m1 ho (lkm_ok taL taL_ok ht) hx hm hc q
end
structure Wr (q:Prop):Prop where
 out:q
section
variable {p q:Prop}
theorem Qe (k:q) (h:Wr q→p:=by intro k;refine go_code ?_;exact k.1):p:=h ⟨k⟩
theorem Qp (k:q) (h:Wr q→p:=by intro k;refine c_seq ?_;exact k.1):p:=h ⟨k⟩
theorem QL (k:q) (h:Wr q→p:=by intro k;refine AOps.gf _ rfl rfl rfl rfl rfl ?_;exact k.1):p:=h ⟨k⟩
theorem Qs (k:q) (h:Wr q→p:=by intro k;refine AOps.nil ?_;exact k.1):p:=h ⟨k⟩
theorem Qc (k:q) (h:Wr q→p:=by intro k;refine c_region ?_;exact k.1):p:=h ⟨k⟩
theorem Qa (k:q) (h:Wr q→p:=by intro k;refine Zb _ rfl rfl rfl (op_move rfl rfl ?_);exact k.1):p:=h ⟨k⟩
theorem Qab (k:q) (h:Wr q→p:=by intro k;refine Zb _ rfl rfl rfl (op_assign rfl rfl ?_);exact k.1):p:=h ⟨k⟩
theorem Qbd (k:q) (h:Wr q→p:=by intro k;refine Zb _ rfl rfl rfl (op_pick rfl rfl rfl ?_);exact k.1):p:=h ⟨k⟩
theorem Qy (k:q) (h:Wr q→p:=by intro k;refine Zb _ rfl rfl rfl (op_lc1 rfl rfl rfl rfl ?_);exact k.1):p:=h ⟨k⟩
theorem QI (k:q) (h:Wr q→p:=by intro k;refine c_cond_f rfl ?_;exact k.1):p:=h ⟨k⟩
theorem Qar (k:q) (h:Wr q→p:=by intro k;refine Zb _ rfl rfl rfl (op_fac rfl rfl rfl rfl ?_);exact k.1):p:=h ⟨k⟩
theorem Qm (k:q) (h:Wr q→p:=by intro k;refine c_cond_t rfl ?_;exact k.1):p:=h ⟨k⟩
theorem QH (k:q) (h:Wr q→p:=by intro k;refine c_block ?_;exact k.1):p:=h ⟨k⟩
theorem Qu (k:q) (h:Wr q→p:=by intro k;refine c_start ?_;exact k.1):p:=h ⟨k⟩
theorem QP (k:q) (h:Wr q→p:=by intro k;refine DOps.gf _ rfl rfl rfl rfl ?_;exact k.1):p:=h ⟨k⟩
theorem Q0 (k:q) (h:Wr q→p:=by intro k;refine go_blk ?_;exact k.1):p:=h ⟨k⟩
theorem Qf (k:q) (h:Wr q→p:=by intro k;refine Zh _ rfl rfl rfl rfl rfl (op_move rfl rfl ?_);exact k.1):p:=h ⟨k⟩
theorem QaH (k:q) (h:Wr q→p:=by intro k;refine Zh _ rfl rfl rfl rfl rfl (op_fac rfl rfl rfl rfl ?_);exact k.1):p:=h ⟨k⟩
theorem Qi (k:q) (h:Wr q→p:=by intro k;refine Zb _ rfl rfl rfl (op_eql rfl rfl rfl ?_);exact k.1):p:=h ⟨k⟩
theorem Qbe (k:q) (h:Wr q→p:=by intro k;refine AOps.gu _ rfl rfl rfl rfl rfl ?_;exact k.1):p:=h ⟨k⟩
theorem QaD (k:q) (h:Wr q→p:=by intro k;refine Zb _ rfl rfl rfl (op_add rfl rfl rfl (IntWalk.i64_in _ by11) ?_);exact k.1):p:=h ⟨k⟩
theorem QA (k:q) (h:Wr q→p:=by intro k;refine Zb _ rfl rfl rfl (op_lss rfl rfl rfl ?_);exact k.1):p:=h ⟨k⟩
theorem QM (k:q) (h:Wr q→p:=by intro k;refine Ze _ (none) rfl rfl rfl rfl rfl (op_load_c (cs':=[_,_,_,_,_,_]) rfl ta_54 rfl rfl rfl ⟨rfl,rfl⟩) ?_;exact k.1):p:=h ⟨k⟩
theorem QF (k:q) (h:Wr q→p:=by intro k;refine Zb _ rfl rfl rfl (op_fam rfl rfl rfl ?_);exact k.1):p:=h ⟨k⟩
theorem Qx (k:q) (h:Wr q→p:=by intro k;refine Zh _ rfl rfl rfl rfl rfl (op_pick rfl rfl rfl ?_);exact k.1):p:=h ⟨k⟩
theorem Q1 (k:q) (h:Wr q→p:=by intro k;refine Zb _ rfl rfl rfl (op_alloce (cs':=[_,_,_,_,_,_,_,_,_,_,_]) rfl tz_41 rfl rfl ?_);exact k.1):p:=h ⟨k⟩
theorem QB (k:q) (h:Wr q→p:=by intro k;refine Ze _ (none) rfl rfl rfl rfl rfl (op_move rfl rfl ⟨rfl,rfl⟩) ?_;exact k.1):p:=h ⟨k⟩
theorem QR (k:q) (h:Wr q→p:=by intro k;refine Zs rfl rfl (Zk (cs':=[_,_,_,_,_,_,_,_,_,_,_]) (i:=0) rfl ts_41 rfl rfl rfl rfl rfl (Yc rfl) rfl ?_);exact k.1):p:=h ⟨k⟩
theorem QS (k:q) (h:Wr q→p:=by intro k;refine Zh _ rfl rfl rfl rfl rfl (op_eql rfl rfl rfl ?_);exact k.1):p:=h ⟨k⟩
theorem QaI (k:q) (h:Wr q→p:=by intro k;refine Zb _ rfl rfl rfl (op_boxc (cs':=[_,_,_,_,_,_]) rfl rfl rfl rfl ?_);exact k.1):p:=h ⟨k⟩
theorem QU (k:q) (h:Wr q→p:=by intro k;refine Zb _ rfl rfl rfl (op_sub rfl rfl rfl (IntWalk.i64_in _ by11) ?_);exact k.1):p:=h ⟨k⟩
theorem QV (k:q) (h:Wr q→p:=by intro k;refine Zb _ rfl rfl rfl (op_notc rfl rfl ?_);exact k.1):p:=h ⟨k⟩
theorem Q2 (k:q) (h:Wr q→p:=by intro k;refine DOps.st _ rfl rfl (op_pick rfl rfl rfl ⟨rfl,rfl⟩) ?_;exact k.1):p:=h ⟨k⟩
theorem Q5 (k:q) (h:Wr q→p:=by intro k;refine Zb _ rfl rfl rfl (op_len rfl tu_28 rfl (.seq _ _) ?_);exact k.1):p:=h ⟨k⟩
theorem Qbv (k:q) (h:Wr q→p:=by intro k;refine Zh _ rfl rfl rfl rfl rfl (op_fam rfl rfl rfl ?_);exact k.1):p:=h ⟨k⟩
theorem Qaj (k:q) (h:Wr q→p:=by intro k;refine Zb _ rfl rfl rfl (Zt (cs':=[_,_,_,_,_,_,_,_,_,_,_]) (i:=0) rfl ta_41 rfl rfl rfl rfl ?_);exact k.1):p:=h ⟨k⟩
theorem Qak (k:q) (h:Wr q→p:=by intro k;refine Zb _ rfl rfl rfl (op_geq rfl rfl rfl ?_);exact k.1):p:=h ⟨k⟩
theorem Qal (k:q) (h:Wr q→p:=by intro k;refine Ze _ (none) rfl rfl rfl rfl rfl (op_lc1 rfl rfl rfl rfl ⟨rfl,rfl⟩) ?_;exact k.1):p:=h ⟨k⟩
theorem Qas (k:q) (h:Wr q→p:=by intro k;refine Ze _ (some 1) rfl rfl rfl rfl rfl (Zt (cs':=[_,_,_,_,_,_]) (i:=0) rfl ta_54 rfl rfl rfl rfl ⟨rfl,rfl⟩) ?_;exact k.1):p:=h ⟨k⟩
theorem Qat (k:q) (h:Wr q→p:=by intro k;refine DOps.st _ rfl rfl (op_move rfl rfl ⟨rfl,rfl⟩) ?_;exact k.1):p:=h ⟨k⟩
theorem QaE (k:q) (h:Wr q→p:=by intro k;refine Zb _ rfl rfl rfl (op_load_c (cs':=[_,_,_,_,_,_]) rfl ta_54 rfl rfl rfl ?_);exact k.1):p:=h ⟨k⟩
theorem QaF (k:q) (h:Wr q→p:=by intro k;refine Zb _ rfl rfl rfl (op_load_c (cs':=[_,_,_,_,_,_,_,_,_,_,_]) rfl ta_41 rfl rfl rfl ?_);exact k.1):p:=h ⟨k⟩
theorem QaG (k:q) (h:Wr q→p:=by intro k;refine Ze _ (none) rfl rfl rfl rfl rfl (op_fam rfl rfl rfl ⟨rfl,rfl⟩) ?_;exact k.1):p:=h ⟨k⟩
theorem QaJ (k:q) (h:Wr q→p:=by intro k;refine Zb _ rfl rfl rfl (op_len rfl tu_22 rfl (.seq _ _) ?_);exact k.1):p:=h ⟨k⟩
theorem QaK (k:q) (h:Wr q→p:=by intro k;refine Ze _ (none) rfl rfl rfl rfl rfl (op_fac rfl rfl rfl rfl ⟨rfl,rfl⟩) ?_;exact k.1):p:=h ⟨k⟩
theorem QaL (k:q) (h:Wr q→p:=by intro k;refine Zb _ rfl rfl rfl (op_sneq rfl rfl rfl ?_);exact k.1):p:=h ⟨k⟩
theorem QaM (k:q) (h:Wr q→p:=by intro k;refine Zb _ rfl rfl rfl (op_lm1 (i:=1) rfl rfl rfl rfl rfl ?_);exact k.1):p:=h ⟨k⟩
theorem QaN (k:q) (h:Wr q→p:=by intro k;refine Zb _ rfl rfl rfl (op_seql rfl rfl rfl ?_);exact k.1):p:=h ⟨k⟩
theorem QaO (k:q) (h:Wr q→p:=by intro k;refine Zh _ rfl rfl rfl rfl rfl (op_leq rfl rfl rfl ?_);exact k.1):p:=h ⟨k⟩
theorem QaP (k:q) (h:Wr q→p:=by intro k;refine Zh _ rfl rfl rfl rfl rfl (op_gtr rfl rfl rfl ?_);exact k.1):p:=h ⟨k⟩
theorem QaR (k:q) (h:Wr q→p:=by intro k;refine Zh _ rfl rfl rfl rfl rfl (op_sneq rfl rfl rfl ?_);exact k.1):p:=h ⟨k⟩
theorem QaS (k:q) (h:Wr q→p:=by intro k;refine Zh _ rfl rfl rfl rfl rfl (op_neq rfl rfl rfl ?_);exact k.1):p:=h ⟨k⟩
theorem QaT (k:q) (h:Wr q→p:=by intro k;refine DOps.gt _ rfl rfl rfl rfl (op_lc1 rfl rfl rfl rfl ⟨rfl,rfl⟩) ?_;exact k.1):p:=h ⟨k⟩
theorem QaU (k:q) (h:Wr q→p:=by intro k;refine Zb _ rfl rfl rfl (op_boxc (cs':=[_,_,_,_,_,_,_,_,_,_,_]) rfl rfl rfl rfl ?_);exact k.1):p:=h ⟨k⟩
theorem QaV (k:q) (h:Wr q→p:=by intro k;refine EOps.w 0 rfl rfl rfl rfl rfl (Zk (cs':=[_,_,_,_,_,_,_,_,_,_,_]) (i:=0) rfl ts_41 rfl rfl rfl rfl rfl (Yc rfl) rfl ⟨_,rfl,?_⟩);exact k.1):p:=h ⟨k⟩
theorem QaW (k:q) (h:Wr q→p:=by intro k;refine Zb _ rfl rfl rfl (op_len rfl tu_23 rfl (.seq _ _) ?_);exact k.1):p:=h ⟨k⟩
theorem QaX (k:q) (h:Wr q→p:=by intro k;refine Zb _ rfl rfl rfl (op_boxc (cs':=[_,_,_,_,_]) rfl rfl rfl rfl ?_);exact k.1):p:=h ⟨k⟩
theorem QaY (k:q) (h:Wr q→p:=by intro k;refine Zh _ rfl rfl rfl rfl rfl (op_notc rfl rfl ?_);exact k.1):p:=h ⟨k⟩
theorem QaZ (k:q) (h:Wr q→p:=by intro k;refine Zb _ rfl rfl rfl (op_nilCheck_m rfl rfl ?_);exact k.1):p:=h ⟨k⟩
theorem Qa0 (k:q) (h:Wr q→p:=by intro k;refine Zb _ rfl rfl rfl (op_len rfl tu_38 rfl (.seq _ _) ?_);exact k.1):p:=h ⟨k⟩
theorem Qa1 (k:q) (h:Wr q→p:=by intro k;refine Zs rfl rfl (Zk (cs':=[_,_,_,_,_,_,_,_,_,_,_]) (i:=1) rfl ts_41 rfl rfl rfl rfl rfl (Yc rfl) rfl ?_);exact k.1):p:=h ⟨k⟩
theorem Qa2 (k:q) (h:Wr q→p:=by intro k;refine Zb _ rfl rfl rfl (op_alloce (cs':=[_,_,_,_,_]) rfl tz_50 rfl rfl ?_);exact k.1):p:=h ⟨k⟩
theorem Qa3 (k:q) (h:Wr q→p:=by intro k;refine Zb _ rfl rfl rfl (Zt (cs':=[_,_,_,_,_]) (i:=0) rfl ta_50 rfl rfl rfl rfl ?_);exact k.1):p:=h ⟨k⟩
theorem Qa4 (k:q) (h:Wr q→p:=by intro k;refine Zb _ rfl rfl rfl (op_load_c (cs':=[_,_,_]) rfl ta_47 rfl rfl rfl ?_);exact k.1):p:=h ⟨k⟩
theorem Qa5 (k:q) (h:Wr q→p:=by intro k;refine Zb _ rfl rfl rfl (op_alloce (cs':=[_,_,_]) rfl tz_47 rfl rfl ?_);exact k.1):p:=h ⟨k⟩
theorem Qa6 (k:q) (h:Wr q→p:=by intro k;refine Zs rfl rfl (Zk (cs':=[_,_,_]) (i:=0) rfl ts_47 rfl rfl rfl rfl rfl (Yc rfl) rfl ?_);exact k.1):p:=h ⟨k⟩
theorem Qa7 (k:q) (h:Wr q→p:=by intro k;refine Ze _ (none) rfl rfl rfl rfl rfl (op_assign rfl rfl ⟨rfl,rfl⟩) ?_;exact k.1):p:=h ⟨k⟩
theorem Qa8 (k:q) (h:Wr q→p:=by intro k;refine Zb _ rfl rfl rfl (op_gtr rfl rfl rfl ?_);exact k.1):p:=h ⟨k⟩
theorem Qa9 (k:q) (h:Wr q→p:=by intro k;refine Zb _ rfl rfl rfl (Zl rfl te_23 rfl (.seq _ _) rfl rfl (hcq) ?_);exact k.1):p:=h ⟨k⟩
theorem Qba (k:q) (h:Wr q→p:=by intro k;refine Zb _ rfl rfl rfl (op_neq rfl rfl rfl ?_);exact k.1):p:=h ⟨k⟩
theorem Qbb (k:q) (h:Wr q→p:=by intro k;(refine Zh _ rfl rfl rfl rfl rfl (Zl (i:=0) rfl te_38 rfl (.seq _ _) rfl rfl (by first|rfl|assumption) ?_));exact k.1):p:=h ⟨k⟩
theorem Qbc (k:q) (h:Wr q→p:=by intro k;refine DOps.gt _ rfl rfl rfl rfl (op_fac rfl rfl rfl rfl ⟨rfl,rfl⟩) ?_;exact k.1):p:=h ⟨k⟩
theorem Qbf (k:q) (h:Wr q→p:=by intro k;refine Zb _ rfl rfl rfl (op_boxc (cs':=[_,_,_]) rfl rfl rfl rfl ?_);exact k.1):p:=h ⟨k⟩
theorem Qbg (k:q) (h:Wr q→p:=by intro k;refine Zs rfl rfl (Zk (cs':=[_,_,_,_,_]) (i:=0) rfl ts_50 rfl rfl rfl rfl rfl (Yc rfl) rfl ?_);exact k.1):p:=h ⟨k⟩
theorem Qbh (k:q) (h:Wr q→p:=by intro k;refine c_drawnE [0,1,2,3,4,5] [5] [[],[],[1],[],[0,1,2,3],[0,1,2,3,4]] tmix rfl ?_;exact k.1):p:=h ⟨k⟩
theorem Qbi (k:q) (h:Wr q→p:=by intro k;refine Ze _ (some 0) rfl rfl rfl rfl rfl (Zt (cs':=[_,_,_]) (i:=0) rfl ta_47 rfl rfl rfl rfl ⟨rfl,rfl⟩) ?_;exact k.1):p:=h ⟨k⟩
theorem Qbj (k:q) (h:Wr q→p:=by intro k;refine Zb _ rfl rfl rfl (op_alloce (cs':=[_,_,_,_,_,_,_,_]) rfl tz_34 rfl rfl ?_);exact k.1):p:=h ⟨k⟩
theorem Qbk (k:q) (h:Wr q→p:=by intro k;refine Zb _ rfl rfl rfl (op_load_c (cs':=[_,_,_,_,_]) rfl ta_25 rfl rfl rfl ?_);exact k.1):p:=h ⟨k⟩
theorem Qbl (k:q) (h:Wr q→p:=by intro k;refine Zb _ rfl rfl rfl (op_alloce (cs':=[_,_,_,_,_,_,_,_,_,_,_,_,_]) rfl tz_43 rfl rfl ?_);exact k.1):p:=h ⟨k⟩
theorem Qbm (k:q) (h:Wr q→p:=by intro k;refine Zs rfl rfl (Zk (cs':=[_,_,_,_,_,_,_,_,_,_,_,_,_]) (i:=0) rfl ts_43 rfl rfl rfl rfl rfl (Yc rfl) rfl ?_);exact k.1):p:=h ⟨k⟩
theorem Qbn (k:q) (h:Wr q→p:=by intro k;refine Zb _ rfl rfl rfl (op_len_str rfl tu_9 rfl ?_);exact k.1):p:=h ⟨k⟩
theorem Qbo (k:q) (h:Wr q→p:=by intro k;refine Zh _ rfl rfl rfl rfl rfl (op_len_str rfl tu_9 rfl ?_);exact k.1):p:=h ⟨k⟩
theorem Qbp (k:q) (h:Wr q→p:=by intro k;refine Zh _ rfl rfl rfl rfl rfl (op_len rfl tu_28 rfl (.seq _ _) ?_);exact k.1):p:=h ⟨k⟩
theorem Qbq (k:q) (h:Wr q→p:=by intro k;refine Zb _ rfl rfl rfl (op_extract rfl rfl rfl ?_);exact k.1):p:=h ⟨k⟩
theorem Qbr (k:q) (h:Wr q→p:=by intro k;refine Zb _ rfl rfl rfl (op_len rfl tu_48 rfl (.seq _ _) ?_);exact k.1):p:=h ⟨k⟩
theorem Qbs (k:q) (h:Wr q→p:=by intro k;refine Zb _ rfl rfl rfl (op_load_c (cs':=[_,_,_,_,_]) rfl ta_50 rfl rfl rfl ?_);exact k.1):p:=h ⟨k⟩
theorem Qbt (k:q) (h:Wr q→p:=by intro k;refine Zb _ rfl rfl rfl (op_len rfl tu_32 rfl (.seq _ _) ?_);exact k.1):p:=h ⟨k⟩
theorem Qbu (k:q) (h:Wr q→p:=by intro k;refine Zh _ rfl rfl rfl rfl rfl (op_load_c (cs':=[_,_,_,_,_,_,_,_,_,_,_]) rfl ta_41 rfl rfl rfl ?_);exact k.1):p:=h ⟨k⟩
theorem Qbw (k:q) (h:Wr q→p:=by intro k;refine Zb _ rfl rfl rfl (op_sadd rfl rfl rfl by11 ?_);exact k.1):p:=h ⟨k⟩
theorem Qbx (k:q) (h:Wr q→p:=by intro k;refine Zb _ rfl rfl rfl (Zt (cs':=[_,_,_,_,_,_,_,_,_,_,_]) (i:=1) rfl ta_41 rfl rfl rfl rfl ?_);exact k.1):p:=h ⟨k⟩
theorem Qby (k:q) (h:Wr q→p:=by intro k;refine Zc Tryd.func29 rfl (by kernel_rfl) rfl (Yc rfl) ?_;exact k.1):p:=h ⟨k⟩
theorem Qbz (k:q) (h:Wr q→p:=by intro k;refine Ze _ (some 0) rfl rfl rfl rfl rfl (Zt (cs':=[_,_,_,_,_,_,_,_,_,_,_]) (i:=0) rfl ta_41 rfl rfl rfl rfl ⟨rfl,rfl⟩) ?_;exact k.1):p:=h ⟨k⟩
theorem QbA (k:q) (h:Wr q→p:=by intro k;refine c_drawnE [0,1,2,3,4,5,6,7,8,9,10] [8,10] [[],[],[],[2],[1,2,3],[],[0,1,2,3,4,5],[],[0,1,2,3,4,5,6,7],[0,1,2,3,4,5,6,7,8],[0,1,2,3,4,5,6,7,8,9]] tmix rfl ?_;exact k.1):p:=h ⟨k⟩
theorem QbB (k:q) (h:Wr q→p:=by intro k;refine EOps.w 0 rfl rfl rfl rfl rfl (Zk (cs':=[_,_,_,_,_,_,_,_,_,_,_,_,_]) (i:=0) rfl ts_9 rfl rfl rfl rfl rfl (Yc rfl) rfl ⟨_,rfl,?_⟩);exact k.1):p:=h ⟨k⟩
theorem QbC (k:q) (h:Wr q→p:=by intro k;refine EOps.w 0 rfl rfl rfl rfl rfl (Zk (cs':=[_,_,_,_,_,_,_,_,_,_,_,_,_]) (i:=0) rfl ts_41 rfl rfl rfl rfl rfl (Yc rfl) rfl ⟨_,rfl,?_⟩);exact k.1):p:=h ⟨k⟩
theorem QbD (k:q) (h:Wr q→p:=by intro k;refine Zs rfl rfl (Zk (cs':=[_,_,_,_,_,_,_,_]) (i:=0) rfl ts_34 rfl rfl rfl rfl rfl (Yc rfl) rfl ?_);exact k.1):p:=h ⟨k⟩
theorem QbE (k:q) (h:Wr q→p:=by intro k;refine Zb _ rfl rfl rfl (Zl rfl te_22 rfl (.seq _ _) rfl rfl (hcq) ?_);exact k.1):p:=h ⟨k⟩
theorem QbF (k:q) (h:Wr q→p:=by intro k;refine Zh _ rfl rfl rfl rfl rfl (op_lss rfl rfl rfl ?_);exact k.1):p:=h ⟨k⟩
theorem QbG (k:q) (h:Wr q→p:=by intro k;refine Zh _ rfl rfl rfl rfl rfl (op_len rfl tu_22 rfl (.seq _ _) ?_);exact k.1):p:=h ⟨k⟩
theorem QbH (k:q) (h:Wr q→p:=by intro k;refine Zh _ rfl rfl rfl rfl rfl (op_len rfl tu_39 rfl (.seq _ _) ?_);exact k.1):p:=h ⟨k⟩
theorem QbI (k:q) (h:Wr q→p:=by intro k;refine Zb _ rfl rfl rfl (op_load_c (cs':=[_,_,_,_,_,_,_,_,_,_,_,_,_]) rfl ta_43 rfl rfl rfl ?_);exact k.1):p:=h ⟨k⟩
theorem QbJ (k:q) (h:Wr q→p:=by intro k;refine Zb _ rfl rfl rfl (Zg (xs:=[.tmp 34]) el_48 rfl rfl rfl rfl rfl rfl (Yc rfl) ?_);exact k.1):p:=h ⟨k⟩
theorem QbK (k:q) (h:Wr q→p:=by intro k;(refine Zb _ rfl rfl rfl (op_append (i:=3) el_48 rfl rfl rfl rfl (.seq _ _) (by simp only [List.length_map,List.length_reverse,List.length_cons,List.length_nil];omega) ?_));exact k.1):p:=h ⟨k⟩
theorem QbL (k:q) (h:Wr q→p:=by intro k;refine Zs rfl rfl (Zk (cs':=[_,_,_,_,_]) (i:=1) rfl ts_48 rfl rfl rfl rfl rfl (Yc rfl) rfl ?_);exact k.1):p:=h ⟨k⟩
theorem QbM (k:q) (h:Wr q→p:=by intro k;refine EOps.w 2 rfl rfl rfl rfl rfl (Zk (cs':=[_,_,_,_,_,_,_,_,_,_,_]) (i:=0) rfl ts_41 rfl rfl rfl rfl rfl (Yc rfl) rfl ⟨_,rfl,?_⟩);exact k.1):p:=h ⟨k⟩
theorem QbN (k:q) (h:Wr q→p:=by intro k;refine c_drawnE [0,1,2,3,4,5,6,7,8,9] [8] [[],[],[],[1,2],[],[1,2,3,4],[1,2,3,4,5],[1,2,3,4,5,6],[0,1,2,3,4,5,6,7],[0,1,2,3,4,5,6,7,8]] tmix rfl ?_;exact k.1):p:=h ⟨k⟩
theorem QbO (k:q) (h:Wr q→p:=by intro k;refine c_drawnE [0,1,2,3,4,5,6,7,8,9,10,11,12,13,14,15,16,17] [17] [[],[],[],[1,2],[],[],[],[],[1,2,3,7],[1,2,3,6,7,8],[1,2,3,6,7,8,9],[1,2,3,5,6,7,8,9,10],[],[1,2,3,5,6,7,8,9,10,11,12],[1,2,3,4,5,6,7,8,9,10,11,12,13],[1,2,3,4,5,6,7,8,9,10,11,12,13,14],[0,1,2,3,4,5,6,7,8,9,10,11,12,13,14,15],[0,1,2,3,4,5,6,7,8,9,10,11,12,13,14,15,16]] tmix rfl ?_;exact k.1):p:=h ⟨k⟩
theorem QbP (k:q) (h:Wr q→p:=by intro k;refine Ze _ (none) rfl rfl rfl rfl rfl (Zg (xs:=[.tmp 48]) el_38 rfl rfl rfl rfl rfl rfl (Yc rfl) ⟨rfl,rfl⟩) ?_;exact k.1):p:=h ⟨k⟩
theorem QbR (k:q) (h:Wr q→p:=by intro k;refine Ze _ (none) rfl rfl rfl rfl rfl (Zg (xs:=[.tmp 50,.tmp 51]) el_38 rfl rfl rfl rfl rfl rfl (Yc rfl) ⟨rfl,rfl⟩) ?_;exact k.1):p:=h ⟨k⟩
theorem QbS (k:q) (h:Wr q→p:=by intro k;refine Ze _ (none) rfl rfl rfl rfl rfl (Zg (xs:=[.tmp 42,.tmp 53]) el_38 rfl rfl rfl rfl rfl rfl (Yc rfl) ⟨rfl,rfl⟩) ?_;exact k.1):p:=h ⟨k⟩
theorem QbT (k:q) (h:Wr q→p:=by intro k;refine Ze _ (none) rfl rfl rfl rfl rfl (Zg (xs:=[.const (.string ⟨#[120]⟩),.const (.string ⟨#[121]⟩)]) el_22 rfl rfl rfl rfl rfl rfl (Yc rfl) ⟨rfl,rfl⟩) ?_;exact k.1):p:=h ⟨k⟩
theorem QbU (k:q) (h:Wr q→p:=by intro k;refine Zb _ rfl rfl rfl (Zt (cs':=[_,_,_,_]) (i:=0) rfl ta_30 rfl rfl rfl rfl ?_);exact k.1):p:=h ⟨k⟩
theorem QbV (k:q) (h:Wr q→p:=by intro k;refine Zb _ rfl rfl rfl (Zl rfl te_22 rfl (.seq _ _) rfl rfl (by assumption) ?_);exact k.1):p:=h ⟨k⟩
theorem QbW (k:q) (h:Wr q→p:=by intro k;refine Zb _ rfl rfl rfl (op_convert rfl tu_5 tu_3 rfl (IntWalk.i64_in _ by11) ?_);exact k.1):p:=h ⟨k⟩
theorem QbX (k:q) (h:Wr q→p:=by intro k;(refine Zh _ rfl rfl rfl rfl rfl (op_index_str (i:=0) rfl tu_9 rfl rfl (by first|rfl|omega) (hb) ?_));exact k.1):p:=h ⟨k⟩
theorem QbY (k:q) (h:Wr q→p:=by intro k;refine Zb _ rfl rfl rfl (op_load_c (cs':=[_,_,_,_]) rfl ta_30 rfl rfl rfl ?_);exact k.1):p:=h ⟨k⟩
theorem QbZ (k:q) (h:Wr q→p:=by intro k;(refine Zb _ rfl rfl rfl (Zl (i:=0) rfl te_32 rfl (.seq _ _) rfl rfl (by first|rfl|assumption) ?_));exact k.1):p:=h ⟨k⟩
theorem Qb0 (k:q) (h:Wr q→p:=by intro k;refine Zb _ rfl rfl rfl (Zl rfl te_48 rfl (.seq _ _) rfl rfl (by assumption) ?_);exact k.1):p:=h ⟨k⟩
theorem Qb1 (k:q) (h:Wr q→p:=by intro k;(refine Zb _ rfl rfl rfl (op_append (i:=2) el_22 rfl rfl rfl rfl (.own _ _ _) (by rw [Zq,Zq,List.length_append];omega) ?_));exact k.1):p:=h ⟨k⟩
theorem Qb2 (k:q) (h:Wr q→p:=by intro k;refine Zs rfl rfl (Zk (i:=0) rfl ts_22 rfl rfl rfl rfl rfl (Yc rfl) rfl ?_);exact k.1):p:=h ⟨k⟩
theorem Qb3 (k:q) (h:Wr q→p:=by intro k;refine Zb _ rfl rfl rfl (Zl rfl te_32 rfl (.seq _ _) rfl rfl (by assumption) ?_);exact k.1):p:=h ⟨k⟩
theorem Qb4 (k:q) (h:Wr q→p:=by intro k;refine Zs rfl rfl (Zk (cs':=[_]) (i:=0) rfl ts_1 rfl rfl rfl rfl rfl (Yc rfl) rfl ?_);exact k.1):p:=h ⟨k⟩
theorem Qb5 (k:q) (h:Wr q→p:=by intro k;refine Zh _ rfl rfl rfl rfl rfl (Zt (cs':=[_,_,_,_,_,_,_,_,_,_,_]) (i:=0) rfl ta_41 rfl rfl rfl rfl ?_);exact k.1):p:=h ⟨k⟩
theorem Qb6 (k:q) (h:Wr q→p:=by intro k;(refine Zh _ rfl rfl rfl rfl rfl (Zl (i:=1) rfl te_38 rfl (.seq _ _) rfl rfl (by first|rfl|assumption) ?_));exact k.1):p:=h ⟨k⟩
theorem Qb (k:q) (h:Wr q→p:=by intro k;refine Qs ?_;refine Qe ?_;exact k.1):p:=h ⟨k⟩
theorem Qd (k:q) (h:Wr q→p:=by intro k;refine Qp ?_;refine Qc ?_;exact k.1):p:=h ⟨k⟩
theorem Qac (k:q) (h:Wr q→p:=by intro k;refine QL ?_;refine QL ?_;exact k.1):p:=h ⟨k⟩
theorem Qh (k:q) (h:Wr q→p:=by intro k;refine Qab ?_;refine Qb ?_;exact k.1):p:=h ⟨k⟩
theorem Qg (k:q) (h:Wr q→p:=by intro k;refine Qar ?_;refine Qy ?_;exact k.1):p:=h ⟨k⟩
theorem Qau (k:q) (h:Wr q→p:=by intro k;refine Qd ?_;refine Qh ?_;exact k.1):p:=h ⟨k⟩
theorem Q3 (k:q) (h:Wr q→p:=by intro k;refine Qe ?_;refine Qp ?_;exact k.1):p:=h ⟨k⟩
theorem Qq (k:q) (h:Wr q→p:=by intro k;refine Qbd ?_;refine Qa ?_;exact k.1):p:=h ⟨k⟩
theorem Qj (k:q) (h:Wr q→p:=by intro k;refine Qac ?_;refine Qac ?_;exact k.1):p:=h ⟨k⟩
theorem Qr (k:q) (h:Wr q→p:=by intro k;refine Qd ?_;refine Qa ?_;exact k.1):p:=h ⟨k⟩
theorem Qn (k:q) (h:Wr q→p:=by intro k;refine Qbd ?_;refine Qab ?_;refine Qs ?_;exact k.1):p:=h ⟨k⟩
theorem Qk (k:q) (h:Wr q→p:=by intro k;refine Qbd ?_;refine Qs ?_;exact k.1):p:=h ⟨k⟩
theorem Qav (k:q) (h:Wr q→p:=by intro k;refine Q0 ?_;refine Qe ?_;refine Qc ?_;exact k.1):p:=h ⟨k⟩
theorem Qv (k:q) (h:Wr q→p:=by intro k;refine Qd ?_;refine Qg ?_;exact k.1):p:=h ⟨k⟩
theorem Ql (k:q) (h:Wr q→p:=by intro k;refine Qb ?_;refine Qp ?_;exact k.1):p:=h ⟨k⟩
theorem Qaw (k:q) (h:Wr q→p:=by intro k;refine QI ?_;refine c_exit ?_;refine x_code ?_;refine x_lp ?_;refine x_here ?_;exact k.1):p:=h ⟨k⟩
theorem Qo (k:q) (h:Wr q→p:=by intro k;refine QaH ?_;refine Zh _ rfl rfl rfl rfl rfl (op_lc1 rfl rfl rfl rfl ?_);exact k.1):p:=h ⟨k⟩
theorem QC (k:q) (h:Wr q→p:=by intro k;refine QI ?_;refine c_skip ?_;exact k.1):p:=h ⟨k⟩
theorem Qam (k:q) (h:Wr q→p:=by intro k;refine Qac ?_;refine QL ?_;exact k.1):p:=h ⟨k⟩
theorem Qt (k:q) (h:Wr q→p:=by intro k;refine Qm ?_;refine c_skip ?_;refine Q3 ?_;refine QH ?_;refine Qp ?_;exact k.1):p:=h ⟨k⟩
theorem Q4 (k:q) (h:Wr q→p:=by intro k;refine QI ?_;refine c_skip ?_;refine Q3 ?_;exact k.1):p:=h ⟨k⟩
theorem Qw (k:q) (h:Wr q→p:=by intro k;refine Qe ?_;refine c_ret ?_;exact k.1):p:=h ⟨k⟩
theorem Qax (k:q) (h:Wr q→p:=by intro k;refine Qau ?_;refine Qp ?_;exact k.1):p:=h ⟨k⟩
theorem Qz (k:q) (h:Wr q→p:=by intro k;refine Qm ?_;refine Qau ?_;refine c_ret ?_;exact k.1):p:=h ⟨k⟩
theorem Qad (k:q) (h:Wr q→p:=by intro k;refine Qab ?_;refine Qs ?_;refine go_lp ?_;exact k.1):p:=h ⟨k⟩
theorem QD (k:q) (h:Wr q→p:=by intro k;refine Qac ?_;refine Qn ?_;exact k.1):p:=h ⟨k⟩
theorem QE (k:q) (h:Wr q→p:=by intro k;refine Qam ?_;refine Qq ?_;exact k.1):p:=h ⟨k⟩
theorem Q8 (k:q) (h:Wr q→p:=by intro k;refine Qu ?_;refine Qd ?_;exact k.1):p:=h ⟨k⟩
theorem QG (k:q) (h:Wr q→p:=by intro k;refine Qp ?_;refine Qr ?_;exact k.1):p:=h ⟨k⟩
theorem QJ (k:q) (h:Wr q→p:=by intro k;refine Qh ?_;refine c_ret ?_;exact k.1):p:=h ⟨k⟩
theorem QK (k:q) (h:Wr q→p:=by intro k;refine Qav ?_;refine QaD ?_;refine Qa ?_;refine Qs ?_;refine go_lp ?_;exact k.1):p:=h ⟨k⟩
theorem Qan (k:q) (h:Wr q→p:=by intro k;refine Qc ?_;refine Qa ?_;exact k.1):p:=h ⟨k⟩
theorem QN (k:q) (h:Wr q→p:=by intro k;refine Qbe ?_;refine Qbe ?_;exact k.1):p:=h ⟨k⟩
theorem QO (k:q) (h:Wr q→p:=by intro k;refine Qac ?_;refine Qq ?_;exact k.1):p:=h ⟨k⟩
theorem QT (k:q) (h:Wr q→p:=by intro k;refine Qaw ?_;refine Q3 ?_;exact k.1):p:=h ⟨k⟩
theorem QW (k:q) (h:Wr q→p:=by intro k;refine Qa ?_;refine Qb ?_;refine QH ?_;exact k.1):p:=h ⟨k⟩
theorem QX (k:q) (h:Wr q→p:=by intro k;refine Qd ?_;refine QA ?_;exact k.1):p:=h ⟨k⟩
theorem QY (k:q) (h:Wr q→p:=by intro k;refine Qu ?_;refine Qax ?_;exact k.1):p:=h ⟨k⟩
theorem QZ (k:q) (h:Wr q→p:=by intro k;refine Qh ?_;refine Qp ?_;exact k.1):p:=h ⟨k⟩
theorem Q6 (k:q) (h:Wr q→p:=by intro k;refine Qau ?_;refine QH ?_;exact k.1):p:=h ⟨k⟩
theorem Q7 (k:q) (h:Wr q→p:=by intro k;refine Qj ?_;refine Qj ?_;exact k.1):p:=h ⟨k⟩
theorem Q9 (k:q) (h:Wr q→p:=by intro k;refine QF ?_;refine Zb _ rfl rfl rfl (op_lm1 (i:=0) rfl rfl rfl rfl rfl ?_);exact k.1):p:=h ⟨k⟩
theorem Qaa (k:q) (h:Wr q→p:=by intro k;refine Q4 ?_;refine Qv ?_;exact k.1):p:=h ⟨k⟩
theorem Qae (k:q) (h:Wr q→p:=by intro k;refine Qb ?_;refine c_ret ?_;exact k.1):p:=h ⟨k⟩
theorem Qaf (k:q) (h:Wr q→p:=by intro k;refine Qg ?_;refine Qa ?_;exact k.1):p:=h ⟨k⟩
theorem Qag (k:q) (h:Wr q→p:=by intro k;refine Qm ?_;refine Qp ?_;exact k.1):p:=h ⟨k⟩
theorem Qah (k:q) (h:Wr q→p:=by intro k;refine QC ?_;refine Qav ?_;refine Qa ?_;refine QaD ?_;refine Qad ?_;exact k.1):p:=h ⟨k⟩
theorem Qai (k:q) (h:Wr q→p:=by intro k;refine Qbv ?_;refine Zh _ rfl rfl rfl rfl rfl (op_lm1 (i:=0) rfl rfl rfl rfl rfl ?_);exact k.1):p:=h ⟨k⟩
theorem Qao (k:q) (h:Wr q→p:=by intro k;refine Qaw ?_;refine Qe ?_;refine Qau ?_;refine c_ret ?_;exact k.1):p:=h ⟨k⟩
theorem Qap (k:q) (h:Wr q→p:=by intro k;refine Qac ?_;refine Qk ?_;exact k.1):p:=h ⟨k⟩
theorem Qaq (k:q) (h:Wr q→p:=by intro k;refine QP ?_;refine QP ?_;refine QP ?_;refine QP ?_;exact k.1):p:=h ⟨k⟩
theorem Qay (k:q) (h:Wr q→p:=by intro k;refine Q8 ?_;refine QaI ?_;refine Q1 ?_;exact k.1):p:=h ⟨k⟩
theorem Qaz (k:q) (h:Wr q→p:=by intro k;refine Qau ?_;refine Qr ?_;exact k.1):p:=h ⟨k⟩
theorem QaA (k:q) (h:Wr q→p:=by intro k;refine QM ?_;refine QM ?_;exact k.1):p:=h ⟨k⟩
theorem QaB (k:q) (h:Wr q→p:=by intro k;refine Qan ?_;refine Qa ?_;exact k.1):p:=h ⟨k⟩
theorem QaC (k:q) (h:Wr q→p:=by intro k;refine Qq ?_;refine Qj ?_;exact k.1):p:=h ⟨k⟩
end
section
variable {P:Program}
theorem shape_int {fuel:Nat} {t:TypeId} {k:IntKind} {cs:List AV} (ht:P.underlying t=some (.int k)) (h:ShapeC P fuel t cs):∃ x,(k.min≤x∧x≤k.max)∧cs=[.val (.int k x)]:=by
 cases fuel with
 | zero=>unfold ShapeC at h;exact h.elim
 | succ n=>unfold ShapeC at h;rw [ht] at h;exact h
theorem shape_str {fuel:Nat} {t:TypeId} {cs:List AV} (ht:P.underlying t=some .string) (h:ShapeC P fuel t cs):∃ s:ByteArray,s.size≤maxLen∧cs=[.val (.string s)]:=by
 cases fuel with
 | zero=>unfold ShapeC at h;exact h.elim
 | succ n=>unfold ShapeC at h;rw [ht] at h;exact h
theorem shape_slice {fuel:Nat} {t e:TypeId} {cs:List AV} (ht:P.underlying t=some (.slice e)) (h:ShapeC P fuel t cs):∃ n es,n<fuel∧cs=[.seq (P.cellsOf e) es]∧∀ x∈es,ShapeC P n e x:=by
 cases fuel with
 | zero=>unfold ShapeC at h;exact h.elim
 | succ n =>
  unfold ShapeC at h
  rw [ht] at h
  obtain ⟨es,h1,_,h2⟩:=h
  exact ⟨n,es,by omega,h1,h2⟩
theorem shape_struct {fuel:Nat} {t:TypeId} {fs:Array Field} {cs:List AV} (ht:P.underlying t=some (.struct fs)) (h:ShapeC P fuel t cs):∃ n,n<fuel∧ShapeF P n fs.toList cs:=by
 cases fuel with
 | zero=>unfold ShapeC at h;exact h.elim
 | succ n=>unfold ShapeC at h;rw [ht] at h;exact ⟨n,by omega,h⟩
theorem pick_all {α:Type} {f:α→List AV}:∀ {es:List (List AV)},(∀ x∈es,∃ a,x=f a)→∃ l:List α,es=l.map f
 | [],_=>⟨[],rfl⟩
 | e::es,h=>by
  obtain ⟨a,ha⟩:=h e by12
  obtain ⟨l,hl⟩:=pick_all (fun x hx=>h x (by simp [hx]):∀ x∈es,∃ a,x=f a)
  exact ⟨a::l,by rw [ha,hl];rfl⟩
end
theorem cellsOf_ty:Tryd.prog.cellsOf 30=4:=by kernel_rfl
theorem cellsOf_str:Tryd.prog.cellsOf 9=1:=by kernel_rfl
theorem shape_ty (fuel:Nat):∀ cs,ShapeC Tryd.prog fuel 30 cs→∃ t:Ty,cs=t.cells:=by
 induction fuel using Nat.strongRecOn with
 | _ fuel ih =>
  intro cs h
  obtain ⟨n,hn,h⟩:=shape_struct Tryd.underlying30 h
  simp only [ShapeF] at h
  obtain ⟨a1,b1,rfl,h1,a2,b2,rfl,h2,a3,b3,rfl,h3,a4,b4,rfl,h4,rfl⟩:=h
  obtain ⟨k,_,rfl⟩:=shape_int tu_3 h1
  obtain ⟨s,_,rfl⟩:=shape_str tu_9 h2
  obtain ⟨m,_,rfl⟩:=shape_int tu_3 h3
  obtain ⟨n',es,hn',rfl,h5⟩:=shape_slice tu_28 h4
  obtain ⟨ts,rfl⟩:=pick_all (f:=Ty.cells) (fun x hx=>ih n' by11 x (h5 x hx))
  refine ⟨.mk k s m ts,?_⟩
  rw [cellsOf_ty,← Ty.cellss_map]
  rfl
theorem shape_strs {fuel:Nat} {cs:List AV} (h:ShapeC Tryd.prog fuel 22 cs):∃ ts:List ByteArray,cs=[.seq 1 (strs ts)]:=by
 obtain ⟨n',es,_,rfl,h5⟩:=shape_slice tu_22 h
 obtain ⟨ts,rfl⟩:=pick_all (f:=fun s:ByteArray=>[AV.val (.string s)]) (fun x hx=>by obtain ⟨s,_,rfl⟩:=shape_str tu_9 (h5 x hx);exact ⟨s,rfl⟩)
 exact ⟨ts,by rw [cellsOf_str];rfl⟩
inductive Pa where
 | mk (k:Int) (s:ByteArray) (n:Int) (ks:List Pa) (p:Int)
mutual
inductive Ex where
 | mk (k:Int) (s:ByteArray) (n:Int) (t:Ty) (ks:List Ex) (al:List Al) (bs:List Bi) (p:Int)
inductive Al where
 | mk (q:Pa) (e:Ex)
inductive Bi where
 | mk (s:ByteArray) (e:Ex) (p:Int)
end
mutual
def Pa.cells:Pa→List AV
 | .mk k s n ks p=>[.val (.int .i64 k),.val (.string s),.val (.int .i64 n),.seq 5 (Pa.cellss ks),.val (.int .i64 p)]
def Pa.cellss:List Pa→List (List AV)
 | []=>[]
 | t::ts=>t.cells::Pa.cellss ts
end
mutual
def Ex.cells:Ex→List AV
 | .mk k s n t ks al bs p=>.val (.int .i64 k)::.val (.string s)::.val (.int .i64 n)::(t.cells++[.seq 11 (Ex.cellss ks),.seq 16 (Al.cellss al),.seq 13 (Bi.cellss bs),.val (.int .i64 p)])
def Ex.cellss:List Ex→List (List AV)
 | []=>[]
 | t::ts=>t.cells::Ex.cellss ts
def Al.cells:Al→List AV
 | .mk q e=>q.cells++e.cells
def Al.cellss:List Al→List (List AV)
 | []=>[]
 | t::ts=>t.cells::Al.cellss ts
def Bi.cells:Bi→List AV
 | .mk s e p=>.val (.string s)::(e.cells++[.val (.int .i64 p)])
def Bi.cellss:List Bi→List (List AV)
 | []=>[]
 | t::ts=>t.cells::Bi.cellss ts
end
theorem Pa.cellss_map:∀ ts:List Pa,Pa.cellss ts=ts.map Pa.cells
 | []=>by simp [Pa.cellss]
 | t::ts=>by simp [Pa.cellss,Pa.cellss_map ts]
theorem Ex.cellss_map:∀ ts:List Ex,Ex.cellss ts=ts.map Ex.cells
 | []=>by simp [Ex.cellss]
 | t::ts=>by simp [Ex.cellss,Ex.cellss_map ts]
theorem Al.cellss_map:∀ ts:List Al,Al.cellss ts=ts.map Al.cells
 | []=>by simp [Al.cellss]
 | t::ts=>by simp [Al.cellss,Al.cellss_map ts]
theorem Bi.cellss_map:∀ ts:List Bi,Bi.cellss ts=ts.map Bi.cells
 | []=>by simp [Bi.cellss]
 | t::ts=>by simp [Bi.cellss,Bi.cellss_map ts]
theorem Pa.cellss_len (ts:List Pa):(Pa.cellss ts).length=ts.length:=by rw [Pa.cellss_map];simp
theorem Ex.cellss_len (ts:List Ex):(Ex.cellss ts).length=ts.length:=by rw [Ex.cellss_map];simp
theorem Al.cellss_len (ts:List Al):(Al.cellss ts).length=ts.length:=by rw [Al.cellss_map];simp
theorem Bi.cellss_len (ts:List Bi):(Bi.cellss ts).length=ts.length:=by rw [Bi.cellss_map];simp
theorem Pa.cellss_get {ts:List Pa} {i:Nat} {t:Pa} (h:ts[i]?=some t):(Pa.cellss ts)[i]?=some t.cells:=by rw [Pa.cellss_map];simp [h]
theorem Ex.cellss_get {ts:List Ex} {i:Nat} {t:Ex} (h:ts[i]?=some t):(Ex.cellss ts)[i]?=some t.cells:=by rw [Ex.cellss_map];simp [h]
theorem Al.cellss_get {ts:List Al} {i:Nat} {t:Al} (h:ts[i]?=some t):(Al.cellss ts)[i]?=some t.cells:=by rw [Al.cellss_map];simp [h]
theorem Bi.cellss_get {ts:List Bi} {i:Nat} {t:Bi} (h:ts[i]?=some t):(Bi.cellss ts)[i]?=some t.cells:=by rw [Bi.cellss_map];simp [h]
def Al.e:Al→Ex|.mk _ e=>e
def Al.q:Al→Pa|.mk q _=>q
def Bi.e:Bi→Ex|.mk _ e _=>e
def Bi.s:Bi→ByteArray|.mk s _ _=>s
theorem Pa.lt_kid {x:Pa} {k n p:Int} {s:ByteArray} {ks:List Pa} (h:x∈ks):SizeOf.sizeOf x<SizeOf.sizeOf (Pa.mk k s n ks p):=by
 have:=List.sizeOf_lt_of_mem h
 simp;omega
section
variable {x:Ex} {a:Al} {b:Bi} {k n p:Int} {s:ByteArray} {t:Ty} {ks:List Ex} {al:List Al} {bs:List Bi}
theorem Ex.lt_kid (h:x∈ks):SizeOf.sizeOf x<SizeOf.sizeOf (Ex.mk k s n t ks al bs p):=by
 have:=List.sizeOf_lt_of_mem h
 simp;omega
theorem Ex.lt_alt (h:a∈al):SizeOf.sizeOf a<SizeOf.sizeOf (Ex.mk k s n t ks al bs p):=by
 have:=List.sizeOf_lt_of_mem h
 simp;omega
theorem Ex.lt_bind (h:b∈bs):SizeOf.sizeOf b<SizeOf.sizeOf (Ex.mk k s n t ks al bs p):=by
 have:=List.sizeOf_lt_of_mem h
 simp;omega
theorem Al.lt_e (a:Al):SizeOf.sizeOf a.e<SizeOf.sizeOf a:=by cases a;simp [Al.e];omega
theorem Bi.lt_e (a:Bi):SizeOf.sizeOf a.e<SizeOf.sizeOf a:=by cases a;simp [Bi.e];omega
end
def Ex.parts:Ex→List Ex
 | .mk k _ _ _ ks al bs _=>(if k=7 then [] else ks)++bs.map Bi.e++(if k=7 then ks else [])++al.map Al.e
theorem Ex.lt_part {e x:Ex} (h:x∈e.parts):SizeOf.sizeOf x<SizeOf.sizeOf e:=by
 obtain ⟨k,s,n,t,ks,al,bs,p⟩:=e
 simp only [Ex.parts,List.mem_append,List.mem_map] at h
 rcases h with ((h|⟨b,hb,rfl⟩)|h)|⟨a,ha,rfl⟩
 ·split at h
  ·simp at h
  exact Ex.lt_kid h
 ·exact Nat.lt_trans (Bi.lt_e b) (Ex.lt_bind hb)
 ·split at h
  ·exact Ex.lt_kid h
  simp at h
 exact Nat.lt_trans (Al.lt_e a) (Ex.lt_alt ha)
def Ex.sz (e:Ex):Nat:=1+(e.parts.attach.map fun x=>Ex.sz x.1).sum
termination_by SizeOf.sizeOf e
decreasing_by exact Ex.lt_part x.2
def maxOf:List Nat→Nat
 | []=>0
 | x::xs=>max x (maxOf xs)
def Ex.dp (e:Ex):Nat:=1+maxOf (e.parts.attach.map fun x=>Ex.dp x.1)
termination_by SizeOf.sizeOf e
decreasing_by exact Ex.lt_part x.2
theorem sum_mem {l:List Nat} {x:Nat} (h:x∈l):x≤l.sum:=by
 induction l with
 | nil=>simp at h
 | cons y l ih =>
  simp only [List.sum_cons]
  rcases List.mem_cons.1 h with rfl|h
  ·omega
  have:=ih h;omega
theorem sum_take {l:List Nat} {i x:Nat} (h:l[i]?=some x):(l.take (i+1)).sum=(l.take i).sum+x:=by
 rw [List.take_add_one,h];simp
theorem sum_take_le (l:List Nat) (i:Nat):(l.take i).sum≤l.sum:=by
 have:=congrArg List.sum (List.take_append_drop i l)
 rw [List.sum_append] at this;omega
abbrev Txt:=ByteArray
mutual
def Pa.names:Pa→List Txt
 | .mk k s _ ks _=>(if k=2 then [s] else [])++Pa.namess ks
def Pa.namess:List Pa→List Txt
 | []=>[]
 | t::ts=>t.names++Pa.namess ts
end
mutual
def Pa.size:Pa→Nat
 | .mk _ _ _ ks _=>1+Pa.sizes ks
def Pa.sizes:List Pa→Nat
 | []=>0
 | t::ts=>t.size+Pa.sizes ts
end
theorem Pa.sizes_map:∀ ts:List Pa,Pa.sizes ts=(ts.map Pa.size).sum
 | []=>by simp [Pa.sizes]
 | t::ts=>by simp [Pa.sizes,Pa.sizes_map ts]
theorem Pa.namess_flat:∀ ts:List Pa,Pa.namess ts=(ts.map Pa.names).flatten
 | []=>by simp [Pa.namess]
 | t::ts=>by simp [Pa.namess,Pa.namess_flat ts]
mutual
theorem Pa.names_len:∀ q:Pa,q.names.length≤q.size
 | .mk k s n ks p=>by
  have:=Pa.namess_len ks
  rw [Pa.names,Pa.size,List.length_append]
  split <;> simp <;> omega
theorem Pa.namess_len:∀ qs:List Pa,(Pa.namess qs).length≤Pa.sizes qs
 | []=>by simp [Pa.namess]
 | q::qs=>by
  have h1:=Pa.names_len q
  have h2:=Pa.namess_len qs
  rw [Pa.namess,Pa.sizes,List.length_append];omega
end
theorem Pa.size_kid {x:Pa} {ks:List Pa} (h:x∈ks):x.size≤Pa.sizes ks:=by
 rw [Pa.sizes_map];exact sum_mem (List.mem_map.2 ⟨x,h,rfl⟩)
theorem Pa.namess_take {ts:List Pa} {i:Nat} {x:Pa} (h:ts[i]?=some x):Pa.namess (ts.take (i+1))=Pa.namess (ts.take i)++x.names:=by
 rw [Pa.namess_flat,Pa.namess_flat,List.take_add_one,h];simp
theorem Pa.sizes_take {ts:List Pa} {i:Nat} {x:Pa} (h:ts[i]?=some x):Pa.sizes (ts.take i)+x.size≤Pa.sizes ts:=by
 have h1:(ts.map Pa.size)[i]?=some x.size:=by simp [h]
 have h2:=sum_take h1
 have h3:=sum_take_le (ts.map Pa.size) (i+1)
 rw [Pa.sizes_map,Pa.sizes_map,List.map_take];omega
mutual
def Ex.w:Ex→Nat
 | .mk _ _ _ _ ks al bs _=>1+Ex.ws ks+Al.ws al+Bi.ws bs
def Ex.ws:List Ex→Nat
 | []=>0
 | t::ts=>t.w+Ex.ws ts
def Al.w:Al→Nat
 | .mk q e=>q.size+e.w
def Al.ws:List Al→Nat
 | []=>0
 | t::ts=>t.w+Al.ws ts
def Bi.w:Bi→Nat
 | .mk _ e _=>1+e.w
def Bi.ws:List Bi→Nat
 | []=>0
 | t::ts=>t.w+Bi.ws ts
end
theorem Ex.ws_map:∀ ts:List Ex,Ex.ws ts=(ts.map Ex.w).sum
 | []=>by simp [Ex.ws]
 | t::ts=>by simp [Ex.ws,Ex.ws_map ts]
theorem Al.ws_map:∀ ts:List Al,Al.ws ts=(ts.map Al.w).sum
 | []=>by simp [Al.ws]
 | t::ts=>by simp [Al.ws,Al.ws_map ts]
theorem Bi.ws_map:∀ ts:List Bi,Bi.ws ts=(ts.map Bi.w).sum
 | []=>by simp [Bi.ws]
 | t::ts=>by simp [Bi.ws,Bi.ws_map ts]
theorem sum_at {α:Type} (f:α→Nat) {ts:List α} {i:Nat} {x:α} (h:ts[i]?=some x):((ts.take i).map f).sum+f x≤(ts.map f).sum∧((ts.take (i+1)).map f).sum=((ts.take i).map f).sum+f x:=by
 have h1:(ts.map f)[i]?=some (f x):=by simp [h]
 have h2:=sum_take h1
 have h3:=sum_take_le (ts.map f) (i+1)
 rw [← List.map_take] at h2
 rw [← List.map_take] at h2 h3
 omega
theorem Bi.len_ws (ts:List Bi):ts.length≤Bi.ws ts:=by
 induction ts with
 | nil=>simp [Bi.ws]
 | cons t ts ih=>cases t;rw [Bi.ws,Bi.w,List.length_cons];omega
abbrev Bi.names (bs:List Bi):List Txt:=bs.map Bi.s
mutual
noncomputable def Ex.fr:Ex→List Txt→List Txt→List Txt
 | .mk k s n _ ks al bs _,bd,out =>
  Al.frs al bd (if k=7 then (if n=1 then Ex.frs ks (bd++Bi.names bs) (Bi.frs bs (bd++Bi.names bs) (if k=3∧s∉bd∧s∉out then out++[s] else out)) else Ex.frs ks (bd++Bi.names bs) (Bi.frs bs bd (if k=3∧s∉bd∧s∉out then out++[s] else out)))
   else if k=6 then Bi.frs bs bd (Ex.frs ks (bd++[s]) (if k=3∧s∉bd∧s∉out then out++[s] else out))
   else Bi.frs bs bd (Ex.frs ks bd (if k=3∧s∉bd∧s∉out then out++[s] else out)))
noncomputable def Ex.frs:List Ex→List Txt→List Txt→List Txt
 | [],_,out=>out
 | t::ts,bd,out=>Ex.frs ts bd (t.fr bd out)
noncomputable def Al.fr:Al→List Txt→List Txt→List Txt
 | .mk q e,bd,out=>e.fr (bd++q.names) out
noncomputable def Al.frs:List Al→List Txt→List Txt→List Txt
 | [],_,out=>out
 | t::ts,bd,out=>Al.frs ts bd (t.fr bd out)
noncomputable def Bi.fr:Bi→List Txt→List Txt→List Txt
 | .mk _ e _,bd,out=>e.fr bd out
noncomputable def Bi.frs:List Bi→List Txt→List Txt→List Txt
 | [],_,out=>out
 | t::ts,bd,out=>Bi.frs ts bd (t.fr bd out)
end
theorem Ex.frs_app (bd:List Txt):∀ (a b:List Ex) (out:List Txt),Ex.frs (a++b) bd out=Ex.frs b bd (Ex.frs a bd out)
 | [],b,out=>by simp [Ex.frs]
 | t::a,b,out=>by simp only [List.cons_append,Ex.frs];exact Ex.frs_app bd a b _
theorem Al.frs_app (bd:List Txt):∀ (a b:List Al) (out:List Txt),Al.frs (a++b) bd out=Al.frs b bd (Al.frs a bd out)
 | [],b,out=>by simp [Al.frs]
 | t::a,b,out=>by simp only [List.cons_append,Al.frs];exact Al.frs_app bd a b _
theorem Bi.frs_app (bd:List Txt):∀ (a b:List Bi) (out:List Txt),Bi.frs (a++b) bd out=Bi.frs b bd (Bi.frs a bd out)
 | [],b,out=>by simp [Bi.frs]
 | t::a,b,out=>by simp only [List.cons_append,Bi.frs];exact Bi.frs_app bd a b _
theorem Ex.frs_take {bd out:List Txt} {ts:List Ex} {i:Nat} {x:Ex} (h:ts[i]?=some x):Ex.frs (ts.take (i+1)) bd out=x.fr bd (Ex.frs (ts.take i) bd out):=by
 rw [List.take_add_one,h,Ex.frs_app];simp [Ex.frs]
theorem Al.frs_take {bd out:List Txt} {ts:List Al} {i:Nat} {x:Al} (h:ts[i]?=some x):Al.frs (ts.take (i+1)) bd out=x.fr bd (Al.frs (ts.take i) bd out):=by
 rw [List.take_add_one,h,Al.frs_app];simp [Al.frs]
theorem Bi.frs_take {bd out:List Txt} {ts:List Bi} {i:Nat} {x:Bi} (h:ts[i]?=some x):Bi.frs (ts.take (i+1)) bd out=x.fr bd (Bi.frs (ts.take i) bd out):=by
 rw [List.take_add_one,h,Bi.frs_app];simp [Bi.frs]
mutual
theorem Ex.fr_len:∀ (e:Ex) (bd out:List Txt),(e.fr bd out).length≤out.length+e.w
 | .mk k s n t ks al bs p,bd,out=>by
  rw [Ex.fr,Ex.w]
  have h0:(if k=3∧s∉bd∧s∉out then out++[s] else out).length≤out.length+1:=by split <;> simp
  generalize (if k=3∧s∉bd∧s∉out then out++[s] else out)=o1 at h0
  refine Nat.le_trans (Al.frs_len al _ _) ?_
  have h1:=fun b1 b2=>Ex.frs_len ks b1 (Bi.frs bs b2 o1)
  have h2:=fun b2=>Bi.frs_len bs b2 o1
  have h3:=fun b1 b2=>Bi.frs_len bs b1 (Ex.frs ks b2 o1)
  have h4:=fun b2=>Ex.frs_len ks b2 o1
  split
  ·split
   ·have:=h1 (bd++Bi.names bs) (bd++Bi.names bs);have:=h2 (bd++Bi.names bs);omega
   have:=h1 (bd++Bi.names bs) bd;have:=h2 bd;omega
  split
  ·have:=h3 bd (bd++[s]);have:=h4 (bd++[s]);omega
  have:=h3 bd bd;have:=h4 bd;omega
theorem Ex.frs_len:∀ (es:List Ex) (bd out:List Txt),(Ex.frs es bd out).length≤out.length+Ex.ws es
 | [],bd,out=>by simp [Ex.frs]
 | e::es,bd,out=>by
  have h1:=Ex.fr_len e bd out
  have h2:=Ex.frs_len es bd (e.fr bd out)
  rw [Ex.frs,Ex.ws];omega
theorem Al.fr_len:∀ (e:Al) (bd out:List Txt),(e.fr bd out).length≤out.length+e.w
 | .mk q e,bd,out=>by
  have h1:=Ex.fr_len e (bd++q.names) out
  rw [Al.fr,Al.w];omega
theorem Al.frs_len:∀ (es:List Al) (bd out:List Txt),(Al.frs es bd out).length≤out.length+Al.ws es
 | [],bd,out=>by simp [Al.frs]
 | e::es,bd,out=>by
  have h1:=Al.fr_len e bd out
  have h2:=Al.frs_len es bd (e.fr bd out)
  rw [Al.frs,Al.ws];omega
theorem Bi.fr_len:∀ (e:Bi) (bd out:List Txt),(e.fr bd out).length≤out.length+e.w
 | .mk _ e _,bd,out=>by
  have h1:=Ex.fr_len e bd out
  rw [Bi.fr,Bi.w];omega
theorem Bi.frs_len:∀ (es:List Bi) (bd out:List Txt),(Bi.frs es bd out).length≤out.length+Bi.ws es
 | [],bd,out=>by simp [Bi.frs]
 | e::es,bd,out=>by
  have h1:=Bi.fr_len e bd out
  have h2:=Bi.frs_len es bd (e.fr bd out)
  rw [Bi.frs,Bi.ws];omega
end
def Ty.kn:Ty→Nat|.mk _ _ _ ks=>ks.length
def Pa.kn:Pa→Nat|.mk _ _ _ ks _=>ks.length
mutual
def Ex.cnt:Ex→Int→Int
 | .mk _ _ _ t ks al bs _,m=>Al.cnts al m (Bi.cnts bs m (Ex.cnts ks m (1+t.kn)))
def Ex.cnts:List Ex→Int→Int→Int
 | [],_,n=>n
 | x::xs,m,n=>if n<m then Ex.cnts xs m (n+x.cnt (m - n)) else n
def Bi.cnt:Bi→Int→Int
 | .mk _ e _,m=>1+e.cnt m
def Bi.cnts:List Bi→Int→Int→Int
 | [],_,n=>n
 | x::xs,m,n=>if n<m then Bi.cnts xs m (n+x.cnt (m - n)) else n
def Al.cnt:Al→Int→Int
 | .mk q e,m=>1+e.cnt m+q.kn
def Al.cnts:List Al→Int→Int→Int
 | [],_,n=>n
 | x::xs,m,n=>if n<m then Al.cnts xs m (n+x.cnt (m - n)) else n
end
def I64 (x:Int):Prop := -9223372036854775808≤x∧x≤9223372036854775807
theorem I64.of {x:Int} (h:IntKind.i64.min≤x∧x≤IntKind.i64.max):I64 x:=by
 have h1:IntKind.i64.min = -9223372036854775808:=by decide
 have h2:IntKind.i64.max=9223372036854775807:=by decide
 rw [h1,h2] at h;exact h
inductive Pr where
 | mk (c:ByteArray) (t:Ty)
def Pr.cells:Pr→List AV
 | .mk c t=>.val (.string c)::t.cells
def Pr.c:Pr→ByteArray|.mk c _=>c
def Pr.t:Pr→Ty|.mk _ t=>t
def Pr.cellss (l:List Pr):List (List AV):=l.map Pr.cells
theorem Pr.cellss_map (l:List Pr):Pr.cellss l=l.map Pr.cells:=rfl
theorem Pr.cellss_len (l:List Pr):(Pr.cellss l).length=l.length:=by simp [Pr.cellss]
theorem Pr.cellss_get {l:List Pr} {i:Nat} {x:Pr} (h:l[i]?=some x):(Pr.cellss l)[i]?=some x.cells:=by simp [Pr.cellss,h]
inductive Cn where
 | mk (s:ByteArray) (ts:List Ty) (p:Int)
def Cn.cells:Cn→List AV
 | .mk s ts p=>.val (.string s)::.seq 4 (Ty.cellss ts)::[.val (.int .i64 p)]
def Cn.s:Cn→ByteArray|.mk s _ _=>s
def Cn.ts:Cn→List Ty|.mk _ ts _=>ts
def Cn.p:Cn→Int|.mk _ _ p=>p
def Cn.cellss (l:List Cn):List (List AV):=l.map Cn.cells
theorem Cn.cellss_map (l:List Cn):Cn.cellss l=l.map Cn.cells:=rfl
theorem Cn.cellss_len (l:List Cn):(Cn.cellss l).length=l.length:=by simp [Cn.cellss]
theorem Cn.cellss_get {l:List Cn} {i:Nat} {x:Cn} (h:l[i]?=some x):(Cn.cellss l)[i]?=some x.cells:=by simp [Cn.cellss,h]
inductive Da where
 | mk (s:ByteArray) (ps:List ByteArray) (cs:List Cn) (dv:List ByteArray) (p:Int)
def Da.cells:Da→List AV
 | .mk s ps cs dv p=>.val (.string s)::.seq 1 (strs ps)::.seq 3 (Cn.cellss cs)::.seq 1 (strs dv)::[.val (.int .i64 p)]
def Da.s:Da→ByteArray|.mk s _ _ _ _=>s
def Da.ps:Da→List ByteArray|.mk _ ps _ _ _=>ps
def Da.cs:Da→List Cn|.mk _ _ cs _ _=>cs
def Da.dv:Da→List ByteArray|.mk _ _ _ dv _=>dv
def Da.p:Da→Int|.mk _ _ _ _ p=>p
def Da.cellss (l:List Da):List (List AV):=l.map Da.cells
theorem Da.cellss_map (l:List Da):Da.cellss l=l.map Da.cells:=rfl
theorem Da.cellss_len (l:List Da):(Da.cellss l).length=l.length:=by simp [Da.cellss]
theorem Da.cellss_get {l:List Da} {i:Nat} {x:Da} (h:l[i]?=some x):(Da.cellss l)[i]?=some x.cells:=by simp [Da.cellss,h]
inductive Me where
 | mk (s:ByteArray) (t:Ty) (p:Int)
def Me.cells:Me→List AV
 | .mk s t p=>.val (.string s)::t.cells++([.val (.int .i64 p)])
def Me.s:Me→ByteArray|.mk s _ _=>s
def Me.t:Me→Ty|.mk _ t _=>t
def Me.p:Me→Int|.mk _ _ p=>p
def Me.cellss (l:List Me):List (List AV):=l.map Me.cells
theorem Me.cellss_map (l:List Me):Me.cellss l=l.map Me.cells:=rfl
theorem Me.cellss_len (l:List Me):(Me.cellss l).length=l.length:=by simp [Me.cellss]
theorem Me.cellss_get {l:List Me} {i:Nat} {x:Me} (h:l[i]?=some x):(Me.cellss l)[i]?=some x.cells:=by simp [Me.cellss,h]
inductive Cl where
 | mk (s:ByteArray) (v:ByteArray) (su:List ByteArray) (ms:List Me) (ds:List Bi) (p:Int)
def Cl.cells:Cl→List AV
 | .mk s v su ms ds p=>.val (.string s)::.val (.string v)::.seq 1 (strs su)::.seq 6 (Me.cellss ms)::.seq 13 (Bi.cellss ds)::[.val (.int .i64 p)]
def Cl.s:Cl→ByteArray|.mk s _ _ _ _ _=>s
def Cl.v:Cl→ByteArray|.mk _ v _ _ _ _=>v
def Cl.su:Cl→List ByteArray|.mk _ _ su _ _ _=>su
def Cl.ms:Cl→List Me|.mk _ _ _ ms _ _=>ms
def Cl.ds:Cl→List Bi|.mk _ _ _ _ ds _=>ds
def Cl.p:Cl→Int|.mk _ _ _ _ _ p=>p
def Cl.cellss (l:List Cl):List (List AV):=l.map Cl.cells
theorem Cl.cellss_map (l:List Cl):Cl.cellss l=l.map Cl.cells:=rfl
theorem Cl.cellss_len (l:List Cl):(Cl.cellss l).length=l.length:=by simp [Cl.cellss]
theorem Cl.cellss_get {l:List Cl} {i:Nat} {x:Cl} (h:l[i]?=some x):(Cl.cellss l)[i]?=some x.cells:=by simp [Cl.cellss,h]
inductive In where
 | mk (c:ByteArray) (hd:Ty) (cx:List Pr) (bs:List Bi) (p:Int)
def In.cells:In→List AV
 | .mk c hd cx bs p=>.val (.string c)::hd.cells++(.seq 5 (Pr.cellss cx)::.seq 13 (Bi.cellss bs)::[.val (.int .i64 p)])
def In.c:In→ByteArray|.mk c _ _ _ _=>c
def In.hd:In→Ty|.mk _ hd _ _ _=>hd
def In.cx:In→List Pr|.mk _ _ cx _ _=>cx
def In.bs:In→List Bi|.mk _ _ _ bs _=>bs
def In.p:In→Int|.mk _ _ _ _ p=>p
def In.cellss (l:List In):List (List AV):=l.map In.cells
theorem In.cellss_map (l:List In):In.cellss l=l.map In.cells:=rfl
theorem In.cellss_len (l:List In):(In.cellss l).length=l.length:=by simp [In.cellss]
theorem In.cellss_get {l:List In} {i:Nat} {x:In} (h:l[i]?=some x):(In.cellss l)[i]?=some x.cells:=by simp [In.cellss,h]
inductive Pg where
 | mk (da:List Da) (cl:List Cl) (ins:List In) (bs:List Bi)
def Pg.cells:Pg→List AV
 | .mk da cl ins bs=>.seq 5 (Da.cellss da)::.seq 6 (Cl.cellss cl)::.seq 8 (In.cellss ins)::[.seq 13 (Bi.cellss bs)]
def Pg.da:Pg→List Da|.mk da _ _ _=>da
def Pg.cl:Pg→List Cl|.mk _ cl _ _=>cl
def Pg.ins:Pg→List In|.mk _ _ ins _=>ins
def Pg.bs:Pg→List Bi|.mk _ _ _ bs=>bs
def Pg.cellss (l:List Pg):List (List AV):=l.map Pg.cells
theorem Pg.cellss_map (l:List Pg):Pg.cellss l=l.map Pg.cells:=rfl
theorem Pg.cellss_len (l:List Pg):(Pg.cellss l).length=l.length:=by simp [Pg.cellss]
theorem Pg.cellss_get {l:List Pg} {i:Nat} {x:Pg} (h:l[i]?=some x):(Pg.cellss l)[i]?=some x.cells:=by simp [Pg.cellss,h]
inductive En where
 | mk (da:List Da) (cl:List Cl) (ins:List In)
def En.cells:En→List AV
 | .mk da cl ins=>.seq 5 (Da.cellss da)::.seq 6 (Cl.cellss cl)::[.seq 8 (In.cellss ins)]
def En.da:En→List Da|.mk da _ _=>da
def En.cl:En→List Cl|.mk _ cl _=>cl
def En.ins:En→List In|.mk _ _ ins=>ins
def En.cellss (l:List En):List (List AV):=l.map En.cells
theorem En.cellss_map (l:List En):En.cellss l=l.map En.cells:=rfl
theorem En.cellss_len (l:List En):(En.cellss l).length=l.length:=by simp [En.cellss]
theorem En.cellss_get {l:List En} {i:Nat} {x:En} (h:l[i]?=some x):(En.cellss l)[i]?=some x.cells:=by simp [En.cellss,h]
theorem rel_agg' {F:EH} {v:Value} {cs:List AV} (hl:cs.length≠1) (h:Rels F cs v.cells.toList) (h1:Ones v.cells.toList):Rel F (.agg cs) v:=by
 refine rel_agg ?_ h h1
 have:=h.len
 cases v <;> first|exact ⟨_,rfl⟩|(exfalso;exact hl (by rw [this];rfl))
theorem cellsOf_cn:Tryd.prog.cellsOf 47=3:=by kernel_rfl
theorem shape_cn {fuel:Nat} {cs:List AV} (h:ShapeC Tryd.prog fuel 47 cs):∃ t:Cn,cs=t.cells:=by
 obtain ⟨n,hn,h⟩:=shape_struct Tryd.underlying47 h
 simp only [ShapeF] at h
 obtain ⟨a1,b1,rfl,h1,a2,b2,rfl,h2,a3,b3,rfl,h3,rfl⟩:=h
 obtain ⟨s,_,rfl⟩:=shape_str tu_9 h1
 obtain ⟨n',es,_,rfl,h5⟩:=shape_slice tu_28 h2
 obtain ⟨ts,rfl⟩:=pick_all (f:=Ty.cells) (fun x hx=>shape_ty _ _ (h5 x hx))
 obtain ⟨p,_,rfl⟩:=shape_int tu_3 h3
 exact ⟨.mk s ts p,by rw [cellsOf_ty,← Ty.cellss_map];simp [Cn.cells]⟩
theorem shape_da {fuel:Nat} {cs:List AV} (h:ShapeC Tryd.prog fuel 25 cs):∃ t:Da,cs=t.cells:=by
 obtain ⟨n,hn,h⟩:=shape_struct Tryd.underlying25 h
 simp only [ShapeF] at h
 obtain ⟨a1,b1,rfl,h1,a2,b2,rfl,h2,a3,b3,rfl,h3,a4,b4,rfl,h4,a5,b5,rfl,h5,rfl⟩:=h
 obtain ⟨s,_,rfl⟩:=shape_str tu_9 h1
 obtain ⟨ps,rfl⟩:=shape_strs h2
 obtain ⟨n',es,_,rfl,h6⟩:=shape_slice tu_23 h3
 obtain ⟨cs,rfl⟩:=pick_all (f:=Cn.cells) (fun x hx=>shape_cn (h6 x hx))
 obtain ⟨dv,rfl⟩:=shape_strs h4
 obtain ⟨p,_,rfl⟩:=shape_int tu_3 h5
 exact ⟨.mk s ps cs dv p,by rw [cellsOf_cn,← Cn.cellss_map];simp [Da.cells]⟩
theorem Da.cells_len' (a:Da):a.cells.length=5:=by
 obtain ⟨s,ps,cs,dv,p⟩:=a
 rfl
abbrev S18:List TypeId:=[9,3,22,30,28,47,23,25]
theorem closed18:closedT Tryd.prog S18=true:=by kernel_rfl
def W63 (n:Int):Int:=(n+4611686018427387904) % 9223372036854775808 - 4611686018427387904
theorem W63_bd (n:Int) : -4611686018427387904≤W63 n∧W63 n≤4611686018427387903:=by unfold W63;omega
theorem W63_lo (n:Int) : -4611686018427387904≤W63 n:=(W63_bd n).1
theorem W63_hi (n:Int):W63 n≤4611686018427387903:=(W63_bd n).2
theorem W63_shift (n:Int):wrap64 (n * 2) / 2=W63 n:=by unfold wrap64 W63;omega
end Go.Proofs.YtefbicnoddggnaaDoor
namespace Go.Proofs.YtefbicnoddggnaaDoor
def bytesN (s:ByteArray):List Nat:=s.data.toList.map UInt8.toNat
theorem bytesN_len (s:ByteArray):(bytesN s).length=s.size:=by simp [bytesN]
theorem bytesN_get (s:ByteArray) (k:Nat) (h:k<s.size) (h':k<(bytesN s).length):(bytesN s)[k]=(s[k]).toNat:=by
 simp [bytesN];rfl
def strN (b:List Nat):ByteArray:=strOfNums (b.map fun x:Nat=>(x:Int))
theorem strN_bytesN (s:ByteArray):strN (bytesN s)=s:=by
 apply Go.WideShapes.bytes_inj
 unfold bytesN strN
 rw [strOfNums_data,List.map_map,List.map_map]
 conv=>rhs;rw [← List.map_id s.data.toList]
 apply List.map_congr_left
 intro x _
 simp
def rst (s:ByteArray) (i:Nat):List Nat:=(bytesN s).drop i
theorem rst_len (s:ByteArray) (i:Nat):(rst s i).length=s.size - i:=by unfold rst;rw [List.length_drop,bytesN_len]
theorem rst_nil {s:ByteArray} {i:Nat} (h:s.size≤i):rst s i=[]:=by
 apply List.eq_nil_of_length_eq_zero;rw [rst_len];omega
theorem rst_cons {s:ByteArray} {i:Nat} (h:i<s.size):∃ b:UInt8,s[i]?=some b∧rst s i=b.toNat::rst s (i+1)∧b.toNat<256:=by
 refine ⟨s[i],?_,?_,UInt8.toNat_lt _⟩
 ·simp [h]
 unfold rst
 have h':i<(bytesN s).length:=by rw [bytesN_len];exact h
 rw [List.drop_eq_getElem_cons h',bytesN_get s i h h']
/- what bytes are -/
def smallC (c:Nat):Bool:=(97≤c && c≤122) || c == 95
def greatC (c:Nat):Bool:=65≤c && c≤90
def digitC (c:Nat):Bool:=48≤c && c≤57
def nameC (c:Nat):Bool:=smallC c || greatC c || digitC c || c == 39
def signL:List Nat:=[33,36,37,38,42,43,46,47,60,61,62,63,64,94,124,126,58,45]
def signC (c:Nat):Bool:=signL.contains c
def blankC (c:Nat):Bool:=c == 32 || c == 9 || c == 10 || c == 13
def kindC (k c:Nat):Bool:=if k=1 then nameC c else if k=2 then digitC c else signC c
def run (k:Nat):List Nat→Nat
 | []=>0
 | c::l=>if kindC k c=true then run k l+1 else 0
/- characters -/
def cont:Nat→Int→List Nat→Option Int
 | 0,v,_=>some v
 | _+1,_,[]=>none
 | n+1,v,d::l=>if d<128∨191<d then none else cont n (64 * v+d - 128) l
def utfN (c:Nat):Nat:=if c<192 then 0 else if c<224 then 2 else if c<240 then 3 else if c<248 then 4 else 0
def utfV (c:Nat):Int:=if c<192 then 0 else if c<224 then c - 192 else if c<240 then c - 224 else if c<248 then c - 240 else 0
def utfM (c:Nat):Int:=if c<192 then 0 else if c<224 then 128 else if c<240 then 2048 else if c<248 then 65536 else 0
def utfL:List Nat→Nat
 | []=>0
 | c::l=>if c<128 then 1 else if utfN c=0∨l.length+1<utfN c then 0 else
  match cont (utfN c - 1) (utfV c) l with
  | none=>0
  | some v=>if v<utfM c∨1114111<v∨(55296≤v∧v≤57343) then 0 else utfN c
theorem utfN_le (c:Nat):utfN c≤4:=by unfold utfN;repeat' split <;> try omega
theorem utfL_cons (c:Nat) (l:List Nat):utfL (c::l)=if c<128 then 1 else if utfN c=0∨l.length+1<utfN c then 0 else
    match cont (utfN c - 1) (utfV c) l with
    | none=>0
    | some v=>if v<utfM c∨1114111<v∨(55296≤v∧v≤57343) then 0 else utfN c:=rfl
/- texts -/
def unesc (c:Nat):Option Nat:=if c=110 then some 10 else if c=116 then some 9 else if c=34∨c=92 then some c else none
def txL:List Nat→Option (List Nat × Nat)
 | []=>none
 | c::l=>if c=34 then some ([],1) else if c=10 then none else if c=92 then
     match l with
     | []=>none
     | d::l'=>match unesc d with
      | none=>none
      | some x=>(txL l').map fun r=>(x::r.1,r.2+2)
  else (txL l).map fun r=>(c::r.1,r.2+1)

/- tokens -/
structure Tok where
 k:Int
 t:ByteArray
 n:Int
 a:Int
deriving DecidableEq
def Tok.cells (t:Tok):List Value:=[.int .i64 t.k,.string t.t,.int .i64 t.n,.int .i64 t.a]
def tok0 (a:Int):Tok:=⟨0,⟨#[]⟩,0,a⟩
def keysL:List ByteArray:=[⟨#[100,97,116,97]⟩,⟨#[99,108,97,115,115]⟩,⟨#[105,110,115,116,97,110,99,101]⟩,⟨#[102,114,111,109]⟩,⟨#[119,104,101,114,101]⟩,⟨#[101,110,100]⟩,⟨#[100,101,114,105,118,105,110,103]⟩,⟨#[100,101,102]⟩,⟨#[108,101,116]⟩,⟨#[114,101,99]⟩,⟨#[97,110,100]⟩,⟨#[105,110]⟩,⟨#[99,97,115,101]⟩,⟨#[111,102]⟩,⟨#[105,102]⟩,⟨#[116,104,101,110]⟩,⟨#[101,108,115,101]⟩]
def marksL:List ByteArray:=[⟨#[40]⟩,⟨#[41]⟩,⟨#[44]⟩,⟨#[59]⟩,⟨#[92]⟩,⟨#[95]⟩,⟨#[61]⟩,⟨#[45,62]⟩,⟨#[124]⟩,⟨#[58]⟩]
def amongB (s:ByteArray) (l:List ByteArray):Bool:=l.any fun x=>decide (x=s)
def keyT (s:ByteArray):Bool:=amongB s keysL
def markT (s:ByteArray):Bool:=amongB s marksL
def zeros:List Nat→Nat
 | []=>0
 | c::l=>if c=48∧l≠[] then zeros l+1 else 0
def valO:Nat→List Nat→Option Nat
 | n,[]=>some n
 | n,d::l=>if 4611686018427387904<(10 * n+(d - 48)) % 18446744073709551616 then none else valO ((10 * n+(d - 48)) % 18446744073709551616) l
def parL (l:List Nat):Option Nat:=match valO 0 l with
 | none=>none
 | some n=>if n=4611686018427387904 then none else some n
def kindT (c:Nat) (w:ByteArray):Int:=if markT w=true then 7 else if keyT w=true then 6 else if signC c=true then 5 else if greatC c=true then 2 else 1
def oneL (at_:Int):List Nat→Tok × Int × Int
 | []=>(tok0 at_,0,0)
 | c::r =>
  if c=34 then
   match txL r with
   | none=>(tok0 at_,0,103)
   | some x=>(⟨4,strN x.1,0,at_⟩,at_+1+x.2,0)
  else if digitC c=true then
   let d:=(c::r).take (run 2 (c::r))
   let z:=d.drop (zeros d)
   match parL z with
   | none=>(tok0 at_,0,102)
   | some v=>(⟨3,strN z,v,at_⟩,at_+run 2 (c::r),0)
  else
   let k:=if smallC c=true∨greatC c=true then run 1 (c::r) else if signC c=true then run 3 (c::r) else 1
   let w:=strN ((c::r).take k)
   if ¬ (smallC c=true∨greatC c=true∨signC c=true)∧markT w=false then (tok0 at_,0,101)
   else if 40<k then (⟨0,w,0,at_⟩,0,104)
   else (⟨kindT c w,w,0,at_⟩,at_+k,0)
structure PS where
 at_:Nat
 lv:Int
 e:Int
 wh:Int
deriving DecidableEq
def nxt (L:List Tok) (p:PS):Tok:=if p.e≠0 then tok0 0 else (L[p.at_]?).getD (tok0 0)
def failP (p:PS) (e wh:Int):PS:=if p.e=0 then { p with e:=e,wh:=wh } else p
def isP (L:List Tok) (p:PS) (s:ByteArray):Bool:=decide (6≤(nxt L p).k∧(nxt L p).t=s)
def stepP (p:PS):PS:={ p with at_:=p.at_+1 }
def takeP (L:List Tok) (p:PS) (kind:Int) (s:ByteArray):Tok × PS :=
 if p.e≠0 then (nxt L p,p)
 else if (kind<6∧(nxt L p).k≠kind)∨(6≤kind∧((nxt L p).k<6∨(nxt L p).t≠s)) then (tok0 0,failP p 110 (nxt L p).a)
 else (nxt L p,stepP p)
def rowsT:List (List (List UInt8)):=[[[58,61]],[[124,124]],[[38,38]],[[61,61],[47,61],[60],[60,61],[62],[62,61]],[[58,58],[94]],[[43],[45]],[[42],[47],[37]]]
def lvl (op:List UInt8):Nat:=rowsT.findIdx (fun r=>r.contains op)+1
def sideN (l:Nat):Nat:=if l=4 then 0 else if l<6 then 2 else 1
abbrev kE:ByteArray:=⟨#[]⟩
abbrev kLP:ByteArray:=⟨#[40]⟩
abbrev kBack:ByteArray:=⟨#[92]⟩
abbrev kUn:ByteArray:=⟨#[95]⟩
abbrev kArrow:ByteArray:=⟨#[45,62]⟩
abbrev kBar:ByteArray:=⟨#[124]⟩
abbrev kEnd:ByteArray:=⟨#[101,110,100]⟩
abbrev kCase:ByteArray:=⟨#[99,97,115,101]⟩
abbrev kOf:ByteArray:=⟨#[111,102]⟩
abbrev kAA:ByteArray:=⟨#[38,38]⟩
def ty0:Ty:=.mk 0 kE 0 []
section
variable (L:List Tok)
def startsP (what:Int) (p:PS):Prop :=
 (nxt L p).k=1∨(nxt L p).k=2∨isP L p kLP=true∨(1≤what∧(nxt L p).k=3)∨(what=1∧isP L p kUn=true)∨(what=2∧((nxt L p).k=4∨isP L p kCase=true))
instance (what:Int) (p:PS):Decidable (startsP L what p):=by unfold startsP;infer_instance
end
/- operators -/
def opE (k:Int) (ks:List Ex) (a:Int):Ex:=.mk k kE 0 ty0 ks [] [] a
def namE (k:Int) (s:ByteArray) (a:Int):Ex:=.mk k s 0 ty0 [] [] [] a
section
variable (L:List Tok)
/- declarations -/
end
theorem bytesN_app (a b:ByteArray):bytesN (a++b)=bytesN a++bytesN b:=by
 simp [bytesN,ByteArray.data_append]
abbrev Tk:=Int × ByteArray × Int
def Tok.tk (t:Tok):Tk:=(t.k,t.t,t.n)
def Stp (rest:List Nat):Prop:=rest=[]∨∃ r,rest=32::r
structure Pce (w:List Nat) (t:Tk):Prop where
 hd:∃ c r,w=c::r∧c≠35∧blankC c=false
 one:∀ (a:Int) (rest:List Nat),Stp rest→oneL a (w++rest)=(⟨t.1,t.2.1,t.2.2,a⟩,a+w.length,0)
theorem run_stp (k:Nat):∀ (w rest:List Nat),(∀ c∈w,kindC k c=true)→Stp rest→run k (w++rest)=w.length
 | [],rest,_,h=>by
  rcases h with rfl|⟨r,rfl⟩
  ·rfl
  rw [List.nil_append,run]
  have:¬ kindC k 32=true:=by
   unfold kindC
   split
   ·decide
   split
   ·decide
   decide
  rw [if_neg this];rfl
 | c::w,rest,hw,h=>by
  rw [List.cons_append,run,if_pos (hw c by12),run_stp k w rest (fun d hd=>hw d (by simp [hd])) h,List.length_cons]
def oneK (a:Int) (c:Nat) (r:List Nat) (k:Nat):Tok × Int × Int :=
 if ¬ (smallC c=true∨greatC c=true∨signC c=true)∧markT (strN ((c::r).take k))=false then (tok0 a,0,101)
 else if 40<k then (⟨0,strN ((c::r).take k),0,a⟩,0,104)
 else (⟨kindT c (strN ((c::r).take k)),strN ((c::r).take k),0,a⟩,a+k,0)
theorem oneL_cons (a:Int) (c:Nat) (r:List Nat):oneL a (c::r)=if c=34 then
      match txL r with
      | none=>(tok0 a,0,103)
      | some x=>(⟨4,strN x.1,0,a⟩,a+1+x.2,0)
    else if digitC c=true then
     match parL (((c::r).take (run 2 (c::r))).drop (zeros ((c::r).take (run 2 (c::r))))) with
     | none=>(tok0 a,0,102)
     | some v=>(⟨3,strN (((c::r).take (run 2 (c::r))).drop (zeros ((c::r).take (run 2 (c::r))))),v,a⟩,a+run 2 (c::r),0)
    else oneK a c r (if smallC c=true∨greatC c=true then run 1 (c::r) else if signC c=true then run 3 (c::r) else 1):=rfl
theorem small_not {c:Nat} (h:smallC c=true∨greatC c=true):c≠34∧digitC c=false∧c≠35∧blankC c=false:=by
 simp only [smallC,greatC,digitC,blankC,Bool.or_eq_true,Bool.and_eq_true,decide_eq_true_eq,beq_iff_eq,Bool.and_eq_false_iff,decide_eq_false_iff_not,Bool.or_eq_false_iff,beq_eq_false_iff_ne] at *
 omega
theorem pce_word {c:Nat} {r:List Nat} (hc:smallC c=true∨greatC c=true) (hr:∀ d∈r,nameC d=true) (hl:r.length+1≤40):Pce (c::r) (kindT c (strN (c::r)),strN (c::r),0):=by
 obtain ⟨h1,h2,h3,h4⟩:=small_not hc
 refine ⟨⟨c,r,O,h3,h4⟩,fun a rest hs=>?_⟩
 have hrun:run 1 (c::r++rest)=(c::r).length:=run_stp 1 (c::r) rest (fun d hd=>by
  rcases List.mem_cons.1 hd with rfl|hd
  ·show nameC d=true
   unfold nameC
   rcases hc with hc|hc <;> rw [hc] <;> simp
  exact hr d hd) hs
 rw [List.cons_append] at hrun ⊢
 rw [oneL_cons,if_neg h1,if_neg (by rw [h2];decide),if_pos hc,hrun,oneK]
 rw [if_neg (fun q=>q.1 (hc.elim .inl (fun q=>.inr (.inl q)))),if_neg (by simp only [List.length_cons];omega)]
 have ht:(c::(r++rest)).take (c::r).length=c::r:=by
  rw [← List.cons_append,List.take_left'];rfl
 rw [ht]
theorem pce_sign {c:Nat} {r:List Nat} (hc:∀ d∈c::r,signC d=true) (hl:r.length+1≤40) (hs0:c≠34∧digitC c=false∧c≠35∧blankC c=false∧smallC c=false∧greatC c=false):Pce (c::r) (kindT c (strN (c::r)),strN (c::r),0):=by
 obtain ⟨h1,h2,h3,h4,h5,h6⟩:=hs0
 refine ⟨⟨c,r,O,h3,h4⟩,fun a rest hs=>?_⟩
 have hrun:run 3 (c::r++rest)=(c::r).length:=run_stp 3 (c::r) rest (fun d hd=>hc d hd) hs
 have hcs:signC c=true:=hc c by12
 rw [List.cons_append] at hrun ⊢
 have hng:¬ (smallC c=true∨greatC c=true):=by rw [h5,h6];simp
 rw [oneL_cons,if_neg h1,if_neg (by rw [h2];decide),if_neg hng,if_pos hcs,hrun,oneK]
 rw [if_neg (fun q=>q.1 (.inr (.inr hcs))),if_neg (by simp only [List.length_cons];omega)]
 have ht:(c::(r++rest)).take (c::r).length=c::r:=by
  rw [← List.cons_append,List.take_left'];rfl
 rw [ht]
/- where the parser stands -/
def Now (L:List Tok) (p:PS) (ts:List Tk):Prop:=p.e=0∧(L.map Tok.tk).drop p.at_=ts
section
variable {L:List Tok} {p:PS} {t:Tk} {ts:List Tk}
theorem Now.len (h:Now L p ts):ts.length≤L.length:=by
 rw [← h.2,List.length_drop,List.length_map];omega
theorem Now.get (h:Now L p (t::ts)):∃ x:Tok,L[p.at_]?=some x∧x.tk=t:=by
 have h1:((L.map Tok.tk).drop p.at_)[0]?=some t:=by rw [h.2];rfl
 rw [List.getElem?_drop,List.getElem?_map,Nat.add_zero] at h1
 cases hx:L[p.at_]? with
 | none=>rw [hx] at h1;simp at h1
 | some x=>rw [hx] at h1;exact ⟨x,rfl,by simpa using h1⟩
theorem Now.nxt (h:Now L p (t::ts)):(nxt L p).tk=t:=by
 obtain ⟨x,h1,h2⟩:=h.get
 unfold Go.Proofs.YtefbicnoddggnaaDoor.nxt
 rw [if_neg (by rw [h.1];decide),h1]
 exact h2
theorem Now.k (h:Now L p (t::ts)):(Go.Proofs.YtefbicnoddggnaaDoor.nxt L p).k=t.1:=by rw [← h.nxt];rfl
theorem Now.tx (h:Now L p (t::ts)):(Go.Proofs.YtefbicnoddggnaaDoor.nxt L p).t=t.2.1:=by rw [← h.nxt];rfl
theorem Now.step (h:Now L p (t::ts)):Now L (stepP p) ts:=by
 refine ⟨h.1,?_⟩
 show (L.map Tok.tk).drop (p.at_+1)=ts
 rw [← List.drop_drop,h.2];rfl
theorem Now.is (h:Now L p (t::ts)) (s:ByteArray):isP L p s=decide (6≤t.1∧t.2.1=s):=by
 unfold isP
 exact decide_eq_decide.2 (by rw [h.k,h.tx])
theorem Now.take (h:Now L p (t::ts)) {kind:Int} {s:ByteArray} (hk:(kind<6∧t.1=kind)∨(6≤kind∧6≤t.1∧t.2.1=s)):takeP L p kind s=(Go.Proofs.YtefbicnoddggnaaDoor.nxt L p,stepP p):=by
 unfold takeP
 rw [if_neg (by rw [h.1];decide),h.k,h.tx,if_neg]
 rintro (⟨h1,h2⟩|⟨h1,h2⟩)
 ·obtain ⟨_,h3⟩|⟨h3,_⟩:=hk
  ·exact h2 h3
  omega
 obtain ⟨h3,_⟩|⟨_,h4,h5⟩:=hk
 ·omega
 rcases h2 with h2|h2
 ·omega
 exact h2 h5
end
/- places -/
/- an operand, and a pattern: a head and what stands behind it -/
abbrev Opd:=Tk × List Tk
def opT (o:Opd):List Tk:=o.1::o.2
def opOk (o:Opd):Prop:=∀ t∈opT o,t.1=1∨t.1=2∨t.1=4
def chT (s:ByteArray):List Opd→List Tk
 | []=>[]
 | y::l=>((5,s,0):Tk)::(opT y++chT s l)
def apOk (t:Tk):Prop:=t.1=1∨(t.1=7∧t.2.1=kUn)
def paOk (o:Opd):Prop:=(o.1.1=2∧∀ t∈o.2,apOk t)∨(apOk o.1∧o.2=[])
inductive Dx where
 | ops (s:ByteArray) (x:Opd) (l:List Opd)
 | cas (h:Opd) (q:Opd) (e:Dx) (l:List (Opd × Dx))
 | lam (ns:List ByteArray) (n:ByteArray) (e:Dx)
mutual
def Dx.tk:Dx→List Tk
 | .ops s x l=>opT x++chT s l
 | .cas h q e l=>((6,kCase,0):Tk)::(opT h++((6,kOf,0):Tk)::(opT q++((7,kArrow,0):Tk)::(e.tk++(Dx.altk l++[((6,kEnd,0):Tk)]))))
 | .lam ns n e=>((7,kBack,0):Tk)::(ns.map (fun m=>((1,m,0):Tk))++((1,n,0):Tk)::((7,kArrow,0):Tk)::e.tk)
def Dx.altk:List (Opd × Dx)→List Tk
 | []=>[]
 |(q,e)::l=>((7,kBar,0):Tk)::(opT q++((7,kArrow,0):Tk)::(e.tk++Dx.altk l))
end
mutual
def Dx.ok:Dx→Prop
 | .ops s x l=>opOk x∧(∀ y∈l,opOk y)∧lvl s.toList≠4∧sideN (lvl s.toList)≠1
 | .cas h q e l=>opOk h∧paOk q∧e.ok∧Dx.oks l
 | .lam _ _ e=>e.ok
def Dx.oks:List (Opd × Dx)→Prop
 | []=>True
 |(q,e)::l=>paOk q∧e.ok∧Dx.oks l
end
mutual
def Dx.dep:Dx→Nat
 | .ops _ _ _=>2
 | .cas _ _ e l=>3+max e.dep (Dx.deps l)
 | .lam _ _ e=>1+e.dep
def Dx.deps:List (Opd × Dx)→Nat
 | []=>0
 |(_,e)::l=>max e.dep (Dx.deps l)
end
section
variable {L:List Tok} {p:PS} {t:Tk} {ts:List Tk} (a:Int)
/- operators -/
/- patterns -/
end
section
variable {L:List Tok} (a:Int)
end
def digs:Nat→Nat→List Int→List Int
 | 0,_,acc=>acc
 | f+1,u,acc=>if u / 10=0 then (48+(u:Int) % 10)::acc else digs f (u / 10) ((48+(u:Int) % 10)::acc)
def txt (z:Int):ByteArray:=strOfNums (if z<0 then 45::digs 20 (-z).toNat [] else digs 20 z.toNat [])
theorem txt_neg {z:Int} (h:z<0) {ds:List Int} (hd:digs 20 (-z).toNat []=ds):txt z=strOfNums (45::ds):=by
 unfold txt;rw [if_pos h,hd]
theorem txt_pos {z:Int} (h:0≤z) {ds:List Int} (hd:digs 20 z.toNat []=ds):txt z=strOfNums ds:=by
 unfold txt;rw [if_neg by11,hd]
structure TextAt (U:Nat) (C:Array Value) (a u:Nat) (acc:List Int):Prop where
 size:C.size=20
 lo:1≤a
 hi:a≤20
 len:acc.length=20 - a
 cells:∀ i,i<acc.length→C[a+i]?=some (.int .u8 (acc.getD i 0))
 small:u<10 ^ (a - 1)
 le:u≤U
 more:a=20∨0<u
 rest:digs a u acc=digs 20 U []
theorem TextAt.start {U:Nat} {C:Array Value} (hC:C.size=20) (h:U<10 ^ 19):TextAt U C 20 U [] :=
 ⟨hC,by omega,by omega,rfl,fun i hi=>by simp at hi,h,Nat.le_refl _,Or.inl rfl,rfl⟩
theorem TextAt.two {U:Nat} {C:Array Value} {a u:Nat} {acc:List Int} (h:TextAt U C a u acc):2≤a:=by
 rcases h.more with e|e
 ·omega
 have hs:=h.small
 have hl:=h.lo
 rcases Nat.lt_or_ge a 2 with k|k
 ·have:a=1:=by omega
  subst this
  simp at hs
  omega
 exact k
theorem cells_put {C:Array Value} {a:Nat} {acc:List Int} {x:Int} (hC:a≤C.size) (ha:1≤a)
    (h:∀ i,i<acc.length→C[a+i]?=some (.int .u8 (acc.getD i 0))) :
    ∀ i,i<(x::acc).length→(C.setIfInBounds (a - 1) (.int .u8 x))[a - 1+i]?=some (.int .u8 ((x::acc).getD i 0)):=by
 intro i hi
 cases i with
 | zero=>rw [Array.getElem?_setIfInBounds];rw [if_pos by11,if_pos by11];simp
 | succ i =>
  simp only [List.length_cons] at hi
  rw [Array.getElem?_setIfInBounds,if_neg by11]
  have:=h i by11
  rw [show a - 1+(i+1)=a+i from by omega,this]
  simp
theorem TextAt.step {U:Nat} {C:Array Value} {a u:Nat} {acc:List Int} (h:TextAt U C a u acc) (hu:u / 10≠0) :
    TextAt U (C.setIfInBounds (a - 1) (.int .u8 (48+(u:Int) % 10))) (a - 1) (u / 10) ((48+(u:Int) % 10)::acc):=by
 have h2:=h.two
 have hs:=h.small
 have hC:=h.size
 have hhi:=h.hi
 obtain ⟨b,rfl⟩:∃ b,a=b+2:=⟨a - 2,by omega⟩
 have hlen:=h.len
 refine ⟨by simp [hC],by omega,by omega,by simp;omega,cells_put by11 by11 h.cells,?_,(by have:=h.le;omega),Or.inr by11,?_⟩
 ·show u / 10<10 ^ (b+2 - 1 - 1)
  have e:(10:Nat) ^ (b+2 - 1)=10 ^ b * 10:=by rw [show b+2 - 1=b+1 from by omega,Nat.pow_succ]
  rw [show b+2 - 1 - 1=b from by omega]
  rw [e] at hs
  generalize (10:Nat) ^ b=z at *
  omega
 have hr:=h.rest
 rw [← hr,show b+2 - 1=b+1 from by omega,show b+2=(b+1)+1 from by omega]
 conv=>rhs;rw [digs,if_neg hu]
theorem TextAt.last {U:Nat} {C:Array Value} {a u:Nat} {acc:List Int} (h:TextAt U C a u acc) (hu:u / 10=0) :
    digs 20 U []=(48+(u:Int) % 10)::acc:=by
 have h2:=h.two
 obtain ⟨b,rfl⟩:∃ b,a=b+1:=⟨a - 1,by omega⟩
 rw [← h.rest,digs,if_pos hu]
/- a token's bytes -/
def tkB (t:Tk):List Nat:=if t.1=4 then 34::(bytesN t.2.1++[34]) else bytesN t.2.1
def TkG (t:Tk):Prop:=Pce (tkB t) t∧∀ c∈tkB t,c<128
def OpdG (o:Opd):Prop:=∀ t∈opT o,TkG t
mutual
def Dx.gd:Dx→Prop
 | .ops s x l=>OpdG x∧(∀ y∈l,OpdG y)∧TkG (5,s,0)
 | .cas h q e l=>OpdG h∧OpdG q∧e.gd∧Dx.gds l
 | .lam _ _ _=>False
def Dx.gds:List (Opd × Dx)→Prop
 | []=>True
 |(q,e)::l=>OpdG q∧e.gd∧Dx.gds l
end
theorem tkg_word {c:Nat} {r:List Nat} {s:ByteArray} {k:Int} (hs:bytesN s=c::r) (hk:k≠4) (hc:smallC c=true∨greatC c=true) (hr:∀ d∈r,nameC d=true) (hl:r.length+1≤40) (hkt:kindT c s=k):TkG (k,s,0):=by
 have he:strN (c::r)=s:=by rw [← hs,strN_bytesN]
 have hp:=pce_word hc hr hl
 rw [he,hkt] at hp
 have hn:∀ d,nameC d=true→d<128:=fun d hd=>by
  simp only [nameC,smallC,greatC,digitC,Bool.or_eq_true,Bool.and_eq_true,decide_eq_true_eq,beq_iff_eq] at hd
  omega
 unfold TkG tkB
 rw [if_neg hk]
 show Pce (bytesN s) _∧∀ c∈bytesN s,c<128
 rw [hs]
 refine ⟨hp,fun d hd=>?_⟩
 rcases List.mem_cons.1 hd with rfl|hd
 ·exact hn d (by unfold nameC;rcases hc with hc|hc <;> rw [hc] <;> simp)
 exact hn d (hr d hd)
theorem tkg_sign {c:Nat} {r:List Nat} {s:ByteArray} {k:Int} (hs:bytesN s=c::r) (hk:k≠4) (hc:∀ d∈c::r,signC d=true) (hl:r.length+1≤40) (h0:c≠34∧digitC c=false∧c≠35∧blankC c=false∧smallC c=false∧greatC c=false) (hkt:kindT c s=k):TkG (k,s,0):=by
 have he:strN (c::r)=s:=by rw [← hs,strN_bytesN]
 have hp:=pce_sign hc hl h0
 rw [he,hkt] at hp
 have hn:∀ d,signC d=true→d<128:=fun d hd=>by
  simp only [signC,signL,List.contains_eq_mem,decide_eq_true_eq,List.mem_cons,List.not_mem_nil,or_false] at hd
  omega
 unfold TkG tkB
 rw [if_neg hk]
 show Pce (bytesN s) _∧∀ c∈bytesN s,c<128
 rw [hs]
 exact ⟨hp,fun d hd=>hn d (hc d hd)⟩
/- the words of the language that are used -/
abbrev kHat:ByteArray:=⟨#[94]⟩
theorem tkg_aa:TkG (5,kAA,0):=tkg_sign (c:=38) (r:=[38]) rfl by10 by10 by10 by10 by9
abbrev kX:ByteArray:=⟨#[120]⟩
abbrev kY:ByteArray:=⟨#[121]⟩
abbrev kR:ByteArray:=⟨#[114]⟩
abbrev kEqN:ByteArray:=⟨#[101,113]⟩
abbrev kCmp:ByteArray:=⟨#[99,111,109,112,97,114,101]⟩
abbrev kShw:ByteArray:=⟨#[115,104,111,119]⟩
abbrev kTrue:ByteArray:=⟨#[84,114,117,101]⟩
abbrev kFalse:ByteArray:=⟨#[70,97,108,115,101]⟩
abbrev kEQ:ByteArray:=⟨#[69,81]⟩
abbrev kLT:ByteArray:=⟨#[76,84]⟩
abbrev kGT:ByteArray:=⟨#[71,84]⟩
section
variable (nm:Nat→ByteArray)
/- the texts, as the document's functions make them; nm k: the number of argument k -/
/- tokens -/
/- bytes of what stands between -/
theorem lit_bl:bytesN ⟨#[32]⟩=[32]:=rfl
/- operands of one word -/
def opD (x:Opd):Dx:=.ops kAA x []
/- Eq -/
end
section
variable (nm:Nat→ByteArray)
/- Ord -/
/- Show -/
/- a whole instance: what is said of each constructor by its place -/
end
structure Fine (B:Nat) (e:Dx):Prop where
 gd:e.gd
 ok:e.ok
 dep:e.dep≤B
theorem Fine.up {A B:Nat} {e:Dx} (h:Fine A e) (hb:A≤B):Fine B e:=⟨h.gd,h.ok,Nat.le_trans h.dep hb⟩
theorem gds_iff:∀ l:List (Opd × Dx),Dx.gds l↔∀ x∈l,OpdG x.1∧x.2.gd
 | []=>by simp [Dx.gds]
 |(q,e)::l=>by simp [Dx.gds,gds_iff l,and_assoc]
theorem oks_iff:∀ l:List (Opd × Dx),Dx.oks l↔∀ x∈l,paOk x.1∧x.2.ok
 | []=>by simp [Dx.oks]
 |(q,e)::l=>by simp [Dx.oks,oks_iff l,and_assoc]
theorem deps_le {B:Nat}:∀ l:List (Opd × Dx),(∀ x∈l,x.2.dep≤B)→Dx.deps l≤B
 | [],_=>by simp [Dx.deps]
 |(q,e)::l,h=>by
  rw [Dx.deps]
  have h1:e.dep≤B:=h (q,e) by12
  have h2:=deps_le l (fun x hx=>h x (by simp [hx]))
  omega
theorem Fine.ops {s:ByteArray} (hs:TkG (5,s,0)) (hl:lvl s.toList≠4∧sideN (lvl s.toList)≠1) {x:Opd} {l:List Opd} (hx:OpdG x∧opOk x) (h:∀ y∈l,OpdG y∧opOk y):Fine 2 (.ops s x l) :=
 ⟨by rw [Dx.gd];exact ⟨hx.1,fun y hy=>(h y hy).1,hs⟩,by rw [Dx.ok];exact ⟨hx.2,fun y hy=>(h y hy).2,hl.1,hl.2⟩,by rw [Dx.dep];omega⟩
theorem Fine.op {x:Opd} (hx:OpdG x∧opOk x):Fine 2 (opD x):=Fine.ops tkg_aa by9 hx by12
theorem Fine.cas {B:Nat} {h q:Opd} {e:Dx} {l:List (Opd × Dx)} (hh:OpdG h∧opOk h) (hq:OpdG q∧paOk q) (he:Fine B e) (hl:∀ x∈l,(OpdG x.1∧paOk x.1)∧Fine B x.2):Fine (B+3) (.cas h q e l):=by
 refine ⟨?_,?_,?_⟩
 ·rw [Dx.gd];exact ⟨hh.1,hq.1,he.gd,(gds_iff l).2 fun x hx=>⟨(hl x hx).1.1,(hl x hx).2.gd⟩⟩
 ·rw [Dx.ok];exact ⟨hh.2,hq.2,he.ok,(oks_iff l).2 fun x hx=>⟨(hl x hx).1.2,(hl x hx).2.ok⟩⟩
 rw [Dx.dep]
 have:=deps_le l (fun x hx=>(hl x hx).2.dep)
 have:=he.dep
 omega
structure GN (s:ByteArray):Prop where
 tk:TkG (2,s,0)
 tx:∀ c∈bytesN s,c≠34∧c≠10∧c≠92∧c<128
def NmG (nm:Nat→ByteArray):Prop:=∀ i,i<8→TkG (1,kX++nm i,0)∧TkG (1,kY++nm i,0)
def CnG (cs:List Cn):Prop:=∀ c∈cs,GN c.s∧c.ts.length≤8
section
variable {nm:Nat→ByteArray} (hnm:NmG nm)
include hnm
end
section
variable (nm:Nat→ByteArray)
/- how long the texts are -/
variable {nm} (hsz:∀ i,i<8→(nm i).size=1)
include hsz
end
structure DtG (cs:List Cn):Prop where
 ne:cs≠[]
 len:cs.length≤6
 cn:CnG cs
 sz:∀ c∈cs,c.s.size≤40
section
variable {nm:Nat→ByteArray} (hnm:NmG nm) (hsz:∀ i,i<8→(nm i).size=1)
include hnm hsz
end
def num (i:Nat):ByteArray:=txt (W63 (i+1))
theorem num_at:∀ i,i<8→num i=⟨#[UInt8.ofNat (49+i)]⟩:=by
 have h:∀ i:Fin 8,(num i.1).data=#[UInt8.ofNat (49+i.1)]:=by decide +kernel
 intro i hi
 have:=h ⟨i,hi⟩
 generalize num i=x at *
 obtain ⟨d⟩:=x
 exact congrArg ByteArray.mk this
def namesP (s:ByteArray):Prop:=∀ c∈bytesN s,nameC c=true
def upP (s:ByteArray):Prop:=s.size≤40∧∃ c r,bytesN s=c::r∧greatC c=true∧∀ d∈c::r,nameC d=true
theorem amongB_mem {s:ByteArray} {l:List ByteArray} (h:amongB s l=true):s∈l:=by
 unfold amongB at h
 obtain ⟨x,hx,h⟩:=List.any_eq_true.1 h
 have h:x=s:=by simpa using h
 rw [← h];exact hx
theorem among_up {l:List ByteArray} (hl:∀ w∈l,greatC ((bytesN w).headD 0)=false) {s:ByteArray} {c:Nat} {r:List Nat} (hs:bytesN s=c::r) (hc:greatC c=true):s∉l:=fun h=>by
 have:=hl s h
 rw [hs] at this
 exact absurd (hc.symm.trans this) by10
theorem kind_up {s:ByteArray} {c:Nat} {r:List Nat} (hs:bytesN s=c::r) (hc:greatC c=true):kindT c s=2:=by
 have hm:¬ markT s=true:=fun h=>among_up (l:=marksL) by9 hs hc (amongB_mem h)
 have hk:¬ keyT s=true:=fun h=>among_up (l:=keysL) by9 hs hc (amongB_mem h)
 have hg:¬ signC c=true:=fun h=>by
  have:∀ c∈signL,greatC c=false:=by decide
  have:=this c (by simpa [signC] using h)
  exact absurd (hc.symm.trans this) by10
 unfold kindT
 rw [if_neg hm,if_neg hk,if_neg hg,if_pos hc]
theorem upP.gn {s:ByteArray} (h:upP s):GN s:=by
 obtain ⟨h1,c,r,hs,hc,hr⟩:=h
 have hl:r.length+1≤40:=by
  have:=bytesN_len s
  rw [hs] at this
  simp only [List.length_cons] at this
  omega
 refine ⟨tkg_word hs by10 (.inr hc) (fun d hd=>hr d (by simp [hd])) hl (kind_up hs hc),fun d hd=>?_⟩
 rw [hs] at hd
 have:=hr d hd
 have hn:∀ d,nameC d=true→d≠34∧d≠10∧d≠92∧d<128:=by
  intro d hd
  unfold nameC smallC greatC digitC at hd
  simp only [Bool.or_eq_true,Bool.and_eq_true,decide_eq_true_eq,beq_iff_eq] at hd
  omega
 exact hn d this
open Go.RowKit
theorem ret_int {k:IntKind} {a b:Int} (h:a=b):Ending.returned (.int k a)=.returned (.int k b):=by rw [h]
set_option maxHeartbeats 400000 in
theorem Wrap_c (n:Int) (w:World):Calls Tryd.prog 53 #[.int .i64 n] w fun e w'=>e=.returned (.int .i64 (W63 n))∧w=w':=by
 go_enter Tryd.func53,Tryd.ntmps53
 go_wp2
 go_ret
 exact ⟨ret_int (W63_shift n),O⟩
theorem sl20 (w:World) (B:Nat) (x:Int) (h0:0≤x) (h1:x<20) :
    (Instr.sliceAt 87 (.pointer (some ⟨B,0,none⟩)) (some (.int .i64 x)) none none).run Tryd.prog w=.ok (.slice (some ⟨B,x.toNat,none⟩) (20 - x.toNat) (20 - x.toNat)) w:=by
 have hl:Tryd.prog.arrayLen 87=20:=by kernel_rfl
 have hs:(sizeOf (Tryd.prog.elem 87)).run Tryd.prog w=.ok 1 w:=by kernel_rfl
 rw [run_sliceAt_array_l w 87 ⟨B,0,none⟩ (by kernel_rfl) .i64 x h0 (by rw [hl];omega),hs]
 simp only [Result.andThen,slicedAt,hl]
 rw [if_neg by11]
 simp [Addr.add]
 omega
set_option maxHeartbeats 400000 in
theorem Text_pos (n:Int) (w:World) (h:0≤W63 n):Calls Tryd.prog 47 #[.int .i64 n] w fun e w'=>e=.returned (.string (txt (W63 n)))∧Below w.heap.size w w':=by
 have h2:=W63_hi n
 generalize hz:W63 n=z at *
 have Hz:=Lib.hid hz
 clear hz
 obtain ⟨U,rfl⟩:=Int.eq_ofNat_of_zero_le h
 have hlt:¬ ((U:Int)<0):=by omega
 go_enter Tryd.func47,Tryd.ntmps47
 go_wp2_with (go_at_call 53;refine (Wrap_c _ _).mono ?_;rw [Hz.out];rintro e w' ⟨rfl,rfl⟩)
 go_loopw [4,5] (fun va vu wr=>∃ (C:Array Value) (a u:Nat) (acc:List Int),va=.int .i64 a∧vu=.int .u64 u∧TextAt U C a u acc∧wr=w.alloc (.cells C 87)) (fun va _ _=>(intOf va).toNat)
 case atStart=>exact ⟨_,20,U,[],rfl,rfl,TextAt.start rfl by11,rfl⟩
 case round =>
  obtain ⟨C,a,u,acc,rfl,rfl,hT,rfl⟩:=hrel
  have hT2:=hT.two
  have hThi:=hT.hi
  have hTle:=hT.le
  have hTs:=hT.size
  obtain ⟨v0,hv0⟩:∃ v,C[a - 1]?=some v:=⟨_,Array.getElem?_eq_getElem by11⟩
  have hsl:∀ w',_:=fun w'=>sl20 w' w.heap.size ((a:Int) - 1) by11 by11
  rw [show ((a:Int) - 1).toNat=a - 1 from by omega] at hsl
  have hcv:(convert 89 9 (.slice (some ⟨w.heap.size,a - 1,none⟩) (20 - (a - 1)) (20 - (a - 1)))).run Tryd.prog (w.alloc (.cells (C.setIfInBounds (a - 1) (.int .u8 (48+(u:Int) % 10))) 87))=_:=run_convert_bytes_arg _ 89 5 (by kernel_rfl) (by kernel_rfl) w.heap.size (a - 1) (20 - (a - 1)) (20 - (a - 1)) ((48+(u:Int) % 10)::acc) (by have:=hT.len;simp;omega) (fun i hi=>by
   have hc:=cells_put (x:=48+(u:Int) % 10) by11 by11 hT.cells i (by have:=hT.len;simp;omega)
   rw [World.cell?_alloc_at _ _ _ _ rfl];exact hc) 9 (by kernel_rfl)
  have HTs:=Lib.hid hTs
  clear hTs
  go_wp2
  ·go_ret
   have hu0:((u:Int) / 10 == 0)=true:=by assumption
   have hu1:u / 10=0:=by simp at hu0;omega
   refine ⟨?_,(Below.refl _ _).alloc (Nat.le_refl _) _⟩
   rw [txt_pos h (ds:=(48+(u:Int) % 10)::acc) (by rw [← hT.last hu1];rfl)];rfl
  have hu0:((u:Int) / 10 == 0)=false:=by assumption
  have hu1:u / 10≠0:=by intro hx;simp at hu0;omega
  go_roundw
  case rel=>exact ⟨_,a - 1,u / 10,_,by congr 1;omega,by congr 1,hT.step hu1,rfl⟩
  case measure=>simp [intOf];omega
set_option maxHeartbeats 400000 in
theorem Text_neg (n:Int) (w:World) (h:W63 n<0):Calls Tryd.prog 47 #[.int .i64 n] w fun e w'=>e=.returned (.string (txt (W63 n)))∧Below w.heap.size w w':=by
 have h2:=W63_lo n
 generalize hz:W63 n=z at *
 have Hz:=Lib.hid hz
 clear hz
 obtain ⟨U,rfl⟩:∃ U:Nat,z = -(U:Int):=⟨(-z).toNat,by omega⟩
 go_enter Tryd.func47,Tryd.ntmps47
 go_wp2_with (go_at_call 53;refine (Wrap_c _ _).mono ?_;rw [Hz.out];rintro e w' ⟨rfl,rfl⟩)
 go_loopw [4,5] (fun va vu wr=>∃ (C:Array Value) (a u:Nat) (acc:List Int),va=.int .i64 a∧vu=.int .u64 u∧TextAt U C a u acc∧wr=w.alloc (.cells C 87)) (fun va _ _=>(intOf va).toNat)
 case atStart=>exact ⟨_,20,U,[],rfl,by congr 1;simp only [IntKind.wrap_u64];omega,TextAt.start rfl by11,rfl⟩
 case round =>
  obtain ⟨C,a,u,acc,rfl,rfl,hT,rfl⟩:=hrel
  have hT2:=hT.two
  have hThi:=hT.hi
  have hTle:=hT.le
  have hTs:=hT.size
  obtain ⟨v0,hv0⟩:∃ v,C[a - 1]?=some v:=⟨_,Array.getElem?_eq_getElem by11⟩
  obtain ⟨v1,hv1⟩:∃ v,(C.setIfInBounds (a - 1) (.int .u8 (48+(u:Int) % 10)))[a - 1 - 1]?=some v:=⟨_,Array.getElem?_eq_getElem (by simp;omega)⟩
  have hsl:∀ w',_:=fun w'=>sl20 w' w.heap.size ((a:Int) - 1 - 1) by11 by11
  rw [show ((a:Int) - 1 - 1).toNat=a - 1 - 1 from by omega] at hsl
  have hcv:(convert 89 9 (.slice (some ⟨w.heap.size,a - 1 - 1,none⟩) (20 - (a - 1 - 1)) (20 - (a - 1 - 1)))).run Tryd.prog (w.alloc (.cells ((C.setIfInBounds (a - 1) (.int .u8 (48+(u:Int) % 10))).setIfInBounds (a - 1 - 1) (.int .u8 45)) 87))=_:=run_convert_bytes_arg _ 89 5 (by kernel_rfl) (by kernel_rfl) w.heap.size (a - 1 - 1) (20 - (a - 1 - 1)) (20 - (a - 1 - 1)) (45::(48+(u:Int) % 10)::acc) (by have:=hT.len;simp;omega) (fun i hi=>by
   have hc:=cells_put (x:=45) (by simp;omega) by11 (cells_put (x:=48+(u:Int) % 10) by11 by11 hT.cells) i (by have:=hT.len;simp;omega)
   rw [World.cell?_alloc_at _ _ _ _ rfl];exact hc) 9 (by kernel_rfl)
  have HTs:=Lib.hid hTs
  clear hTs
  go_wp2
  ·go_ret
   have hu0:((u:Int) / 10 == 0)=true:=by assumption
   have hu1:u / 10=0:=by simp at hu0;omega
   refine ⟨?_,(Below.refl _ _).alloc (Nat.le_refl _) _⟩
   rw [txt_neg h (ds:=(48+(u:Int) % 10)::acc) (by rw [← hT.last hu1];congr 1;omega)];rfl
  have hu0:((u:Int) / 10 == 0)=false:=by assumption
  have hu1:u / 10≠0:=by intro hx;simp at hu0;omega
  go_roundw
  case rel=>exact ⟨_,a - 1,u / 10,_,by congr 1;omega,by congr 1,hT.step hu1,rfl⟩
  case measure=>simp [intOf];omega
theorem Text_c (n:Int) (w:World):Calls Tryd.prog 47 #[.int .i64 n] w fun e w'=>e=.returned (.string (txt (W63 n)))∧Below w.heap.size w w':=by
 rcases Int.lt_or_le (W63 n) 0 with h|h
 ·exact Text_neg n w h
 exact Text_pos n w h
theorem TextA_c (n:Int):PCall Tryd.prog 47 [.val (.int .i64 n)] (.val (.string (txt (W63 n)))) :=
 PCall.of_calls (vs:=[.int .i64 n]) (enters_of Tryd.func47 (by kernel_rfl) rfl) (fun w=>Text_c n w)
theorem digs_le:∀ (f u:Nat) (acc:List Int),(digs f u acc).length≤f+acc.length
 | 0,u,acc=>by simp [digs]
 | f+1,u,acc=>by
  rw [digs]
  split
  ·simp;omega
  have:=digs_le f (u / 10) ((48+(u:Int) % 10)::acc)
  simp at this ⊢
  omega
theorem txt_size (z:Int):(txt z).size≤21:=by
 unfold txt strOfNums
 split
 ·have:=digs_le 20 (-z).toNat []
  simp [ByteArray.size] at this ⊢
  omega
 have:=digs_le 20 z.toNat []
 simp [ByteArray.size] at this ⊢
 omega
section
variable {P:Program} {n:Nat} {al:Sl} {M:Mem} {o:Oper} {K:AV→Mem→Prop}
def bts (xs:List Int):List (List AV):=xs.map fun b=>[.val (.int .u8 b)]
theorem op_bneqc {x y:Operand} {t t':TypeId} {a b:Bool} (ho:o.op=.binOp .neq t x y t') (ht:P.underlying t=some .bool) (hx:al.ev x=some (.val (.bool a))) (hy:al.ev y=some (.val (.bool b))) (q:∀ c:Bool,(c=true↔a≠b)→K (.val (.bool c)) M):OpT P o al M K :=
 op_bneq ho ht hx hy (q _ by12)
end
section
variable {P:Program} {al:Sl} {M:Mem} {K:AV→Mem→Prop} {o:Oper}
end
section
variable {P:Program} {al:Sl} {M:Mem} {K:AV→Mem→Prop} {o:Oper}
theorem Le.nilOwn (m:Nat):Le (.val (.slice none 0 0)) (.own (.slice none 0 0) m []):=fun F u h=>by
 cases h;exact .own _ (.seq0 m none 0 (fun _=>rfl))
theorem c_ownNew {ro:Option Nat} {n:Nat} {ks:List Kont} {Q:Exit→Sl→Mem→Prop} {c:Code} (e:TypeId) (m:Nat) (h:ACode ro P n c (after ro P n ks Q) al (M++[.own e m (.slice none 0 0)])):ACode ro P n c (after ro P n ks Q) al M:=fun B F Mf a w hi hs=>by
 refine h B F Mf a w ?_ hs
 refine (hi.ownNil e m).perm ?_
 have:(Res.own e m (.slice none 0 0)::(M++Mf)).Perm (M++Res.own e m (.slice none 0 0)::Mf):=List.perm_middle.symm
 simpa using this
end
def EOpsF (P:Program) (ops:List Oper) (ws:List Nat) (anc:List (List Nat)) (i0:Nat) (cs0:List AV) (Q:Sl→Mem→Prop):List Nat→Sl→Mem→List (Nat × Nat)→Prop
 | [],al,M,_=>Q al M
 | i::ord,al,M,L=>∃ o,ops[i]?=some o ∧
     if i=i0 then ∀ b,EOpsF P ops ws anc i0 cs0 Q ord (al.put o.dst (.ptr b 0)) (M++[.loc b cs0]) L
     else if ws.contains i then o.guard=none ∧
      ((∃ k r,M[k]?=some r∧(L.all fun x=>x.2 != k ||(anc.getD i []).contains x.1)=true∧OpT P o (al.only (Oper.tmps o)) [r] (fun v M'=>∃ r',M'=[r']∧EOpsF P ops ws anc i0 cs0 Q ord (al.put o.dst v) (M.set k r') L)) ∨
       OpT P o (al.only (Oper.tmps o)) [] (fun v M'=>EOpsF P ops ws anc i0 cs0 Q ord (al.put o.dst v) (M++M') L))
     else ∃ (fp:Option Nat) (v:AV),fp.all (fun k=>Nat.blt k M.length)=true∧DStep P ops o al (fpm M fp) v∧EOpsF P ops ws anc i0 cs0 Q ord (al.put o.dst v) M ((fp.toList.map fun k=>(i,k))++L)
def flowEF (n:Nat) (l:List Oper) (ord ws:List Nat) (anc:List (List Nat)) (i0:Nat):Bool :=
 (ord.length == l.length && (List.range l.length).all (ord.contains ·) && decide ord.Nodup && ord.all (fun i=>Nat.blt i l.length)) &&
 (l.zipIdx.all fun (o,i)=>o.dst.all (·<n) && (bindsOn o).all (fun j=>j<i) &&
  (anc.getD i []).all (fun a=>(bindsOn o).contains a ||(bindsOn o).any (fun c=>(anc.getD c []).contains a))) &&
 (ws.all fun j=>(List.range l.length).all fun i=>i == j || befo ord i j ||(anc.getD i []).contains j || i == i0) &&
 (l.zipIdx.all fun (o,i)=>l.zipIdx.all fun (p,k)=>(k == i || o.dst.isNone || o.dst != p.dst) &&
     (match p.dst with
      | some t => !(Oper.sees l o).contains t || k == i ||(if befo ord k i then (anc.getD i []).contains k else (anc.getD k []).contains i)
      | none=>true)) && ws.contains i0
structure FlowEF (n:Nat) (l:List Oper) (ord ws:List Nat) (anc:List (List Nat)) (i0:Nat):Prop where
 nodup:ord.Nodup
 mem:∀ i,i<l.length→i∈ord
 lt:∀ i∈ord,i<l.length
 dst:∀ (i:Nat) (o:Oper),l[i]?=some o→o.dst.all (·<n)=true
 back:∀ (i:Nat) (o:Oper),l[i]?=some o→∀ j∈bindsOn o,j<i
 ancs:∀ (i:Nat) (o:Oper),l[i]?=some o→∀ a∈anc.getD i [],a∈bindsOn o∨∃ c∈bindsOn o,a∈anc.getD c []
 wild:∀ j∈ws,∀ i,i<l.length→i=j∨befo ord i j=true∨j∈anc.getD i []∨i=i0
 once:∀ (i:Nat) (o:Oper) (k:Nat) (p:Oper) (t:Tmp),l[i]?=some o→l[k]?=some p→o.dst=some t→p.dst=some t→k=i
 see:∀ (i:Nat) (o:Oper) (k:Nat) (p:Oper) (t:Tmp),l[i]?=some o→l[k]?=some p→p.dst=some t→t∈Oper.sees l o→k=i∨(befo ord k i=true∧k∈anc.getD i [])∨(befo ord k i=false∧i∈anc.getD k [])
 free:i0∈ws
theorem FlowEF.of {n:Nat} {l:List Oper} {ord ws:List Nat} {anc:List (List Nat)} {i0:Nat} (h:flowEF n l ord ws anc i0=true):FlowEF n l ord ws anc i0:=by
 unfold flowEF at h
 simp only [Bool.and_eq_true] at h
 obtain ⟨⟨⟨⟨⟨⟨⟨_,h2⟩,h3⟩,h7⟩,h4⟩,h5⟩,h6⟩,h8⟩:=h
 have hmem:∀ i,i<l.length→i∈ord:=fun i hi=>by simpa using all_range h2 hi
 refine ⟨by simpa using h3,hmem,fun i hi=>by simpa [Nat.blt_eq] using List.all_eq_true.1 h7 i hi,fun i o ho=>?_,fun i o ho j hj=>?_,fun i o ho a ha=>?_,fun j hj i hi=>?_,fun i o k p t ho hp e1 e2=>?_,fun i o k p t ho hp e1 e2=>?_,by simpa using h8⟩
 ·have:=Zo h4 ho
  simp only [Bool.and_eq_true] at this
  exact this.1.1
 ·have:=Zo h4 ho
  simp only [Bool.and_eq_true,List.all_eq_true,decide_eq_true_eq] at this
  exact this.1.2 j hj
 ·have:=Zo h4 ho
  simp only [Bool.and_eq_true,List.all_eq_true] at this
  have:=this.2 a ha
  simp only [Bool.or_eq_true,List.contains_iff_mem,List.any_eq_true] at this
  exact this
 ·have:=all_range (List.all_eq_true.1 h5 j hj) hi
  simp only [Bool.or_eq_true,beq_iff_eq,List.contains_iff_mem] at this
  rcases this with ((q|q)|q)|q
  ·exact Or.inl q
  ·exact Or.inr (Or.inl q)
  ·exact Or.inr (Or.inr (Or.inl q))
  exact Or.inr (Or.inr (Or.inr q))
 ·have:=Zo (Zo h6 ho) hp
  simp only [Bool.and_eq_true,Bool.or_eq_true,beq_iff_eq] at this
  rcases this.1 with (q|q)|q
  ·exact q
  ·simp [e1] at q
  simp [e1,e2] at q
 have:=(Bool.and_eq_true _ _ ▸ Zo (Zo h6 ho) hp).2
 simp only [e1,Bool.or_eq_true,beq_iff_eq,Bool.not_eq_true'] at this
 rcases this with (q|q)|q
 ·simp [e2] at q
 ·exact Or.inl q
 split at q
 ·rename_i hb;exact Or.inr (Or.inl ⟨hb,by simpa using q⟩)
 rename_i hb
 by_cases e:k=i
 ·exact Or.inl e
 exact Or.inr (Or.inr ⟨by simpa using hb,by simpa using q⟩)
section
variable {P:Program} {n:Nat} {l:List Oper} {ord ws:List Nat} {anc:List (List Nat)} {QQ:Sl→Mem→Prop} {al:Sl} {i0:Nat} {cs0:List AV}
variable {M:Mem} {L:List (Nat × Nat)} {o:Oper}
theorem EOpsF.d {v:AV} {i:Nat} (d:Nat) (fp:Option Nat) (hz:Nat.beq i i0=false) (hi:l[i]?=some o) (hw:ws.contains i=false) (hg:o.guard=none) (hd:o.dst=some d) (hfp:fp.all (fun k=>Nat.blt k M.length)=true) (h:OpT P o (al.only (Oper.tmps o)) (fpm M fp) (fun v' M'=>v'=v∧M'=fpm M fp)) (q:EOpsF P l ws anc i0 cs0 QQ ord ((d,v)::al) M ((fp.toList.map fun k=>(i,k))++L)):EOpsF P l ws anc i0 cs0 QQ (i::ord) al M L :=
 ⟨o,hi,by rw [if_neg (Nat.ne_of_beq_eq_false hz),if_neg (by rw [hw];simp)];exact ⟨fp,v,hfp,by unfold DStep;rw [hg];exact h,by rw [hd];exact q⟩⟩
theorem EOpsF.w {i:Nat} {r:Res} (k:Nat) (hz:Nat.beq i i0=false) (hi:l[i]?=some o) (hw:ws.contains i=true) (hg:o.guard=none) (hr:M[k]?=some r) (hL:(L.all fun x=>x.2 != k ||(anc.getD i []).contains x.1)=true) (h:OpT P o (al.only (Oper.tmps o)) [r] (fun v M'=>∃ r',M'=[r']∧EOpsF P l ws anc i0 cs0 QQ ord (al.put o.dst v) (M.set k r') L)):EOpsF P l ws anc i0 cs0 QQ (i::ord) al M L :=
 ⟨o,hi,by rw [if_neg (Nat.ne_of_beq_eq_false hz),if_pos hw];exact ⟨hg,.inl ⟨k,r,hr,hL,h⟩⟩⟩
theorem EOpsF.nw {i:Nat} (hz:Nat.beq i i0=false) (hi:l[i]?=some o) (hw:ws.contains i=true) (hg:o.guard=none) (h:OpT P o (al.only (Oper.tmps o)) [] (fun v M'=>∃ r',M'=[r']∧EOpsF P l ws anc i0 cs0 QQ ord (al.put o.dst v) (M++[r']) L)):EOpsF P l ws anc i0 cs0 QQ (i::ord) al M L :=
 ⟨o,hi,by rw [if_neg (Nat.ne_of_beq_eq_false hz),if_pos hw];exact ⟨hg,.inr (OpT.mono h (by rintro v M' ⟨r',rfl,h⟩;exact h))⟩⟩
theorem EOpsF.free {i d:Nat} (hz:i=i0) (hi:l[i]?=some o) (hd:o.dst=some d) (q:∀ b,EOpsF P l ws anc i0 cs0 QQ ord ((d,.ptr b 0)::al) (M++[.loc b cs0]) L):EOpsF P l ws anc i0 cs0 QQ (i::ord) al M L :=
 ⟨o,hi,by rw [if_pos hz,hd];exact q⟩

end
abbrev zEx:List AV:=[.val (.int .i64 0),.val (.string kE),.val (.int .i64 0),.val (.int .i64 0),.val (.string kE),.val (.int .i64 0),.val (.slice none 0 0),.val (.slice none 0 0),.val (.slice none 0 0),.val (.slice none 0 0),.val (.int .i64 0)]
theorem Le.own_less {u:Value} {m:Nat} {es es':List (List AV)} (h:Less es es'):Le (.own u m es) (.own u m es'):=fun F x k=>by
 cases k with|own _ k=>exact .own _ (Le.seq h _ _ k)
theorem Less.snoc {a b:List AV} (h:Les a b) (hl:a.length=b.length):∀ es:List (List AV),Less (es++[a]) (es++[b])
 | []=>.cons h hl .nil
 | _::es=>.cons (Les.refl _) rfl (Less.snoc h hl es)
theorem preds_snoc {u:Value} (acc:List Pr) (ct vt:ByteArray):Le (.own u 5 (Pr.cellss acc++[[.val (.string ct),.val (.int .i64 1),.val (.string vt),.val (.int .i64 0),.val (.slice none 0 0)]])) (.own u 5 (Pr.cellss (acc++[Pr.mk ct (Ty.mk 1 vt 0 [])]))):=by
 rw [show Pr.cellss (acc++[Pr.mk ct (Ty.mk 1 vt 0 [])])=Pr.cellss acc++[[.val (.string ct),.val (.int .i64 1),.val (.string vt),.val (.int .i64 0),.seq 4 []]] by simp [Pr.cellss,Pr.cells,Ty.cells,Ty.cellss]]
 exact Le.own_less (Less.snoc (Zz (Zy _) (Zz (Zy _) (Zz (Zy _) (Zz (Zy _) (Zz (Le.nil _) (Les.refl _)))))) O _)
abbrev zIn:List AV:=[.val (.string kE),.val (.int .i64 0),.val (.string kE),.val (.int .i64 0),.val (.slice none 0 0),.val (.slice none 0 0),.val (.slice none 0 0),.val (.int .i64 0)]
theorem Pa.cellss_app' (a b:List Pa):Pa.cellss (a++b)=Pa.cellss a++Pa.cellss b:=by simp [Pa.cellss_map]
theorem iff_f {p:Prop} (h:¬ p):(false=true↔p):=by simp [h]
theorem iff_t {p:Prop} (h:p):(true=true↔p):=by simp [h]
section
variable {P:Program} {l:List Oper} {ws:List Nat} {anc:List (List Nat)} {QQ:Sl→Mem→Prop} {ord:List Nat} {al:Sl} {M:Mem} {L:List (Nat × Nat)} {o:Oper}
end
def mkC (d:Da) (a:Int):List AV:=d.cells++[.val (.int .i64 a)]
def apE (a:Int):Ex→List Ex→Ex
 | x,[]=>x
 | x,y::l=>apE a (opE 5 [x,y] a) l
def lamE (a:Int):List ByteArray→Ex→Ex
 | [],b=>b
 | n::l,b=>.mk 6 n 0 ty0 [lamE a l b] [] [] a
theorem lamE_snoc (a:Int) (n:ByteArray) (b:Ex):∀ l:List ByteArray,lamE a (l++[n]) b=lamE a l (.mk 6 n 0 ty0 [b] [] [] a)
 | []=>rfl
 | m::l=>by show Ex.mk 6 m 0 ty0 [lamE a (l++[n]) b] [] [] a=_;rw [lamE_snoc a n b l];rfl
theorem num_len (i:Nat):(num i).size≤21:=txt_size _
theorem m_name_c (d:Da) (a:Int) (s:ByteArray):PCall Tryd.prog 26 [.agg (mkC d a),.val (.string s)] (.agg (namE 3 s a).cells):=by
 obtain ⟨ds,dps,dcs,ddv,dp⟩:=d
 unfold mkC
 simp only [Da.cells,List.cons_append,List.nil_append]
 refine Zc Tryd.func26 O (by kernel_rfl) O (Yc O) ?_
 refine Qay ?_;intro b4
 refine Qb ?_
 refine Qr ?_
 refine Qg ?_
 refine Zb 8 O O O (Zi (ns:=[0,1,7]) (xs:=[.const (.int .i64 3),.tmp 5,.tmp 7]) O tz_41 O tfl_41 O O O O ?_)
 refine QR ?_
 refine Qae ?_
 exact Zr (i:=0) O O O ta_41 O by4 (Zw _) ⟨O,O⟩
theorem m_con_c (d:Da) (a:Int) (s:ByteArray):PCall Tryd.prog 27 [.agg (mkC d a),.val (.string s)] (.agg (namE 4 s a).cells):=by
 obtain ⟨ds,dps,dcs,ddv,dp⟩:=d
 unfold mkC
 simp only [Da.cells,List.cons_append,List.nil_append]
 refine Zc Tryd.func27 O (by kernel_rfl) O (Yc O) ?_
 refine Qay ?_;intro b4
 refine Qb ?_
 refine Qr ?_
 refine Qg ?_
 refine Zb 8 O O O (Zi (ns:=[0,1,7]) (xs:=[.const (.int .i64 4),.tmp 5,.tmp 7]) O tz_41 O tfl_41 O O O O ?_)
 refine QR ?_
 refine Qae ?_
 exact Zr (i:=0) O O O ta_41 O by4 (Zw _) ⟨O,O⟩
theorem m_text_c (d:Da) (a:Int) (s:ByteArray):PCall Tryd.prog 30 [.agg (mkC d a),.val (.string s)] (.agg (namE 2 s a).cells):=by
 obtain ⟨ds,dps,dcs,ddv,dp⟩:=d
 unfold mkC
 simp only [Da.cells,List.cons_append,List.nil_append]
 refine Zc Tryd.func30 O (by kernel_rfl) O (Yc O) ?_
 refine Qay ?_;intro b4
 refine Qb ?_
 refine Qr ?_
 refine Qg ?_
 refine Zb 8 O O O (Zi (ns:=[0,1,7]) (xs:=[.const (.int .i64 2),.tmp 5,.tmp 7]) O tz_41 O tfl_41 O O O O ?_)
 refine QR ?_
 refine Qae ?_
 exact Zr (i:=0) O O O ta_41 O by4 (Zw _) ⟨O,O⟩
theorem m_arg_c (of:ByteArray) (ho:of.size≤1000) (i:Nat) (hi:i≤1000000000):PCall Tryd.prog 32 [.val (.string of),.val (.int .i64 i)] (.val (.string (of++num i))):=by
 have H:=TextA_c ((i:Int)+1)
 have hz:=num_len i
 have e:txt (W63 ((i:Int)+1))=num i:=rfl
 rw [e] at H
 generalize num i=m at *
 refine Zc Tryd.func32 O (by kernel_rfl) O (Yc O) ?_
 refine Qu ?_
 refine Qaz ?_
 refine Qa ?_
 refine QaD ?_
 refine Zb 8 O O O (Zd (xs:=[.tmp 7]) O O (H) by3 ?_)
 refine Qbw ?_
 refine QJ ?_
 exact Zf O O (Zy _) (Zw _) ⟨O,O⟩
theorem m_apply_c (d:Da) (a:Int) (f:ByteArray) (l:List Ex):PCall Tryd.prog 31 [.agg (mkC d a),.val (.string f),.seq 11 (Ex.cellss l)] (.agg (apE a (namE 3 f a) l).cells):=by
 have HN:=m_name_c d a f
 have hl:=Ex.cellss_len l
 obtain ⟨ds,dps,dcs,ddv,dp⟩:=d
 unfold mkC at *
 simp only [Da.cells,List.cons_append,List.nil_append] at *
 obtain ⟨r,hr⟩:∃ r,apE a (namE 3 f a) l=r:=⟨_,rfl⟩
 rw [hr]
 refine Zc Tryd.func31 O (by kernel_rfl) O (Yc O) ?_
 refine Qay ?_;intro b6
 refine Qb ?_
 refine Qd ?_
 refine QaE ?_
 refine Qa ?_
 refine Zb 12 O O O (Zd (xs:=[.tmp 10,.tmp 11]) O O (HN) by3 ?_)
 refine Q1 ?_;intro b7
 refine QR ?_
 refine Ql ?_
 refine Qr ?_
 refine Qa0 ?_;intro n14
 refine QW ?_
 apply c_loopk (rg [(0,3),(4,2),(8,5),(15,11)]) (σ:=Nat × Ex) (fun zz=>match zz with|(i,x)=>[(15,.val (.int .i64 i))]) (fun zz=>match zz with|(i,x)=>[.loc b7 x.cells,.loc b6 zEx]) (fun zz=>match zz with|(i,x)=>i≤l.length∧apE a x (l.drop i)=r) (fun zz=>match zz with|(i,x)=>l.length - i) ((0,namE 3 f a))
 ·repeat' (first|exact Yf|apply Yd rfl|apply Ye rfl)
 ·exact ⟨Nat.zero_le _,hr⟩
 ·exact by6
 ·exact by5
 rintro ⟨i,⟨xk,xs,xn,⟨xtk,xts,xtn,xtl⟩,xks,xal,xbs,xp⟩⟩ hI
 try dsimp only [List.cons_append,List.nil_append] at hI ⊢
 obtain ⟨hi,hA⟩:=hI
 refine QX ?_;intro c16 h16
 refine Ql ?_
 obtain ⟨rfl,g16⟩|⟨rfl,g16⟩:=Za h16
 ·refine QT ?_
  rw [List.drop_of_length_le by11] at hA
  replace hA:Ex.mk xk xs xn ⟨xtk,xts,xtn,xtl⟩ xks xal xbs xp=r:=hA
  subst hA
  refine Qc ?_
  refine Qaj ?_
  refine Qa1 ?_
  refine Qae ?_
  exact Zr (i:=1) O O O ta_41 O by4 (Zw _) ⟨O,O⟩
 refine Qt ?_
 obtain ⟨⟨qk,qs,qn,⟨qtk,qts,qtn,qtl⟩,qks,qal,qbs,qp⟩,hxq⟩:=Zm (l:=l) (i:=i) by8
 have hcq:=Ex.cellss_get hxq
 have hmq:=Yg hxq
 refine Qc ?_
 refine Zb 17 O O O (Zl O te_38 O (.seq _ _) O O (hcq) ?_)
 refine QaF ?_
 refine Q1 ?_;intro b9
 refine QR ?_
 refine Qb ?_
 refine Qc ?_
 refine Qbx ?_
 refine Qaj ?_
 refine Zb 21 O O O (Zg (xs:=[.tmp 19,.tmp 20]) el_38 O O O O O O (Yc O) ?_)
 refine Qg ?_
 refine Zb 24 O O O (Zi (ns:=[0,4,7]) (xs:=[.const (.int .i64 5),.tmp 21,.tmp 23]) O tz_41 O tfl_41 O O O O ?_)
 refine Qa1 ?_
 refine Qs ?_
 refine QK ?_
 rw [drop_at hxq] at hA
 exact ⟨(i+1,opE 5 [.mk xk xs xn ⟨xtk,xts,xtn,xtl⟩ xks xal xbs xp,.mk qk qs qn ⟨qtk,qts,qtn,qtl⟩ qks qal qbs qp] a),⟨by show i+1≤l.length;omega,hA⟩,by show l.length - (i+1)<l.length - i;omega,by6,by0⟩
theorem m_lambda_c (d:Da) (a:Int) (b:Ex) (l:List ByteArray):PCall Tryd.prog 11 [.agg (mkC d a),.agg b.cells,.seq 1 (strs l)] (.agg (lamE a l b).cells):=by
 have hl:=Zq l
 obtain ⟨ds,dps,dcs,ddv,dp⟩:=d
 unfold mkC at *
 simp only [Da.cells,List.cons_append,List.nil_append] at *
 obtain ⟨r,hr⟩:∃ r,lamE a l b=r:=⟨_,rfl⟩
 rw [hr]
 obtain ⟨bk,bs,bn,⟨btk,bts,btn,btl⟩,bks,bal,bbs,bp⟩:=b
 refine Zc Tryd.func11 O (by kernel_rfl) O (Yc O) ?_
 refine Qu ?_
 refine c_lens (t:=2) O (.seq _ _) (fun hmax=>?_)
 refine Qd ?_
 refine QaI ?_
 refine Zb 4 O O O (op_boxe (cs':=[_,_,_,_,_,_,_,_,_,_,_]) O O O O ?_);intro b4
 refine Q1 ?_;intro b6
 refine Ql ?_
 refine Qr ?_
 refine QaJ ?_;intro n9
 refine QU ?_
 refine Qh ?_
 refine QH ?_
 apply c_loopk (rg [(0,2),(5,1),(7,17)]) (σ:=Nat × Ex) (fun zz=>match zz with|(i,x)=>[(7,.val (.int .i64 ((i:Int) - 1)))]) (fun zz=>match zz with|(i,x)=>[.loc b6 zEx,.loc b4 x.cells]) (fun zz=>match zz with|(i,x)=>i≤l.length∧lamE a (l.take i) x=r) (fun zz=>match zz with|(i,x)=>i) ((l.length,⟨bk,bs,bn,⟨btk,bts,btn,btl⟩,bks,bal,bbs,bp⟩))
 ·repeat' (first|exact Yf|apply Yd rfl|apply Ye rfl)
 ·exact ⟨Nat.le_refl _,by rw [List.take_length];exact hr⟩
 ·exact Ya O (Le.ieq by11) by6
 ·exact by5
 rintro ⟨i,⟨xk,xs,xn,⟨xtk,xts,xtn,xtl⟩,xks,xal,xbs,xp⟩⟩ hI
 try dsimp only [List.cons_append,List.nil_append] at hI ⊢
 obtain ⟨hi,hA⟩:=hI
 refine QG ?_
 refine Qak ?_;intro c12 h12
 refine Qb ?_
 obtain ⟨rfl,g12⟩|⟨rfl,g12⟩:=Za h12
 ·refine QT ?_
  obtain rfl:i=0:=by omega
  rw [List.take_zero] at hA
  replace hA:Ex.mk xk xs xn ⟨xtk,xts,xtn,xtl⟩ xks xal xbs xp=r:=hA
  subst hA
  refine Qc ?_
  refine Qbx ?_
  refine QR ?_
  refine Qae ?_
  exact Zr (i:=0) O O O ta_41 O by4 (Zw _) ⟨O,O⟩
 refine Qm ?_
 refine c_skip ?_
 refine Q3 ?_
 refine QH ?_
 obtain ⟨i,rfl⟩:∃ j,i=j+1:=⟨i - 1,by omega⟩
 rw [show (((i+1:Nat):Int) - 1)=(i:Int) by omega]
 obtain ⟨q,hq⟩:=Zm (l:=l) (i:=i) by11
 have hcq:=strs_get hq
 rw [take_snoc hq,lamE_snoc] at hA
 refine c_drawnE [0,1,2,3,4,5,6,7,8,9] [9] [[],[],[0,1],[0,1,2],[],[4],[],[6],[0,1,2,3,4,5,6,7],[0,1,2,3,4,5,6,7,8]] tmix O ?_
 refine QB ?_
 refine QB ?_
 refine Ze 17 (none) (i:=2) O O O O O (Zl O te_22 O (.seq _ _) O O (hcq) ⟨O,O⟩) ?_
 refine Qal ?_
 refine Ze 19 (some 1) (i:=4) O O O O O (Zt (cs':=[_,_,_,_,_,_,_,_,_,_,_]) (i:=0) O ta_41 O O O O ⟨O,O⟩) ?_
 refine Ze 20 (none) (i:=5) O O O O O (Zg (xs:=[.tmp 19]) el_38 O O O O O O (Yc O) ⟨O,O⟩) ?_
 refine QaK ?_
 refine Qal ?_
 refine Ze 23 (none) (i:=8) O O O O O (Zi (ns:=[0,1,4,7]) (xs:=[.const (.int .i64 6),.tmp 18,.tmp 20,.tmp 22]) O tz_41 O tfl_41 O O O O ⟨O,O⟩) ?_
 refine EOps.w 1 (i:=9) O O O O O (Zk (cs':=[_,_,_,_,_,_,_,_,_,_,_]) (i:=0) O ts_41 O O O O O (Yc O) O ⟨_,O,?_⟩)
 show AGo _ _ _ _ _ _ _
 refine Qav ?_
 refine Qa ?_
 refine QU ?_
 refine Qad ?_
 exact ⟨(i,.mk 6 q 0 ty0 [.mk xk xs xn ⟨xtk,xts,xtn,xtl⟩ xks xal xbs xp] [] [] a),⟨by omega,hA⟩,by show i<i+1;omega,by6,by0⟩
theorem m_cases_c (d:Da) (a:Int) (x:Ex) (l:List Al):PCall Tryd.prog 25 [.agg (mkC d a),.agg x.cells,.seq 16 (Al.cellss l)] (.agg (Ex.mk 8 kE 0 ty0 [x] l [] a).cells):=by
 obtain ⟨ds,dps,dcs,ddv,dp⟩:=d
 unfold mkC at *
 simp only [Da.cells,List.cons_append,List.nil_append] at *
 obtain ⟨xk,xs,xn,⟨xtk,xts,xtn,xtl⟩,xks,xal,xbs,xp⟩:=x
 refine Zc Tryd.func25 O (by kernel_rfl) O (Yc O) ?_
 refine Q8 ?_
 refine QaI ?_
 refine QaU ?_
 refine Q1 ?_;intro b6
 refine Qb ?_
 refine Qd ?_
 refine QaF ?_
 refine Zb 8 O O O (Zg (xs:=[.tmp 7]) el_38 O O O O O O (Yc O) ?_)
 refine Qa ?_
 refine Qg ?_
 refine Zb 12 O O O (Zi (ns:=[0,4,5,7]) (xs:=[.const (.int .i64 8),.tmp 8,.tmp 9,.tmp 11]) O tz_41 O tfl_41 O O O O ?_)
 refine QR ?_
 refine Qae ?_
 exact Zr (i:=0) O O O ta_41 O by4 (Zw _) ⟨O,O⟩
def patK (a:Int) (of:ByteArray) (i:Nat):Pa:=if of=kE then .mk 1 kE 0 [] a else .mk 2 (of++num i) 0 [] a
def patL (a:Int) (of:ByteArray):Nat→List Pa
 | 0=>[]
 | i+1=>patL a of i++[patK a of i]
theorem patL_len (a:Int) (of:ByteArray):∀ n,(patL a of n).length=n
 | 0=>rfl
 | i+1=>by rw [patL,List.length_append,patL_len a of i];rfl
theorem patK_len (a:Int) (of:ByteArray) (i:Nat):(patK a of i).cells.length=5:=by
 unfold patK
 split <;> simp only [Pa.cells,List.length_cons,List.length_nil]
def patX (a:Int) (c of:ByteArray) (n:Nat):Pa:=.mk 3 c 0 (patL a of n) a
abbrev zPaC:List AV:=[.val (.int .i64 0),.val (.string kE),.val (.int .i64 0),.val (.slice none 0 0),.val (.int .i64 0)]
theorem m_pattern_c (d:Da) (a:Int) (c:Cn) (of:ByteArray) (ho:of.size≤1000) (hn:c.ts.length≤1000000):PCall Tryd.prog 24 [.agg (mkC d a),.agg c.cells,.val (.string of)] (.agg (patX a c.s of c.ts.length).cells):=by
 obtain ⟨ds,dps,dcs,ddv,dp⟩:=d
 obtain ⟨cs,cts,cp⟩:=c
 have hl:=Ty.cellss_len cts
 have HA:=m_arg_c of ho
 replace hn:cts.length≤1000000:=hn
 have hz:=num_len
 show PCall Tryd.prog 24 _ (.agg (patX a cs of cts.length).cells)
 unfold mkC patX at *
 simp only [Da.cells,List.cons_append,List.nil_append] at *
 refine Zc Tryd.func24 O (by kernel_rfl) O (Yc O) ?_
 refine Q8 ?_
 refine QaI ?_
 refine Qbf ?_
 refine Qa2 ?_;intro b6
 refine Qb ?_
 refine Qv ?_
 refine Qg ?_
 refine Zb 14 O O O (Zi (ns:=[0,1,4]) (xs:=[.const (.int .i64 3),.tmp 11,.tmp 13]) O tz_50 O tfl_50 O O O O ?_)
 refine Qa2 ?_;intro b7
 refine Qbg ?_
 refine Ql ?_
 refine Qv ?_
 refine Q5 ?_;intro n17
 refine QW ?_
 refine c_ownNew 50 5 ?_
 apply c_loopk (rg [(0,2),(4,2),(8,9),(18,21)]) (σ:=Nat × Value) (fun zz=>match zz with|(i,u)=>[(18,.val (.int .i64 i))]) (fun zz=>match zz with|(i,u)=>[.loc b7 [.val (.int .i64 3),.val (.string cs),.val (.int .i64 0),.own u 5 (Pa.cellss (patL a of i)),.val (.int .i64 a)],.loc b6 zPaC,.own 50 5 u]) (fun zz=>match zz with|(i,u)=>i≤cts.length) (fun zz=>match zz with|(i,u)=>cts.length - i) ((0,.slice none 0 0))
 ·repeat' (first|exact Yf|apply Yd rfl|apply Ye rfl)
 ·exact Nat.zero_le _
 ·exact by6
 ·exact (MLe.loc _ (Zz (Zy _) (Zz (Zy _) (Zz (Zy _) (Zz (Le.nilOwn 5) (Les.refl _))))) (MLe.of_eq O))
 rintro ⟨i,u⟩ hI
 try dsimp only [List.cons_append,List.nil_append] at hI ⊢
 have hi:=hI
 have hpl:(Pa.cellss (patL a of i)).length=i:=by rw [Pa.cellss_len,patL_len]
 refine QX ?_;intro c19 h19
 refine Ql ?_
 obtain ⟨rfl,g19⟩|⟨rfl,g19⟩:=Za h19
 ·refine QT ?_
  obtain rfl:i=cts.length:=by omega
  refine Qc ?_
  refine Qa3 ?_
  refine Zs O O (Zk (cs':=[_,_,_,_,_]) (i:=1) O ts_50 O O O O O (Yc O) O ?_)
  refine Qae ?_
  exact Zr (i:=1) O O O ta_50 O by4 (Zw _) ⟨O,O⟩
 refine Qm ?_
 refine c_skip ?_
 refine Q3 ?_
 refine QH ?_
 refine Qr ?_
 refine Qh ?_
 refine Qv ?_
 refine Zb 23 O O O (Zi (ns:=[0,4]) (xs:=[.const (.int .i64 1),.tmp 22]) O tz_50 O tfl_50 O O O O ?_)
 refine Qa2 ?_;intro b9
 refine Qbg ?_
 refine Ql ?_
 refine Qr ?_
 refine QaL ?_;intro c25 h25
 refine Qb ?_
 obtain ⟨rfl,g25⟩|⟨rfl,g25⟩:=Za h25
 ·refine QC ?_
  refine Qe ?_
  refine Qc ?_
  refine QF ?_
  refine QaM ?_
  refine Qa3 ?_
  refine QbJ ?_
  refine QbK ?_
  intro u36
  refine QF ?_
  refine QbL ?_
  refine Qs ?_
  refine QK ?_
  refine ⟨(i+1,u36),by show i+1≤cts.length;omega,by show cts.length - (i+1)<cts.length - i;omega,by6,Zx _ (MLe.loc _ (Zz (Zy _) (Zz (Zy _) (Zz (Zy _) (Zz (Le.own_lessA ?_) (Les.refl _))))) (MLe.of_eq O))⟩
  rw [patL,Pa.cellss_app']
  refine Less.snoc ?_ (by rw [patK_len];rfl) _
  unfold patK
  first
  | rw [if_neg g25];(try rw [hnum]);exact by2 
  | rw [if_pos (Classical.not_not.1 g25)];exact by2 
  | rw [if_pos g25];exact by2 
 refine Qm ?_
 have HAi:=HA i by11
 have hzi:=hz i
 generalize hnum:num i=nu at *
 refine c_drawnE [0,1,2,3,4,5,6] [6] [[],[],[0,1],[],[3],[0,1,2,3,4],[0,1,2,3,4,5]] tmix O ?_
 refine QB ?_
 refine QB ?_
 refine Ze 28 (none) (i:=2) O O O O O (Zd (xs:=[.tmp 26,.tmp 27]) O O (HAi) by3 ⟨O,O⟩) ?_
 refine QaK ?_
 refine Qal ?_
 refine Ze 31 (none) (i:=5) O O O O O (Zi (ns:=[0,1,4]) (xs:=[.const (.int .i64 2),.tmp 28,.tmp 30]) O tz_50 O tfl_50 O O O O ⟨O,O⟩) ?_
 refine EOps.w 0 (i:=6) O O O O O (Zk (cs':=[_,_,_,_,_]) (i:=0) O ts_50 O O O O O (Yc O) O ⟨_,O,?_⟩)
 show AGo _ _ _ _ _ _ _
 refine Qe ?_
 refine Qc ?_
 refine QF ?_
 refine QaM ?_
 refine Qa3 ?_
 refine QbJ ?_
 refine QbK ?_
 intro u36
 refine QF ?_
 refine QbL ?_
 refine Qs ?_
 refine QK ?_
 refine ⟨(i+1,u36),by show i+1≤cts.length;omega,by show cts.length - (i+1)<cts.length - i;omega,by6,Zx _ (MLe.loc _ (Zz (Zy _) (Zz (Zy _) (Zz (Zy _) (Zz (Le.own_lessA ?_) (Les.refl _))))) (MLe.of_eq O))⟩
 rw [patL,Pa.cellss_app']
 refine Less.snoc ?_ (by rw [patK_len];rfl) _
 unfold patK
 first
 | rw [if_neg g25];(try rw [hnum]);exact by2 
 | rw [if_pos (Classical.not_not.1 g25)];exact by2 
 | rw [if_pos g25];exact by2 
def twoX (a:Int) (f:ByteArray) (i:Nat):Ex:=apE a (namE 3 f a) [namE 3 (kX++num i) a,namE 3 (kY++num i) a]
theorem m_pair_c (d:Da) (a:Int) (f:ByteArray) (i:Nat) (hi:i≤1000000000):PCall Tryd.prog 28 [.agg (mkC d a),.val (.string f),.val (.int .i64 i)] (.agg (twoX a f i).cells):=by
 have HX:=m_arg_c kX by10 i hi
 have HY:=m_arg_c kY by10 i hi
 have HNx:=m_name_c d a (kX++num i)
 have HNy:=m_name_c d a (kY++num i)
 have HP:=m_apply_c d a f [namE 3 (kX++num i) a,namE 3 (kY++num i) a]
 obtain ⟨ds,dps,dcs,ddv,dp⟩:=d
 unfold twoX
 obtain ⟨⟨rk,rs,rn,⟨rtk,rts,rtn,rtl⟩,rks,ral,rbs,rp⟩,hr⟩:∃ r,apE a (namE 3 f a) [namE 3 (kX++num i) a,namE 3 (kY++num i) a]=r:=⟨_,rfl⟩
 rw [hr] at HP ⊢
 clear hr
 generalize kX++num i=nx at *
 generalize kY++num i=ny at *
 unfold mkC at *
 simp only [Da.cells,List.cons_append,List.nil_append] at *
 refine Zc Tryd.func28 O (by kernel_rfl) O (Yc O) ?_
 refine Qay ?_;intro b6
 refine Ql ?_
 refine c_drawnE [0,1,2,3,4,5,6,7,8,9,10,11,12] [12] [[],[],[],[],[3],[2,3,4],[],[],[2,3,4,5,7],[2,3,4,5,6,7,8],[2,3,4,5,6,7,8,9],[0,1,2,3,4,5,6,7,8,9,10],[0,1,2,3,4,5,6,7,8,9,10,11]] tmix O ?_
 refine QM ?_
 refine QB ?_
 refine QM ?_
 refine QB ?_
 refine Ze 11 (none) (i:=4) O O O O O (Zd (xs:=[.const (.string ⟨#[120]⟩),.tmp 10]) O O (HX) by3 ⟨O,O⟩) ?_
 refine Ze 12 (none) (i:=5) O O O O O (Zd (xs:=[.tmp 9,.tmp 11]) O O (HNx) by3 ⟨O,O⟩) ?_
 refine QM ?_
 refine QB ?_
 refine Ze 15 (none) (i:=8) O O O O O (Zd (xs:=[.const (.string ⟨#[121]⟩),.tmp 14]) O O (HY) by3 ⟨O,O⟩) ?_
 refine Ze 16 (none) (i:=9) O O O O O (Zd (xs:=[.tmp 13,.tmp 15]) O O (HNy) by3 ⟨O,O⟩) ?_
 refine Ze 17 (none) (i:=10) O O O O O (Zg (xs:=[.tmp 12,.tmp 16]) el_38 O O O O O O (Yc O) ⟨O,O⟩) ?_
 refine Ze 18 (none) (i:=11) O O O O O (Zd (xs:=[.tmp 7,.tmp 8,.tmp 17]) O O (HP) by3 ⟨O,O⟩) ?_
 refine QaV ?_
 show AGo _ _ _ _ _ _ _
 refine Qw ?_
 exact Zr (i:=0) O O O ta_41 O by4 (Zw _) ⟨O,O⟩
theorem Le.own_seqL {u:Value} {m:Nat} {es es':List (List AV)} (h:Less es es'):Le (.own u m es) (.seq m es'):=fun F x k=>Le.seq h _ _ (Le.own _ _ _ F x k)
/- lexical -/
def lexX (a:Int):Nat→Nat→Ex
 | 0,k=>twoX a kCmp k
 | r+1,k=>.mk 8 kE 0 ty0 [twoX a kCmp k] [.mk (.mk 3 kEQ 0 [] a) (lexX a r (k+1)),.mk (.mk 2 kR 0 [] a) (namE 3 kR a)] [] a
def orderX (a:Int) (n:Nat):Ex:=if n=0 then namE 4 kEQ a else lexX a (n - 1) 0
theorem m_lex_c (d:Da) (a:Int) (c:Cn):∀ r k,c.ts.length=k+1+r→c.ts.length≤1000000→PCall Tryd.prog 29 [.agg (mkC d a),.agg c.cells,.val (.int .i64 k)] (.agg (lexX a r k).cells)
 | 0,k,h,hb=>by
  have HP:=m_pair_c d a kCmp k by11
  rw [lexX]
  obtain ⟨⟨rk,rs,rn,⟨rtk,rts,rtn,rtl⟩,rks,ral,rbs,rp⟩,hr⟩:∃ r,twoX a kCmp k=r:=⟨_,rfl⟩
  rw [hr] at HP ⊢
  clear hr
  obtain ⟨ds,dps,dcs,ddv,dp⟩:=d
  obtain ⟨cs,cts,cp⟩:=c
  replace h:cts.length=k+1:=h
  have hl:=Ty.cellss_len cts
  unfold mkC at *
  simp only [Da.cells,List.cons_append,List.nil_append] at *
  refine Qby ?_
  refine Q8 ?_
  refine QaI ?_
  refine Qbf ?_
  refine Q1 ?_;intro b6
  refine Ql ?_
  refine QH ?_
  refine Qv ?_
  refine Q5 ?_;intro n12
  refine Qi ?_;intro c13 h13
  refine Qh ?_
  obtain ⟨rfl,g13⟩|⟨rfl,g13⟩:=Za h13
  ·refine QI ?_
   refine Qr ?_
   refine Qg ?_
   refine Q5 ?_;intro n20
   refine QU ?_
   refine Qi ?_;intro c22 h22
   refine Qh ?_
   obtain ⟨rfl,g22⟩|⟨rfl,g22⟩:=Za h22
   ·omega
   refine Qm ?_
   refine Qd ?_
   refine QaE ?_
   refine Qa ?_
   refine Zb 25 O O O (Zd (xs:=[.tmp 23,.const (.string ⟨#[99,111,109,112,97,114,101]⟩),.tmp 24]) O O (HP) by3 ?_)
   refine QR ?_
   refine Qae ?_
   exact Zr (i:=0) O O O ta_41 O by4 (Zw _) ⟨O,O⟩
  omega
 | r+1,k,h,hb=>by
  have IH:=m_lex_c d a c r (k+1) by11 hb
  have HP:=m_pair_c d a kCmp k by11
  have HR:=m_name_c d a kR
  have HC:=m_cases_c d a (twoX a kCmp k) [.mk (.mk 3 kEQ 0 [] a) (lexX a r (k+1)),.mk (.mk 2 kR 0 [] a) (namE 3 kR a)]
  rw [lexX]
  obtain ⟨⟨rk,rs,rn,⟨rtk,rts,rtn,rtl⟩,rks,ral,rbs,rp⟩,hr⟩:∃ r,twoX a kCmp k=r:=⟨_,rfl⟩
  rw [hr] at HP HC ⊢
  clear hr
  obtain ⟨⟨yk,ys,yn,⟨ytk,yts,ytn,ytl⟩,yks,yal,ybs,yp⟩,hy⟩:∃ y,lexX a r (k+1)=y:=⟨_,rfl⟩
  rw [hy] at IH HC ⊢
  clear hy
  obtain ⟨ds,dps,dcs,ddv,dp⟩:=d
  obtain ⟨cs,cts,cp⟩:=c
  replace h:cts.length=k+1+(r+1):=h
  replace hb:cts.length≤1000000:=hb
  have hl:=Ty.cellss_len cts
  unfold mkC at *
  simp only [Da.cells,List.cons_append,List.nil_append] at *
  refine Qby ?_
  refine Q8 ?_
  refine QaI ?_
  refine Qbf ?_
  refine Q1 ?_;intro b6
  refine Ql ?_
  refine QH ?_
  refine Qv ?_
  refine Q5 ?_;intro n12
  refine Qi ?_;intro c13 h13
  refine Qh ?_
  obtain ⟨rfl,g13⟩|⟨rfl,g13⟩:=Za h13
  ·refine QI ?_
   refine Qr ?_
   refine Qg ?_
   refine Q5 ?_;intro n20
   refine QU ?_
   refine Qi ?_;intro c22 h22
   refine Qh ?_
   obtain ⟨rfl,g22⟩|⟨rfl,g22⟩:=Za h22
   ·refine QC ?_
    refine Q0 ?_
    refine Q3 ?_
    refine c_drawnE [0,1,2,3,4,5,6,7,8,9,10] [9,10] [[],[0],[0,1],[],[],[],[5],[3,4,5,6],[0,1,2,3,4,5,6,7],[],[0,1,2,3,4,5,6,7,8,9]] tmix O ?_
    refine QaK ?_
    refine Qal ?_
    refine Ze 28 (none) (i:=2) O O O O O (Zi (ns:=[0,1,4]) (xs:=[.const (.int .i64 3),.const (.string ⟨#[69,81]⟩),.tmp 27]) (cs':=[_,_,_,_,_]) O tz_50 O tfl_50 O O O O ⟨O,O⟩) ?_
    refine QM ?_
    refine Ze 30 (none) (i:=4) O O O O O (op_load_c (cs':=[_,_,_]) O ta_47 O O O ⟨O,O⟩) ?_
    refine QB ?_
    refine Ze 32 (none) (i:=6) O O O O O (op_add O O O (IntWalk.i64_in _ by11) ⟨O,O⟩) ?_
    refine Ze 33 (none) (i:=7) O O O O O (Zd (xs:=[.tmp 29,.tmp 30,.tmp 32]) O O (IH) by3 ⟨O,O⟩) ?_
    refine Ze 34 (none) (i:=8) O O O O O (Zi (ns:=[0,1]) (xs:=[.tmp 28,.tmp 33]) (cs':=[_,_,_,_,_,_,_,_,_,_,_,_,_,_,_,_]) O tz_52 O tfl_52 O O O O ⟨O,O⟩) ?_
    refine EOps.nw (i:=9) O O O (op_alloce (cs':=[_,_,_,_,_,_,_,_,_,_,_,_,_,_,_,_]) O tz_52 O O (fun b7=>⟨_,O,?_⟩))
    refine EOps.w 1 (i:=10) O O O O O (Zk (cs':=[_,_,_,_,_,_,_,_,_,_,_,_,_,_,_,_]) (i:=0) O ts_52 O O O O O (Yc O) O ⟨_,O,?_⟩)
    show AGo _ _ _ _ _ _ _
    refine Q3 ?_
    refine c_drawnE [0,1,2,3,4,5,6,7] [6,7] [[],[0],[0,1],[],[3],[0,1,2,3,4],[],[0,1,2,3,4,5,6]] tmix O ?_
    refine QaK ?_
    refine Qal ?_
    refine Ze 37 (none) (i:=2) O O O O O (Zi (ns:=[0,1,4]) (xs:=[.const (.int .i64 2),.const (.string ⟨#[114]⟩),.tmp 36]) (cs':=[_,_,_,_,_]) O tz_50 O tfl_50 O O O O ⟨O,O⟩) ?_
    refine QM ?_
    refine Ze 39 (none) (i:=4) O O O O O (Zd (xs:=[.tmp 38,.const (.string ⟨#[114]⟩)]) O O (HR) by3 ⟨O,O⟩) ?_
    refine Ze 40 (none) (i:=5) O O O O O (Zi (ns:=[0,1]) (xs:=[.tmp 37,.tmp 39]) (cs':=[_,_,_,_,_,_,_,_,_,_,_,_,_,_,_,_]) O tz_52 O tfl_52 O O O O ⟨O,O⟩) ?_
    refine EOps.nw (i:=6) O O O (op_alloce (cs':=[_,_,_,_,_,_,_,_,_,_,_,_,_,_,_,_]) O tz_52 O O (fun b8=>⟨_,O,?_⟩))
    refine EOps.w 2 (i:=7) O O O O O (Zk (cs':=[_,_,_,_,_,_,_,_,_,_,_,_,_,_,_,_]) (i:=0) O ts_52 O O O O O (Yc O) O ⟨_,O,?_⟩)
    show AGo _ _ _ _ _ _ _
    refine Q3 ?_
    refine c_drawnE [0,1,2,3,4,5,6,7,8] [8] [[],[],[],[1,2],[],[],[4,5],[0,1,2,3,4,5,6],[0,1,2,3,4,5,6,7]] tmix O ?_
    refine QaA ?_
    refine QB ?_
    refine Ze 44 (none) (i:=3) O O O O O (Zd (xs:=[.tmp 42,.const (.string ⟨#[99,111,109,112,97,114,101]⟩),.tmp 43]) O O (HP) by3 ⟨O,O⟩) ?_
    refine Ze 45 (some 1) (i:=4) O O O O O (Zt (cs':=[_,_,_,_,_,_,_,_,_,_,_,_,_,_,_,_]) (i:=0) O ta_52 O O O O ⟨O,O⟩) ?_
    refine Ze 46 (some 2) (i:=5) O O O O O (Zt (cs':=[_,_,_,_,_,_,_,_,_,_,_,_,_,_,_,_]) (i:=0) O ta_52 O O O O ⟨O,O⟩) ?_
    refine Ze 47 (none) (i:=6) O O O O O (Zg (xs:=[.tmp 45,.tmp 46]) el_39 O O O O O O (Yc O) ⟨O,O⟩) ?_
    refine Ze 48 (none) (i:=7) O O O O O (Zd (xs:=[.tmp 41,.tmp 44,.tmp 47]) O O (HC) (by repeat' (first|exact Les.refl _|refine Zz ?_ ?_|exact Zy _|exact Le.own _ _ _|exact Le.nil _|refine Le.agg ?_|refine Le.own_seqL ?_|refine Le.seq ?_|exact Less.refl _|exact Less.nil|refine Less.cons ?_ O ?_)) ⟨O,O⟩) ?_
    refine QaV ?_
    show AGo _ _ _ _ _ _ _
    refine Qw ?_
    exact Zr (i:=0) O O O ta_41 O by4 (Zw _) ⟨O,O⟩
   omega
  omega
theorem m_order_c (d:Da) (a:Int) (c:Cn) (hb:c.ts.length≤1000000):PCall Tryd.prog 29 [.agg (mkC d a),.agg c.cells,.val (.int .i64 0)] (.agg (orderX a c.ts.length).cells):=by
 unfold orderX
 by_cases h:c.ts.length=0
 ·rw [if_pos h]
  have HC:=m_con_c d a kEQ
  obtain ⟨ds,dps,dcs,ddv,dp⟩:=d
  obtain ⟨cs,cts,cp⟩:=c
  replace h:cts.length=0:=h
  have hl:=Ty.cellss_len cts
  unfold mkC at *
  simp only [Da.cells,List.cons_append,List.nil_append] at *
  refine Qby ?_
  refine Q8 ?_
  refine QaI ?_
  refine Qbf ?_
  refine Q1 ?_;intro b6
  refine Ql ?_
  refine QH ?_
  refine Qv ?_
  refine Q5 ?_;intro n12
  refine Qi ?_;intro c13 h13
  refine Qh ?_
  obtain ⟨rfl,g13⟩|⟨rfl,g13⟩:=Za h13
  ·omega
  refine Qm ?_
  refine Qd ?_
  refine QaE ?_
  refine Zb 15 O O O (Zd (xs:=[.tmp 14,.const (.string ⟨#[69,81]⟩)]) O O (HC) by3 ?_)
  refine QR ?_
  refine Qae ?_
  exact Zr (i:=0) O O O ta_41 O by4 (Zw _) ⟨O,O⟩
 rw [if_neg h]
 exact m_lex_c d a c _ 0 by11 hb
/- eq -/
def sufX (a:Int):Nat→Nat→Ex
 | i,0=>twoX a kEqN i
 | i,r+1=>opE 10 [twoX a kEqN i,sufX a (i+1) r] a
def eqV (a:Int) (n j:Nat):Ex:=if j=n then namE 4 kTrue a else sufX a j (n - 1 - j)
def eqXX (a:Int) (c:ByteArray) (n cons:Nat):Ex:=.mk 8 kE 0 ty0 [namE 3 kY a] (.mk (patX a c kY n) (eqV a n 0)::(if 1<cons then [.mk (.mk 1 kE 0 [] a) (namE 4 kFalse a)] else [])) [] a
theorem eqV_and (a:Int) {n j:Nat} (h:j+1<n):eqV a n j=opE 10 [twoX a kEqN j,eqV a n (j+1)] a:=by
 obtain ⟨r,rfl⟩:∃ r,n=j+1+(r+1):=⟨n - j - 2,by omega⟩
 unfold eqV
 rw [if_neg by11,if_neg by11,show j+1+(r+1) - 1 - j=r+1 by omega,show j+1+(r+1) - 1 - (j+1)=r by omega]
 rfl
theorem eqV_one (a:Int) {n j:Nat} (h:j+1=n):eqV a n j=twoX a kEqN j:=by
 subst h
 unfold eqV
 rw [if_neg by11,show j+1 - 1 - j=0 by omega]
 rfl
theorem m_eq_c (d:Da) (a:Int) (i:Nat) (c:Cn) (hc:d.cs[i]?=some c) (hn:c.ts.length≤1000000):PCall Tryd.prog 13 [.agg (mkC d a),.val (.int .i64 i)] (.agg (eqXX a c.s c.ts.length d.cs.length).cells):=by
 have HT:=m_con_c d a kTrue
 have HF:=m_con_c d a kFalse
 have HP:=fun k h=>m_pair_c d a kEqN k h
 have HY:=m_name_c d a kY
 have HPT:=m_pattern_c d a c kY by10 hn
 have HC:=fun l=>m_cases_c d a (namE 3 kY a) l
 obtain ⟨ds,dps,dcs,ddv,dp⟩:=d
 obtain ⟨cs,cts,cp⟩:=c
 replace hn:cts.length≤1000000:=hn
 replace hc:dcs[i]?=some (Cn.mk cs cts cp):=hc
 replace HPT:PCall Tryd.prog 24 [.agg (mkC (Da.mk ds dps dcs ddv dp) a),.agg (Cn.mk cs cts cp).cells,.val (.string kY)] (.agg (patX a cs kY cts.length).cells):=HPT
 have hl:=Ty.cellss_len cts
 have hlc:=Cn.cellss_len dcs
 have hcc:=Cn.cellss_get hc
 obtain ⟨r,hr⟩:∃ r,eqXX a cs cts.length dcs.length=r:=⟨_,rfl⟩
 show PCall Tryd.prog _ _ (.agg (eqXX a cs cts.length dcs.length).cells)
 rw [hr]
 unfold eqXX patX at hr
 unfold mkC patX at *
 simp only [Da.cells,List.cons_append,List.nil_append] at *
 refine Zc Tryd.func13 O (by kernel_rfl) O (Yc O) ?_
 refine Qay ?_;intro b4
 refine Qb ?_
 refine Qd ?_
 refine Qar ?_
 refine Qaf ?_
 refine Zb 14 O O O (Zl O te_23 O (.seq _ _) O O (hcc) ?_)
 refine Qa4 ?_
 refine Qa5 ?_;intro b5
 refine Qa6 ?_
 refine Qb ?_
 refine Qd ?_
 refine QaE ?_
 refine Zb 17 O O O (Zd (xs:=[.tmp 16,.const (.string ⟨#[84,114,117,101]⟩)]) O O (HT) by3 ?_)
 refine Q1 ?_;intro b6
 refine QR ?_
 refine Ql ?_
 refine Qd ?_
 refine QF ?_
 refine QaM ?_
 refine Q5 ?_;intro n20
 refine QU ?_
 refine Qh ?_
 refine QH ?_
 apply c_loopk (rg [(0,2),(3,1),(7,2),(10,32)]) (σ:=Nat × Ex) (fun zz=>match zz with|(j,x)=>[(7,.val (.int .i64 ((j:Int) - 1)))]) (fun zz=>match zz with|(j,x)=>[.loc b6 x.cells,.loc b5 (Cn.mk cs cts cp).cells,.loc b4 zEx]) (fun zz=>match zz with|(j,x)=>j≤cts.length∧eqV a cts.length j=x) (fun zz=>match zz with|(j,x)=>j) ((cts.length,namE 4 kTrue a))
 ·repeat' (first|exact Yf|apply Yd rfl|apply Ye rfl)
 ·exact ⟨Nat.le_refl _,by unfold eqV;exact if_pos O⟩
 ·exact Ya O (Le.ieq by11) by6
 ·exact by5
 rintro ⟨j,⟨xk,xs,xn,⟨xtk,xts,xtn,xtl⟩,xks,xal,xbs,xp⟩⟩ hI
 try dsimp only [List.cons_append,List.nil_append] at hI ⊢
 obtain ⟨hj,hA⟩:=hI
 refine QG ?_
 refine Qak ?_;intro c23 h23
 refine Qb ?_
 obtain ⟨rfl,g23⟩|⟨rfl,g23⟩:=Za h23
 ·refine QT ?_
  obtain rfl:j=0:=by omega
  rw [hA] at hr
  refine c_drawnE [0,1,2,3,4,5,6] [5] [[],[],[0,1],[],[0,1,2,3],[0,1,2,3,4],[0,1,2,3,4,5]] tmix O ?_
  refine QM ?_
  refine Ze 43 (some 1) (i:=1) O O O O O (Zt (cs':=[_,_,_]) (i:=0) O ta_47 O O O O ⟨O,O⟩) ?_
  refine Ze 44 (none) (i:=2) O O O O O (Zd (xs:=[.tmp 42,.tmp 43,.const (.string ⟨#[121]⟩)]) O O (HPT) by3 ⟨O,O⟩) ?_
  refine Qbz ?_
  refine Ze 46 (none) (i:=4) O O O O O (Zi (ns:=[0,1]) (xs:=[.tmp 44,.tmp 45]) (cs':=[_,_,_,_,_,_,_,_,_,_,_,_,_,_,_,_]) O tz_52 O tfl_52 O O O O ⟨O,O⟩) ?_
  refine EOps.nw (i:=5) O O O (op_buildSlice_own (xs:=[.tmp 46]) el_39 O O O O O O (Yc O) (fun u47=>⟨_,O,?_⟩))
  refine Qa7 ?_
  show AGo _ _ _ _ _ _ _
  refine Q3 ?_
  refine Qd ?_
  refine Qar ?_
  refine Qg ?_
  refine QaW ?_;intro n51
  refine Qa8 ?_;intro c52 h52
  refine Qb ?_
  obtain ⟨rfl,g52⟩|⟨rfl,g52⟩:=Za h52
  ·refine Q4 ?_
   first
   |(rw [if_neg by11] at hr;subst hr;have HC1:=HC [.mk (.mk 3 cs 0 (patL a kY cts.length) a) (.mk xk xs xn ⟨xtk,xts,xtn,xtl⟩ xks xal xbs xp)])
   | skip
   refine Qbh ?_
   refine QaA ?_
   refine Ze 64 (none) (i:=2) O O O O O (Zd (xs:=[.tmp 63,.const (.string ⟨#[121]⟩)]) O O (HY) by3 ⟨O,O⟩) ?_
   refine QB ?_
   refine Ze 66 (none) (i:=4) O O O O O (Zd (xs:=[.tmp 62,.tmp 64,.tmp 65]) O O (HC1) (by repeat' (first|exact Les.refl _|refine Zz ?_ ?_|exact Zy _|exact Le.own _ _ _|exact Le.nil _|refine Le.agg ?_|refine Le.own_seqL ?_|refine Le.seq ?_|exact Less.refl _|exact Less.nil|refine Less.cons ?_ O ?_)) ⟨O,O⟩) ?_
   refine QbM ?_
   show AGo _ _ _ _ _ _ _
   refine Qw ?_
   first
   | exact Zr (i:=2) rfl rfl rfl ta_41 rfl by4 (Zw _) ⟨rfl,rfl⟩
   | exact Zr (i:=3) rfl rfl rfl ta_41 rfl by4 (Zw _) ⟨rfl,rfl⟩
  refine Qm ?_
  rw [if_pos by11] at hr
  subst hr
  have HC1:=HC [.mk (.mk 3 cs 0 (patL a kY cts.length) a) (.mk xk xs xn ⟨xtk,xts,xtn,xtl⟩ xks xal xbs xp),.mk (.mk 1 kE 0 [] a) (namE 4 kFalse a)]
  refine c_drawnE [0,1,2,3,4,5,6,7,8,9] [8] [[],[],[1],[1,2],[],[4],[1,2,3,4,5],[1,2,3,4,5,6],[0,1,2,3,4,5,6,7],[0,1,2,3,4,5,6,7,8]] tmix O ?_
  refine QB ?_
  refine QaK ?_
  refine Qal ?_
  refine Ze 56 (none) (i:=3) O O O O O (Zi (ns:=[0,4]) (xs:=[.const (.int .i64 1),.tmp 55]) (cs':=[_,_,_,_,_]) O tz_50 O tfl_50 O O O O ⟨O,O⟩) ?_
  refine QM ?_
  refine Ze 58 (none) (i:=5) O O O O O (Zd (xs:=[.tmp 57,.const (.string ⟨#[70,97,108,115,101]⟩)]) O O (HF) by3 ⟨O,O⟩) ?_
  refine Ze 59 (none) (i:=6) O O O O O (Zi (ns:=[0,1]) (xs:=[.tmp 56,.tmp 58]) (cs':=[_,_,_,_,_,_,_,_,_,_,_,_,_,_,_,_]) O tz_52 O tfl_52 O O O O ⟨O,O⟩) ?_
  refine Ze 60 (none) (i:=7) O O O O O (Zg (xs:=[.tmp 59]) el_39 O O O O O O (Yc O) ⟨O,O⟩) ?_
  refine EOps.w 3 (i:=8) O O O O O (op_append (i:=0) el_39 O O O O (.seq _ _) (by first|(simp;done)|(simp;omega)|omega) (fun u61=>⟨_,O,?_⟩))
  refine Qa7 ?_
  show AGo _ _ _ _ _ _ _
  refine Q3 ?_
  first
  |(rw [if_neg by11] at hr;subst hr;have HC1:=HC [.mk (.mk 3 cs 0 (patL a kY cts.length) a) (.mk xk xs xn ⟨xtk,xts,xtn,xtl⟩ xks xal xbs xp)])
  | skip
  refine Qbh ?_
  refine QaA ?_
  refine Ze 64 (none) (i:=2) O O O O O (Zd (xs:=[.tmp 63,.const (.string ⟨#[121]⟩)]) O O (HY) by3 ⟨O,O⟩) ?_
  refine QB ?_
  refine Ze 66 (none) (i:=4) O O O O O (Zd (xs:=[.tmp 62,.tmp 64,.tmp 65]) O O (HC1) (by repeat' (first|exact Les.refl _|refine Zz ?_ ?_|exact Zy _|exact Le.own _ _ _|exact Le.nil _|refine Le.agg ?_|refine Le.own_seqL ?_|refine Le.seq ?_|exact Less.refl _|exact Less.nil|refine Less.cons ?_ O ?_)) ⟨O,O⟩) ?_
  refine QbM ?_
  show AGo _ _ _ _ _ _ _
  refine Qw ?_
  first
  | exact Zr (i:=2) rfl rfl rfl ta_41 rfl by4 (Zw _) ⟨rfl,rfl⟩
  | exact Zr (i:=3) rfl rfl rfl ta_41 rfl by4 (Zw _) ⟨rfl,rfl⟩
 refine Qt ?_
 obtain ⟨j,rfl⟩:∃ k,j=k+1:=⟨j - 1,by omega⟩
 rw [show (((j+1:Nat):Int) - 1)=(j:Int) by omega]
 have HPj:=HP j by11
 obtain ⟨⟨rk,rs,rn,⟨rtk,rts,rtn,rtl⟩,rks,ral,rbs,rp⟩,hr2⟩:∃ r,twoX a kEqN j=r:=⟨_,rfl⟩
 rw [hr2] at HPj
 refine Qc ?_
 refine QaE ?_
 refine Qa ?_
 refine Zb 28 O O O (Zd (xs:=[.tmp 26,.const (.string ⟨#[101,113]⟩),.tmp 27]) O O (HPj) by3 ?_)
 refine Q1 ?_;intro b8
 refine QR ?_
 refine Ql ?_
 refine Qr ?_
 refine QF ?_
 refine Zb 31 O O O (op_load_m1 (i:=2) O ta_28 O O O ?_)
 refine Q5 ?_;intro n32
 refine QU ?_
 refine QA ?_;intro c34 h34
 refine Qb ?_
 obtain ⟨rfl,g34⟩|⟨rfl,g34⟩:=Za h34
 ·refine QC ?_
  refine Qe ?_
  refine Qc ?_
  refine Qaj ?_
  refine Qa1 ?_
  refine Qs ?_
  refine Qav ?_
  refine Qa ?_
  refine QU ?_
  refine Qad ?_
  first
  | exact ⟨(j,opE 10 [.mk rk rs rn ⟨rtk,rts,rtn,rtl⟩ rks ral rbs rp,.mk xk xs xn ⟨xtk,xts,xtn,xtl⟩ xks xal xbs xp] a),⟨by omega,by rw [eqV_and a by11,hr2,hA]⟩,by show j<j+1;omega,by6,by0⟩
  | exact ⟨(j,.mk rk rs rn ⟨rtk,rts,rtn,rtl⟩ rks ral rbs rp),⟨by omega,by rw [eqV_one a by11,hr2]⟩,by show j<j+1;omega,by6,by0⟩
 refine Qm ?_
 refine Qc ?_
 refine Qaj ?_
 refine Qbx ?_
 refine Zb 37 O O O (Zg (xs:=[.tmp 35,.tmp 36]) el_38 O O O O O O (Yc O) ?_)
 refine Qg ?_
 refine Zb 40 O O O (Zi (ns:=[0,4,7]) (xs:=[.const (.int .i64 10),.tmp 37,.tmp 39]) (cs':=[_,_,_,_,_,_,_,_,_,_,_]) O tz_41 O tfl_41 O O O O ?_)
 refine QR ?_
 refine Qb ?_
 refine Qc ?_
 refine Qaj ?_
 refine Qa1 ?_
 refine Qs ?_
 refine Qav ?_
 refine Qa ?_
 refine QU ?_
 refine Qad ?_
 first
 | exact ⟨(j,opE 10 [.mk rk rs rn ⟨rtk,rts,rtn,rtl⟩ rks ral rbs rp,.mk xk xs xn ⟨xtk,xts,xtn,xtl⟩ xks xal xbs xp] a),⟨by omega,by rw [eqV_and a by11,hr2,hA]⟩,by show j<j+1;omega,by6,by0⟩
 | exact ⟨(j,.mk rk rs rn ⟨rtk,rts,rtn,rtl⟩ rks ral rbs rp),⟨by omega,by rw [eqV_one a by11,hr2]⟩,by show j<j+1;omega,by6,by0⟩
/- alternatives of all constructors, by their places -/
def alF (f:Nat→Cn→Al):Nat→List Cn→List Al
 | _,[]=>[]
 | k,c::l=>f k c::alF f (k+1) l
theorem alF_snoc (f:Nat→Cn→Al) (c:Cn):∀ (l:List Cn) (k:Nat),alF f k (l++[c])=alF f k l++[f (k+l.length) c]
 | [],k=>rfl
 | x::l,k=>by
  show f k x::alF f (k+1) (l++[c])=f k x::alF f (k+1) l++[f (k+(l.length+1)) c]
  rw [alF_snoc f c l (k+1),show k+1+l.length=k+(l.length+1) by omega]
  rfl
theorem alF_len (f:Nat→Cn→Al):∀ (l:List Cn) (k:Nat),(alF f k l).length=l.length
 | [],_=>rfl
 | _::l,k=>by show (alF f (k+1) l).length+1=l.length+1;rw [alF_len f l]
theorem alF_mem {f:Nat→Cn→Al} {x:Al}:∀ {l:List Cn} {k:Nat},x∈alF f k l→∃ i c,l[i]?=some c∧x=f (k+i) c
 | [],_,h=>by simp [alF] at h
 | c::l,k,h=>by
  rw [alF] at h
  rcases List.mem_cons.1 h with h|h
  ·exact ⟨0,c,O,h⟩
  obtain ⟨i,d,h1,h2⟩:=alF_mem h
  exact ⟨i+1,d,by simpa using h1,by rw [h2];congr 1;omega⟩
def cmpA (a:Int) (i k:Nat) (c:Cn):Al:=if k<i then .mk (patX a c.s kE c.ts.length) (namE 4 kGT a) else if k=i then .mk (patX a c.s kY c.ts.length) (orderX a c.ts.length) else .mk (patX a c.s kE c.ts.length) (namE 4 kLT a)
def cmpXX (a:Int) (i:Nat) (cs:List Cn):Ex:=.mk 8 kE 0 ty0 [namE 3 kY a] (alF (cmpA a i) 0 cs) [] a
theorem Al.cellss_snoc (l:List Al) (x:Al):Al.cellss (l++[x])=Al.cellss l++[x.cells]:=by
 rw [Al.cellss_map,Al.cellss_map,List.map_append];rfl
theorem m_compare_c (d:Da) (a:Int) (i:Nat) (hn:∀ c∈d.cs,c.ts.length≤1000000) (hd:d.cs.length≤1000000):PCall Tryd.prog 14 [.agg (mkC d a),.val (.int .i64 i)] (.agg (cmpXX a i d.cs).cells):=by
 have HG:=m_con_c d a kGT
 have HL:=m_con_c d a kLT
 have HY:=m_name_c d a kY
 have HP:=fun c of h1 h2=>m_pattern_c d a c of h1 h2
 have HO:=fun c h=>m_order_c d a c h
 have HC:=m_cases_c d a (namE 3 kY a) (alF (cmpA a i) 0 d.cs)
 obtain ⟨ds,dps,dcs,ddv,dp⟩:=d
 replace hn:∀ c∈dcs,c.ts.length≤1000000:=hn
 replace hd:dcs.length≤1000000:=hd
 replace HC:PCall Tryd.prog 25 [.agg (mkC (Da.mk ds dps dcs ddv dp) a),.agg (namE 3 kY a).cells,.seq 16 (Al.cellss (alF (cmpA a i) 0 dcs))] (.agg (cmpXX a i dcs).cells):=HC
 show PCall Tryd.prog _ _ (.agg (cmpXX a i dcs).cells)
 have hlc:=Cn.cellss_len dcs
 unfold mkC cmpXX at *
 simp only [Da.cells,List.cons_append,List.nil_append] at *
 refine Zc Tryd.func14 O (by kernel_rfl) O (Yc O) ?_
 refine Qay ?_;intro b4
 refine Qb ?_
 refine Qax ?_
 refine Qd ?_
 refine Qar ?_
 refine Qg ?_
 refine QaW ?_;intro n11
 refine QW ?_
 refine c_ownNew 52 16 ?_
 apply c_loopk (rg [(0,1),(3,1),(5,5),(12,42)]) (σ:=Nat × Value) (fun zz=>match zz with|(k,u)=>[(12,.val (.int .i64 k)),(5,.own u 16 (Al.cellss (alF (cmpA a i) 0 (dcs.take k))))]) (fun zz=>match zz with|(k,u)=>[.loc b4 zEx,.own 52 16 u]) (fun zz=>match zz with|(k,u)=>k≤dcs.length) (fun zz=>match zz with|(k,u)=>dcs.length - k) ((0,.slice none 0 0))
 ·repeat' (first|exact Yf|apply Yd rfl|apply Ye rfl)
 ·exact Nat.zero_le _
 ·exact Ya O (Zy _) (Ya O (Le.nilOwn 16) (SLe.nil _))
 ·exact (MLe.of_eq O)
 rintro ⟨k,u⟩ hI
 try dsimp only [List.cons_append,List.nil_append] at hI ⊢
 have hk:=hI
 have hal:(Al.cellss (alF (cmpA a i) 0 (dcs.take k))).length≤1000000:=by
  rw [Al.cellss_map,List.length_map,alF_len,List.length_take];omega
 refine QX ?_;intro c13 h13
 refine Ql ?_
 obtain ⟨rfl,g13⟩|⟨rfl,g13⟩:=Za h13
 ·refine QT ?_
  rw [List.take_of_length_le by11]
  refine Qbh ?_
  refine QaA ?_
  refine Ze 56 (none) (i:=2) O O O O O (Zd (xs:=[.tmp 55,.const (.string ⟨#[121]⟩)]) O O (HY) by3 ⟨O,O⟩) ?_
  refine QB ?_
  refine Ze 58 (none) (i:=4) O O O O O (Zd (xs:=[.tmp 54,.tmp 56,.tmp 57]) O O (HC) by3 ⟨O,O⟩) ?_
  refine QaV ?_
  show AGo _ _ _ _ _ _ _
  refine Qw ?_
  exact Zr (i:=0) O O O ta_41 O by4 (Zw _) ⟨O,O⟩
 refine Qt ?_
 obtain ⟨⟨qs,qts,qp⟩,hxq⟩:=Zm (l:=dcs) (i:=k) by8
 have hcq:=Cn.cellss_get hxq
 have hmq:=Yg hxq
 have hnq:qts.length≤1000000:=hn _ hmq
 have hsn:=take_snoc hxq
 have htl:(dcs.take k).length=k:=by rw [List.length_take];omega
 have HPE:PCall Tryd.prog 24 _ (.agg (patX a qs kE qts.length).cells):=HP (Cn.mk qs qts qp) kE by10 hnq
 have HPY:PCall Tryd.prog 24 _ (.agg (patX a qs kY qts.length).cells):=HP (Cn.mk qs qts qp) kY by10 hnq
 have HOq:PCall Tryd.prog 29 _ (.agg (orderX a qts.length).cells):=HO (Cn.mk qs qts qp) hnq
 have hca:cmpA a i k (Cn.mk qs qts qp)=if k<i then .mk (patX a qs kE qts.length) (namE 4 kGT a) else if k=i then .mk (patX a qs kY qts.length) (orderX a qts.length) else .mk (patX a qs kE qts.length) (namE 4 kLT a):=rfl
 obtain ⟨⟨ok,os,on,⟨otk,ots,otn,otl⟩,oks,oal,obs,op⟩,ho⟩:∃ r,orderX a qts.length=r:=⟨_,rfl⟩
 rw [ho] at HOq hca
 unfold patX at HPE HPY hca
 simp only [Cn.cells] at HPE HPY HOq
 refine Qan ?_
 refine Qa9 ?_
 refine Qa4 ?_
 refine Qa5 ?_;intro b7
 refine Qab ?_
 refine Qa6 ?_
 refine Qb ?_
 refine QH ?_
 refine Qr ?_
 refine Qa ?_
 refine QA ?_;intro c29 h29
 refine Qh ?_
 obtain ⟨rfl,g29⟩|⟨rfl,g29⟩:=Za h29
 ·refine QI ?_
  refine Qr ?_
  refine Qa ?_
  refine Qi ?_;intro c42 h42
  refine Qh ?_
  obtain ⟨rfl,g42⟩|⟨rfl,g42⟩:=Za h42
  ·refine QI ?_
   refine QbN ?_
   refine QB ?_
   refine QM ?_
   refine Qbi ?_
   refine Ze 20 (none) (i:=3) O O O O O (Zd (xs:=[.tmp 18,.tmp 19,.const (.string ⟨#[]⟩)]) O O (HPE) by3 ⟨O,O⟩) ?_
   refine QM ?_
   refine Ze 22 (none) (i:=5) O O O O O (Zd (xs:=[.tmp 21,.const (.string ⟨#[76,84]⟩)]) O O (HL) by3 ⟨O,O⟩) ?_
   refine Ze 23 (none) (i:=6) O O O O O (Zi (ns:=[0,1]) (xs:=[.tmp 20,.tmp 22]) (cs':=[_,_,_,_,_,_,_,_,_,_,_,_,_,_,_,_]) O tz_52 O tfl_52 O O O O ⟨O,O⟩) ?_
   refine Ze 24 (none) (i:=7) O O O O O (Zg (xs:=[.tmp 23]) el_39 O O O O O O (Yc O) ⟨O,O⟩) ?_
   refine EOps.w 2 (i:=8) O O O O O (op_append (i:=0) el_39 O O O O (.seq _ _) (by first|(simp;done)|(simp;omega)|omega) (fun u25=>⟨_,O,?_⟩))
   refine Qa7 ?_
   show AGo _ _ _ _ _ _ _
   refine Q0 ?_
   refine QK ?_
   first
   |(rw [if_pos by11] at hca;exact ⟨(k+1,u38),by show k+1≤dcs.length;omega,by show dcs.length - (k+1)<dcs.length - k;omega,Ya rfl (Zy _) (Ya rfl (Le.own_eq (by rw [hsn,alF_snoc,Al.cellss_snoc,htl,show 0+k=k by omega,hca];rfl)) by6),(Zx _ (MLe.of_eq rfl))⟩)
   |(rw [if_neg by11,if_pos by11] at hca;exact ⟨(k+1,u52),by show k+1≤dcs.length;omega,by show dcs.length - (k+1)<dcs.length - k;omega,Ya rfl (Zy _) (Ya rfl (Le.own_eq (by rw [hsn,alF_snoc,Al.cellss_snoc,htl,show 0+k=k by omega,hca];rfl)) by6),(Zx _ (MLe.of_eq rfl))⟩)
   |(rw [if_neg by11,if_neg by11] at hca;exact ⟨(k+1,u25),by show k+1≤dcs.length;omega,by show dcs.length - (k+1)<dcs.length - k;omega,Ya rfl (Zy _) (Ya rfl (Le.own_eq (by rw [hsn,alF_snoc,Al.cellss_snoc,htl,show 0+k=k by omega,hca];rfl)) by6),(Zx _ (MLe.of_eq rfl))⟩)
  refine Qm ?_
  refine c_drawnE [0,1,2,3,4,5,6,7,8,9,10] [9] [[],[],[],[1,2],[],[],[1,2,3,4,5],[1,2,3,4,5,6],[1,2,3,4,5,6,7],[0,1,2,3,4,5,6,7,8],[0,1,2,3,4,5,6,7,8,9]] tmix O ?_
  refine QB ?_
  refine QM ?_
  refine Qbi ?_
  refine Ze 46 (none) (i:=3) O O O O O (Zd (xs:=[.tmp 44,.tmp 45,.const (.string ⟨#[121]⟩)]) O O (HPY) by3 ⟨O,O⟩) ?_
  refine QM ?_
  refine Qbi ?_
  refine Ze 49 (none) (i:=6) O O O O O (Zd (xs:=[.tmp 47,.tmp 48,.const (.int .i64 0)]) O O (HOq) by3 ⟨O,O⟩) ?_
  refine Ze 50 (none) (i:=7) O O O O O (Zi (ns:=[0,1]) (xs:=[.tmp 46,.tmp 49]) (cs':=[_,_,_,_,_,_,_,_,_,_,_,_,_,_,_,_]) O tz_52 O tfl_52 O O O O ⟨O,O⟩) ?_
  refine Ze 51 (none) (i:=8) O O O O O (Zg (xs:=[.tmp 50]) el_39 O O O O O O (Yc O) ⟨O,O⟩) ?_
  refine EOps.w 2 (i:=9) O O O O O (op_append (i:=0) el_39 O O O O (.seq _ _) (by first|(simp;done)|(simp;omega)|omega) (fun u52=>⟨_,O,?_⟩))
  refine Qa7 ?_
  show AGo _ _ _ _ _ _ _
  refine Q0 ?_
  refine QK ?_
  first
  |(rw [if_pos by11] at hca;exact ⟨(k+1,u38),by show k+1≤dcs.length;omega,by show dcs.length - (k+1)<dcs.length - k;omega,Ya rfl (Zy _) (Ya rfl (Le.own_eq (by rw [hsn,alF_snoc,Al.cellss_snoc,htl,show 0+k=k by omega,hca];rfl)) by6),(Zx _ (MLe.of_eq rfl))⟩)
  |(rw [if_neg by11,if_pos by11] at hca;exact ⟨(k+1,u52),by show k+1≤dcs.length;omega,by show dcs.length - (k+1)<dcs.length - k;omega,Ya rfl (Zy _) (Ya rfl (Le.own_eq (by rw [hsn,alF_snoc,Al.cellss_snoc,htl,show 0+k=k by omega,hca];rfl)) by6),(Zx _ (MLe.of_eq rfl))⟩)
  |(rw [if_neg by11,if_neg by11] at hca;exact ⟨(k+1,u25),by show k+1≤dcs.length;omega,by show dcs.length - (k+1)<dcs.length - k;omega,Ya rfl (Zy _) (Ya rfl (Le.own_eq (by rw [hsn,alF_snoc,Al.cellss_snoc,htl,show 0+k=k by omega,hca];rfl)) by6),(Zx _ (MLe.of_eq rfl))⟩)
 refine Qm ?_
 refine QbN ?_
 refine QB ?_
 refine QM ?_
 refine Qbi ?_
 refine Ze 33 (none) (i:=3) O O O O O (Zd (xs:=[.tmp 31,.tmp 32,.const (.string ⟨#[]⟩)]) O O (HPE) by3 ⟨O,O⟩) ?_
 refine QM ?_
 refine Ze 35 (none) (i:=5) O O O O O (Zd (xs:=[.tmp 34,.const (.string ⟨#[71,84]⟩)]) O O (HG) by3 ⟨O,O⟩) ?_
 refine Ze 36 (none) (i:=6) O O O O O (Zi (ns:=[0,1]) (xs:=[.tmp 33,.tmp 35]) (cs':=[_,_,_,_,_,_,_,_,_,_,_,_,_,_,_,_]) O tz_52 O tfl_52 O O O O ⟨O,O⟩) ?_
 refine Ze 37 (none) (i:=7) O O O O O (Zg (xs:=[.tmp 36]) el_39 O O O O O O (Yc O) ⟨O,O⟩) ?_
 refine EOps.w 2 (i:=8) O O O O O (op_append (i:=0) el_39 O O O O (.seq _ _) (by first|(simp;done)|(simp;omega)|omega) (fun u38=>⟨_,O,?_⟩))
 refine Qa7 ?_
 show AGo _ _ _ _ _ _ _
 refine Q0 ?_
 refine QK ?_
 first
 |(rw [if_pos by11] at hca;exact ⟨(k+1,u38),by show k+1≤dcs.length;omega,by show dcs.length - (k+1)<dcs.length - k;omega,Ya rfl (Zy _) (Ya rfl (Le.own_eq (by rw [hsn,alF_snoc,Al.cellss_snoc,htl,show 0+k=k by omega,hca];rfl)) by6),(Zx _ (MLe.of_eq rfl))⟩)
 |(rw [if_neg by11,if_pos by11] at hca;exact ⟨(k+1,u52),by show k+1≤dcs.length;omega,by show dcs.length - (k+1)<dcs.length - k;omega,Ya rfl (Zy _) (Ya rfl (Le.own_eq (by rw [hsn,alF_snoc,Al.cellss_snoc,htl,show 0+k=k by omega,hca];rfl)) by6),(Zx _ (MLe.of_eq rfl))⟩)
 |(rw [if_neg by11,if_neg by11] at hca;exact ⟨(k+1,u25),by show k+1≤dcs.length;omega,by show dcs.length - (k+1)<dcs.length - k;omega,Ya rfl (Zy _) (Ya rfl (Le.own_eq (by rw [hsn,alF_snoc,Al.cellss_snoc,htl,show 0+k=k by omega,hca];rfl)) by6),(Zx _ (MLe.of_eq rfl))⟩)
def hatE (a:Int) (x y:Ex):Ex:=opE 5 [opE 5 [namE 3 kHat a,x] a,y] a
def aheadB (c:ByteArray) (j:Nat):ByteArray:=if j=0 then ⟨#[40]⟩++c++⟨#[32]⟩ else ⟨#[32]⟩
def showK (a:Int) (j:Nat):Ex:=opE 5 [namE 3 kShw a,namE 3 (kX++num j) a] a
def shW (a:Int) (c:ByteArray):Nat→Nat→Ex
 | j,0=>hatE a (namE 2 (aheadB c j) a) (hatE a (showK a j) (namE 2 ⟨#[41]⟩ a))
 | j,r+1=>hatE a (namE 2 (aheadB c j) a) (hatE a (showK a j) (shW a c (j+1) r))
def shV (a:Int) (c:ByteArray) (n j:Nat):Ex:=if j=n then namE 2 ⟨#[41]⟩ a else shW a c j (n - 1 - j)
theorem shV_step (a:Int) (c:ByteArray) {n j:Nat} (h:j<n):shV a c n j=hatE a (namE 2 (aheadB c j) a) (hatE a (showK a j) (shV a c n (j+1))):=by
 obtain ⟨r,rfl⟩:∃ r,n=j+1+r:=⟨n - j - 1,by omega⟩
 unfold shV
 rw [if_neg by11,show j+1+r - 1 - j=r by omega]
 cases r with
 | zero=>rw [if_pos by11];rfl
 | succ r=>rw [if_neg by11,show j+1+(r+1) - 1 - (j+1)=r by omega];rfl
def showXX (a:Int) (c:ByteArray) (n:Nat):Ex:=if n=0 then namE 2 c a else shV a c n 0
theorem m_show_c (d:Da) (a:Int) (i:Nat) (c:Cn) (hc:d.cs[i]?=some c) (hn:c.ts.length≤1000000) (hsz:c.s.size≤1000000):PCall Tryd.prog 15 [.agg (mkC d a),.val (.int .i64 i)] (.agg (showXX a c.s c.ts.length).cells):=by
 have HT:=fun s=>m_text_c d a s
 have HN:=fun s=>m_name_c d a s
 have HA:=fun k h=>m_arg_c kX by10 k h
 have HP:=fun f l=>m_apply_c d a f l
 obtain ⟨ds,dps,dcs,ddv,dp⟩:=d
 obtain ⟨cs,cts,cp⟩:=c
 replace hn:cts.length≤1000000:=hn
 replace hsz:cs.size≤1000000:=hsz
 replace hc:dcs[i]?=some (Cn.mk cs cts cp):=hc
 have hl:=Ty.cellss_len cts
 have hlc:=Cn.cellss_len dcs
 have hcc:=Cn.cellss_get hc
 have hz40:(⟨#[40]⟩:ByteArray).size=1:=rfl
 have hz32:(⟨#[32]⟩:ByteArray).size=1:=rfl
 have hsa:(⟨#[40]⟩++cs:ByteArray).size≤1000001:=by rw [ByteArray.size_append];omega
 obtain ⟨r,hr⟩:∃ r,showXX a cs cts.length=r:=⟨_,rfl⟩
 show PCall Tryd.prog _ _ (.agg (showXX a cs cts.length).cells)
 rw [hr]
 unfold showXX at hr
 unfold mkC at *
 simp only [Da.cells,List.cons_append,List.nil_append] at *
 have HT1:=HT cs
 have HT2:=HT ⟨#[41]⟩
 refine Zc Tryd.func15 O (by kernel_rfl) O (Yc O) ?_
 refine Qay ?_;intro b4
 refine Qb ?_
 refine Qd ?_
 refine Qar ?_
 refine Qaf ?_
 refine Zb 13 O O O (Zl O te_23 O (.seq _ _) O O (hcc) ?_)
 refine Qa4 ?_
 refine Qa5 ?_;intro b5
 refine Qa6 ?_
 refine Ql ?_
 refine Qd ?_
 refine Q9 ?_
 refine Q5 ?_;intro n17
 refine Qi ?_;intro c18 h18
 refine Qb ?_
 obtain ⟨rfl,g18⟩|⟨rfl,g18⟩:=Za h18
 ·refine Q4 ?_
  rw [if_neg by11] at hr
  refine Qc ?_
  refine QaE ?_
  refine Zb 24 O O O (Zd (xs:=[.tmp 23,.const (.string ⟨#[41]⟩)]) O O (HT2) by3 ?_)
  refine Q1 ?_;intro b6
  refine QR ?_
  refine Ql ?_
  refine Qd ?_
  refine QF ?_
  refine QaM ?_
  refine Q5 ?_;intro n27
  refine QU ?_
  refine Qh ?_
  refine QH ?_
  apply c_loopk (rg [(0,2),(3,1),(7,49)]) (σ:=Nat × Ex) (fun zz=>match zz with|(j,x)=>[(7,.val (.int .i64 ((j:Int) - 1)))]) (fun zz=>match zz with|(j,x)=>[.loc b6 x.cells,.loc b5 (Cn.mk cs cts cp).cells,.loc b4 zEx]) (fun zz=>match zz with|(j,x)=>j≤cts.length∧shV a cs cts.length j=x) (fun zz=>match zz with|(j,x)=>j) ((cts.length,namE 2 ⟨#[41]⟩ a))
  ·repeat' (first|exact Yf|apply Yd rfl|apply Ye rfl)
  ·exact ⟨Nat.le_refl _,by unfold shV;exact if_pos O⟩
  ·exact Ya O (Le.ieq by11) by6
  ·exact by5
  rintro ⟨j,⟨xk,xs,xn,⟨xtk,xts,xtn,xtl⟩,xks,xal,xbs,xp⟩⟩ hI
  try dsimp only [List.cons_append,List.nil_append] at hI ⊢
  obtain ⟨hj,hA⟩:=hI
  refine QG ?_
  refine Qak ?_;intro c30 h30
  refine Qb ?_
  obtain ⟨rfl,g30⟩|⟨rfl,g30⟩:=Za h30
  ·refine QT ?_
   obtain rfl:j=0:=by omega
   rw [hA] at hr
   subst hr
   refine Qc ?_
   refine Qaj ?_
   refine Zs O O (Zk (cs':=[_,_,_,_,_,_,_,_,_,_,_]) (i:=2) O ts_41 O O O O O (Yc O) O ?_)
   refine Qae ?_
   exact Zr (i:=2) O O O ta_41 O by4 (Zw _) ⟨O,O⟩
  refine Qt ?_
  obtain ⟨j,rfl⟩:∃ k,j=k+1:=⟨j - 1,by omega⟩
  rw [show (((j+1:Nat):Int) - 1)=(j:Int) by omega]
  have HAj:=HA j by11
  have HNj:=HN (kX++num j)
  have H1:PCall Tryd.prog 31 _ (.agg (showK a j).cells):=HP kShw [namE 3 (kX++num j) a]
  have H2:PCall Tryd.prog 31 _ (.agg (hatE a (showK a j) (.mk xk xs xn ⟨xtk,xts,xtn,xtl⟩ xks xal xbs xp)).cells):=HP kHat [showK a j,.mk xk xs xn ⟨xtk,xts,xtn,xtl⟩ xks xal xbs xp]
  have H3:PCall Tryd.prog 31 _ (.agg (hatE a (namE 2 (aheadB cs j) a) (hatE a (showK a j) (.mk xk xs xn ⟨xtk,xts,xtn,xtl⟩ xks xal xbs xp))).cells):=HP kHat [namE 2 (aheadB cs j) a,hatE a (showK a j) (.mk xk xs xn ⟨xtk,xts,xtn,xtl⟩ xks xal xbs xp)]
  have H0:=HT (aheadB cs j)
  have hst:=shV_step a cs (n:=cts.length) (j:=j) by11
  rw [hA] at hst
  unfold hatE showK at H1 H2 H3 hst
  generalize kX++num j=nx at *
  refine Qc ?_
  refine Qh ?_
  refine QG ?_
  refine Qi ?_;intro c34 h34
  refine Qb ?_
  obtain ⟨rfl,g34⟩|⟨rfl,g34⟩:=Za h34
  ·refine QC ?_
   refine Qe ?_
   first
   | rw [show aheadB cs j=⟨#[40]⟩++cs++⟨#[32]⟩ from if_pos by11] at H0 H3 hst
   | rw [show aheadB cs j=⟨#[32]⟩ from if_neg by11] at H0 H3 hst
   refine QbO ?_
   refine QaA ?_
   refine QB ?_
   refine Ze 42 (none) (i:=3) O O O O O (Zd (xs:=[.tmp 40,.tmp 41]) O O (H0) by3 ⟨O,O⟩) ?_
   refine QaA ?_
   refine QM ?_
   refine QB ?_
   refine Ze 47 (none) (i:=8) O O O O O (Zd (xs:=[.const (.string ⟨#[120]⟩),.tmp 46]) O O (HAj) by3 ⟨O,O⟩) ?_
   refine Ze 48 (none) (i:=9) O O O O O (Zd (xs:=[.tmp 45,.tmp 47]) O O (HNj) by3 ⟨O,O⟩) ?_
   refine QbP ?_
   refine Ze 50 (none) (i:=11) O O O O O (Zd (xs:=[.tmp 44,.const (.string ⟨#[115,104,111,119]⟩),.tmp 49]) O O (H1) by3 ⟨O,O⟩) ?_
   refine Qbz ?_
   refine QbR ?_
   refine Ze 53 (none) (i:=14) O O O O O (Zd (xs:=[.tmp 43,.const (.string ⟨#[94]⟩),.tmp 52]) O O (H2) by3 ⟨O,O⟩) ?_
   refine QbS ?_
   refine Ze 55 (none) (i:=16) O O O O O (Zd (xs:=[.tmp 39,.const (.string ⟨#[94]⟩),.tmp 54]) O O (H3) by3 ⟨O,O⟩) ?_
   refine QaV ?_
   show AGo _ _ _ _ _ _ _
   refine Qav ?_
   refine Qa ?_
   refine QU ?_
   refine Qad ?_
   exact ⟨(j,_),⟨by omega,hst⟩,by show j<j+1;omega,by6,by0⟩
  refine Qm ?_
  refine Qc ?_
  refine QF ?_
  refine QaM ?_
  refine Qbw ?_
  refine Qbw ?_
  refine Qh ?_
  first
  | rw [show aheadB cs j=⟨#[40]⟩++cs++⟨#[32]⟩ from if_pos by11] at H0 H3 hst
  | rw [show aheadB cs j=⟨#[32]⟩ from if_neg by11] at H0 H3 hst
  refine QbO ?_
  refine QaA ?_
  refine QB ?_
  refine Ze 42 (none) (i:=3) O O O O O (Zd (xs:=[.tmp 40,.tmp 41]) O O (H0) by3 ⟨O,O⟩) ?_
  refine QaA ?_
  refine QM ?_
  refine QB ?_
  refine Ze 47 (none) (i:=8) O O O O O (Zd (xs:=[.const (.string ⟨#[120]⟩),.tmp 46]) O O (HAj) by3 ⟨O,O⟩) ?_
  refine Ze 48 (none) (i:=9) O O O O O (Zd (xs:=[.tmp 45,.tmp 47]) O O (HNj) by3 ⟨O,O⟩) ?_
  refine QbP ?_
  refine Ze 50 (none) (i:=11) O O O O O (Zd (xs:=[.tmp 44,.const (.string ⟨#[115,104,111,119]⟩),.tmp 49]) O O (H1) by3 ⟨O,O⟩) ?_
  refine Qbz ?_
  refine QbR ?_
  refine Ze 53 (none) (i:=14) O O O O O (Zd (xs:=[.tmp 43,.const (.string ⟨#[94]⟩),.tmp 52]) O O (H2) by3 ⟨O,O⟩) ?_
  refine QbS ?_
  refine Ze 55 (none) (i:=16) O O O O O (Zd (xs:=[.tmp 39,.const (.string ⟨#[94]⟩),.tmp 54]) O O (H3) by3 ⟨O,O⟩) ?_
  refine QaV ?_
  show AGo _ _ _ _ _ _ _
  refine Qav ?_
  refine Qa ?_
  refine QU ?_
  refine Qad ?_
  exact ⟨(j,_),⟨by omega,hst⟩,by show j<j+1;omega,by6,by0⟩
 refine Qag ?_
 rw [if_pos by11] at hr
 subst hr
 refine Qc ?_
 refine QaE ?_
 refine Q9 ?_
 refine Zb 22 O O O (Zd (xs:=[.tmp 19,.tmp 21]) O O (HT1) by3 ?_)
 refine Qa1 ?_
 refine Qae ?_
 exact Zr (i:=1) O O O ta_41 O by4 (Zw _) ⟨O,O⟩
def eachX (a:Int) (F:Nat→Ex) (cs:List Cn):Ex:=.mk 8 kE 0 ty0 [namE 3 kX a] (alF (fun k c=>.mk (patX a c.s kX c.ts.length) (F k)) 0 cs) [] a
theorem m_each_c (d:Da) (a:Int) (f:FuncId) (F:Nat→Ex) (hF:∀ i,i<d.cs.length→PCall Tryd.prog f [.agg (mkC d a),.val (.int .i64 i)] (.agg (F i).cells)) (hn:∀ c∈d.cs,c.ts.length≤1000000) (hd:d.cs.length≤1000000):PCall Tryd.prog 12 [.agg (mkC d a),.clo (.func f) [.agg (mkC d a)] []] (.agg (eachX a F d.cs).cells):=by
 have HY:=m_name_c d a kX
 have HP:=fun c h2=>m_pattern_c d a c kX by10 h2
 have HC:=m_cases_c d a (namE 3 kX a) (alF (fun k c=>.mk (patX a c.s kX c.ts.length) (F k)) 0 d.cs)
 obtain ⟨ds,dps,dcs,ddv,dp⟩:=d
 replace hn:∀ c∈dcs,c.ts.length≤1000000:=hn
 replace hd:dcs.length≤1000000:=hd
 replace hF:∀ i,i<dcs.length→PCall Tryd.prog f [.agg (mkC (Da.mk ds dps dcs ddv dp) a),.val (.int .i64 i)] (.agg (F i).cells):=hF
 show PCall Tryd.prog _ _ (.agg (eachX a F dcs).cells)
 replace HC:PCall Tryd.prog 25 [.agg (mkC (Da.mk ds dps dcs ddv dp) a),.agg (namE 3 kX a).cells,.seq 16 (Al.cellss (alF (fun k c=>.mk (patX a c.s kX c.ts.length) (F k)) 0 dcs))] (.agg (eachX a F dcs).cells):=HC
 have hlc:=Cn.cellss_len dcs
 unfold mkC eachX at *
 simp only [Da.cells,List.cons_append,List.nil_append] at *
 refine Zc Tryd.func12 O (by kernel_rfl) O (Yc O) ?_
 refine Qay ?_;intro b4
 refine Qb ?_
 refine Qax ?_
 refine Qd ?_
 refine Qar ?_
 refine Qg ?_
 refine QaW ?_;intro n11
 refine QW ?_
 refine c_ownNew 52 16 ?_
 apply c_loopk (rg [(0,1),(3,1),(5,5),(12,16)]) (σ:=Nat × Value) (fun zz=>match zz with|(k,u)=>[(12,.val (.int .i64 k)),(5,.own u 16 (Al.cellss (alF (fun k c=>.mk (patX a c.s kX c.ts.length) (F k)) 0 (dcs.take k))))]) (fun zz=>match zz with|(k,u)=>[.loc b4 zEx,.own 52 16 u]) (fun zz=>match zz with|(k,u)=>k≤dcs.length) (fun zz=>match zz with|(k,u)=>dcs.length - k) ((0,.slice none 0 0))
 ·repeat' (first|exact Yf|apply Yd rfl|apply Ye rfl)
 ·exact Nat.zero_le _
 ·exact Ya O (Zy _) (Ya O (Le.nilOwn 16) (SLe.nil _))
 ·exact (MLe.of_eq O)
 rintro ⟨k,u⟩ hI
 try dsimp only [List.cons_append,List.nil_append] at hI ⊢
 have hk:=hI
 have hal:(Al.cellss (alF (fun k c=>.mk (patX a c.s kX c.ts.length) (F k)) 0 (dcs.take k))).length≤1000000:=by
  rw [Al.cellss_map,List.length_map,alF_len,List.length_take];omega
 refine QX ?_;intro c13 h13
 refine Ql ?_
 obtain ⟨rfl,g13⟩|⟨rfl,g13⟩:=Za h13
 ·refine QT ?_
  rw [List.take_of_length_le by11]
  refine Qbh ?_
  refine QaA ?_
  refine Ze 30 (none) (i:=2) O O O O O (Zd (xs:=[.tmp 29,.const (.string ⟨#[120]⟩)]) O O (HY) by3 ⟨O,O⟩) ?_
  refine QB ?_
  refine Ze 32 (none) (i:=4) O O O O O (Zd (xs:=[.tmp 28,.tmp 30,.tmp 31]) O O (HC) by3 ⟨O,O⟩) ?_
  refine QaV ?_
  show AGo _ _ _ _ _ _ _
  refine Qw ?_
  exact Zr (i:=0) O O O ta_41 O by4 (Zw _) ⟨O,O⟩
 refine Qt ?_
 obtain ⟨⟨qs,qts,qp⟩,hxq⟩:=Zm (l:=dcs) (i:=k) by8
 have hcq:=Cn.cellss_get hxq
 have hmq:=Yg hxq
 have hnq:qts.length≤1000000:=hn _ hmq
 have hsn:=take_snoc hxq
 have htl:(dcs.take k).length=k:=by rw [List.length_take];omega
 have HPE:PCall Tryd.prog 24 _ (.agg (patX a qs kX qts.length).cells):=HP (Cn.mk qs qts qp) hnq
 have HFk:=hF k by11
 obtain ⟨⟨ok,os,on,⟨otk,ots,otn,otl⟩,oks,oal,obs,op⟩,ho⟩:∃ r,F k=r:=⟨_,rfl⟩
 rw [ho] at HFk
 unfold patX at HPE
 simp only [Cn.cells] at HPE
 refine Qan ?_
 refine Qa9 ?_
 refine Qa4 ?_
 refine Qa5 ?_;intro b7
 refine Qab ?_
 refine Qa6 ?_
 refine Qb ?_
 refine Qan ?_
 refine QaE ?_
 refine Zb 19 O O O (Zt (cs':=[_,_,_]) (i:=0) O ta_47 O O O O (Zb 20 O O O (Zd (xs:=[.tmp 18,.tmp 19,.const (.string ⟨#[120]⟩)]) O O (HPE) by3 ?_)))
 refine Qa ?_
 refine Qa ?_
 refine Zb 23 O O O (op_callvpp (xs:=[.tmp 22]) O O O (HFk) by3 ?_)
 refine Zb 24 O O O (Zi (ns:=[0,1]) (xs:=[.tmp 20,.tmp 23]) (cs':=[_,_,_,_,_,_,_,_,_,_,_,_,_,_,_,_]) O tz_52 O tfl_52 O O O O (Zb 25 O O O (Zg (xs:=[.tmp 24]) el_39 O O O O O O (Yc O) ?_)))
 refine Zb 26 O O O (op_append (i:=2) el_39 O O O O (.seq _ _) (by first|(simp;done)|(simp;omega)|omega) ?_)
 intro u26
 refine Qab ?_
 refine Qs ?_
 refine QK ?_
 exact ⟨(k+1,u26),by show k+1≤dcs.length;omega,by show dcs.length - (k+1)<dcs.length - k;omega,Ya O (Zy _) (Ya O (Le.own_eq (by rw [hsn,alF_snoc,Al.cellss_snoc,htl,show 0+k=k by omega,ho];rfl)) by6),(Zx _ (MLe.of_eq O))⟩
abbrev kcEq:ByteArray:=⟨#[69,113]⟩
abbrev kcOrd:ByteArray:=⟨#[79,114,100]⟩
abbrev kcShow:ByteArray:=⟨#[83,104,111,119]⟩
def eqB (a:Int) (cs:List Cn):Ex:=lamE a [kX,kY] (eachX a (fun i=>match cs[i]? with|some c=>eqXX a c.s c.ts.length cs.length|none=>namE 3 kX a) cs)
def ordB (a:Int) (cs:List Cn):Ex:=lamE a [kX,kY] (eachX a (fun i=>cmpXX a i cs) cs)
def showB (a:Int) (cs:List Cn):Ex:=lamE a [kX] (eachX a (fun i=>match cs[i]? with|some c=>showXX a c.s c.ts.length|none=>namE 3 kX a) cs)
def bindX (a:Int) (cs:List Cn) (cl:ByteArray):Option (ByteArray × Ex):=if cl=kcEq then some (kEqN,eqB a cs) else if cl=kcOrd then some (kCmp,ordB a cs) else if cl=kcShow then some (kShw,showB a cs) else none
def parT (s:ByteArray):Ty:=.mk 1 s 0 []
def instX (d:Da) (cl nm:ByteArray) (e:Ex):In:=.mk cl (.mk 3 d.s 0 (d.ps.map parT)) (d.ps.map fun s=>.mk cl (parT s)) [.mk nm e d.p] d.p
def in0:In:=.mk kE ty0 [] [] 0
def instR (d:Da) (cl:ByteArray):In × Int:=match bindX d.p d.cs cl with|some (nm,e)=>(instX d cl nm e,0)|none=>(in0,121)
structure DaS (d:Da):Prop where
 len:d.cs.length≤250
 ps:d.ps.length≤1000000
 cn:∀ c∈d.cs,c.ts.length≤1000000∧c.s.size≤1000000
theorem Ty.cellss_app1 (l:List Ty) (s:ByteArray):Less (Ty.cellss l++[[.val (.int .i64 1),.val (.string s),.val (.int .i64 0),.val (.slice none 0 0)]]) (Ty.cellss (l++[parT s])):=by
 rw [show Ty.cellss (l++[parT s])=Ty.cellss l++[[.val (.int .i64 1),.val (.string s),.val (.int .i64 0),.seq 4 []]] by rw [Ty.cellss_map,Ty.cellss_map,List.map_append];rfl]
 exact Less.snoc (Zz (Zy _) (Zz (Zy _) (Zz (Zy _) (Zz (Le.nil _) (Les.refl _))))) O _
theorem Inst_c (d:Da) (hd:DaS d) (cl:ByteArray):PCall Tryd.prog 6 [.agg d.cells,.val (.string cl)] (.tup [.agg (instR d cl).1.cells,.val (.int .i64 (instR d cl).2)]):=by
 obtain ⟨hd1,hd2,hd3⟩:=hd
 have hcn:∀ c∈d.cs,c.ts.length≤1000000:=fun c h=>(hd3 c h).1
 have HE1:=m_each_c d d.p 13 (fun i=>match d.cs[i]? with|some c=>eqXX d.p c.s c.ts.length d.cs.length|none=>namE 3 kX d.p) (fun i hi=>by
  obtain ⟨c,hc⟩:=Zm (l:=d.cs) hi
  simp only [hc]
  exact m_eq_c d d.p i c hc (hcn c (Yg hc))) hcn by11
 have HE2:=m_each_c d d.p 14 (fun i=>cmpXX d.p i d.cs) (fun i hi=>m_compare_c d d.p i hcn by11) hcn by11
 have HE3:=m_each_c d d.p 15 (fun i=>match d.cs[i]? with|some c=>showXX d.p c.s c.ts.length|none=>namE 3 kX d.p) (fun i hi=>by
  obtain ⟨c,hc⟩:=Zm (l:=d.cs) hi
  simp only [hc]
  exact m_show_c d d.p i c hc (hcn c (Yg hc)) (hd3 c (Yg hc)).2) hcn by11
 have HL1:=m_lambda_c d d.p (eachX d.p (fun i=>match d.cs[i]? with|some c=>eqXX d.p c.s c.ts.length d.cs.length|none=>namE 3 kX d.p) d.cs) [kX,kY]
 have HL2:=m_lambda_c d d.p (eachX d.p (fun i=>cmpXX d.p i d.cs) d.cs) [kX,kY]
 have HL3:=m_lambda_c d d.p (eachX d.p (fun i=>match d.cs[i]? with|some c=>showXX d.p c.s c.ts.length|none=>namE 3 kX d.p) d.cs) [kX]
 obtain ⟨r,hr⟩:∃ r,instR d cl=r:=⟨_,rfl⟩
 rw [hr]
 unfold instR at hr
 obtain ⟨ds,dps,dcs,ddv,dp⟩:=d
 replace hd1:dcs.length≤250:=hd1
 replace hd2:dps.length≤1000000:=hd2
 obtain ⟨bx,hbx⟩:∃ b,bindX dp dcs cl=b:=⟨_,rfl⟩
 replace hr:(match bindX dp dcs cl with|some (nm,e)=>(instX (Da.mk ds dps dcs ddv dp) cl nm e,(0:Int))|none=>(in0,121))=r:=hr
 rw [hbx] at hr
 unfold bindX at hbx
 have eB1:lamE dp [kX,kY] (eachX dp (fun i=>match dcs[i]? with|some c=>eqXX dp c.s c.ts.length dcs.length|none=>namE 3 kX dp) dcs)=eqB dp dcs:=rfl
 have eB2:lamE dp [kX,kY] (eachX dp (fun i=>cmpXX dp i dcs) dcs)=ordB dp dcs:=rfl
 have eB3:lamE dp [kX] (eachX dp (fun i=>match dcs[i]? with|some c=>showXX dp c.s c.ts.length|none=>namE 3 kX dp) dcs)=showB dp dcs:=rfl
 simp only [Da.p,Da.cs] at HE1 HE2 HE3 HL1 HL2 HL3
 rw [eB1] at HL1
 rw [eB2] at HL2
 rw [eB3] at HL3
 clear eB1 eB2 eB3 hd3 hcn
 generalize eachX dp (fun i=>match dcs[i]? with|some c=>eqXX dp c.s c.ts.length dcs.length|none=>namE 3 kX dp) dcs=x1 at HE1 HL1
 generalize eachX dp (fun i=>cmpXX dp i dcs) dcs=x2 at HE2 HL2
 generalize eachX dp (fun i=>match dcs[i]? with|some c=>showXX dp c.s c.ts.length|none=>namE 3 kX dp) dcs=x3 at HE3 HL3
 generalize eqB dp dcs=e1 at HL1 hbx
 generalize ordB dp dcs=e2 at HL2 hbx
 generalize showB dp dcs=e3 at HL3 hbx
 obtain ⟨x1k,x1s,x1n,⟨x1tk,x1ts,x1tn,x1tl⟩,x1ks,x1al,x1bs,x1p⟩:=x1
 obtain ⟨x2k,x2s,x2n,⟨x2tk,x2ts,x2tn,x2tl⟩,x2ks,x2al,x2bs,x2p⟩:=x2
 obtain ⟨x3k,x3s,x3n,⟨x3tk,x3ts,x3tn,x3tl⟩,x3ks,x3al,x3bs,x3p⟩:=x3
 obtain ⟨e1k,e1s,e1n,⟨e1tk,e1ts,e1tn,e1tl⟩,e1ks,e1al,e1bs,e1p⟩:=e1
 obtain ⟨e2k,e2s,e2n,⟨e2tk,e2ts,e2tn,e2tl⟩,e2ks,e2al,e2bs,e2p⟩:=e2
 obtain ⟨e3k,e3s,e3n,⟨e3tk,e3ts,e3tn,e3tl⟩,e3ks,e3al,e3bs,e3p⟩:=e3
 have hlc:=Cn.cellss_len dcs
 have hlp:=Zq dps
 unfold mkC at *
 simp only [Da.cells,List.cons_append,List.nil_append] at *
 refine Zc Tryd.func6 O (by kernel_rfl) O (Yc O) ?_
 refine Q8 ?_
 refine QaX ?_
 refine Qbj ?_;intro b4
 refine Qh ?_
 refine Qd ?_
 refine Qbk ?_
 refine Qg ?_
 refine Zb 15 O O O (Zi (ns:=[0,1]) (xs:=[.tmp 12,.tmp 14]) (cs':=[_,_,_,_,_,_]) O tz_54 O tfl_54 O O O O (Zb 6 O O O (op_alloce (cs':=[_,_,_,_,_,_]) O tz_54 O O ?_)));intro b6
 refine Zs O O (Zk (cs':=[_,_,_,_,_,_]) (i:=0) O ts_54 O O O O O (Yc O) O ?_)
 refine Qb ?_
 refine Qv ?_
 refine Zb 18 O O O (Zi (ns:=[2]) (xs:=[.tmp 17]) (cs':=[_,_,_,_,_,_,_,_,_,_,_,_,_]) O tz_43 O tfl_43 O O O O ?_)
 refine Qbl ?_;intro b7
 refine Qbm ?_
 refine Ql ?_
 refine Qv ?_
 refine QaW ?_;intro n21
 refine Qa8 ?_;intro c22 h22
 refine Qa ?_
 obtain ⟨rfl,g22⟩|⟨rfl,g22⟩:=Za h22
 ·skip
  refine Qam ?_
  refine QN ?_
  refine Qac ?_
  refine QN ?_
  refine QL ?_
  refine Qbd ?_
  refine Qb ?_
  refine Q4 ?_
  refine Qr ?_
  refine Qb ?_
  apply c_joink (rg [(0,1),(3,1),(5,2),(9,1),(12,22),(35,36)]) (σ:=ByteArray × Ex) (fun zz=>match zz with|(nm,e)=>[]) (fun zz=>match zz with|(nm,e)=>[.loc b7 (Bi.mk nm e dp).cells,.loc b4 zIn]) (fun zz=>match zz with|(nm,e)=>bx=some (nm,e))
  ·repeat' (first|exact Yf|apply Yd rfl|apply Ye rfl)
  ·skip
   refine QH ?_
   refine Qd ?_
   refine QaN ?_;intro c39 h39
   refine Qh ?_
   obtain ⟨rfl,g39⟩|⟨rfl,g39⟩:=Za h39
   ·refine QI ?_
    refine Qd ?_
    refine QaN ?_;intro c50 h50
    refine Qh ?_
    obtain ⟨rfl,g50⟩|⟨rfl,g50⟩:=Za h50
    ·refine QI ?_
     refine Qd ?_
     refine QaN ?_;intro c61 h61
     refine Qh ?_
     obtain ⟨rfl,g61⟩|⟨rfl,g61⟩:=Za h61
     ·refine QI ?_
      refine Qd ?_
      refine Zb 37 O O O (Zi (ns:=[]) (xs:=[]) (cs':=[_,_,_,_,_,_,_,_]) O tz_34 O tfl_34 O O O O (Zs O O (Zk (cs':=[_,_,_,_,_,_,_,_]) (i:=2) O ts_34 O O O O O (Yc O) O ?_)))
      refine Qh ?_
      rw [if_neg g39,if_neg g50,if_neg g61] at hbx
      subst hbx
      replace hr:(in0,(121:Int))=r:=hr
      subst hr
      refine c_retj ?_
      exact out_ct (i:=2) O O O O ta_34 O by2 (Zw _) ⟨O,O⟩
     refine Qm ?_
     refine QbA ?_
     refine Qas ?_
     refine Qas ?_
     refine Qas ?_
     refine Ze 65 (none) (i:=3) O O O O O (op_makeFunc (fs:=[.tmp 64]) (cs:=[]) O O O ⟨O,O⟩) ?_
     refine Ze 66 (none) (i:=4) O O O O O (Zd (xs:=[.tmp 63,.tmp 65]) O O (HE3) by3 ⟨O,O⟩) ?_
     refine Ze 67 (none) (i:=5) O O O O O (Zg (xs:=[.const (.string ⟨#[120]⟩)]) el_22 O O O O O O (Yc O) ⟨O,O⟩) ?_
     refine Ze 68 (none) (i:=6) O O O O O (Zd (xs:=[.tmp 62,.tmp 66,.tmp 67]) O O (HL3) by3 ⟨O,O⟩) ?_
     refine QaG ?_
     refine QbB ?_
     refine QaG ?_
     refine QbC ?_
     show AGo _ _ _ _ _ _ _
     refine Q0 ?_
     refine go_lp ?_
     first
     |(rw [if_pos g39] at hbx;exact ⟨(kEqN,.mk e1k e1s e1n ⟨e1tk,e1ts,e1tn,e1tl⟩ e1ks e1al e1bs e1p),hbx.symm,by6,by1⟩)
     |(rw [if_neg g39,if_pos g50] at hbx;exact ⟨(kCmp,.mk e2k e2s e2n ⟨e2tk,e2ts,e2tn,e2tl⟩ e2ks e2al e2bs e2p),hbx.symm,by6,by1⟩)
     |(rw [if_neg g39,if_neg g50,if_pos g61] at hbx;exact ⟨(kShw,.mk e3k e3s e3n ⟨e3tk,e3ts,e3tn,e3tl⟩ e3ks e3al e3bs e3p),hbx.symm,by6,by1⟩)
    refine Qm ?_
    refine QbA ?_
    refine Qas ?_
    refine Qas ?_
    refine Qas ?_
    refine Ze 54 (none) (i:=3) O O O O O (op_makeFunc (fs:=[.tmp 53]) (cs:=[]) O O O ⟨O,O⟩) ?_
    refine Ze 55 (none) (i:=4) O O O O O (Zd (xs:=[.tmp 52,.tmp 54]) O O (HE2) by3 ⟨O,O⟩) ?_
    refine QbT ?_
    refine Ze 57 (none) (i:=6) O O O O O (Zd (xs:=[.tmp 51,.tmp 55,.tmp 56]) O O (HL2) by3 ⟨O,O⟩) ?_
    refine QaG ?_
    refine QbB ?_
    refine QaG ?_
    refine QbC ?_
    show AGo _ _ _ _ _ _ _
    refine Q0 ?_
    refine go_lp ?_
    first
    |(rw [if_pos g39] at hbx;exact ⟨(kEqN,.mk e1k e1s e1n ⟨e1tk,e1ts,e1tn,e1tl⟩ e1ks e1al e1bs e1p),hbx.symm,by6,by1⟩)
    |(rw [if_neg g39,if_pos g50] at hbx;exact ⟨(kCmp,.mk e2k e2s e2n ⟨e2tk,e2ts,e2tn,e2tl⟩ e2ks e2al e2bs e2p),hbx.symm,by6,by1⟩)
    |(rw [if_neg g39,if_neg g50,if_pos g61] at hbx;exact ⟨(kShw,.mk e3k e3s e3n ⟨e3tk,e3ts,e3tn,e3tl⟩ e3ks e3al e3bs e3p),hbx.symm,by6,by1⟩)
   refine Qm ?_
   refine QbA ?_
   refine Qas ?_
   refine Qas ?_
   refine Qas ?_
   refine Ze 43 (none) (i:=3) O O O O O (op_makeFunc (fs:=[.tmp 42]) (cs:=[]) O O O ⟨O,O⟩) ?_
   refine Ze 44 (none) (i:=4) O O O O O (Zd (xs:=[.tmp 41,.tmp 43]) O O (HE1) by3 ⟨O,O⟩) ?_
   refine QbT ?_
   refine Ze 46 (none) (i:=6) O O O O O (Zd (xs:=[.tmp 40,.tmp 44,.tmp 45]) O O (HL1) by3 ⟨O,O⟩) ?_
   refine QaG ?_
   refine QbB ?_
   refine QaG ?_
   refine QbC ?_
   show AGo _ _ _ _ _ _ _
   refine Q0 ?_
   refine go_lp ?_
   first
   |(rw [if_pos g39] at hbx;exact ⟨(kEqN,.mk e1k e1s e1n ⟨e1tk,e1ts,e1tn,e1tl⟩ e1ks e1al e1bs e1p),hbx.symm,by6,by1⟩)
   |(rw [if_neg g39,if_pos g50] at hbx;exact ⟨(kCmp,.mk e2k e2s e2n ⟨e2tk,e2ts,e2tn,e2tl⟩ e2ks e2al e2bs e2p),hbx.symm,by6,by1⟩)
   |(rw [if_neg g39,if_neg g50,if_pos g61] at hbx;exact ⟨(kShw,.mk e3k e3s e3n ⟨e3tk,e3ts,e3tn,e3tl⟩ e3ks e3al e3bs e3p),hbx.symm,by6,by1⟩)
  rintro ⟨nm,⟨ek,es,en,⟨etk,ets,etn,etl⟩,eks,eal,ebs,ep⟩⟩ hI
  try dsimp only [List.cons_append,List.nil_append] at hI ⊢
  rw [hI] at hr
  replace hr:(instX (Da.mk ds dps dcs ddv dp) cl nm (.mk ek es en ⟨etk,ets,etn,etl⟩ eks eal ebs ep),(0:Int))=r:=hr
  refine Qe ?_
  refine Qr ?_
  refine Qg ?_
  refine Zb 74 O O O (Zi (ns:=[0,1]) (xs:=[.const (.int .i64 3),.tmp 73]) (cs':=[_,_,_,_]) O tz_30 O tfl_30 O O O O (Zb 75 O O O (Zt (cs':=[_,_,_,_,_,_,_,_,_,_,_,_,_]) (i:=0) O ta_43 O O O O (Zb 76 O O O (Zg (xs:=[.tmp 75]) el_32 O O O O O O (Yc O) ?_)))))
  refine Qg ?_
  refine Zb 79 O O O (Zi (ns:=[0,1,3,4]) (xs:=[.tmp 71,.tmp 74,.tmp 76,.tmp 78]) (cs':=[_,_,_,_,_,_,_,_]) O tz_34 O tfl_34 O O O O ?_)
  refine Qbj ?_;intro b8
  refine QbD ?_
  refine Ql ?_
  refine Qv ?_
  refine QaJ ?_;intro n82
  refine QW ?_
  refine c_ownNew 30 4 (c_ownNew 59 5 ?_)
  apply c_loopk (rg [(0,1),(2,2),(6,2),(9,25),(35,46),(83,23)]) (σ:=Nat × Value × Value) (fun zz=>match zz with|(i,u,v)=>[(83,.val (.int .i64 i))]) (fun zz=>match zz with|(i,u,v)=>[.loc b8 [.val (.string cl),.val (.int .i64 3),.val (.string ds),.val (.int .i64 0),.own u 4 (Ty.cellss ((dps.take i).map parT)),.own v 5 (Pr.cellss ((dps.take i).map fun s=>Pr.mk cl (parT s))),.seq 13 (Bi.cellss [.mk nm (.mk ek es en ⟨etk,ets,etn,etl⟩ eks eal ebs ep) dp]),.val (.int .i64 dp)],.loc b4 zIn,.own 30 4 u,.own 59 5 v]) (fun zz=>match zz with|(i,u,v)=>i≤dps.length) (fun zz=>match zz with|(i,u,v)=>dps.length - i) ((0,.slice none 0 0,.slice none 0 0))
  ·repeat' (first|exact Yf|apply Yd rfl|apply Ye rfl)
  ·exact Nat.zero_le _
  ·exact by6
  ·exact (MLe.loc _ (Zz (Zy _) (Zz (Zy _) (Zz (Zy _) (Zz (Zy _) (Zz (Le.nilOwn 4) (Zz (Le.nilOwn 5) (Zz (Zy _) (Les.refl _)))))))) (Zx _ (MLe.of_eq O)))
  rintro ⟨i,u,v⟩ hI
  try dsimp only [List.cons_append,List.nil_append] at hI ⊢
  have hi:=hI
  have ht1:(Ty.cellss ((dps.take i).map parT)).length≤1000000:=by rw [Ty.cellss_len,List.length_map,List.length_take];omega
  have ht2:(Pr.cellss ((dps.take i).map fun s=>Pr.mk cl (parT s))).length≤1000000:=by rw [Pr.cellss_len,List.length_map,List.length_take];omega
  refine QX ?_;intro c84 h84
  refine Ql ?_
  obtain ⟨rfl,g84⟩|⟨rfl,g84⟩:=Za h84
  ·refine QT ?_
   rw [List.take_of_length_le by11]
   subst hr
   refine Qc ?_
   refine Zb 106 O O O (Zt (cs':=[_,_,_,_,_,_,_,_]) (i:=0) O ta_34 O O O O (Zs O O (Zk (cs':=[_,_,_,_,_,_,_,_]) (i:=1) O ts_34 O O O O O (Yc O) O ?_)))
   refine QJ ?_
   exact out_ct (i:=1) O O O O ta_34 O by2 (Zw _) ⟨O,O⟩
  refine Qt ?_
  obtain ⟨q,hxq⟩:=Zm (l:=dps) (i:=i) by8
  have hcq:=strs_get hxq
  have hmq:=Yg hxq
  refine Qc ?_
  refine QbE ?_
  refine Qy ?_
  refine Qh ?_
  refine Qr ?_
  refine Zb 88 O O O (Zi (ns:=[0,1]) (xs:=[.const (.int .i64 1),.tmp 87]) (cs':=[_,_,_,_]) O tz_30 O tfl_30 O O O O (Zb 11 O O O (op_alloce (cs':=[_,_,_,_]) O tz_30 O O ?_)));intro b11
  refine Zs O O (Zk (cs':=[_,_,_,_]) (i:=0) O ts_30 O O O O O (Yc O) O ?_)
  refine Qb ?_
  refine Qd ?_
  refine QF ?_
  refine QF ?_
  refine QaM ?_
  refine QbU ?_
  refine Zb 93 O O O (Zg (xs:=[.tmp 92]) el_28 O O O O O O (Yc O) ?_)
  refine Zb 94 O O O (op_append (i:=3) el_28 O O O O (.seq _ _) (by simp only [List.length_map,List.length_reverse,List.length_cons,List.length_nil];omega) ?_)
  intro u94
  refine QF ?_
  refine QF ?_
  refine Zs O O (Zk (cs':=[_,_,_,_,_,_,_,_]) (i:=1) O ts_28 O O O O O (Yc O) O ?_)
  refine Qb ?_
  refine Qc ?_
  refine QF ?_
  refine QaM ?_
  refine Qa ?_
  refine QbU ?_
  refine Zb 101 O O O (Zi (ns:=[0,1]) (xs:=[.tmp 99,.tmp 100]) (cs':=[_,_,_,_,_]) O tz_59 O tfl_59 O O O O (Zb 102 O O O (Zg (xs:=[.tmp 101]) el_31 O O O O O O (Yc O) ?_)))
  refine Zb 103 O O O (op_append (i:=4) el_31 O O O O (.seq _ _) (by simp only [List.length_map,List.length_reverse,List.length_cons,List.length_nil];omega) ?_)
  intro u103
  refine QF ?_
  refine Zs O O (Zk (cs':=[_,_,_,_,_,_,_,_]) (i:=1) O ts_31 O O O O O (Yc O) O ?_)
  refine Qs ?_
  refine QK ?_
  have hsn:=take_snoc hxq
  exact ⟨(i+1,u94,u103),by show i+1≤dps.length;omega,by show dps.length - (i+1)<dps.length - i;omega,by6,Zx _ (MLe.loc _ (Zz (Zy _) (Zz (Zy _) (Zz (Zy _) (Zz (Zy _) (Zz (by rw [hsn,List.map_append];exact Le.own_less (Ty.cellss_app1 _ _)) (Zz (by rw [hsn,List.map_append];exact preds_snoc _ _ _) (Zz (Zy _) (Les.refl _)))))))) (MLe.of_eq O))⟩
 exact absurd g22 by11
theorem Le.inteq {k:IntKind} {a b:Int} (h:a=b):Le (.val (.int k a)) (.val (.int k b)):=by rw [h];exact Zy _
theorem smallC_iff (c:Nat):smallC c=true↔((97≤c∧c≤122)∨c=95):=by simp [smallC]
theorem greatC_iff (c:Nat):greatC c=true↔(65≤c∧c≤90):=by simp [greatC]
theorem digitC_iff (c:Nat):digitC c=true↔(48≤c∧c≤57):=by simp [digitC]
theorem nameC_iff (c:Nat):nameC c=true↔(smallC c=true∨greatC c=true∨digitC c=true∨c=39):=by simp [nameC,or_assoc]
theorem small_c (c:Nat):BCall Tryd.prog 45 [.val (.int .u8 c)] (smallC c=true):=by
 refine Zc Tryd.func45 O (by kernel_rfl) O (Yc O) ?_
 refine QY ?_
 refine Zp 2 ((97≤c∧c≤122)∨c=95) ?_ _ _ O ?_
 ·skip
  refine Qa ?_
  refine Qak ?_;intro c4 h4
  refine Qa ?_
  obtain ⟨rfl,g4⟩|⟨rfl,g4⟩:=Za h4
  ·skip
   refine QO ?_
   refine Qf ?_
   refine QS ?_;intro c11 h11
   refine Qn ?_
   refine Yb O ?_ by7 by5
   simp_all;omega
  skip
  refine Qf ?_
  refine QaO ?_;intro c7 h7
  refine Qq ?_
  obtain ⟨rfl,g7⟩|⟨rfl,g7⟩:=Za h7
  ·skip
   refine Qf ?_
   refine QS ?_;intro c11 h11
   refine Qn ?_
   refine Yb O ?_ by7 by5
   simp_all;omega
  skip
  refine QD ?_
  refine Yb O ?_ by7 by5
  simp_all;omega
 intro c2 h2
 refine Qw ?_
 exact Zf O O (Zy _) by5 ⟨⟨_,h2.trans (smallC_iff c).symm,O⟩,O⟩
theorem great_c (c:Nat):BCall Tryd.prog 43 [.val (.int .u8 c)] (greatC c=true):=by
 refine Zc Tryd.func43 O (by kernel_rfl) O (Yc O) ?_
 refine QY ?_
 refine Zp 2 (65≤c∧c≤90) ?_ _ _ O ?_
 ·skip
  refine Qa ?_
  refine Qak ?_;intro c4 h4
  refine Qa ?_
  obtain ⟨rfl,g4⟩|⟨rfl,g4⟩:=Za h4
  ·skip
   refine QD ?_
   refine Yb O ?_ by7 by5
   simp_all;omega
  skip
  refine Qf ?_
  refine QaO ?_;intro c7 h7
  refine Qn ?_
  refine Yb O ?_ by7 by5
  simp_all;omega
 intro c2 h2
 refine Qw ?_
 exact Zf O O (Zy _) by5 ⟨⟨_,h2.trans (greatC_iff c).symm,O⟩,O⟩
theorem digit_c (c:Nat):BCall Tryd.prog 56 [.val (.int .u8 c)] (digitC c=true):=by
 refine Zc Tryd.func56 O (by kernel_rfl) O (Yc O) ?_
 refine QY ?_
 refine Zp 2 (48≤c∧c≤57) ?_ _ _ O ?_
 ·skip
  refine Qa ?_
  refine Qak ?_;intro c4 h4
  refine Qa ?_
  obtain ⟨rfl,g4⟩|⟨rfl,g4⟩:=Za h4
  ·skip
   refine QD ?_
   refine Yb O ?_ by7 by5
   simp_all;omega
  skip
  refine Qf ?_
  refine QaO ?_;intro c7 h7
  refine Qn ?_
  refine Yb O ?_ by7 by5
  simp_all;omega
 intro c2 h2
 refine Qw ?_
 exact Zf O O (Zy _) by5 ⟨⟨_,h2.trans (digitC_iff c).symm,O⟩,O⟩
theorem in_c (s:ByteArray) (hs:s.size≤60000) (c:Nat):BCall Tryd.prog 58 [.val (.string s),.val (.int .u8 c)] (c∈bytesN s):=by
 refine Zc Tryd.func58 O (by kernel_rfl) O (Yc O) ?_
 refine QY ?_
 refine Q6 ?_
 refine c_loop (σ:=Nat) (fun zz=>match zz with|i=>[(0,.val (.string s)),(1,.val (.int .u8 c)),(5,.val (.int .i64 i))]) (fun zz=>match zz with|i=>[]) (fun zz=>match zz with|i=>i≤s.size∧(c∈bytesN s↔c∈rst s i)) (fun zz=>match zz with|i=>s.size - i) (0) ?_ ?_ ?_ ?_
 ·exact ⟨Nat.zero_le _,Iff.rfl⟩
 ·exact by6
 ·exact by5
 rintro i hI
 try dsimp only [List.cons_append,List.nil_append] at hI ⊢
 obtain ⟨hi,hu⟩:=hI
 refine QG ?_
 refine Qa ?_
 refine Qbn ?_
 refine QA ?_;intro c9 h9
 refine Qb ?_
 obtain ⟨rfl,g9⟩|⟨rfl,g9⟩:=Za h9
 ·refine Qao ?_
  exact Zf O O (Zy _) by5 ⟨⟨_,iff_f (fun q=>by have:=hu.1 q;rw [rst_nil by11] at this;cases this),O⟩,O⟩
 refine Qt ?_
 obtain ⟨b,hb,hr,hlt⟩:=rst_cons (s:=s) (i:=i) by11
 refine QaB ?_
 refine Zb 14 O O O (op_index_str O tu_9 O O O (hb) ?_)
 refine Qa ?_
 refine Qi ?_;intro c16 h16
 refine Qb ?_
 obtain ⟨rfl,g16⟩|⟨rfl,g16⟩:=Za h16
 ·refine Qah ?_
  exact ⟨i+1,⟨by omega,hu.trans (by rw [hr];simp;omega)⟩,by simp;omega,by6,by5⟩
 refine Qz ?_
 exact Zf O O (Zy _) by5 ⟨⟨_,iff_t (hu.2 (by rw [hr];simp;omega)),O⟩,O⟩
theorem signBytes:bytesN ⟨#[33,36,37,38,42,43,46,47,60,61,62,63,64,94,124,126,58,45]⟩=signL:=by decide
theorem sign_c (c:Nat):BCall Tryd.prog 57 [.val (.int .u8 c)] (signC c=true):=by
 have H:=in_c ⟨#[33,36,37,38,42,43,46,47,60,61,62,63,64,94,124,126,58,45]⟩ by10 c
 rw [signBytes] at H
 have hC:c∈signL↔signC c=true:=by unfold signC;exact (List.contains_iff_mem).symm
 refine Zc Tryd.func57 O (by kernel_rfl) O (Yc O) ?_
 refine Qu ?_
 refine Qaz ?_
 refine Zb 4 O O O (Zj (xs:=[.const (.string ⟨#[33,36,37,38,42,43,46,47,60,61,62,63,64,94,124,126,58,45]⟩),.tmp 3]) O O (H) by3 ?_);intro c4 h4
 refine QJ ?_
 exact Zf O O (Zy _) by5 ⟨⟨_,h4.trans hC,O⟩,O⟩
theorem name_c (c:Nat):BCall Tryd.prog 51 [.val (.int .u8 c)] (nameC c=true):=by
 have H1:=small_c c
 have H2:=great_c c
 have H3:=digit_c c
 have hN:=nameC_iff c
 refine Zc Tryd.func51 O (by kernel_rfl) O (Yc O) ?_
 refine QY ?_
 refine Zp 2 (smallC c=true∨greatC c=true∨digitC c=true∨c=39) ?_ _ _ O ?_
 ·skip
  refine Qa ?_
  refine Zb 4 O O O (Zj (xs:=[.tmp 3]) O O (H1) by3 ?_);intro c4 h4
  refine Qa ?_
  obtain ⟨rfl,g4⟩|⟨rfl,g4⟩:=Za h4
  ·skip
   refine Qf ?_
   refine Zh 7 O O O O O (Zj (xs:=[.tmp 6]) O O (H2) by3 ?_);intro c7 h7
   refine Qq ?_
   obtain ⟨rfl,g7⟩|⟨rfl,g7⟩:=Za h7
   ·skip
    refine Qf ?_
    refine Zh 11 O O O O O (Zj (xs:=[.tmp 10]) O O (H3) by3 ?_);intro c11 h11
    refine Qq ?_
    obtain ⟨rfl,g11⟩|⟨rfl,g11⟩:=Za h11
    ·skip
     refine Qf ?_
     refine QS ?_;intro c15 h15
     refine Qn ?_
     refine Yb O ?_ by7 by5
     simp_all;omega
    skip
    refine QD ?_
    refine Yb O ?_ by7 by5
    simp_all;done
   skip
   refine QO ?_
   refine QD ?_
   refine Yb O ?_ by7 by5
   simp_all;done
  skip
  refine QO ?_
  refine QO ?_
  refine QD ?_
  refine Yb O ?_ by7 by5
  simp_all;done
 intro c2 h2
 refine Qw ?_
 exact Zf O O (Zy _) by5 ⟨⟨_,h2.trans hN.symm,O⟩,O⟩
end Go.Proofs.YtefbicnoddggnaaDoor
namespace Go.Proofs.YtefbicnoddggnaaDoor
open Go.RowKit
theorem among_c (s:ByteArray) (l:List ByteArray):BCall Tryd.prog 52 [.val (.string s),.seq 1 (strs l)] (amongB s l=true):=by
 have hl:=Zq l
 refine Zc Tryd.func52 O (by kernel_rfl) O (Yc O) ?_
 refine Qu ?_
 refine c_lens (t:=1) O (.seq _ _) (fun hmax=>?_)
 refine Qax ?_
 refine Q6 ?_
 refine c_loop (σ:=Nat) (fun zz=>match zz with|i=>[(0,.val (.string s)),(1,.seq 1 (strs l)),(5,.val (.int .i64 i))]) (fun zz=>match zz with|i=>[]) (fun zz=>match zz with|i=>i≤l.length∧amongB s l=amongB s (l.drop i)) (fun zz=>match zz with|i=>l.length - i) (0) ?_ ?_ ?_ ?_
 ·exact ⟨Nat.zero_le _,O⟩
 ·exact by6
 ·exact by5
 rintro i hI
 try dsimp only [List.cons_append,List.nil_append] at hI ⊢
 obtain ⟨hi,hu⟩:=hI
 refine QG ?_
 refine Qa ?_
 refine QaJ ?_;intro n8
 refine QA ?_;intro c9 h9
 refine Qb ?_
 obtain ⟨rfl,g9⟩|⟨rfl,g9⟩:=Za h9
 ·refine Qao ?_
  exact Zf O O (Zy _) by5 ⟨⟨_,iff_f (by rw [hu,List.drop_eq_nil_of_le by11];simp [amongB]),O⟩,O⟩
 refine Qt ?_
 obtain ⟨x,hx⟩:=Zm (l:=l) (i:=i) by11
 have hcx:=strs_get hx
 have hd:l.drop i=x::l.drop (i+1):=by
  obtain ⟨h1,h2⟩:=List.getElem?_eq_some_iff.1 hx
  rw [List.drop_eq_getElem_cons h1,h2]
 refine QaB ?_
 refine QbV ?_
 refine Qy ?_
 refine Qa ?_
 refine QaN ?_;intro c17 h17
 refine Qb ?_
 obtain ⟨rfl,g17⟩|⟨rfl,g17⟩:=Za h17
 ·refine Qah ?_
  exact ⟨i+1,⟨by omega,by rw [hu,hd];simp [amongB];intro q;contradiction⟩,by simp;omega,by6,by5⟩
 refine Qz ?_
 exact Zf O O (Zy _) by5 ⟨⟨_,iff_t (by rw [hu,hd];simp [amongB];exact .inl (by assumption)),O⟩,O⟩
theorem Key_c (s:ByteArray):BCall Tryd.prog 46 [.val (.string s)] (keyT s=true):=by
 have H:=among_c s keysL
 rw [show amongB s keysL=keyT s from rfl] at H
 simp only [strs,keysL,List.map_cons,List.map_nil] at H
 refine Zc Tryd.func46 O (by kernel_rfl) O (Yc O) ?_
 refine Qu ?_
 refine Qaz ?_
 refine Zb 4 O O O (Zg (xs:=[.const (.string ⟨#[100,97,116,97]⟩),.const (.string ⟨#[99,108,97,115,115]⟩),.const (.string ⟨#[105,110,115,116,97,110,99,101]⟩),.const (.string ⟨#[102,114,111,109]⟩),.const (.string ⟨#[119,104,101,114,101]⟩),.const (.string ⟨#[101,110,100]⟩),.const (.string ⟨#[100,101,114,105,118,105,110,103]⟩),.const (.string ⟨#[100,101,102]⟩),.const (.string ⟨#[108,101,116]⟩),.const (.string ⟨#[114,101,99]⟩),.const (.string ⟨#[97,110,100]⟩),.const (.string ⟨#[105,110]⟩),.const (.string ⟨#[99,97,115,101]⟩),.const (.string ⟨#[111,102]⟩),.const (.string ⟨#[105,102]⟩),.const (.string ⟨#[116,104,101,110]⟩),.const (.string ⟨#[101,108,115,101]⟩)]) el_22 O O O O O O (Yc O) ?_)
 refine Zb 5 O O O (Zj (xs:=[.tmp 3,.tmp 4]) O O (H) by3 ?_);intro c5 h5
 refine QJ ?_
 exact Zf O O (Zy _) by5 ⟨⟨_,h5,O⟩,O⟩
theorem Mark_c (s:ByteArray):BCall Tryd.prog 55 [.val (.string s)] (markT s=true):=by
 have H:=among_c s marksL
 rw [show amongB s marksL=markT s from rfl] at H
 simp only [strs,marksL,List.map_cons,List.map_nil] at H
 refine Zc Tryd.func55 O (by kernel_rfl) O (Yc O) ?_
 refine Qu ?_
 refine Qaz ?_
 refine Zb 4 O O O (Zg (xs:=[.const (.string ⟨#[40]⟩),.const (.string ⟨#[41]⟩),.const (.string ⟨#[44]⟩),.const (.string ⟨#[59]⟩),.const (.string ⟨#[92]⟩),.const (.string ⟨#[95]⟩),.const (.string ⟨#[61]⟩),.const (.string ⟨#[45,62]⟩),.const (.string ⟨#[124]⟩),.const (.string ⟨#[58]⟩)]) el_22 O O O O O O (Yc O) ?_)
 refine Zb 5 O O O (Zj (xs:=[.tmp 3,.tmp 4]) O O (H) by3 ?_);intro c5 h5
 refine QJ ?_
 exact Zf O O (Zy _) by5 ⟨⟨_,h5,O⟩,O⟩
def utfE (m:Int) (n:Nat):Option Int→Nat
 | none=>0
 | some v=>if v<m∨1114111<v∨(55296≤v∧v≤57343) then 0 else n
theorem utfL_go {c:Nat} {l:List Nat} (h1:¬ c<128) (h2:¬ (utfN c=0∨l.length+1<utfN c)):utfL (c::l)=utfE (utfM c) (utfN c) (cont (utfN c - 1) (utfV c) l):=by
 rw [utfL_cons,if_neg h1,if_neg h2]
 cases cont (utfN c - 1) (utfV c) l <;> rfl
theorem utfL_no {c:Nat} {l:List Nat} (h1:¬ c<128) (h2:utfN c=0∨l.length+1<utfN c):utfL (c::l)=0:=by
 rw [utfL_cons,if_neg h1,if_pos h2]
theorem pow_mono_ (i:Nat) (h:i≤4) (h1:1≤i):(64:Int) ^ (i - 1)≤262144∧(64:Int) ^ (i+1 - 1)=64 * 64 ^ (i - 1):=by
 rcases (by omega:i=1∨i=2∨i=3∨i=4) with rfl|rfl|rfl|rfl <;> decide
theorem utf_b (c:Nat):(utfN c=0∨2≤utfN c)∧utfN c≤4∧0≤utfV c∧utfV c+1≤32:=by
 refine ⟨?_,utfN_le _,?_,?_⟩
 ·unfold utfN;(repeat' split) <;> omega
 ·unfold utfV;(repeat' split) <;> omega
 unfold utfV;(repeat' split) <;> omega
theorem utf_all {c:Nat} (n v m:Int) (a1:192≤c∧c<224→n=2∧v=(c:Int) - 192∧m=128) (a2:224≤c∧c<240→n=3∧v=(c:Int) - 224∧m=2048) (a3:240≤c∧c<248→n=4∧v=(c:Int) - 240∧m=65536) (a4:c<192∨248≤c→n=0∧v=0∧m=0):n=(utfN c:Nat)∧v=utfV c∧m=utfM c:=by
 unfold utfN utfV utfM
 refine ⟨?_,?_,?_⟩
 ·(repeat' split) <;> omega
 ·(repeat' split) <;> omega
 (repeat' split) <;> omega
theorem Utf_c (s:ByteArray) (hs:s.size≤60000) (at_:Nat) (ha:at_<s.size):PCall Tryd.prog 48 [.val (.string s),.val (.int .i64 at_)] (.val (.int .i64 (utfL (rst s at_):Nat))):=by
 obtain ⟨b,hb,hr,hlt⟩:=rst_cons ha
 rw [hr]
 have hl:=rst_len s (at_+1)
 have hno:=utfL_no (c:=b.toNat) (l:=rst s (at_+1))
 have hgo:=utfL_go (c:=b.toNat) (l:=rst s (at_+1))
 rw [hl] at hno hgo
 refine Zc Tryd.func48 O (by kernel_rfl) O (Yc O) ?_
 refine Qu ?_
 refine Qaz ?_
 refine Qa ?_
 refine Zb 13 O O O (op_index_str O tu_9 O O O (hb) ?_)
 refine QbW ?_
 refine Qh ?_
 refine Qau ?_
 refine Qau ?_
 refine Qax ?_
 refine Qr ?_
 refine QA ?_;intro c16 h16
 refine Qb ?_
 obtain ⟨rfl,g16⟩|⟨rfl,g16⟩:=Za h16
 ·refine Q4 ?_
  refine Qp ?_
  refine Zp 22 (192≤b.toNat∧b.toNat<224) ?_ _ _ O ?_
  ·skip
   refine Qa ?_
   refine Qak ?_;intro c18 h18
   refine Qa ?_
   obtain ⟨rfl,g18⟩|⟨rfl,g18⟩:=Za h18
   ·skip
    refine Qap ?_
    refine Yb O ?_ by7 by5
    clear hno hgo;first|(simp_all;done)|(simp_all;omega)|grind
   skip
   refine Qf ?_
   refine QbF ?_;intro c21 h21
   refine Qk ?_
   refine Yb O ?_ by7 by5
   clear hno hgo;first|(simp_all;done)|(simp_all;omega)|grind
  intro c22 h22
  refine Qe ?_
  apply c_joinkm (rg [(2,2),(6,3),(11,14)]) (σ:=Int × Int × Int) (fun zz=>match zz with|(n,v,m)=>[(6,.val (.int .i64 n)),(7,.val (.int .i64 v)),(8,.val (.int .i64 m))]) (fun zz=>match zz with|(n,v,m)=>(192≤b.toNat∧b.toNat<224→n=2∧v=(b.toNat:Int) - 192∧m=128)∧(¬ (192≤b.toNat∧b.toNat<224)→n=0∧v=0∧m=0))
  ·repeat' (first|exact Yf|apply Yd rfl|apply Ye rfl)
  ·skip
   obtain ⟨rfl,g22⟩|⟨rfl,g22⟩:=Za h22
   ·refine QC ?_
    refine go_lp ?_
    first|exact ⟨(2,(b.toNat:Int) - 192,128),⟨fun _=>⟨rfl,rfl,rfl⟩,fun q=>absurd g22 q⟩,by6,by5⟩|exact ⟨(0,0,0),⟨fun q=>absurd q g22,fun _=>⟨rfl,rfl,rfl⟩⟩,by6,by5⟩
   refine Qm ?_
   refine Qaz ?_
   refine QU ?_
   refine Qh ?_
   refine Qc ?_
   refine Qad ?_
   first|exact ⟨(2,(b.toNat:Int) - 192,128),⟨fun _=>⟨rfl,rfl,rfl⟩,fun q=>absurd g22 q⟩,by6,by5⟩|exact ⟨(0,0,0),⟨fun q=>absurd q g22,fun _=>⟨rfl,rfl,rfl⟩⟩,by6,by5⟩
  rintro ⟨n,v,m⟩ hI
  try dsimp only [List.cons_append,List.nil_append] at hI ⊢
  obtain ⟨j1,j2⟩:=hI
  refine Q3 ?_
  refine Qp ?_
  refine Zp 30 (224≤b.toNat∧b.toNat<240) ?_ _ _ O ?_
  ·skip
   refine Qa ?_
   refine Qak ?_;intro c26 h26
   refine Qa ?_
   obtain ⟨rfl,g26⟩|⟨rfl,g26⟩:=Za h26
   ·skip
    refine Qap ?_
    refine Yb O ?_ by7 by5
    clear hno hgo;first|(simp_all;done)|(simp_all;omega)|grind
   skip
   refine Qf ?_
   refine QbF ?_;intro c29 h29
   refine Qk ?_
   refine Yb O ?_ by7 by5
   clear hno hgo;first|(simp_all;done)|(simp_all;omega)|grind
  intro c30 h30
  refine Qe ?_
  apply c_joinkm (rg [(2,2),(6,3),(11,22)]) (σ:=Int × Int × Int) (fun zz=>match zz with|(n2,v2,m2)=>[(6,.val (.int .i64 n2)),(7,.val (.int .i64 v2)),(8,.val (.int .i64 m2))]) (fun zz=>match zz with|(n2,v2,m2)=>(224≤b.toNat∧b.toNat<240→n2=3∧v2=(b.toNat:Int) - 224∧m2=2048)∧(¬ (224≤b.toNat∧b.toNat<240)→n2=n∧v2=v∧m2=m))
  ·repeat' (first|exact Yf|apply Yd rfl|apply Ye rfl)
  ·skip
   obtain ⟨rfl,g30⟩|⟨rfl,g30⟩:=Za h30
   ·refine QC ?_
    refine go_lp ?_
    first|exact ⟨(3,(b.toNat:Int) - 224,2048),⟨fun _=>⟨rfl,rfl,rfl⟩,fun q=>absurd g30 q⟩,by6,by5⟩|exact ⟨(n,v,m),⟨fun q=>absurd q g30,fun _=>⟨rfl,rfl,rfl⟩⟩,by6,by5⟩
   refine Qm ?_
   refine Qaz ?_
   refine QU ?_
   refine Qh ?_
   refine Qc ?_
   refine Qad ?_
   first|exact ⟨(3,(b.toNat:Int) - 224,2048),⟨fun _=>⟨rfl,rfl,rfl⟩,fun q=>absurd g30 q⟩,by6,by5⟩|exact ⟨(n,v,m),⟨fun q=>absurd q g30,fun _=>⟨rfl,rfl,rfl⟩⟩,by6,by5⟩
  rintro ⟨n2,v2,m2⟩ hI
  try dsimp only [List.cons_append,List.nil_append] at hI ⊢
  obtain ⟨j3,j4⟩:=hI
  refine Q3 ?_
  refine Qp ?_
  refine Zp 38 (240≤b.toNat∧b.toNat<248) ?_ _ _ O ?_
  ·skip
   refine Qa ?_
   refine Qak ?_;intro c34 h34
   refine Qa ?_
   obtain ⟨rfl,g34⟩|⟨rfl,g34⟩:=Za h34
   ·skip
    refine Qap ?_
    refine Yb O ?_ by7 by5
    clear hno hgo;first|(simp_all;done)|(simp_all;omega)|grind
   skip
   refine Qf ?_
   refine QbF ?_;intro c37 h37
   refine Qk ?_
   refine Yb O ?_ by7 by5
   clear hno hgo;first|(simp_all;done)|(simp_all;omega)|grind
  intro c38 h38
  refine Qe ?_
  apply c_joinkm (rg [(2,2),(5,4),(11,30)]) (σ:=Int × Int × Int) (fun zz=>match zz with|(n3,v3,m3)=>[(6,.val (.int .i64 n3)),(7,.val (.int .i64 v3)),(8,.val (.int .i64 m3))]) (fun zz=>match zz with|(n3,v3,m3)=>n3=(utfN b.toNat:Nat)∧v3=utfV b.toNat∧m3=utfM b.toNat)
  ·repeat' (first|exact Yf|apply Yd rfl|apply Ye rfl)
  ·skip
   obtain ⟨rfl,g38⟩|⟨rfl,g38⟩:=Za h38
   ·refine QC ?_
    refine go_lp ?_
    first|exact ⟨(4,(b.toNat:Int) - 240,65536),utf_all _ _ _ (fun q=>by omega) (fun q=>by omega) (fun _=>⟨rfl,rfl,rfl⟩) (fun q=>by omega),by6,by5⟩|exact ⟨(n2,v2,m2),utf_all _ _ _ (fun q=>by have:=j1 q;have:=j4 by11;omega) (fun q=>j3 q) (fun q=>absurd q g38) (fun q=>by have:=j2 by11;have:=j4 by11;omega),by6,by5⟩
   refine Qm ?_
   refine Qaz ?_
   refine QU ?_
   refine Qh ?_
   refine Qc ?_
   refine Qad ?_
   first|exact ⟨(4,(b.toNat:Int) - 240,65536),utf_all _ _ _ (fun q=>by omega) (fun q=>by omega) (fun _=>⟨rfl,rfl,rfl⟩) (fun q=>by omega),by6,by5⟩|exact ⟨(n2,v2,m2),utf_all _ _ _ (fun q=>by have:=j1 q;have:=j4 by11;omega) (fun q=>j3 q) (fun q=>absurd q g38) (fun q=>by have:=j2 by11;have:=j4 by11;omega),by6,by5⟩
  rintro ⟨n3,v3,m3⟩ hI
  try dsimp only [List.cons_append,List.nil_append] at hI ⊢
  obtain ⟨rfl,rfl,rfl⟩:=hI
  have hN:=utf_b b.toNat
  clear j1 j2 j3 j4
  generalize utfN b.toNat=N at *
  generalize utfV b.toNat=V at *
  generalize utfM b.toNat=W at *
  obtain ⟨k1,k2,k3,k4⟩:=hN
  refine Q3 ?_
  refine Qp ?_
  refine Zp 50 (N=0∨s.size<at_+N) ?_ _ _ O ?_
  ·skip
   refine Qa ?_
   refine Qi ?_;intro c42 h42
   refine Qa ?_
   obtain ⟨rfl,g42⟩|⟨rfl,g42⟩:=Za h42
   ·skip
    refine Qf ?_
    refine Qf ?_
    refine Zh 46 O O O O O (op_add O O O (IntWalk.i64_in _ by11) ?_)
    refine Qf ?_
    refine Qbo ?_
    refine QaP ?_;intro c49 h49
    refine Qk ?_
    refine Yb O ?_ by7 by5
    clear hno hgo;first|(simp_all;done)|(simp_all;omega)|grind
   skip
   refine Qj ?_
   refine Qap ?_
   refine Yb O ?_ by7 by5
   clear hno hgo;first|(simp_all;done)|(simp_all;omega)|grind
  intro c50 h50
  refine Qe ?_
  obtain ⟨rfl,g50⟩|⟨rfl,g50⟩:=Za h50
  ·refine Q4 ?_
   refine Qp ?_
   have hU:=hgo by11 by11
   refine c_le (al':=[(0,.val (.string s)),(1,.val (.int .i64 at_)),(6,.val (.int .i64 N)),(7,.val (.int .i64 V)),(8,.val (.int .i64 W))]) by6 (Zv _) ?_
   refine Qc ?_
   refine Qh ?_
   refine QH ?_
   apply Zu (rg [(2,4),(7,1),(9,64)]) (σ:=Nat × Int) (fun zz=>match zz with|(i,v)=>[(7,.val (.int .i64 v)),(9,.val (.int .i64 i))]) (fun zz=>match zz with|(i,v)=>1≤i∧i≤N∧0≤v∧v+1≤32 * 64 ^ (i - 1)∧cont (N - 1) V (rst s (at_+1))=cont (N - i) v (rst s (at_+i))) (fun zz=>match zz with|(i,v)=>N - i) ((1,V))
   ·repeat' (first|exact Yf|apply Yd rfl|apply Ye rfl)
   ·refine ⟨Nat.le_refl _,by show 1≤N;omega,by show 0≤V;omega,?_,O⟩
    show V+1≤32 * 64 ^ 0
    omega
   ·exact by6
   rintro ⟨i,v⟩ hI
   try dsimp only [List.cons_append,List.nil_append] at hI ⊢
   obtain ⟨h1,h2,h3,h4,hu⟩:=hI
   have hp:=pow_mono_ i by11 h1
   refine QG ?_
   refine Qa ?_
   refine QA ?_;intro c53 h53
   refine Qb ?_
   obtain ⟨rfl,g53⟩|⟨rfl,g53⟩:=Za h53
   ·refine QT ?_
    refine Qp ?_
    have he:utfL (b.toNat::rst s (at_+1))=utfE W N (some v):=by rw [hU,hu,show N - i=0 by omega];cases rst s (at_+i) <;> rfl
    refine Zp 87 (v<W∨1114111<v∨(55296≤v∧v≤57343)) ?_ _ _ O ?_
    ·skip
     refine Qa ?_
     refine Qa ?_
     refine QA ?_;intro c75 h75
     refine Qa ?_
     obtain ⟨rfl,g75⟩|⟨rfl,g75⟩:=Za h75
     ·skip
      refine Qf ?_
      refine QaP ?_;intro c78 h78
      refine Qq ?_
      obtain ⟨rfl,g78⟩|⟨rfl,g78⟩:=Za h78
      ·skip
       refine Qf ?_
       refine Zh 82 O O O O O (op_geq O O O ?_);intro c82 h82
       refine Qf ?_
       obtain ⟨rfl,g82⟩|⟨rfl,g82⟩:=Za h82
       ·skip
        refine Qac ?_
        refine Qx ?_
        refine Qk ?_
        refine Yb O ?_ by7 by5
        simp_all;omega
       skip
       refine Qf ?_
       refine QaO ?_;intro c85 h85
       refine Qx ?_
       refine Qk ?_
       refine Yb O ?_ by7 by5
       simp_all;omega
      skip
      refine Qam ?_
      refine QN ?_
      refine QL ?_
      refine Qk ?_
      refine Yb O ?_ by7 by5
      simp_all;done
     skip
     refine QO ?_
     refine Qam ?_
     refine QN ?_
     refine QL ?_
     refine Qk ?_
     refine Yb O ?_ by7 by5
     simp_all;done
    intro c87 h87
    refine Qe ?_
    obtain ⟨rfl,g87⟩|⟨rfl,g87⟩:=Za h87
    ·refine QC ?_
     refine Qe ?_
     refine Qr ?_
     refine QJ ?_
     exact Zf O O (Le.inteq (by rw [he,utfE,if_neg g87])) by5 ⟨O,O⟩
    refine Qz ?_
    exact Zf O O (Le.inteq (by rw [he,utfE,if_pos g87];rfl)) by5 ⟨O,O⟩
   refine Qt ?_
   obtain ⟨d,hd,hrd,hdl⟩:=rst_cons (s:=s) (i:=at_+i) by11
   refine QaB ?_
   refine Qa ?_
   refine QaD ?_
   refine Zb 60 O O O (op_index_str (i:=at_+i) O tu_9 O O (by first|rfl|omega) (hd) ?_)
   refine QbW ?_
   refine QZ ?_
   refine Qp ?_
   refine Zp 67 (d.toNat<128∨191<d.toNat) ?_ _ _ O ?_
   ·skip
    refine Qa ?_
    refine QA ?_;intro c63 h63
    refine Qa ?_
    obtain ⟨rfl,g63⟩|⟨rfl,g63⟩:=Za h63
    ·skip
     refine Qf ?_
     refine QaP ?_;intro c66 h66
     refine Qk ?_
     refine Yb O ?_ by7 by5
     simp_all;omega
    skip
    refine Qap ?_
    refine Yb O ?_ by7 by5
    simp_all;omega
   intro c67 h67
   refine Qe ?_
   obtain ⟨rfl,g67⟩|⟨rfl,g67⟩:=Za h67
   ·refine QC ?_
    refine Qe ?_
    refine Qc ?_
    refine Qa ?_
    refine Zb 69 O O O (op_mul O O O (IntWalk.i64_in _ by11) ?_)
    refine Qa ?_
    refine QaD ?_
    refine QU ?_
    refine Qab ?_
    refine Qs ?_
    refine Qav ?_
    refine Qa ?_
    refine QaD ?_
    refine Qad ?_
    refine ⟨(i+1,64 * v+d.toNat - 128),⟨by omega,by omega,by omega,?_,?_⟩,by simp;omega,by6,by5⟩
    ·rw [hp.2];omega
    rw [hu,hrd,show N - i=(N - (i+1))+1 by omega,cont,if_neg by11];rfl
   refine Qz ?_
   exact Zf O O (Le.inteq (by rw [hU,hu,hrd,show N - i=(N - i - 1)+1 by omega,cont,if_pos by11];rfl)) by5 ⟨O,O⟩
  refine Qz ?_
  exact Zf O O (Le.inteq (by rw [hno by11 by11];rfl)) by5 ⟨O,O⟩
 refine Qz ?_
 exact Zf O O (Le.inteq (by rw [utfL_cons,if_pos by11];rfl)) by5 ⟨O,O⟩
theorem bytes_at {s:ByteArray} {i:Nat} {b:UInt8} (h:s[i]?=some b):(bytesN s)[i]?=some b.toNat:=by
 obtain ⟨h1,h2⟩:=getElem?_eq_some_iff.1 h
 have h3:i<(bytesN s).length:=by rw [bytesN_len];exact h1
 rw [List.getElem?_eq_getElem h3,bytesN_get s i h1 h3,h2]
theorem byte_get {s:ByteArray} {i:Nat} (h:i<s.size):∃ b,s[i]?=some b:=⟨s[i],by rw [getElem?_eq_some_iff];exact ⟨h,rfl⟩⟩
theorem names_c (s:ByteArray) (hs:s.size≤40):BCall Tryd.prog 44 [.val (.string s)] (namesP s):=by
 refine Zc Tryd.func44 O (by kernel_rfl) O (Yc O) ?_
 refine QY ?_
 refine Q6 ?_
 apply Zu (rg [(1,14)]) (σ:=Nat) (fun zz=>match zz with|i=>[(3,.val (.int .i64 i))]) (fun zz=>match zz with|i=>i≤s.size∧∀ c∈(bytesN s).take i,nameC c=true) (fun zz=>match zz with|i=>s.size - i) (0)
 ·repeat' (first|exact Yf|apply Yd rfl|apply Ye rfl)
 ·exact ⟨Nat.zero_le _,by simp⟩
 ·exact by6
 rintro i hI
 try dsimp only [List.cons_append,List.nil_append] at hI ⊢
 obtain ⟨hi,hn⟩:=hI
 refine QG ?_
 refine Qa ?_
 refine Qbn ?_
 refine QA ?_;intro c7 h7
 refine Qb ?_
 obtain ⟨rfl,g7⟩|⟨rfl,g7⟩:=Za h7
 ·refine Qao ?_
  rw [List.take_of_length_le (by rw [bytesN_len];omega)] at hn
  exact Zf O O (Zy _) by5 ⟨⟨_,iff_t hn,O⟩,O⟩
 refine Qt ?_
 obtain ⟨b,hb⟩:=byte_get (s:=s) (i:=i) by11
 have hb2:=bytes_at hb
 have HN:=name_c b.toNat
 have hsn:=take_snoc hb2
 refine QaB ?_
 refine Zb 12 O O O (op_index_str (i:=i) O tu_9 O O (by first|rfl|omega) (hb) ?_)
 refine Zb 13 O O O (Zj (xs:=[.tmp 12]) O O (HN) by3 ?_);intro c13 h13
 refine QV ?_;intro c14 h14
 try replace h14:=nott h14 h13
 refine Qb ?_
 obtain ⟨rfl,g14⟩|⟨rfl,g14⟩:=Za h14
 ·refine Qah ?_
  exact ⟨i+1,⟨by show i+1≤s.size;omega,fun c hc=>by
   rw [hsn] at hc
   rcases List.mem_append.1 hc with hc|hc
   ·exact hn c hc
   rw [List.mem_singleton] at hc;subst hc;exact Classical.not_not.1 g14⟩,by show s.size - (i+1)<s.size - i;omega,by6,by5⟩
 refine Qz ?_
 exact Zf O O (Zy _) by5 ⟨⟨_,iff_f (fun q=>g14 (q _ (Yg hb2))),O⟩,O⟩
theorem upP_iff {s:ByteArray} {b:UInt8} (hb:s[0]?=some b):upP s↔s.size≤40∧greatC b.toNat=true∧namesP s:=by
 have h0:=bytes_at hb
 obtain ⟨r,hr⟩:∃ r,bytesN s=b.toNat::r:=by
  cases hh:bytesN s with
  | nil=>rw [hh] at h0;simp at h0
  | cons x r=>rw [hh] at h0;simp at h0;exact ⟨r,by rw [h0]⟩
 unfold upP namesP
 rw [hr]
 constructor
 ·rintro ⟨h1,c,r',h2,h3,h4⟩
  obtain ⟨rfl,rfl⟩:=List.cons.inj h2
  exact ⟨h1,h3,h4⟩
 rintro ⟨h1,h2,h3⟩
 exact ⟨h1,_,_,O,h2,h3⟩
theorem upP_kE:¬ upP kE:=by
 rintro ⟨_,c,r,h,_⟩
 simp [bytesN] at h
theorem IsUp_c (s:ByteArray):BCall Tryd.prog 21 [.val (.string s)] (upP s):=by
 by_cases h0:s.size=0
 ·obtain rfl:s=kE:=by
   obtain ⟨⟨l⟩⟩:=s
   cases l with
   | nil=>rfl
   | cons x l=>exact absurd h0 (by show ¬ (l.length+1=0);omega)
  have hu:=upP_kE
  refine Zc Tryd.func21 O (by kernel_rfl) O (Yc O) ?_
  refine QY ?_
  refine Zp 2 (False) ?_ _ _ O ?_
  ·skip
   refine Qa ?_
   refine QaL ?_;intro c4 h4
   refine Qa ?_
   obtain ⟨rfl,g4⟩|⟨rfl,g4⟩:=Za h4
   ·skip
    refine QE ?_
    refine QE ?_
    refine QD ?_
    refine Yb O ?_ by7 by5
    simp
   exact absurd O g4
  intro c2 h2
  refine Qw ?_
  exact Zf O O (Zy _) by5 ⟨⟨_,h2.trans ⟨False.elim,fun q=>hu q⟩,O⟩,O⟩
 obtain ⟨b,hb⟩:=byte_get (s:=s) (i:=0) by11
 have hu:=upP_iff hb
 have HG:=great_c b.toNat
 have HN:=fun h=>names_c s h
 have hne:s≠kE:=fun q=>h0 (by rw [q];rfl)
 refine Zc Tryd.func21 O (by kernel_rfl) O (Yc O) ?_
 refine QY ?_
 refine Zp 2 (s.size≤40∧greatC b.toNat=true∧namesP s) ?_ _ _ O ?_
 ·skip
  refine Qa ?_
  refine QaL ?_;intro c4 h4
  refine Qa ?_
  obtain ⟨rfl,g4⟩|⟨rfl,g4⟩:=Za h4
  ·skip
   refine QE ?_
   refine QE ?_
   refine QD ?_
   refine Yb O ?_ by7 by5
   clear HG HN;first|(simp_all;done)|(simp_all;omega)|grind
  skip
  refine Qf ?_
  refine Qbo ?_
  refine QaO ?_;intro c8 h8
  refine Qq ?_
  obtain ⟨rfl,g8⟩|⟨rfl,g8⟩:=Za h8
  ·skip
   refine QE ?_
   refine QD ?_
   refine Yb O ?_ by7 by5
   clear HG HN;first|(simp_all;done)|(simp_all;omega)|grind
  skip
  refine Qf ?_
  refine QbX ?_
  refine Zh 13 O O O O O (Zj (xs:=[.tmp 12]) O O (HG) by3 ?_);intro c13 h13
  refine Qq ?_
  obtain ⟨rfl,g13⟩|⟨rfl,g13⟩:=Za h13
  ·skip
   refine QD ?_
   refine Yb O ?_ by7 by5
   clear HG HN;first|(simp_all;done)|(simp_all;omega)|grind
  skip
  refine Qf ?_
  refine Zh 17 O O O O O (Zj (xs:=[.tmp 16]) O O (HN by11) by3 ?_);intro c17 h17
  refine Qn ?_
  refine Yb O ?_ by7 by5
  clear HG HN;first|(simp_all;done)|(simp_all;omega)|grind
 intro c2 h2
 refine Qw ?_
 exact Zf O O (Zy _) by5 ⟨⟨_,h2.trans hu.symm,O⟩,O⟩
def lowP (s:ByteArray):Prop:=s≠kE∧s.size≤40∧(∃ b,s[0]?=some b∧smallC b.toNat=true)∧namesP s∧¬ keyT s=true∧s≠kUn
theorem IsLow_c (s:ByteArray):BCall Tryd.prog 23 [.val (.string s)] (lowP s):=by
 have HK:=Key_c s
 have HN:=fun h=>names_c s h
 by_cases h0:s.size=0
 ·obtain rfl:s=kE:=by
   obtain ⟨⟨l⟩⟩:=s
   cases l with
   | nil=>rfl
   | cons x l=>exact absurd h0 (by show ¬ (l.length+1=0);omega)
  refine Zc Tryd.func23 O (by kernel_rfl) O (Yc O) ?_
  refine QY ?_
  refine Zp 2 (False) ?_ _ _ O ?_
  ·skip
   refine Qa ?_
   refine QaL ?_;intro c4 h4
   refine Qa ?_
   obtain ⟨rfl,g4⟩|⟨rfl,g4⟩:=Za h4
   ·skip
    refine QE ?_
    refine QE ?_
    refine QO ?_
    refine QE ?_
    refine QD ?_
    refine Yb O ?_ by7 by5
    simp
   exact absurd O g4
  intro c2 h2
  refine Qw ?_
  exact Zf O O (Zy _) by5 ⟨⟨_,h2.trans ⟨False.elim,fun q=>q.1 O⟩,O⟩,O⟩
 obtain ⟨b,hb⟩:=byte_get (s:=s) (i:=0) by11
 have HG:=small_c b.toNat
 have hne:s≠kE:=fun q=>h0 (by rw [q];rfl)
 have hu:lowP s↔s.size≤40∧smallC b.toNat=true∧namesP s∧¬ keyT s=true∧s≠kUn:=by
  unfold lowP
  rw [hb]
  constructor
  ·rintro ⟨_,h1,⟨c,hc,h2⟩,h3⟩
   cases hc
   exact ⟨h1,h2,h3⟩
  rintro ⟨h1,h2,h3⟩
  exact ⟨hne,h1,⟨_,O,h2⟩,h3⟩
 refine Zc Tryd.func23 O (by kernel_rfl) O (Yc O) ?_
 refine QY ?_
 refine Zp 2 (s.size≤40∧smallC b.toNat=true∧namesP s∧¬ keyT s=true∧s≠kUn) ?_ _ _ O ?_
 ·skip
  refine Qa ?_
  refine QaL ?_;intro c4 h4
  refine Qa ?_
  obtain ⟨rfl,g4⟩|⟨rfl,g4⟩:=Za h4
  ·skip
   refine QE ?_
   refine QE ?_
   refine QO ?_
   refine QE ?_
   refine QD ?_
   refine Yb O ?_ by7 by5
   clear HG HN HK hu;first|(simp_all;done)|(simp_all;omega)|grind
  skip
  refine Qf ?_
  refine Qbo ?_
  refine QaO ?_;intro c8 h8
  refine Qq ?_
  obtain ⟨rfl,g8⟩|⟨rfl,g8⟩:=Za h8
  ·skip
   refine QE ?_
   refine QO ?_
   refine QE ?_
   refine QD ?_
   refine Yb O ?_ by7 by5
   clear HG HN HK hu;first|(simp_all;done)|(simp_all;omega)|grind
  skip
  refine Qf ?_
  refine QbX ?_
  refine Zh 13 O O O O O (Zj (xs:=[.tmp 12]) O O (HG) by3 ?_);intro c13 h13
  refine Qq ?_
  obtain ⟨rfl,g13⟩|⟨rfl,g13⟩:=Za h13
  ·skip
   refine QO ?_
   refine QE ?_
   refine QD ?_
   refine Yb O ?_ by7 by5
   clear HG HN HK hu;first|(simp_all;done)|(simp_all;omega)|grind
  skip
  refine Qf ?_
  refine Zh 17 O O O O O (Zj (xs:=[.tmp 16]) O O (HN by11) by3 ?_);intro c17 h17
  refine Qq ?_
  obtain ⟨rfl,g17⟩|⟨rfl,g17⟩:=Za h17
  ·skip
   refine QE ?_
   refine QD ?_
   refine Yb O ?_ by7 by5
   clear HG HN HK hu;first|(simp_all;done)|(simp_all;omega)|grind
  skip
  refine Qf ?_
  refine Zh 21 O O O O O (Zj (xs:=[.tmp 20]) O O (HK) by3 ?_);intro c21 h21
  refine QaY ?_;intro c22 h22
  try replace h22:=nott h22 h21
  refine Qq ?_
  obtain ⟨rfl,g22⟩|⟨rfl,g22⟩:=Za h22
  ·skip
   refine QD ?_
   refine Yb O ?_ by7 by5
   clear HG HN HK hu;first|(simp_all;done)|(simp_all;omega)|grind
  skip
  refine Qf ?_
  refine QaR ?_;intro c26 h26
  refine Qn ?_
  refine Yb O ?_ by7 by5
  clear HG HN HK hu;first|(simp_all;done)|(simp_all;omega)|grind
 intro c2 h2
 refine Qw ?_
 exact Zf O O (Zy _) by5 ⟨⟨_,h2.trans hu.symm,O⟩,O⟩
theorem ups_c (l:List ByteArray):BCall Tryd.prog 22 [.seq 1 (strs l)] (∀ s∈l,upP s):=by
 have hl:=Zq l
 refine Zc Tryd.func22 O (by kernel_rfl) O (Yc O) ?_
 refine Qu ?_
 refine c_lens (t:=0) O (.seq _ _) (fun hmax=>?_)
 refine Qax ?_
 refine Q6 ?_
 apply Zu (rg [(1,15)]) (σ:=Nat) (fun zz=>match zz with|i=>[(3,.val (.int .i64 i))]) (fun zz=>match zz with|i=>i≤l.length∧∀ s∈l.take i,upP s) (fun zz=>match zz with|i=>l.length - i) (0)
 ·repeat' (first|exact Yf|apply Yd rfl|apply Ye rfl)
 ·exact ⟨Nat.zero_le _,by simp⟩
 ·exact by6
 rintro i hI
 try dsimp only [List.cons_append,List.nil_append] at hI ⊢
 obtain ⟨hi,hn⟩:=hI
 refine QG ?_
 refine Qa ?_
 refine QaJ ?_;intro n6
 refine QA ?_;intro c7 h7
 refine Qb ?_
 obtain ⟨rfl,g7⟩|⟨rfl,g7⟩:=Za h7
 ·refine Qao ?_
  rw [List.take_of_length_le by11] at hn
  exact Zf O O (Zy _) by5 ⟨⟨_,iff_t hn,O⟩,O⟩
 refine Qt ?_
 obtain ⟨q,hxq⟩:=Zm (l:=l) (i:=i) by8
 have hcq:=strs_get hxq
 have hmq:=Yg hxq
 have HU:=IsUp_c q
 have hsn:=take_snoc hxq
 refine QaB ?_
 refine QbE ?_
 refine Qy ?_
 refine Zb 14 O O O (Zj (xs:=[.tmp 13]) O O (HU) by3 ?_);intro c14 h14
 refine QV ?_;intro c15 h15
 try replace h15:=nott h15 h14
 refine Qb ?_
 obtain ⟨rfl,g15⟩|⟨rfl,g15⟩:=Za h15
 ·refine Qah ?_
  exact ⟨i+1,⟨by show i+1≤l.length;omega,fun c hc=>by
   rw [hsn] at hc
   rcases List.mem_append.1 hc with hc|hc
   ·exact hn c hc
   rw [List.mem_singleton] at hc;subst hc;exact Classical.not_not.1 g15⟩,by show l.length - (i+1)<l.length - i;omega,by6,by5⟩
 refine Qz ?_
 exact Zf O O (Zy _) by5 ⟨⟨_,iff_f (fun h=>g15 (h _ hmq)),O⟩,O⟩
abbrev kArr:ByteArray:=⟨#[45,62]⟩
mutual
def Ty.good:Ty→Prop
 | .mk k s n ks=>Ty.goods ks∧n=0∧((k=1∧lowP s∧ks.length=0)∨(k=3∧(upP s∨(s=kArr∧ks.length=2))))
def Ty.goods:List Ty→Prop
 | []=>True
 | x::l=>x.good∧Ty.goods l
end
theorem Ty.goods_iff:∀ l:List Ty,Ty.goods l↔∀ x∈l,x.good
 | []=>by rw [Ty.goods];exact ⟨fun _ x h=>by simp at h,fun _=>trivial⟩
 | x::l=>by
  rw [Ty.goods,Ty.goods_iff l]
  exact ⟨fun h y hy=>(List.mem_cons.1 hy).elim (fun e=>e ▸ h.1) (h.2 y),fun h=>⟨h x by12,fun y hy=>h y (by simp [hy])⟩⟩
theorem GoodType_c (t:Ty):BCall Tryd.prog 18 [.agg t.cells] t.good:=by
 obtain ⟨tk,ts,tn,ks⟩:=t
 have IH:∀ x∈ks,BCall Tryd.prog 18 [.agg x.cells] x.good:=fun x hx=>GoodType_c x
 have HL:=IsLow_c ts
 have HU:=IsUp_c ts
 have hl:=Ty.cellss_len ks
 rw [Ty.good,Ty.goods_iff]
 refine Zc Tryd.func18 O (by kernel_rfl) O (Yc O) ?_
 refine Qu ?_
 refine c_lena (t:=0) (j:=3) O O (.seq _ _) (fun hmax=>?_)
 refine Qd ?_
 refine Zb 1 O O O (op_boxc (cs':=[_,_,_,_]) O O O O ?_)
 refine QZ ?_
 refine Q6 ?_
 apply Zu (rg [(0,1),(2,16)]) (σ:=Nat) (fun zz=>match zz with|i=>[(3,.val (.int .i64 i))]) (fun zz=>match zz with|i=>i≤ks.length∧∀ x∈ks.take i,x.good) (fun zz=>match zz with|i=>ks.length - i) (0)
 ·repeat' (first|exact Yf|apply Yd rfl|apply Ye rfl)
 ·exact ⟨Nat.zero_le _,by simp⟩
 ·exact by6
 rintro i hI
 try dsimp only [List.cons_append,List.nil_append] at hI ⊢
 obtain ⟨hi,hn⟩:=hI
 refine QG ?_
 refine Qg ?_
 refine Q5 ?_;intro n7
 refine QA ?_;intro c8 h8
 refine Qb ?_
 obtain ⟨rfl,g8⟩|⟨rfl,g8⟩:=Za h8
 ·refine QT ?_
  refine Qp ?_
  rw [List.take_of_length_le by11] at hn
  refine Qc ?_
  refine Qg ?_
  refine Qba ?_;intro c20 h20
  refine Qb ?_
  obtain ⟨rfl,g20⟩|⟨rfl,g20⟩:=Za h20
  ·refine Qaa ?_
   refine Qi ?_;intro c23 h23
   refine Qb ?_
   obtain ⟨rfl,g23⟩|⟨rfl,g23⟩:=Za h23
   ·refine Q4 ?_
    refine Zp 2 (tk=3∧(upP ts∨(ts=kArr∧ks.length=2))) ?_ _ _ O ?_
    ·skip
     refine Qg ?_
     refine Qi ?_;intro c35 h35
     refine Qa ?_
     obtain ⟨rfl,g35⟩|⟨rfl,g35⟩:=Za h35
     ·skip
      refine Qj ?_
      refine QN ?_
      refine QN ?_
      refine QN ?_
      refine QN ?_
      refine Qbe ?_
      refine QL ?_
      refine Qn ?_
      refine Yb O ?_ by7 by5
      clear HL HU IH hn;first|(simp_all;done)|(simp_all;omega)|grind
     skip
     refine Qo ?_
     refine Zh 39 O O O O O (Zj (xs:=[.tmp 38]) O O (HU) by3 ?_);intro c39 h39
     refine Qf ?_
     obtain ⟨rfl,g39⟩|⟨rfl,g39⟩:=Za h39
     ·skip
      refine Qo ?_
      refine Zh 43 O O O O O (op_seql O O O ?_);intro c43 h43
      refine Qf ?_
      obtain ⟨rfl,g43⟩|⟨rfl,g43⟩:=Za h43
      ·skip
       refine Qj ?_
       refine Qx ?_
       refine Qx ?_
       refine Qn ?_
       refine Yb O ?_ by7 by5
       clear HL HU IH hn;first|(simp_all;done)|(simp_all;omega)|grind
      skip
      refine Qo ?_
      refine Qbp ?_;intro n47
      refine QS ?_;intro c48 h48
      refine Qx ?_
      refine Qx ?_
      refine Qn ?_
      refine Yb O ?_ by7 by5
      clear HL HU IH hn;first|(simp_all;done)|(simp_all;omega)|grind
     skip
     refine Qj ?_
     refine QN ?_
     refine QN ?_
     refine QL ?_
     refine Qx ?_
     refine Qn ?_
     refine Yb O ?_ by7 by5
     clear HL HU IH hn;first|(simp_all;done)|(simp_all;omega)|grind
    intro c2 h2
    refine Qw ?_
    exact Zf O O (Zy _) by5 ⟨⟨_,h2.trans ⟨fun q=>⟨hn,Classical.not_not.1 g20,.inr q⟩,fun q=>q.2.2.elim (fun r=>absurd r.1 g23) id⟩,O⟩,O⟩
   refine Qag ?_
   refine Zp 2 (lowP ts∧ks.length=0) ?_ _ _ O ?_
   ·skip
    refine Qg ?_
    refine Zb 26 O O O (Zj (xs:=[.tmp 25]) O O (HL) by3 ?_);intro c26 h26
    refine Qa ?_
    obtain ⟨rfl,g26⟩|⟨rfl,g26⟩:=Za h26
    ·skip
     refine Qj ?_
     refine Qn ?_
     refine Yb O ?_ by7 by5
     clear HL HU IH hn;first|(simp_all;done)|(simp_all;omega)|grind
    skip
    refine Qo ?_
    refine Qbp ?_;intro n30
    refine QS ?_;intro c31 h31
    refine Qn ?_
    refine Yb O ?_ by7 by5
    clear HL HU IH hn;first|(simp_all;done)|(simp_all;omega)|grind
   intro c2 h2
   refine Qw ?_
   exact Zf O O (Zy _) by5 ⟨⟨_,h2.trans ⟨fun q=>⟨hn,Classical.not_not.1 g20,.inl ⟨g23,q⟩⟩,fun q=>q.2.2.elim (fun r=>r.2) (fun r=>absurd (g23.symm.trans r.1) by10)⟩,O⟩,O⟩
  refine Qz ?_
  exact Zf O O (Zy _) by5 ⟨⟨_,iff_f (fun h=>g20 h.2.1),O⟩,O⟩
 refine Qt ?_
 obtain ⟨⟨qk,qs,qn,ql⟩,hxq⟩:=Zm (l:=ks) (i:=i) by8
 have hcq:=Ty.cellss_get hxq
 have hmq:=Yg hxq
 have HQ:=IH _ hmq
 have hsn:=take_snoc hxq
 refine Qc ?_
 refine Qaf ?_
 refine Zb 14 O O O (Zl O te_28 O (.seq _ _) O O (hcq) ?_)
 refine QbY ?_
 refine Zb 16 O O O (Zj (xs:=[.tmp 15]) O O (HQ) by3 ?_);intro c16 h16
 refine QV ?_;intro c17 h17
 try replace h17:=nott h17 h16
 refine Qb ?_
 obtain ⟨rfl,g17⟩|⟨rfl,g17⟩:=Za h17
 ·refine Qah ?_
  exact ⟨i+1,⟨by show i+1≤ks.length;omega,fun c hc=>by
   rw [hsn] at hc
   rcases List.mem_append.1 hc with hc|hc
   ·exact hn c hc
   rw [List.mem_singleton] at hc;subst hc;exact Classical.not_not.1 g17⟩,by show ks.length - (i+1)<ks.length - i;omega,by6,by5⟩
 refine Qz ?_
 exact Zf O O (Zy _) by5 ⟨⟨_,iff_f (fun h=>g17 (h.1 _ hmq)),O⟩,O⟩
termination_by SizeOf.sizeOf t
decreasing_by
 have:=List.sizeOf_lt_of_mem hx
 simp;omega
end Go.Proofs.YtefbicnoddggnaaDoor
