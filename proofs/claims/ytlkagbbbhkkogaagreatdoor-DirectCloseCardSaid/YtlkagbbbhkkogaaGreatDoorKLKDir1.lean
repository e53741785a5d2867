/- Parts of a proof: A logic of trees over the model's memory, part 1: abstract values, eternal cells, resources, and the rules of code. Nothing of a program is in it.; A logic of trees, part 2: the rules of operations that compute and read, and of calls.; A logic of trees, part 3: what makes and writes memory; weaker values; entering a function.; A logic of trees, part 4: append, literals, make, and cells that become eternal.; A logic of trees, part 5: literals, make, sub-slices, and cells that become eternal.; A logic of trees, part 6: regions whose order is drawn, where nothing is written: the text's order stands for all of them.; A logic of trees, part 7: what is left to do, as a stack; calls by kinds of contracts; how a function ends.; A logic of trees, part 8: regions whose order is drawn, and that write: the operations that write are in one order by the edges; the others stand before the first that they need not follow.; A logic of trees, part 9: calls that take memory along; a store into a row that a call made.; A logic of trees, part 10: ranges over a function: the loop's record as a resource, a call of yield, an iterator's contract, and the statement.; A logic of trees, part 11: rows: slices whose cells may turn; pure calls that look at a row; boxes that become eternal.; The logic of trees, part 12: loops and joins that keep the slots that they do not turn.; The logic of trees, part 13: a slice of a slice, an element of an array.; The logic of trees, part 16: pointers into rows: index, load, store; appending to a row, its block known; a part of a row as a source; arrays within a variable.; The logic of trees, part 17: calls that take pieces of the memory along, by their places. -/
import Derived.WalkKit
import Derived.Lib.Hide
import Derived.Maps.AppendAt
import Derived.Laws.AppendOwnNone
import Derived.TacticsIn
import Derived.OrdersIn
import Derived.RangeFuncFrom
import Derived.RangeFuncLeaves
import Derived.IntWalk
import Derived.RangeFuncRecord
import Derived.RangeFuncSeq
set_option maxRecDepth 100000
set_option maxHeartbeats 4000000
namespace Go.Proofs.YtlkagbbbhkkogaaGreatDoor
open Go.RowKit
abbrev EH:=Nat→Nat→Option Value
def Ext (F F':EH):Prop:=∀ b i x,F b i=some x→F' b i=some x
theorem Ext.refl (F:EH):Ext F F:=fun _ _ _ h=>h
theorem Ext.trans {F G H:EH} (h:Ext F G) (k:Ext G H):Ext F H:=fun b i x e=>k b i x (h b i x e)
def Lies (F:EH) (b off:Nat) (vs:List Value):Prop:=∀ j x,vs[j]?=some x→F b (off+j)=some x
theorem Lies.mono {F F':EH} (h:Ext F F') {b off:Nat} {vs:List Value} (k:Lies F b off vs):Lies F' b off vs:=fun j x e=>h _ _ _ (k j x e)
inductive AV where
 | val (v:Value)
 | seq (m:Nat) (es:List (List AV))
 | own (u:Value) (m:Nat) (es:List (List AV))
 | agg (cs:List AV)
 | tup (vs:List AV)
 | ptr (b off:Nat)
 | cptr (cs:List AV)
 | arr (b off n cap:Nat)
 | clo (fn:Fn) (first capt:List AV)
def Ones (vs:List Value):Prop:=∀ v∈vs,v.oneCell'=true
mutual
inductive Rel (F:EH):AV→Value→Prop
 | val (v:Value):Rel F (.val v) v
 | agg {cs:List AV} {vs:List Value} (h:Rels F cs vs) (h1:Ones vs):Rel F (.agg cs) (.agg vs.toArray)
 | tup {cs:List AV} {vs:List Value} (h:Rels F cs vs):Rel F (.tup cs) (.tuple vs.toArray)
 | ptr (b off:Nat):Rel F (.ptr b off) (.pointer (some ⟨b,off,none⟩))
 | cptr {cs:List AV} {vs:List Value} (b off:Nat) (hl:Lies F b off vs) (h:Rels F cs vs) (h1:Ones vs):Rel F (.cptr cs) (.pointer (some ⟨b,off,none⟩))
 | arr (b off n cap:Nat) (hc:n≤cap):Rel F (.arr b off n cap) (.slice (some ⟨b,off,none⟩) n cap)
 | seq0 (m:Nat) (ao:Option Addr) (cap:Nat) (h:ao=none→cap=0):Rel F (.seq m []) (.slice ao 0 cap)
 | seq {m:Nat} {es:List (List AV)} {vs:List Value} (b off cap:Nat) (hm:∀ e∈es,e.length=m) (hn:es.length≤maxLen) (hl:Lies F b off vs) (h:Rels F es.flatten vs) (h1:Ones vs) (hc:es.length≤cap):Rel F (.seq m es) (.slice (some ⟨b,off,none⟩) es.length cap)
 | own (u:Value) {m:Nat} {es:List (List AV)} (h:Rel F (.seq m es) u):Rel F (.own u m es) u
 | clo (fn:Fn) {fs cs:List AV} {vf vc:List Value} (hf:Rels F fs vf) (hc:Rels F cs vc):Rel F (.clo fn fs cs) (.func fn vf.toArray vc.toArray)
inductive Rels (F:EH):List AV→List Value→Prop
 | nil:Rels F [] []
 | cons {a:AV} {v:Value} {as:List AV} {vs:List Value} (h:Rel F a v) (hs:Rels F as vs):Rels F (a::as) (v::vs)
end
mutual
theorem Rel.mono {F F':EH} (hF:Ext F F'):∀ {a:AV} {v:Value},Rel F a v→Rel F' a v
 | _,_,.val v=>.val v
 | _,_,.agg h h1=>.agg (Rels.mono hF h) h1
 | _,_,.tup h=>.tup (Rels.mono hF h)
 | _,_,.ptr b off=>.ptr b off
 | _,_,.cptr b off hl h h1=>.cptr b off (hl.mono hF) (Rels.mono hF h) h1
 | _,_,.arr b off n cap hc=>.arr b off n cap hc
 | _,_,.seq0 m ao cap h=>.seq0 m ao cap h
 | _,_,.seq b off cap hm hn hl h h1 hc=>.seq b off cap hm hn (hl.mono hF) (Rels.mono hF h) h1 hc
 | _,_,.own u h=>.own u (Rel.mono hF h)
 | _,_,.clo fn hf hc=>.clo fn (Rels.mono hF hf) (Rels.mono hF hc)
theorem Rels.mono {F F':EH} (hF:Ext F F'):∀ {a:List AV} {v:List Value},Rels F a v→Rels F' a v
 | _,_,.nil=>.nil
 | _,_,.cons h hs=>.cons (Rel.mono hF h) (Rels.mono hF hs)
end
theorem Rels.len {F:EH}:∀ {as:List AV} {vs:List Value},Rels F as vs→as.length=vs.length
 | _,_,.nil=>rfl
 | _,_,.cons _ hs=>by simp [Rels.len hs]
theorem Rels.app {F:EH}:∀ {as:List AV} {vs:List Value} {bs:List AV} {us:List Value},Rels F as vs→Rels F bs us→Rels F (as++bs) (vs++us)
 | _,_,_,_,.nil,k=>k
 | _,_,_,_,.cons h hs,k=>.cons h (Rels.app hs k)
theorem Rels.split {F:EH}:∀ {as bs:List AV} {ws:List Value},Rels F (as++bs) ws→∃ vs us,ws=vs++us∧Rels F as vs∧Rels F bs us
 | [],_,ws,h=>⟨[],ws,rfl,.nil,h⟩
 | _::_,_,_,.cons h hs=>by
  obtain ⟨vs,us,rfl,h1,h2⟩:=Rels.split hs
  exact ⟨_::vs,us,rfl,.cons h h1,h2⟩
theorem Rels.get {F:EH}:∀ {as:List AV} {vs:List Value},Rels F as vs→∀ {i:Nat} {a:AV},as[i]?=some a→∃ v,vs[i]?=some v∧Rel F a v
 | _,_,.nil,i,a,h=>by simp at h
 | _,_,.cons (v:=v) h hs,0,a,e=>by simp at e;subst e;exact ⟨v,by simp,h⟩
 | _,_,.cons h hs,i+1,a,e=>by
  simp at e
  obtain ⟨v,h1,h2⟩:=Rels.get hs e
  exact ⟨v,by simpa using h1,h2⟩
theorem Rels.drop {F:EH} {as:List AV} {vs:List Value} (h:Rels F as vs) (n:Nat):Rels F (as.drop n) (vs.drop n):=by
 induction n generalizing as vs with
 | zero=>simpa using h
 | succ n ih =>
  cases h with
  | nil=>simpa using Rels.nil
  | cons h hs=>simpa using ih hs
theorem Rels.take {F:EH} {as:List AV} {vs:List Value} (h:Rels F as vs) (n:Nat):Rels F (as.take n) (vs.take n):=by
 induction n generalizing as vs with
 | zero=>simpa using Rels.nil
 | succ n ih =>
  cases h with
  | nil=>simpa using Rels.nil
  | cons h hs=>simpa using Rels.cons h (ih hs)
theorem Rels.set {F:EH} {as:List AV} {vs:List Value} (h:Rels F as vs) (i:Nat) {a:AV} {v:Value} (k:Rel F a v):Rels F (as.set i a) (vs.set i v):=by
 induction i generalizing as vs with
 | zero=>cases h with
  | nil=>exact .nil
  | cons h hs=>exact .cons k hs
 | succ i ih=>cases h with
  | nil=>exact .nil
  | cons h hs=>exact .cons h (ih hs)
inductive Res where
 | loc (b:Nat) (cs:List AV)
 | own (e:TypeId) (m:Nat) (u:Value)
 | objp (b:Nat) (p:EH→Obj→Prop)
 | row (e:TypeId) (m:Nat) (u:Value) (es:List (List AV))
 | fact (p:EH→Prop)
abbrev Res.obj (b:Nat) (o:Obj):Res:=.objp b (fun _ o'=>o'=o)
def Res.blk:Res→Option Nat
 | .loc b _=>some b
 | .own _ _ u=>u.ownBlock
 | .objp b _=>some b
 | .row _ _ u _=>u.ownBlock
 | .fact _=>none
def Res.Ok (B:Nat) (F:EH) (w:World):Res→Prop
 | .loc b cs=>B≤b∧(∀ i,F b i=none)∧∃ vs T,w.heap[b]?=some (.cells vs.toArray T (0,0))∧Rels F cs vs∧Ones vs
 | .own e m u=>∃ n xs,w.ownsRow B e m u n xs∧∀ g i,u.ownBlock=some g→n * m≤i→F g i=none
 | .objp b p=>B≤b∧(∀ i,F b i=none)∧∃ o,w.heap[b]?=some o∧o.isCells=false∧∀ F',Ext F F'→p F' o
 | .row e m u es=>∃ xs,w.ownsRow B e m u es.length xs∧(∀ g i,u.ownBlock=some g→F g i=none)∧Rels F es.flatten xs∧Ones xs∧∀ x∈es,x.length=m
 | .fact p=>∀ F',Ext F F'→p F'
def Far (r r':Res):Prop:=r.blk=none∨r.blk≠r'.blk
theorem Far.symm {r r':Res} (h:Far r r'):Far r' r:=by
 unfold Far at *
 rcases h with h|h
 ·cases k:r'.blk with
  | none=>exact Or.inl rfl
  | some b=>right;rw [h];simp
 ·exact Or.inr (fun e=>h e.symm)
abbrev Mem:=List Res
structure Inv (B:Nat) (F:EH) (M:Mem) (w:World):Prop where
 base:B≤w.heap.size
 fix:∀ b i x,F b i=some x→w.cell? ⟨b,i,none⟩=some x
 ok:∀ r∈M,r.Ok B F w
 far:M.Pairwise Far
theorem cell_size {w:World} {b i:Nat} {x:Value} (h:w.cell? ⟨b,i,none⟩=some x):b<w.heap.size:=by
 unfold World.cell? at h
 rcases Nat.lt_or_ge b w.heap.size with k|k
 ·exact k
 ·rw [Array.getElem?_eq_none (by exact k)] at h;simp at h
theorem Inv.dom {B:Nat} {F:EH} {M:Mem} {w:World} (h:Inv B F M w) {b i:Nat} (hb:w.heap.size≤b):F b i=none:=by
 cases k:F b i with
 | none=>rfl
 | some x=>have:=cell_size (h.fix b i x k);omega
theorem Res.Ok.lt {B:Nat} {F:EH} {w:World} {r:Res} (h:r.Ok B F w) {b:Nat} (hb:r.blk=some b):b<w.heap.size:=by
 cases r with
 | loc b' cs =>
  obtain ⟨_,_,vs,T,h3,_⟩:=h
  simp [Res.blk] at hb;subst hb
  rcases Nat.lt_or_ge b' w.heap.size with k|k
  ·exact k
  ·rw [Array.getElem?_eq_none k] at h3;simp at h3
 | own e m u =>
  obtain ⟨n,xs,h1,_⟩:=h
  rcases h1.2 with ⟨rfl,_⟩|⟨g,cap,cur,rfl,_,h3,_⟩
  ·simp [Res.blk,Value.ownBlock] at hb
  ·simp [Res.blk,Value.ownBlock] at hb;subst hb
   rcases Nat.lt_or_ge g w.heap.size with k|k
   ·exact k
   ·rw [Array.getElem?_eq_none k] at h3;simp at h3
 | objp b' p =>
  simp [Res.blk] at hb;subst hb
  rcases Nat.lt_or_ge b' w.heap.size with k|k
  ·exact k
  ·obtain ⟨_,_,o,h3,_⟩:=h
   rw [Array.getElem?_eq_none k] at h3;simp at h3
 | row e m u es =>
  obtain ⟨xs,h1,_⟩:=h
  rcases h1.2 with ⟨rfl,_⟩|⟨g,cap,cur,rfl,_,h3,_⟩
  ·simp [Res.blk,Value.ownBlock] at hb
  ·simp [Res.blk,Value.ownBlock] at hb;subst hb
   rcases Nat.lt_or_ge g w.heap.size with k|k
   ·exact k
   ·rw [Array.getElem?_eq_none k] at h3;simp at h3
 | fact p=>simp [Res.blk] at hb
theorem Res.Ok.ge {B:Nat} {F:EH} {w:World} {r:Res} (h:r.Ok B F w) {b:Nat} (hb:r.blk=some b):B≤b:=by
 cases r with
 | loc b' cs=>simp [Res.blk] at hb;subst hb;exact h.1
 | own e m u =>
  obtain ⟨n,xs,h1,_⟩:=h
  rcases h1.2 with ⟨rfl,_⟩|⟨g,cap,cur,rfl,h2,_⟩
  ·simp [Res.blk,Value.ownBlock] at hb
  ·simp [Res.blk,Value.ownBlock] at hb;subst hb;exact h2
 | objp b' p=>simp [Res.blk] at hb;subst hb;exact h.1
 | row e m u es =>
  obtain ⟨xs,h1,_⟩:=h
  rcases h1.2 with ⟨rfl,_⟩|⟨g,cap,cur,rfl,h2,_⟩
  ·simp [Res.blk,Value.ownBlock] at hb
  ·simp [Res.blk,Value.ownBlock] at hb;subst hb;exact h2
 | fact p=>simp [Res.blk] at hb
theorem Res.Ok.stay {B:Nat} {F F':EH} {w w':World} {r:Res} (h:r.Ok B F w) (hF:Ext F F') (hb:∀ b,r.blk=some b→w'.heap[b]?=w.heap[b]?∧∀ i,F' b i=F b i):r.Ok B F' w':=by
 cases r with
 | loc b cs =>
  obtain ⟨h1,h2,vs,T,h3,h4,h5⟩:=h
  obtain ⟨k1,k2⟩:=hb b rfl
  exact ⟨h1,fun i=>by rw [k2 i,h2 i],vs,T,by rw [k1,h3],h4.mono hF,h5⟩
 | own e m u =>
  obtain ⟨n,xs,h1,h2⟩:=h
  refine ⟨n,xs,⟨h1.1,?_⟩,fun g i hg hi=>?_⟩
  ·rcases h1.2 with h|⟨g,cap,cur,q1,q2,q3,q4⟩
   ·exact Or.inl h
   ·refine Or.inr ⟨g,cap,cur,q1,q2,?_,q4⟩
    rw [(hb g (by rw [q1];rfl)).1];exact q3
  ·rw [(hb g hg).2 i];exact h2 g i hg hi
 | objp b p =>
  obtain ⟨h1,h2,o,h3,h4,h5⟩:=h
  obtain ⟨k1,k2⟩:=hb b rfl
  exact ⟨h1,fun i=>by rw [k2 i,h2 i],o,by rw [k1,h3],h4,fun F'' e=>h5 F'' (hF.trans e)⟩
 | row e m u es =>
  obtain ⟨xs,h1,h2,h3,h4,h5⟩:=h
  refine ⟨xs,⟨h1.1,?_⟩,fun g i hg=>?_,h3.mono hF,h4,h5⟩
  ·rcases h1.2 with h|⟨g,cap,cur,q1,q2,q3,q4⟩
   ·exact Or.inl h
   ·refine Or.inr ⟨g,cap,cur,q1,q2,?_,q4⟩
    rw [(hb g (by rw [q1];rfl)).1];exact q3
  ·rw [(hb g hg).2 i];exact h2 g i hg
 | fact p=>exact fun F'' e=>h F'' (hF.trans e)
theorem Inv.sub {B:Nat} {F:EH} {M M':Mem} {w:World} (h:Inv B F M w) (hs:M'.Sublist M):Inv B F M' w :=
 ⟨h.base,h.fix,fun r hr=>h.ok r (hs.subset hr),h.far.sublist hs⟩
theorem Inv.perm {B:Nat} {F:EH} {M M':Mem} {w:World} (h:Inv B F M w) (hp:M.Perm M'):Inv B F M' w :=
 ⟨h.base,h.fix,fun r hr=>h.ok r (hp.symm.subset hr),hp.pairwise h.far (fun h=>h.symm)⟩
theorem Inv.drew {B:Nat} {F:EH} {M:Mem} {w:World} (h:Inv B F M w):Inv B F M w.drew :=
 ⟨h.base,h.fix,fun r hr=>(h.ok r hr).stay (Ext.refl F) (fun _ _=>⟨rfl,fun _=>rfl⟩),h.far⟩
theorem Inv.objPut {B:Nat} {F:EH} {M:Mem} {w:World} {b:Nat} {p:EH→Obj→Prop} (h:Inv B F (.objp b p::M) w) (o':Obj):Inv B F M (w.putObj b o')∧Below B w (w.putObj b o')∧(o'.isCells=false→∀ p':EH→Obj→Prop,(∀ F',Ext F F'→p' F' o')→Inv B F (.objp b p'::M) (w.putObj b o')):=by
 obtain ⟨h1,h2,o,h3,h4,_⟩:=h.ok _ (List.mem_cons_self)
 have hlt:b<w.heap.size:=(h.ok _ (List.mem_cons_self)).lt (r:=.objp b p) rfl
 have hfar:=h.far
 rw [List.pairwise_cons] at hfar
 have hinv:Inv B F M (w.putObj b o'):=by
  refine ⟨by simpa using h.base,fun b' i x e=>?_,fun r hr=>?_,hfar.2⟩
  ·have hne:b'≠b:=by
    intro q;subst q;rw [h2 i] at e;simp at e
   have:=h.fix b' i x e
   unfold World.cell? at this ⊢
   rw [World.putObj_heap_other (by exact hne)]
   exact this
  ·refine (h.ok r (List.mem_cons_of_mem _ hr)).stay (Ext.refl F) (fun b' hb'=>⟨World.putObj_heap_other ?_,fun _=>rfl⟩)
   intro q;subst q
   rcases hfar.1 r hr with k|k
   ·simp [Res.blk] at k
   ·exact k hb'.symm
 refine ⟨hinv,⟨rfl,rfl,rfl,by simp,fun k hk=>World.putObj_heap_other (by omega)⟩,fun ho p' hp'=>⟨hinv.base,hinv.fix,fun r hr=>?_,?_⟩⟩
 ·rcases List.mem_cons.1 hr with rfl|hr
  ·exact ⟨h1,h2,o',World.putObj_heap_same hlt,ho,hp'⟩
  ·exact hinv.ok r hr
 ·have:=h.far
  rw [List.pairwise_cons] at this ⊢
  exact ⟨fun r hr=>this.1 r hr,this.2⟩
abbrev Sl:=List (Nat × AV)
def Slots (n:Nat) (F:EH) (al:Sl) (tmps:Array Value):Prop:=tmps.size=n∧∀ t v,al.lookup t=some v→t<n∧Rel F v (tmps.getD t undef)
def Sl.put (al:Sl) (d:Option Tmp) (v:AV):Sl:=match d with|some d=>(d,v)::al|none=>al
def Sl.ev (al:Sl):Operand→Option AV
 | .tmp t=>al.lookup t
 | .const v=>some (.val v)
 | .global g=>some (.val (.pointer (some ⟨g,0,none⟩)))
 | .func f=>some (.clo (.func f) [] [])
theorem Slots.mono {n:Nat} {F F':EH} {al:Sl} {tmps:Array Value} (h:Slots n F al tmps) (hF:Ext F F'):Slots n F' al tmps :=
 ⟨h.1,fun t v e=>⟨(h.2 t v e).1,(h.2 t v e).2.mono hF⟩⟩
theorem Slots.ev {n:Nat} {F:EH} {al:Sl} {a:Act} (h:Slots n F al a.tmps) {x:Operand} {v:AV} (e:al.ev x=some v):Rel F v (a.eval x):=by
 cases x with
 | tmp t=>exact (h.2 t v e).2
 | const u=>simp [Sl.ev] at e;subst e;exact .val u
 | global g=>simp [Sl.ev] at e;subst e;exact .val _
 | func f=>simp [Sl.ev] at e;subst e;exact .clo _ .nil .nil
theorem Slots.put {n:Nat} {F:EH} {al:Sl} {a:Act} (h:Slots n F al a.tmps) {d:Option Tmp} {v:AV} {u:Value} (hd:d.all (·<n)=true) (k:Rel F v u):Slots n F (al.put d v) (a.put d u).tmps:=by
 cases d with
 | none=>exact h
 | some d =>
  simp at hd
  refine ⟨by simp [Act.put,h.1],fun t v' e=>?_⟩
  simp only [Sl.put,List.lookup_cons] at e
  by_cases q:t=d
  ·subst q
   simp at e
   subst e
   refine ⟨hd,?_⟩
   have:t<a.tmps.size:=by rw [h.1];exact hd
   simpa [Act.put,Array.getD,this] using k
  ·have:(t == d)=false:=by simpa using q
   rw [this] at e
   refine ⟨(h.2 t v' e).1,?_⟩
   have hh:=(h.2 t v' e).2
   have e2:(a.put (some d) u).tmps.getD t undef=a.tmps.getD t undef:=by
    simp only [Act.put,Array.getD_eq_getD_getElem?,Array.getElem?_setIfInBounds]
    rw [if_neg (fun e=>q e.symm)]
   rw [e2];exact hh
def Post (n B:Nat) (F:EH) (Mf:Mem) (w:World) (ds:List Deferred) (Q:Sl→Mem→Prop) (a':Act) (w':World):Prop :=
 ∃ F' al' M',Q al' M'∧Ext F F'∧Inv B F' (M'++Mf) w'∧Slots n F' al' a'.tmps∧a'.defers=ds∧Below B w w'
theorem Post.mono {n B:Nat} {F:EH} {Mf:Mem} {w:World} {ds:List Deferred} {Q Q':Sl→Mem→Prop} (hq:∀ al M,Q al M→Q' al M) {a':Act} {w':World} (h:Post n B F Mf w ds Q a' w'):Post n B F Mf w ds Q' a' w':=by
 obtain ⟨F',al',M',h1,h2⟩:=h
 exact ⟨F',al',M',hq _ _ h1,h2⟩
theorem Post.next {n B:Nat} {F F':EH} {Mf:Mem} {w w':World} {ds:List Deferred} {Q:Sl→Mem→Prop} {a'':Act} {w'':World} (hF:Ext F F') (hb:Below B w w') (h:Post n B F' Mf w' ds Q a'' w''):Post n B F Mf w ds Q a'' w'':=by
 obtain ⟨F2,al',M',h1,h2,h3,h4,h5,h6⟩:=h
 exact ⟨F2,al',M',h1,hF.trans h2,h3,h4,h5,hb.trans h6⟩
abbrev RF (ro:Option Nat):Fence:={ Fence.wide with round:=ro }
theorem callsIn_RF {ro:Option Nat} {n:Nat} {P:Program} {f:FuncId} {args:Array Value} {w:World} {R:Ending→World→Prop}:CallsIn (RF ro) n P f args w R↔Calls P f args w R:=callsIn_wide
abbrev spent (D:Nat):Res:=.obj D (.deferred (some []))
abbrev mark (D:Nat):Deferred:={ target:=.collected D,args:=#[] }
def PostD (n B:Nat) (F:EH) (Mf:Mem) (w:World) (ds:List Deferred) (Q:Sl→Mem→Prop) (a':Act) (w':World):Prop :=
 ∃ Ds:List Nat,Post n B F (Ds.map spent++Mf) w (Ds.map mark++ds) Q a' w'
theorem Post.d {n B:Nat} {F:EH} {Mf:Mem} {w:World} {ds:List Deferred} {Q:Sl→Mem→Prop} {a':Act} {w':World} (h:Post n B F Mf w ds Q a' w'):PostD n B F Mf w ds Q a' w':=⟨[],h⟩
theorem PostD.mono {n B:Nat} {F:EH} {Mf:Mem} {w:World} {ds:List Deferred} {Q Q':Sl→Mem→Prop} (hq:∀ al M,Q al M→Q' al M) {a':Act} {w':World} (h:PostD n B F Mf w ds Q a' w'):PostD n B F Mf w ds Q' a' w':=by
 obtain ⟨Ds,h⟩:=h
 exact ⟨Ds,h.mono hq⟩
theorem PostD.next {n B:Nat} {F F':EH} {Mf:Mem} {w w':World} {ds:List Deferred} {Q:Sl→Mem→Prop} {a'':Act} {w'':World} (hF:Ext F F') (hb:Below B w w') {Ds:List Nat} (h:PostD n B F' (Ds.map spent++Mf) w' (Ds.map mark++ds) Q a'' w''):PostD n B F Mf w ds Q a'' w'':=by
 obtain ⟨Ds2,h⟩:=h
 refine ⟨Ds2++Ds,?_⟩
 rw [List.map_append,List.map_append,List.append_assoc,List.append_assoc]
 exact h.next hF hb
def OpT (P:Program) (o:Oper) (al:Sl) (M:Mem) (K:AV→Mem→Prop):Prop :=
 ∀ (n B:Nat) (F:EH) (Mf:Mem) (a:Act) (w:World),Inv B F (M++Mf) w→Slots n F al a.tmps→∀ ro:Option Nat,
  o.wpIn (RF ro) 0 P a w (fun a' w'=>∃ u v M' F',a'=a.put o.dst u∧K v M'∧Rel F' v u∧Ext F F'∧Inv B F' (M'++Mf) w'∧Below B w w') (fun _ _ _=>False)
def AOps (P:Program) (n:Nat) (ops:Array Oper) (Q:Sl→Mem→Prop) (l:List Oper) (al:Sl) (M:Mem):Prop :=
 ∀ (B:Nat) (F:EH) (Mf:Mem) (a:Act) (w:World),Inv B F (M++Mf) w→Slots n F al a.tmps→∀ ro:Option Nat,
  wpListIn (RF ro) 0 P ops (fun e a' w'=>e=.normal∧Post n B F Mf w a.defers Q a' w') l a w
def ACode (ro:Option Nat) (P:Program) (n:Nat) (c:Code) (Q:Exit→Sl→Mem→Prop) (al:Sl) (M:Mem):Prop :=
 ∀ (B:Nat) (F:EH) (Mf:Mem) (a:Act) (w:World),Inv B F (M++Mf) w→Slots n F al a.tmps →
  c.wpIn (RF ro) 0 P (fun e a' w'=>PostD n B F Mf w a.defers (Q e) a' w') a w
theorem not_defer {P:Program} {o:Oper} {ρ:Operand→Value} {w w':World} {nx:Next} (e:(execOp ρ o).run P w=.ok nx w') (h:∀ d,nx≠.defer d):∀ c,o.op≠.defer c:=by
 intro c hc
 simp only [execOp,hc,Sem.run_bind] at e
 generalize (resolve ρ c o.type).run P w=r at e
 cases r with
 | ok d w1=>simp at e;exact h d e.1.symm
 | halt x w1=>simp at e
theorem wpR_value {ro:Option Nat} {P:Program} {o:Oper} {a:Act} {w w':World} {u:Value} {K:Act→World→Prop} {Q:Exit→Act→World→Prop} (e:(execOp a.eval o).run P w=.ok (.value u) w') (h:K (a.put o.dst u) w'):o.wpIn (RF ro) 0 P a w K Q:=by
 refine ⟨fun _ _=>trivial,?_⟩
 rw [Oper.semAt_eq _ _ _ (not_defer e (by simp)),e]
 exact h
theorem wpR_skip {ro:Option Nat} {P:Program} {o:Oper} {a:Act} {w w':World} {K:Act→World→Prop} {Q:Exit→Act→World→Prop} (e:(execOp a.eval o).run P w=.ok .skip w') (h:K (a.put o.dst undef) w'):o.wpIn (RF ro) 0 P a w K Q:=by
 refine ⟨fun _ _=>trivial,?_⟩
 rw [Oper.semAt_eq _ _ _ (not_defer e (by simp)),e]
 exact h
theorem wpR_enter {ro:Option Nat} {P:Program} {o:Oper} {a:Act} {w w':World} {f:FuncId} {args:Array Value} {K:Act→World→Prop} {Q:Exit→Act→World→Prop} (e:(execOp a.eval o).run P w=.ok (.enter f args) w')
    (h:Calls P f args w' fun e w''=>∃ v,e=.returned v∧K (a.put o.dst v) w''):o.wpIn (RF ro) 0 P a w K Q:=by
 refine ⟨fun _ _=>trivial,?_⟩
 rw [Oper.semAt_eq _ _ _ (not_defer e (by simp)),e]
 refine ⟨fun q=>by simp [Fence.wide] at q,(callsIn_RF.2 h).mono ?_⟩
 rintro e w'' ⟨v,rfl,hk⟩
 exact hk
theorem wp_exits {ro:Option Nat} {P:Program} {o:Oper} {a:Act} {w:World} {K:Act→World→Prop} {Q:Exit→Act→World→Prop} (h:o.wpIn (RF ro) 0 P a w K (fun _ _ _=>False)):o.wpIn (RF ro) 0 P a w K Q:=by
 unfold Oper.wpIn at *
 refine ⟨h.1,?_⟩
 have h:=h.2
 generalize (o.semAt (RF ro).round a.eval).run P w=r at *
 cases r with
 | ok n w' =>
  cases n <;> simp only [Oper.uponIn] at h ⊢ <;> first
   | exact h
   | exact ⟨h.1,CallsIn.mono h.2 (fun e w'' he=>by
       cases e with
       | returned v=>exact he
       | panicked c=>exact he.elim
       | outgrown=>obtain ⟨_,_,hf⟩:=he;exact hf.elim)⟩
   | exact ⟨h.1,RoundIn.mono h.2 (fun e w'' he=>by
       cases e with
       | returned v=>exact he
       | panicked c=>exact he.elim
       | outgrown=>obtain ⟨_,_,hf⟩:=he;exact hf.elim)⟩
 | halt x w'=>cases x <;> simp only [Oper.uponIn] at h
theorem wpR_norm {ro:Option Nat} {P:Program} {ops:Array Oper} {Q Q':Exit→Act→World→Prop} (hn:∀ e a w,Q e a w→e=.normal) (hq:∀ a w,Q .normal a w→Q' .normal a w):∀ (l:List Oper) (a:Act) (w:World),wpListIn (RF ro) 0 P ops Q l a w→wpListIn (RF ro) 0 P ops Q' l a w
 | [],a,w,h=>hq a w h
 | o::l,a,w,h=>by
  unfold wpListIn at h ⊢
  split
  ·rename_i hw
   rw [if_pos hw] at h
   have h2:o.wpIn (RF ro) 0 P a w (wpListIn (RF ro) 0 P ops Q' l) Q:=Oper.wpIn_mono (fun a w h=>wpR_norm hn hq l a w h) h
   have h3:o.wpIn (RF ro) 0 P a w (wpListIn (RF ro) 0 P ops Q' l) (fun _ _ _=>False):=by
    unfold Oper.wpIn at *
    refine ⟨h2.1,?_⟩
    have h2:=h2.2
    generalize (o.semAt (RF ro).round a.eval).run P w=r at *
    cases r with
    | ok nx w2 =>
     cases nx <;> simp only [Oper.uponIn] at h2 ⊢ <;> first
      | exact h2
      | exact ⟨h2.1,CallsIn.mono h2.2 (fun e w'' he=>by
          cases e with
          | returned v=>exact he
          | panicked c=>exact absurd (hn _ _ _ he) (by simp)
          | outgrown=>obtain ⟨_,_,hf⟩:=he;exact absurd (hn _ _ _ hf) (by simp))⟩
      | exact ⟨h2.1,RoundIn.mono h2.2 (fun e w'' he=>by
          cases e with
          | returned v=>exact he
          | panicked c=>exact absurd (hn _ _ _ he) (by simp)
          | outgrown=>obtain ⟨_,_,hf⟩:=he;exact absurd (hn _ _ _ hf) (by simp))⟩
    | halt x w2=>cases x <;> simp only [Oper.uponIn] at h2 ⊢ <;> first
     | exact h2
     | exact absurd (hn _ _ _ h2) (by simp)
   exact wp_exits h3
  ·rename_i hw
   rw [if_neg hw] at h
   exact ⟨h.1,wpR_norm hn hq l _ _ h.2⟩
theorem put_defers (a:Act) (d:Option Tmp) (u:Value):(a.put d u).defers=a.defers:=by cases d <;> rfl
theorem AOps.nil {P:Program} {n:Nat} {ops:Array Oper} {Q:Sl→Mem→Prop} {al:Sl} {M:Mem} (h:Q al M):AOps P n ops Q [] al M:=by
 intro B F Mf a w hi hs ro
 exact wpListIn_nil ⟨rfl,F,al,M,h,Ext.refl F,hi,hs,rfl,Below.refl _ _⟩
theorem AOps.step {P:Program} {n:Nat} {ops:Array Oper} {Q:Sl→Mem→Prop} {al:Sl} {M:Mem} {o:Oper} {rest:List Oper} (hg:o.guard=none) (hd:o.dst.all (·<n)=true)
    (h:OpT P o al M (fun v M'=>AOps P n ops Q rest (al.put o.dst v) M')):AOps P n ops Q (o::rest) al M:=by
 intro B F Mf a w hi hs ro
 refine wpListIn_plain hg fun K hK=>?_
 refine wp_exits (Oper.wpIn_mono ?_ (h n B F Mf a w hi hs ro))
 rintro a' w' ⟨u,v,M',F',rfl,hk,hr,hF,hi',hb⟩
 refine hK _ _ ?_
 have:=hk B F' Mf (a.put o.dst u) w' hi' ((hs.mono hF).put hd hr) ro
 rw [put_defers] at this
 exact wpR_norm (fun e a w h=>h.1) (fun a w h=>⟨h.1,h.2.next hF hb⟩) _ _ _ this
theorem AOps.guard {P:Program} {n:Nat} {ops:Array Oper} {Q:Sl→Mem→Prop} {al:Sl} {M:Mem} {o:Oper} {rest:List Oper} {j:Nat} {b c:Bool} {t:Tmp} (hg:o.guard=some (j,b)) (hj:(ops[j]?).bind (·.dst)=some t) (hd:o.dst.all (·<n)=true)
    (hc:al.lookup t=some (.val (.bool c)))
    (h1:c=b→AOps P n ops Q ({ o with guard:=none }::rest) al M) (h2:c = !b→AOps P n ops Q rest (al.put o.dst (.val undef)) M):AOps P n ops Q (o::rest) al M:=by
 intro B F Mf a w hi hs ro
 have hr:=hs.2 t _ hc
 have hv:a.tmps[t]?=some (.bool c):=by
  have h3:=hr.2
  have h4:t<a.tmps.size:=by rw [hs.1];exact hr.1
  generalize hx:a.tmps.getD t undef=x at h3
  cases h3
  rw [Array.getElem?_eq_getElem h4]
  simpa [Array.getD,h4] using hx
 have hw:Region.wanted o (yielded ops a.tmps)=(some c == some b):=by
  simp only [Region.wanted,hg,yielded,hj,Option.bind_some,hv]
 by_cases e:c=b
 ·have k:=h1 e B F Mf a w hi hs ro
  unfold wpListIn at k ⊢
  rw [if_pos (by simp [Region.wanted])] at k
  rw [if_pos (by rw [hw,e];simp)]
  exact k
 ·have e':c = !b:=by cases c <;> cases b <;> simp at e ⊢
  unfold wpListIn
  rw [if_neg (by rw [hw];simpa using e)]
  exact ⟨fun _ _=>trivial,by have:=h2 e' B F Mf (a.put o.dst undef) w hi (hs.put hd (.val _)) ro;rwa [put_defers] at this⟩
theorem AOps.unguard {P:Program} {n:Nat} {ops:Array Oper} {Q:Sl→Mem→Prop} {al:Sl} {M:Mem} {o:Oper} {rest:List Oper} {j:Nat} {b:Bool} {t:Tmp} (hg:o.guard=some (j,b)) (hj:(ops[j]?).bind (·.dst)=some t) (hd:o.dst.all (·<n)=true)
    (hc:al.lookup t=some (.val undef))
    (h2:AOps P n ops Q rest (al.put o.dst (.val undef)) M):AOps P n ops Q (o::rest) al M:=by
 intro B F Mf a w hi hs ro
 have hr:=hs.2 t _ hc
 have hv:a.tmps[t]?=some undef:=by
  have h3:=hr.2
  have h4:t<a.tmps.size:=by rw [hs.1];exact hr.1
  generalize hx:a.tmps.getD t undef=x at h3
  cases h3
  rw [Array.getElem?_eq_getElem h4]
  simpa [Array.getD,h4] using hx
 unfold wpListIn
 rw [if_neg (by simp [Region.wanted,hg,yielded,hj,hv,undef])]
 exact ⟨fun _ _=>trivial,by have:=h2 B F Mf (a.put o.dst undef) w hi (hs.put hd (.val _)) ro;rwa [put_defers] at this⟩
section code
variable {ro:Option Nat} {P:Program} {n:Nat} {Q:Exit→Sl→Mem→Prop} {al:Sl} {M:Mem}
theorem ACode.mono {c:Code} {Q':Exit→Sl→Mem→Prop} (h:ACode ro P n c Q al M) (hq:∀ e al M,Q e al M→Q' e al M):ACode ro P n c Q' al M:=by
 intro B F Mf a w hi hs
 exact Code.wpIn_mono (fun e a w hp=>hp.mono (hq e)) (h B F Mf a w hi hs)
theorem ACode.region {id:Nat} {l:List Oper} (h:AOps P n l.toArray (Q .normal) l al M):ACode ro P n (.region id l.toArray false) Q al M:=by
 intro B F Mf a w hi hs
 refine wpIn_region_lit ?_
 exact wpR_norm (fun e a w h=>h.1) (fun a w h=>h.2.d) _ _ _ (h B F Mf a w hi hs ro)
theorem ACode.skip (h:Q .normal al M):ACode ro P n .skip Q al M:=fun _ F _ _ _ hi hs=>wpIn_skip ⟨[],F,al,M,h,Ext.refl F,hi,hs,rfl,Below.refl _ _⟩
theorem ACode.label {l:Nat} (h:Q .normal al M):ACode ro P n (.label l) Q al M:=fun _ F _ _ _ hi hs=>wpIn_label ⟨[],F,al,M,h,Ext.refl F,hi,hs,rfl,Below.refl _ _⟩
theorem ACode.exit {id:Nat} (h:Q (.exit id) al M):ACode ro P n (.exit id) Q al M:=fun _ F _ _ _ hi hs=>wpIn_exit ⟨[],F,al,M,h,Ext.refl F,hi,hs,rfl,Below.refl _ _⟩
theorem ACode.ret (h:Q .ret al M):ACode ro P n .ret Q al M:=fun _ F _ _ _ hi hs=>wpIn_ret ⟨[],F,al,M,h,Ext.refl F,hi,hs,rfl,Below.refl _ _⟩
def Then (K:Sl→Mem→Prop) (Q:Exit→Sl→Mem→Prop):Exit→Sl→Mem→Prop
 | .normal,al,M=>K al M
 | e,al,M=>Q e al M
theorem ACode.seq {x y:Code} (h:ACode ro P n x (Then (ACode ro P n y Q) Q) al M):ACode ro P n (.seq x y) Q al M:=by
 intro B F Mf a w hi hs
 refine wpIn_seq (Code.wpIn_mono (fun e a' w' hp=>?_) (h B F Mf a w hi hs))
 cases e with
 | normal =>
  obtain ⟨Ds,F',al',M',h1,h2,h3,h4,h5,h6⟩:=hp
  exact Code.wpIn_mono (fun e a'' w'' hp=>PostD.next h2 h6 (by rw [← h5];exact hp)) (h1 B F' _ a' w' h3 h4)
 | exit id=>exact hp
 | goto l=>exact hp
 | ret=>exact hp
 | panic c=>exact hp
 | outgrown=>exact hp
theorem ACode.cond {c:Operand} {x y:Code} {b:Bool} (hc:al.ev c=some (.val (.bool b))) (h1:b=true→ACode ro P n x Q al M) (h2:b=false→ACode ro P n y Q al M):ACode ro P n (.cond c x y) Q al M:=by
 intro B F Mf a w hi hs
 have hr:=hs.ev hc
 generalize hv:a.eval c=v at hr
 cases hr
 refine wpIn_cond hv ?_
 cases b
 ·exact h2 rfl B F Mf a w hi hs
 ·exact h1 rfl B F Mf a w hi hs
def InBlk (id:Nat) (Q:Exit→Sl→Mem→Prop):Exit→Sl→Mem→Prop
 | .exit i,al,M=>if i=id then Q .normal al M else Q (.exit i) al M
 | e,al,M=>Q e al M
theorem ACode.block {id:Nat} {c:Code} (h:ACode ro P n c (InBlk id Q) al M):ACode ro P n (.block id c) Q al M:=by
 intro B F Mf a w hi hs
 refine wpIn_block (Code.wpIn_mono (fun e a' w' hp=>?_) (h B F Mf a w hi hs))
 cases e with
 | exit i =>
  simp only [Exit.inBlock]
  by_cases e:i=id
  ·subst e
   rw [if_pos rfl]
   exact hp.mono (fun al M h=>by simpa [InBlk] using h)
  ·rw [if_neg e]
   exact hp.mono (fun al M h=>by simpa [InBlk,e] using h)
 | normal=>exact hp
 | goto l=>exact hp
 | ret=>exact hp
 | panic c=>exact hp
 | outgrown=>exact hp
theorem ACode.loop {c:Code} {σ:Type} (I:σ→Sl→Mem→Prop) (μ:σ→Nat) (x0:σ) (h0:I x0 al M)
    (h:∀ x al M,I x al M→ACode ro P n c (Then (fun al' M'=>∃ x',I x' al' M'∧μ x'<μ x) Q) al M):ACode ro P n (.loop c) Q al M:=by
 intro B F Mf a w hi hs b k cs hro hbf hrm
 have key:∀ m x F' Ds al' M' a' w',μ x=m→I x al' M'→Ext F F'→Inv B F' (M'++(List.map spent Ds++Mf)) w'→Slots n F' al' a'.tmps→a'.defers=Ds.map mark++a.defers→Below B w w' →
     ∃ e a2 w2,PostD n B F Mf w a.defers (Q e) a2 w2∧ArrivesIn (Machine.fenced P (RF ro)) P (lone (b.atR a' (.code c::.inLoop c::k)) cs w') b k cs e a2 w2:=by
  intro m
  induction m using Nat.strongRecOn with
  | _ m ih =>
   intro x F' Ds al' M' a' w' hm hI hF hi' hs' hd' hb'
   obtain ⟨e,a1,w1,hq,harr⟩:=h x al' M' hI B F' _ a' w' hi' hs' b (.inLoop c::k) cs hro hbf hrm
   rw [hd'] at hq
   cases e with
   | normal =>
    obtain ⟨D2,F2,al2,M2,⟨x',hI2,hlt⟩,h2,h3,h4,h5,h6⟩:=hq
    obtain ⟨e2,a2,w2,hq2,harr2⟩:=ih (μ x') (by omega) x' F2 (D2++Ds) al2 M2 a1 w1 rfl hI2 (hF.trans h2) (by rw [List.map_append,List.append_assoc];exact h3) h4 (by rw [List.map_append,List.append_assoc];exact h5) (hb'.trans h6)
    exact ⟨e2,a2,w2,hq2,.of_steps (StepsIn.trans harr (.one (fenced_calm hbf hrm rfl) stepR_inLoop)) harr2⟩
   | exit id=>exact ⟨_,a1,w1,PostD.next hF hb' hq,.pass (x:=.inLoop c) rfl (fun _ _=>.inl (by simp)) harr⟩
   | goto l=>exact ⟨_,a1,w1,PostD.next hF hb' hq,.pass (x:=.inLoop c) rfl (fun _ _=>.inl (by simp)) harr⟩
   | ret=>exact ⟨_,a1,w1,PostD.next hF hb' hq,.pass (x:=.inLoop c) rfl (fun _ _=>.inl (by simp)) harr⟩
   | panic ch=>exact ⟨_,a1,w1,PostD.next hF hb' hq,.pass (x:=.inLoop c) rfl (fun _ _=>.inl (by simp)) harr⟩
   | outgrown=>exact ⟨_,a1,w1,PostD.next hF hb' hq,.pass (x:=.inLoop c) rfl (fun _ _=>.inl (by simp)) harr⟩
 obtain ⟨e,a2,w2,hq,harr⟩:=key _ x0 F [] al M a w rfl h0 (Ext.refl F) hi hs rfl (Below.refl _ _)
 exact ⟨e,a2,w2,hq,.of_steps (.one (fenced_calm hbf hrm rfl) stepR_loop) harr⟩
end code
section
variable {P:Program} {al:Sl} {M:Mem} {K:AV→Mem→Prop} {o:Oper}
theorem OpT.plain (h:∀ (n B:Nat) (F:EH) (Mf:Mem) (a:Act) (w:World),Inv B F (M++Mf) w→Slots n F al a.tmps→∃ u v,(execOp a.eval o).run P w=.ok (.value u) w∧K v M∧Rel F v u):OpT P o al M K:=by
 intro n B F Mf a w hi hs ro
 obtain ⟨u,v,h1,h2,h3⟩:=h n B F Mf a w hi hs
 exact wpR_value h1 ⟨u,v,M,F,rfl,h2,h3,Ext.refl F,hi,Below.refl _ _⟩
theorem op_move {x:Operand} {v:AV} (ho:o.op=.move x) (hx:al.ev x=some v) (k:K v M):OpT P o al M K :=
 OpT.plain fun n B F Mf a w hi hs=>⟨a.eval x,v,by simp [execOp,ho],k,hs.ev hx⟩
theorem op_assign {x:Operand} {v:AV} (ho:o.op=.assign x) (hx:al.ev x=some v) (k:K v M):OpT P o al M K :=
 OpT.plain fun n B F Mf a w hi hs=>⟨a.eval x,v,by simp [execOp,ho],k,hs.ev hx⟩
theorem ev_val {n:Nat} {F:EH} {a:Act} (hs:Slots n F al a.tmps) {x:Operand} {v:Value} (hx:al.ev x=some (.val v)):a.eval x=v:=by
 have h:=hs.ev hx
 generalize a.eval x=u at h
 cases h;rfl
theorem op_pick {c x y:Operand} {v:AV} {b:Bool} (ho:o.op=.pick c x y) (hc:al.ev c=some (.val (.bool b))) (hx:al.ev (if b then x else y)=some v) (k:K v M):OpT P o al M K :=
 OpT.plain fun n B F Mf a w hi hs=>⟨a.eval (if b then x else y),v,by
  have h:=ev_val hs hc
  cases b <;> simp [execOp,ho,h,asBool],k,hs.ev hx⟩
theorem Zf {op:BinOp} {t:TypeId} {x y:Operand} {k k':IntKind} {a b:Int} {w:World}:(eqGuard op t x y (.int k a) (.int k' b)).run P w=.ok () w:=by
 unfold eqGuard;split <;> simp
theorem eqGuard_str {op:BinOp} {t:TypeId} {x y:Operand} {a b:ByteArray} {w:World}:(eqGuard op t x y (.string a) (.string b)).run P w=.ok () w:=by
 unfold eqGuard;split <;> simp
theorem eqGuard_boo {op:BinOp} {t:TypeId} {x y:Operand} {a b:Bool} {w:World}:(eqGuard op t x y (.bool a) (.bool b)).run P w=.ok () w:=by
 unfold eqGuard;split <;> simp
theorem op_add {x y:Operand} {t t':TypeId} {k:IntKind} {a b r:Int} (ho:o.op=.binOp .add t x y t') (hx:al.ev x=some (.val (.int k a))) (hy:al.ev y=some (.val (.int k b))) (hr:k.wrap (a+b)=r) (q:K (.val (.int k r)) M):OpT P o al M K :=
 OpT.plain fun n B F Mf ac w hi hs=>⟨.int k (k.wrap (a+b)),.val (.int k (k.wrap (a+b))),by simp [execOp,ho,ev_val hs hx,ev_val hs hy,Zf,binOp,Op.intArith],by rw [hr];exact q,.val _⟩
theorem op_sub {x y:Operand} {t t':TypeId} {k:IntKind} {a b r:Int} (ho:o.op=.binOp .sub t x y t') (hx:al.ev x=some (.val (.int k a))) (hy:al.ev y=some (.val (.int k b))) (hr:k.wrap (a - b)=r) (q:K (.val (.int k r)) M):OpT P o al M K :=
 OpT.plain fun n B F Mf ac w hi hs=>⟨.int k (k.wrap (a - b)),.val (.int k (k.wrap (a - b))),by simp [execOp,ho,ev_val hs hx,ev_val hs hy,Zf,binOp,Op.intArith],by rw [hr];exact q,.val _⟩
theorem op_lss {x y:Operand} {t t':TypeId} {k:IntKind} {a b:Int} (ho:o.op=.binOp .lss t x y t') (hx:al.ev x=some (.val (.int k a))) (hy:al.ev y=some (.val (.int k b))) (q:∀ c:Bool,(c=true↔a<b)→K (.val (.bool c)) M):OpT P o al M K :=
 OpT.plain fun n B F Mf ac w hi hs=>⟨_,_,by simp [execOp,ho,ev_val hs hx,ev_val hs hy,Zf,binOp,Op.intCmp],q (decide (a<b)) (by simp),.val _⟩
theorem op_leq {x y:Operand} {t t':TypeId} {k:IntKind} {a b:Int} (ho:o.op=.binOp .leq t x y t') (hx:al.ev x=some (.val (.int k a))) (hy:al.ev y=some (.val (.int k b))) (q:∀ c:Bool,(c=true↔a≤b)→K (.val (.bool c)) M):OpT P o al M K :=
 OpT.plain fun n B F Mf ac w hi hs=>⟨_,_,by simp [execOp,ho,ev_val hs hx,ev_val hs hy,Zf,binOp,Op.intCmp],q (decide (a≤b)) (by simp),.val _⟩
theorem op_gtr {x y:Operand} {t t':TypeId} {k:IntKind} {a b:Int} (ho:o.op=.binOp .gtr t x y t') (hx:al.ev x=some (.val (.int k a))) (hy:al.ev y=some (.val (.int k b))) (q:∀ c:Bool,(c=true↔b<a)→K (.val (.bool c)) M):OpT P o al M K :=
 OpT.plain fun n B F Mf ac w hi hs=>⟨_,_,by simp [execOp,ho,ev_val hs hx,ev_val hs hy,Zf,binOp,Op.intCmp],q (decide (b<a)) (by simp),.val _⟩
theorem op_geq {x y:Operand} {t t':TypeId} {k:IntKind} {a b:Int} (ho:o.op=.binOp .geq t x y t') (hx:al.ev x=some (.val (.int k a))) (hy:al.ev y=some (.val (.int k b))) (q:∀ c:Bool,(c=true↔b≤a)→K (.val (.bool c)) M):OpT P o al M K :=
 OpT.plain fun n B F Mf ac w hi hs=>⟨_,_,by simp [execOp,ho,ev_val hs hx,ev_val hs hy,Zf,binOp,Op.intCmp],q (decide (b≤a)) (by simp),.val _⟩
theorem op_eql {x y:Operand} {t t':TypeId} {k:IntKind} {a b:Int} (ho:o.op=.binOp .eql t x y t') (hx:al.ev x=some (.val (.int k a))) (hy:al.ev y=some (.val (.int k b))) (q:∀ c:Bool,(c=true↔a=b)→K (.val (.bool c)) M):OpT P o al M K :=
 OpT.plain fun n B F Mf ac w hi hs=>⟨_,_,by simp [execOp,ho,ev_val hs hx,ev_val hs hy,Zf,binOp,Op.intCmp],q (a == b) (by simp),.val _⟩
theorem op_neq {x y:Operand} {t t':TypeId} {k:IntKind} {a b:Int} (ho:o.op=.binOp .neq t x y t') (hx:al.ev x=some (.val (.int k a))) (hy:al.ev y=some (.val (.int k b))) (q:∀ c:Bool,(c=true↔a≠b)→K (.val (.bool c)) M):OpT P o al M K :=
 OpT.plain fun n B F Mf ac w hi hs=>⟨_,_,by simp [execOp,ho,ev_val hs hx,ev_val hs hy,Zf,binOp,Op.intCmp],q (a != b) (by simp),.val _⟩
theorem ba_eq {a b:ByteArray} (h:a.toList=b.toList):a=b:=by
 rw [ByteArray.toList_eq,ByteArray.toList_eq] at h
 obtain ⟨⟨a⟩⟩:=a
 obtain ⟨⟨b⟩⟩:=b
 simpa using h
theorem op_seql {x y:Operand} {t t':TypeId} {a b:ByteArray} (ho:o.op=.binOp .eql t x y t') (hx:al.ev x=some (.val (.string a))) (hy:al.ev y=some (.val (.string b))) (q:∀ c:Bool,(c=true↔a=b)→K (.val (.bool c)) M):OpT P o al M K :=
 OpT.plain fun n B F Mf ac w hi hs=>⟨_,_,by simp [execOp,ho,ev_val hs hx,ev_val hs hy,eqGuard_str,binOp,Op.stringOp],q (a.toList == b.toList) (by simp;exact ⟨ba_eq,fun h=>by rw [h]⟩),.val _⟩
theorem equal_boo {t:TypeId} (ht:P.underlying t=some .bool) (a b:Bool) (w:World):(Op.equal t (.bool a) (.bool b)).run P w=.ok (a == b) w:=by
 unfold Op.equal
 have:Op.maxDepth=9999+1:=rfl
 rw [this,Op.equalIn]
 simp only [Sem.run_bind,underlying,run_program,Result.andThen_ok,ht,Sem.run_pure]
theorem op_not {x:Operand} {t:TypeId} {b:Bool} (ho:o.op=.unOp .not t x) (hx:al.ev x=some (.val (.bool b))) (q:K (.val (.bool (!b))) M):OpT P o al M K :=
 OpT.plain fun n B F Mf ac w hi hs=>⟨_,_,by simp [execOp,ho,ev_val hs hx,Op.unary],q,.val _⟩
theorem op_extract {x:Operand} {i:Nat} {vs:List AV} {v:AV} (ho:o.op=.extract x i) (hx:al.ev x=some (.tup vs)) (hv:vs[i]?=some v) (q:K v M):OpT P o al M K :=
 OpT.plain fun n B F Mf ac w hi hs=>by
  have h:=hs.ev hx
  generalize he:ac.eval x=u at h
  cases h with
  | tup h =>
   obtain ⟨u,h1,h2⟩:=h.get hv
   refine ⟨u,v,?_,q,h2⟩
   simp [execOp,ho,he,Instr.extract,h1]
def tyAgg (P:Program) (t:TypeId):Option (Option Nat) :=
 match P.underlying t,P.info? t with
 | some (.struct _),some i=>some (some i.size)
 | some (.array _ _),some i=>some (some i.size)
 | some _,some i=>if i.size=1 then some none else none
 | _,_=>none
theorem tyAgg_some {t:TypeId} {s:Nat} (h:tyAgg P t=some (some s)) (w:World):(isAgg t).run P w=.ok true w∧(sizeOf t).run P w=.ok s w:=by
 unfold tyAgg at h
 split at h <;> first|(simp at h;done)|skip
 ·rename_i i hu hi
  simp at h;subst h
  simp [isAgg,underlying,hu,sizeOf,typeInfo,hi]
 ·rename_i i hu hi
  simp at h;subst h
  simp [isAgg,underlying,hu,sizeOf,typeInfo,hi]
theorem tyAgg_none {t:TypeId} (h:tyAgg P t=some none) (w:World):(isAgg t).run P w=.ok false w∧(sizeOf t).run P w=.ok 1 w:=by
 unfold tyAgg at h
 split at h <;> first|(simp at h;done)|skip
 rename_i d i hu hi h1 h2
 split at h
 ·rename_i hsz
  constructor
  ·unfold isAgg
   simp only [underlying,Sem.run_bind,run_program,Result.andThen_ok,h1]
   cases d <;> first|(rename_i x;exact absurd rfl (hu x))|(rename_i x y;exact absurd rfl (hi x y))|simp
  ·simp [sizeOf,typeInfo,h2,hsz]
 ·simp at h
theorem loadCells_run {w:World} {b off:Nat} {vs:List Value} (h:∀ j x,vs[j]?=some x→w.cell? ⟨b,off+j,none⟩=some x):(loadCells ⟨b,off,none⟩ vs.length).run P w=.ok vs.toArray w:=by
 have key:∀ (us:List Value) (i:Nat) (acc:Array Value),(∀ j x,us[j]?=some x→w.cell? ⟨b,off+(i+j),none⟩=some x)→(loadCellsFrom ⟨b,off,none⟩ i us.length acc).run P w=.ok (acc++us.toArray) w:=by
  intro us
  induction us with
  | nil=>intro i acc _;simp [loadCellsFrom]
  | cons u us ih =>
   intro i acc h
   have h0:=h 0 u (by simp)
   have e:(⟨b,off,none⟩:Addr).add i=⟨b,off+i,none⟩:=by unfold Addr.add;split <;> simp_all
   simp only [List.length_cons,loadCellsFrom,Sem.run_bind,run_load,e,Nat.add_zero] at h0 ⊢
   rw [h0]
   simp only [Result.andThen_ok]
   rw [ih (i+1) (acc.push u) (fun j x hx=>by
    have:=h (j+1) x (by simpa using hx)
    rwa [show i+(j+1)=i+1+j from by omega] at this)]
   simp
 have:=key vs 0 #[] (fun j x hx=>by simpa using h j x hx)
 simpa [loadCells] using this
theorem op_load_c {x:Operand} {t:TypeId} {s:Nat} {cs cs':List AV} (ho:o.op=.load t x) (ht:tyAgg P t=some (some s)) (hx:al.ev x=some (.cptr cs)) (hc:cs.take s=cs') (hl:cs'.length=s) (q:K (.agg cs') M):OpT P o al M K :=
 OpT.plain fun n B F Mf ac w hi hs=>by
  have h:=hs.ev hx
  generalize he:ac.eval x=u at h
  cases h with
  | cptr b off hlies h h1 =>
   rename_i vs
   have hr:=h.take s
   rw [hc] at hr
   have hln:=hr.len
   rw [hl] at hln
   refine ⟨.agg (vs.take s).toArray,_,?_,q,.agg hr (fun v hv=>h1 v (List.mem_of_mem_take hv))⟩
   have hcell:∀ j x,(vs.take s)[j]?=some x→w.cell? ⟨b,off+j,none⟩=some x:=by
    intro j x hx
    refine hi.fix _ _ _ (hlies j x ?_)
    rw [List.getElem?_take] at hx
    split at hx
    ·exact hx
    ·simp at hx
   have hload:=loadCells_run (P:=P) hcell
   rw [← hln] at hload
   obtain ⟨a1,a2⟩:=tyAgg_some ht w
   simp [execOp,ho,he,Instr.loadAt,Instr.sureAddr,loadVar,a1,a2,hload]
theorem op_load_c1 {x:Operand} {t:TypeId} {c:AV} {cs:List AV} (ho:o.op=.load t x) (ht:tyAgg P t=some none) (hx:al.ev x=some (.cptr cs)) (hc:cs[0]?=some c) (q:K c M):OpT P o al M K :=
 OpT.plain fun n B F Mf ac w hi hs=>by
  have h:=hs.ev hx
  generalize he:ac.eval x=u at h
  cases h with
  | cptr b off hlies h h1 =>
   obtain ⟨v,h2,h3⟩:=h.get hc
   refine ⟨v,c,?_,q,h3⟩
   have hcell:=hi.fix _ _ _ (hlies 0 v h2)
   obtain ⟨a1,a2⟩:=tyAgg_none ht w
   simp only [Nat.add_zero] at hcell
   simp [execOp,ho,he,Instr.loadAt,Instr.sureAddr,loadVar,a1,hcell]
theorem Inv.loc {B:Nat} {F:EH} {Mf:Mem} {w:World} (hi:Inv B F (M++Mf) w) {b:Nat} {cs:List AV} {i:Nat} (hm:M[i]?=some (.loc b cs)) :
    B≤b∧(∀ i,F b i=none)∧∃ vs T,w.heap[b]?=some (.cells vs.toArray T (0,0))∧Rels F cs vs∧Ones vs :=
 hi.ok (.loc b cs) (List.mem_append_left _ (List.mem_of_getElem? hm))
theorem cell_block {w:World} {b:Nat} {vs:List Value} {T:TypeId} {f:Nat × Nat} (h:w.heap[b]?=some (.cells vs.toArray T f)) (j:Nat):w.cell? ⟨b,j,none⟩=vs[j]?:=by
 unfold World.cell?
 simp [h]
theorem op_load_m {x:Operand} {t:TypeId} {s b off i:Nat} {cs cs':List AV} (ho:o.op=.load t x) (ht:tyAgg P t=some (some s)) (hx:al.ev x=some (.ptr b off)) (hm:M[i]?=some (.loc b cs)) (hc:(cs.drop off).take s=cs') (hl:cs'.length=s) (q:K (.agg cs') M):OpT P o al M K :=
 OpT.plain fun n B F Mf ac w hi hs=>by
  have h:=hs.ev hx
  generalize he:ac.eval x=u at h
  cases h with
  | ptr =>
   obtain ⟨_,_,vs,T,hb,hr0,h1⟩:=hi.loc hm
   have hr:=(hr0.drop off).take s
   rw [hc] at hr
   have hln:=hr.len
   rw [hl] at hln
   refine ⟨.agg ((vs.drop off).take s).toArray,_,?_,q,.agg hr (fun v hv=>h1 v (List.mem_of_mem_drop (List.mem_of_mem_take hv)))⟩
   have hcell:∀ j x,((vs.drop off).take s)[j]?=some x→w.cell? ⟨b,off+j,none⟩=some x:=by
    intro j x hx
    rw [cell_block hb]
    rw [List.getElem?_take] at hx
    split at hx
    ·rwa [List.getElem?_drop] at hx
    ·simp at hx
   have hload:=loadCells_run (P:=P) hcell
   rw [← hln] at hload
   obtain ⟨a1,a2⟩:=tyAgg_some ht w
   simp [execOp,ho,he,Instr.loadAt,Instr.sureAddr,loadVar,a1,a2,hload]
theorem op_load_m1 {x:Operand} {t:TypeId} {b off i:Nat} {c:AV} {cs:List AV} (ho:o.op=.load t x) (ht:tyAgg P t=some none) (hx:al.ev x=some (.ptr b off)) (hm:M[i]?=some (.loc b cs)) (hc:cs[off]?=some c) (q:K c M):OpT P o al M K :=
 OpT.plain fun n B F Mf ac w hi hs=>by
  have h:=hs.ev hx
  generalize he:ac.eval x=u at h
  cases h with
  | ptr =>
   obtain ⟨_,_,vs,T,hb,hr0,h1⟩:=hi.loc hm
   obtain ⟨v,h2,h3⟩:=hr0.get hc
   refine ⟨v,c,?_,q,h3⟩
   have hcell:=cell_block hb off
   rw [h2] at hcell
   obtain ⟨a1,a2⟩:=tyAgg_none ht w
   simp [execOp,ho,he,Instr.loadAt,Instr.sureAddr,loadVar,a1,hcell]
def tyFld (P:Program) (t:TypeId) (f:Nat):Option Nat :=
 match P.underlying t with
 | some (.struct fs)=>match fs[f]? with
  | some g=>match P.info? g.type with
   | some i=>if i.size=0 then none else some g.offset
   | none=>none
  | none=>none
 | _=>none
theorem tyFld_run {t:TypeId} {f off:Nat} (h:tyFld P t f=some off) (b o':Nat) (w:World):(Instr.fieldAt t (.pointer (some ⟨b,o',none⟩)) f).run P w=.ok (.pointer (some ⟨b,o'+off,none⟩)) w:=by
 unfold tyFld at h
 split at h <;> first|(simp at h;done)|skip
 rename_i fs hu
 split at h <;> first|(simp at h;done)|skip
 rename_i g hg
 split at h <;> first|(simp at h;done)|skip
 rename_i i hi
 split at h <;> first|(simp at h;done)|skip
 rename_i hz
 simp at h
 subst h
 have e:(⟨b,o',none⟩:Addr).add g.offset=⟨b,o'+g.offset,none⟩:=by unfold Addr.add;split <;> simp_all
 simp [Instr.fieldAt,underlying,hu,hg,Instr.sureAddr,fieldPlace,sizeOf,typeInfo,hi,hz,e]
theorem op_fieldAddr_m {x:Operand} {t:TypeId} {f b off fo:Nat} (ho:o.op=.fieldAddr t x f) (ht:tyFld P t f=some fo) (hx:al.ev x=some (.ptr b off)) (q:K (.ptr b (off+fo)) M):OpT P o al M K :=
 OpT.plain fun n B F Mf ac w hi hs=>by
  have h:=hs.ev hx
  generalize he:ac.eval x=u at h
  cases h with
  | ptr=>exact ⟨_,_,by simp [execOp,ho,he,tyFld_run ht],q,.ptr _ _⟩
inductive IsSeq:AV→Nat→List (List AV)→Prop
 | seq (m:Nat) (es:List (List AV)):IsSeq (.seq m es) m es
 | own (u:Value) (m:Nat) (es:List (List AV)):IsSeq (.own u m es) m es
 | nil (m:Nat):IsSeq (.val (.slice none 0 0)) m []
theorem IsSeq.rel {v:AV} {m:Nat} {es:List (List AV)} (h:IsSeq v m es) {F:EH} {u:Value} (hr:Rel F v u):Rel F (.seq m es) u:=by
 cases h with
 | seq=>exact hr
 | own=>cases hr with|own _ h=>exact h
 | nil=>cases hr with|val=>exact .seq0 m none 0 (fun _=>rfl)
theorem Rel.seq_len {F:EH} {m:Nat} {es:List (List AV)} {u:Value} (h:Rel F (.seq m es) u):∃ ao cap,u=.slice ao es.length cap:=by
 cases h with
 | seq0 _ ao cap _=>exact ⟨ao,cap,rfl⟩
 | seq b off cap _ _ _ _ _ _=>exact ⟨_,cap,rfl⟩
theorem Rel.seq_max {F:EH} {m:Nat} {es:List (List AV)} {u:Value} (h:Rel F (.seq m es) u):es.length≤9223372036854775807:=by
 cases h with
 | seq0 _ ao cap _=>simp
 | seq b off cap _ hn _ _ _ _=>unfold maxLen at hn;exact hn
theorem op_len {x:Operand} {t:TypeId} {e:TypeId} {v:AV} {m:Nat} {es:List (List AV)} (ho:o.op=.call { callee:=.builtin .len,args:=#[x],argTypes:=#[t] }) (ht:P.underlying t=some (.slice e)) (hx:al.ev x=some v) (hv:IsSeq v m es) (q:es.length≤9223372036854775807→K (.val (.int .i64 es.length)) M):OpT P o al M K :=
 OpT.plain fun n B F Mf ac w hi hs=>by
  have hmax:=(hv.rel (hs.ev hx)).seq_max
  obtain ⟨ao,cap,he⟩:=(hv.rel (hs.ev hx)).seq_len
  refine ⟨_,_,?_,q hmax,.val _⟩
  simp [execOp,ho,resolve,invoke,builtin,Builtin.len_,he,underlying,ht,goInt]
theorem eqGuard_sl {op:BinOp} {t:TypeId} {x y:Operand} {a b:Option Addr} {n c n' c':Nat} {w:World}:(eqGuard op t x y (.slice a n c) (.slice b n' c')).run P w=.ok () w:=by
 unfold eqGuard;split <;> simp
def tyElem (P:Program) (t:TypeId):Option (TypeId × Nat) :=
 match P.underlying t with
 | some (.slice e)=>(P.info? e).map fun i=>(e,i.size)
 | _=>none
theorem tyElem_run {t e:TypeId} {m:Nat} (h:tyElem P t=some (e,m)):P.underlying t=some (.slice e)∧∃ i,P.info? e=some i∧i.size=m:=by
 unfold tyElem at h
 split at h <;> first|(simp at h;done)|skip
 rename_i e' hu
 cases hi:P.info? e' with
 | none=>simp [hi] at h
 | some i =>
  simp [hi] at h
  obtain ⟨rfl,rfl⟩:=h
  exact ⟨hu,i,hi,rfl⟩
theorem flat_drop {m:Nat}:∀ {es:List (List AV)} (_:∀ e∈es,e.length=m) (i:Nat),es.flatten.drop (i * m)=(es.drop i).flatten
 | [],_,i=>by simp
 | e::es,h,0=>by simp
 | e::es,h,i+1=>by
  have h1:=h e (by simp)
  rw [List.flatten_cons,List.drop_succ_cons,← flat_drop (fun x hx=>h x (by simp [hx])) i,← h1,Nat.add_mul,Nat.one_mul,Nat.add_comm,← List.drop_drop]
  simp
theorem Rel.elem {F:EH} {m:Nat} {es:List (List AV)} {u:Value} (h:Rel F (.seq m es) u) {i:Nat} {cs:List AV} (hi:es[i]?=some cs) :
    ∃ b off n cap vs,u=.slice (some ⟨b,off,none⟩) n cap∧i<n∧n=es.length∧Lies F b (off+i * m) vs∧Rels F cs vs∧Ones vs∧cs.length=m:=by
 have hlt:i<es.length:=by
  rcases Nat.lt_or_ge i es.length with k|k
  ·exact k
  ·rw [List.getElem?_eq_none k] at hi;simp at hi
 cases h with
 | seq0 _ ao cap _=>simp at hi
 | seq b off cap hm hn hl h h1 hcq =>
  rename_i vs
  have hcm:=hm cs (List.mem_of_getElem? hi)
  have hd:=h.drop (i * m)
  rw [flat_drop hm i,List.drop_eq_getElem_cons hlt,List.flatten_cons] at hd
  have hcs:es[i]=cs:=by rw [List.getElem?_eq_getElem hlt] at hi;simpa using hi
  rw [hcs] at hd
  obtain ⟨us,rest,he,h3,h4⟩:=hd.split
  refine ⟨b,off,es.length,cap,us,rfl,hlt,rfl,fun j x hx=>?_,h3,fun v hv=>?_,hcm⟩
  ·have hj:j<us.length:=by
    rcases Nat.lt_or_ge j us.length with k|k
    ·exact k
    ·rw [List.getElem?_eq_none k] at hx;simp at hx
   rw [Nat.add_assoc]
   refine hl _ _ ?_
   rw [← List.getElem?_drop,he,List.getElem?_append_left hj]
   exact hx
  ·refine h1 v (List.mem_of_mem_drop (i:=i * m) ?_)
   rw [he];exact List.mem_append_left _ hv
theorem op_index {x y:Operand} {t e:TypeId} {k:IntKind} {m i:Nat} {v:AV} {j:Int} {es:List (List AV)} {cs:List AV} (ho:o.op=.indexAddr t x y) (ht:tyElem P t=some (e,m)) (hx:al.ev x=some v) (hv:IsSeq v m es) (hy:al.ev y=some (.val (.int k j))) (hj:j=i) (hc:es[i]?=some cs) (q:K (.cptr cs) M):OpT P o al M K :=
 OpT.plain fun n B F Mf ac w hi hs=>by
  obtain ⟨b,off,len,cap,vs,he,hlt,rfl,hl,hr,h1,_⟩:=(hv.rel (hs.ev hx)).elem hc
  obtain ⟨hu,inf,hinf,rfl⟩:=tyElem_run ht
  subst hj
  refine ⟨.pointer (some ⟨b,off+i * inf.size,none⟩),.cptr cs,?_,q,.cptr b _ hl hr h1⟩
  have e1:(⟨b,off,none⟩:Addr).add (i * inf.size)=⟨b,off+i * inf.size,none⟩:=by unfold Addr.add;split <;> simp_all
  simp [execOp,ho,he,ev_val hs hy,Instr.indexAt,asIntOf,underlying,hu,sizeOf,typeInfo,hinf,hlt,e1]
theorem op_index_arr {x y:Operand} {t e:TypeId} {k:IntKind} {m i b off len cap:Nat} {j:Int} (ho:o.op=.indexAddr t x y) (ht:tyElem P t=some (e,m)) (hx:al.ev x=some (.arr b off len cap)) (hy:al.ev y=some (.val (.int k j))) (hj:j=i) (hlt:i<len) (q:K (.ptr b (off+i * m)) M):OpT P o al M K :=
 OpT.plain fun n B F Mf ac w hi hs=>by
  have h:=hs.ev hx
  generalize he:ac.eval x=u at h
  cases h with
  | arr =>
   obtain ⟨hu,inf,hinf,rfl⟩:=tyElem_run ht
   subst hj
   refine ⟨.pointer (some ⟨b,off+i * inf.size,none⟩),_,?_,q,.ptr _ _⟩
   have e1:(⟨b,off,none⟩:Addr).add (i * inf.size)=⟨b,off+i * inf.size,none⟩:=by unfold Addr.add;split <;> simp_all
   simp [execOp,ho,he,ev_val hs hy,Instr.indexAt,asIntOf,underlying,hu,sizeOf,typeInfo,hinf,hlt,e1]
theorem Rels.map_ev {n:Nat} {F:EH} {a:Act} (hs:Slots n F al a.tmps):∀ {xs:List Operand} {vs:List AV},xs.mapM al.ev=some vs→Rels F vs (xs.map a.eval)
 | [],vs,h=>by simp at h;subst h;exact .nil
 | x::xs,vs,h=>by
  simp only [List.mapM_cons,Option.bind_eq_bind,Option.bind_eq_some_iff,Option.pure_def,Option.some.injEq] at h
  obtain ⟨v,h1,ws,h2,rfl⟩:=h
  exact .cons (hs.ev h1) (Rels.map_ev hs h2)
theorem op_makeFunc {fn:Fn} {fs cs:List Operand} {vf vc:List AV} (ho:o.op=.makeFunc fn fs.toArray cs.toArray) (hf:fs.mapM al.ev=some vf) (hc:cs.mapM al.ev=some vc) (q:K (.clo fn vf vc) M):OpT P o al M K :=
 OpT.plain fun n B F Mf ac w hi hs=>⟨.func fn (fs.map ac.eval).toArray (cs.map ac.eval).toArray,_,by simp [execOp,ho,Instr.makeFunc],q,.clo fn (Rels.map_ev hs hf) (Rels.map_ev hs hc)⟩
def Enters (P:Program) (f:FuncId):Prop:=∀ args w,(callFunc f args).run P w=.ok (.enter f args) w
theorem enters_of {f : FuncId} {fn : Func} (hf : P.funcs[f]? = some fn) (hn : (fn.name == "runtime.NumGoroutine") = false) (hb : fn.body.isNone = false) : Enters P f := by
 intro args w
 unfold callFunc
 simp only [Sem.run_bind,run_program,Result.andThen_ok,hf,hn,hb,Sem.run_pure,Bool.false_eq_true,if_false]
structure ACall (P:Program) (f:FuncId) (args:List AV) (M:Mem) (R:AV→Mem→Prop):Prop where
 ent:Enters P f
 run:∀ (B:Nat) (F:EH) (Mf:Mem) (w:World) (vs:List Value),Inv B F (M++Mf) w→Rels F args vs →
  Calls P f vs.toArray w (fun e w'=>∃ u v M' F',e=.returned u∧R v M'∧Rel F' v u∧Ext F F'∧Inv B F' (M'++Mf) w'∧Below B w w')
theorem ACall.mono {f:FuncId} {args:List AV} {R R':AV→Mem→Prop} (h:ACall P f args M R) (hr:∀ v M',R v M'→R' v M'):ACall P f args M R' :=
 ⟨h.ent,fun B F Mf w vs hi hv=>(h.run B F Mf w vs hi hv).mono fun _ _ ⟨u,v,M',F',h1,h2,h3⟩=>⟨u,v,M',F',h1,hr _ _ h2,h3⟩⟩
theorem ACall.frame {f:FuncId} {args:List AV} {R:AV→Mem→Prop} (h:ACall P f args M R) (M1:Mem):ACall P f args (M++M1) (fun v M'=>∃ M0,M'=M0++M1∧R v M0) :=
 ⟨h.ent,fun B F Mf w vs hi hv=>(h.run B F (M1++Mf) w vs (by rw [← List.append_assoc];exact hi) hv).mono fun _ _ ⟨u,v,M',F',h1,h2,h3,h4,h5,h6⟩ =>
  ⟨u,v,M'++M1,F',h1,⟨M',rfl,h2⟩,h3,h4,by rw [List.append_assoc];exact h5,h6⟩⟩
theorem ACall.perm {f:FuncId} {args:List AV} {M':Mem} {R:AV→Mem→Prop} (h:ACall P f args M R) (hp:M'.Perm M):ACall P f args M' R :=
 ⟨h.ent,fun B F Mf w vs hi hv=>h.run B F Mf w vs (hi.perm (hp.append_right Mf)) hv⟩
theorem op_call {f:FuncId} {xs:List Operand} {ts:Array TypeId} {vs:List AV} {R:AV→Mem→Prop} (ho:o.op=.call { callee:=.value (.func f),args:=xs.toArray,argTypes:=ts }) (hx:xs.mapM al.ev=some vs) (hc:ACall P f vs M R) (q:∀ v M',R v M'→K v M'):OpT P o al M K:=by
 intro n B F Mf a w hi hs ro
 have e:(execOp a.eval o).run P w=.ok (.enter f (xs.map a.eval).toArray) w:=by
  simp only [execOp,ho,resolve,Act.eval,Deferred.ofValue,Sem.run_bind,Sem.run_pure,Result.andThen_ok,invoke,List.map_toArray,List.append_toArray,List.nil_append,List.append_nil]
  exact hc.ent _ _
 refine wpR_enter e ((hc.run B F Mf w _ hi (Rels.map_ev hs hx)).mono ?_)
 rintro e w' ⟨u,v,M',F',rfl,h2,h3,h4,h5,h6⟩
 exact ⟨u,rfl,u,v,M',F',rfl,q v M' h2,h3,h4,h5,h6⟩
theorem op_callv {x:Operand} {f:FuncId} {fs cs:List AV} {xs:List Operand} {ts:Array TypeId} {vs:List AV} {R:AV→Mem→Prop} (ho:o.op=.call { callee:=.value x,args:=xs.toArray,argTypes:=ts }) (hf:al.ev x=some (.clo (.func f) fs cs)) (hx:xs.mapM al.ev=some vs) (hc:ACall P f (fs++vs++cs) M R) (q:∀ v M',R v M'→K v M'):OpT P o al M K:=by
 intro n B F Mf a w hi hs ro
 have h:=hs.ev hf
 generalize he:a.eval x=u at h
 cases h with
 | clo fn h1 h2 =>
  rename_i vf vc
  have e:(execOp a.eval o).run P w=.ok (.enter f (vf++xs.map a.eval++vc).toArray) w:=by
   simp only [execOp,ho,resolve,he,Deferred.ofValue,Sem.run_bind,Sem.run_pure,Result.andThen_ok,invoke,List.map_toArray,List.append_toArray]
   exact hc.ent _ _
  refine wpR_enter e ((hc.run B F Mf w _ hi ((h1.app (Rels.map_ev hs hx)).app h2)).mono ?_)
  rintro e w' ⟨u,v,M',F',rfl,h2,h3,h4,h5,h6⟩
  exact ⟨u,rfl,u,v,M',F',rfl,q v M' h2,h3,h4,h5,h6⟩
end
def Le (v v':AV):Prop:=∀ F u,Rel F v u→Rel F v' u
theorem Le.refl (v:AV):Le v v:=fun _ _ h=>h
theorem Le.trans {a b c:AV} (h:Le a b) (k:Le b c):Le a c:=fun F u x=>k F u (h F u x)
theorem Le.own (u:Value) (m:Nat) (es:List (List AV)):Le (.own u m es) (.seq m es):=fun F x h=>by cases h with|own _ h=>exact h
theorem Le.nil (m:Nat):Le (.val (.slice none 0 0)) (.seq m []):=fun F u h=>by cases h;exact .seq0 m none 0 (fun _=>rfl)
def Les (vs vs':List AV):Prop:=∀ F us,Rels F vs us→Rels F vs' us
theorem Les.refl (vs:List AV):Les vs vs:=fun _ _ h=>h
theorem Les.cons {v v':AV} {vs vs':List AV} (h:Le v v') (hs:Les vs vs'):Les (v::vs) (v'::vs'):=fun F us k=>by
 cases k with|cons k1 k2=>exact .cons (h _ _ k1) (hs _ _ k2)
theorem Le.agg {cs cs':List AV} (h:Les cs cs'):Le (.agg cs) (.agg cs'):=fun F u k=>by
 cases k with|agg k h1=>exact .agg (h _ _ k) h1
theorem Le.tup {cs cs':List AV} (h:Les cs cs'):Le (.tup cs) (.tup cs'):=fun F u k=>by
 cases k with|tup k=>exact .tup (h _ _ k)
theorem Le.cptr {cs cs':List AV} (h:Les cs cs'):Le (.cptr cs) (.cptr cs'):=fun F u k=>by
 cases k with|cptr b off hl k h1=>exact .cptr b off hl (h _ _ k) h1
theorem Les.app {a b c d:List AV} (h:Les a b) (k:Les c d):Les (a++c) (b++d):=fun F us x=>by
 obtain ⟨vs,ws,rfl,h1,h2⟩:=Rels.split x
 exact (h _ _ h1).app (k _ _ h2)
inductive Less:List (List AV)→List (List AV)→Prop
 | nil:Less [] []
 | cons {a b:List AV} {as bs:List (List AV)} (h:Les a b) (hl:a.length=b.length) (hs:Less as bs):Less (a::as) (b::bs)
theorem Less.flat:∀ {as bs:List (List AV)},Less as bs→Les as.flatten bs.flatten
 | _,_,.nil=>Les.refl _
 | _,_,.cons h _ hs=>by simpa using h.app hs.flat
theorem Less.len:∀ {as bs:List (List AV)},Less as bs→as.length=bs.length
 | _,_,.nil=>rfl
 | _,_,.cons _ _ hs=>by simp [hs.len]
theorem Less.wide {m:Nat}:∀ {as bs:List (List AV)},Less as bs→(∀ e∈as,e.length=m)→∀ e∈bs,e.length=m
 | _,_,.nil,_=>by simp
 | _,_,.cons _ hl hs,h=>by
  intro e he
  rcases List.mem_cons.1 he with rfl|he
  ·rw [← hl];exact h _ (by simp)
  ·exact hs.wide (fun x hx=>h x (by simp [hx])) e he
theorem Less.refl:∀ as:List (List AV),Less as as
 | []=>.nil
 | _::as=>.cons (Les.refl _) rfl (Less.refl as)
theorem Le.seq {m:Nat} {as bs:List (List AV)} (h:Less as bs):Le (.seq m as) (.seq m bs):=fun F u k=>by
 have hl:=h.len
 cases k with
 | seq0 _ ao cap hc =>
  cases h
  exact .seq0 m ao cap hc
 | seq b off cap hm hn hli k h1 hc =>
  rw [hl] at hn hc ⊢
  exact .seq b off cap (h.wide hm) hn hli (h.flat _ _ k) h1 hc
inductive MLe:Mem→Mem→Prop
 | nil:MLe [] []
 | cons (r:Res) {M M':Mem} (h:MLe M M'):MLe (r::M) (r::M')
 | loc (b:Nat) {cs cs':List AV} {M M':Mem} (hc:Les cs cs') (h:MLe M M'):MLe (.loc b cs::M) (.loc b cs'::M')
 | drop (r:Res) {M M':Mem} (h:MLe M M'):MLe (r::M) M'
theorem MLe.refl:∀ M:Mem,MLe M M
 | []=>.nil
 | r::M=>.cons r (MLe.refl M)
theorem MLe.none:∀ M:Mem,MLe M []
 | []=>.nil
 | r::M=>.drop r (MLe.none M)
theorem MLe.blks:∀ {M M':Mem},MLe M M'→(M'.map Res.blk).Sublist (M.map Res.blk)
 | _,_,.nil=>List.Sublist.refl _
 | _,_,.cons _ h=>h.blks.cons_cons _
 | _,_,.loc _ _ h=>h.blks.cons_cons _
 | _,_,.drop _ h=>h.blks.cons _
theorem MLe.ok {B:Nat} {F:EH} {w:World}:∀ {M M':Mem},MLe M M'→(∀ r∈M,r.Ok B F w)→∀ r∈M',r.Ok B F w
 | _,_,.nil,_=>by simp
 | _,_,.cons r h,k=>by
  intro x hx
  rcases List.mem_cons.1 hx with rfl|hx
  ·exact k _ (by simp)
  ·exact h.ok (fun r hr=>k r (by simp [hr])) x hx
 | _,_,.loc (cs:=cs) b hc h,k=>by
  intro x hx
  rcases List.mem_cons.1 hx with rfl|hx
  ·obtain ⟨h1,h2,vs,T,h3,h4,h5⟩:=k (.loc b cs) (by simp)
   exact ⟨h1,h2,vs,T,h3,hc _ _ h4,h5⟩
  ·exact h.ok (fun r hr=>k r (by simp [hr])) x hx
 | _,_,.drop r h,k=>h.ok (fun r hr=>k r (by simp [hr]))
theorem far_map {M:Mem}:M.Pairwise Far↔(M.map Res.blk).Pairwise (fun a b=>a=none∨a≠b):=by
 rw [List.pairwise_map];rfl
theorem Inv.le {B:Nat} {F:EH} {M M' Mf:Mem} {w:World} (h:Inv B F (M++Mf) w) (hm:MLe M M'):Inv B F (M'++Mf) w:=by
 refine ⟨h.base,h.fix,fun r hr=>?_,?_⟩
 ·rcases List.mem_append.1 hr with hr|hr
  ·exact hm.ok (fun r hr=>h.ok r (List.mem_append_left _ hr)) r hr
  ·exact h.ok r (List.mem_append_right _ hr)
 ·have:=h.far
  rw [far_map] at this ⊢
  rw [List.map_append] at this ⊢
  exact this.sublist (List.Sublist.append hm.blks (List.Sublist.refl _))
def SLe (al al':Sl):Prop:=∀ t v',al'.lookup t=some v'→∃ v,al.lookup t=some v∧Le v v'
theorem Slots.le {n:Nat} {F:EH} {al al':Sl} {tmps:Array Value} (h:Slots n F al tmps) (hs:SLe al al'):Slots n F al' tmps :=
 ⟨h.1,fun t v' e=>by
  obtain ⟨v,h1,h2⟩:=hs t v' e
  exact ⟨(h.2 t v h1).1,h2 _ _ (h.2 t v h1).2⟩⟩
theorem SLe.nil (al:Sl):SLe al []:=fun t v' e=>by simp at e
theorem SLe.cons {al al':Sl} {t:Nat} {v v':AV} (hv:al.lookup t=some v) (h:Le v v') (hs:SLe al al'):SLe al ((t,v')::al'):=fun s u e=>by
 simp only [List.lookup_cons] at e
 by_cases q:s=t
 ·subst q
  simp at e;subst e
  exact ⟨v,hv,h⟩
 ·have:(s == t)=false:=by simpa using q
  rw [this] at e
  exact hs s u e
section
variable {P:Program} {al:Sl} {M:Mem} {K:AV→Mem→Prop} {o:Oper}
theorem ACode.le {ro:Option Nat} {n:Nat} {Q:Exit→Sl→Mem→Prop} {c:Code} {al':Sl} {M':Mem} (hs:SLe al al') (hm:MLe M M') (h:ACode ro P n c Q al' M'):ACode ro P n c Q al M :=
 fun B F Mf a w hi hsl=>h B F Mf a w (hi.le hm) (hsl.le hs)
theorem ACode.perm {ro:Option Nat} {n:Nat} {Q:Exit→Sl→Mem→Prop} {c:Code} {M':Mem} (hm:M.Perm M') (h:ACode ro P n c Q al M'):ACode ro P n c Q al M :=
 fun B F Mf a w hi hsl=>h B F Mf a w (hi.perm (hm.append_right Mf)) hsl
theorem ACall.args {f:FuncId} {vs vs':List AV} {R:AV→Mem→Prop} (hl:Les vs vs') (h:ACall P f vs' M R):ACall P f vs M R :=
 ⟨h.ent,fun B F Mf w us hi hv=>h.run B F Mf w us hi (hl _ _ hv)⟩
theorem ACall.mem {f:FuncId} {vs:List AV} {M':Mem} {R:AV→Mem→Prop} (hl:MLe M M') (h:ACall P f vs M' R):ACall P f vs M R :=
 ⟨h.ent,fun B F Mf w us hi hv=>h.run B F Mf w us (hi.le hl) hv⟩
def AV.cells:AV→List AV
 | .agg cs=>cs
 | .val (.agg a)=>a.toList.map AV.val
 | v=>[v]
def AV.flat:AV→Bool
 | .val (.agg a)=>a.toList.all (·.oneCell')
 | .val (.tuple _)=>false
 | .tup _=>false
 | _=>true
theorem Rels.vals (F:EH):∀ vs:List Value,Rels F (vs.map AV.val) vs
 | []=>.nil
 | v::vs=>.cons (.val v) (Rels.vals F vs)
theorem Rel.cells {F:EH} {v:AV} {u:Value} (h:Rel F v u) (hf:v.flat=true):Rels F v.cells u.cells.toList∧Ones u.cells.toList:=by
 cases h with
 | val u =>
  cases u with
  | agg a =>
   refine ⟨Rels.vals F a.toList,fun x hx=>?_⟩
   simp only [AV.flat,List.all_eq_true] at hf
   exact hf x (by simpa [Value.cells] using hx)
  | tuple a=>simp [AV.flat] at hf
  | _=>exact ⟨.cons (.val _) .nil,by intro x hx;simp [Value.cells] at hx;subst hx;rfl⟩
 | agg h h1=>exact ⟨by simpa [AV.cells,Value.cells] using h,by simpa [Value.cells] using h1⟩
 | tup h=>simp [AV.flat] at hf
 | ptr b off=>exact ⟨.cons (.ptr b off) .nil,by intro x hx;simp [Value.cells] at hx;subst hx;rfl⟩
 | cptr b off hl h h1=>exact ⟨.cons (.cptr b off hl h h1) .nil,by intro x hx;simp [Value.cells] at hx;subst hx;rfl⟩
 | arr b off k cap hc=>exact ⟨.cons (.arr b off k cap hc) .nil,by intro x hx;simp [Value.cells] at hx;subst hx;rfl⟩
 | seq0 m ao cap h=>exact ⟨.cons (.seq0 m ao cap h) .nil,by intro x hx;simp [Value.cells] at hx;subst hx;rfl⟩
 | seq b off cap hm hn hl h h1 hc=>exact ⟨.cons (.seq b off cap hm hn hl h h1 hc) .nil,by intro x hx;simp [Value.cells] at hx;subst hx;rfl⟩
 | own u h =>
  have e:u.cells.toList=[u]∧u.oneCell'=true:=by
   obtain ⟨ao,cap,rfl⟩:=h.seq_len
   exact ⟨rfl,rfl⟩
  rw [e.1]
  exact ⟨.cons (.own u h) .nil,by intro x hx;simp at hx;subst hx;exact e.2⟩
 | clo fn h1 h2=>exact ⟨.cons (.clo fn h1 h2) .nil,by intro x hx;simp [Value.cells] at hx;subst hx;rfl⟩
theorem alloc_get {w:World} (o:Obj) (k:Nat):(w.alloc o).heap[k]?=if k=w.heap.size then some o else w.heap[k]?:=by
 show (w.heap.push o)[k]?=_
 rw [Array.getElem?_push]
theorem alloc_below {w:World} (o:Obj) {B:Nat} (hB:B≤w.heap.size):Below B w (w.alloc o):=(Below.refl _ _).alloc hB o
theorem fix_alloc {B:Nat} {F:EH} {M:Mem} {w:World} (hi:Inv B F M w) (o:Obj):∀ b i x,F b i=some x→(w.alloc o).cell? ⟨b,i,none⟩=some x:=by
 intro b i x h
 have h1:=hi.fix b i x h
 have hlt:=cell_size h1
 rw [World.cell?_of_block (w:=w) (by rw [alloc_get,if_neg (by simp;omega)])]
 exact h1
theorem Inv.newLoc {B:Nat} {F:EH} {Mf:Mem} {w:World} (hi:Inv B F (M++Mf) w) {cs:List AV} {vs:List Value} (hr:Rels F cs vs) (h1:Ones vs) (T:TypeId) :
    Inv B F ((.loc w.heap.size cs::M)++Mf) (w.alloc (.cells vs.toArray T)):=by
 refine ⟨by have:=hi.base;simp;omega,fix_alloc hi _,fun r hr'=>?_,?_⟩
 ·rw [List.cons_append] at hr'
  rcases List.mem_cons.1 hr' with rfl|hr'
  ·exact ⟨hi.base,fun i=>hi.dom (Nat.le_refl _),vs,T,by rw [alloc_get,if_pos rfl],hr,h1⟩
  ·refine (hi.ok r hr').stay (Ext.refl F) (fun b hb=>⟨?_,fun _=>rfl⟩)
   have:=(hi.ok r hr').lt hb
   rw [alloc_get,if_neg (by omega)]
 ·rw [List.cons_append,List.pairwise_cons]
  refine ⟨fun r hr'=>?_,hi.far⟩
  right
  intro e
  have:=(hi.ok r hr').lt (b:=w.heap.size) e.symm
  omega
def EH.new (F:EH) (b:Nat) (vs:List Value):EH:=fun k i=>if k=b then vs[i]? else F k i
theorem EH.new_ext {B:Nat} {F:EH} {M:Mem} {w:World} (hi:Inv B F M w) (vs:List Value):Ext F (F.new w.heap.size vs):=by
 intro b i x h
 have:=cell_size (hi.fix b i x h)
 unfold EH.new
 rw [if_neg (by omega)]
 exact h
theorem EH.new_lies (F:EH) (b:Nat) (vs:List Value):Lies (F.new b vs) b 0 vs:=by
 intro j x h
 simpa [EH.new] using h
theorem Inv.newFix {B:Nat} {F:EH} {M:Mem} {w:World} (hi:Inv B F M w) (vs:List Value) (T:TypeId):Inv B (F.new w.heap.size vs) M (w.alloc (.cells vs.toArray T)):=by
 refine ⟨by have:=hi.base;simp;omega,fun b i x h=>?_,fun r hr'=>?_,hi.far⟩
 ·unfold EH.new at h
  split at h
  ·rename_i e
   subst e
   rw [cell_block (T:=T) (f:=(0,0)) (by rw [alloc_get,if_pos rfl])]
   exact h
  ·exact fix_alloc hi _ b i x h
 ·refine (hi.ok r hr').stay (EH.new_ext hi vs) (fun b hb=>?_)
  have:=(hi.ok r hr').lt hb
  refine ⟨by rw [alloc_get,if_neg (by omega)],fun i=>?_⟩
  unfold EH.new
  rw [if_neg (by omega)]
theorem op_box {x:Operand} {t:TypeId} {v:AV} (ho:o.op=.box t x) (hx:al.ev x=some v) (hf:v.flat=true) (q:∀ b,K (.ptr b 0) (.loc b v.cells::M)):OpT P o al M K:=by
 intro n B F Mf a w hi hs ro
 obtain ⟨h1,h2⟩:=(hs.ev hx).cells hf
 have e:(execOp a.eval o).run P w=.ok (.value (.pointer (some ⟨w.heap.size,0,none⟩))) (w.alloc (.cells (a.eval x).cells.toList.toArray t)):=by
  simp [execOp,ho,Instr.box,newVar,newRow]
 exact wpR_value e ⟨_,_,_,F,rfl,q w.heap.size,.ptr _ _,Ext.refl F,hi.newLoc h1 h2 t,alloc_below _ hi.base⟩
def tyZero (P:Program) (t:TypeId):Option Value:=(P.info? t).bind (·.zero)
theorem tyZero_run {t:TypeId} {z:Value} (h:tyZero P t=some z) (w:World):(zeroValue t).run P w=.ok z w:=by
 unfold tyZero at h
 cases hi:P.info? t with
 | none=>simp [hi] at h
 | some i =>
  simp [hi] at h
  simp [zeroValue,typeInfo,hi,h]
theorem op_alloc {t:TypeId} {z:Value} (ho:o.op=.alloc t) (hz:tyZero P t=some z) (hf:(AV.val z).flat=true) (q:∀ b,K (.ptr b 0) (.loc b (AV.val z).cells::M)):OpT P o al M K:=by
 intro n B F Mf a w hi hs ro
 obtain ⟨h1,h2⟩:=(Rel.val (F:=F) z).cells hf
 have e:(execOp a.eval o).run P w=.ok (.value (.pointer (some ⟨w.heap.size,0,none⟩))) (w.alloc (.cells z.cells.toList.toArray t)):=by
  simp [execOp,ho,Instr.alloc,tyZero_run hz,newVar,newRow]
 exact wpR_value e ⟨_,_,_,F,rfl,q w.heap.size,.ptr _ _,Ext.refl F,hi.newLoc h1 h2 t,alloc_below _ hi.base⟩
def setL {α:Type}:List α→Nat→List α→List α
 | l,_,[]=>l
 | l,i,x::xs=>setL (l.set i x) (i+1) xs
theorem Rels.setL {F:EH}:∀ {xs:List AV} {us:List Value},Rels F xs us→∀ {as:List AV} {vs:List Value} (i:Nat),Rels F as vs→Rels F (setL as i xs) (setL vs i us)
 | _,_,.nil,_,_,_,h=>h
 | _,_,.cons k ks,_,_,i,h=>Rels.setL ks (i+1) (h.set i k)
theorem setL_len {α:Type}:∀ (xs l:List α) (i:Nat),(setL l i xs).length=l.length
 | [],_,_=>rfl
 | x::xs,l,i=>by rw [setL,setL_len xs];simp
theorem setL_one:∀ (xs l:List Value) (i:Nat),Ones xs→Ones l→Ones (setL l i xs)
 | [],_,_,_,h=>h
 | x::xs,l,i,hx,h=>by
  rw [setL]
  refine setL_one xs _ _ (fun v hv=>hx v (by simp [hv])) (fun v hv=>?_)
  rcases List.mem_or_eq_of_mem_set hv with h1|h1
  ·exact h v h1
  ·rw [h1];exact hx x (by simp)
theorem setCell_get (w:World) (b i:Nat) (v:Value) (k:Nat) {vs:List Value} {T:TypeId} (hb:w.heap[b]?=some (.cells vs.toArray T (0,0))):(w.setCell ⟨b,i,none⟩ v).heap[k]?=if k=b then some (.cells (vs.set i v).toArray T (0,0)) else w.heap[k]?:=by
 simp only [World.setCell,Array.getElem?_modify]
 by_cases e:b=k
 ·subst e
  rw [if_pos rfl,if_pos rfl,hb]
  simp
 ·rw [if_neg e,if_neg (fun h=>e h.symm)]
theorem storeCells_run {b:Nat} {T:TypeId}:∀ (us:List Value) (w:World) (vs:List Value) (off i:Nat),w.heap[b]?=some (.cells vs.toArray T (0,0))→Ones us→off+i+us.length≤vs.length →
    ∃ w',(storeCells ⟨b,off,none⟩ us i).run P w=.ok () w'∧w'.heap[b]?=some (.cells (setL vs (off+i) us).toArray T (0,0))∧(∀ k,k≠b→w'.heap[k]?=w.heap[k]?)∧w'.heap.size=w.heap.size∧w'.os=w.os∧w'.tape=w.tape∧w'.output=w.output
 | [],w,vs,off,i,hb,_,_=>⟨w,by simp [storeCells],hb,fun _ _=>rfl,rfl,rfl,rfl,rfl⟩
 | u::us,w,vs,off,i,hb,h1,hl=>by
  have e1:(⟨b,off,none⟩:Addr).add i=⟨b,off+i,none⟩:=by unfold Addr.add;split <;> simp_all
  simp only [List.length_cons] at hl
  have hc:w.cell? ⟨b,off+i,none⟩=some (vs[off+i]'(by omega)):=by rw [cell_block hb,List.getElem?_eq_getElem]
  have hfz:w.frozen? ⟨b,off+i,none⟩=false:=by simp [World.frozen?,hb]
  have hg:=setCell_get w b (off+i) u b hb
  rw [if_pos rfl] at hg
  obtain ⟨w',q1,q2,q3,q4,q5,q6,q7⟩:=storeCells_run us (w.setCell ⟨b,off+i,none⟩ u) (vs.set (off+i) u) off (i+1) hg (fun v hv=>h1 v (by simp [hv])) (by simp;omega)
  refine ⟨w',?_,?_,fun k hk=>?_,?_,q5,q6,q7⟩
  ·simp only [storeCells,Sem.run_bind,e1,run_store P w _ u _ (h1 u (by simp)),hc,hfz,Bool.false_eq_true,if_false,Result.andThen_ok]
   exact q1
  ·rw [setL];exact q2
  ·rw [q3 k hk,setCell_get w b (off+i) u k hb,if_neg hk]
  ·rw [q4];simp [World.setCell]
theorem Inv.store {B:Nat} {F:EH} {Mf:Mem} {w w':World} (hi:Inv B F (M++Mf) w) {i b:Nat} {cs cs':List AV} (hm:M[i]?=some (.loc b cs)) {vs':List Value} {T:TypeId} (hb:w'.heap[b]?=some (.cells vs'.toArray T (0,0))) (hr:Rels F cs' vs') (h1:Ones vs')
    (hk:∀ k,k≠b→w'.heap[k]?=w.heap[k]?) (hsz:w'.heap.size=w.heap.size):Inv B F (M.set i (.loc b cs')++Mf) w':=by
 have hil:i<M.length:=by
  rcases Nat.lt_or_ge i M.length with k|k
  ·exact k
  ·rw [List.getElem?_eq_none k] at hm;simp at hm
 obtain ⟨hB,hF,_⟩:=hi.loc hm
 have hMi:M[i]=.loc b cs:=by rw [List.getElem?_eq_getElem hil] at hm;simpa using hm
 have hset:M.set i (.loc b cs')++Mf=(M++Mf).set i (.loc b cs'):=by rw [List.set_append_left _ _ hil]
 have hfar:=hi.far
 refine ⟨by rw [hsz];exact hi.base,fun c j x h=>?_,fun r hr'=>?_,?_⟩
 ·have hne:c≠b:=fun e=>by subst e;rw [hF j] at h;simp at h
  rw [World.cell?_of_block (w:=w) (hk c hne)]
  exact hi.fix c j x h
 ·rw [hset] at hr'
  obtain ⟨j,hj,hje⟩:=List.mem_iff_getElem.1 hr'
  rw [List.getElem_set] at hje
  split at hje
  ·subst hje
   exact ⟨hB,hF,vs',T,hb,hr,h1⟩
  ·rename_i hne
   have hj':j<(M++Mf).length:=by simpa using hj
   have hjm:r∈M++Mf:=by rw [← hje];exact List.getElem_mem hj'
   refine (hi.ok r hjm).stay (Ext.refl F) (fun c hc=>⟨hk c ?_,fun _=>rfl⟩)
   intro e
   subst e
   have hil':i<(M++Mf).length:=by simp;omega
   have hi0:(M++Mf)[i]=.loc c cs:=by rw [List.getElem_append_left hil];exact hMi
   rw [List.pairwise_iff_getElem] at hfar
   rcases Nat.lt_or_gt_of_ne hne with k|k
   ·have:=hfar i j hil' hj' k
    rw [hi0,hje] at this
    rcases this with q|q
    ·simp [Res.blk] at q
    ·exact q (by rw [hc];rfl)
   ·have:=(hfar j i hj' hil' k).symm
    rw [hi0,hje] at this
    rcases this with q|q
    ·simp [Res.blk] at q
    ·exact q (by rw [hc];rfl)
 ·rw [hset]
  rw [far_map] at hfar ⊢
  have:((M++Mf).set i (.loc b cs')).map Res.blk=(M++Mf).map Res.blk:=by
   apply List.ext_getElem (by simp)
   intro j h1 h2
   simp only [List.getElem_map,List.getElem_set]
   split
   ·rename_i e;subst e
    rw [List.getElem_append_left hil,hMi];rfl
   ·rfl
  rw [this];exact hfar
theorem op_store {x y:Operand} {t:TypeId} {s b off i:Nat} {v:AV} {cs cs':List AV} (ho:o.op=.store t x y) (ht:(P.info? t).map (·.size)=some s) (hx:al.ev x=some (.ptr b off)) (hy:al.ev y=some v) (hf:v.flat=true) (hs:v.cells.length=s) (hm:M[i]?=some (.loc b cs)) (hl:off+s≤cs.length) (hc:setL cs off v.cells=cs') (q:K (.val undef) (M.set i (.loc b cs'))):OpT P o al M K:=by
 intro n B F Mf a w hi hsl ro
 have h:=hsl.ev hx
 generalize he:a.eval x=u at h
 cases h with
 | ptr =>
  obtain ⟨h1,h2⟩:=(hsl.ev hy).cells hf
  obtain ⟨hB,hF,vs,T,hb,hr,h3⟩:=hi.loc hm
  have hlen:=hr.len
  have hl1:=h1.len
  obtain ⟨w',q1,q2,q3,q4,q5,q6,q7⟩:=storeCells_run (P:=P) (a.eval y).cells.toList w vs off 0 hb h2 (by omega)
  have e:(execOp a.eval o).run P w=.ok .skip w':=by
   obtain ⟨inf,hinf,hsz⟩:=Option.map_eq_some_iff.1 ht
   have hcs:(a.eval y).cells.size=s:=by rw [← hs,hl1];simp
   simp [execOp,ho,he,Instr.storeAt,Instr.sureAddr,storeVar,sizeOf,typeInfo,hinf,hsz,hcs,q1]
  subst hc
  refine wpR_skip e ⟨undef,.val undef,_,F,rfl,q,.val _,Ext.refl F,hi.store hm q2 (h1.setL off hr) (setL_one _ _ _ h2 h3) q3 q4,⟨q5,q6,q7,by omega,fun k hk=>q3 k (by omega)⟩⟩
def ARes1 (P:Program) (al:Sl) (M:Mem):ResultVar→AV→Prop
 | .tmp t,v=>al.lookup t=some v
 | .cell t T,v=>∃ (b off i:Nat) (cs:List AV),al.lookup t=some (.ptr b off)∧M[i]?=some (Res.loc b cs)∧((∃ s,tyAgg P T=some (some s)∧v=.agg ((cs.drop off).take s)∧off+s≤cs.length)∨(tyAgg P T=some none∧cs[off]?=some v))
def resSem (tmps:Array Value):ResultVar→Sem Value
 | .tmp t=>pure (tmps.getD t undef)
 | .cell a t=>do loadVar t (← asAddr (tmps.getD a undef))
theorem ARes1.run {n B:Nat} {F:EH} {Mf:Mem} {a:Act} {w:World} (hi:Inv B F (M++Mf) w) (hs:Slots n F al a.tmps) {r:ResultVar} {v:AV} (h:ARes1 P al M r v) :
    ∃ u,Rel F v u∧(resSem a.tmps r).run P w=.ok u w:=by
 cases r with
 | tmp t =>
  rw [ARes1] at h
  exact ⟨_,(hs.2 t v h).2,rfl⟩
 | cell t T =>
  rw [ARes1] at h
  obtain ⟨b,off,i,cs,h1,hm,h2⟩:=h
  have hr:=(hs.2 t _ h1).2
  generalize he:a.tmps.getD t undef=u at hr
  cases hr
  obtain ⟨_,_,vs,T',hb,hr0,h3⟩:=hi.loc hm
  have hln:=hr0.len
  rcases h2 with ⟨s,ht,rfl,hsl⟩|⟨ht,hc⟩
  ·refine ⟨.agg ((vs.drop off).take s).toArray,.agg ((hr0.drop off).take s) (fun v hv=>h3 v (List.mem_of_mem_drop (List.mem_of_mem_take hv))),?_⟩
   have hcell:∀ j x,((vs.drop off).take s)[j]?=some x→w.cell? ⟨b,off+j,none⟩=some x:=by
    intro j x hx
    rw [cell_block hb]
    rw [List.getElem?_take] at hx
    split at hx
    ·rwa [List.getElem?_drop] at hx
    ·simp at hx
   have hload:=loadCells_run (P:=P) hcell
   rw [show ((vs.drop off).take s).length=s from by simp;omega] at hload
   obtain ⟨a1,a2⟩:=tyAgg_some ht w
   simp [resSem,he,asAddr,loadVar,a1,a2,hload]
  ·obtain ⟨u,h4,h5⟩:=hr0.get hc
   refine ⟨u,h5,?_⟩
   have hcell:=cell_block hb off
   rw [h4] at hcell
   obtain ⟨a1,a2⟩:=tyAgg_none ht w
   simp [resSem,he,asAddr,loadVar,a1,hcell]
inductive AResL (P:Program) (al:Sl) (M:Mem):List ResultVar→List AV→Prop
 | nil:AResL P al M [] []
 | cons {r:ResultVar} {v:AV} {rs:List ResultVar} {vs:List AV} (h:ARes1 P al M r v) (hs:AResL P al M rs vs):AResL P al M (r::rs) (v::vs)
def oneOf:List AV→AV
 | [v]=>v
 | vs=>.tup vs
theorem AResL.run {n B:Nat} {F:EH} {Mf:Mem} {a:Act} {w:World} (hi:Inv B F (M++Mf) w) (hs:Slots n F al a.tmps):∀ {rs:List ResultVar} {vs:List AV},AResL P al M rs vs →
    ∃ us,Rels F vs us∧(rs.mapM (resSem a.tmps)).run P w=.ok us w
 | _,_,.nil=>⟨[],.nil,by simp⟩
 | _,_,.cons h k=>by
  obtain ⟨u,h1,h2⟩:=ARes1.run (P:=P) hi hs h
  obtain ⟨us,h3,h4⟩:=AResL.run hi hs k
  refine ⟨u::us,.cons h1 h3,?_⟩
  rw [List.mapM_cons]
  simp only [Sem.run_bind]
  rw [h2]
  simp only [Result.andThen_ok,h4,Sem.run_pure]
theorem results_run {n B:Nat} {F:EH} {Mf:Mem} {a:Act} {w:World} (hi:Inv B F (M++Mf) w) (hs:Slots n F al a.tmps) {fn:Func} {vs:List AV} (h:AResL P al M fn.results.toList vs):∃ u,Rel F (oneOf vs) u∧(results fn a.tmps).run P w=.ok u w:=by
 obtain ⟨us,h1,h2⟩:=h.run hi hs
 have hln:=h1.len
 have e:results fn a.tmps=(fn.results.mapM (resSem a.tmps) >>= fun vs=>pure (if h:vs.size=1 then vs[0] else .tuple vs)):=by
  unfold results
  congr
 have e2:(fn.results.mapM (resSem a.tmps)).run P w=.ok us.toArray w:=by
  rw [Array.mapM_eq_mapM_toList,Sem.run_map,h2];rfl
 rw [e,Sem.run_bind,e2]
 simp only [Result.andThen_ok,Sem.run_pure]
 cases h1 with
 | nil=>exact ⟨_,.tup .nil,by simp⟩
 | cons k ks =>
  cases ks with
  | nil=>exact ⟨_,k,by simp⟩
  | cons k2 ks=>exact ⟨_,.tup (.cons k (.cons k2 ks)),by simp⟩
def argSl:Nat→List AV→Sl
 | _,[]=>[]
 | k,v::vs=>(k,v)::argSl (k+1) vs
theorem argSl_get:∀ (vs:List AV) (k t:Nat) (v:AV),(argSl k vs).lookup t=some v→k≤t∧vs[t - k]?=some v
 | [],k,t,v,h=>by simp [argSl] at h
 | a::vs,k,t,v,h=>by
  simp only [argSl,List.lookup_cons] at h
  by_cases e:t=k
  ·subst e
   simp at h;subst h
   simp
  ·have:(t == k)=false:=by simpa using e
   rw [this] at h
   obtain ⟨h1,h2⟩:=argSl_get vs (k+1) t v h
   refine ⟨by omega,?_⟩
   rw [show t - k=(t - (k+1))+1 from by omega]
   simpa using h2
def Out (P:Program) (fn:Func) (R:AV→Mem→Prop):Exit→Sl→Mem→Prop
 | .normal,al,M|.ret,al,M=>∃ vs v M',AResL P al M fn.results.toList vs∧Le (oneOf vs) v∧MLe M M'∧R v M'
 | _,_,_=>False
theorem Zj {f : FuncId} {fn : Func} {c : Code} {n : Nat} {args : List AV} {R : AV → Mem → Prop} (hf : P.funcs[f]? = some fn) (hb : fn.body = some c) (hname : (fn.name == "runtime.NumGoroutine") = false) (hn : fn.ntmps = n) (hl : args.length ≤ n)
    (h:ACode none P n c (Out P fn R) (argSl 0 args) M):ACall P f args M R:=by
 refine ⟨enters_of hf hname (by rw [hb];rfl),fun B F Mf w vs hi hr=>?_⟩
 refine (callsIn_RF (ro:=none) (n:=0)).1 (callsIn_of_wp_marks hf hb trivial (Code.wpIn_mono (fun e a' w' hp=>?_) (h B F Mf _ w hi ?_)))
 ·have key:∀ (Ds:List Nat) (w':World) (F':EH) (al':Sl) (M':Mem),(∃ vs v M'',AResL P al' M' fn.results.toList vs∧Le (oneOf vs) v∧MLe M' M''∧R v M'')→Ext F F'→Inv B F' (M'++(Ds.map spent++Mf)) w'→Slots n F' al' a'.tmps→Below B w w' →
      LeavesInM (RF none) 0 P fn a'.tmps (fun e w'=>∃ u v M' F',e=.returned u∧R v M'∧Rel F' v u∧Ext F F'∧Inv B F' (M'++Mf) w'∧Below B w w') (Ds.map mark++[]) .returning w':=by
   intro Ds
   induction Ds with
   | nil =>
    rintro w' F' al' M' ⟨vs,v,M'',k1,k2,k3,k4⟩ h2 h3 h4 h6
    obtain ⟨u,j1,j2⟩:=results_run (P:=P) h3 h4 k1
    exact ⟨u,j2,u,v,M'',F',rfl,k4,k2 _ _ j1,h2,h3.le k3,h6⟩
   | cons D Ds ih =>
    intro w' F' al' M' hq h2 h3 h4 h6
    have h3':Inv B F' (spent D::(M'++(Ds.map spent++Mf))) w':=h3.perm (List.perm_middle (a:=spent D) (l₁:=M') (l₂:=Ds.map spent++Mf))
    obtain ⟨q1,q2,_⟩:=h3'.objPut (.deferred none)
    obtain ⟨_,_,o,hobj,_,ho⟩:=h3'.ok _ (List.mem_cons_self)
    have ho:=ho F' (Ext.refl F')
    subst ho
    exact ⟨by simp,.inl ⟨D,_,rfl,run_takeDeferred hobj,ih _ F' al' M' hq h2 q1 h4 (h6.trans q2)⟩⟩
  obtain ⟨Ds,F',al',M',hq,h2,h3,h4,h5,h6⟩:=hp
  cases e with
  | normal=>have:=key Ds w' F' al' M' hq h2 h3 h4 h6;rw [← h5] at this;exact this
  | ret=>have:=key Ds w' F' al' M' hq h2 h3 h4 h6;rw [← h5] at this;exact this
  | exit id=>exact hq.elim
  | goto l=>exact hq.elim
  | panic c=>exact hq.elim
  | outgrown=>exact hq.elim
 ·have hlen:=hr.len
  refine ⟨by simp [hn];omega,fun t v e=>?_⟩
  obtain ⟨_,e⟩:=argSl_get args 0 t v e
  obtain ⟨u,h1,h2⟩:=hr.get (i:=t) (a:=v) (by simpa using e)
  have hlt:t<vs.length:=by
   rcases Nat.lt_or_ge t vs.length with k|k
   ·exact k
   ·rw [List.getElem?_eq_none k] at h1;simp at h1
  refine ⟨by omega,?_⟩
  have:(vs.toArray++Array.replicate (fn.ntmps - vs.toArray.size) undef).getD t undef=u:=by
   rw [Array.getD_eq_getD_getElem?,Array.getElem?_append_left (by simpa using hlt)]
   simp [h1]
  rw [this];exact h2
end
structure ElT (P:Program) (t e:TypeId) (z:Value) (m bytes:Nat):Prop where
 und:P.underlying t=some (.slice e)
 info:(P.info? e).map (fun i=>(i.zero,i.size,i.bytes))=some (some z,m,bytes)
 zs:z.cells.size=m
 pos:0<m
 small:bytes≤1024
section
variable {P:Program} {al:Sl} {M:Mem} {K:AV→Mem→Prop} {o:Oper}
theorem run_app {w:World} {t e ty:TypeId} {z:Value} {m bytes:Nat} (E:ElT P t e z m bytes) (base:Nat) (v:Value) (n:Nat) (xs:List Value) (hown:w.ownsRow base e m v n xs)
    (a:Addr) (k c:Nat) (news:List Value) (hl:news.length=k * m) (hnews:∀ j u,news[j]?=some u→w.cell? (a.add j)=some u) (h1:Ones news) (hn:n+k≤100000000000) (hbase:base≤w.heap.size) :
    ∃ v' w',(Builtin.append_ #[t,t] ty #[v,.slice (some a) k c]).run P w=.ok v' w'∧w'.ownsRow base e m v' (n+k) (xs++news) ∧
     ((w.grownBy w' v.ownBlock∧v'.ownBlock=v.ownBlock)∨(w.grownBy w' none∧v'.ownBlock=some w.heap.size)):=by
 obtain ⟨i,hi,hz,rfl,rfl⟩:=info_parts E.info
 have h63:n+k≤maxLen:=by unfold maxLen;omega
 have hbytes:(n+k) * i.bytes≤140737488355328:=by
  have h2:(n+k) * i.bytes≤100000000000 * 1024:=Nat.mul_le_mul hn E.small
  omega
 have hsmall:n+k≤9223372036854775807:=by omega
 have hlen:(xs++news).length=(n+k) * i.size:=by rw [List.length_append,hown.1,hl,Nat.add_mul]
 have new:∀ old,(w.drew.alloc (.cells (xs.toArray++news.toArray++Builtin.zeroCells z.cells (grownCap w (n+k) old e - (n+k))) e)).ownsRow base e i.size (.slice (some ⟨w.heap.size,0,none⟩) (n+k) (grownCap w (n+k) old e)) (n+k) (xs++news) ∧
     w.grownBy (w.drew.alloc (.cells (xs.toArray++news.toArray++Builtin.zeroCells z.cells (grownCap w (n+k) old e - (n+k))) e)) none:=by
  intro old
  have hge:=grownCap_ge w (n+k) old e
  refine ⟨⟨hlen,.inr ⟨w.heap.size,_,_,rfl,hbase,heap_alloc_new w.drew _,hge,grownCap_le_maxLen w (n+k) old e h63,?_,?_⟩⟩,rfl,rfl,rfl,by simp,fun j hj _=>heap_alloc_old w.drew _ hj⟩
  ·have h3:=E.zs
   simp only [Array.size_append,List.size_toArray,size_zeroCells,h3,hown.1,hl,← Nat.add_mul]
   congr 1
   omega
  ·simp only [Array.toList_append,List.append_assoc]
   rw [← List.append_assoc,← hlen]
   exact List.take_left
 rcases hown.2 with ⟨rfl,rfl⟩|⟨g,cap,cur,rfl,hbg,hg,hnc,hcm,hcs,htake⟩
 ·have hx:xs=[]:=List.eq_nil_of_length_eq_zero (by simpa using hown.1)
  subst hx
  by_cases hk:k=0
  ·subst hk
   have hn:news=[]:=List.eq_nil_of_length_eq_zero (by simpa using hl)
   subst hn
   refine ⟨.slice none 0 0,w,?_,World.ownsRow_nil w base e i.size,.inl ⟨⟨rfl,rfl,rfl,Nat.le_refl _,fun _ _ _=>rfl⟩,rfl⟩⟩
   simp [Builtin.append_,run_underlying E.und,sizeOf,typeInfo,hi,Builtin.lenOf,Builtin.firstCells,loadCells,loadCellsFrom]
  ·have hr:=run_append_nil (P:=P) w t ty e i z E.und hi hz a k c news hl hnews (by omega) (by omega) (by have hb:=hbytes;simp only [Nat.zero_add] at hb;omega)
   have hgr:=new 0
   simp only [Nat.zero_add,List.nil_append,Array.empty_append] at hgr ⊢
   exact ⟨_,_,hr,hgr.1,.inr ⟨hgr.2,rfl⟩⟩
 ·by_cases hroom:n+k≤cap
  ·have hfit:n * i.size+news.length≤cur.size:=by rw [hl,hcs,← Nat.add_mul];exact Nat.mul_le_mul_right _ hroom
   have hr:=run_append_room (P:=P) w t ty e i E.und hi g n cap cur hg a k c news hl hnews h1 hroom hfit
   refine ⟨_,_,hr,⟨hlen,.inr ⟨g,cap,_,rfl,hbg,setRow_heap w g cur _ e _ hg,hroom,hcm,?_,?_⟩⟩,.inl ⟨⟨rfl,rfl,rfl,by simp,fun j _ hj=>setRow_other w g j _ (fun e=>hj (by simp [Value.ownBlock,e]))⟩,rfl⟩⟩
   ·simp only [List.size_toArray,List.length_append,List.length_take,List.length_drop,Array.length_toList]
    omega
   ·rw [htake,← hlen]
    exact List.take_left
  ·have holds:∀ j u,xs[j]?=some u→w.cell? ((⟨g,0,none⟩:Addr).add j)=some u:=hown.cells (g:=g) rfl
   have hr:=run_append_grow (P:=P) w t ty e i z E.und hi hz ⟨g,0,none⟩ n cap xs hown.1 holds a k c news hl hnews (by omega) (by omega) (growslice_fits (by omega) hbytes)
   have hgr:=new cap
   exact ⟨_,_,hr,hgr.1,.inr ⟨hgr.2,rfl⟩⟩
theorem addr_add0 (b off j:Nat):(⟨b,off,none⟩:Addr).add j=⟨b,off+j,none⟩:=by
 unfold Addr.add;split <;> simp_all
theorem flat_len {m:Nat}:∀ {es:List (List AV)},(∀ e∈es,e.length=m)→es.flatten.length=es.length * m
 | [],_=>by simp
 | e::es,h=>by
  have h1:=h e (by simp)
  have h2:=flat_len (fun x hx=>h x (by simp [hx]):∀ x∈es,x.length=m)
  simp only [List.flatten_cons,List.length_append,h1,h2,List.length_cons,Nat.add_mul]
  omega
theorem own_vals {B:Nat} {F:EH} {w:World} {e:TypeId} {m n:Nat} {u:Value} {es:List (List AV)} {xs:List Value} (hfix:∀ b i x,F b i=some x→w.cell? ⟨b,i,none⟩=some x) (hown:w.ownsRow B e m u n xs) (hr:Rel F (.seq m es) u) :
    n=es.length∧Rels F es.flatten xs∧Ones xs∧∀ x∈es,x.length=m:=by
 cases hr with
 | seq0 _ ao cap h =>
  rcases hown.2 with ⟨_,rfl⟩|⟨g,cap',cur,hv,_⟩
  ·have hx:xs=[]:=List.eq_nil_of_length_eq_zero (by simpa using hown.1)
   subst hx
   exact ⟨rfl,.nil,by intro v hv;simp at hv,by simp⟩
  ·cases hv
   have hx:xs=[]:=List.eq_nil_of_length_eq_zero (by simpa using hown.1)
   subst hx
   exact ⟨rfl,.nil,by intro v hv;simp at hv,by simp⟩
 | seq b off cap hm hn hl h h1 hcq =>
  rename_i vs
  have hln:=h.len
  rw [flat_len hm] at hln
  rcases hown.2 with ⟨hv,_⟩|⟨g,cap',cur,hv,_⟩
  ·cases hv
  ·cases hv
   have e:vs=xs:=by
    apply List.ext_getElem?
    intro j
    rcases Nat.lt_or_ge j vs.length with hj|hj
    ·have h3:=hfix _ _ _ (hl j vs[j] (List.getElem?_eq_getElem hj))
     have h4:=hown.cellAt j (by omega)
     rw [Nat.zero_add] at h3
     rw [List.getElem?_eq_getElem hj,← h4,h3]
    ·rw [List.getElem?_eq_none hj,List.getElem?_eq_none (by rw [hown.1];omega)]
   subst e
   exact ⟨rfl,h,h1,hm⟩
def EH.grow (F:EH) (bo:Option Nat) (vs:List Value):EH:=fun b i=>if some b=bo∧i<vs.length then vs[i]? else F b i
theorem append_core {B:Nat} {F:EH} {R:Mem} {w:World} {t e ty:TypeId} {z:Value} {m bytes:Nat} {u src:Value} {es es':List (List AV)} (E:ElT P t e z m bytes) (hi:Inv B F (.own e m u::R) w) (hu:Rel F (.seq m es) u) (hv:Rel F (.seq m es') src) (hn:es.length+es'.length≤100000000000) :
    ∃ u' w' F',(Builtin.append_ #[t,t] ty #[u,src]).run P w=.ok u' w'∧Rel F' (.seq m (es++es')) u'∧Ext F F'∧Inv B F' (.own e m u'::R) w'∧Below B w w':=by
 obtain ⟨n,xs,hown,hslack⟩:=hi.ok _ (List.mem_cons_self)
 obtain ⟨rfl,hrx,hox,hwx⟩:=own_vals hi.fix hown hu
 have src2:(src=.slice none 0 0∧es'=[])∨∃ a c news,src=.slice (some a) es'.length c∧news.length=es'.length * m∧(∀ j u,news[j]?=some u→w.cell? (a.add j)=some u)∧Ones news∧Rels F es'.flatten news∧∀ x∈es',x.length=m:=by
  cases hv with
  | seq0 _ ao cap h =>
   cases ao with
   | none=>exact .inl ⟨by rw [h rfl],rfl⟩
   | some a=>exact .inr ⟨a,cap,[],rfl,by simp,by simp,by intro v hv;simp at hv,.nil,by simp⟩
  | seq b off cap hm hn hl h h1 hcq =>
   rename_i vs
   refine .inr ⟨_,cap,vs,rfl,by rw [← h.len,flat_len hm],fun j x hx=>?_,h1,h,hm⟩
   rw [addr_add0]
   exact hi.fix _ _ _ (hl j x hx)
 rcases src2 with ⟨rfl,rfl⟩|⟨a,c,news,rfl,hl,hc,h1,hrn,hwn⟩
 ·obtain ⟨i,hinf,_⟩:=info_parts E.info
  have hrun:=run_append_owned_none (P:=P) (w:=w) B t ty e i m E.und hinf u es.length xs hown
  exact ⟨u,w,F,hrun,by simpa using hu,Ext.refl F,hi,Below.refl _ _⟩
 ·obtain ⟨u',w',hrun,hown',hcase⟩:=run_app (ty:=ty) E B u es.length xs hown a es'.length c news hl hc h1 hn hi.base
  have hlen:(xs++news).length=(es.length+es'.length) * m:=hown'.1
  have hb0:∀ k,k<B→w'.heap[k]?=w.heap[k]?:=by
   intro k hk
   have hkw:k<w.heap.size:=Nat.lt_of_lt_of_le hk hi.base
   rcases hcase with ⟨hg,_⟩|⟨hg,_⟩
   ·refine hg.block k hkw (fun e=>?_)
    have h5:=(hi.ok _ (List.mem_cons_self)).ge (b:=k) e.symm
    omega
   ·exact hg.block k hkw (by simp)
  have hmisc:w'.os=w.os∧w'.tape=w.tape∧w'.output=w.output∧w.heap.size≤w'.heap.size:=by
   rcases hcase with ⟨hg,_⟩|⟨hg,_⟩ <;> exact ⟨hg.os,hg.tape,hg.output,hg.size⟩
  have hgrow:Ext F (F.grow u'.ownBlock (xs++news)):=by
   intro b i x h
   unfold EH.grow
   split
   ·rename_i hh
    obtain ⟨hb,hil⟩:=hh
    rcases hcase with ⟨_,he⟩|⟨_,he⟩
    ·rw [he] at hb
     have hin:i<es.length * m:=by
      rcases Nat.lt_or_ge i (es.length * m) with q|q
      ·exact q
      ·rw [hslack b i hb.symm q] at h;simp at h
     rw [List.getElem?_append_left (by rw [hown.1];exact hin)]
     have h2:=hi.fix b i x h
     rcases hown.2 with ⟨rfl,_⟩|⟨g,cap,cur,rfl,_⟩
     ·simp [Value.ownBlock] at hb
     ·simp [Value.ownBlock] at hb
      subst hb
      rw [← hown.cellAt i hin];exact h2
    ·rw [he] at hb
     simp at hb
     rw [hi.dom (by omega)] at h
     simp at h
   ·exact h
  refine ⟨u',w',F.grow u'.ownBlock (xs++news),hrun,?_,hgrow,?_,⟨hmisc.1,hmisc.2.1,hmisc.2.2.1,hmisc.2.2.2,hb0⟩⟩
  ·rcases hown'.2 with ⟨rfl,h0⟩|⟨g,cap,cur,rfl,_,_,hcp,_⟩
   ·have e1:es=[]:=List.eq_nil_of_length_eq_zero (by omega)
    have e2:es'=[]:=List.eq_nil_of_length_eq_zero (by omega)
    subst e1 e2
    exact .seq0 m none 0 (fun _=>rfl)
   ·have hh:=Rel.seq (F:=F.grow (Value.ownBlock (.slice (some ⟨g,0,none⟩) (es.length+es'.length) cap)) (xs++news)) (m:=m) (es:=es++es') (vs:=xs++news) g 0 cap (by
        intro x hx
        rcases List.mem_append.1 hx with q|q
        ·exact hwx x q
        ·exact hwn x q) (by rw [List.length_append];unfold maxLen;omega) (by
        intro j x hx
        have hj:j<(xs++news).length:=by
         rcases Nat.lt_or_ge j (xs++news).length with q|q
         ·exact q
         ·rw [List.getElem?_eq_none q] at hx;simp at hx
        unfold EH.grow
        rw [if_pos ⟨by rw [Value.ownBlock],by omega⟩,Nat.zero_add]
        exact hx) (by
        rw [List.flatten_append]
        exact (hrx.app hrn).mono hgrow) (by
        intro v hv
        rcases List.mem_append.1 hv with q|q
        ·exact hox v q
        ·exact h1 v q) (by rw [List.length_append];exact hcp)
    rwa [List.length_append] at hh
  ·have hfar:=hi.far
   rw [List.pairwise_cons] at hfar
   have ublk:∀ r∈R,Far (.own e m u') r:=by
    intro r hr
    rcases hcase with ⟨_,he⟩|⟨_,he⟩
    ·have:=hfar.1 r hr
     unfold Far at this ⊢
     simp only [Res.blk] at this ⊢
     rw [he];exact this
    ·right
     simp only [Res.blk,he]
     intro q
     have:=(hi.ok r (List.mem_cons_of_mem _ hr)).lt (b:=w.heap.size) q.symm
     omega
   refine ⟨Nat.le_trans hi.base hmisc.2.2.2,fun b i x h=>?_,fun r hr=>?_,List.pairwise_cons.2 ⟨ublk,hfar.2⟩⟩
   ·unfold EH.grow at h
    split at h
    ·rename_i hh
     obtain ⟨hb,hil⟩:=hh
     rcases hown'.2 with ⟨rfl,_⟩|⟨g,cap,cur,rfl,_⟩
     ·simp [Value.ownBlock] at hb
     ·simp [Value.ownBlock] at hb
      subst hb
      rw [hown'.cellAt i (by omega)];exact h
    ·rename_i hh
     have h2:=hi.fix b i x h
     have hlt:=cell_size h2
     rcases hcase with ⟨hg,he⟩|⟨hg,he⟩
     ·by_cases q:some b=u.ownBlock
      ·exfalso
       have hin:i<es.length * m:=by
        rcases Nat.lt_or_ge i (es.length * m) with q2|q2
        ·exact q2
        ·rw [hslack b i q.symm q2] at h;simp at h
       exact hh ⟨by rw [he];exact q,by rw [List.length_append,hown.1];omega⟩
      ·rw [World.cell?_of_block (w:=w) (hg.block b hlt q)];exact h2
     ·rw [World.cell?_of_block (w:=w) (hg.block b hlt (by simp))];exact h2
   ·rcases List.mem_cons.1 hr with rfl|hr
    ·refine ⟨es.length+es'.length,xs++news,hown',fun g i hg hin=>?_⟩
     unfold EH.grow
     rw [if_neg (fun q=>by omega)]
     rcases hcase with ⟨_,he⟩|⟨_,he⟩
     ·rw [he] at hg
      exact hslack g i hg (by rw [Nat.add_mul] at hin;omega)
     ·rw [he] at hg
      simp at hg
      exact hi.dom (by omega)
    ·have hro:=hi.ok r (List.mem_cons_of_mem _ hr)
     refine hro.stay hgrow (fun b hb=>?_)
     have hlt:=hro.lt hb
     have hne:some b≠u.ownBlock:=by
      intro q
      rcases hfar.1 r hr with k|k
      ·simp only [Res.blk] at k;rw [k] at q;simp at q
      ·exact k (by rw [hb,q];rfl)
     have hne':some b≠u'.ownBlock:=by
      intro q
      rcases ublk r hr with k|k
      ·simp only [Res.blk] at k;rw [k] at q;simp at q
      ·exact k (by rw [hb,q];rfl)
     refine ⟨?_,fun i=>?_⟩
     ·rcases hcase with ⟨hg,_⟩|⟨hg,_⟩
      ·exact hg.block b hlt hne
      ·exact hg.block b hlt (by simp)
     ·unfold EH.grow
      rw [if_neg (fun q=>hne' q.1)]
theorem perm_at:∀ {M:Mem} {i:Nat} {r:Res},M[i]?=some r→M.Perm (r::M.eraseIdx i)
 | [],i,r,h=>by simp at h
 | x::M,0,r,h=>by simp at h;subst h;simp
 | x::M,i+1,r,h=>by
  have:=perm_at (M:=M) (i:=i) (r:=r) (by simpa using h)
  rw [List.eraseIdx_cons_succ]
  exact (this.cons x).trans (List.Perm.swap r x _)
theorem perm_set {M:Mem} {i:Nat} (r:Res) (hil:i<M.length):(M.set i r).Perm (r::M.eraseIdx i):=by
 have:=perm_at (M:=M.set i r) (i:=i) (r:=r) (by simp [hil])
 rwa [List.eraseIdx_set_eq] at this
theorem op_append {s x:Operand} {t e:TypeId} {z u:Value} {m bytes i:Nat} {v:AV} {es es':List (List AV)} (E:ElT P t e z m bytes) (ho:o.op=.call { callee:=.builtin .append,args:=#[s,x],argTypes:=#[t,t] }) (hs:al.ev s=some (.own u m es)) (hm:M[i]?=some (.own e m u)) (hx:al.ev x=some v) (hv:IsSeq v m es') (hn:es.length+es'.length≤100000000000)
    (q:∀ u',K (.own u' m (es++es')) (M.set i (.own e m u'))):OpT P o al M K:=by
 intro n B F Mf a w hi hsl ro
 have hil:i<M.length:=by
  rcases Nat.lt_or_ge i M.length with k|k
  ·exact k
  ·rw [List.getElem?_eq_none k] at hm;simp at hm
 have hu:=hsl.ev hs
 generalize he:a.eval s=u0 at hu
 cases hu with
 | own _ hu =>
  have hi2:=hi.perm ((perm_at hm).append_right Mf)
  rw [List.cons_append] at hi2
  obtain ⟨u',w',F',h1,h2,h3,h4,h5⟩:=append_core (ty:=o.type) E hi2 hu (hv.rel (hsl.ev hx)) hn
  have e:(execOp a.eval o).run P w=.ok (.value u') w':=by
   simp [execOp,ho,resolve,invoke,builtin,he,h1]
  refine wpR_value e ⟨u',_,_,F',rfl,q u',.own u' h2,h3,?_,h5⟩
  rw [← List.cons_append] at h4
  exact h4.perm ((perm_set _ hil).append_right Mf).symm
theorem Inv.ownNil {B:Nat} {F:EH} {M:Mem} {w:World} (hi:Inv B F M w) (e:TypeId) (m:Nat):Inv B F (.own e m (.slice none 0 0)::M) w:=by
 refine ⟨hi.base,hi.fix,fun r hr=>?_,List.pairwise_cons.2 ⟨fun r _=>Or.inl rfl,hi.far⟩⟩
 rcases List.mem_cons.1 hr with rfl|hr
 ·exact ⟨0,[],World.ownsRow_nil w B e m,fun g i hg=>by simp [Value.ownBlock] at hg⟩
 ·exact hi.ok r hr
theorem ACode.ownNil {ro:Option Nat} {n:Nat} {Q:Exit→Sl→Mem→Prop} {c:Code} {t:Nat} (e:TypeId) (m:Nat) (ht:al.lookup t=some (.val (.slice none 0 0))) (h:ACode ro P n c Q ((t,.own (.slice none 0 0) m [])::al) (.own e m (.slice none 0 0)::M)):ACode ro P n c Q al M:=by
 intro B F Mf a w hi hs
 refine h B F Mf a w (hi.ownNil e m) ⟨hs.1,fun t' v e=>?_⟩
 simp only [List.lookup_cons] at e
 by_cases q:t'=t
 ·subst q
  simp at e;subst e
  have:=hs.2 t' _ ht
  refine ⟨this.1,?_⟩
  have h2:=this.2
  generalize a.tmps.getD t' undef=y at h2
  cases h2
  exact .own _ (.seq0 m none 0 (fun _=>rfl))
 ·have:(t' == t)=false:=by simpa using q
  rw [this] at e
  exact hs.2 t' v e
end
def idx {α:Type}:Nat→List α→List (Nat × α)
 | _,[]=>[]
 | k,x::xs=>(k,x)::idx (k+1) xs
theorem idx_map {α β:Type} (f:α→β):∀ (k:Nat) (xs:List α),(idx k xs).map (fun x=>(x.1,f x.2))=idx k (xs.map f)
 | _,[]=>rfl
 | k,x::xs=>by simp [idx,idx_map f (k+1) xs]
theorem setL_app {α:Type}:∀ (xs pre rest:List α),xs.length≤rest.length→setL (pre++rest) pre.length xs=pre++xs++rest.drop xs.length
 | [],pre,rest,_=>by simp [setL]
 | x::xs,pre,[],h=>by simp at h
 | x::xs,pre,r::rest,h=>by
  have h2:=setL_app xs (pre++[x]) rest (by simpa using h)
  rw [setL]
  simp only [List.length_append,List.length_cons,List.length_nil,List.append_assoc,List.cons_append,List.nil_append] at h2
  rw [List.set_append_right _ _ (by omega)]
  simpa using h2
theorem fold_set:∀ (l:List Value) (k off:Nat) (cs:Array Value),(l.zipIdx k).foldl (fun (cs:Array Value) (x:Value × Nat)=>cs.setIfInBounds (off+x.2) x.1) cs=(setL cs.toList (off+k) l).toArray
 | [],k,off,cs=>by simp [setL]
 | x::l,k,off,cs=>by
  rw [List.zipIdx_cons,List.foldl_cons,fold_set l (k+1) off,setL]
  simp [Nat.add_assoc]
theorem fill_one (place:Nat→Option (Nat × Nat)) (cs:List Value) (i off size:Nat) (v:Value) (rest:List (Nat × Value)) (hp:place i=some (off,size)) (hv:v.cells.size=size) (hl:off+size≤cs.length) :
    Instr.fill place cs.toArray ((i,v)::rest)=Instr.fill place (setL cs off v.cells.toList).toArray rest:=by
 rw [Instr.fill]
 simp only [hp]
 rw [if_neg (by simp [hv];omega)]
 congr 1
 have:=fold_set v.cells.toList 0 off cs.toArray
 rw [Nat.add_zero] at this
 rw [← this]
 simp only [← Array.foldl_toList,Array.toList_zipIdx]
theorem fill_row {size:Nat}:∀ (vs:List Value) (k:Nat) (pre rest:List Value),pre.length=k * size→rest.length=vs.length * size→(∀ v∈vs,v.cells.size=size) →
    Instr.fill (fun i=>some (i * size,size)) (pre++rest).toArray (idx k vs)=some (pre++(vs.map (fun v=>v.cells.toList)).flatten).toArray
 | [],k,pre,rest,_,h,_=>by
  have:rest=[]:=List.eq_nil_of_length_eq_zero (by simpa using h)
  subst this
  simp [idx,Instr.fill]
 | v::vs,k,pre,rest,h1,h2,h3=>by
  have hv:=h3 v (by simp)
  have hl:v.cells.toList.length=size:=by simpa using hv
  simp only [List.length_cons,Nat.add_mul,Nat.one_mul] at h2
  rw [idx,fill_one _ _ k (k * size) size v _ rfl hv (by simp;omega),← h1,setL_app _ _ _ (by omega)]
  rw [fill_row vs (k+1) (pre++v.cells.toList) (rest.drop v.cells.toList.length) (by simp only [List.length_append,hl,h1,Nat.add_mul,Nat.one_mul]) (by simp only [List.length_drop,hl];omega) (fun x hx=>h3 x (by simp [hx]))]
  simp
section
variable {P:Program} {al:Sl} {M:Mem} {K:AV→Mem→Prop} {o:Oper}
theorem Rels.rows {F:EH}:∀ {vs:List AV} {us:List Value},Rels F vs us→(∀ v∈vs,v.flat=true)→Rels F (vs.map AV.cells).flatten (us.map (fun u=>u.cells.toList)).flatten∧Ones (us.map (fun u=>u.cells.toList)).flatten
 | _,_,.nil,_=>⟨.nil,by intro v hv;simp at hv⟩
 | _,_,.cons h hs,hf=>by
  obtain ⟨h1,h2⟩:=h.cells (hf _ (by simp))
  obtain ⟨h3,h4⟩:=Rels.rows hs (fun v hv=>hf v (by simp [hv]))
  refine ⟨by simpa using h1.app h3,fun x hx=>?_⟩
  rw [List.map_cons,List.flatten_cons] at hx
  rcases List.mem_append.1 hx with q|q
  ·exact h2 x q
  ·exact h4 x q
theorem Rels.sizes {F:EH} {m:Nat}:∀ {vs:List AV} {us:List Value},Rels F vs us→(∀ v∈vs,v.flat=true)→(∀ v∈vs,v.cells.length=m)→∀ u∈us,u.cells.size=m
 | _,_,.nil,_,_=>by simp
 | _,_,.cons h hs,hf,hm=>by
  intro u hu
  rcases List.mem_cons.1 hu with rfl|hu
  ·have:=(h.cells (hf _ (by simp))).1.len
   rw [hm _ (by simp)] at this
   simpa using this.symm
  ·exact Rels.sizes hs (fun v hv=>hf v (by simp [hv])) (fun v hv=>hm v (by simp [hv])) u hu
theorem Inv.newOwn {B:Nat} {F:EH} {M:Mem} {w:World} (hi:Inv B F M w) {e:TypeId} {m n:Nat} {vs:List Value} (hl:vs.length=n * m) (hn:n≤maxLen):Inv B (F.new w.heap.size vs) (.own e m (.slice (some ⟨w.heap.size,0,none⟩) n n)::M) (w.alloc (.cells vs.toArray e)):=by
 have h:=hi.newFix vs e
 refine ⟨h.base,h.fix,fun r hr=>?_,List.pairwise_cons.2 ⟨fun r hr=>?_,h.far⟩⟩
 ·rcases List.mem_cons.1 hr with rfl|hr
  ·refine ⟨n,vs,⟨hl,.inr ⟨w.heap.size,n,vs.toArray,rfl,hi.base,by rw [alloc_get,if_pos rfl],Nat.le_refl _,hn,by simpa using hl,by simp [← hl]⟩⟩,fun g i hg hin=>?_⟩
   simp [Value.ownBlock] at hg
   subst hg
   unfold EH.new
   rw [if_pos rfl,List.getElem?_eq_none (by omega)]
  ·exact h.ok r hr
 ·right
  intro q
  have:=(hi.ok r hr).lt (b:=w.heap.size) (by rw [← q];rfl)
  omega
theorem run_buildSlice {w:World} {t e:TypeId} {z:Value} {m bytes:Nat} (E:ElT P t e z m bytes) (us:List Value) (hn:us.length * m≤16777216) (hs:∀ u∈us,u.cells.size=m) :
    (Instr.buildSlice t us.length (idx 0 us).toArray).run P w=.ok (.slice (some ⟨w.heap.size,0,none⟩) us.length us.length) (w.alloc (.cells (us.map (fun u=>u.cells.toList)).flatten.toArray e)):=by
 obtain ⟨i,hi,hz,rfl,_⟩:=info_parts E.info
 have hzr:(zeroValue e).run P w=.ok z w:=tyZero_run (by simp [tyZero,hi,hz]) w
 have hfill:∀ zs:Array Value,zs.size=us.length * i.size→Instr.fill (fun j=>some (j * i.size,i.size)) zs (idx 0 us)=some (us.map (fun u=>u.cells.toList)).flatten.toArray:=by
  intro zs hzs
  have:=fill_row us 0 [] zs.toList (by simp) (by simpa using hzs) hs
  simpa using this
 unfold Instr.buildSlice
 simp only [Sem.run_bind,run_underlying E.und,Result.andThen_ok,sizeOf,typeInfo,run_program,hi,Sem.run_pure]
 rw [if_neg (by omega)]
 by_cases h0:us.length * i.size=0
 ·rw [if_pos h0]
  simp only [Sem.run_bind,Sem.run_pure,Result.andThen_ok]
  rw [hfill _ (by simp [h0])]
  simp [newRow]
 ·rw [if_neg h0]
  simp only [Sem.run_bind,hzr,Result.andThen_ok,Sem.run_pure]
  rw [hfill _ (by simp)]
  simp [newRow]
theorem op_buildSlice_own {t e:TypeId} {z:Value} {m bytes len:Nat} {parts:Array (Nat × Operand)} {xs:List Operand} {vs:List AV} (E:ElT P t e z m bytes) (ho:o.op=.buildSlice t len parts) (hp:parts.toList=idx 0 xs) (hlen:xs.length=len) (hx:xs.mapM al.ev=some vs) (hf:vs.all (·.flat)=true) (hc:vs.all (fun v=>v.cells.length == m)=true) (hn:len * m≤16777216)
    (q:∀ u,K (.own u m (vs.map AV.cells)) (.own e m u::M)):OpT P o al M K:=by
 intro n B F Mf a w hi hsl ro
 have hf:∀ v∈vs,v.flat=true:=List.all_eq_true.1 hf
 have hc:∀ v∈vs,v.cells.length=m:=fun v hv=>by simpa using List.all_eq_true.1 hc v hv
 have hr:=Rels.map_ev hsl hx
 have hsz:=Rels.sizes hr hf hc
 obtain ⟨h1,h2⟩:=Rels.rows hr hf
 have hln:vs.length=len:=by rw [← hlen];simpa using hr.len
 have hrun:=run_buildSlice (P:=P) (w:=w) E (xs.map a.eval) (by simpa [hlen] using hn) hsz
 have hparts:parts.map (fun x=>(x.1,a.eval x.2))=(idx 0 (xs.map a.eval)).toArray:=by
  rw [← Array.toList_inj,Array.toList_map,hp,idx_map]
 have e1:(execOp a.eval o).run P w=.ok (.value (.slice (some ⟨w.heap.size,0,none⟩) len len)) (w.alloc (.cells ((xs.map a.eval).map (fun u=>u.cells.toList)).flatten.toArray e)):=by
  simp only [List.length_map,hlen] at hrun
  simp only [execOp,ho,hparts,Sem.run_bind,hrun,Result.andThen_ok,Sem.run_pure]
 have hwide:∀ x∈vs.map AV.cells,x.length=m:=by
  intro x hx
  obtain ⟨v,hv,rfl⟩:=List.mem_map.1 hx
  exact hc v hv
 have hl3:((xs.map a.eval).map (fun u=>u.cells.toList)).flatten.length=len * m:=by rw [← h1.len,flat_len hwide];simp [hln]
 have hpos:=E.pos
 have hlm:len≤maxLen:=by
  have h5:len * 1≤len * m:=Nat.mul_le_mul_left len hpos
  unfold maxLen;omega
 refine wpR_value e1 ⟨_,.own (.slice (some ⟨w.heap.size,0,none⟩) len len) m (vs.map AV.cells),_,_,rfl,q _,?_,EH.new_ext hi _,hi.newOwn hl3 hlm,alloc_below _ hi.base⟩
 refine .own _ ?_
 have:=Rel.seq (F:=F.new w.heap.size ((xs.map a.eval).map (fun u=>u.cells.toList)).flatten) (m:=m) (es:=vs.map AV.cells) w.heap.size 0 len hwide (by simpa [hln] using hlm) (EH.new_lies _ _ _) (h1.mono (EH.new_ext hi _)) h2 (by simp [hln])
 simpa [hln] using this
theorem op_buildSlice {t e:TypeId} {z:Value} {m bytes len:Nat} {parts:Array (Nat × Operand)} {xs:List Operand} {vs:List AV} (E:ElT P t e z m bytes) (ho:o.op=.buildSlice t len parts) (hp:parts.toList=idx 0 xs) (hlen:xs.length=len) (hx:xs.mapM al.ev=some vs) (hf:vs.all (·.flat)=true) (hc:vs.all (fun v=>v.cells.length == m)=true) (hn:len * m≤16777216)
    (q:K (.seq m (vs.map AV.cells)) M):OpT P o al M K:=by
 intro n B F Mf a w hi hsl ro
 refine Oper.wpIn_mono ?_ (op_buildSlice_own (K:=fun v M'=>∃ u,v=.own u m (vs.map AV.cells)∧M'=.own e m u::M) E ho hp hlen hx hf hc hn (fun u=>⟨u,rfl,rfl⟩) n B F Mf a w hi hsl ro)
 rintro a' w' ⟨u,v,M',F',h1,⟨u',rfl,rfl⟩,h3,h4,h5,h6⟩
 exact ⟨u,_,M,F',h1,q,Le.own _ _ _ _ _ h3,h4,h5.sub (by simp),h6⟩
def tyFlds (P:Program) (t:TypeId):Option (List (Nat × Nat)) :=
 match P.underlying t with
 | some (.struct fs)=>fs.toList.mapM fun f=>(P.info? f.type).map fun i=>(f.offset,i.size)
 | _=>none
def bldA (fl:List (Nat × Nat)):List AV→List (Nat × AV)→Option (List AV)
 | cs,[]=>some cs
 | cs,(i,v)::rest=>match fl[i]? with
  | some (off,size)=>if v.cells.length=size∧off+size≤cs.length∧v.flat=true then bldA fl (setL cs off v.cells) rest else none
  | none=>none
theorem bldA_run {F:EH} {fl:List (Nat × Nat)} {places:Array (Nat × Nat)} (hpl:places.toList=fl):∀ (ps:List (Nat × AV)) (qs:List (Nat × Value)) (cs:List AV) (vs:List Value) (cs':List AV),Rels F cs vs→Ones vs→ps.map (·.1)=qs.map (·.1)→Rels F (ps.map (·.2)) (qs.map (·.2))→bldA fl cs ps=some cs' →
    ∃ vs',Instr.fill (places[·]?) vs.toArray qs=some vs'.toArray∧Rels F cs' vs'∧Ones vs'
 | [],[],cs,vs,cs',h,h1,_,_,hb=>by
  simp [bldA] at hb;subst hb
  exact ⟨vs,by simp [Instr.fill],h,h1⟩
 | [],_::_,_,_,_,_,_,h,_,_=>by simp at h
 | _::_,[],_,_,_,_,_,h,_,_=>by simp at h
 |(i,v)::ps,(j,u)::qs,cs,vs,cs',h,h1,hk,hr,hb=>by
  simp only [List.map_cons,List.cons.injEq] at hk
  obtain ⟨rfl,hk⟩:=hk
  simp only [List.map_cons] at hr
  cases hr with
  | cons hr hrs =>
   rw [bldA] at hb
   split at hb
   ·rename_i off size hfl
    split at hb
    ·rename_i hc
     obtain ⟨c1,c2,c3⟩:=hc
     obtain ⟨k1,k2⟩:=hr.cells c3
     have hlen:=h.len
     obtain ⟨vs',q1,q2,q3⟩:=bldA_run hpl ps qs _ (setL vs off u.cells.toList) cs' (k1.setL off h) (setL_one _ _ _ k2 h1) hk hrs hb
     refine ⟨vs',?_,q2,q3⟩
     rw [fill_one _ vs i off size u qs (by rw [← hpl] at hfl;simpa using hfl) (by have:=k1.len;simp at this;omega) (by omega)]
     exact q1
    ·simp at hb
   ·simp at hb
theorem tyFlds_run {t:TypeId} {fl:List (Nat × Nat)} (h:tyFlds P t=some fl) (w:World):∃ fs:Array Field,P.underlying t=some (.struct fs)∧∃ places:Array (Nat × Nat),places.toList=fl∧(fs.mapM fun f=>do pure (f.offset,← sizeOf f.type):Sem (Array (Nat × Nat))).run P w=.ok places w:=by
 unfold tyFlds at h
 split at h <;> first|(simp at h;done)|skip
 rename_i fs hu
 refine ⟨fs,hu,fl.toArray,rfl,?_⟩
 have key:∀ (l:List Field) (fl:List (Nat × Nat)),l.mapM (fun f=>(P.info? f.type).map fun i=>(f.offset,i.size))=some fl→(l.mapM fun f=>do pure (f.offset,← sizeOf f.type):Sem (List (Nat × Nat))).run P w=.ok fl w:=by
  intro l
  induction l with
  | nil=>intro fl h;simp at h;subst h;simp
  | cons f l ih =>
   intro fl h
   simp only [List.mapM_cons,Option.bind_eq_bind,Option.bind_eq_some_iff,Option.pure_def,Option.some.injEq] at h
   obtain ⟨p,h1,ps,h2,rfl⟩:=h
   obtain ⟨i,hi,rfl⟩:=Option.map_eq_some_iff.1 h1
   rw [List.mapM_cons]
   simp only [Sem.run_bind,sizeOf,typeInfo,run_program,Result.andThen_ok,hi,Sem.run_pure]
   have:=ih ps h2
   simp only [sizeOf,typeInfo] at this
   rw [this]
   rfl
 rw [Array.mapM_eq_mapM_toList,Sem.run_map,key fs.toList fl h]
 rfl
theorem op_build {t:TypeId} {z:Value} {fl:List (Nat × Nat)} {parts:Array (Nat × Operand)} {ns:List Nat} {xs:List Operand} {vs:List AV} {cs':List AV} (ho:o.op=.build t parts) (hz:tyZero P t=some z) (hzf:(AV.val z).flat=true) (hfl:tyFlds P t=some fl) (hp:parts.toList=ns.zip xs) (hlen:ns.length=xs.length) (hx:xs.mapM al.ev=some vs) (hb:bldA fl (AV.val z).cells (ns.zip vs)=some cs')
    (q:K (.agg cs') M):OpT P o al M K :=
 OpT.plain fun n B F Mf a w hi hsl=>by
  have hr:=Rels.map_ev hsl hx
  have hln:=hr.len
  simp only [List.length_map] at hln
  obtain ⟨z1,z2⟩:=(Rel.val (F:=F) z).cells hzf
  obtain ⟨fs,hu,places,hpl,hrun⟩:=tyFlds_run hfl w
  obtain ⟨vs',q1,q2,q3⟩:=bldA_run hpl (ns.zip vs) (ns.zip (xs.map a.eval)) _ _ cs' z1 z2 (by
   rw [List.map_fst_zip (by omega),List.map_fst_zip (by simp;omega)]) (by
   rw [List.map_snd_zip (by omega),List.map_snd_zip (by simp;omega)];exact hr) hb
  refine ⟨.agg vs'.toArray,_,?_,q,.agg q2 q3⟩
  have hparts:(parts.map (fun x=>(x.1,a.eval x.2))).toList=ns.zip (xs.map a.eval):=by
   rw [Array.toList_map,hp,List.zip_map_right]
   rfl
  unfold execOp
  simp only [ho,Instr.build,Sem.run_bind,tyZero_run hz,Result.andThen_ok,run_underlying hu]
  rw [hrun]
  simp only [Result.andThen_ok,hparts]
  simp only [Array.toArray_toList] at q1
  rw [q1]
  simp
theorem op_makeSlice {t e:TypeId} {z:Value} {m bytes n:Nat} {x:Operand} {k:IntKind} {j:Int} (E:ElT P t e z m bytes) (ho:o.op=.makeSlice t x x) (hx:al.ev x=some (.val (.int k j))) (hj:j=n) (hn:n≤100000000000) (hzf:(AV.val z).flat=true)
    (q:∀ b,K (.arr b 0 n n) (.loc b (List.replicate n (AV.val z).cells).flatten::M)):OpT P o al M K:=by
 intro n' B F Mf a w hi hsl ro
 subst hj
 have he:=ev_val hsl hx
 obtain ⟨i,hinf,hz,hsz,hby⟩:=info_parts E.info
 obtain ⟨z1,z2⟩:=(Rel.val (F:=F) z).cells hzf
 have hzs:=E.zs
 have hpos:=E.pos
 have hsm:=E.small
 have hwrap:IntKind.i64.wrap (n:Int)=n:=IntWalk.i64_in _ (by omega)
 have hz0:=tyZero_run (P:=P) (by simp [tyZero,hinf,hz]:tyZero P e=some z) w
 have hcells:(Array.range (n * m)).map (fun j=>z.cells[j % z.cells.size]!)=(List.replicate n z.cells.toList).flatten.toArray:=by
  apply Array.ext (by simp [hzs])
  intro j h1 h2
  simp only [Array.size_map,Array.size_range] at h1
  simp only [Array.getElem_map,Array.getElem_range]
  have hlt:j % z.cells.size<z.cells.size:=Nat.mod_lt _ (by omega)
  rw [getElem!_pos z.cells _ hlt]
  have key:∀ (n j:Nat) (h:j<(List.replicate n z.cells.toList).flatten.length),(List.replicate n z.cells.toList).flatten[j]=z.cells[j % z.cells.size]'(Nat.mod_lt _ (by omega)):=by
   intro n
   induction n with
   | zero=>intro j h;simp at h
   | succ n ih =>
    intro j h
    simp only [List.replicate_succ,List.flatten_cons] at h ⊢
    rw [List.getElem_append]
    split
    ·rename_i hj
     simp only [Array.length_toList] at hj
     simp only [Array.getElem_toList]
     congr 1
     exact (Nat.mod_eq_of_lt hj).symm
    ·rename_i hj
     simp only [Array.length_toList] at hj
     rw [ih]
     congr 1
     simp only [Array.length_toList]
     rw [← Nat.mod_eq_sub_mod (by omega)]
  simpa using (key n j (by simpa using h2)).symm
 have hrels:∀ n:Nat,Rels F (List.replicate n (AV.val z).cells).flatten (List.replicate n z.cells.toList).flatten∧Ones (List.replicate n z.cells.toList).flatten:=by
  intro n
  induction n with
  | zero=>exact ⟨.nil,by intro v hv;simp at hv⟩
  | succ n ih =>
   simp only [List.replicate_succ,List.flatten_cons]
   refine ⟨z1.app ih.1,fun v hv=>?_⟩
   rcases List.mem_append.1 hv with k|k
   ·exact z2 v k
   ·exact ih.2 v k
 have hbn:¬ ((i.bytes:Int) * (n:Int) > 2 ^ 48):=by
  have h5:i.bytes * n≤1024 * 100000000000:=Nat.mul_le_mul (by omega) hn
  have h6:((i.bytes * n:Nat):Int)≤102400000000000:=by omega
  rw [Int.natCast_mul] at h6
  omega
 have e1:(execOp a.eval o).run P w=.ok (.value (.slice (some ⟨w.heap.size,0,none⟩) n n)) (w.alloc (.cells (List.replicate n z.cells.toList).flatten.toArray e)):=by
  unfold execOp
  simp only [ho,Sem.run_bind,Instr.makeSlice,run_underlying E.und,Result.andThen_ok,he,asInt,asIntOf,Sem.run_pure,typeInfo,run_program,hinf,hwrap,sizeOf]
  have hneg:¬ ((n:Int)<0):=by omega
  have hgt:¬ ((n:Int) >(n:Int)):=by omega
  simp only [hneg,hbn,hgt,decide_false,Bool.or_false,Bool.false_eq_true,if_false,Sem.run_bind,run_askRoom,Result.andThen_ok,run_program,hinf,Sem.run_pure,Int.toNat_natCast,hsz]
  by_cases h0:n * m=0
  ·have hn0:n=0:=by
    rcases Nat.mul_eq_zero.1 h0 with q|q
    ·exact q
    ·omega
   subst hn0
   have hr0:Array.range 0=#[]:=rfl
   simp [newRow,hr0]
  ·rw [if_neg h0]
   simp only [Sem.run_bind,hz0,Result.andThen_ok,Sem.run_pure,hcells]
   simp [newRow]
 exact wpR_value e1 ⟨_,_,_,F,rfl,q w.heap.size,.arr _ _ _ _ (Nat.le_refl _),Ext.refl F,hi.newLoc (hrels n).1 (hrels n).2 e,alloc_below _ hi.base⟩
theorem ACode.freeze {ro:Option Nat} {n':Nat} {Q:Exit→Sl→Mem→Prop} {c:Code} {b n m i:Nat} {cs:List AV} {es:List (List AV)} {al':Sl} (hm:M[i]?=some (.loc b cs)) (hc:cs=es.flatten) (hw:∀ e∈es,e.length=m) (hn:es.length=n) (hmax:n≤maxLen)
    (hs:∀ t v',al'.lookup t=some v'→∃ v,al.lookup t=some v∧(Le v v'∨∃ cap,v=.arr b 0 n cap∧v'=.seq m es))
    (h:ACode ro P n' c Q al' (M.eraseIdx i)):ACode ro P n' c Q al M:=by
 intro B F Mf a w hi hsl
 have hi2:=hi.perm ((perm_at hm).append_right Mf)
 rw [List.cons_append] at hi2
 obtain ⟨hB,hF,vs,T,hb,hr,h1⟩:=hi2.ok _ (List.mem_cons_self)
 have hfar:=hi2.far
 rw [List.pairwise_cons] at hfar
 have hbl:b<w.heap.size:=(hi2.ok _ (List.mem_cons_self)).lt (r:=.loc b cs) rfl
 have hext:Ext F (F.new b vs):=by
  intro b' j x hx
  unfold EH.new
  split
  ·rename_i e;subst e;rw [hF j] at hx;simp at hx
  ·exact hx
 have hinv:Inv B (F.new b vs) (M.eraseIdx i++Mf) w:=by
  refine ⟨hi.base,fun b' j x hx=>?_,fun r hr'=>?_,hfar.2⟩
  ·unfold EH.new at hx
   split at hx
   ·rename_i e;subst e
    rw [cell_block hb];exact hx
   ·exact hi.fix b' j x hx
  ·refine (hi2.ok r (List.mem_cons_of_mem _ hr')).stay hext (fun b' hb'=>⟨rfl,fun j=>?_⟩)
   unfold EH.new
   rw [if_neg]
   intro e
   subst e
   rcases hfar.1 r hr' with k|k
   ·simp [Res.blk] at k
   ·exact k hb'.symm
 have:=h B (F.new b vs) Mf a w hinv ⟨hsl.1,fun t v' e=>?_⟩
 ·exact Code.wpIn_mono (fun e a w hp=>PostD.next (Ds:=[]) hext (Below.refl _ _) hp) this
 ·obtain ⟨v,h2,h3⟩:=hs t v' e
  obtain ⟨h4,h5⟩:=hsl.2 t v h2
  refine ⟨h4,?_⟩
  rcases h3 with h3|⟨cap,rfl,rfl⟩
  ·exact h3 _ _ (h5.mono hext)
  ·generalize a.tmps.getD t undef=y at h5
   cases h5
   subst hc hn
   exact .seq b 0 cap hw hmax (EH.new_lies _ _ _) (hr.mono hext) h1 (by assumption)
theorem flat_take {m:Nat}:∀ {es:List (List AV)} (_:∀ e∈es,e.length=m) (i:Nat),es.flatten.take (i * m)=(es.take i).flatten
 | [],_,i=>by simp
 | e::es,h,0=>by simp
 | e::es,h,i+1=>by
  have h1:=h e (by simp)
  rw [List.flatten_cons,List.take_succ_cons,List.flatten_cons,← flat_take (fun x hx=>h x (by simp [hx])) i,← h1,Nat.add_mul,Nat.one_mul,Nat.add_comm,List.take_append]
  simp [List.take_of_length_le]
theorem Rel.sub {F:EH} {m:Nat} {es:List (List AV)} {u:Value} (h:Rel F (.seq m es) u) {l k:Nat} (hlk:l≤k) (hk:k≤es.length):∃ ao cap,u=.slice ao es.length cap∧es.length≤maxLen∧(es.length≤cap→Rel F (.seq m ((es.take k).drop l)) (.slice (if cap=l then ao else ao.map (·.add (l * m))) (k - l) (cap - l))):=by
 cases h with
 | seq0 _ ao cap hc =>
  simp at hk
  subst hk
  have:l=0:=by omega
  subst this
  refine ⟨ao,cap,rfl,by simp,fun _=>?_⟩
  have e:(if cap=0 then ao else ao.map (·.add (0 * m)))=ao:=by
   split
   ·rfl
   ·cases ao <;> simp [Addr.add]
  rw [e]
  simpa using Rel.seq0 m ao cap hc
 | seq b off cap hmw hn hl h h1 hcq =>
  rename_i vs
  refine ⟨_,cap,rfl,hn,fun hcap=>?_⟩
  by_cases e:l=k
  ·subst e
   have:(es.take l).drop l=[]:=by simp
   rw [this,Nat.sub_self]
   exact .seq0 m _ _ (by split <;> simp)
  ·rw [if_neg (by omega)]
   have hln:((es.take k).drop l).length=k - l:=by simp;omega
   have hd:=(h.take (k * m)).drop (l * m)
   rw [flat_take hmw,flat_drop (fun x hx=>hmw x (List.mem_of_mem_take hx))] at hd
   have:=Rel.seq (F:=F) (m:=m) (es:=(es.take k).drop l) (vs:=(vs.take (k * m)).drop (l * m)) b (off+l * m) (cap - l) (fun x hx=>hmw x (List.mem_of_mem_take (List.mem_of_mem_drop hx))) (by rw [hln];omega) (by
    intro j x hx
    rw [List.getElem?_drop,List.getElem?_take] at hx
    split at hx
    ·rw [Nat.add_assoc];exact hl _ _ hx
    ·simp at hx) hd (fun v hv=>h1 v (List.mem_of_mem_take (List.mem_of_mem_drop hv))) (by rw [hln];omega)
   rw [hln] at this
   simpa [addr_add0] using this
end
def Oper.tmps (o:Oper):List Tmp:=o.op.operands.toList.filterMap fun x=>match x with|.tmp t=>some t|_=>none
def Sl.only (al:Sl) (ts:List Tmp):Sl:=al.filter fun x=>ts.contains x.1
theorem only_lookup (al:Sl) (ts:List Tmp) (t:Tmp):(al.only ts).lookup t=if ts.contains t then al.lookup t else none:=by
 unfold Sl.only
 induction al with
 | nil=>simp
 | cons x al ih =>
  rw [List.filter_cons]
  by_cases e:t=x.1
  ·subst e
   by_cases c:ts.contains x.1
   ·rw [if_pos c,if_pos c,List.lookup,List.lookup];simp
   ·rw [if_neg c,ih,if_neg c,if_neg c]
  ·have he:(t == x.1)=false:=by simpa using e
   have hl:List.lookup t (x::al)=List.lookup t al:=by rw [List.lookup,he]
   by_cases c:ts.contains x.1
   ·rw [if_pos c,hl,List.lookup,he];exact ih
   ·rw [if_neg c,hl];exact ih
def DStep (P:Program) (ops:List Oper) (o:Oper) (al:Sl) (M:Mem) (v:AV):Prop :=
 match o.guard with
 | none=>OpT P o (al.only (Oper.tmps o)) M (fun v' M'=>v'=v∧M'=M)
 | some (j,b)=>∃ t,(ops[j]?).bind (·.dst)=some t ∧
     ((al.lookup t=some (.val (.bool b))∧OpT P { o with guard:=none } (al.only (Oper.tmps o)) M (fun v' M'=>v'=v∧M'=M)) ∨
      ((al.lookup t=some (.val (.bool !b))∨al.lookup t=some (.val undef))∧v=.val undef))
def DOps (P:Program) (ops:List Oper) (M:Mem) (Q:Sl→Prop):List Oper→Sl→Prop
 | [],al=>Q al
 | o::rest,al=>∃ v,DStep P ops o al M v∧DOps P ops M Q rest (al.put o.dst v)
def puts:List Oper→List AV→Sl→Sl
 | o::os,v::vs,al=>puts os vs (al.put o.dst v)
 | _,_,al=>al
theorem DOps.table {P:Program} {ops:List Oper} {M:Mem} {Q:Sl→Prop}:∀ {l:List Oper} {al:Sl},DOps P ops M Q l al→∃ vs:List AV,vs.length=l.length∧Q (puts l vs al)∧∀ (i:Nat) (o:Oper) (v:AV),l[i]?=some o→vs[i]?=some v→DStep P ops o (puts (l.take i) (vs.take i) al) M v
 | [],al,h=>⟨[],rfl,h,by simp⟩
 | o::l,al,⟨v,h1,h2⟩=>by
  obtain ⟨vs,k1,k2,k3⟩:=DOps.table h2
  refine ⟨v::vs,by simp [k1],k2,fun i o' v' ho hv=>?_⟩
  cases i with
  | zero=>simp at ho hv;subst ho hv;simpa [puts] using h1
  | succ i=>simpa [puts] using k3 i o' v' (by simpa using ho) (by simpa using hv)
theorem puts_lookup:∀ (l:List Oper) (vs:List AV) (al:Sl) (t:Tmp),vs.length=l.length→(∃ (j:Nat) (o:Oper) (v:AV),l[j]?=some o∧vs[j]?=some v∧o.dst=some t∧(puts l vs al).lookup t=some v)∨((∀ (j:Nat) (o:Oper),l[j]?=some o→o.dst≠some t)∧(puts l vs al).lookup t=al.lookup t)
 | [],[],al,t,_=>Or.inr ⟨by simp,rfl⟩
 | [],_::_,_,_,h=>by simp at h
 | _::_,[],_,_,h=>by simp at h
 | o::l,v::vs,al,t,h=>by
  rw [puts]
  rcases puts_lookup l vs (al.put o.dst v) t (by simpa using h) with ⟨j,o',v',h1,h2,h3,h4⟩|⟨h1,h2⟩
  ·exact Or.inl ⟨j+1,o',v',by simpa using h1,by simpa using h2,h3,h4⟩
  ·by_cases e:o.dst=some t
   ·refine Or.inl ⟨0,o,v,by simp,by simp,e,?_⟩
    rw [h2,e];simp [Sl.put]
   ·refine Or.inr ⟨fun j o' hj=>?_,?_⟩
    ·cases j with
     | zero=>simp at hj;subst hj;exact e
     | succ j=>exact h1 j o' (by simpa using hj)
    ·rw [h2]
     cases hd:o.dst with
     | none=>rfl
     | some d =>
      have:(t == d)=false:=by
       have:t≠d:=fun q=>e (by rw [hd,q])
       simpa using this
      simp [Sl.put,List.lookup_cons,this]
def bindsOn (o:Oper):List Nat:=(o.after.toList.filter (Region.binds .any)).map (·.on)
def Oper.sees (l:List Oper) (o:Oper):List Tmp:=Oper.tmps o++match o.guard with|some (g,_)=>((l[g]?).bind (·.dst)).toList|none=>[]
def flowOk (n:Nat) (l:List Oper):Bool :=
 (l.zipIdx.all fun (o,i)=>o.dst.all (·<n) && (bindsOn o).all (·<i) &&
  (l.zipIdx.all fun (p,k)=>(k == i || o.dst.isNone || o.dst != p.dst) &&
   (match p.dst with
    | some t => !(Oper.sees l o).contains t || k == i ||(if k<i then (bindsOn o).contains k else (bindsOn p).contains i)
    | none=>true)))
structure Flow (n:Nat) (l:List Oper):Prop where
 dst:∀ (i:Nat) (o:Oper),l[i]?=some o→o.dst.all (·<n)=true
 back:∀ (i:Nat) (o:Oper),l[i]?=some o→∀ j∈bindsOn o,j<i
 once:∀ (i:Nat) (o:Oper) (k:Nat) (p:Oper) (t:Tmp),l[i]?=some o→l[k]?=some p→o.dst=some t→p.dst=some t→k=i
 see:∀ (i:Nat) (o:Oper) (k:Nat) (p:Oper) (t:Tmp),l[i]?=some o→l[k]?=some p→p.dst=some t→t∈Oper.sees l o→k=i∨(k<i∧k∈bindsOn o)∨(i<k∧i∈bindsOn p)
theorem zipIdx_all {α:Type} {l:List α} {f:α × Nat→Bool} (h:l.zipIdx.all f=true) {i:Nat} {x:α} (hx:l[i]?=some x):f (x,i)=true:=by
 rw [List.all_eq_true] at h
 exact h _ (List.mem_zipIdx_iff_getElem?.2 hx)
theorem Flow.of {n:Nat} {l:List Oper} (h:flowOk n l=true):Flow n l:=by
 have key:=fun (i:Nat) (o:Oper) (ho:l[i]?=some o)=>zipIdx_all h ho
 refine ⟨fun i o ho=>?_,fun i o ho j hj=>?_,fun i o k p t ho hp h1 h2=>?_,fun i o k p t ho hp h1 h2=>?_⟩
 ·have:=key i o ho
  simp only [Bool.and_eq_true] at this
  exact this.1.1
 ·have:=key i o ho
  simp only [Bool.and_eq_true,List.all_eq_true,decide_eq_true_eq] at this
  exact this.1.2 j hj
 ·have:=key i o ho
  simp only [Bool.and_eq_true] at this
  have:=zipIdx_all this.2 hp
  simp only [Bool.and_eq_true,Bool.or_eq_true,beq_iff_eq] at this
  rcases this.1 with (q|q)|q
  ·exact q
  ·simp [h1] at q
  ·simp [h1,h2] at q
 ·have:=key i o ho
  simp only [Bool.and_eq_true] at this
  have:=(Bool.and_eq_true _ _ ▸ zipIdx_all this.2 hp).2
  simp only [h1,Bool.or_eq_true,beq_iff_eq,Bool.not_eq_true'] at this
  rcases this with (q|q)|q
  ·simp [h2] at q
  ·exact Or.inl q
  ·split at q
   ·rename_i hlt;exact Or.inr (Or.inl ⟨hlt,by simpa using q⟩)
   ·rename_i hlt
    by_cases e:k=i
    ·exact Or.inl e
    ·exact Or.inr (Or.inr ⟨by omega,by simpa using q⟩)
theorem count_set (n:Nat) (f:Nat→Bool) (i:Nat) (hi:i<n) (hf:f i=false):((List.range n).filter (fun j => !f j)).length=((List.range n).filter (fun j => !(f j || j == i))).length+1:=by
 induction n with
 | zero=>omega
 | succ n ih =>
  rw [List.range_succ,List.filter_append,List.filter_append,List.length_append,List.length_append]
  by_cases e:i=n
  ·subst e
   have:(List.range i).filter (fun j => !(f j || j == i))=(List.range i).filter (fun j => !f j):=by
    apply List.filter_congr
    intro j hj
    have:j<i:=by simpa using hj
    have:(j == i)=false:=by simp;omega
    simp [this]
   rw [this]
   simp [hf]
  ·have:=ih (by omega)
   have hn:(n == i)=false:=by simp;omega
   simp only [List.filter_cons,List.filter_nil,hn,Bool.or_false]
   omega
section
variable {P:Program} {n:Nat} {M:Mem} {l:List Oper} {al:Sl}
structure At (n B:Nat) (F:EH) (Mf M:Mem) (w0:World) (ds:List Deferred) (l:List Oper) (vs:List AV) (al:Sl) (lis:Array Bool) (a:Act) (w:World):Prop where
 size:lis.size=l.length
 closed:∀ (k:Nat) (o:Oper),l[k]?=some o→lis[k]?=some true→∀ j∈bindsOn o,lis[j]?=some true
 defers:a.defers=ds
 tmps:a.tmps.size=n
 mem:∃ F',Ext F F'∧Inv B F' (M++Mf) w∧Below B w0 w ∧
  (∀ t v,al.lookup t=some v→(∀ (j:Nat) (o:Oper),l[j]?=some o→o.dst=some t→lis[j]?=some false)→t<n∧Rel F' v (a.tmps.getD t undef)) ∧
  (∀ (j:Nat) (o:Oper) (v:AV) (t:Tmp),l[j]?=some o→vs[j]?=some v→o.dst=some t→lis[j]?=some true→t<n∧Rel F' v (a.tmps.getD t undef))
theorem lis_ft {lis:Array Bool} {j:Nat} (h:j<lis.size):lis[j]?=some true∨lis[j]?=some false:=by
 rw [Array.getElem?_eq_getElem h]
 cases lis[j] <;> simp
theorem At.sees {ds:List Deferred} {B:Nat} {F:EH} {Mf:Mem} {w0:World} {vs:List AV} {lis:Array Bool} {a:Act} {w:World} (hfl:Flow n l) (hvl:vs.length=l.length) (h:At n B F Mf M w0 ds l vs al lis a w) {i:Nat} {o:Oper} (ho:l[i]?=some o) (hni:lis[i]?=some false) (hrd:∀ j∈bindsOn o,lis[j]?=some true) :
    ∃ F',Ext F F'∧Inv B F' (M++Mf) w∧Below B w0 w∧∀ t∈Oper.sees l o,∀ v,(puts (l.take i) (vs.take i) al).lookup t=some v→t<n∧Rel F' v (a.tmps.getD t undef):=by
 obtain ⟨F',h1,h2,h3,h4,h5⟩:=h.mem
 refine ⟨F',h1,h2,h3,fun t ht v hv=>?_⟩
 rcases puts_lookup (l.take i) (vs.take i) al t (by simp [hvl]) with ⟨j,p,u,k1,k2,k3,k4⟩|⟨k1,k2⟩
 ·rw [k4] at hv
  simp at hv
  subst hv
  rw [List.getElem?_take] at k1 k2
  split at k1
  ·rename_i hji
   rw [if_pos hji] at k2
   rcases hfl.see i o j p t ho k1 k3 ht with q|q|q
   ·omega
   ·exact h5 j p u t k1 k2 k3 (hrd j q.2)
   ·omega
  ·simp at k1
 ·rw [k2] at hv
  refine h4 t v hv (fun j p hj hd=>?_)
  have hjl:j<lis.size:=by
   rw [h.size]
   rcases Nat.lt_or_ge j l.length with q|q
   ·exact q
   ·rw [List.getElem?_eq_none q] at hj;simp at hj
  rcases hfl.see i o j p t ho hj hd ht with q|q|q
  ·subst q;exact hni
  ·exact absurd hd (k1 j p (by rw [List.getElem?_take,if_pos q.1];exact hj))
  ·rcases lis_ft hjl with r|r
   ·have:=h.closed j p hj r i q.2
    rw [hni] at this;simp at this
   ·exact r
theorem At.next {ds:List Deferred} {B:Nat} {F:EH} {Mf:Mem} {w0:World} {vs:List AV} {lis:Array Bool} {a:Act} {w w':World} (hfl:Flow n l) (h:At n B F Mf M w0 ds l vs al lis a w) {i:Nat} {o:Oper} {v:AV} {u:Value} {F1 F2:EH} (ho:l[i]?=some o) (hv:vs[i]?=some v) (hni:lis[i]?=some false) (hrd:∀ j∈bindsOn o,lis[j]?=some true)
    (hF:Ext F F1) (hF2:Ext F1 F2) (hi:Inv B F2 (M++Mf) w') (hb:Below B w0 w') (hr:Rel F2 v u)
    (hold:(∀ t v,al.lookup t=some v→(∀ (j:Nat) (o:Oper),l[j]?=some o→o.dst=some t→lis[j]?=some false)→t<n∧Rel F1 v (a.tmps.getD t undef)) ∧
     (∀ (j:Nat) (o:Oper) (v:AV) (t:Tmp),l[j]?=some o→vs[j]?=some v→o.dst=some t→lis[j]?=some true→t<n∧Rel F1 v (a.tmps.getD t undef))) :
    At n B F Mf M w0 ds l vs al (lis.setIfInBounds i true) (a.put o.dst u) w':=by
 have hil:i<lis.size:=by
  rcases Nat.lt_or_ge i lis.size with q|q
  ·exact q
  ·rw [Array.getElem?_eq_none q] at hni;simp at hni
 have hset:∀ k,(lis.setIfInBounds i true)[k]?=if i=k then some true else lis[k]?:=by
  intro k
  rw [Array.getElem?_setIfInBounds]
  by_cases e:i=k
  ·subst e;simp [hil]
  ·simp [e]
 have hdst:=hfl.dst i o ho
 have hget:∀ t,o.dst≠some t→(a.put o.dst u).tmps.getD t undef=a.tmps.getD t undef:=by
  intro t ht
  cases hd:o.dst with
  | none=>rfl
  | some d =>
   simp only [Act.put,Array.getD_eq_getD_getElem?,Array.getElem?_setIfInBounds]
   rw [if_neg (fun e=>ht (by rw [hd,e]))]
 refine ⟨by simpa using h.size,fun k p hk hlk j hj=>?_,by cases o.dst <;> exact h.defers,by cases o.dst <;> simp [Act.put,h.tmps],F2,hF.trans hF2,hi,hb,fun t v' ht hno=>?_,fun j p v' t hj hvj hd hlj=>?_⟩
 ·rw [hset] at hlk ⊢
  by_cases e:i=k
  ·subst e
   rw [ho] at hk;simp at hk;subst hk
   rw [hrd j hj];split <;> rfl
  ·rw [if_neg e] at hlk
   rw [h.closed k p hk hlk j hj];split <;> rfl
 ·have hne:o.dst≠some t:=by
   intro q
   have:=hno i o ho q
   rw [hset,if_pos rfl] at this;simp at this
  rw [hget t hne]
  obtain ⟨q1,q2⟩:=hold.1 t v' ht (fun j p hj hd=>by
   have:=hno j p hj hd
   rw [hset] at this
   split at this
   ·simp at this
   ·exact this)
  exact ⟨q1,q2.mono hF2⟩
 ·by_cases e:i=j
  ·subst e
   rw [ho] at hj;simp at hj;subst hj
   rw [hv] at hvj;simp at hvj;subst hvj
   rw [hd] at hdst ⊢
   simp at hdst
   refine ⟨hdst,?_⟩
   have:t<a.tmps.size:=by rw [h.tmps];exact hdst
   simpa [Act.put,Array.getD,this] using hr
  ·rw [hset,if_neg e] at hlj
   have hne:o.dst≠some t:=by
    intro q
    exact e (hfl.once j p i o t hj ho hd q).symm.symm
   rw [hget t hne]
   obtain ⟨q1,q2⟩:=hold.2 j p v' t hj hvj hd hlj
   exact ⟨q1,q2.mono hF2⟩
theorem ready_iff {lis:Array Bool} (hsz:lis.size=l.length) {i:Nat}:i∈Region.ready .any l.toArray lis↔∃ o,l[i]?=some o∧lis[i]?=some false∧∀ j∈bindsOn o,lis[j]?=some true:=by
 unfold Region.ready
 rw [List.mem_filter]
 constructor
 ·rintro ⟨h1,h2⟩
  simp only [List.mem_range,List.size_toArray] at h1
  obtain ⟨o,ho⟩:∃ o,l[i]?=some o:=⟨l[i],List.getElem?_eq_getElem h1⟩
  simp only [Bool.and_eq_true,List.getElem?_toArray,ho,Option.map_some,Option.getD_some,Bool.not_eq_true'] at h2
  refine ⟨o,ho,?_,fun j hj=>?_⟩
  ·rw [Array.getD_eq_getD_getElem?] at h2
   rcases lis_ft (lis:=lis) (j:=i) (by omega) with q|q
   ·rw [q] at h2;simp at h2
   ·exact q
  ·unfold bindsOn at hj
   rw [List.mem_map] at hj
   obtain ⟨e,he,rfl⟩:=hj
   rw [List.mem_filter] at he
   have:=(Array.all_eq_true'.1 h2.2) e (by simpa using he.1)
   rw [he.2] at this
   simp only [Bool.not_true,Bool.false_or,Array.getD_eq_getD_getElem?] at this
   cases q:lis[e.on]? with
   | none=>rw [q] at this;simp at this
   | some b=>rw [q] at this;simp at this;rw [this]
 ·rintro ⟨o,ho,h1,h2⟩
  have hil:i<l.length:=by
   rcases Nat.lt_or_ge i l.length with q|q
   ·exact q
   ·rw [List.getElem?_eq_none q] at ho;simp at ho
  refine ⟨by simpa using hil,?_⟩
  simp only [Bool.and_eq_true,List.getElem?_toArray,ho,Option.map_some,Option.getD_some,Bool.not_eq_true']
  refine ⟨by rw [Array.getD_eq_getD_getElem?,h1];rfl,Array.all_eq_true'.2 (fun e he=>?_)⟩
  cases hb:Region.binds .any e
  ·rfl
  ·have:=h2 e.on (by
    unfold bindsOn
    exact List.mem_map.2 ⟨e,List.mem_filter.2 ⟨by simpa using he,hb⟩,rfl⟩)
   simp [Array.getD_eq_getD_getElem?,this]
theorem region_flow {ro:Option Nat} {ds:List Deferred} {B:Nat} {F:EH} {Mf:Mem} {w0:World} {vs:List AV} {Q:Exit→Act→World→Prop} (hfl:Flow n l) (hvl:vs.length=l.length) (hst:∀ (i:Nat) (o:Oper) (v:AV),l[i]?=some o→vs[i]?=some v→DStep P l o (puts (l.take i) (vs.take i) al) M v)
    (hend:∀ a w,At n B F Mf M w0 ds l vs al (Array.replicate l.length true) a w→Q .normal a w) :
    ∀ (fuel:Nat) (lis:Array Bool) (a:Act) (w:World),((List.range l.length).filter (fun j => !(lis[j]? == some true))).length≤fuel→At n B F Mf M w0 ds l vs al lis a w→wpAnyIn (RF ro) 0 P .any l.toArray Q fuel lis a w:=by
 have alltrue:∀ (lis:Array Bool) (a:Act) (w:World),At n B F Mf M w0 ds l vs al lis a w→Region.ready .any l.toArray lis=[]→Q .normal a w:=by
  intro lis a w h hrd
  have hall:∀ i,i<l.length→lis[i]?=some true:=by
   intro i
   induction i using Nat.strongRecOn with
   | _ i ih =>
    intro hil
    rcases lis_ft (lis:=lis) (j:=i) (by rw [h.size];exact hil) with q|q
    ·exact q
    ·exfalso
     have:i∈Region.ready .any l.toArray lis:=(ready_iff h.size).2 ⟨l[i],List.getElem?_eq_getElem hil,q,fun j hj=>by
      have:=hfl.back i l[i] (List.getElem?_eq_getElem hil) j hj
      exact ih j this (by omega)⟩
     rw [hrd] at this;simp at this
  have e:lis=Array.replicate l.length true:=by
   apply Array.ext (by simpa using h.size)
   intro i h1 h2
   have:=hall i (by rw [← h.size];exact h1)
   rw [Array.getElem?_eq_getElem h1] at this
   simpa using this
  rw [e] at h
  exact hend a w h
 intro fuel
 induction fuel with
 | zero =>
  intro lis a w hf h
  have hr:Region.ready .any l.toArray lis=[]:=by
   cases hr:Region.ready .any l.toArray lis with
   | nil=>rfl
   | cons i r =>
    exfalso
    obtain ⟨o,ho,h1,_⟩:=(ready_iff h.size).1 (by rw [hr];simp:i∈Region.ready .any l.toArray lis)
    have hil:i<l.length:=by
     rcases Nat.lt_or_ge i l.length with q|q
     ·exact q
     ·rw [List.getElem?_eq_none q] at ho;simp at ho
    have:i∈(List.range l.length).filter (fun j => !(lis[j]? == some true)):=List.mem_filter.2 ⟨by simpa using hil,by simp [h1]⟩
    have:=List.length_pos_of_mem this
    omega
  exact ⟨hr,alltrue lis a w h hr⟩
 | succ fuel ih =>
  intro lis a w hf h
  refine ⟨alltrue lis a w h,fun i hi=>?_⟩
  obtain ⟨o,ho,hni,hrd⟩:=(ready_iff h.size).1 hi
  have hil:i<l.length:=by
   rcases Nat.lt_or_ge i l.length with q|q
   ·exact q
   ·rw [List.getElem?_eq_none q] at ho;simp at ho
  obtain ⟨v,hv⟩:∃ v,vs[i]?=some v:=⟨vs[i]'(by omega),List.getElem?_eq_getElem (by omega)⟩
  have hcount:((List.range l.length).filter (fun j => !((lis.setIfInBounds i true)[j]? == some true))).length≤fuel:=by
   have h1:=count_set l.length (fun j=>lis[j]? == some true) i hil (by simp [hni])
   have h2:(List.range l.length).filter (fun j => !((lis.setIfInBounds i true)[j]? == some true))=(List.range l.length).filter (fun j => !((lis[j]? == some true) || j == i)):=by
    apply List.filter_congr
    intro j hj
    rw [Array.getElem?_setIfInBounds]
    by_cases e:i=j
    ·subst e
     rw [if_pos rfl,if_pos (by rw [h.size];exact hil)];simp
    ·rw [if_neg e]
     have:(j == i)=false:=by simp;omega
     simp [this]
   rw [h2]
   omega
  obtain ⟨F0,m1,m2,m3,m4,m5⟩:=h.mem
  have hat:=At.sees hfl hvl (h:=⟨h.size,h.closed,h.defers,h.tmps,F0,m1,m2,m3,m4,m5⟩) ho hni hrd
  have hsees:∀ t∈Oper.sees l o,∀ v,(puts (l.take i) (vs.take i) al).lookup t=some v→t<n∧Rel F0 v (a.tmps.getD t undef):=by
   intro t ht v hv
   rcases puts_lookup (l.take i) (vs.take i) al t (by simp [hvl]) with ⟨j,p,u,k1,k2,k3,k4⟩|⟨k1,k2⟩
   ·rw [k4] at hv
    simp at hv
    subst hv
    rw [List.getElem?_take] at k1 k2
    split at k1
    ·rename_i hji
     rw [if_pos hji] at k2
     rcases hfl.see i o j p t ho k1 k3 ht with q|q|q
     ·omega
     ·exact m5 j p u t k1 k2 k3 (hrd j q.2)
     ·omega
    ·simp at k1
   ·rw [k2] at hv
    refine m4 t v hv (fun j p hj hd=>?_)
    have hjl:j<lis.size:=by
     rw [h.size]
     rcases Nat.lt_or_ge j l.length with q|q
     ·exact q
     ·rw [List.getElem?_eq_none q] at hj;simp at hj
    rcases hfl.see i o j p t ho hj hd ht with q|q|q
    ·subst q;exact hni
    ·exact absurd hd (k1 j p (by rw [List.getElem?_take,if_pos q.1];exact hj))
    ·rcases lis_ft hjl with r|r
     ·have:=h.closed j p hj r i q.2
      rw [hni] at this;simp at this
     ·exact r
  clear hat
  have hslots:Slots n F0 ((puts (l.take i) (vs.take i) al).only (Oper.tmps o)) a.tmps:=by
   refine ⟨h.tmps,fun t v' e=>?_⟩
   rw [only_lookup] at e
   split at e
   ·rename_i hc
    exact hsees t (by unfold Oper.sees;exact List.mem_append_left _ (by simpa using hc)) v' e
   ·simp at e
  have done:∀ (o':Oper),o'.dst=o.dst→OpT P o' ((puts (l.take i) (vs.take i) al).only (Oper.tmps o)) M (fun v' M'=>v'=v∧M'=M)→o'.wpIn (RF ro) 0 P a w (wpAnyIn (RF ro) 0 P .any l.toArray Q fuel (lis.setIfInBounds i true)) Q:=by
   intro o' hd' hop
   refine wp_exits (Oper.wpIn_mono ?_ (hop n B F0 Mf a w m2 hslots ro))
   rintro a' w' ⟨u,v',M',F2,rfl,⟨rfl,rfl⟩,hr,hF2,hi2,hb2⟩
   rw [hd']
   exact ih _ _ _ hcount (h.next hfl ho hv hni hrd m1 hF2 hi2 (m3.trans hb2) hr ⟨m4,m5⟩)
  have skip:v=.val undef→wpAnyIn (RF ro) 0 P .any l.toArray Q fuel (lis.setIfInBounds i true) (a.put o.dst undef) w:=by
   intro e
   subst e
   exact ih _ _ _ hcount (h.next hfl ho hv hni hrd m1 (Ext.refl _) m2 m3 (.val _) ⟨m4,m5⟩)
  have hs:=hst i o v ho hv
  unfold wpOpIn
  simp only [List.getElem?_toArray,ho]
  unfold DStep at hs
  cases hg:o.guard with
  | none =>
   rw [hg] at hs
   rw [if_pos (by simp [Region.wanted,hg])]
   exact done o rfl hs
  | some gb =>
   obtain ⟨g,b⟩:=gb
   rw [hg] at hs
   obtain ⟨t,ht,hs⟩:=hs
   have htin:t∈Oper.sees l o:=by
    unfold Oper.sees
    rw [hg]
    exact List.mem_append_right _ (by simp [ht])
   have slot:∀ x,(puts (l.take i) (vs.take i) al).lookup t=some (.val x)→a.tmps[t]?=some x:=by
    intro x hx
    obtain ⟨q1,q2⟩:=hsees t htin _ hx
    have h4:t<a.tmps.size:=by rw [h.tmps];exact q1
    generalize hy:a.tmps.getD t undef=y at q2
    cases q2
    rw [Array.getElem?_eq_getElem h4]
    simpa [Array.getD,h4] using hy
   have want:∀ x,a.tmps[t]?=some x→Region.wanted o (yielded l.toArray a.tmps)=((match some x with|some (.bool b)=>some b|_=>none) == some b):=by
    intro x hx
    simp only [Region.wanted,hg,yielded,List.getElem?_toArray,ht,Option.bind_some,hx]
    cases x <;> rfl
   rcases hs with ⟨h1,h2⟩|⟨h1,h2⟩
   ·rw [if_pos (by rw [want _ (slot _ h1)];simp)]
    have:=done { o with guard:=none } rfl h2
    exact this
   ·rcases h1 with h1|h1
    ·rw [if_neg (by rw [want _ (slot _ h1)];cases b <;> simp)]
     exact ⟨fun _ _=>trivial,skip h2⟩
    ·rw [if_neg (by rw [want _ (slot _ h1)];simp [undef])]
     exact ⟨fun _ _=>trivial,skip h2⟩
theorem ACode.drawn {ro:Option Nat} {Q:Exit→Sl→Mem→Prop} {id:Nat} (hmix:P.follows .mixedOrders=true) (hfl:flowOk n l=true) (h:DOps P l M (fun al'=>Q .normal al' M) l al):ACode ro P n (.region id l.toArray true) Q al M:=by
 intro B F Mf a w hi hs
 have hF:=Flow.of hfl
 obtain ⟨vs,hvl,hQ,hst⟩:=h.table
 refine wpIn_region_any hmix (region_flow (ds:=a.defers) (al:=al) (M:=M) (B:=B) (F:=F) (Mf:=Mf) (w0:=w) hF hvl hst ?_ _ _ _ _ ?_ ?_)
 ·intro a' w' hat
  obtain ⟨F',m1,m2,m3,m4,m5⟩:=hat.mem
  refine ⟨[],F',_,M,hQ,m1,m2,⟨hat.tmps,fun t v e=>?_⟩,hat.defers,m3⟩
  rcases puts_lookup l vs al t hvl with ⟨j,o,u,k1,k2,k3,k4⟩|⟨k1,k2⟩
  ·rw [k4] at e
   simp at e;subst e
   refine m5 j o u t k1 k2 k3 ?_
   have:j<l.length:=by
    rcases Nat.lt_or_ge j l.length with q|q
    ·exact q
    ·rw [List.getElem?_eq_none q] at k1;simp at k1
   simp [this]
  ·rw [k2] at e
   exact m4 t v e (fun j o hj hdj=>absurd hdj (k1 j o hj))
 ·have:=List.length_filter_le (fun j => !((Array.replicate l.length false)[j]? == some true)) (List.range l.length)
  simpa using this
 ·refine ⟨by simp,fun k o hk hlk=>?_,rfl,hs.1,F,Ext.refl F,hi.drew,(Below.refl _ _).drew,fun t v e _=>hs.2 t v e,fun j o v t hj _ _ hlj=>?_⟩
  ·rw [Array.getElem?_replicate] at hlk;split at hlk <;> simp at hlk
  ·rw [Array.getElem?_replicate] at hlj;split at hlj <;> simp at hlj
theorem DOps.step {ops:List Oper} {Q:Sl→Prop} {o:Oper} {rest:List Oper} {v:AV} (hg:o.guard=none) (h:OpT P o (al.only (Oper.tmps o)) M (fun v' M'=>v'=v∧M'=M)) (q:DOps P ops M Q rest (al.put o.dst v)):DOps P ops M Q (o::rest) al :=
 ⟨v,by unfold DStep;rw [hg];exact h,q⟩
theorem DOps.cmp {ops:List Oper} {Q:Sl→Prop} {o:Oper} {rest:List Oper} {p:Prop} (hg:o.guard=none) (h:∀ K:AV→Mem→Prop,(∀ c:Bool,(c=true↔p)→K (.val (.bool c)) M)→OpT P o (al.only (Oper.tmps o)) M K) (q:∀ c:Bool,(c=true↔p)→DOps P ops M Q rest (al.put o.dst (.val (.bool c)))):DOps P ops M Q (o::rest) al:=by
 have:∃ c:Bool,c=true↔p:=by
  by_cases hp:p
  ·exact ⟨true,by simp [hp]⟩
  ·exact ⟨false,by simp [hp]⟩
 obtain ⟨c,hc⟩:=this
 refine DOps.step hg (h _ (fun c' hc'=>⟨?_,rfl⟩)) (q c hc)
 have:c'=c:=by cases c <;> cases c' <;> simp_all
 rw [this]
theorem DOps.guard {ops:List Oper} {Q:Sl→Prop} {o:Oper} {rest:List Oper} {j:Nat} {b c:Bool} {t:Tmp} (hg:o.guard=some (j,b)) (hj:(ops[j]?).bind (·.dst)=some t) (hc:al.lookup t=some (.val (.bool c)))
    (h1:c=b→DOps P ops M Q ({ o with guard:=none }::rest) al) (h2:c = !b→DOps P ops M Q rest (al.put o.dst (.val undef))):DOps P ops M Q (o::rest) al:=by
 by_cases e:c=b
 ·obtain ⟨v,k1,k2⟩:=h1 e
  refine ⟨v,?_,k2⟩
  unfold DStep at k1 ⊢
  rw [hg]
  exact ⟨t,hj,.inl ⟨by rw [hc,e],k1⟩⟩
 ·have e':c = !b:=by cases c <;> cases b <;> simp at e ⊢
  refine ⟨.val undef,?_,h2 e'⟩
  unfold DStep
  rw [hg]
  exact ⟨t,hj,.inr ⟨.inl (by rw [hc,e']),rfl⟩⟩
theorem DOps.unguard {ops:List Oper} {Q:Sl→Prop} {o:Oper} {rest:List Oper} {j:Nat} {b:Bool} {t:Tmp} (hg:o.guard=some (j,b)) (hj:(ops[j]?).bind (·.dst)=some t) (hc:al.lookup t=some (.val undef))
    (h2:DOps P ops M Q rest (al.put o.dst (.val undef))):DOps P ops M Q (o::rest) al:=by
 refine ⟨.val undef,?_,h2⟩
 unfold DStep
 rw [hg]
 exact ⟨t,hj,.inr ⟨.inr hc,rfl⟩⟩
end
inductive Kont where
 | code (c:Code)
 | blk (id:Nat)
 | lp (J:Sl→Mem→Prop)
def after (ro:Option Nat) (P:Program) (n:Nat):List Kont→(Exit→Sl→Mem→Prop)→Exit→Sl→Mem→Prop
 | [],Q=>Q
 | .code c::ks,Q=>Then (ACode ro P n c (after ro P n ks Q)) (after ro P n ks Q)
 | .blk id::ks,Q=>InBlk id (after ro P n ks Q)
 | .lp J::ks,Q=>Then J (after ro P n ks Q)
def AGo (ro:Option Nat) (P:Program) (n:Nat) (ks:List Kont) (Q:Exit→Sl→Mem→Prop) (al:Sl) (M:Mem):Prop:=after ro P n ks Q .normal al M
def AX (ro:Option Nat) (P:Program) (n:Nat) (ks:List Kont) (Q:Exit→Sl→Mem→Prop) (id:Nat) (al:Sl) (M:Mem):Prop:=after ro P n ks Q (.exit id) al M
section
variable {ro:Option Nat} {P:Program} {n:Nat} {ks:List Kont} {Q:Exit→Sl→Mem→Prop} {al:Sl} {M:Mem}
theorem go_code {c:Code} (h:ACode ro P n c (after ro P n ks Q) al M):AGo ro P n (.code c::ks) Q al M:=h
theorem go_blk {id:Nat} (h:AGo ro P n ks Q al M):AGo ro P n (.blk id::ks) Q al M:=h
theorem go_lp {J:Sl→Mem→Prop} (h:J al M):AGo ro P n (.lp J::ks) Q al M:=h
theorem c_start {c:Code} (h:ACode ro P n c (after ro P n [] Q) al M):ACode ro P n c Q al M:=h
theorem c_seq {x y:Code} (h:ACode ro P n x (after ro P n (.code y::ks) Q) al M):ACode ro P n (.seq x y) (after ro P n ks Q) al M:=ACode.seq h
theorem c_region {id:Nat} {l:List Oper} (h:AOps P n l.toArray (AGo ro P n ks Q) l al M):ACode ro P n (.region id l.toArray false) (after ro P n ks Q) al M:=ACode.region h
theorem c_drawn {id:Nat} {l:List Oper} (hmix:P.follows .mixedOrders=true) (hfl:flowOk n l=true) (h:DOps P l M (fun al'=>AGo ro P n ks Q al' M) l al):ACode ro P n (.region id l.toArray true) (after ro P n ks Q) al M:=ACode.drawn hmix hfl h
theorem c_skip (h:AGo ro P n ks Q al M):ACode ro P n .skip (after ro P n ks Q) al M:=ACode.skip h
theorem c_block {id:Nat} {c:Code} (h:ACode ro P n c (after ro P n (.blk id::ks) Q) al M):ACode ro P n (.block id c) (after ro P n ks Q) al M:=ACode.block h
theorem c_exit {id:Nat} (h:AX ro P n ks Q id al M):ACode ro P n (.exit id) (after ro P n ks Q) al M:=ACode.exit h
theorem x_code {id:Nat} {c:Code} (h:AX ro P n ks Q id al M):AX ro P n (.code c::ks) Q id al M:=h
theorem x_lp {id:Nat} {J:Sl→Mem→Prop} (h:AX ro P n ks Q id al M):AX ro P n (.lp J::ks) Q id al M:=h
theorem x_here {id:Nat} (h:AGo ro P n ks Q al M):AX ro P n (.blk id::ks) Q id al M:=by
 unfold AX;rw [after];unfold AGo at h;simpa [InBlk] using h
theorem after_ret:∀ ks:List Kont,after ro P n ks Q .ret=Q .ret
 | []=>rfl
 | .code _::ks=>after_ret ks
 | .blk _::ks=>after_ret ks
 | .lp _::ks=>after_ret ks
theorem c_ret (h:Q .ret al M):ACode ro P n .ret (after ro P n ks Q) al M:=ACode.ret (by rw [after_ret];exact h)
theorem c_cond_t {c:Operand} {x y:Code} (hc:al.ev c=some (.val (.bool true))) (h1:ACode ro P n x (after ro P n ks Q) al M):ACode ro P n (.cond c x y) (after ro P n ks Q) al M:=ACode.cond hc (fun _=>h1) (fun h=>by simp at h)
theorem c_cond_f {c:Operand} {x y:Code} (hc:al.ev c=some (.val (.bool false))) (h1:ACode ro P n y (after ro P n ks Q) al M):ACode ro P n (.cond c x y) (after ro P n ks Q) al M:=ACode.cond hc (fun h=>by simp at h) (fun _=>h1)
def Back {σ:Type} (alx:σ→Sl) (Mx:σ→Mem) (I:σ→Prop) (μ:σ→Nat) (m:Nat) (al:Sl) (M:Mem):Prop:=∃ x,I x∧μ x<m∧SLe al (alx x)∧MLe M (Mx x)
theorem c_loop {c:Code} {σ:Type} (alx:σ→Sl) (Mx:σ→Mem) (I:σ→Prop) (μ:σ→Nat) (x0:σ) (h0:I x0) (hs:SLe al (alx x0)) (hm:MLe M (Mx x0))
    (h:∀ x,I x→ACode ro P n c (after ro P n (.lp (Back alx Mx I μ (μ x))::ks) Q) (alx x) (Mx x)):ACode ro P n (.loop c) (after ro P n ks Q) al M:=by
 refine ACode.loop (fun x al M=>I x∧SLe al (alx x)∧MLe M (Mx x)) μ x0 ⟨h0,hs,hm⟩ ?_
 rintro x al M ⟨h1,h2,h3⟩
 refine ACode.le h2 h3 (ACode.mono (h x h1) ?_)
 intro e al M he
 cases e with
 | normal =>
  obtain ⟨x',k1,k2,k3,k4⟩:=he
  exact ⟨x',⟨k1,k3,k4⟩,k2⟩
 | exit id=>exact he
 | goto l=>exact he
 | ret=>exact he
 | panic c=>exact he
 | outgrown=>exact he
theorem c_lens {c:Code} {t m:Nat} {v:AV} {es:List (List AV)} (ht:al.lookup t=some v) (hq:IsSeq v m es) (h:es.length≤9223372036854775807→ACode ro P n c (after ro P n ks Q) al M):ACode ro P n c (after ro P n ks Q) al M:=by
 intro B F Mf a w hi hs
 exact h (hq.rel (hs.2 t v ht).2).seq_max B F Mf a w hi hs
theorem c_lena {c:Code} {t j m:Nat} {cs:List AV} {v:AV} {es:List (List AV)} (ht:al.lookup t=some (.agg cs)) (hj:cs[j]?=some v) (hq:IsSeq v m es) (h:es.length≤9223372036854775807→ACode ro P n c (after ro P n ks Q) al M):ACode ro P n c (after ro P n ks Q) al M:=by
 intro B F Mf a w hi hs
 have h2:=(hs.2 t _ ht).2
 generalize a.tmps.getD t undef=y at h2
 cases h2 with
 | agg hr _ =>
  obtain ⟨u,_,hu⟩:=hr.get hj
  exact h (hq.rel hu).seq_max B F Mf a w hi hs
end
theorem SLe.wo (al:Sl) (t:Nat):SLe al (al.filter fun x => !Nat.beq x.1 t):=fun s u e=>by
 refine ⟨u,?_,Le.refl u⟩
 induction al with
 | nil=>exact e
 | cons x al ih =>
  rw [List.filter_cons] at e
  by_cases q:Nat.beq x.1 t=true
  ·rw [q] at e
   simp at e
   by_cases r:s=x.1
   ·exfalso
    have h1:x.1=t:=Nat.eq_of_beq_eq_true q
    have key:∀ l:Sl,List.lookup s (l.filter fun x => !Nat.beq x.1 t)=none:=by
     intro l
     induction l with
     | nil=>rfl
     | cons y l ih2 =>
      rw [List.filter_cons]
      split
      ·rename_i hy
       have:(s == y.1)=false:=by
        have:s≠y.1:=fun h=>by
         have:Nat.beq y.1 t=true:=by rw [← h,r,h1];exact Nat.beq_refl t
         rw [this] at hy;simp at hy
        simpa using this
       rw [List.lookup,this];exact ih2
      ·exact ih2
    rw [key al] at e;simp at e
   ·have:(s == x.1)=false:=by simpa using r
    rw [List.lookup,this];exact ih e
  ·rw [if_pos (by cases hq:Nat.beq x.1 t <;> simp_all)] at e
   by_cases r:s=x.1
   ·subst r
    rw [List.lookup] at e ⊢
    simpa using e
   ·have:(s == x.1)=false:=by simpa using r
    rw [List.lookup,this] at e ⊢
    exact ih e
theorem SLe.refl (al:Sl):SLe al al:=fun _ v h=>⟨v,h,Le.refl v⟩
theorem SLe.fresh {al al':Sl} {t:Nat} {v:AV} (ht:al'.lookup t=none) (h:SLe al al'):SLe ((t,v)::al) al':=fun s u e=>by
 by_cases q:s=t
 ·subst q;rw [ht] at e;simp at e
 ·have:(s == t)=false:=by simpa using q
  obtain ⟨v',h1,h2⟩:=h s u e
  exact ⟨v',by rw [List.lookup,this];exact h1,h2⟩
section
variable {ro:Option Nat} {P:Program} {n:Nat} {ops:Array Oper} {Q:Sl→Mem→Prop} {al:Sl} {M:Mem} {o:Oper} {K:AV→Mem→Prop}
theorem AOps.mono {Q':Sl→Mem→Prop} {l:List Oper} (h:AOps P n ops Q' l al M) (hq:∀ al M,Q' al M→Q al M):AOps P n ops Q l al M:=by
 intro B F Mf a w hi hs ro
 exact wpR_norm (fun e a w h=>h.1) (fun a w h=>⟨h.1,h.2.mono hq⟩) _ _ _ (h B F Mf a w hi hs ro)
theorem AOps.le {l:List Oper} {al':Sl} {M':Mem} (hs:SLe al al') (hm:MLe M M') (h:AOps P n ops Q l al' M'):AOps P n ops Q l al M :=
 fun B F Mf a w hi hsl=>h B F Mf a w (hi.le hm) (hsl.le hs)
def Sl.wo (al:Sl) (t:Nat):Sl:=al.filter fun x => !Nat.beq x.1 t
def BoolQ (al:Sl) (M:Mem) (tf:Nat) (p:Prop) (al':Sl) (M':Mem):Prop:=∃ c:Bool,(c=true↔p)∧SLe al' ((tf,.val (.bool c))::al.wo tf)∧MLe M' M
theorem BoolQ.mk {al:Sl} {M:Mem} {tf:Nat} {p:Prop} {al':Sl} {M':Mem} {c:Bool} (h:al'.lookup tf=some (.val (.bool c))) (hp:c=true↔p) (hs:SLe al' (al.wo tf)) (hm:MLe M' M):BoolQ al M tf p al' M':=⟨c,hp,SLe.cons h (Le.refl _) hs,hm⟩
theorem c_bool {ks:List Kont} {QQ:Exit→Sl→Mem→Prop} {id:Nat} {l:List Oper} (tf:Nat) (p:Prop) (h:AOps P n l.toArray (BoolQ al M tf p) l al M) (c0:Code) (ks':List Kont) (hks:ks=.code c0::ks') (k:∀ c:Bool,(c=true↔p)→AGo ro P n ks QQ ((tf,.val (.bool c))::al.wo tf) M):ACode ro P n (.region id l.toArray false) (after ro P n ks QQ) al M:=by
 subst hks
 refine c_region (AOps.mono h ?_)
 rintro al' M' ⟨c,h1,h2,h3⟩
 exact ACode.le h2 h3 (k c h1)
theorem c_boold {ks:List Kont} {QQ:Exit→Sl→Mem→Prop} {id:Nat} {l:List Oper} (tf:Nat) (p:Prop) (hmix:P.follows .mixedOrders=true) (hfl:flowOk n l=true) (h:DOps P l M (fun al'=>BoolQ al M tf p al' M) l al) (c0:Code) (ks':List Kont) (hks:ks=.code c0::ks') (k:∀ c:Bool,(c=true↔p)→AGo ro P n ks QQ ((tf,.val (.bool c))::al.wo tf) M):ACode ro P n (.region id l.toArray true) (after ro P n ks QQ) al M:=by
 subst hks
 have mono:∀ {l':List Oper} {al0:Sl},DOps P l M (fun al'=>BoolQ al M tf p al' M) l' al0→DOps P l M (fun al'=>AGo ro P n (.code c0::ks') QQ al' M) l' al0:=by
  intro l'
  induction l' with
  | nil =>
   intro al0 h
   obtain ⟨c,h1,h2,h3⟩:=h
   exact ACode.le h2 h3 (k c h1)
  | cons o l' ih =>
   rintro al0 ⟨v,h1,h2⟩
   exact ⟨v,h1,ih h2⟩
 exact c_drawn hmix hfl (mono h)
theorem Ze {c:Bool} {p:Prop} (h:c=true↔p):(c=false∧¬ p)∨(c=true∧p):=by
 cases c <;> simp at h <;> simp [h]
theorem nott {c c':Bool} {p:Prop} (h':c'=true↔c=false) (h:c=true↔p):c'=true↔¬ p:=by
 cases c <;> cases c' <;> simp_all
theorem AOps.guard_t {rest:List Oper} {j:Nat} {b:Bool} {t:Tmp} (hg:o.guard=some (j,b)) (hj:(ops[j]?).bind (·.dst)=some t) (hd:o.dst.all (·<n)=true) (hc:al.lookup t=some (.val (.bool b))) (h1:AOps P n ops Q ({ o with guard:=none }::rest) al M):AOps P n ops Q (o::rest) al M :=
 AOps.guard hg hj hd hc (fun _=>h1) (fun e=>by cases b <;> simp at e)
theorem AOps.guard_f {rest:List Oper} {j:Nat} {b:Bool} {t:Tmp} (hg:o.guard=some (j,b)) (hj:(ops[j]?).bind (·.dst)=some t) (hd:o.dst.all (·<n)=true) (hc:al.lookup t=some (.val (.bool !b))) (h1:AOps P n ops Q rest (al.put o.dst (.val undef)) M):AOps P n ops Q (o::rest) al M :=
 AOps.guard hg hj hd hc (fun e=>by cases b <;> simp at e) (fun _=>h1)
theorem Zb {rest:List Oper} (d:Nat) (hg:o.guard=none) (hd:o.dst=some d) (hn:Nat.blt d n=true) (h:OpT P o al M (fun v M'=>AOps P n ops Q rest ((d,v)::al) M')):AOps P n ops Q (o::rest) al M :=
 AOps.step hg (by rw [hd];simpa [Nat.blt_eq] using hn) (by rw [hd];exact h)
theorem AOps.st0 {rest:List Oper} (hg:o.guard=none) (hd:o.dst=none) (h:OpT P o al M (fun _ M'=>AOps P n ops Q rest al M')):AOps P n ops Q (o::rest) al M :=
 AOps.step hg (by rw [hd];rfl) (by rw [hd];exact h)
theorem Zm {rest:List Oper} {j:Nat} {b:Bool} {t:Tmp} (d:Nat) (hg:o.guard=some (j,b)) (hj:(ops[j]?).bind (·.dst)=some t) (hd:o.dst=some d) (hn:Nat.blt d n=true) (hc:al.lookup t=some (.val (.bool b))) (h:OpT P { o with guard:=none } al M (fun v M'=>AOps P n ops Q rest ((d,v)::al) M')):AOps P n ops Q (o::rest) al M :=
 AOps.guard_t hg hj (by rw [hd];simpa [Nat.blt_eq] using hn) hc (Zb (o:={ o with guard:=none }) d rfl hd hn h)
theorem AOps.gf {rest:List Oper} {j:Nat} {b:Bool} {t:Tmp} (d:Nat) (hg:o.guard=some (j,b)) (hj:(ops[j]?).bind (·.dst)=some t) (hd:o.dst=some d) (hn:Nat.blt d n=true) (hc:al.lookup t=some (.val (.bool !b))) (h1:AOps P n ops Q rest ((d,.val undef)::al) M):AOps P n ops Q (o::rest) al M :=
 AOps.guard_f hg hj (by rw [hd];simpa [Nat.blt_eq] using hn) hc (by rw [hd];exact h1)
theorem AOps.gu {rest:List Oper} {j:Nat} {b:Bool} {t:Tmp} (d:Nat) (hg:o.guard=some (j,b)) (hj:(ops[j]?).bind (·.dst)=some t) (hd:o.dst=some d) (hn:Nat.blt d n=true) (hc:al.lookup t=some (.val undef)) (h1:AOps P n ops Q rest ((d,.val undef)::al) M):AOps P n ops Q (o::rest) al M :=
 AOps.unguard hg hj (by rw [hd];simpa [Nat.blt_eq] using hn) hc (by rw [hd];exact h1)
theorem DOps.st {opl:List Oper} {QD:Sl→Prop} {rest:List Oper} {v:AV} (d:Nat) (hg:o.guard=none) (hd:o.dst=some d) (h:OpT P o (al.only (Oper.tmps o)) M (fun v' M'=>v'=v∧M'=M)) (q:DOps P opl M QD rest ((d,v)::al)):DOps P opl M QD (o::rest) al :=
 DOps.step hg h (by rw [hd];exact q)
theorem DOps.cm {opl:List Oper} {QD:Sl→Prop} {rest:List Oper} {p:Prop} (d:Nat) (hg:o.guard=none) (hd:o.dst=some d) (h:∀ K:AV→Mem→Prop,(∀ c:Bool,(c=true↔p)→K (.val (.bool c)) M)→OpT P o (al.only (Oper.tmps o)) M K) (q:∀ c:Bool,(c=true↔p)→DOps P opl M QD rest ((d,.val (.bool c))::al)):DOps P opl M QD (o::rest) al :=
 DOps.cmp hg h (by rw [hd];exact q)
theorem DOps.gt {opl:List Oper} {QD:Sl→Prop} {rest:List Oper} {j:Nat} {b:Bool} {t:Tmp} {v:AV} (d:Nat) (hg:o.guard=some (j,b)) (hj:(opl[j]?).bind (·.dst)=some t) (hd:o.dst=some d) (hc:al.lookup t=some (.val (.bool b))) (h:OpT P { o with guard:=none } (al.only (Oper.tmps o)) M (fun v' M'=>v'=v∧M'=M)) (q:DOps P opl M QD rest ((d,v)::al)):DOps P opl M QD (o::rest) al :=
 DOps.guard hg hj hc (fun _=>DOps.st (o:={ o with guard:=none }) d rfl hd h q) (fun e=>by cases b <;> simp at e)
theorem DOps.gf {opl:List Oper} {QD:Sl→Prop} {rest:List Oper} {j:Nat} {b:Bool} {t:Tmp} (d:Nat) (hg:o.guard=some (j,b)) (hj:(opl[j]?).bind (·.dst)=some t) (hd:o.dst=some d) (hc:al.lookup t=some (.val (.bool !b))) (q:DOps P opl M QD rest ((d,.val undef)::al)):DOps P opl M QD (o::rest) al :=
 DOps.guard hg hj hc (fun e=>by cases b <;> simp at e) (fun _=>by rw [hd];exact q)
theorem DOps.gu {opl:List Oper} {QD:Sl→Prop} {rest:List Oper} {j:Nat} {b:Bool} {t:Tmp} (d:Nat) (hg:o.guard=some (j,b)) (hj:(opl[j]?).bind (·.dst)=some t) (hd:o.dst=some d) (hc:al.lookup t=some (.val undef)) (q:DOps P opl M QD rest ((d,.val undef)::al)):DOps P opl M QD (o::rest) al :=
 DOps.unguard hg hj hc (by rw [hd];exact q)
abbrev PCall (P:Program) (f:FuncId) (vs:List AV) (r:AV):Prop:=ACall P f vs [] (fun v M'=>v=r∧M'=[])
abbrev BCall (P:Program) (f:FuncId) (vs:List AV) (p:Prop):Prop:=ACall P f vs [] (fun v M'=>(∃ c:Bool,(c=true↔p)∧v=.val (.bool c))∧M'=[])
abbrev OCall (P:Program) (f:FuncId) (vs:List AV) (e:TypeId) (m:Nat) (es:List (List AV)):Prop:=ACall P f vs [] (fun v M'=>∃ u,v=.own u m es∧M'=[.own e m u])
theorem op_callp {f:FuncId} {xs:List Operand} {ts:Array TypeId} {vs vs':List AV} {r:AV} (ho:o.op=.call { callee:=.value (.func f),args:=xs.toArray,argTypes:=ts }) (hx:xs.mapM al.ev=some vs) (hc:PCall P f vs' r) (hl:Les vs vs') (q:K r M):OpT P o al M K :=
 op_call ho hx ((ACall.args hl hc).frame M) (by rintro v M' ⟨M0,rfl,rfl,rfl⟩;exact q)
theorem op_callb {f:FuncId} {xs:List Operand} {ts:Array TypeId} {vs vs':List AV} {p:Prop} (ho:o.op=.call { callee:=.value (.func f),args:=xs.toArray,argTypes:=ts }) (hx:xs.mapM al.ev=some vs) (hc:BCall P f vs' p) (hl:Les vs vs') (q:∀ c:Bool,(c=true↔p)→K (.val (.bool c)) M):OpT P o al M K :=
 op_call ho hx ((ACall.args hl hc).frame M) (by rintro v M' ⟨M0,rfl,⟨c,h1,rfl⟩,rfl⟩;exact q c h1)
theorem op_callg {f:FuncId} {xs:List Operand} {ts:Array TypeId} {vs vs':List AV} {M1 M2:Mem} {R:AV→Mem→Prop} (ho:o.op=.call { callee:=.value (.func f),args:=xs.toArray,argTypes:=ts }) (hx:xs.mapM al.ev=some vs) (hc:ACall P f vs' M1 R) (hl:Les vs vs') (hp:M.Perm (M1++M2)) (q:∀ v M',R v M'→K v (M'++M2)):OpT P o al M K :=
 op_call ho hx (((ACall.args hl hc).frame M2).perm hp) (by rintro v M' ⟨M0,rfl,h⟩;exact q v M0 h)
theorem ACall.weak {f:FuncId} {vs:List AV} {R R':AV→Mem→Prop} (h:ACall P f vs M R) (hr:∀ v M',R v M'→∃ v' M'',Le v v'∧MLe M' M''∧R' v' M''):ACall P f vs M R' :=
 ⟨h.ent,fun B F Mf w us hi hv=>(h.run B F Mf w us hi hv).mono fun _ _ ⟨u,v,M',F',h1,h2,h3,h4,h5,h6⟩=>by
  obtain ⟨v',M'',k1,k2,k3⟩:=hr v M' h2
  exact ⟨u,v',M'',F',h1,k3,k1 _ _ h3,h4,h5.le k2,h6⟩⟩
theorem OCall.pure {f:FuncId} {vs:List AV} {e:TypeId} {m:Nat} {es:List (List AV)} (h:OCall P f vs e m es):PCall P f vs (.seq m es) :=
 ACall.weak h (by rintro v M' ⟨u,rfl,rfl⟩;exact ⟨_,[],Le.own _ _ _,MLe.none _,rfl,rfl⟩)
theorem op_notc {x:Operand} {t:TypeId} {b:Bool} (ho:o.op=.unOp .not t x) (hx:al.ev x=some (.val (.bool b))) (q:∀ c:Bool,(c=true↔b=false)→K (.val (.bool c)) M):OpT P o al M K :=
 op_not ho hx (q (!b) (by simp))
end
theorem Le.own_eq {u:Value} {m:Nat} {es es':List (List AV)} (h:es=es'):Le (.own u m es) (.own u m es'):=by rw [h];exact Le.refl _
theorem Le.own_seq {u:Value} {m:Nat} {es es':List (List AV)} (h:es=es'):Le (.own u m es) (.seq m es'):=by rw [h];exact Le.own _ _ _
theorem Le.seq_eq {m:Nat} {es es':List (List AV)} (h:es=es'):Le (.seq m es) (.seq m es'):=by rw [h];exact Le.refl _
theorem out_ct {P:Program} {fn:Func} {R:AV→Mem→Prop} {al:Sl} {M M':Mem} {t1 t T b s i:Nat} {cs:List AV} {v v':AV} (hr:fn.results=#[.cell t T,.tmp t1]) (h1:al.lookup t1=some v) (hv:al.lookup t=some (.ptr b 0)) (hm0:M[i]?=some (.loc b cs)) (ht:tyAgg P T=some (some s)) (hs:cs.length=s) (hl:Le (.tup [.agg cs,v]) v') (hm:MLe M M') (h:R v' M'):Out P fn R .ret al M :=
 ⟨[.agg cs,v],v',M',by rw [hr];exact .cons ⟨b,0,i,cs,hv,hm0,.inl ⟨s,ht,by rw [List.drop_zero,← hs,List.take_length],by omega⟩⟩ (.cons h1 .nil),hl,hm,h⟩
theorem out_tmp {P:Program} {fn:Func} {R:AV→Mem→Prop} {al:Sl} {M M':Mem} {t:Nat} {v v':AV} (hr:fn.results=#[.tmp t]) (hv:al.lookup t=some v) (hl:Le v v') (hm:MLe M M') (h:R v' M'):Out P fn R .ret al M :=
 ⟨[v],v',M',by rw [hr];exact .cons hv .nil,hl,hm,h⟩
theorem out_cell {P:Program} {fn:Func} {R:AV→Mem→Prop} {al:Sl} {M M':Mem} {t T b s i:Nat} {cs:List AV} {v':AV} (hr:fn.results=#[.cell t T]) (hv:al.lookup t=some (.ptr b 0)) (hm0:M[i]?=some (.loc b cs)) (ht:tyAgg P T=some (some s)) (hs:cs.length=s) (hl:Le (.agg cs) v') (hm:MLe M M') (h:R v' M'):Out P fn R .ret al M :=
 ⟨[.agg cs],v',M',by rw [hr];exact .cons ⟨b,0,i,cs,hv,hm0,.inl ⟨s,ht,by rw [List.drop_zero,← hs,List.take_length],by omega⟩⟩ .nil,hl,hm,h⟩
def fpm (M:Mem):Option Nat→Mem
 | none=>[]
 | some k=>(M[k]?).toList
def EOps (P:Program) (ops:List Oper) (ws:List Nat) (anc:List (List Nat)) (Q:Sl→Mem→Prop):List Nat→Sl→Mem→List (Nat × Nat)→Prop
 | [],al,M,_=>Q al M
 | i::ord,al,M,L=>∃ o,ops[i]?=some o ∧
     if ws.contains i then o.guard=none ∧
      ((∃ k r,M[k]?=some r∧(L.all fun x=>x.2 != k ||(anc.getD i []).contains x.1)=true∧OpT P o (al.only (Oper.tmps o)) [r] (fun v M'=>∃ r',M'=[r']∧EOps P ops ws anc Q ord (al.put o.dst v) (M.set k r') L)) ∨
       OpT P o (al.only (Oper.tmps o)) [] (fun v M'=>EOps P ops ws anc Q ord (al.put o.dst v) (M++M') L) ∨
       ((L.all fun x=>(anc.getD i []).contains x.1)=true∧OpT P o (al.only (Oper.tmps o)) M (fun v M'=>EOps P ops ws anc Q ord (al.put o.dst v) M' [])))
     else ∃ (fp:Option Nat) (v:AV),fp.all (fun k=>Nat.blt k M.length)=true∧DStep P ops o al (fpm M fp) v∧EOps P ops ws anc Q ord (al.put o.dst v) M ((fp.toList.map fun k=>(i,k))++L)
def befo (ord:List Nat) (a b:Nat):Bool:=(ord.idxOf a)<(ord.idxOf b)
def flowE (n:Nat) (l:List Oper) (ord ws:List Nat) (anc:List (List Nat)):Bool :=
 (ord.length == l.length && (List.range l.length).all (ord.contains ·) && decide ord.Nodup && ord.all (fun i=>Nat.blt i l.length)) &&
 (l.zipIdx.all fun (o,i)=>o.dst.all (·<n) && (bindsOn o).all (fun j=>j<i) &&
  (anc.getD i []).all (fun a=>(bindsOn o).contains a ||(bindsOn o).any (fun c=>(anc.getD c []).contains a))) &&
 (ws.all fun j=>(List.range l.length).all fun i=>i == j || befo ord i j ||(anc.getD i []).contains j) &&
 (l.zipIdx.all fun (o,i)=>l.zipIdx.all fun (p,k)=>(k == i || o.dst.isNone || o.dst != p.dst) &&
     (match p.dst with
      | some t => !(Oper.sees l o).contains t || k == i ||(if befo ord k i then (anc.getD i []).contains k else (anc.getD k []).contains i)
      | none=>true))
structure FlowE (n:Nat) (l:List Oper) (ord ws:List Nat) (anc:List (List Nat)):Prop where
 nodup:ord.Nodup
 mem:∀ i,i<l.length→i∈ord
 lt:∀ i∈ord,i<l.length
 dst:∀ (i:Nat) (o:Oper),l[i]?=some o→o.dst.all (·<n)=true
 back:∀ (i:Nat) (o:Oper),l[i]?=some o→∀ j∈bindsOn o,j<i
 ancs:∀ (i:Nat) (o:Oper),l[i]?=some o→∀ a∈anc.getD i [],a∈bindsOn o∨∃ c∈bindsOn o,a∈anc.getD c []
 wild:∀ j∈ws,∀ i,i<l.length→i=j∨befo ord i j=true∨j∈anc.getD i []
 once:∀ (i:Nat) (o:Oper) (k:Nat) (p:Oper) (t:Tmp),l[i]?=some o→l[k]?=some p→o.dst=some t→p.dst=some t→k=i
 see:∀ (i:Nat) (o:Oper) (k:Nat) (p:Oper) (t:Tmp),l[i]?=some o→l[k]?=some p→p.dst=some t→t∈Oper.sees l o→k=i∨(befo ord k i=true∧k∈anc.getD i [])∨(befo ord k i=false∧i∈anc.getD k [])
theorem all_range {n:Nat} {p:Nat→Bool} (h:(List.range n).all p=true) {i:Nat} (hi:i<n):p i=true:=List.all_eq_true.1 h i (by simpa using hi)
theorem FlowE.of {n:Nat} {l:List Oper} {ord ws:List Nat} {anc:List (List Nat)} (h:flowE n l ord ws anc=true):FlowE n l ord ws anc:=by
 unfold flowE at h
 simp only [Bool.and_eq_true] at h
 obtain ⟨⟨⟨⟨⟨⟨_,h2⟩,h3⟩,h7⟩,h4⟩,h5⟩,h6⟩:=h
 have hmem:∀ i,i<l.length→i∈ord:=fun i hi=>by simpa using all_range h2 hi
 refine ⟨by simpa using h3,hmem,fun i hi=>by simpa [Nat.blt_eq] using List.all_eq_true.1 h7 i hi,fun i o ho=>?_,fun i o ho j hj=>?_,fun i o ho a ha=>?_,fun j hj i hi=>?_,fun i o k p t ho hp e1 e2=>?_,fun i o k p t ho hp e1 e2=>?_⟩
 ·have:=zipIdx_all h4 ho
  simp only [Bool.and_eq_true] at this
  exact this.1.1
 ·have:=zipIdx_all h4 ho
  simp only [Bool.and_eq_true,List.all_eq_true,decide_eq_true_eq] at this
  exact this.1.2 j hj
 ·have:=zipIdx_all h4 ho
  simp only [Bool.and_eq_true,List.all_eq_true] at this
  have:=this.2 a ha
  simp only [Bool.or_eq_true,List.contains_iff_mem,List.any_eq_true] at this
  exact this
 ·have:=all_range (List.all_eq_true.1 h5 j hj) hi
  simp only [Bool.or_eq_true,beq_iff_eq,List.contains_iff_mem] at this
  rcases this with (q|q)|q
  ·exact Or.inl q
  ·exact Or.inr (Or.inl q)
  ·exact Or.inr (Or.inr q)
 ·have:=zipIdx_all (zipIdx_all h6 ho) hp
  simp only [Bool.and_eq_true,Bool.or_eq_true,beq_iff_eq] at this
  rcases this.1 with (q|q)|q
  ·exact q
  ·simp [e1] at q
  ·simp [e1,e2] at q
 ·have:=(Bool.and_eq_true _ _ ▸ zipIdx_all (zipIdx_all h6 ho) hp).2
  simp only [e1,Bool.or_eq_true,beq_iff_eq,Bool.not_eq_true'] at this
  rcases this with (q|q)|q
  ·simp [e2] at q
  ·exact Or.inl q
  ·split at q
   ·rename_i hb;exact Or.inr (Or.inl ⟨hb,by simpa using q⟩)
   ·rename_i hb
    by_cases e:k=i
    ·exact Or.inl e
    ·exact Or.inr (Or.inr ⟨by simpa using hb,by simpa using q⟩)
def putsI (l:List Oper) (pv:Nat→AV):List Nat→Sl→Sl
 | [],al=>al
 | k::ks,al=>putsI l pv ks (al.put ((l[k]?).bind (·.dst)) (pv k))
theorem putsI_lookup (l:List Oper) (pv:Nat→AV):∀ (ks:List Nat) (al:Sl) (t:Tmp),(∃ k o,k∈ks∧l[k]?=some o∧o.dst=some t∧(putsI l pv ks al).lookup t=some (pv k))∨((∀ k o,k∈ks→l[k]?=some o→o.dst≠some t)∧(putsI l pv ks al).lookup t=al.lookup t)
 | [],al,t=>Or.inr ⟨by simp,rfl⟩
 | k::ks,al,t=>by
  rw [putsI]
  rcases putsI_lookup l pv ks (al.put ((l[k]?).bind (·.dst)) (pv k)) t with ⟨j,o,h1,h2,h3,h4⟩|⟨h1,h2⟩
  ·exact Or.inl ⟨j,o,by simp [h1],h2,h3,h4⟩
  ·by_cases e:(l[k]?).bind (·.dst)=some t
   ·obtain ⟨o,ho,hd⟩:=Option.bind_eq_some_iff.1 e
    refine Or.inl ⟨k,o,by simp,ho,hd,?_⟩
    rw [h2,e];simp [Sl.put]
   ·refine Or.inr ⟨fun j o hj ho hd=>?_,?_⟩
    ·rcases List.mem_cons.1 hj with rfl|hj
     ·exact e (by rw [ho];exact hd)
     ·exact h1 j o hj ho hd
    ·rw [h2]
     cases hd:(l[k]?).bind (·.dst) with
     | none=>rfl
     | some d =>
      have:(t == d)=false:=by
       have:t≠d:=fun q=>e (by rw [hd,q])
       simpa using this
      simp [Sl.put,List.lookup_cons,this]
theorem befo_split {ord a b:List Nat} {i k:Nat} (hn:ord.Nodup) (he:ord=a++i::b):(k∈a→befo ord k i=true)∧(k∈b→befo ord k i=false):=by
 subst he
 rw [List.nodup_append] at hn
 obtain ⟨h1,h2,h3⟩:=hn
 have hia:i∉a:=fun h=>h3 i h i (by simp) rfl
 have ei:(a++i::b).idxOf i=a.length:=by rw [List.idxOf_append];simp [hia]
 constructor
 ·intro hk
  have:(a++i::b).idxOf k=a.idxOf k:=by rw [List.idxOf_append,if_pos hk]
  unfold befo
  rw [ei,this]
  simpa using List.idxOf_lt_length_iff.2 hk
 ·intro hk
  have hka:k∉a:=fun h=>h3 k h k (by simp [hk]) rfl
  have:(a++i::b).idxOf k=(i::b).idxOf k+a.length:=by rw [List.idxOf_append,if_neg hka]
  unfold befo
  rw [ei,this]
  simp
section
variable {P:Program} {n:Nat} {l:List Oper} {ord ws:List Nat} {anc:List (List Nat)} {QQ:Sl→Mem→Prop} {al:Sl}
structure AtE (P:Program) (n B:Nat) (F:EH) (Mf:Mem) (w0:World) (ds:List Deferred) (l:List Oper) (ord ws:List Nat) (anc:List (List Nat)) (QQ:Sl→Mem→Prop) (al:Sl) (lis:Array Bool) (a:Act) (w:World) (pr rest:List Nat) (pv:Nat→AV) (M:Mem) (L:List (Nat × Nat)):Prop where
 size:lis.size=l.length
 closed:∀ (k:Nat) (o:Oper),l[k]?=some o→lis[k]?=some true→∀ j∈bindsOn o,lis[j]?=some true
 defers:a.defers=ds
 tmps:a.tmps.size=n
 ord:ord=pr++rest
 done:∀ k,lis[k]?=some true→k∈pr
 wild:∀ k∈pr,k∈ws→lis[k]?=some true
 next:rest=[]∨∃ j rest',rest=j::rest'∧j∈ws
 eops:EOps P l ws anc QQ rest (putsI l pv pr al) M L
 lenL:∀ x∈L,x.2<M.length
 steps:∀ p1 i p2,pr=p1++i::p2→i∉ws→lis[i]?=some false→∃ o fp,l[i]?=some o∧(∀ p,fp=some p→(i,p)∈L)∧DStep P l o (putsI l pv p1 al) (fpm M fp) (pv i)
 mem:∃ F',Ext F F'∧Inv B F' (M++Mf) w∧Below B w0 w ∧
  (∀ t v,al.lookup t=some v→(∀ (j:Nat) (o:Oper),l[j]?=some o→o.dst=some t→lis[j]?=some false)→t<n∧Rel F' v (a.tmps.getD t undef)) ∧
  (∀ (j:Nat) (o:Oper) (t:Tmp),l[j]?=some o→o.dst=some t→lis[j]?=some true→t<n∧Rel F' (pv j) (a.tmps.getD t undef))
theorem closed_anc (hfl:FlowE n l ord ws anc) {lis:Array Bool} (hc:∀ (k:Nat) (o:Oper),l[k]?=some o→lis[k]?=some true→∀ j∈bindsOn o,lis[j]?=some true):∀ (i:Nat) (o:Oper),l[i]?=some o→(∀ j∈bindsOn o,lis[j]?=some true)→∀ a∈anc.getD i [],lis[a]?=some true:=by
 intro i
 induction i using Nat.strongRecOn with
 | _ i ih =>
  intro o ho hb a ha
  rcases hfl.ancs i o ho a ha with q|⟨c,hc1,hc2⟩
  ·exact hb a q
  ·have hci:=hfl.back i o ho c hc1
   have hil:i<l.length:=by
    rcases Nat.lt_or_ge i l.length with k|k
    ·exact k
    ·rw [List.getElem?_eq_none k] at ho;simp at ho
   have hcl:l[c]?=some l[c]:=List.getElem?_eq_getElem (by omega)
   exact ih c hci l[c] hcl (hc c l[c] hcl (hb c hc1)) a hc2
theorem AtE.sees {ds:List Deferred} {B:Nat} {F:EH} {Mf:Mem} {w0:World} {lis:Array Bool} {a:Act} {w:World} {pr rest:List Nat} {pv:Nat→AV} {M:Mem} {L:List (Nat × Nat)} (hfl:FlowE n l ord ws anc) (h:AtE P n B F Mf w0 ds l ord ws anc QQ al lis a w pr rest pv M L) {F':EH}
    (h4:∀ t v,al.lookup t=some v→(∀ (j:Nat) (o:Oper),l[j]?=some o→o.dst=some t→lis[j]?=some false)→t<n∧Rel F' v (a.tmps.getD t undef))
    (h5:∀ (j:Nat) (o:Oper) (t:Tmp),l[j]?=some o→o.dst=some t→lis[j]?=some true→t<n∧Rel F' (pv j) (a.tmps.getD t undef))
    {i:Nat} {o:Oper} (ho:l[i]?=some o) (hni:lis[i]?=some false) (hrd:∀ j∈bindsOn o,lis[j]?=some true) {p1 p2:List Nat} (hsp:ord=p1++i::p2) :
    ∀ t∈Oper.sees l o,∀ v,(putsI l pv p1 al).lookup t=some v→t<n∧Rel F' v (a.tmps.getD t undef):=by
 intro t ht v hv
 have hanc:=closed_anc hfl h.closed i o ho hrd
 rcases putsI_lookup l pv p1 al t with ⟨j,p,k1,k2,k3,k4⟩|⟨k1,k2⟩
 ·rw [k4] at hv
  simp at hv
  subst hv
  have hb:=(befo_split hfl.nodup hsp (k:=j)).1 k1
  rcases hfl.see i o j p t ho k2 k3 ht with q|q|q
  ·subst q;exfalso
   have:=hfl.nodup
   rw [hsp,List.nodup_append] at this
   exact this.2.2 j k1 j (by simp) rfl
  ·exact h5 j p t k2 k3 (hanc j q.2)
  ·rw [hb] at q;simp at q
 ·rw [k2] at hv
  refine h4 t v hv (fun j p hj hd=>?_)
  have hjl:j<lis.size:=by
   rw [h.size]
   rcases Nat.lt_or_ge j l.length with q|q
   ·exact q
   ·rw [List.getElem?_eq_none q] at hj;simp at hj
  rcases hfl.see i o j p t ho hj hd ht with q|q|q
  ·subst q;exact hni
  ·exfalso
   have hjo:=hfl.mem j (by rw [← h.size];exact hjl)
   rw [hsp] at hjo
   rcases List.mem_append.1 hjo with r|r
   ·exact k1 j p r hj hd
   ·rcases List.mem_cons.1 r with r|r
    ·subst r;rw [befo] at q;simp at q
    ·have:=(befo_split hfl.nodup hsp (k:=j)).2 r
     rw [this] at q;simp at q
  ·rcases lis_ft hjl with r|r
   ·have:=closed_anc hfl h.closed j p hj (h.closed j p hj r) i q.2
    rw [hni] at this;simp at this
   ·exact r
variable {M:Mem} {L:List (Nat × Nat)} {o:Oper}
theorem OpT.mono {al:Sl} {M:Mem} {K K':AV→Mem→Prop} (h:OpT P o al M K) (hk:∀ v M',K v M'→K' v M'):OpT P o al M K':=by
 intro n B F Mf a w hi hs ro
 refine Oper.wpIn_mono ?_ (h n B F Mf a w hi hs ro)
 rintro a' w' ⟨u,v,M',F',h1,h2,h3⟩
 exact ⟨u,v,M',F',h1,hk _ _ h2,h3⟩
theorem EOps.d {v:AV} {i:Nat} (d:Nat) (fp:Option Nat) (hi:l[i]?=some o) (hw:ws.contains i=false) (hg:o.guard=none) (hd:o.dst=some d) (hfp:fp.all (fun k=>Nat.blt k M.length)=true) (h:OpT P o (al.only (Oper.tmps o)) (fpm M fp) (fun v' M'=>v'=v∧M'=fpm M fp)) (q:EOps P l ws anc QQ ord ((d,v)::al) M ((fp.toList.map fun k=>(i,k))++L)):EOps P l ws anc QQ (i::ord) al M L :=
 ⟨o,hi,by rw [if_neg (by rw [hw];simp)];exact ⟨fp,v,hfp,by unfold DStep;rw [hg];exact h,by rw [hd];exact q⟩⟩
theorem EOps.cm {i:Nat} {p:Prop} (d:Nat) (hi:l[i]?=some o) (hw:ws.contains i=false) (hg:o.guard=none) (hd:o.dst=some d) (h:∀ K:AV→Mem→Prop,(∀ c:Bool,(c=true↔p)→K (.val (.bool c)) [])→OpT P o (al.only (Oper.tmps o)) [] K) (q:∀ c:Bool,(c=true↔p)→EOps P l ws anc QQ ord ((d,.val (.bool c))::al) M L):EOps P l ws anc QQ (i::ord) al M L:=by
 have:∃ c:Bool,c=true↔p:=by
  by_cases hp:p
  ·exact ⟨true,by simp [hp]⟩
  ·exact ⟨false,by simp [hp]⟩
 obtain ⟨c,hc⟩:=this
 refine EOps.d d none hi hw hg hd rfl (h _ (fun c' hc'=>⟨?_,rfl⟩)) (q c hc)
 have:c'=c:=by cases c <;> cases c' <;> simp_all
 rw [this]
theorem EOps.w {i:Nat} {r:Res} (k:Nat) (hi:l[i]?=some o) (hw:ws.contains i=true) (hg:o.guard=none) (hr:M[k]?=some r) (hL:(L.all fun x=>x.2 != k ||(anc.getD i []).contains x.1)=true) (h:OpT P o (al.only (Oper.tmps o)) [r] (fun v M'=>∃ r',M'=[r']∧EOps P l ws anc QQ ord (al.put o.dst v) (M.set k r') L)):EOps P l ws anc QQ (i::ord) al M L :=
 ⟨o,hi,by rw [if_pos hw];exact ⟨hg,.inl ⟨k,r,hr,hL,h⟩⟩⟩
end
section
variable {P:Program} {n:Nat} {al:Sl} {M:Mem} {o:Oper} {K:AV→Mem→Prop}
theorem ACall.swap {f:FuncId} {vs:List AV} {M1 M2:Mem} {R:AV→Mem→Prop} (h:ACall P f vs M1 R):ACall P f vs (M2++M1) (fun v M'=>∃ M0,M'=M2++M0∧R v M0) :=
 ⟨h.ent,fun B F Mf w us hi hv=>by
  have e:(M2++M1++Mf).Perm (M1++(M2++Mf)):=by rw [List.append_assoc];exact List.perm_append_comm_assoc _ _ _
  refine (h.run B F (M2++Mf) w us (hi.perm e) hv).mono fun _ _ ⟨u,v,M',F',h1,h2,h3,h4,h5,h6⟩=>⟨u,v,M2++M',F',h1,⟨M',rfl,h2⟩,h3,h4,h5.perm ?_,h6⟩
  rw [List.append_assoc];exact List.perm_append_comm_assoc _ _ _⟩
theorem op_callm {f:FuncId} {xs:List Operand} {ts:Array TypeId} {vs vs':List AV} (M2:Mem) {M1:Mem} {R:AV→Mem→Prop} (ho:o.op=.call { callee:=.value (.func f),args:=xs.toArray,argTypes:=ts }) (hx:xs.mapM al.ev=some vs) (hM:M=M2++M1) (hc:ACall P f vs' M1 R) (hl:Les vs vs') (q:∀ v M',R v M'→K v (M2++M')):OpT P o al M K:=by
 subst hM
 exact op_call ho hx (ACall.swap (M2:=M2) (ACall.args hl hc)) (by rintro v M' ⟨M0,rfl,h⟩;exact q v M0 h)
theorem op_callvm {x:Operand} {f:FuncId} {fs cs:List AV} {xs:List Operand} {ts:Array TypeId} {vs vs':List AV} (M2:Mem) {M1:Mem} {R:AV→Mem→Prop} (ho:o.op=.call { callee:=.value x,args:=xs.toArray,argTypes:=ts }) (hf:al.ev x=some (.clo (.func f) fs cs)) (hx:xs.mapM al.ev=some vs) (hM:M=M2++M1) (hc:ACall P f vs' M1 R) (hl:Les (fs++vs++cs) vs') (q:∀ v M',R v M'→K v (M2++M')):OpT P o al M K:=by
 subst hM
 exact op_callv ho hf hx (ACall.swap (M2:=M2) (ACall.args hl hc)) (by rintro v M' ⟨M0,rfl,h⟩;exact q v M0 h)
def MImp (M M':Mem):Prop:=∀ (B:Nat) (F:EH) (Mf:Mem) (w:World),Inv B F (M++Mf) w→Inv B F (M'++Mf) w
theorem MImp.refl (M:Mem):MImp M M:=fun _ _ _ _ h=>h
theorem MImp.trans {M1 M2 M3:Mem} (h:MImp M1 M2) (k:MImp M2 M3):MImp M1 M3:=fun B F Mf w x=>k B F Mf w (h B F Mf w x)
theorem MImp.perm {M1 M2:Mem} (h:M1.Perm M2):MImp M1 M2:=fun _ _ Mf _ x=>x.perm (h.append_right Mf)
theorem MImp.le {M1 M2:Mem} (h:MLe M1 M2):MImp M1 M2:=fun _ _ _ _ x=>x.le h
theorem MImp.swap (a b:Res) (M:Mem):MImp (a::b::M) (b::a::M):=MImp.perm (List.Perm.swap b a M)
theorem MImp.cons (a:Res) {M1 M2:Mem} (h:MImp M1 M2):MImp (a::M1) (a::M2):=fun B F Mf w x=>by
 have e1:(a::M1++Mf).Perm (M1++(a::Mf)):=by simpa using (List.perm_middle (l₁:=M1) (l₂:=Mf) (a:=a)).symm
 have e2:(M2++(a::Mf)).Perm (a::M2++Mf):=by simp
 exact (h B F (a::Mf) w (x.perm e1)).perm e2
theorem MImp.ownNil (b:Nat) (e:TypeId) (m:Nat) (M:Mem):MImp (.loc b [.val (.slice none 0 0)]::M) (.loc b [.own (.slice none 0 0) m []]::.own e m (.slice none 0 0)::M):=fun B F Mf w x=>by
 refine MImp.swap _ _ _ B F Mf w ?_
 have h:=x.ownNil e m
 refine ⟨h.base,h.fix,fun r hr=>?_,?_⟩
 ·simp only [List.cons_append,List.mem_cons] at hr
  rcases hr with rfl|rfl|hr
  ·exact h.ok _ (by simp)
  ·obtain ⟨h1,h2,vs,T,h3,h4,h5⟩:=h.ok (.loc b [.val (.slice none 0 0)]) (by simp)
   refine ⟨h1,h2,vs,T,h3,?_,h5⟩
   cases h4 with
   | cons k ks =>
    cases ks
    cases k
    exact .cons (.own _ (.seq0 m none 0 (fun _=>rfl))) .nil
  ·exact h.ok r (by simp [hr])
 ·have:=h.far
  rw [far_map] at this ⊢
  simpa [Res.blk] using this
theorem c_mem {ro:Option Nat} {ks:List Kont} {Q:Exit→Sl→Mem→Prop} {c:Code} {M':Mem} (hm:MImp M M') (h:ACode ro P n c (after ro P n ks Q) al M'):ACode ro P n c (after ro P n ks Q) al M :=
 fun B F Mf a w hi hs=>h B F Mf a w (hm B F Mf w hi) hs
theorem setL_flat {m:Nat}:∀ (es:List (List AV)) (i:Nat) (xs:List AV),(∀ e∈es,e.length=m)→xs.length=m→i<es.length→setL es.flatten (i * m) xs=(es.set i xs).flatten
 | [],i,xs,_,_,h=>by simp at h
 | e::es,0,xs,h,hx,_=>by
  have h1:=h e (by simp)
  have:=setL_app xs [] (e++es.flatten) (by simp;omega)
  simp only [List.nil_append,List.length_nil] at this
  simp only [List.flatten_cons,List.set_cons_zero,Nat.zero_mul,this]
  rw [List.drop_append]
  simp [h1,hx]
 | e::es,i+1,xs,h,hx,hi=>by
  have h1:=h e (by simp)
  have ih:=setL_flat es i xs (fun x hx=>h x (by simp [hx])) hx (by simpa using hi)
  simp only [List.flatten_cons,List.set_cons_succ,← ih]
  have key:∀ (xs:List AV) (pre l:List AV) (j:Nat),setL (pre++l) (pre.length+j) xs=pre++setL l j xs:=by
   intro xs
   induction xs with
   | nil=>intro pre l j;rfl
   | cons x xs ih2 =>
    intro pre l j
    rw [setL,setL,List.set_append_right _ _ (by omega),show pre.length+j - pre.length=j from by omega,show pre.length+j+1=pre.length+(j+1) from by omega]
    exact ih2 pre _ (j+1)
  have:=key xs e es.flatten (i * m)
  rw [h1] at this
  rw [← this]
  congr 1
  rw [Nat.add_mul];omega
theorem op_store_row {x y:Operand} {t:TypeId} {m b i k:Nat} {v:AV} {es:List (List AV)} (ho:o.op=.store t x y) (ht:(P.info? t).map (·.size)=some m) (hx:al.ev x=some (.ptr b (0+i * m))) (hy:al.ev y=some v) (hf:v.flat=true) (hs:v.cells.length=m) (hm:M[k]?=some (.loc b es.flatten)) (hw:∀ e∈es,e.length=m) (hi:i<es.length) (q:K (.val undef) (M.set k (.loc b (es.set i v.cells).flatten))):OpT P o al M K:=by
 rw [Nat.zero_add] at hx
 refine op_store ho ht hx hy hf hs hm ?_ (setL_flat es i v.cells hw hs hi) q
 rw [flat_len hw]
 have:(i+1) * m≤es.length * m:=Nat.mul_le_mul_right m hi
 rw [Nat.add_mul] at this
 omega
theorem op_boxe {x:Operand} {t:TypeId} {v:AV} {cs':List AV} (ho:o.op=.box t x) (hx:al.ev x=some v) (hf:v.flat=true) (hc:v.cells=cs') (q:∀ b,K (.ptr b 0) (.loc b cs'::M)):OpT P o al M K:=by
 subst hc;exact op_box ho hx hf q
theorem op_alloce {t:TypeId} {z:Value} {cs':List AV} (ho:o.op=.alloc t) (hz:tyZero P t=some z) (hf:(AV.val z).flat=true) (hc:(AV.val z).cells=cs') (q:∀ b,K (.ptr b 0) (.loc b cs'::M)):OpT P o al M K:=by
 subst hc;exact op_alloc ho hz hf q
def Frz (b n m:Nat) (es:List (List AV)) (al al':Sl):Prop:=∀ t v',al'.lookup t=some v'→∃ v,al.lookup t=some v∧(Le v v'∨∃ cap,v=.arr b 0 n cap∧v'=.seq m es)
theorem Frz.nil {b n m:Nat} {es:List (List AV)} {al:Sl}:Frz b n m es al []:=fun t v' e=>by simp at e
theorem Frz.cons {b n m:Nat} {es:List (List AV)} {al al':Sl} {t:Nat} {v v':AV} (hv:al.lookup t=some v) (h:Le v v') (hs:Frz b n m es al al'):Frz b n m es al ((t,v')::al'):=fun s u e=>by
 by_cases q:s=t
 ·subst q
  simp at e;subst e
  exact ⟨v,hv,.inl h⟩
 ·have:(s == t)=false:=by simpa using q
  rw [List.lookup,this] at e
  exact hs s u e
theorem Frz.arr {b n m cap:Nat} {es:List (List AV)} {al al':Sl} {t:Nat} (hv:al.lookup t=some (.arr b 0 n cap)) (hs:Frz b n m es al al'):Frz b n m es al ((t,.seq m es)::al'):=fun s u e=>by
 by_cases q:s=t
 ·subst q
  simp at e;subst e
  exact ⟨_,hv,.inr ⟨cap,rfl,rfl⟩⟩
 ·have:(s == t)=false:=by simpa using q
  rw [List.lookup,this] at e
  exact hs s u e
theorem c_freeze {ro:Option Nat} {ks:List Kont} {Q:Exit→Sl→Mem→Prop} {c:Code} {b k m i:Nat} {cs:List AV} {es:List (List AV)} {al':Sl} (hm:M[i]?=some (.loc b cs)) (hc:cs=es.flatten) (hw:∀ e∈es,e.length=m) (hn:es.length=k) (hmax:k≤9223372036854775807) (hs:Frz b k m es al al') (h:ACode ro P n c (after ro P n ks Q) al' (M.eraseIdx i)):ACode ro P n c (after ro P n ks Q) al M :=
 ACode.freeze hm hc hw hn (by unfold maxLen;exact hmax) hs h
end
theorem op_boxc {P:Program} {al:Sl} {M:Mem} {K:AV→Mem→Prop} {o:Oper} {x:Operand} {t:TypeId} {v:AV} (ho:o.op=.box t x) (hx:al.ev x=some v) (hf:v.flat=true) {cs':List AV} (hc:v.cells=cs') (q:K (.cptr cs') M):OpT P o al M K:=by
 subst hc
 intro n B F Mf a w hi hs ro
 obtain ⟨hr,h1⟩:=(hs.ev hx).cells hf
 have hn:=hi.newFix (a.eval x).cells.toList t
 rw [Array.toArray_toList] at hn
 have hE:=EH.new_ext hi (a.eval x).cells.toList
 refine wpR_value (u:=.pointer (some ⟨w.heap.size,0,none⟩)) (by simp [execOp,ho,Instr.box,newVar,newRow]) ⟨_,_,M,_,rfl,q,?_,hE,hn,alloc_below _ hi.base⟩
 exact .cptr _ 0 (EH.new_lies F w.heap.size _) (hr.mono hE) h1
abbrev yv (l:Nat):AV:=.val (.func (.yield l) #[] #[])
def YCall (P:Program) (l:Nat) (vs:List AV) (M:Mem) (R:AV→Mem→Prop):Prop :=
 ∀ (B:Nat) (F:EH) (Mf:Mem) (w:World) (us:List Value),Inv B F (M++Mf) w→Rels F vs us→∀ ro:Option Nat,
  YieldAt (RF ro) 0 P l us.toArray w (fun e w'=>∃ u v M' F',e=.returned u∧R v M'∧Rel F' v u∧Ext F F'∧Inv B F' (M'++Mf) w'∧Below B w w')
section
variable {P:Program} {l:Nat} {vs:List AV} {M:Mem} {R:AV→Mem→Prop}
theorem YieldAt.weak {F:Fence} {m:Nat} {args:Array Value} {W:World} {Q Q':Ending→World→Prop} (h:YieldAt F m P l args W Q) (hr:∀ e w,Q e w→Q' e w):YieldAt F m P l args W Q':=by
 obtain ⟨fn,tmps,assign,body,h1,h2⟩:=h
 exact ⟨fn,tmps,assign,body,h1,h2.mono hr⟩
theorem YCall.mono {R':AV→Mem→Prop} (h:YCall P l vs M R) (hr:∀ v M',R v M'→R' v M'):YCall P l vs M R' :=
 fun B F Mf w us hi hv ro=>YieldAt.weak (h B F Mf w us hi hv ro) fun _ _ ⟨u,v,M',F',h1,h2,h3⟩=>⟨u,v,M',F',h1,hr _ _ h2,h3⟩
theorem YCall.frame (h:YCall P l vs M R) (M1:Mem):YCall P l vs (M++M1) (fun v M'=>∃ M0,M'=M0++M1∧R v M0) :=
 fun B F Mf w us hi hv ro=>YieldAt.weak (h B F (M1++Mf) w us (by rw [← List.append_assoc];exact hi) hv ro) fun _ _ ⟨u,v,M',F',h1,h2,h3,h4,h5,h6⟩ =>
  ⟨u,v,M'++M1,F',h1,⟨M',rfl,h2⟩,h3,h4,by rw [List.append_assoc];exact h5,h6⟩
theorem YCall.perm {M':Mem} (h:YCall P l vs M R) (hp:M'.Perm M):YCall P l vs M' R :=
 fun B F Mf w us hi hv ro=>h B F Mf w us (hi.perm (hp.append_right Mf)) hv ro
theorem YCall.swap {M2:Mem} (h:YCall P l vs M R):YCall P l vs (M2++M) (fun v M'=>∃ M0,M'=M2++M0∧R v M0) :=
 fun B F Mf w us hi hv ro=>by
  have e:(M2++M++Mf).Perm (M++(M2++Mf)):=by rw [List.append_assoc];exact List.perm_append_comm_assoc _ _ _
  refine YieldAt.weak (h B F (M2++Mf) w us (hi.perm e) hv ro) fun _ _ ⟨u,v,M',F',h1,h2,h3,h4,h5,h6⟩=>⟨u,v,M2++M',F',h1,⟨M',rfl,h2⟩,h3,h4,h5.perm ?_,h6⟩
  rw [List.append_assoc];exact List.perm_append_comm_assoc _ _ _
theorem YCall.args {vs':List AV} (hl:Les vs vs') (h:YCall P l vs' M R):YCall P l vs M R :=
 fun B F Mf w us hi hv ro=>h B F Mf w us hi (hl _ _ hv) ro
end
section
variable {P:Program} {al:Sl} {M:Mem} {K:AV→Mem→Prop} {o:Oper}
theorem get_lt {α:Type} {l:List α} {i:Nat} {x:α} (h:l[i]?=some x):i<l.length:=(List.getElem?_eq_some_iff.1 h).1
end
inductive Drops (ds:List Nat):Sl→Sl→Prop
 | nil:Drops ds [] []
 | skip {t:Nat} {v:AV} {al al':Sl} (h:ds.contains t=true) (k:Drops ds al al'):Drops ds ((t,v)::al) al'
 | keep {t:Nat} {v:AV} {al al':Sl} (h:ds.contains t=false) (k:Drops ds al al'):Drops ds ((t,v)::al) ((t,v)::al')
theorem Drops.at {ds:List Nat} {al al':Sl} (h:Drops ds al al'):∀ t,(ds.contains t=false→al.lookup t=al'.lookup t)∧(ds.contains t=true→al'.lookup t=none):=by
 induction h with
 | nil=>intro t;simp
 | @skip t v al al' h k ih =>
  intro s
  refine ⟨fun hs=>?_,(ih s).2⟩
  have:(s == t)=false:=by
   by_cases e:s=t
   ·subst e;rw [h] at hs;cases hs
   ·simpa using e
  simp only [List.lookup_cons,this]
  exact (ih s).1 hs
 | @keep t v al al' h k ih =>
  intro s
  constructor
  ·intro hs
   simp only [List.lookup_cons]
   cases (s == t) with
   | true=>rfl
   | false=>exact (ih s).1 hs
  ·intro hs
   have:(s == t)=false:=by
    by_cases e:s=t
    ·subst e;rw [h] at hs;cases hs
    ·simpa using e
   simp only [List.lookup_cons,this]
   exact (ih s).2 hs
theorem Drops.sle {ds:List Nat} {al al':Sl} (h:Drops ds al al'):SLe al al':=fun t v e=>by
 cases q:ds.contains t with
 | true=>rw [((h.at t).2 q)] at e;cases e
 | false=>exact ⟨v,by rw [(h.at t).1 q];exact e,Le.refl _⟩
theorem SLe.app {al a b:Sl} (ha:SLe al a) (hb:SLe al b):SLe al (a++b):=by
 intro t v e
 have e2:List.lookup t (a++b)=(List.lookup t a).or (List.lookup t b):=List.lookup_append
 rw [e2] at e
 cases q:List.lookup t a with
 | some u=>rw [q] at e;simp at e;subst e;exact ha t u q
 | none=>rw [q] at e;simp at e;exact hb t v e
section
variable {ro:Option Nat} {P:Program} {n:Nat} {ks:List Kont} {Q:Exit→Sl→Mem→Prop} {al al':Sl} {M:Mem} {σ:Type}
theorem c_loopkm {c:Code} (ds:List Nat) (chg:σ→Sl) (I:σ→Prop) (μ:σ→Nat) (x0:σ) (hd:Drops ds al al') (h0:I x0) (hs:SLe al (chg x0))
    (h:∀ x,I x→ACode ro P n c (after ro P n (.lp (Back (fun x=>chg x++al') (fun _=>M) I μ (μ x))::ks) Q) (chg x++al') M):ACode ro P n (.loop c) (after ro P n ks Q) al M :=
 c_loop (fun x=>chg x++al') (fun _=>M) I μ x0 h0 (hs.app hd.sle) (MLe.refl _) h
end
section
variable {P:Program} {o:Oper} {al:Sl} {M:Mem} {K:AV→Mem→Prop}
theorem Rel.cap {F:EH} {m:Nat} {es:List (List AV)} {u:Value} (h:Rel F (.seq m es) u):∃ ao cap,u=.slice ao es.length cap∧es.length≤cap:=by
 cases h with
 | seq0 _ ao cap hc=>exact ⟨ao,cap,rfl,by simp⟩
 | seq b off cap hm hn hl h h1 hc=>exact ⟨_,cap,rfl,hc⟩
end
abbrev rowv (g n cap:Nat):Value:=.slice (some ⟨g,0,none⟩) n cap
theorem Inv.put {B:Nat} {F:EH} {M Mf:Mem} {w w':World} {i b:Nat} {r0 r1:Res} (hi:Inv B F (M++Mf) w) (hm:M[i]?=some r0) (hb0:r0.blk=some b) (hb1:r1.blk=some b) (hF:∀ j,F b j=none) (hr1:r1.Ok B F w') (hk:∀ k,k≠b→w'.heap[k]?=w.heap[k]?) (hsz:w'.heap.size=w.heap.size):Inv B F (M.set i r1++Mf) w':=by
 have hil:=get_lt hm
 have hi2:=hi.perm ((perm_at hm).append_right Mf)
 rw [List.cons_append] at hi2
 have hfar:=hi2.far
 rw [List.pairwise_cons] at hfar
 have h:Inv B F (r1::(M.eraseIdx i++Mf)) w':=by
  refine ⟨by rw [hsz];exact hi.base,fun c j x h=>?_,fun r hr=>?_,List.pairwise_cons.2 ⟨fun r hr=>?_,hfar.2⟩⟩
  ·have hne:c≠b:=fun e=>by subst e;rw [hF j] at h;simp at h
   rw [World.cell?_of_block (w:=w) (hk c hne)]
   exact hi.fix c j x h
  ·rcases List.mem_cons.1 hr with rfl|hr
   ·exact hr1
   ·refine (hi2.ok r (List.mem_cons_of_mem _ hr)).stay (Ext.refl F) (fun c hc=>⟨hk c ?_,fun _=>rfl⟩)
    intro e
    subst e
    rcases hfar.1 r hr with k|k
    ·rw [hb0] at k;simp at k
    ·exact k (by rw [hb0,hc])
  ·right
   rw [hb1]
   rcases hfar.1 r hr with k|k
   ·rw [hb0] at k;simp at k
   ·rw [hb0] at k;exact k
 refine h.perm ?_
 rw [← List.cons_append]
 exact ((perm_set _ hil).append_right Mf).symm
structure RowAt (B:Nat) (F:EH) (w:World) (e:TypeId) (m g n cap:Nat) (es:List (List AV)) (cur:Array Value):Prop where
 len:n=es.length
 ge:B≤g
 no:∀ i,F g i=none
 wid:∀ x∈es,x.length=m
 at_:w.heap[g]?=some (.cells cur e (0,0))
 fit:n≤cap
 max:cap≤maxLen
 siz:cur.size=cap * m
 rel:Rels F es.flatten (cur.toList.take (n * m))
 one:Ones (cur.toList.take (n * m))
theorem Res.Ok.row {B:Nat} {F:EH} {w:World} {e:TypeId} {m g n cap:Nat} {es:List (List AV)} (h:(Res.row e m (rowv g n cap) es).Ok B F w):∃ cur,RowAt B F w e m g n cap es cur:=by
 obtain ⟨xs,hown,hslack,hrx,hox,hwx⟩:=h
 have hn:=hown.1
 rcases hown.2 with ⟨q,_⟩|⟨g',cap',cur,q,hbg,hg,hnc,hcm,hcs,htake⟩
 ·simp at q
 ·simp only [Value.slice.injEq,Option.some.injEq,Addr.mk.injEq,and_true] at q
  obtain ⟨rfl,rfl,rfl⟩:=q
  refine ⟨cur,rfl,hbg,fun i=>hslack g i rfl,hwx,hg,hnc,hcm,hcs,?_,?_⟩ <;> rw [htake] <;> assumption
theorem RowAt.ok {B:Nat} {F:EH} {w:World} {e:TypeId} {m g n cap:Nat} {es:List (List AV)} {cur:Array Value} (h:RowAt B F w e m g n cap es cur):(Res.row e m (rowv g n cap) es).Ok B F w:=by
 obtain ⟨h1,h2,h3,h4,h5,h6,h7,h8,h9,h10⟩:=h
 subst h1
 refine ⟨cur.toList.take (es.length * m),⟨?_,.inr ⟨g,cap,cur,rfl,h2,h5,h6,h7,h8,rfl⟩⟩,fun g' i hg=>?_,h9,h10,h4⟩
 ·rw [List.length_take]
  have:es.length * m≤cap * m:=Nat.mul_le_mul_right _ h6
  have h8':cur.toList.length=cap * m:=h8
  omega
 ·simp [Value.ownBlock] at hg;subst hg;exact h3 i
theorem RowAt.cell {B:Nat} {F:EH} {w:World} {e:TypeId} {m g n cap:Nat} {es:List (List AV)} {cur:Array Value} (h:RowAt B F w e m g n cap es cur) {j:Nat} (hj:j<n * m):w.cell? ⟨g,j,none⟩=(cur.toList.take (n * m))[j]?:=by
 unfold World.cell?
 simp [h.at_,hj]
section
variable {P:Program} {al:Sl} {M:Mem} {K:AV→Mem→Prop} {o:Oper}
end
def pick:List Nat→Mem→Option (Mem × Mem)
 | [],M=>some ([],M)
 | i::is,M=>match M[i]? with
  | none=>none
  | some r=>match pick is (M.eraseIdx i) with
   | none=>none
   | some p=>some (r::p.1,p.2)
theorem pick_perm:∀ {is:List Nat} {M M1 M2:Mem},pick is M=some (M1,M2)→M.Perm (M1++M2)
 | [],M,M1,M2,h=>by simp [pick] at h;obtain ⟨rfl,rfl⟩:=h;exact .refl _
 | i::is,M,M1,M2,h=>by
  rw [pick] at h
  split at h
  ·cases h
  ·rename_i r hr
   split at h
   ·cases h
   ·rename_i p hp
    simp only [Option.some.injEq,Prod.mk.injEq] at h
    obtain ⟨rfl,rfl⟩:=h
    exact (perm_at hr).trans ((pick_perm (M1:=p.1) (M2:=p.2) (by rw [hp])).cons _)
abbrev KCall (P:Program) (f:FuncId) (vs:List AV) (M:Mem) (r:AV):Prop:=ACall P f vs M (fun v M'=>v=r∧M'=M)
section
variable {P:Program} {al:Sl} {M:Mem} {K:AV→Mem→Prop} {o:Oper}
theorem op_callat {f:FuncId} {xs:List Operand} {ts:Array TypeId} {vs vs':List AV} (is:List Nat) {M1 M2:Mem} {R:AV→Mem→Prop} (ho:o.op=.call { callee:=.value (.func f),args:=xs.toArray,argTypes:=ts }) (hx:xs.mapM al.ev=some vs) (hp:pick is M=some (M1,M2)) (hc:ACall P f vs' M1 R) (hl:Les vs vs') (q:∀ v M',R v M'→K v (M'++M2)):OpT P o al M K :=
 op_callg ho hx hc hl (pick_perm hp) q
theorem OpT.kept {M':Mem} (hp:M.Perm M') (h:OpT P o al M (fun v M2=>K v M∧M2=M')):OpT P o al M K:=by
 intro n B F Mf a w hi hs ro
 refine Oper.wpIn_mono ?_ (h n B F Mf a w hi hs ro)
 rintro a' w' ⟨u,v,M2,F',h1,⟨h2,rfl⟩,h3,h4,h5,h6⟩
 exact ⟨u,v,M,F',h1,h2,h3,h4,h5.perm (hp.symm.append_right Mf),h6⟩
theorem op_callk {f:FuncId} {xs:List Operand} {ts:Array TypeId} {vs vs':List AV} (is:List Nat) {M1 M2:Mem} {r:AV} (ho:o.op=.call { callee:=.value (.func f),args:=xs.toArray,argTypes:=ts }) (hx:xs.mapM al.ev=some vs) (hp:pick is M=some (M1,M2)) (hc:KCall P f vs' M1 r) (hl:Les vs vs') (q:K r M):OpT P o al M K :=
 OpT.kept (pick_perm hp) (op_callat is ho hx hp hc hl (by rintro v M' ⟨rfl,rfl⟩;exact ⟨q,rfl⟩))
theorem Le.sle {a:Addr} {n n' c c':Nat} (h:n=n') (k:c=c'):Le (.val (.slice (some a) n c)) (.val (.slice (some a) n' c')):=by rw [h,k];exact Le.refl _
theorem MLe.pre:∀ M M2:Mem,MLe (M++M2) M
 | [],_=>MLe.none _
 | r::M,M2=>.cons r (MLe.pre M M2)
theorem eqGuard_p {op:BinOp} {t:TypeId} {x y:Operand} {a:Option Addr} {w:World}:(eqGuard op t x y (.pointer a) (.pointer none)).run P w=.ok () w:=by
 unfold eqGuard;split <;> simp
inductive IsPtr:AV→Prop
 | m (b off:Nat):IsPtr (.ptr b off)
 | c (cs:List AV):IsPtr (.cptr cs)
theorem IsPtr.rel {v:AV} (h:IsPtr v) {F:EH} {u:Value} (hr:Rel F v u):∃ a,u=.pointer (some a):=by
 cases h <;> cases hr <;> exact ⟨_,rfl⟩
end
end Go.Proofs.YtlkagbbbhkkogaaGreatDoor
