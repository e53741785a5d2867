/- Parts of a proof: short words; Arguments as trees: what a reading of an argument says, in the words of the logic; and how a law's call ends.; More rules: a rune as a text; a part of a text; contracts of the model's own kind; bools that are known.; Types as plain data: a kind, a name, a number, and kids; their size, their sameness, and the count that the statements bound them by.; Types as plain data, on: what a type takes and answers, its parts in order, its variables and metas.; Types as plain data, on: types with others in places that are told.; Facts of the seat's types, one by one, by evaluation.; steps that stand often; Arguments of the layers' types, opened: types, texts, substitutions.; The frame of a law's row: if the call returns true and nothing below the heap's old size has turned, the row's post holds, whatever the arguments' types.; Arguments as trees, with bounds: no slice and no text is longer than L, and the whole is no greater than the bulk of the reading.; Patterns and expressions as plain data: their cells, their parts, their sameness but for places.; Core expressions as plain data: their cells, their parts, their sameness but for the places of patterns.; Names of patterns, free names of expressions, as plain functions.; How much an expression has, as cognatelaw05.Count counts it.; How much a core expression has, as cognatelaw21's count counts it.; The arguments of the statements of layer 21.; Arguments that are one cell.; The arguments of CoreChecks, CoreMore, CorePut.; The frame of a row's second form ('..UptoSaid').; Bytes as a text.; cognateref05.Texts, SameType, SameTypes; cognatelaw08.ints; The logic of trees, part 18: calls of what Go gives without a body; texts, greater.; Plain arithmetic of 63-bit integers: what the functions of layer 1 compute, over Int, with no program in sight.; Plain arithmetic of words: what the functions of layer 2 compute.; Plain: bytes packed into words, eight a word, the first byte lowest.; Plain: words unpacked into bytes; when packing gives the words back.; the document's lexer as plain functions; the document's lexer: what bytes are; the document's lexer: over; the document's lexer: among, Key, Mark; Utf, bad; the document's lexer: bad -/
import Derived.Test.YteepjjgooplljaaGreatKLZMore1
import Derived.ProofKit
import Derived.ChangeArms
import Derived.Test.YteepjjgooplljaaGreatProg
import Derived.SizedLaws
import Derived.OpenShut
import Derived.Test.YteepjjgooplljaaGreatRows
import Derived.WideShapes
import Derived.JoinedCond
import Derived.Deep.CondSized
import Derived.Laws.BytesArg
import Derived.Lib.Bytealg
import Derived.RowKit
import Derived.Laws.Bits64
import Derived.Laws.BitsAllLaws
set_option maxRecDepth 100000
set_option maxHeartbeats 4000000
namespace Go.Proofs.YteepjjgooplljaaGreat
open Go.RowKit
theorem U {α:Sort _} {a:α}:a=a:=rfl
abbrev Wh := @List.drop_of_length_le
abbrev Wg := @List.mem_of_getElem?
abbrev Wf := @Drops.nil
abbrev We := @Drops.skip
abbrev Wd := @Drops.keep
abbrev Wc := @Nat.le_of_ble_eq_true
abbrev Wb := @Le.own_eq
abbrev Wa := @BoolQ.mk
abbrev Xz := @SLe.nil
abbrev Xy := @SLe.cons
abbrev Xx := @Le.nil
abbrev Xw := @Les.cons
abbrev Xv := @Les.refl
abbrev Xu := @Le.refl
abbrev Xt := @MLe.of_eq
abbrev Xs := @MLe.loc
abbrev Xr := @MLe.drop
abbrev Xq := @MLe.cons
abbrev Xp := @MLe.none
abbrev Xo := @MLe.refl
theorem by0 {p:Prop} (h:p:=by simp only [Pm.cellss,List.map_append];exact Less.app (Less.refl _) (by repeat' (first|exact Le.refl _|exact Le.own _ _ _|exact Le.nil _|refine Le.agg ?_|refine Le.tup ?_|exact Les.refl _|refine Les.cons ?_ ?_|refine Le.seq ?_|exact Less.refl _|exact Less.nil|refine Less.cons ?_ rfl ?_)) ):p:=h
theorem by1 {p:Prop} (h:p:=by repeat' (first|exact Le.refl _|exact Le.own _ _ _|exact Le.nil _|refine Le.agg ?_|refine Le.tup ?_|exact Les.refl _|refine Les.cons ?_ ?_|refine Le.seq ?_|exact Less.refl _|exact Less.nil|refine Less.cons ?_ rfl ?_)):p:=h
theorem by2 {p:Prop} (h:p:=by first|exact Les.refl _|(repeat' (first|exact Les.refl _|refine Les.cons ?_ ?_|exact Le.refl _|exact Le.own _ _ _|exact Le.nil _|refine Le.agg ?_))):p:=h
theorem by3 {p:Prop} (h:p:=by repeat' (first|exact Le.refl _|exact Le.own _ _ _|exact Le.nil _|refine Le.agg ?_|refine Le.tup ?_|exact Les.refl _|refine Les.cons ?_ ?_)):p:=h
theorem by4 {p:Prop} (h:p:=by first|exact MLe.none _|exact MLe.refl _|(repeat' (first|exact MLe.nil|exact MLe.refl _|refine MLe.cons _ ?_|refine MLe.drop _ ?_))):p:=h
theorem by5 {p:Prop} (h:p:=by repeat' (first|exact SLe.nil _|refine SLe.cons rfl ?_ ?_|exact Le.refl _|exact Le.own _ _ _|exact Le.nil _)):p:=h
theorem by6 {p:Prop} (h:p:=by repeat' (first|exact SLe.wo _ _|exact SLe.refl _|refine SLe.fresh rfl ?_)):p:=h
theorem by7 {p:Prop} (h:p:=by first|(simp;done)|(simp;omega)|omega):p:=h
theorem by8 {p:Prop} (h:p:=by first|omega|(simp at *;omega)):p:=h
theorem by9 {p:Prop} (h:p:=by simp [bts,zi,AV.cells]):p:=h
theorem by10 {p:Prop} (h:p:=by rw [Bi.cellss_app'];rfl):p:=h
theorem by11 {p:Prop} (h:p:=by first|rfl|omega):p:=h
theorem by12 {p:Prop} (h:p:=by clear hO;omega):p:=h
theorem by13 {p:Prop} (h:p:=by simp;omega):p:=h
theorem by14 {p:Prop} (h:p:=by assumption):p:=h
theorem by15 {p:Prop} (h:p:=by simp_all):p:=h
theorem by16 {p:Prop} (h:p:=by decide):p:=h
theorem by17 {p:Prop} (h:p:=by omega):p:=h
theorem by18 {p:Prop} (h:p:=by simp):p:=h
def cellF (w:World):EH:=fun b i=>w.cell? ⟨b,i,none⟩
def fsOk (P:Program) (S:List TypeId):Nat→List Field→Nat→Bool
 | k,[],n=>k == n
 | k,f::fs,n=>f.offset == k && S.contains f.type && fsOk P S (k+P.cellsOf f.type) fs n
def closedT (P:Program) (S:List TypeId):Bool:=S.all fun t=>match P.underlying t with
 | some .bool=>true
 | some (.int _)=>true
 | some .string=>true
 | some (.slice e)=>S.contains e && Nat.blt 0 (P.cellsOf e)
 | some (.struct fs)=>fsOk P S 0 fs.toList (P.cellsOf t)
 | _=>false
section
variable {H:Type} {enc:TypeId × Value→H} {P:Program} {w:World} {sp:Nat→Bool} {held:Bool}
theorem cells_get {a:Addr} {m:Nat} {ws:List Value} (h:w.cells? 0 a m=some ws):ws.length=m∧∀ j x,ws[j]?=some x→w.cell? (a.add j)=some x:=by
 unfold World.cells? at h
 rw [if_pos (Nat.zero_le _)] at h
 have hl:ws.length=m:=by simpa using mapM_some_length h
 refine ⟨hl,fun j x hx=>?_⟩
 have hj:j<m:=by
  rw [← hl]
  rcases Nat.lt_or_ge j ws.length with k|k
  ·exact k
  rw [List.getElem?_eq_none k] at hx;simp at hx
 have:=mapM_some_get h j j (by simp [hj])
 rw [this,hx]
theorem Inv.start (w:World):Inv w.heap.size (cellF w) [] w:=⟨Nat.le_refl _,fun _ _ _ h=>h,by simp,List.Pairwise.nil⟩
theorem law_run {f:FuncId} {vs:List AV} {us:List Value} (h:ACall P f vs [] (fun v _=>v=.val (.bool true))) (hr:Rels (cellF w) vs us):Calls P f us.toArray w fun e w'=>e=.returned (.bool true)∧Below w.heap.size w w':=by
 refine (h.run w.heap.size (cellF w) [] w us (by simpa using Inv.start w) hr).mono ?_
 rintro e w' ⟨u,v,M',F',rfl,rfl,h3,_,_,h6⟩
 cases h3
 exact ⟨U,h6⟩
theorem rel_agg {F:EH} {v:Value} {cs:List AV} (hv:∃ a,v=.agg a) (h:Rels F cs v.cells.toList) (h1:Ones v.cells.toList):Rel F (.agg cs) v:=by
 obtain ⟨a,rfl⟩:=hv
 have:=Rel.agg h h1
 simpa [Value.cells] using this
theorem rel_cell {F:EH} {v:Value} {c:AV} (hv:∀ a,v≠.agg a) (h:Rels F [c] v.cells.toList):Rel F c v:=by
 have e:v.cells.toList=[v]:=by cases v <;> first|rfl|exact absurd rfl (hv _)
 rw [e] at h
 cases h with
 | cons h _=>exact h
end
section
variable {P:Program} {n:Nat} {al:Sl} {M:Mem} {o:Oper} {K:AV→Mem→Prop}
theorem op_substr {x lo hi:Operand} {t:TypeId} {s:ByteArray} {k k':IntKind} {a b:Int} {i j:Nat} (ho:o.op=.slice t x (some lo) (some hi) none) (ht:P.underlying t=some .string) (hx:al.ev x=some (.val (.string s))) (hlo:al.ev lo=some (.val (.int k a))) (hhi:al.ev hi=some (.val (.int k' b))) (ha:a=i) (hb:b=j) (hij:i≤j) (hj:j≤s.size) (q:K (.val (.string (s.extract i j))) M):OpT P o al M K :=
 OpT.plain fun n B F Mf ac w hi' hs=>by
  refine ⟨_,_,?_,q,.val _⟩
  subst ha hb
  have h1:(0:Int)≤(j:Int)∧(j:Int)≤(s.size:Int):=⟨by omega,by omega⟩
  have h2:(0:Int)≤(i:Int)∧(i:Int)≤(j:Int):=⟨by omega,by omega⟩
  simp [execOp,ho,Yo hs hx,Yo hs hlo,Yo hs hhi,Instr.sliceAt,underlying,ht,Instr.slice,Instr.sliceBounds,Instr.sliceBound,asIntOf,hj,hij]
theorem BCall.yes {f:FuncId} {vs:List AV} {p:Prop} (h:BCall P f vs p) (hp:p):PCall P f vs (.val (.bool true)) :=
 h.mono (by rintro v M' ⟨⟨c,hc,rfl⟩,rfl⟩;exact ⟨by rw [hc.2 hp],rfl⟩)
theorem BCall.no {f:FuncId} {vs:List AV} {p:Prop} (h:BCall P f vs p) (hp:¬ p):PCall P f vs (.val (.bool false)) :=
 h.mono (by rintro v M' ⟨⟨c,hc,rfl⟩,rfl⟩;exact ⟨by cases c <;> simp_all,rfl⟩)
theorem Inv.kept {B:Nat} {F:EH} {M:Mem} {w w':World} (hi:Inv B F M w) (hb:Below w.heap.size w w'):Inv B F M w':=by
 refine ⟨Nat.le_trans hi.base hb.size,fun b i x h=>?_,fun r hr=>?_,hi.far⟩
 ·have h1:=hi.fix b i x h
  rw [hb.cell (p:=⟨b,i,none⟩) (cell_size h1)];exact h1
 exact (hi.ok r hr).stay (Ext.refl F) (fun b hbk=>⟨hb.block b ((hi.ok r hr).lt hbk),fun _=>U⟩)
theorem PCall.of_calls {f:FuncId} {vs:List Value} {r:Value} (he:Enters P f) (h:∀ w,Calls P f vs.toArray w fun e w'=>e=.returned r∧Below w.heap.size w w'):PCall P f (vs.map AV.val) (.val r):=by
 refine ⟨he,fun B F Mf w us hi hr=>?_⟩
 have e:us=vs:=by
  have key:∀ (vs us:List Value),Rels F (vs.map AV.val) us→us=vs:=by
   intro vs
   induction vs with
   | nil=>intro us h;cases h;rfl
   | cons v vs ih =>
    intro us h
    cases h with
    | cons h hs=>cases h;rw [ih _ hs]
  exact key vs us hr
 subst e
 refine (h w).mono ?_
 rintro e w' ⟨rfl,hb⟩
 exact ⟨r,.val r,[],F,U,⟨U,U⟩,.val r,Ext.refl F,hi.kept hb,hb.mono hi.base⟩
end
instance:DecidableEq ByteArray:=fun a b=>if h:a.toList=b.toList then isTrue (ba_eq h) else isFalse (fun e=>h (by rw [e]))
inductive Ty where
 | mk (k:Int) (s:ByteArray) (n:Int) (ks:List Ty)
def Ty.kind:Ty→Int|.mk k _ _ _=>k
def Ty.name:Ty→ByteArray|.mk _ s _ _=>s
def Ty.num:Ty→Int|.mk _ _ n _=>n
def Ty.kids:Ty→List Ty|.mk _ _ _ ks=>ks
mutual
def Ty.size:Ty→Nat
 | .mk _ _ _ ks=>1+Ty.sizes ks
def Ty.sizes:List Ty→Nat
 | []=>0
 | t::ts=>t.size+Ty.sizes ts
end
theorem Ty.size_pos (t:Ty):1≤t.size:=by cases t;simp [Ty.size]
theorem Ty.size_mem {t:Ty}:∀ {ts:List Ty},t∈ts→t.size≤Ty.sizes ts
 | [],h=>by simp at h
 | u::ts,h=>by
  rw [Ty.sizes]
  rcases List.mem_cons.1 h with rfl|h
  ·omega
  have:=Ty.size_mem h;omega
theorem Ty.size_kid {t u:Ty} (h:u∈t.kids):u.size<t.size:=by
 obtain ⟨k,s,n,ks⟩:=t
 have:=Ty.size_mem (show u∈ks from h)
 rw [Ty.size];omega
mutual
def Ty.cells:Ty→List AV
 | .mk k s n ks=>[.val (.int .i64 k),.val (.string s),.val (.int .i64 n),.seq 4 (Ty.cellss ks)]
def Ty.cellss:List Ty→List (List AV)
 | []=>[]
 | t::ts=>t.cells::Ty.cellss ts
end
theorem Ty.cellss_map:∀ ts:List Ty,Ty.cellss ts=ts.map Ty.cells
 | []=>by simp [Ty.cellss]
 | t::ts=>by simp [Ty.cellss,Ty.cellss_map ts]
theorem Ty.cellss_len (ts:List Ty):(Ty.cellss ts).length=ts.length:=by rw [Ty.cellss_map];simp
theorem Ty.cellss_get {ts:List Ty} {i:Nat} {t:Ty} (h:ts[i]?=some t):(Ty.cellss ts)[i]?=some t.cells:=by rw [Ty.cellss_map];simp [h]
theorem Ty.cellss_app (a b:List Ty):Ty.cellss (a++b)=Ty.cellss a++Ty.cellss b:=by simp [Ty.cellss_map]
theorem Ty.size_at {ts:List Ty} {i:Nat} {t:Ty} (h:ts[i]?=some t):t.size≤Ty.sizes ts:=Ty.size_mem (Wg h)
theorem Zj {α:Type} {l:List α} {i:Nat} (h:i<l.length):∃ x,l[i]?=some x:=⟨l[i],List.getElem?_eq_getElem h⟩
theorem Zz {α:Type} {l:List α} {i:Nat} {x:α} (h:l[i]?=some x):l.drop i=x::l.drop (i+1):=by
 have hi:i<l.length:=by
  rcases Nat.lt_or_ge i l.length with k|k
  ·exact k
  rw [List.getElem?_eq_none k] at h;simp at h
 rw [List.drop_eq_getElem_cons hi]
 rw [List.getElem?_eq_getElem hi] at h
 simp at h
 rw [h]
mutual
def Ty.cnt:Ty→Int→Int
 | .mk k _ n ks,most=>if k=1∧(ks≠[]∨n≠0) then most else Ty.cnts ks 1 most
def Ty.cnts:List Ty→Int→Int→Int
 | [],n,_=>n
 | t::ts,n,most=>if n<most then Ty.cnts ts (n+t.cnt (most - n)) most else n
end
mutual
theorem Ty.cnt_bd:∀ (t:Ty) (m:Int),1≤m→1≤t.cnt m∧t.cnt m≤m
 | .mk k s n ks,m,h=>by
  rw [Ty.cnt]
  split
  ·omega
  exact Ty.cnts_bd ks 1 m by17 h
theorem Ty.cnts_bd:∀ (ts:List Ty) (n m:Int),1≤n→n≤m→1≤Ty.cnts ts n m∧Ty.cnts ts n m≤m
 | [],n,m,h,h'=>by rw [Ty.cnts];omega
 | t::ts,n,m,h,h'=>by
  rw [Ty.cnts]
  split
  ·have:=Ty.cnt_bd t (m - n) by17
   exact Ty.cnts_bd ts _ m by17 by17
  omega
end
inductive Ty.VarOk:Ty→Prop
 | mk (k:Int) (s:ByteArray) (n:Int) (ks:List Ty) (h:k=1→ks=[]∧n=0) (hk:∀ t∈ks,Ty.VarOk t):Ty.VarOk (.mk k s n ks)
mutual
theorem Ty.cnt_size:∀ (t:Ty) (m:Int),1≤m→t.cnt m<m→(t.size:Int)=t.cnt m∧t.VarOk
 | .mk k s n ks,m,h,hlt=>by
  rw [Ty.cnt] at hlt ⊢
  split at hlt
  ·omega
  rename_i hc
  rw [if_neg hc]
  obtain ⟨h1,h2⟩:=Ty.cnts_size ks 1 m by17 h hlt
  refine ⟨by rw [Ty.size];omega,.mk k s n ks (fun hk=>?_) h2⟩
  constructor
  ·cases ks with
   | nil=>rfl
   | cons t ts=>exact absurd ⟨hk,Or.inl by18⟩ hc
  by_cases hn:n=0
  ·exact hn
  exact absurd ⟨hk,Or.inr hn⟩ hc
theorem Ty.cnts_size:∀ (ts:List Ty) (n m:Int),1≤n→n≤m→Ty.cnts ts n m<m→n+(Ty.sizes ts:Int)=Ty.cnts ts n m∧∀ t∈ts,t.VarOk
 | [],n,m,h,h',hlt=>by rw [Ty.cnts,Ty.sizes];exact ⟨by simp,by simp⟩
 | t::ts,n,m,h,h',hlt=>by
  rw [Ty.cnts] at hlt ⊢
  split at hlt
  ·rename_i hc
   rw [if_pos hc]
   have hb:=Ty.cnt_bd t (m - n) by17
   obtain ⟨i1,i2⟩:=Ty.cnts_size ts (n+t.cnt (m - n)) m by17 by17 hlt
   have hlt2:t.cnt (m - n)<m - n:=by
    have:=Ty.cnts_ge ts (n+t.cnt (m - n)) m by17 by17
    omega
   obtain ⟨j1,j2⟩:=Ty.cnt_size t (m - n) by17 hlt2
   refine ⟨by rw [Ty.sizes];omega,fun u hu=>?_⟩
   rcases List.mem_cons.1 hu with rfl|hu
   ·exact j2
   exact i2 u hu
  omega
theorem Ty.cnts_ge:∀ (ts:List Ty) (n m:Int),1≤n→n≤m→n≤Ty.cnts ts n m
 | [],n,m,h,h'=>by rw [Ty.cnts];omega
 | t::ts,n,m,h,h'=>by
  rw [Ty.cnts]
  split
  ·have hb:=Ty.cnt_bd t (m - n) by17
   have:=Ty.cnts_ge ts (n+t.cnt (m - n)) m by17 by17
   omega
  omega
end
def Ty.small (t:Ty) (most:Int):Bool:=decide (t.cnt (most+1)≤most)
theorem Ty.small_size {t:Ty} {most:Int} (h0:0≤most) (h:t.small most=true):(t.size:Int)≤most∧t.VarOk:=by
 unfold Ty.small at h
 simp at h
 obtain ⟨h1,h2⟩:=Ty.cnt_size t (most+1) by17 by17
 exact ⟨by omega,h2⟩
theorem Ty.cnt_var {t:Ty} (h:t.kind=1∧(t.kids≠[]∨t.num≠0)) (m:Int):t.cnt m=m:=by
 cases t;rw [Ty.cnt];exact if_pos h
theorem Ty.cnt_not {t:Ty} (h:¬ (t.kind=1∧(t.kids≠[]∨t.num≠0))) (m:Int):t.cnt m=Ty.cnts t.kids 1 m:=by
 cases t;rw [Ty.cnt];exact if_neg h
def strs (xs:List ByteArray):List (List AV):=xs.map fun s=>[.val (.string s)]
def nums (xs:List Int):List (List AV):=xs.map fun s=>[.val (.int .i64 s)]
theorem Ya (xs:List ByteArray):(strs xs).length=xs.length:=by simp [strs]
theorem Xc {xs:List ByteArray} {i:Nat} {s:ByteArray} (h:xs[i]?=some s):(strs xs)[i]?=some [.val (.string s)]:=by simp [strs,h]
theorem Xm (a b:List ByteArray):strs (a++b)=strs a++strs b:=by simp [strs]
def Upto {α:Type} (xs ys:List α) (i:Nat):Prop:=∀ j,j<i→xs[j]?=ys[j]?
theorem Upto.zero {α:Type} (xs ys:List α):Upto xs ys 0:=fun j hj=>by omega
theorem Upto.succ {α:Type} {xs ys:List α} {i:Nat} {x y:α} (h:Upto xs ys i) (hx:xs[i]?=some x) (hy:ys[i]?=some y) (e:x=y):Upto xs ys (i+1):=fun j hj=>by
 by_cases q:j=i
 ·subst q;rw [hx,hy,e]
 exact h j by17
theorem Upto.eq {α:Type} {xs ys:List α} {i:Nat} (h:Upto xs ys i) (hl:xs.length=ys.length) (hi:xs.length≤i):xs=ys:=by
 apply List.ext_getElem?
 intro j
 rcases Nat.lt_or_ge j xs.length with k|k
 ·exact h j by17
 rw [List.getElem?_eq_none k,List.getElem?_eq_none by17]
theorem at_ne {α:Type} {xs ys:List α} {i:Nat} {x y:α} (hx:xs[i]?=some x) (hy:ys[i]?=some y) (e:x≠y):¬ xs=ys:=fun h=>by
 subst h;rw [hx] at hy;simp at hy;exact e hy
theorem len_ne {α:Type} {xs ys:List α} (h:xs.length≠ys.length):¬ xs=ys:=fun e=>h (by rw [e])
end Go.Proofs.YteepjjgooplljaaGreat
namespace Go.Proofs.YteepjjgooplljaaGreat
abbrev arrow:ByteArray:=⟨#[45,62]⟩
def Ty.isFun (t:Ty):Prop:=t.kind=3∧t.name=arrow∧t.kids.length=2
def Ty.args:Ty→List Ty
 | .mk k s _ [a,b]=>if k=3∧s=arrow then a::b.args else []
 | _=>[]
termination_by t=>t.size
decreasing_by simp [Ty.size,Ty.sizes];omega
def Ty.ans:Ty→Ty
 | .mk k s n [a,b]=>if k=3∧s=arrow then b.ans else .mk k s n [a,b]
 | t=>t
termination_by t=>t.size
decreasing_by simp [Ty.size,Ty.sizes];omega
theorem Ty.fun_kids {t:Ty} (h:t.isFun):∃ n a b,t=.mk 3 arrow n [a,b]:=by
 obtain ⟨k,s,n,ks⟩:=t
 obtain ⟨h1,h2,h3⟩:=h
 simp only [Ty.kind,Ty.name,Ty.kids] at h1 h2 h3
 subst h1 h2
 match ks,h3 with
 | [a,b],_=>exact ⟨n,a,b,rfl⟩
theorem Ty.args_fun (n:Int) (a b:Ty):Ty.args (.mk 3 arrow n [a,b])=a::b.args:=by rw [Ty.args];simp
theorem Ty.ans_fun (n:Int) (a b:Ty):Ty.ans (.mk 3 arrow n [a,b])=b.ans:=by rw [Ty.ans];simp
theorem Ty.args_not {t:Ty} (h:¬ t.isFun):t.args=[]:=by
 rw [Ty.args.eq_def]
 split
 ·rw [if_neg]
  rintro ⟨rfl,rfl⟩
  exact h ⟨U,U,U⟩
 rfl
theorem Ty.ans_not {t:Ty} (h:¬ t.isFun):t.ans=t:=by
 rw [Ty.ans.eq_def]
 split
 ·rw [if_neg]
  rintro ⟨rfl,rfl⟩
  exact h ⟨U,U,U⟩
 rfl
theorem Ty.args_size:∀ (t:Ty),t.args.length≤t.size:=by
 intro t
 generalize hd:t.size=d
 induction d using Nat.strongRecOn generalizing t with
 | _ d ih =>
  by_cases h:t.isFun
  ·obtain ⟨n,a,b,rfl⟩:=Ty.fun_kids h
   rw [Ty.args_fun]
   have hb:b.size<d:=by rw [← hd];simp [Ty.size,Ty.sizes];omega
   have:=ih b.size hb b rfl
   simp
   omega
  rw [Ty.args_not h];simp
mutual
def Ty.all:Ty→List Ty
 | .mk k s n ks=>.mk k s n ks::Ty.alls ks
def Ty.alls:List Ty→List Ty
 | []=>[]
 | t::ts=>t.all++Ty.alls ts
end
theorem Ty.alls_app:∀ a b:List Ty,Ty.alls (a++b)=Ty.alls a++Ty.alls b
 | [],b=>by simp [Ty.alls]
 | t::ts,b=>by simp [Ty.alls,Ty.alls_app ts b]
mutual
theorem Ty.all_len:∀ t:Ty,t.all.length=t.size
 | .mk k s n ks=>by rw [Ty.all,Ty.size,List.length_cons,Ty.alls_len ks];omega
theorem Ty.alls_len:∀ ts:List Ty,(Ty.alls ts).length=Ty.sizes ts
 | []=>by simp [Ty.alls,Ty.sizes]
 | t::ts=>by rw [Ty.alls,Ty.sizes,List.length_append,Ty.all_len t,Ty.alls_len ts]
end
theorem Ty.alls_take (ks:List Ty) {i:Nat} {x:Ty} (h:ks[i]?=some x):Ty.alls (ks.take (i+1))=Ty.alls (ks.take i)++x.all:=by
 have hi:i<ks.length:=by
  rcases Nat.lt_or_ge i ks.length with k|k
  ·exact k
  rw [List.getElem?_eq_none k] at h;simp at h
 rw [List.getElem?_eq_getElem hi] at h
 simp at h
 rw [List.take_succ_eq_append_getElem hi,Ty.alls_app,h]
 simp [Ty.alls]
theorem Ty.sizes_app:∀ a b:List Ty,Ty.sizes (a++b)=Ty.sizes a+Ty.sizes b
 | [],b=>by simp [Ty.sizes]
 | t::ts,b=>by simp [Ty.sizes,Ty.sizes_app ts b];omega
theorem Ty.sizes_take (ks:List Ty) (i:Nat):Ty.sizes (ks.take i)≤Ty.sizes ks:=by
 have:=Ty.sizes_app (ks.take i) (ks.drop i)
 rw [List.take_append_drop] at this
 omega
theorem Yd {α:Type} {l:List α} {i:Nat} {x:α} (h:l[i]?=some x):l.take (i+1)=l.take i++[x]:=by
 have hi:i<l.length:=by
  rcases Nat.lt_or_ge i l.length with k|k
  ·exact k
  rw [List.getElem?_eq_none k] at h;simp at h
 rw [List.getElem?_eq_getElem hi] at h
 simp at h
 rw [List.take_succ_eq_append_getElem hi,h]
theorem Ty.len_sizes (ks:List Ty):ks.length≤Ty.sizes ks:=by
 induction ks with
 | nil=>simp
 | cons t ts ih=>have:=Ty.size_pos t;simp [Ty.sizes];omega
noncomputable instance (a:ByteArray) (l:List ByteArray):Decidable (a∈l):=Classical.propDecidable _
noncomputable def addVar (acc:List ByteArray) (t:Ty):List ByteArray:=if t.kind=1∧t.name∉acc then acc++[t.name] else acc
def addMeta (acc:List Int) (t:Ty):List Int:=if t.kind=2∧t.num∉acc then acc++[t.num] else acc
noncomputable def Ty.vars (t:Ty):List ByteArray:=t.all.foldl addVar []
def Ty.metas (t:Ty):List Int:=t.all.foldl addMeta []
theorem addVar_yes {acc:List ByteArray} {k:Int} {s:ByteArray} {n:Int} {ks:List Ty} (h:k=1∧s∉acc):addVar acc (.mk k s n ks)=acc++[s]:=if_pos h
theorem addVar_no {acc:List ByteArray} {k:Int} {s:ByteArray} {n:Int} {ks:List Ty} (h:¬ (k=1∧s∉acc)):addVar acc (.mk k s n ks)=acc:=if_neg h
theorem strs_snoc (acc:List ByteArray) (s:ByteArray):strs acc++[[.val (.string s)]]=strs (acc++[s]):=by simp [strs]
theorem addVar_len (acc:List ByteArray) (t:Ty):(addVar acc t).length≤acc.length+1:=by unfold addVar;split <;> simp
theorem foldVar_len:∀ (l:List Ty) (acc:List ByteArray),(l.foldl addVar acc).length≤acc.length+l.length
 | [],acc=>by simp
 | t::l,acc=>by
  have h1:=foldVar_len l (addVar acc t)
  have h2:=addVar_len acc t
  simp only [List.foldl_cons,List.length_cons]
  omega
mutual
def Ty.turn (o:Ty→Option Ty):Ty→Ty
 | .mk k s n ks=>match o (.mk k s n ks) with
  | some y=>y
  | none=>.mk k s n (Ty.turns o ks)
def Ty.turns (o:Ty→Option Ty):List Ty→List Ty
 | []=>[]
 | t::ts=>t.turn o::Ty.turns o ts
end
theorem Ty.turns_map (o:Ty→Option Ty):∀ ts:List Ty,Ty.turns o ts=ts.map (Ty.turn o)
 | []=>by simp [Ty.turns]
 | t::ts=>by simp [Ty.turns,Ty.turns_map o ts]
theorem Ty.turn_some {o:Ty→Option Ty} {t y:Ty} (h:o t=some y):t.turn o=y:=by
 obtain ⟨k,s,n,ks⟩:=t
 rw [Ty.turn,h]
theorem Ty.turn_none {o:Ty→Option Ty} {k:Int} {s:ByteArray} {n:Int} {ks:List Ty} (h:o (.mk k s n ks)=none):(Ty.mk k s n ks).turn o=.mk k s n (Ty.turns o ks):=by
 rw [Ty.turn,h]
theorem Ty.turns_len (o:Ty→Option Ty) (ts:List Ty):(Ty.turns o ts).length=ts.length:=by rw [Ty.turns_map];simp
theorem Ty.turns_snoc (o:Ty→Option Ty) (ts:List Ty) (x:Ty):Ty.turns o (ts++[x])=Ty.turns o ts++[x.turn o]:=by simp [Ty.turns_map]
mutual
theorem Ty.turn_id:∀ t:Ty,t.turn (fun _=>none)=t
 | .mk k s n ks=>by rw [Ty.turn_none rfl,Ty.turns_id ks]
theorem Ty.turns_id:∀ ts:List Ty,Ty.turns (fun _=>none) ts=ts
 | []=>by rw [Ty.turns]
 | t::ts=>by rw [Ty.turns,Ty.turn_id t,Ty.turns_id ts]
end
def firstAt {α:Type} [DecidableEq α] (x:α):List α→Nat→Int
 | [],_ => -1
 | y::ys,i=>if x=y then i else firstAt x ys (i+1)
theorem firstAt_drop {α:Type} [DecidableEq α] (x:α):∀ (xs:List α) (i:Nat),x∉xs.take i→firstAt x (xs.drop i) i=firstAt x xs 0:=by
 have key:∀ (xs:List α) (i k:Nat),x∉xs.take i→firstAt x xs k=firstAt x (xs.drop i) (k+i):=by
  intro xs
  induction xs with
  | nil=>intro i k _;simp [firstAt]
  | cons y ys ih =>
   intro i k h
   cases i with
   | zero=>simp
   | succ i =>
    simp only [List.take_succ_cons,List.mem_cons,not_or] at h
    rw [firstAt,if_neg h.1,List.drop_succ_cons,ih i (k+1) h.2]
    congr 1;omega
 intro xs i h
 have:=key xs i 0 h
 rw [this];congr 1;omega
theorem firstAt_nonneg {α:Type} [DecidableEq α] (x:α):∀ (xs:List α) (k:Nat),0≤firstAt x xs k↔x∈xs
 | [],k=>by simp [firstAt]
 | y::ys,k=>by
  rw [firstAt]
  by_cases e:x=y
  ·simp [e]
  rw [if_neg e,firstAt_nonneg x ys (k+1)];simp [e]
theorem firstAt_lt {α:Type} [DecidableEq α] (x:α):∀ (xs:List α) (k:Nat),firstAt x xs k<k+xs.length
 | [],k=>by simp [firstAt];omega
 | y::ys,k=>by
  rw [firstAt]
  split
  ·simp;omega
  have:=firstAt_lt x ys (k+1);simp at this ⊢;omega
theorem firstAt_at {α:Type} [DecidableEq α] {x:α} {xs:List α} {i:Nat} (h:x∉xs.take i) (hx:xs[i]?=some x):firstAt x xs 0=i:=by
 rw [← firstAt_drop x xs i h,Zz hx,firstAt,if_pos rfl]
theorem firstAt_out {α:Type} [DecidableEq α] {x:α} {xs:List α} (h:x∉xs):firstAt x xs 0 = -1:=by
 have:=firstAt_drop x xs xs.length (by simpa using h)
 rw [← this];simp [firstAt]
theorem not_mem_take {α:Type} {xs:List α} {i:Nat} {x y:α} (h:x∉xs.take i) (hx:xs[i]?=some y) (e:¬ y=x):x∉xs.take (i+1):=by
 rw [Yd hx,List.mem_append]
 rintro (q|q)
 ·exact h q
 simp at q;exact e q.symm
def putO (names:List ByteArray) (ts:List Ty) (x:Ty):Option Ty:=if x.kind=1∧0≤firstAt x.name names 0 then ts[(firstAt x.name names 0).toNat]? else none
theorem putO_not {names:List ByteArray} {ts:List Ty} {k:Int} {s:ByteArray} {n:Int} {ks:List Ty} (h:k≠1):putO names ts (.mk k s n ks)=none:=if_neg (fun q=>h q.1)
theorem putO_out {names:List ByteArray} {ts:List Ty} {k:Int} {s:ByteArray} {n:Int} {ks:List Ty} (h:firstAt s names 0<0):putO names ts (.mk k s n ks)=none:=if_neg (fun q=>by have:=q.2;simp only [Ty.name] at this;omega)
theorem putO_big {names:List ByteArray} {ts:List Ty} {k:Int} {s:ByteArray} {n:Int} {ks:List Ty} (h:(ts.length:Int)≤firstAt s names 0):putO names ts (.mk k s n ks)=none:=by
 unfold putO
 split
 ·exact List.getElem?_eq_none (by simp only [Ty.name];omega)
 rfl
theorem putO_in {names:List ByteArray} {ts:List Ty} {s:ByteArray} {n:Int} {ks:List Ty} {j:Nat} (h:firstAt s names 0=j):putO names ts (.mk 1 s n ks)=ts[j]?:=by
 unfold putO
 simp only [Ty.kind,Ty.name,h]
 rw [if_pos ⟨trivial,by omega⟩]
 simp
theorem Yx:Tryz.prog.follows .mixedOrders=true:=by kernel_rfl
theorem ts_2:(Tryz.prog.info? 2).map (·.size)=some 1:=by kernel_rfl
theorem tu_2:Tryz.prog.underlying 2=some (.int .i64):=by kernel_rfl
theorem ta_3:tyAgg Tryz.prog 3=some none:=by kernel_rfl
theorem ts_3:(Tryz.prog.info? 3).map (·.size)=some 1:=by kernel_rfl
theorem tu_3:Tryz.prog.underlying 3=some (.int .i64):=by kernel_rfl
theorem tu_4:Tryz.prog.underlying 4=some (.bool):=by kernel_rfl
theorem tu_5:Tryz.prog.underlying 5=some (.int .u8):=by kernel_rfl
theorem ta_9:tyAgg Tryz.prog 9=some none:=by kernel_rfl
theorem ts_9:(Tryz.prog.info? 9).map (·.size)=some 1:=by kernel_rfl
theorem tu_9:Tryz.prog.underlying 9=some (.string):=by kernel_rfl
theorem ta_22:tyAgg Tryz.prog 22=some none:=by kernel_rfl
theorem ts_22:(Tryz.prog.info? 22).map (·.size)=some 1:=by kernel_rfl
theorem te_22:tyElem Tryz.prog 22=some (24,4):=by kernel_rfl
theorem Xj:ElT Tryz.prog 22 24 (.agg #[(.int .i64 0),(.string ⟨#[]⟩),(.int .i64 0),(.slice none 0 0)]) 4 56:=⟨by kernel_rfl,by kernel_rfl,rfl,by decide,by decide⟩
theorem tu_22:Tryz.prog.underlying 22=some (.slice 24):=by kernel_rfl
theorem Zx:tyAgg Tryz.prog 24=some (some 4):=by kernel_rfl
theorem ts_24:(Tryz.prog.info? 24).map (·.size)=some 4:=by kernel_rfl
theorem tz_24:tyZero Tryz.prog 24=some (.agg #[(.int .i64 0),(.string ⟨#[]⟩),(.int .i64 0),(.slice none 0 0)]):=by kernel_rfl
theorem tfl_24:tyFlds Tryz.prog 24=some [(0,1),(1,1),(2,1),(3,1)]:=by kernel_rfl
theorem te_25:tyElem Tryz.prog 25=some (29,11):=by kernel_rfl
theorem el_25:ElT Tryz.prog 25 29 (.agg #[(.int .i64 0),(.string ⟨#[]⟩),(.int .i64 0),(.int .i64 0),(.string ⟨#[]⟩),(.int .i64 0),(.slice none 0 0),(.slice none 0 0),(.slice none 0 0),(.slice none 0 0),(.slice none 0 0)]) 11 184:=⟨by kernel_rfl,by kernel_rfl,rfl,by decide,by decide⟩
theorem tu_25:Tryz.prog.underlying 25=some (.slice 29):=by kernel_rfl
theorem ta_26:tyAgg Tryz.prog 26=some none:=by kernel_rfl
theorem te_26:tyElem Tryz.prog 26=some (69,16):=by kernel_rfl
theorem tu_26:Tryz.prog.underlying 26=some (.slice 69):=by kernel_rfl
theorem ta_27:tyAgg Tryz.prog 27=some none:=by kernel_rfl
theorem ts_27:(Tryz.prog.info? 27).map (·.size)=some 1:=by kernel_rfl
theorem te_27:tyElem Tryz.prog 27=some (46,17):=by kernel_rfl
theorem el_27:ElT Tryz.prog 27 46 (.agg #[(.string ⟨#[]⟩),(.slice none 0 0),(.int .i64 0),(.string ⟨#[]⟩),(.int .i64 0),(.slice none 0 0),(.int .i64 0),(.string ⟨#[]⟩),(.int .i64 0),(.int .i64 0),(.string ⟨#[]⟩),(.int .i64 0),(.slice none 0 0),(.slice none 0 0),(.slice none 0 0),(.slice none 0 0),(.slice none 0 0)]) 17 280:=⟨by kernel_rfl,by kernel_rfl,rfl,by decide,by decide⟩
theorem tu_27:Tryz.prog.underlying 27=some (.slice 46):=by kernel_rfl
theorem ta_29:tyAgg Tryz.prog 29=some (some 11):=by kernel_rfl
theorem ts_29:(Tryz.prog.info? 29).map (·.size)=some 11:=by kernel_rfl
theorem tz_29:tyZero Tryz.prog 29=some (.agg #[(.int .i64 0),(.string ⟨#[]⟩),(.int .i64 0),(.int .i64 0),(.string ⟨#[]⟩),(.int .i64 0),(.slice none 0 0),(.slice none 0 0),(.slice none 0 0),(.slice none 0 0),(.slice none 0 0)]):=by kernel_rfl
theorem tf_29_6:tyFld Tryz.prog 29 6=some 9:=by kernel_rfl
theorem tfl_29:tyFlds Tryz.prog 29=some [(0,1),(1,1),(2,1),(3,4),(7,1),(8,1),(9,1),(10,1)]:=by kernel_rfl
theorem ta_36:tyAgg Tryz.prog 36=some (some 1):=by kernel_rfl
theorem ts_36:(Tryz.prog.info? 36).map (·.size)=some 1:=by kernel_rfl
theorem tz_36:tyZero Tryz.prog 36=some (.agg #[(.slice none 0 0)]):=by kernel_rfl
theorem tf_36_0:tyFld Tryz.prog 36 0=some 0:=by kernel_rfl
theorem tfl_36:tyFlds Tryz.prog 36=some [(0,1)]:=by kernel_rfl
theorem ts_37:(Tryz.prog.info? 37).map (·.size)=some 1:=by kernel_rfl
theorem te_37:tyElem Tryz.prog 37=some (114,5):=by kernel_rfl
theorem el_37:ElT Tryz.prog 37 114 (.agg #[(.string ⟨#[]⟩),(.slice none 0 0),(.slice none 0 0),(.slice none 0 0),(.int .i64 0)]) 5 96:=⟨by kernel_rfl,by kernel_rfl,rfl,by decide,by decide⟩
theorem tu_37:Tryz.prog.underlying 37=some (.slice 114):=by kernel_rfl
theorem ts_38:(Tryz.prog.info? 38).map (·.size)=some 1:=by kernel_rfl
theorem te_38:tyElem Tryz.prog 38=some (118,6):=by kernel_rfl
theorem el_38:ElT Tryz.prog 38 118 (.agg #[(.string ⟨#[]⟩),(.string ⟨#[]⟩),(.slice none 0 0),(.slice none 0 0),(.slice none 0 0),(.int .i64 0)]) 6 112:=⟨by kernel_rfl,by kernel_rfl,rfl,by decide,by decide⟩
theorem tu_38:Tryz.prog.underlying 38=some (.slice 118):=by kernel_rfl
theorem ta_39:tyAgg Tryz.prog 39=some none:=by kernel_rfl
theorem ts_39:(Tryz.prog.info? 39).map (·.size)=some 1:=by kernel_rfl
theorem te_39:tyElem Tryz.prog 39=some (122,8):=by kernel_rfl
theorem el_39:ElT Tryz.prog 39 122 (.agg #[(.string ⟨#[]⟩),(.int .i64 0),(.string ⟨#[]⟩),(.int .i64 0),(.slice none 0 0),(.slice none 0 0),(.slice none 0 0),(.int .i64 0)]) 8 128:=⟨by kernel_rfl,by kernel_rfl,rfl,by decide,by decide⟩
theorem tu_39:Tryz.prog.underlying 39=some (.slice 122):=by kernel_rfl
theorem ta_41:tyAgg Tryz.prog 41=some (some 3):=by kernel_rfl
theorem ts_41:(Tryz.prog.info? 41).map (·.size)=some 3:=by kernel_rfl
theorem tz_41:tyZero Tryz.prog 41=some (.agg #[(.slice none 0 0),(.slice none 0 0),(.slice none 0 0)]):=by kernel_rfl
theorem tfl_41:tyFlds Tryz.prog 41=some [(0,1),(1,1),(2,1)]:=by kernel_rfl
theorem ts_44:(Tryz.prog.info? 44).map (·.size)=some 1:=by kernel_rfl
theorem tz_44:tyZero Tryz.prog 44=some (.slice none 0 0):=by kernel_rfl
theorem te_44:tyElem Tryz.prog 44=some (9,1):=by kernel_rfl
theorem Yy:ElT Tryz.prog 44 9 (.string ⟨#[]⟩) 1 16:=⟨by kernel_rfl,by kernel_rfl,rfl,by decide,by decide⟩
theorem tu_44:Tryz.prog.underlying 44=some (.slice 9):=by kernel_rfl
theorem ta_46:tyAgg Tryz.prog 46=some (some 17):=by kernel_rfl
theorem ts_46:(Tryz.prog.info? 46).map (·.size)=some 17:=by kernel_rfl
theorem tz_46:tyZero Tryz.prog 46=some (.agg #[(.string ⟨#[]⟩),(.slice none 0 0),(.int .i64 0),(.string ⟨#[]⟩),(.int .i64 0),(.slice none 0 0),(.int .i64 0),(.string ⟨#[]⟩),(.int .i64 0),(.int .i64 0),(.string ⟨#[]⟩),(.int .i64 0),(.slice none 0 0),(.slice none 0 0),(.slice none 0 0),(.slice none 0 0),(.slice none 0 0)]):=by kernel_rfl
theorem tfl_46:tyFlds Tryz.prog 46=some [(0,1),(1,1),(2,4),(6,11)]:=by kernel_rfl
theorem ts_65:(Tryz.prog.info? 65).map (·.size)=some 1:=by kernel_rfl
theorem te_65:tyElem Tryz.prog 65=some (67,5):=by kernel_rfl
theorem el_65:ElT Tryz.prog 65 67 (.agg #[(.int .i64 0),(.string ⟨#[]⟩),(.int .i64 0),(.slice none 0 0),(.int .i64 0)]) 5 64:=⟨by kernel_rfl,by kernel_rfl,rfl,by decide,by decide⟩
theorem tu_65:Tryz.prog.underlying 65=some (.slice 67):=by kernel_rfl
theorem ta_67:tyAgg Tryz.prog 67=some (some 5):=by kernel_rfl
theorem ts_67:(Tryz.prog.info? 67).map (·.size)=some 5:=by kernel_rfl
theorem tz_67:tyZero Tryz.prog 67=some (.agg #[(.int .i64 0),(.string ⟨#[]⟩),(.int .i64 0),(.slice none 0 0),(.int .i64 0)]):=by kernel_rfl
theorem tfl_67:tyFlds Tryz.prog 67=some [(0,1),(1,1),(2,1),(3,1),(4,1)]:=by kernel_rfl
theorem ta_69:tyAgg Tryz.prog 69=some (some 16):=by kernel_rfl
theorem ts_79:(Tryz.prog.info? 79).map (·.size)=some 1:=by kernel_rfl
theorem te_79:tyElem Tryz.prog 79=some (130,13):=by kernel_rfl
theorem el_79:ElT Tryz.prog 79 130 (.agg #[(.string ⟨#[]⟩),(.int .i64 0),(.string ⟨#[]⟩),(.int .i64 0),(.int .i64 0),(.string ⟨#[]⟩),(.int .i64 0),(.slice none 0 0),(.slice none 0 0),(.slice none 0 0),(.slice none 0 0),(.int .i64 0),(.int .i64 0)]) 13 192:=⟨by kernel_rfl,by kernel_rfl,rfl,by decide,by decide⟩
theorem tu_79:Tryz.prog.underlying 79=some (.slice 130):=by kernel_rfl
theorem ta_81:tyAgg Tryz.prog 81=some (some 4):=by kernel_rfl
theorem ts_81:(Tryz.prog.info? 81).map (·.size)=some 4:=by kernel_rfl
theorem tz_81:tyZero Tryz.prog 81=some (.agg #[(.slice none 0 0),(.slice none 0 0),(.slice none 0 0),(.slice none 0 0)]):=by kernel_rfl
theorem tf_81_2:tyFld Tryz.prog 81 2=some 2:=by kernel_rfl
theorem tfl_81:tyFlds Tryz.prog 81=some [(0,1),(1,1),(2,1),(3,1)]:=by kernel_rfl
theorem Xf:tyAgg Tryz.prog 85=some (some 2):=by kernel_rfl
theorem ts_85:(Tryz.prog.info? 85).map (·.size)=some 2:=by kernel_rfl
theorem tz_85:tyZero Tryz.prog 85=some (.agg #[(.int .i64 0),(.int .i64 0)]):=by kernel_rfl
theorem tfl_85:tyFlds Tryz.prog 85=some [(0,1),(1,1)]:=by kernel_rfl
theorem ta_89:tyAgg Tryz.prog 89=some (some 2):=by kernel_rfl
theorem tz_89:tyZero Tryz.prog 89=some (.agg #[(.slice none 0 0),(.slice none 0 0)]):=by kernel_rfl
theorem tfl_89:tyFlds Tryz.prog 89=some [(0,1),(1,1)]:=by kernel_rfl
theorem te_90:tyElem Tryz.prog 90=some (187,9):=by kernel_rfl
theorem el_90:ElT Tryz.prog 90 187 (.agg #[(.string ⟨#[]⟩),(.int .i64 0),(.int .i64 0),(.slice none 0 0),(.slice none 0 0),(.int .i64 0),(.string ⟨#[]⟩),(.int .i64 0),(.slice none 0 0)]) 9 136:=⟨by kernel_rfl,by kernel_rfl,rfl,by decide,by decide⟩
theorem tu_90:Tryz.prog.underlying 90=some (.slice 187):=by kernel_rfl
theorem ta_92:tyAgg Tryz.prog 92=some (some 6):=by kernel_rfl
theorem ts_92:(Tryz.prog.info? 92).map (·.size)=some 6:=by kernel_rfl
theorem tz_92:tyZero Tryz.prog 92=some (.agg #[(.slice none 0 0),(.slice none 0 0),(.slice none 0 0),(.slice none 0 0),(.slice none 0 0),(.slice none 0 0)]):=by kernel_rfl
theorem tfl_92:tyFlds Tryz.prog 92=some [(0,2),(2,3),(5,1)]:=by kernel_rfl
theorem ta_97:tyAgg Tryz.prog 97=some (some 6):=by kernel_rfl
theorem ts_97:(Tryz.prog.info? 97).map (·.size)=some 6:=by kernel_rfl
theorem tz_97:tyZero Tryz.prog 97=some (.agg #[(.slice none 0 0),(.slice none 0 0),(.slice none 0 0),(.slice none 0 0),(.slice none 0 0),(.slice none 0 0)]):=by kernel_rfl
theorem tfl_97:tyFlds Tryz.prog 97=some [(0,3),(3,1),(4,1),(5,1)]:=by kernel_rfl
theorem ta_105:tyAgg Tryz.prog 105=some none:=by kernel_rfl
theorem te_105:tyElem Tryz.prog 105=some (109,4):=by kernel_rfl
theorem el_105:ElT Tryz.prog 105 109 (.agg #[(.int .i64 0),(.string ⟨#[]⟩),(.int .i64 0),(.int .i64 0)]) 4 40:=⟨by kernel_rfl,by kernel_rfl,rfl,by decide,by decide⟩
theorem tu_105:Tryz.prog.underlying 105=some (.slice 109):=by kernel_rfl
theorem tz_107:tyZero Tryz.prog 107=some (.agg #[(.slice none 0 0),(.int .i64 0),(.int .i64 0),(.int .i64 0),(.int .i64 0)]):=by kernel_rfl
theorem tfl_107:tyFlds Tryz.prog 107=some [(0,1),(1,1),(2,1),(3,1),(4,1)]:=by kernel_rfl
theorem Yi:tyAgg Tryz.prog 109=some (some 4):=by kernel_rfl
theorem ts_109:(Tryz.prog.info? 109).map (·.size)=some 4:=by kernel_rfl
theorem tz_109:tyZero Tryz.prog 109=some (.agg #[(.int .i64 0),(.string ⟨#[]⟩),(.int .i64 0),(.int .i64 0)]):=by kernel_rfl
theorem tf_109_1:tyFld Tryz.prog 109 1=some 1:=by kernel_rfl
theorem tf_109_3:tyFld Tryz.prog 109 3=some 3:=by kernel_rfl
theorem tfl_109:tyFlds Tryz.prog 109=some [(0,1),(1,1),(2,1),(3,1)]:=by kernel_rfl
theorem ts_112:(Tryz.prog.info? 112).map (·.size)=some 1:=by kernel_rfl
theorem te_112:tyElem Tryz.prog 112=some (163,3):=by kernel_rfl
theorem el_112:ElT Tryz.prog 112 163 (.agg #[(.string ⟨#[]⟩),(.slice none 0 0),(.int .i64 0)]) 3 48:=⟨by kernel_rfl,by kernel_rfl,rfl,by decide,by decide⟩
theorem tu_112:Tryz.prog.underlying 112=some (.slice 163):=by kernel_rfl
theorem ta_114:tyAgg Tryz.prog 114=some (some 5):=by kernel_rfl
theorem ts_114:(Tryz.prog.info? 114).map (·.size)=some 5:=by kernel_rfl
theorem tz_114:tyZero Tryz.prog 114=some (.agg #[(.string ⟨#[]⟩),(.slice none 0 0),(.slice none 0 0),(.slice none 0 0),(.int .i64 0)]):=by kernel_rfl
theorem tfl_114:tyFlds Tryz.prog 114=some [(0,1),(1,1),(2,1),(3,1),(4,1)]:=by kernel_rfl
theorem ta_116:tyAgg Tryz.prog 116=some none:=by kernel_rfl
theorem ts_116:(Tryz.prog.info? 116).map (·.size)=some 1:=by kernel_rfl
theorem te_116:tyElem Tryz.prog 116=some (168,6):=by kernel_rfl
theorem el_116:ElT Tryz.prog 116 168 (.agg #[(.string ⟨#[]⟩),(.int .i64 0),(.string ⟨#[]⟩),(.int .i64 0),(.slice none 0 0),(.int .i64 0)]) 6 80:=⟨by kernel_rfl,by kernel_rfl,rfl,by decide,by decide⟩
theorem tu_116:Tryz.prog.underlying 116=some (.slice 168):=by kernel_rfl
theorem ta_118:tyAgg Tryz.prog 118=some (some 6):=by kernel_rfl
theorem ts_118:(Tryz.prog.info? 118).map (·.size)=some 6:=by kernel_rfl
theorem tz_118:tyZero Tryz.prog 118=some (.agg #[(.string ⟨#[]⟩),(.string ⟨#[]⟩),(.slice none 0 0),(.slice none 0 0),(.slice none 0 0),(.int .i64 0)]):=by kernel_rfl
theorem tfl_118:tyFlds Tryz.prog 118=some [(0,1),(1,1),(2,1),(3,1),(4,1),(5,1)]:=by kernel_rfl
theorem ts_120:(Tryz.prog.info? 120).map (·.size)=some 1:=by kernel_rfl
theorem te_120:tyElem Tryz.prog 120=some (170,5):=by kernel_rfl
theorem el_120:ElT Tryz.prog 120 170 (.agg #[(.string ⟨#[]⟩),(.int .i64 0),(.string ⟨#[]⟩),(.int .i64 0),(.slice none 0 0)]) 5 72:=⟨by kernel_rfl,by kernel_rfl,rfl,by decide,by decide⟩
theorem tu_120:Tryz.prog.underlying 120=some (.slice 170):=by kernel_rfl
theorem ta_122:tyAgg Tryz.prog 122=some (some 8):=by kernel_rfl
theorem ts_122:(Tryz.prog.info? 122).map (·.size)=some 8:=by kernel_rfl
theorem tz_122:tyZero Tryz.prog 122=some (.agg #[(.string ⟨#[]⟩),(.int .i64 0),(.string ⟨#[]⟩),(.int .i64 0),(.slice none 0 0),(.slice none 0 0),(.slice none 0 0),(.int .i64 0)]):=by kernel_rfl
theorem tfl_122:tyFlds Tryz.prog 122=some [(0,1),(1,4),(5,1),(6,1),(7,1)]:=by kernel_rfl
theorem ts_125:(Tryz.prog.info? 125).map (·.size)=some 1:=by kernel_rfl
theorem te_125:tyElem Tryz.prog 125=some (128,11):=by kernel_rfl
theorem el_125:ElT Tryz.prog 125 128 (.agg #[(.int .i64 0),(.string ⟨#[]⟩),(.int .i64 0),(.int .i64 0),(.string ⟨#[]⟩),(.int .i64 0),(.slice none 0 0),(.slice none 0 0),(.slice none 0 0),(.slice none 0 0),(.int .i64 0)]) 11 168:=⟨by kernel_rfl,by kernel_rfl,rfl,by decide,by decide⟩
theorem ts_126:(Tryz.prog.info? 126).map (·.size)=some 1:=by kernel_rfl
theorem el_126:ElT Tryz.prog 126 260 (.agg #[(.int .i64 0),(.string ⟨#[]⟩),(.int .i64 0),(.slice none 0 0),(.int .i64 0),(.int .i64 0),(.string ⟨#[]⟩),(.int .i64 0),(.int .i64 0),(.string ⟨#[]⟩),(.int .i64 0),(.slice none 0 0),(.slice none 0 0),(.slice none 0 0),(.slice none 0 0),(.int .i64 0)]) 16 232:=⟨by kernel_rfl,by kernel_rfl,rfl,by decide,by decide⟩
theorem Xg:tyAgg Tryz.prog 128=some (some 11):=by kernel_rfl
theorem ts_128:(Tryz.prog.info? 128).map (·.size)=some 11:=by kernel_rfl
theorem tz_128:tyZero Tryz.prog 128=some (.agg #[(.int .i64 0),(.string ⟨#[]⟩),(.int .i64 0),(.int .i64 0),(.string ⟨#[]⟩),(.int .i64 0),(.slice none 0 0),(.slice none 0 0),(.slice none 0 0),(.slice none 0 0),(.int .i64 0)]):=by kernel_rfl
theorem tfl_128:tyFlds Tryz.prog 128=some [(0,1),(1,1),(2,1),(3,4),(7,1),(8,1),(9,1),(10,1)]:=by kernel_rfl
theorem ta_130:tyAgg Tryz.prog 130=some (some 13):=by kernel_rfl
theorem ts_130:(Tryz.prog.info? 130).map (·.size)=some 13:=by kernel_rfl
theorem tz_130:tyZero Tryz.prog 130=some (.agg #[(.string ⟨#[]⟩),(.int .i64 0),(.string ⟨#[]⟩),(.int .i64 0),(.int .i64 0),(.string ⟨#[]⟩),(.int .i64 0),(.slice none 0 0),(.slice none 0 0),(.slice none 0 0),(.slice none 0 0),(.int .i64 0),(.int .i64 0)]):=by kernel_rfl
theorem tfl_130:tyFlds Tryz.prog 130=some [(0,1),(1,11),(12,1)]:=by kernel_rfl
theorem ta_163:tyAgg Tryz.prog 163=some (some 3):=by kernel_rfl
theorem ts_163:(Tryz.prog.info? 163).map (·.size)=some 3:=by kernel_rfl
theorem tz_163:tyZero Tryz.prog 163=some (.agg #[(.string ⟨#[]⟩),(.slice none 0 0),(.int .i64 0)]):=by kernel_rfl
theorem tfl_163:tyFlds Tryz.prog 163=some [(0,1),(1,1),(2,1)]:=by kernel_rfl
theorem ta_168:tyAgg Tryz.prog 168=some (some 6):=by kernel_rfl
theorem ts_168:(Tryz.prog.info? 168).map (·.size)=some 6:=by kernel_rfl
theorem tz_168:tyZero Tryz.prog 168=some (.agg #[(.string ⟨#[]⟩),(.int .i64 0),(.string ⟨#[]⟩),(.int .i64 0),(.slice none 0 0),(.int .i64 0)]):=by kernel_rfl
theorem tfl_168:tyFlds Tryz.prog 168=some [(0,1),(1,4),(5,1)]:=by kernel_rfl
theorem ta_170:tyAgg Tryz.prog 170=some (some 5):=by kernel_rfl
theorem ts_170:(Tryz.prog.info? 170).map (·.size)=some 5:=by kernel_rfl
theorem tz_170:tyZero Tryz.prog 170=some (.agg #[(.string ⟨#[]⟩),(.int .i64 0),(.string ⟨#[]⟩),(.int .i64 0),(.slice none 0 0)]):=by kernel_rfl
theorem tfl_170:tyFlds Tryz.prog 170=some [(0,1),(1,4)]:=by kernel_rfl
theorem ta_181:tyAgg Tryz.prog 181=some (some 5):=by kernel_rfl
theorem ts_181:(Tryz.prog.info? 181).map (·.size)=some 5:=by kernel_rfl
theorem tz_181:tyZero Tryz.prog 181=some (.agg #[(.string ⟨#[]⟩),(.int .i64 0),(.string ⟨#[]⟩),(.int .i64 0),(.slice none 0 0)]):=by kernel_rfl
theorem tfl_181:tyFlds Tryz.prog 181=some [(0,1),(1,4)]:=by kernel_rfl
theorem ta_182:tyAgg Tryz.prog 182=some (some 85):=by kernel_rfl
theorem ts_182:(Tryz.prog.info? 182).map (·.size)=some 85:=by kernel_rfl
theorem tz_182:tyZero Tryz.prog 182=some (.agg #[(.string ⟨#[]⟩),(.int .i64 0),(.string ⟨#[]⟩),(.int .i64 0),(.slice none 0 0),(.string ⟨#[]⟩),(.int .i64 0),(.string ⟨#[]⟩),(.int .i64 0),(.slice none 0 0),(.string ⟨#[]⟩),(.int .i64 0),(.string ⟨#[]⟩),(.int .i64 0),(.slice none 0 0),(.string ⟨#[]⟩),(.int .i64 0),(.string ⟨#[]⟩),(.int .i64 0),(.slice none 0 0),(.string ⟨#[]⟩),(.int .i64 0),(.string ⟨#[]⟩),(.int .i64 0),(.slice none 0 0),(.string ⟨#[]⟩),(.int .i64 0),(.string ⟨#[]⟩),(.int .i64 0),(.slice none 0 0),(.string ⟨#[]⟩),(.int .i64 0),(.string ⟨#[]⟩),(.int .i64 0),(.slice none 0 0),(.string ⟨#[]⟩),(.int .i64 0),(.string ⟨#[]⟩),(.int .i64 0),(.slice none 0 0),(.string ⟨#[]⟩),(.int .i64 0),(.string ⟨#[]⟩),(.int .i64 0),(.slice none 0 0),(.string ⟨#[]⟩),(.int .i64 0),(.string ⟨#[]⟩),(.int .i64 0),(.slice none 0 0),(.string ⟨#[]⟩),(.int .i64 0),(.string ⟨#[]⟩),(.int .i64 0),(.slice none 0 0),(.string ⟨#[]⟩),(.int .i64 0),(.string ⟨#[]⟩),(.int .i64 0),(.slice none 0 0),(.string ⟨#[]⟩),(.int .i64 0),(.string ⟨#[]⟩),(.int .i64 0),(.slice none 0 0),(.string ⟨#[]⟩),(.int .i64 0),(.string ⟨#[]⟩),(.int .i64 0),(.slice none 0 0),(.string ⟨#[]⟩),(.int .i64 0),(.string ⟨#[]⟩),(.int .i64 0),(.slice none 0 0),(.string ⟨#[]⟩),(.int .i64 0),(.string ⟨#[]⟩),(.int .i64 0),(.slice none 0 0),(.string ⟨#[]⟩),(.int .i64 0),(.string ⟨#[]⟩),(.int .i64 0),(.slice none 0 0)]):=by kernel_rfl
theorem tu_182:Tryz.prog.underlying 182=some (.array 17 181):=by kernel_rfl
theorem ta_185:tyAgg Tryz.prog 185=some (some 6):=by kernel_rfl
theorem ts_185:(Tryz.prog.info? 185).map (·.size)=some 6:=by kernel_rfl
theorem tz_185:tyZero Tryz.prog 185=some (.agg #[(.slice none 0 0),(.slice none 0 0),(.int .i64 0),(.string ⟨#[]⟩),(.int .i64 0),(.slice none 0 0)]):=by kernel_rfl
theorem tfl_185:tyFlds Tryz.prog 185=some [(0,1),(1,1),(2,4)]:=by kernel_rfl
theorem ta_187:tyAgg Tryz.prog 187=some (some 9):=by kernel_rfl
theorem ts_187:(Tryz.prog.info? 187).map (·.size)=some 9:=by kernel_rfl
theorem tz_187:tyZero Tryz.prog 187=some (.agg #[(.string ⟨#[]⟩),(.int .i64 0),(.int .i64 0),(.slice none 0 0),(.slice none 0 0),(.int .i64 0),(.string ⟨#[]⟩),(.int .i64 0),(.slice none 0 0)]):=by kernel_rfl
theorem tfl_187:tyFlds Tryz.prog 187=some [(0,1),(1,1),(2,1),(3,6)]:=by kernel_rfl
theorem te_226:tyElem Tryz.prog 226=some (249,8):=by kernel_rfl
theorem el_226:ElT Tryz.prog 226 249 (.agg #[(.string ⟨#[]⟩),(.slice none 0 0),(.slice none 0 0),(.int .i64 0),(.string ⟨#[]⟩),(.int .i64 0),(.slice none 0 0),(.bool false)]) 8 128:=⟨by kernel_rfl,by kernel_rfl,rfl,by decide,by decide⟩
theorem tu_226:Tryz.prog.underlying 226=some (.slice 249):=by kernel_rfl
theorem ta_229:tyAgg Tryz.prog 229=some (some 6):=by kernel_rfl
theorem tz_229:tyZero Tryz.prog 229=some (.agg #[(.slice none 0 0),(.slice none 0 0),(.slice none 0 0),(.slice none 0 0),(.slice none 0 0),(.slice none 0 0)]):=by kernel_rfl
theorem tfl_229:tyFlds Tryz.prog 229=some [(0,3),(3,1),(4,1),(5,1)]:=by kernel_rfl
theorem tz_249:tyZero Tryz.prog 249=some (.agg #[(.string ⟨#[]⟩),(.slice none 0 0),(.slice none 0 0),(.int .i64 0),(.string ⟨#[]⟩),(.int .i64 0),(.slice none 0 0),(.bool false)]):=by kernel_rfl
theorem tfl_249:tyFlds Tryz.prog 249=some [(0,1),(1,6),(7,1)]:=by kernel_rfl
theorem el_253:ElT Tryz.prog 253 5 (.int .u8 0) 1 1:=⟨by kernel_rfl,by kernel_rfl,rfl,by decide,by decide⟩
theorem tu_253:Tryz.prog.underlying 253=some (.slice 5):=by kernel_rfl
theorem tu_255:Tryz.prog.underlying 255=some (.int .u64):=by kernel_rfl
theorem ta_260:tyAgg Tryz.prog 260=some (some 16):=by kernel_rfl
theorem ts_260:(Tryz.prog.info? 260).map (·.size)=some 16:=by kernel_rfl
theorem tz_260:tyZero Tryz.prog 260=some (.agg #[(.int .i64 0),(.string ⟨#[]⟩),(.int .i64 0),(.slice none 0 0),(.int .i64 0),(.int .i64 0),(.string ⟨#[]⟩),(.int .i64 0),(.int .i64 0),(.string ⟨#[]⟩),(.int .i64 0),(.slice none 0 0),(.slice none 0 0),(.slice none 0 0),(.slice none 0 0),(.int .i64 0)]):=by kernel_rfl
theorem tfl_260:tyFlds Tryz.prog 260=some [(0,5),(5,11)]:=by kernel_rfl
open Go.RowKit
def rg (l:List (Nat × Nat)):List Nat:=l.flatMap fun p=>List.range' p.1 p.2
def lkf:List (Nat × Nat × Nat)→Nat→Nat→Option Nat
 | [],_,_=>none
 |(a,b,c)::l,t,f=>bif Nat.beq a t && Nat.beq b f then some c else lkf l t f
def lkm:List Nat→Nat→Bool
 | [],_=>false
 | a::l,t=>Nat.beq a t || lkm l t
def tfL:List (Nat × Nat × Nat):=[(24,0,0),(24,1,1),(24,2,2),(24,3,3),(29,0,0),(29,1,1),(29,2,2),(29,3,3),(29,4,7),(29,5,8),(29,6,9),(29,7,10),(36,0,0),(41,0,0),(41,1,1),(41,2,2),(46,0,0),(46,1,1),(46,2,2),(46,3,6),(67,0,0),(67,1,1),(67,2,2),(67,3,3),(69,0,0),(69,1,5),(81,0,0),(81,1,1),(81,2,2),(81,3,3),(85,0,0),(89,0,0),(89,1,1),(92,0,0),(92,1,2),(92,2,5),(97,0,0),(97,1,3),(97,2,4),(97,3,5),(107,0,0),(107,1,1),(107,2,2),(107,3,3),(107,4,4),(109,0,0),(109,1,1),(109,2,2),(109,3,3),(114,0,0),(114,1,1),(114,2,2),(114,3,3),(114,4,4),(118,0,0),(118,1,1),(118,2,2),(118,3,3),(118,4,4),(118,5,5),(122,0,0),(122,1,1),(122,2,5),(122,3,6),(122,4,7),(128,0,0),(128,1,1),(128,2,2),(128,4,7),(128,5,8),(128,6,9),(130,0,0),(130,1,1),(130,2,12),(163,0,0),(163,1,1),(163,2,2),(168,0,0),(168,1,1),(168,2,5),(170,0,0),(170,1,1),(181,0,0),(181,1,1),(185,0,0),(185,2,2),(187,2,2),(187,3,3),(229,0,0),(249,0,0),(249,1,1),(260,1,5)]
def taL:List Nat:=[2,3,9,22,25,26,27,37,38,39,44,65,79,90,94,105,111,112,116,120,125,126,146,209]
theorem lkf_ok {t f c:Nat}:∀ l:List (Nat × Nat × Nat),(l.all fun e=>tyFld Tryz.prog e.1 e.2.1 == some e.2.2)=true→lkf l t f=some c→tyFld Tryz.prog t f=some c
 | [],_,h=>by simp [lkf] at h
 |(a,b,d)::l,hl,h=>by
  rw [List.all_cons,Bool.and_eq_true] at hl
  rw [lkf] at h
  cases q:(Nat.beq a t && Nat.beq b f) with
  | true =>
   rw [q] at h
   rw [Bool.and_eq_true] at q
   have h1:=Nat.eq_of_beq_eq_true q.1
   have h2:=Nat.eq_of_beq_eq_true q.2
   subst h1 h2
   have h3:d=c:=by simpa using h
   subst h3
   simpa using hl.1
  | false=>rw [q] at h;exact lkf_ok l hl.2 h
theorem lkm_ok {t:Nat}:∀ l:List Nat,(l.all fun e=>tyAgg Tryz.prog e == some none)=true→lkm l t=true→tyAgg Tryz.prog t=some none
 | [],_,h=>by simp [lkm] at h
 | a::l,hl,h=>by
  rw [List.all_cons,Bool.and_eq_true] at hl
  rw [lkm,Bool.or_eq_true] at h
  rcases h with h|h
  ·have h1:=Nat.eq_of_beq_eq_true h
   subst h1
   simpa using hl.1
  exact lkm_ok l hl.2 h
theorem tfL_ok:(tfL.all fun e=>tyFld Tryz.prog e.1 e.2.1 == some e.2.2)=true:=by kernel_rfl
theorem taL_ok:(taL.all fun e=>tyAgg Tryz.prog e == some none)=true:=by kernel_rfl
section
variable {al:Sl} {M:Mem} {K:AV→Mem→Prop} {o:Oper}
theorem op_fam {x:Operand} {t f b off fo:Nat} (ho:o.op=.fieldAddr t x f) (ht:lkf tfL t f=some fo) (hx:al.ev x=some (.ptr b off)) (q:K (.ptr b (off+fo)) M):OpT Tryz.prog o al M K:=op_fieldAddr_m ho (lkf_ok tfL tfL_ok ht) hx q
theorem op_fac {x:Operand} {t f fo:Nat} {cs cs':List AV} (ho:o.op=.fieldAddr t x f) (ht:lkf tfL t f=some fo) (hx:al.ev x=some (.cptr cs)) (hc:cs.drop fo=cs') (q:K (.cptr cs') M):OpT Tryz.prog o al M K:=op_fieldAddr_c ho (lkf_ok tfL tfL_ok ht) hx hc q
theorem op_lc1 {x:Operand} {t:Nat} {c:AV} {cs:List AV} (ho:o.op=.load t x) (ht:lkm taL t=true) (hx:al.ev x=some (.cptr cs)) (hc:cs[0]?=some c) (q:K c M):OpT Tryz.prog o al M K:=op_load_c1 ho (lkm_ok taL taL_ok ht) hx hc q
theorem op_lm1 {x:Operand} {t b off i:Nat} {c:AV} {cs:List AV} (ho:o.op=.load t x) (ht:lkm taL t=true) (hx:al.ev x=some (.ptr b off)) (hm:M[i]?=some (.loc b cs)) (hc:cs[off]?=some c) (q:K c M):OpT Tryz.prog o al M K:=Xl ho (lkm_ok taL taL_ok ht) hx hm hc q
end
structure Wr (q:Prop):Prop where
 out:q
section
variable {p q:Prop}
theorem Qc (k:q) (h:Wr q→p:=by intro k;refine go_code ?_;exact k.1):p:=h ⟨k⟩
theorem Q2 (k:q) (h:Wr q→p:=by intro k;refine c_seq ?_;exact k.1):p:=h ⟨k⟩
theorem Qa2 (k:q) (h:Wr q→p:=by intro k;refine AOps.nil ?_;exact k.1):p:=h ⟨k⟩
theorem Qi (k:q) (h:Wr q→p:=by intro k;refine c_region ?_;exact k.1):p:=h ⟨k⟩
theorem Qb (k:q) (h:Wr q→p:=by intro k;refine Zb _ rfl rfl rfl (op_move rfl rfl ?_);exact k.1):p:=h ⟨k⟩
theorem QJ (k:q) (h:Wr q→p:=by intro k;refine Zb _ rfl rfl rfl (op_assign rfl rfl ?_);exact k.1):p:=h ⟨k⟩
theorem QbO (k:q) (h:Wr q→p:=by intro k;refine AOps.gf _ rfl rfl rfl rfl rfl ?_;exact k.1):p:=h ⟨k⟩
theorem QX (k:q) (h:Wr q→p:=by intro k;refine c_cond_f rfl ?_;exact k.1):p:=h ⟨k⟩
theorem Q4 (k:q) (h:Wr q→p:=by intro k;refine c_cond_t rfl ?_;exact k.1):p:=h ⟨k⟩
theorem Qbm (k:q) (h:Wr q→p:=by intro k;refine c_skip ?_;exact k.1):p:=h ⟨k⟩
theorem QcH (k:q) (h:Wr q→p:=by intro k;refine DOps.gf _ rfl rfl rfl rfl ?_;exact k.1):p:=h ⟨k⟩
theorem Qby (k:q) (h:Wr q→p:=by intro k;refine Zb _ rfl rfl rfl (op_pick rfl rfl rfl ?_);exact k.1):p:=h ⟨k⟩
theorem Qt (k:q) (h:Wr q→p:=by intro k;refine Zb _ rfl rfl rfl (op_fam rfl rfl rfl ?_);exact k.1):p:=h ⟨k⟩
theorem QaR (k:q) (h:Wr q→p:=by intro k;refine Zb _ rfl rfl rfl (op_fac rfl rfl rfl rfl ?_);exact k.1):p:=h ⟨k⟩
theorem QaG (k:q) (h:Wr q→p:=by intro k;refine Zb _ rfl rfl rfl (op_lc1 rfl rfl rfl rfl ?_);exact k.1):p:=h ⟨k⟩
theorem QN (k:q) (h:Wr q→p:=by intro k;refine c_start ?_;exact k.1):p:=h ⟨k⟩
theorem Qf (k:q) (h:Wr q→p:=by intro k;refine Zo _ rfl rfl rfl rfl rfl (op_move rfl rfl ?_);exact k.1):p:=h ⟨k⟩
theorem Qa6 (k:q) (h:Wr q→p:=by intro k;refine Zb _ rfl rfl rfl (op_add rfl rfl rfl (IntWalk.i64_in _ by17) ?_);exact k.1):p:=h ⟨k⟩
theorem Qg (k:q) (h:Wr q→p:=by intro k;refine Zb _ rfl rfl rfl (op_lss rfl rfl rfl ?_);exact k.1):p:=h ⟨k⟩
theorem QaS (k:q) (h:Wr q→p:=by intro k;refine AOps.gu _ rfl rfl rfl rfl rfl ?_;exact k.1):p:=h ⟨k⟩
theorem Qz (k:q) (h:Wr q→p:=by intro k;refine Zb _ rfl rfl rfl (op_eql rfl rfl rfl ?_);exact k.1):p:=h ⟨k⟩
theorem QF (k:q) (h:Wr q→p:=by intro k;refine Zq _ rfl rfl (op_move rfl rfl ⟨rfl,rfl⟩) ?_;exact k.1):p:=h ⟨k⟩
theorem Qe9 (k:q) (h:Wr q→p:=by intro k;refine Zb _ rfl rfl rfl (op_extract rfl rfl rfl ?_);exact k.1):p:=h ⟨k⟩
theorem Qw (k:q) (h:Wr q→p:=by intro k;refine Zi _ (none) rfl rfl rfl rfl rfl (op_move rfl rfl ⟨rfl,rfl⟩) ?_;exact k.1):p:=h ⟨k⟩
theorem Qbz (k:q) (h:Wr q→p:=by intro k;refine Zo _ rfl rfl rfl rfl rfl (op_pick rfl rfl rfl ?_);exact k.1):p:=h ⟨k⟩
theorem QaI (k:q) (h:Wr q→p:=by intro k;refine Zo _ rfl rfl rfl rfl rfl (op_fac rfl rfl rfl rfl ?_);exact k.1):p:=h ⟨k⟩
theorem QbP (k:q) (h:Wr q→p:=by intro k;refine Zq _ rfl rfl (op_fac rfl rfl rfl rfl ⟨rfl,rfl⟩) ?_;exact k.1):p:=h ⟨k⟩
theorem QE (k:q) (h:Wr q→p:=by intro k;refine Zb _ rfl rfl rfl (Yb (cs':=[_,_,_,_]) rfl tz_24 rfl rfl ?_);exact k.1):p:=h ⟨k⟩
theorem QH (k:q) (h:Wr q→p:=by intro k;refine Zq _ rfl rfl (op_pick rfl rfl rfl ⟨rfl,rfl⟩) ?_;exact k.1):p:=h ⟨k⟩
theorem QW (k:q) (h:Wr q→p:=by intro k;refine Zi _ (none) rfl rfl rfl rfl rfl (op_fam rfl rfl rfl ⟨rfl,rfl⟩) ?_;exact k.1):p:=h ⟨k⟩
theorem Qfa (k:q) (h:Wr q→p:=by intro k;refine Zb _ rfl rfl rfl (op_lm1 (i:=1) rfl rfl rfl rfl rfl ?_);exact k.1):p:=h ⟨k⟩
theorem Qfb (k:q) (h:Wr q→p:=by intro k;refine Zo _ rfl rfl rfl rfl rfl (op_lc1 rfl rfl rfl rfl ?_);exact k.1):p:=h ⟨k⟩
theorem QdV (k:q) (h:Wr q→p:=by intro k;refine Zq _ rfl rfl (op_lc1 rfl rfl rfl rfl ⟨rfl,rfl⟩) ?_;exact k.1):p:=h ⟨k⟩
theorem QO (k:q) (h:Wr q→p:=by intro k;refine Zr rfl rfl (Zp (cs':=[_,_,_,_]) (i:=0) rfl ts_24 rfl rfl rfl rfl rfl (Wc rfl) rfl ?_);exact k.1):p:=h ⟨k⟩
theorem Q5 (k:q) (h:Wr q→p:=by intro k;refine Zb _ rfl rfl rfl (Yz rfl rfl ?_);exact k.1):p:=h ⟨k⟩
theorem Qak (k:q) (h:Wr q→p:=by intro k;refine Zo _ rfl rfl rfl rfl rfl (op_eql rfl rfl rfl ?_);exact k.1):p:=h ⟨k⟩
theorem Q7 (k:q) (h:Wr q→p:=by intro k;refine Zb _ rfl rfl rfl (Zt (cs':=[_,_,_,_]) rfl Zx rfl rfl rfl ?_);exact k.1):p:=h ⟨k⟩
theorem Qdd (k:q) (h:Wr q→p:=by intro k;refine Zr rfl rfl (Zp (cs':=[_,_,_,_]) (i:=1) rfl ts_24 rfl rfl rfl rfl rfl (Wc rfl) rfl ?_);exact k.1):p:=h ⟨k⟩
theorem QP (k:q) (h:Wr q→p:=by intro k;refine Zb _ rfl rfl rfl (op_neq rfl rfl rfl ?_);exact k.1):p:=h ⟨k⟩
theorem QcI (k:q) (h:Wr q→p:=by intro k;refine Ye _ rfl rfl rfl rfl (op_fac rfl rfl rfl rfl ⟨rfl,rfl⟩) ?_;exact k.1):p:=h ⟨k⟩
theorem QdW (k:q) (h:Wr q→p:=by intro k;refine Zb _ rfl rfl rfl (op_nilCheck_m rfl rfl ?_);exact k.1):p:=h ⟨k⟩
theorem Qba (k:q) (h:Wr q→p:=by intro k;refine Zo _ rfl rfl rfl rfl rfl (op_fam rfl rfl rfl ?_);exact k.1):p:=h ⟨k⟩
theorem Q9 (k:q) (h:Wr q→p:=by intro k;refine Zb _ rfl rfl rfl (Zs (cs':=[_,_,_,_]) (i:=0) rfl Zx rfl rfl rfl rfl ?_);exact k.1):p:=h ⟨k⟩
theorem Qfc (k:q) (h:Wr q→p:=by intro k;refine Ye _ rfl rfl rfl rfl (op_lc1 rfl rfl rfl rfl ⟨rfl,rfl⟩) ?_;exact k.1):p:=h ⟨k⟩
theorem Qcm (k:q) (h:Wr q→p:=by intro k;refine Zi _ (none) rfl rfl rfl rfl rfl (op_fac rfl rfl rfl rfl ⟨rfl,rfl⟩) ?_;exact k.1):p:=h ⟨k⟩
theorem QR (k:q) (h:Wr q→p:=by intro k;refine Zb _ rfl rfl rfl (Yb (cs':=[_,_,_,_]) rfl tz_109 rfl rfl ?_);exact k.1):p:=h ⟨k⟩
theorem QY (k:q) (h:Wr q→p:=by intro k;refine Zb _ rfl rfl rfl (Yw rfl tu_22 rfl (.seq _ _) ?_);exact k.1):p:=h ⟨k⟩
theorem QZ (k:q) (h:Wr q→p:=by intro k;refine Zi _ (none) rfl rfl rfl rfl rfl (op_assign rfl rfl ⟨rfl,rfl⟩) ?_;exact k.1):p:=h ⟨k⟩
theorem Qel (k:q) (h:Wr q→p:=by intro k;refine Zi _ (none) rfl rfl rfl rfl rfl (op_lc1 rfl rfl rfl rfl ⟨rfl,rfl⟩) ?_;exact k.1):p:=h ⟨k⟩
theorem Qde (k:q) (h:Wr q→p:=by intro k;refine Zb _ rfl rfl rfl (op_boxc (cs':=[_,_,_]) rfl rfl rfl rfl ?_);exact k.1):p:=h ⟨k⟩
theorem Qbe (k:q) (h:Wr q→p:=by intro k;refine Zb _ rfl rfl rfl (Zt (cs':=[_,_,_]) rfl ta_41 rfl rfl rfl ?_);exact k.1):p:=h ⟨k⟩
theorem QaT (k:q) (h:Wr q→p:=by intro k;refine Ye _ rfl rfl rfl rfl (op_move rfl rfl ⟨rfl,rfl⟩) ?_;exact k.1):p:=h ⟨k⟩
theorem Q6 (k:q) (h:Wr q→p:=by intro k;refine c_drawn Yx rfl ?_;exact k.1):p:=h ⟨k⟩
theorem Qaw (k:q) (h:Wr q→p:=by intro k;refine Zr rfl rfl (Zp (cs':=[_,_,_,_]) (i:=0) rfl ts_109 rfl rfl rfl rfl rfl (Wc rfl) rfl ?_);exact k.1):p:=h ⟨k⟩
theorem Qd7 (k:q) (h:Wr q→p:=by intro k;refine Zi _ (none) rfl rfl rfl rfl rfl (op_extract rfl rfl rfl ⟨rfl,rfl⟩) ?_;exact k.1):p:=h ⟨k⟩
theorem Qem (k:q) (h:Wr q→p:=by intro k;refine Zb _ rfl rfl rfl (op_boxc (cs':=[_,_,_,_,_,_]) rfl rfl rfl rfl ?_);exact k.1):p:=h ⟨k⟩
theorem QcJ (k:q) (h:Wr q→p:=by intro k;refine Zb _ rfl rfl rfl (Zs (cs':=[_,_,_,_]) (i:=0) rfl Yi rfl rfl rfl rfl ?_);exact k.1):p:=h ⟨k⟩
theorem Qdf (k:q) (h:Wr q→p:=by intro k;refine Zb _ rfl rfl rfl (op_boxc (cs':=[_,_,_,_]) rfl rfl rfl rfl ?_);exact k.1):p:=h ⟨k⟩
theorem Qcn (k:q) (h:Wr q→p:=by intro k;refine Zq _ rfl rfl (op_assign rfl rfl ⟨rfl,rfl⟩) ?_;exact k.1):p:=h ⟨k⟩
theorem QbR (k:q) (h:Wr q→p:=by intro k;refine Zq _ rfl rfl (op_fam rfl rfl rfl ⟨rfl,rfl⟩) ?_;exact k.1):p:=h ⟨k⟩
theorem QbS (k:q) (h:Wr q→p:=by intro k;refine Zb _ rfl rfl rfl (op_geq rfl rfl rfl ?_);exact k.1):p:=h ⟨k⟩
theorem Qal (k:q) (h:Wr q→p:=by intro k;refine Zo _ rfl rfl rfl rfl rfl (Yz rfl rfl ?_);exact k.1):p:=h ⟨k⟩
theorem Qdg (k:q) (h:Wr q→p:=by intro k;refine Zr rfl rfl (Zp (cs':=[_,_,_,_]) (i:=1) rfl ts_109 rfl rfl rfl rfl rfl (Wc rfl) rfl ?_);exact k.1):p:=h ⟨k⟩
theorem QdG (k:q) (h:Wr q→p:=by intro k;refine Zb _ rfl rfl rfl (op_boxe (cs':=[_,_,_,_]) rfl rfl rfl rfl ?_);exact k.1):p:=h ⟨k⟩
theorem QbA (k:q) (h:Wr q→p:=by intro k;refine Zb _ rfl rfl rfl (Yb (cs':=[_,_,_,_,_,_,_,_,_,_,_]) rfl tz_128 rfl rfl ?_);exact k.1):p:=h ⟨k⟩
theorem Qas (k:q) (h:Wr q→p:=by intro k;refine Zb _ rfl rfl rfl (op_seql rfl rfl rfl ?_);exact k.1):p:=h ⟨k⟩
theorem Qfd (k:q) (h:Wr q→p:=by intro k;refine Zb _ rfl rfl rfl (op_lm1 (i:=2) rfl rfl rfl rfl rfl ?_);exact k.1):p:=h ⟨k⟩
theorem Qax (k:q) (h:Wr q→p:=by intro k;refine Zo _ rfl rfl rfl rfl rfl (op_neq rfl rfl rfl ?_);exact k.1):p:=h ⟨k⟩
theorem QbB (k:q) (h:Wr q→p:=by intro k;refine Zb _ rfl rfl rfl (Yw rfl tu_44 rfl (.seq _ _) ?_);exact k.1):p:=h ⟨k⟩
theorem Qay (k:q) (h:Wr q→p:=by intro k;refine Zb _ rfl rfl rfl (op_sub rfl rfl rfl (IntWalk.i64_in _ by17) ?_);exact k.1):p:=h ⟨k⟩
theorem QeH (k:q) (h:Wr q→p:=by intro k;refine Zb _ rfl rfl rfl (Zm (ns:=[]) (xs:=[]) rfl tz_24 rfl tfl_24 rfl rfl rfl rfl ?_);exact k.1):p:=h ⟨k⟩
theorem Qco (k:q) (h:Wr q→p:=by intro k;refine Zb _ rfl rfl rfl (op_len_str rfl tu_9 rfl ?_);exact k.1):p:=h ⟨k⟩
theorem QeI (k:q) (h:Wr q→p:=by intro k;refine Zr rfl rfl (Zp (cs':=[_,_,_,_]) (i:=0) rfl ts_3 rfl rfl rfl rfl rfl (Wc rfl) rfl ?_);exact k.1):p:=h ⟨k⟩
theorem QdH (k:q) (h:Wr q→p:=by intro k;refine Zr rfl rfl (Zp (cs':=[_,_,_,_]) (i:=2) rfl ts_24 rfl rfl rfl rfl rfl (Wc rfl) rfl ?_);exact k.1):p:=h ⟨k⟩
theorem Qdh (k:q) (h:Wr q→p:=by intro k;refine Zb _ rfl rfl rfl (op_boxc (cs':=[_,_,_,_,_,_,_,_,_,_,_]) rfl rfl rfl rfl ?_);exact k.1):p:=h ⟨k⟩
theorem Qbf (k:q) (h:Wr q→p:=by intro k;refine Zo _ rfl rfl rfl rfl rfl (op_seql rfl rfl rfl ?_);exact k.1):p:=h ⟨k⟩
theorem Qbg (k:q) (h:Wr q→p:=by intro k;refine Zr rfl rfl (Zp (cs':=[_,_,_,_,_,_,_,_,_,_,_]) (i:=0) rfl ts_128 rfl rfl rfl rfl rfl (Wc rfl) rfl ?_);exact k.1):p:=h ⟨k⟩
theorem Qbn (k:q) (h:Wr q→p:=by intro k;refine Zo _ rfl rfl rfl rfl rfl (op_lss rfl rfl rfl ?_);exact k.1):p:=h ⟨k⟩
theorem Qbo (k:q) (h:Wr q→p:=by intro k;refine Zb _ rfl rfl rfl (op_gtr rfl rfl rfl ?_);exact k.1):p:=h ⟨k⟩
theorem Qbp (k:q) (h:Wr q→p:=by intro k;refine Zb _ rfl rfl rfl (Zs (cs':=[_,_,_,_]) (i:=1) rfl Zx rfl rfl rfl rfl ?_);exact k.1):p:=h ⟨k⟩
theorem QdX (k:q) (h:Wr q→p:=by intro k;refine Ye _ rfl rfl rfl rfl (op_fam rfl rfl rfl ⟨rfl,rfl⟩) ?_;exact k.1):p:=h ⟨k⟩
theorem Qd8 (k:q) (h:Wr q→p:=by intro k;refine Zi _ (none) rfl rfl rfl rfl rfl (Zt (cs':=[_,_,_,_,_,_,_,_,_,_,_]) rfl ta_29 rfl rfl rfl ⟨rfl,rfl⟩) ?_;exact k.1):p:=h ⟨k⟩
theorem QbC (k:q) (h:Wr q→p:=by intro k;refine Zo _ rfl rfl rfl rfl rfl (Yw rfl tu_22 rfl (.seq _ _) ?_);exact k.1):p:=h ⟨k⟩
theorem QbD (k:q) (h:Wr q→p:=by intro k;refine Zi _ (some 5) rfl rfl rfl rfl rfl (Zs (cs':=[_,_,_,_]) (i:=0) rfl Zx rfl rfl rfl rfl ⟨rfl,rfl⟩) ?_;exact k.1):p:=h ⟨k⟩
theorem Qfe (k:q) (h:Wr q→p:=by intro k;refine Yh [0,1,2,3,4,5,6,7] [3,5,7] [[],[0],[],[2],[2,3],[0,1,2,3,4],[0,1,2,3,4,5],[0,1,2,3,4,5,6]] Yx rfl ?_;exact k.1):p:=h ⟨k⟩
theorem QbT (k:q) (h:Wr q→p:=by intro k;refine Zi _ (none) rfl rfl rfl rfl rfl (Zt (cs':=[_,_,_,_]) rfl Zx rfl rfl rfl ⟨rfl,rfl⟩) ?_;exact k.1):p:=h ⟨k⟩
theorem QbU (k:q) (h:Wr q→p:=by intro k;refine Zb _ rfl rfl rfl (Zt (cs':=[_,_,_,_,_,_,_,_,_,_,_]) rfl ta_29 rfl rfl rfl ?_);exact k.1):p:=h ⟨k⟩
theorem Qgc (k:q) (h:Wr q→p:=by intro k;refine Zo _ rfl rfl rfl rfl rfl (Zt (cs':=[_,_,_,_]) rfl Zx rfl rfl rfl ?_);exact k.1):p:=h ⟨k⟩
theorem QbV (k:q) (h:Wr q→p:=by intro k;refine Zb _ rfl rfl rfl (Yb (cs':=[_,_,_,_,_]) rfl tz_67 rfl rfl ?_);exact k.1):p:=h ⟨k⟩
theorem Qb5 (k:q) (h:Wr q→p:=by intro k;refine Zq _ rfl rfl (Zt (cs':=[_,_,_,_]) rfl Zx rfl rfl rfl ⟨rfl,rfl⟩) ?_;exact k.1):p:=h ⟨k⟩
theorem Qff (k:q) (h:Wr q→p:=by intro k;refine Zb _ rfl rfl rfl (Zh rfl te_22 rfl (.seq _ _) rfl rfl by14 ?_);exact k.1):p:=h ⟨k⟩
theorem Qb6 (k:q) (h:Wr q→p:=by intro k;refine Zr rfl rfl (Zp (cs':=[_,_]) (i:=0) rfl ts_85 rfl rfl rfl rfl rfl (Wc rfl) rfl ?_);exact k.1):p:=h ⟨k⟩
theorem Qb7 (k:q) (h:Wr q→p:=by intro k;refine Zq _ rfl rfl (op_extract rfl rfl rfl ⟨rfl,rfl⟩) ?_;exact k.1):p:=h ⟨k⟩
theorem Qb8 (k:q) (h:Wr q→p:=by intro k;refine Zb _ rfl rfl rfl (Zt (cs':=[_,_,_,_,_,_]) rfl ta_92 rfl rfl rfl ?_);exact k.1):p:=h ⟨k⟩
theorem Qb9 (k:q) (h:Wr q→p:=by intro k;refine Zb _ rfl rfl rfl (Yw rfl tu_25 rfl (.seq _ _) ?_);exact k.1):p:=h ⟨k⟩
theorem Qcp (k:q) (h:Wr q→p:=by intro k;refine Zo _ rfl rfl rfl rfl rfl (op_gtr rfl rfl rfl ?_);exact k.1):p:=h ⟨k⟩
theorem Qcq (k:q) (h:Wr q→p:=by intro k;refine Zb _ rfl rfl rfl (Zs (cs':=[_,_,_,_]) (i:=2) rfl Zx rfl rfl rfl rfl ?_);exact k.1):p:=h ⟨k⟩
theorem Qcr (k:q) (h:Wr q→p:=by intro k;refine Zb _ rfl rfl rfl (op_boxc (cs':=[_]) rfl rfl rfl rfl ?_);exact k.1):p:=h ⟨k⟩
theorem Qcs (k:q) (h:Wr q→p:=by intro k;refine Yp 9 1 ?_;exact k.1):p:=h ⟨k⟩
theorem Qct (k:q) (h:Wr q→p:=by intro k;refine Zq _ rfl rfl (Zt (cs':=[_,_,_]) rfl ta_41 rfl rfl rfl ⟨rfl,rfl⟩) ?_;exact k.1):p:=h ⟨k⟩
theorem Qcu (k:q) (h:Wr q→p:=by intro k;refine Zb _ rfl rfl rfl (op_lm1 (i:=3) rfl rfl rfl rfl rfl ?_);exact k.1):p:=h ⟨k⟩
theorem Qcv (k:q) (h:Wr q→p:=by intro k;refine Zb _ rfl rfl rfl (Zs (cs':=[_,_,_,_,_,_,_,_,_,_,_]) (i:=0) rfl Xg rfl rfl rfl rfl ?_);exact k.1):p:=h ⟨k⟩
theorem QcK (k:q) (h:Wr q→p:=by intro k;refine Zb _ rfl rfl rfl (Yw rfl tu_27 rfl (.seq _ _) ?_);exact k.1):p:=h ⟨k⟩
theorem QcL (k:q) (h:Wr q→p:=by intro k;refine Yc 1 rfl rfl rfl rfl rfl (Zp (cs':=[_,_,_,_]) (i:=0) rfl ts_24 rfl rfl rfl rfl rfl (Wc rfl) rfl ⟨_,rfl,?_⟩);exact k.1):p:=h ⟨k⟩
theorem QcM (k:q) (h:Wr q→p:=by intro k;refine DOps.gu _ rfl rfl rfl rfl ?_;exact k.1):p:=h ⟨k⟩
theorem QcN (k:q) (h:Wr q→p:=by intro k;refine Zb _ rfl rfl rfl (op_boxc (cs':=[_,_,_,_,_]) rfl rfl rfl rfl ?_);exact k.1):p:=h ⟨k⟩
theorem QcO (k:q) (h:Wr q→p:=by intro k;refine Zr rfl rfl (Zp (cs':=[_,_,_,_,_]) (i:=0) rfl ts_67 rfl rfl rfl rfl rfl (Wc rfl) rfl ?_);exact k.1):p:=h ⟨k⟩
theorem Qdi (k:q) (h:Wr q→p:=by intro k;refine Zb _ rfl rfl rfl (op_makeFunc (fs:=[]) (cs:=[.tmp 3]) rfl rfl rfl ?_);exact k.1):p:=h ⟨k⟩
theorem Qdj (k:q) (h:Wr q→p:=by intro k;refine Zo _ rfl rfl rfl rfl rfl (Zt (cs':=[_,_,_]) rfl ta_41 rfl rfl rfl ?_);exact k.1):p:=h ⟨k⟩
theorem Qdk (k:q) (h:Wr q→p:=by intro k;refine Zr rfl rfl (Zp (cs':=[_,_,_,_,_,_,_,_,_,_,_,_,_,_,_,_,_]) (i:=0) rfl ts_46 rfl rfl rfl rfl rfl (Wc rfl) rfl ?_);exact k.1):p:=h ⟨k⟩
theorem QdI (k:q) (h:Wr q→p:=by intro k;refine Zo _ rfl rfl rfl rfl rfl (op_lm1 (i:=1) rfl rfl rfl rfl rfl ?_);exact k.1):p:=h ⟨k⟩
theorem QdJ (k:q) (h:Wr q→p:=by intro k;refine Zb _ rfl rfl rfl (Zt (cs':=[_,_,_,_,_,_,_,_,_,_,_,_,_,_,_,_,_]) rfl ta_46 rfl rfl rfl ?_);exact k.1):p:=h ⟨k⟩
theorem QdK (k:q) (h:Wr q→p:=by intro k;refine Zb _ rfl rfl rfl (Zh rfl te_38 rfl (.seq _ _) rfl rfl (hcx) ?_);exact k.1):p:=h ⟨k⟩
theorem QdL (k:q) (h:Wr q→p:=by intro k;(refine Zb _ rfl rfl rfl (Zv (i:=0) Yy rfl rfl rfl rfl (.seq _ _) by7 ?_));exact k.1):p:=h ⟨k⟩
theorem QdM (k:q) (h:Wr q→p:=by intro k;refine Zq _ rfl rfl (op_lm1 (i:=1) rfl rfl rfl rfl rfl ⟨rfl,rfl⟩) ?_;exact k.1):p:=h ⟨k⟩
theorem QdN (k:q) (h:Wr q→p:=by intro k;refine Zb _ rfl rfl rfl (Yb (cs':=[_,_,_,_,_,_,_,_,_,_,_,_,_,_,_,_,_]) rfl tz_46 rfl rfl ?_);exact k.1):p:=h ⟨k⟩
theorem QdO (k:q) (h:Wr q→p:=by intro k;refine Zi _ (some 4) rfl rfl rfl rfl rfl (Zs (cs':=[_,_,_,_]) (i:=0) rfl Zx rfl rfl rfl rfl ⟨rfl,rfl⟩) ?_;exact k.1):p:=h ⟨k⟩
theorem QdP (k:q) (h:Wr q→p:=by intro k;refine Zi _ (some 0) rfl rfl rfl rfl rfl (Zs (cs':=[_,_,_,_]) (i:=0) rfl Zx rfl rfl rfl rfl ⟨rfl,rfl⟩) ?_;exact k.1):p:=h ⟨k⟩
theorem QdR (k:q) (h:Wr q→p:=by intro k;refine Zi _ (some 1) rfl rfl rfl rfl rfl (op_lm1 (i:=0) rfl rfl rfl rfl rfl ⟨rfl,rfl⟩) ?_;exact k.1):p:=h ⟨k⟩
theorem QdS (k:q) (h:Wr q→p:=by intro k;refine Yh [0,1,2,3,4,5,6,7,8,9,10,11] [9,10] [[],[],[1],[1,2],[1,2,3],[0,1,2,3,4],[0,1,2,3,4,5],[0,1,2,3,4,5,6],[0,1,2,3,4,5,6],[],[0,1,2,3,4,5,6,7,9],[0,1,2,3,4,5,6,7,8,9,10]] Yx rfl ?_;exact k.1):p:=h ⟨k⟩
theorem QdT (k:q) (h:Wr q→p:=by intro k;refine Zb _ rfl rfl rfl (Zt (cs':=[_,_,_,_,_]) rfl ta_67 rfl rfl rfl ?_);exact k.1):p:=h ⟨k⟩
theorem QdU (k:q) (h:Wr q→p:=by intro k;refine Zb _ rfl rfl rfl (Zs (cs':=[_,_,_,_,_]) (i:=0) rfl ta_67 rfl rfl rfl rfl ?_);exact k.1):p:=h ⟨k⟩
theorem QdY (k:q) (h:Wr q→p:=by intro k;refine Zb _ rfl rfl rfl (Yv rfl tu_9 rfl rfl rfl (hb) ?_);exact k.1):p:=h ⟨k⟩
theorem QdZ (k:q) (h:Wr q→p:=by intro k;refine Zb _ rfl rfl rfl (Yw rfl tu_38 rfl (.seq _ _) ?_);exact k.1):p:=h ⟨k⟩
theorem Qd0 (k:q) (h:Wr q→p:=by intro k;refine Zb _ rfl rfl rfl (Yb (cs':=[_,_]) rfl tz_85 rfl rfl ?_);exact k.1):p:=h ⟨k⟩
theorem Qd1 (k:q) (h:Wr q→p:=by intro k;refine Zb _ rfl rfl rfl (Yb (cs':=[_,_,_,_,_]) rfl tz_114 rfl rfl ?_);exact k.1):p:=h ⟨k⟩
theorem Qd2 (k:q) (h:Wr q→p:=by intro k;refine Zb _ rfl rfl rfl (Yb (cs':=[_,_,_,_,_,_]) rfl tz_92 rfl rfl ?_);exact k.1):p:=h ⟨k⟩
theorem Qd3 (k:q) (h:Wr q→p:=by intro k;refine Yc 2 rfl rfl rfl rfl rfl (Zp (cs':=[_,_,_,_]) (i:=0) rfl ts_24 rfl rfl rfl rfl rfl (Wc rfl) rfl ⟨_,rfl,?_⟩);exact k.1):p:=h ⟨k⟩
theorem Qd4 (k:q) (h:Wr q→p:=by intro k;refine Zi _ (none) rfl rfl rfl rfl rfl (Zt (cs':=[_,_,_,_,_,_]) rfl ta_97 rfl rfl rfl ⟨rfl,rfl⟩) ?_;exact k.1):p:=h ⟨k⟩
theorem Qd5 (k:q) (h:Wr q→p:=by intro k;refine Zb _ rfl rfl rfl (op_field1 (ft:=3) (fo:=0) rfl (by kernel_rfl) ta_3 rfl rfl ?_);exact k.1):p:=h ⟨k⟩
theorem Qd6 (k:q) (h:Wr q→p:=by intro k;refine Zr rfl rfl (Zp (cs':=[_,_,_,_,_,_,_,_,_,_,_]) (i:=2) rfl ts_128 rfl rfl rfl rfl rfl (Wc rfl) rfl ?_);exact k.1):p:=h ⟨k⟩
theorem Qd9 (k:q) (h:Wr q→p:=by intro k;refine Zo _ rfl rfl rfl rfl rfl (op_geq rfl rfl rfl ?_);exact k.1):p:=h ⟨k⟩
theorem Qea (k:q) (h:Wr q→p:=by intro k;refine Zb _ rfl rfl rfl (op_boxc (cs':=[_,_,_,_,_,_,_,_,_,_,_,_,_,_,_,_,_]) rfl rfl rfl rfl ?_);exact k.1):p:=h ⟨k⟩
theorem Qeb (k:q) (h:Wr q→p:=by intro k;refine Zb _ rfl rfl rfl (Yw rfl tu_37 rfl (.seq _ _) ?_);exact k.1):p:=h ⟨k⟩
theorem Qec (k:q) (h:Wr q→p:=by intro k;refine Zb _ rfl rfl rfl (Zh rfl te_79 rfl (.seq _ _) rfl rfl (hcx) ?_);exact k.1):p:=h ⟨k⟩
theorem Qed (k:q) (h:Wr q→p:=by intro k;refine Zb _ rfl rfl rfl (Zt (cs':=[_,_,_,_,_]) rfl ta_114 rfl rfl rfl ?_);exact k.1):p:=h ⟨k⟩
theorem Qee (k:q) (h:Wr q→p:=by intro k;refine Zr rfl rfl (Zp (cs':=[_,_,_,_,_]) (i:=0) rfl ts_114 rfl rfl rfl rfl rfl (Wc rfl) rfl ?_);exact k.1):p:=h ⟨k⟩
theorem Qef (k:q) (h:Wr q→p:=by intro k;refine Yc 0 rfl rfl rfl rfl rfl (Zp (cs':=[_,_,_,_]) (i:=0) rfl ts_24 rfl rfl rfl rfl rfl (Wc rfl) rfl ⟨_,rfl,?_⟩);exact k.1):p:=h ⟨k⟩
theorem Qeg (k:q) (h:Wr q→p:=by intro k;refine Zb _ rfl rfl rfl (Yw rfl tu_65 rfl (.seq _ _) ?_);exact k.1):p:=h ⟨k⟩
theorem Qeh (k:q) (h:Wr q→p:=by intro k;refine Zq _ rfl rfl (op_add rfl rfl rfl (IntWalk.i64_in _ by17) ⟨rfl,rfl⟩) ?_;exact k.1):p:=h ⟨k⟩
theorem Qei (k:q) (h:Wr q→p:=by intro k;refine Zi _ (none) rfl rfl rfl rfl rfl (op_nilCheck_m rfl rfl ⟨rfl,rfl⟩) ?_;exact k.1):p:=h ⟨k⟩
theorem Qej (k:q) (h:Wr q→p:=by intro k;refine Zr rfl rfl (Zp (i:=2) rfl ts_3 rfl rfl rfl rfl rfl (Wc rfl) rfl ?_);exact k.1):p:=h ⟨k⟩
theorem Qek (k:q) (h:Wr q→p:=by intro k;refine Zr rfl rfl (Zp (i:=3) rfl ts_3 rfl rfl rfl rfl rfl (Wc rfl) rfl ?_);exact k.1):p:=h ⟨k⟩
theorem Qen (k:q) (h:Wr q→p:=by intro k;refine Zb _ rfl rfl rfl (Zf (xs:=[.tmp 48]) el_253 rfl rfl rfl rfl rfl rfl (Wc rfl) ?_);exact k.1):p:=h ⟨k⟩
theorem Qeo (k:q) (h:Wr q→p:=by intro k;(refine Zb _ rfl rfl rfl (Zv (i:=0) el_253 rfl rfl rfl rfl (.seq _ _) by7 ?_));exact k.1):p:=h ⟨k⟩
theorem Qep (k:q) (h:Wr q→p:=by intro k;refine Zc Tryz.func159 rfl (by kernel_rfl) rfl (Wc rfl) ?_;exact k.1):p:=h ⟨k⟩
theorem Qeq (k:q) (h:Wr q→p:=by intro k;refine Zb _ rfl rfl rfl (Zm (ns:=[3]) (xs:=[.tmp 20]) rfl tz_109 rfl tfl_109 rfl rfl rfl rfl ?_);exact k.1):p:=h ⟨k⟩
theorem Qer (k:q) (h:Wr q→p:=by intro k;refine Zi _ (some 2) rfl rfl rfl rfl rfl (Zs (cs':=[_,_,_,_]) (i:=0) rfl Zx rfl rfl rfl rfl ⟨rfl,rfl⟩) ?_;exact k.1):p:=h ⟨k⟩
theorem Qes (k:q) (h:Wr q→p:=by intro k;refine Zb _ rfl rfl rfl (Yw rfl tu_116 rfl (.seq _ _) ?_);exact k.1):p:=h ⟨k⟩
theorem Qet (k:q) (h:Wr q→p:=by intro k;refine Zb _ rfl rfl rfl (op_boxc (cs':=[_,_,_,_,_,_,_,_]) rfl rfl rfl rfl ?_);exact k.1):p:=h ⟨k⟩
theorem Qeu (k:q) (h:Wr q→p:=by intro k;refine Zi _ (none) rfl rfl rfl rfl rfl (Zt (cs':=[_,_,_]) rfl ta_41 rfl rfl rfl ⟨rfl,rfl⟩) ?_;exact k.1):p:=h ⟨k⟩
theorem Qev (k:q) (h:Wr q→p:=by intro k;refine Zb _ rfl rfl rfl (Zm (ns:=[]) (xs:=[]) rfl tz_85 rfl tfl_85 rfl rfl rfl rfl ?_);exact k.1):p:=h ⟨k⟩
theorem Qew (k:q) (h:Wr q→p:=by intro k;refine Zb _ rfl rfl rfl (Zt (cs':=[_,_,_,_,_,_]) rfl ta_118 rfl rfl rfl ?_);exact k.1):p:=h ⟨k⟩
theorem Qex (k:q) (h:Wr q→p:=by intro k;refine Ye _ rfl rfl rfl rfl (Yw rfl tu_22 rfl (.seq _ _) (fun _=>⟨rfl,rfl⟩)) ?_;exact k.1):p:=h ⟨k⟩
theorem Qey (k:q) (h:Wr q→p:=by intro k;refine Zb _ rfl rfl rfl (Zh rfl te_27 rfl (.seq _ _) rfl rfl (hcq) ?_);exact k.1):p:=h ⟨k⟩
theorem Qez (k:q) (h:Wr q→p:=by intro k;refine Zi _ (some 1) rfl rfl rfl rfl rfl (Zs (cs':=[_,_,_,_]) (i:=0) rfl Zx rfl rfl rfl rfl ⟨rfl,rfl⟩) ?_;exact k.1):p:=h ⟨k⟩
theorem QeA (k:q) (h:Wr q→p:=by intro k;refine Zi _ (none) rfl rfl rfl rfl rfl (Zt (cs':=[_,_,_,_,_,_]) rfl ta_92 rfl rfl rfl ⟨rfl,rfl⟩) ?_;exact k.1):p:=h ⟨k⟩
theorem QeB (k:q) (h:Wr q→p:=by intro k;refine Zr rfl rfl (Zp (cs':=[_,_,_,_,_,_]) (i:=0) rfl ts_92 rfl rfl rfl rfl rfl (Wc rfl) rfl ?_);exact k.1):p:=h ⟨k⟩
theorem QeC (k:q) (h:Wr q→p:=by intro k;refine Zb _ rfl rfl rfl (Yb (cs':=[_,_,_,_,_,_]) rfl tz_97 rfl rfl ?_);exact k.1):p:=h ⟨k⟩
theorem QeD (k:q) (h:Wr q→p:=by intro k;refine Zc Tryz.func175 rfl (by kernel_rfl) rfl (Wc rfl) ?_;exact k.1):p:=h ⟨k⟩
theorem QeE (k:q) (h:Wr q→p:=by intro k;refine Zr rfl rfl (Zp (cs':=[_,_,_,_,_]) (i:=0) rfl ts_3 rfl rfl rfl rfl rfl (Wc rfl) rfl ?_);exact k.1):p:=h ⟨k⟩
theorem QeF (k:q) (h:Wr q→p:=by intro k;refine Zr rfl rfl (Zp (cs':=[_,_,_,_,_,_,_,_,_,_,_]) (i:=3) rfl ts_128 rfl rfl rfl rfl rfl (Wc rfl) rfl ?_);exact k.1):p:=h ⟨k⟩
theorem QeG (k:q) (h:Wr q→p:=by intro k;refine Zr rfl rfl (Zp (cs':=[_,_,_,_,_,_,_,_,_,_,_]) (i:=0) rfl ts_3 rfl rfl rfl rfl rfl (Wc rfl) rfl ?_);exact k.1):p:=h ⟨k⟩
theorem QeJ (k:q) (h:Wr q→p:=by intro k;refine Zo _ rfl rfl rfl rfl rfl (op_leq rfl rfl rfl ?_);exact k.1):p:=h ⟨k⟩
theorem QeK (k:q) (h:Wr q→p:=by intro k;(refine Zb _ rfl rfl rfl (Zh (i:=1) rfl te_22 rfl (.seq _ _) rfl rfl (by first|rfl|assumption) ?_));exact k.1):p:=h ⟨k⟩
theorem QeL (k:q) (h:Wr q→p:=by intro k;refine Zb _ rfl rfl rfl (Zh rfl te_37 rfl (.seq _ _) rfl rfl (hcx) ?_);exact k.1):p:=h ⟨k⟩
theorem QeM (k:q) (h:Wr q→p:=by intro k;refine Zb _ rfl rfl rfl (Yb (cs':=[_,_,_,_,_,_]) rfl tz_118 rfl rfl ?_);exact k.1):p:=h ⟨k⟩
theorem QeN (k:q) (h:Wr q→p:=by intro k;refine Zb _ rfl rfl rfl (Zs (cs':=[_,_]) (i:=0) rfl Xf rfl rfl rfl rfl ?_);exact k.1):p:=h ⟨k⟩
theorem QeO (k:q) (h:Wr q→p:=by intro k;refine Zb _ rfl rfl rfl (Zs (cs':=[_,_,_]) (i:=1) rfl ta_41 rfl rfl rfl rfl ?_);exact k.1):p:=h ⟨k⟩
theorem QeP (k:q) (h:Wr q→p:=by intro k;refine Zb _ rfl rfl rfl (op_makeFunc (fs:=[]) (cs:=[.tmp 3,.tmp 4]) rfl rfl rfl ?_);exact k.1):p:=h ⟨k⟩
theorem QeR (k:q) (h:Wr q→p:=by intro k;refine Zi _ (some 3) rfl rfl rfl rfl rfl (Zs (cs':=[_,_,_,_]) (i:=0) rfl Zx rfl rfl rfl rfl ⟨rfl,rfl⟩) ?_;exact k.1):p:=h ⟨k⟩
theorem QeS (k:q) (h:Wr q→p:=by intro k;refine Zo _ rfl rfl rfl rfl rfl (op_sneq rfl rfl rfl ?_);exact k.1):p:=h ⟨k⟩
theorem QeT (k:q) (h:Wr q→p:=by intro k;refine Ye _ rfl rfl rfl rfl (Zt (cs':=[_,_,_,_]) rfl Zx rfl rfl rfl ⟨rfl,rfl⟩) ?_;exact k.1):p:=h ⟨k⟩
theorem QeU (k:q) (h:Wr q→p:=by intro k;refine Zb _ rfl rfl rfl (Zh rfl te_65 rfl (.seq _ _) rfl rfl by14 ?_);exact k.1):p:=h ⟨k⟩
theorem QeV (k:q) (h:Wr q→p:=by intro k;refine Zi _ (none) rfl rfl rfl rfl rfl (op_pick rfl rfl rfl ⟨rfl,rfl⟩) ?_;exact k.1):p:=h ⟨k⟩
theorem QeW (k:q) (h:Wr q→p:=by intro k;refine Zo _ rfl rfl rfl rfl rfl (op_lm1 (i:=2) rfl rfl rfl rfl rfl ?_);exact k.1):p:=h ⟨k⟩
theorem QeX (k:q) (h:Wr q→p:=by intro k;refine Zb _ rfl rfl rfl (Zt (cs':=[_,_,_,_,_,_]) rfl ta_97 rfl rfl rfl ?_);exact k.1):p:=h ⟨k⟩
theorem QeY (k:q) (h:Wr q→p:=by intro k;refine Zo _ rfl rfl rfl rfl rfl (Zs (cs':=[_,_,_]) (i:=1) rfl ta_41 rfl rfl rfl rfl ?_);exact k.1):p:=h ⟨k⟩
theorem QeZ (k:q) (h:Wr q→p:=by intro k;refine Zr rfl rfl (Zp (i:=0) rfl ts_3 rfl rfl rfl rfl rfl (Wc rfl) rfl ?_);exact k.1):p:=h ⟨k⟩
theorem Qe0 (k:q) (h:Wr q→p:=by intro k;refine Zb _ rfl rfl rfl (op_field1 (ft:=9) (fo:=1) rfl (by kernel_rfl) ta_9 rfl rfl ?_);exact k.1):p:=h ⟨k⟩
theorem Qe1 (k:q) (h:Wr q→p:=by intro k;refine Zr rfl rfl (Zp (cs':=[_,_,_,_,_]) (i:=2) rfl ts_67 rfl rfl rfl rfl rfl (Wc rfl) rfl ?_);exact k.1):p:=h ⟨k⟩
theorem Qe2 (k:q) (h:Wr q→p:=by intro k;refine Zb _ rfl rfl rfl (Zs (cs':=[_,_,_,_,_,_,_,_,_,_,_]) (i:=2) rfl Xg rfl rfl rfl rfl ?_);exact k.1):p:=h ⟨k⟩
theorem Qe3 (k:q) (h:Wr q→p:=by intro k;refine Yc 0 rfl rfl rfl rfl rfl (Zp (cs':=[_,_,_,_,_,_,_,_,_,_,_]) (i:=0) rfl ts_125 rfl rfl rfl rfl rfl (Wc rfl) rfl ⟨_,rfl,?_⟩);exact k.1):p:=h ⟨k⟩
theorem Qe4 (k:q) (h:Wr q→p:=by intro k;refine Zc Tryz.func161 rfl (by kernel_rfl) rfl (Wc rfl) ?_;exact k.1):p:=h ⟨k⟩
theorem Qe5 (k:q) (h:Wr q→p:=by intro k;refine Zr rfl rfl (Zp (cs':=[_,_,_,_,_,_,_,_,_,_,_]) (i:=1) rfl ts_128 rfl rfl rfl rfl rfl (Wc rfl) rfl ?_);exact k.1):p:=h ⟨k⟩
theorem Qe6 (k:q) (h:Wr q→p:=by intro k;refine Zb _ rfl rfl rfl (Zs (cs':=[_,_,_,_,_,_,_,_,_]) (i:=2) rfl ta_187 rfl rfl rfl rfl ?_);exact k.1):p:=h ⟨k⟩
theorem Qe7 (k:q) (h:Wr q→p:=by intro k;refine Zb _ rfl rfl rfl (Zf (xs:=[.tmp 48]) el_90 rfl rfl rfl rfl rfl rfl (Wc rfl) ?_);exact k.1):p:=h ⟨k⟩
theorem Qe8 (k:q) (h:Wr q→p:=by intro k;(refine Zb _ rfl rfl rfl (Zv (i:=1) el_90 rfl rfl rfl rfl (.seq _ _) by7 ?_));exact k.1):p:=h ⟨k⟩
theorem Qfg (k:q) (h:Wr q→p:=by intro k;refine Zb _ rfl rfl rfl (Zh rfl te_44 rfl (.seq _ _) rfl rfl by14 ?_);exact k.1):p:=h ⟨k⟩
theorem Qfh (k:q) (h:Wr q→p:=by intro k;refine Zo _ rfl rfl rfl rfl rfl (op_len_str rfl tu_9 rfl ?_);exact k.1):p:=h ⟨k⟩
theorem Qfi (k:q) (h:Wr q→p:=by intro k;refine Zr rfl rfl (Zp (cs':=[_,_,_,_]) (i:=0) rfl ts_9 rfl rfl rfl rfl rfl (Wc rfl) rfl ?_);exact k.1):p:=h ⟨k⟩
theorem Qfj (k:q) (h:Wr q→p:=by intro k;refine Zb _ rfl rfl rfl (Yv rfl tu_9 rfl rfl rfl (hb') ?_);exact k.1):p:=h ⟨k⟩
theorem Qfk (k:q) (h:Wr q→p:=by intro k;refine Zb _ rfl rfl rfl (op_substr rfl tu_9 rfl rfl rfl (i:=F) (j:=n) rfl rfl by17 by17 ?_);exact k.1):p:=h ⟨k⟩
theorem Qfl (k:q) (h:Wr q→p:=by intro k;refine Zb _ rfl rfl rfl (Yw rfl tu_26 rfl (.seq _ _) ?_);exact k.1):p:=h ⟨k⟩
theorem Qfm (k:q) (h:Wr q→p:=by intro k;refine Zb _ rfl rfl rfl (op_boxc (cs':=[_,_,_,_,_,_,_,_,_,_,_,_,_,_,_,_]) rfl rfl rfl rfl ?_);exact k.1):p:=h ⟨k⟩
theorem Qfn (k:q) (h:Wr q→p:=by intro k;(refine Zb _ rfl rfl rfl (Zh (i:=0) rfl te_22 rfl (.seq _ _) rfl rfl (by first|rfl|assumption) ?_));exact k.1):p:=h ⟨k⟩
theorem Qfo (k:q) (h:Wr q→p:=by intro k;refine Zb _ rfl rfl rfl (Yw rfl tu_39 rfl (.seq _ _) ?_);exact k.1):p:=h ⟨k⟩
theorem Qfp (k:q) (h:Wr q→p:=by intro k;refine Zb _ rfl rfl rfl (Zh rfl te_44 rfl (.seq _ _) rfl rfl (hcs) ?_);exact k.1):p:=h ⟨k⟩
theorem Qfq (k:q) (h:Wr q→p:=by intro k;refine Zi _ (none) rfl rfl rfl rfl rfl (Zh rfl te_44 rfl (.seq _ _) rfl rfl (hcs) ⟨rfl,rfl⟩) ?_;exact k.1):p:=h ⟨k⟩
theorem Qfr (k:q) (h:Wr q→p:=by intro k;refine Zb _ rfl rfl rfl (Yw rfl tu_79 rfl (.seq _ _) ?_);exact k.1):p:=h ⟨k⟩
theorem Qfs (k:q) (h:Wr q→p:=by intro k;refine Zq _ rfl rfl (Zh rfl te_79 rfl (.seq _ _) rfl rfl (hcx) ⟨rfl,rfl⟩) ?_;exact k.1):p:=h ⟨k⟩
theorem Qft (k:q) (h:Wr q→p:=by intro k;refine Zb _ rfl rfl rfl (Yw rfl tu_112 rfl (.seq _ _) ?_);exact k.1):p:=h ⟨k⟩
theorem Qfu (k:q) (h:Wr q→p:=by intro k;refine Zq _ rfl rfl (Zh rfl te_44 rfl (.seq _ _) rfl rfl (hcs) ⟨rfl,rfl⟩) ?_;exact k.1):p:=h ⟨k⟩
theorem Qfv (k:q) (h:Wr q→p:=by intro k;refine Zr rfl rfl (Zp (cs':=[_,_,_,_,_,_]) (i:=0) rfl ts_118 rfl rfl rfl rfl rfl (Wc rfl) rfl ?_);exact k.1):p:=h ⟨k⟩
theorem Qfw (k:q) (h:Wr q→p:=by intro k;refine Zo _ rfl rfl rfl rfl rfl (Zs (cs':=[_,_,_,_]) (i:=0) rfl Zx rfl rfl rfl rfl ?_);exact k.1):p:=h ⟨k⟩
theorem Qfx (k:q) (h:Wr q→p:=by intro k;refine Zo _ rfl rfl rfl rfl rfl (Yw rfl tu_44 rfl (.seq _ _) ?_);exact k.1):p:=h ⟨k⟩
theorem Qfy (k:q) (h:Wr q→p:=by intro k;refine Zq _ rfl rfl (Yw rfl tu_22 rfl (.seq _ _) (fun _=>⟨rfl,rfl⟩)) ?_;exact k.1):p:=h ⟨k⟩
theorem Qfz (k:q) (h:Wr q→p:=by intro k;refine Zb _ rfl rfl rfl (Zt (cs':=[_,_,_,_,_,_,_,_]) rfl ta_122 rfl rfl rfl ?_);exact k.1):p:=h ⟨k⟩
theorem QfA (k:q) (h:Wr q→p:=by intro k;refine Zb _ rfl rfl rfl (Yw rfl tu_120 rfl (.seq _ _) ?_);exact k.1):p:=h ⟨k⟩
theorem QfB (k:q) (h:Wr q→p:=by intro k;refine Zb _ rfl rfl rfl (Yb (cs':=[_,_,_,_,_,_,_,_]) rfl tz_122 rfl rfl ?_);exact k.1):p:=h ⟨k⟩
theorem QfC (k:q) (h:Wr q→p:=by intro k;refine Ye _ rfl rfl rfl rfl (Zt (cs':=[_,_,_]) rfl ta_41 rfl rfl rfl ⟨rfl,rfl⟩) ?_;exact k.1):p:=h ⟨k⟩
theorem QfD (k:q) (h:Wr q→p:=by intro k;refine Zb _ rfl rfl rfl (Yb (cs':=[_,_,_]) rfl tz_41 rfl rfl ?_);exact k.1):p:=h ⟨k⟩
theorem QfE (k:q) (h:Wr q→p:=by intro k;refine Zr rfl rfl (Zp (cs':=[_,_,_]) (i:=0) rfl ts_41 rfl rfl rfl rfl rfl (Wc rfl) rfl ?_);exact k.1):p:=h ⟨k⟩
theorem QfF (k:q) (h:Wr q→p:=by intro k;refine Zb _ rfl rfl rfl (Zs (cs':=[_,_,_]) (i:=0) rfl ta_41 rfl rfl rfl rfl ?_);exact k.1):p:=h ⟨k⟩
theorem QfG (k:q) (h:Wr q→p:=by intro k;refine Zb _ rfl rfl rfl (op_max rfl rfl rfl ?_);exact k.1):p:=h ⟨k⟩
theorem QfH (k:q) (h:Wr q→p:=by intro k;refine Zb _ rfl rfl rfl (Zh rfl te_37 rfl (.seq _ _) rfl rfl (hcq) ?_);exact k.1):p:=h ⟨k⟩
theorem QfI (k:q) (h:Wr q→p:=by intro k;refine Zo _ rfl rfl rfl rfl rfl (op_lm1 (i:=3) rfl rfl rfl rfl rfl ?_);exact k.1):p:=h ⟨k⟩
theorem QfJ (k:q) (h:Wr q→p:=by intro k;refine Zb _ rfl rfl rfl (Zh rfl te_44 rfl (.seq _ _) rfl rfl (hcx) ?_);exact k.1):p:=h ⟨k⟩
theorem QfK (k:q) (h:Wr q→p:=by intro k;refine Zb _ rfl rfl rfl (Zh rfl te_37 rfl (.seq _ _) rfl rfl (hci) ?_);exact k.1):p:=h ⟨k⟩
theorem QfL (k:q) (h:Wr q→p:=by intro k;refine Zq _ rfl rfl (Yw rfl tu_44 rfl (.seq _ _) (fun _=>⟨rfl,rfl⟩)) ?_;exact k.1):p:=h ⟨k⟩
theorem QfM (k:q) (h:Wr q→p:=by intro k;refine Ye _ rfl rfl rfl rfl (Zt (cs':=[_,_,_,_,_,_]) rfl ta_92 rfl rfl rfl ⟨rfl,rfl⟩) ?_;exact k.1):p:=h ⟨k⟩
theorem QfN (k:q) (h:Wr q→p:=by intro k;refine Zo _ rfl rfl rfl rfl rfl (Yw rfl tu_90 rfl (.seq _ _) ?_);exact k.1):p:=h ⟨k⟩
theorem QfO (k:q) (h:Wr q→p:=by intro k;refine Zb _ rfl rfl rfl (Zh rfl te_38 rfl (.seq _ _) rfl rfl (hcy) ?_);exact k.1):p:=h ⟨k⟩
theorem QfP (k:q) (h:Wr q→p:=by intro k;refine Zb _ rfl rfl rfl (op_sadd rfl rfl rfl by17 ?_);exact k.1):p:=h ⟨k⟩
theorem QfR (k:q) (h:Wr q→p:=by intro k;refine Zo _ rfl rfl rfl rfl rfl (Zt (cs':=[_,_,_,_,_,_]) rfl ta_92 rfl rfl rfl ?_);exact k.1):p:=h ⟨k⟩
theorem QfS (k:q) (h:Wr q→p:=by intro k;refine Zo _ rfl rfl rfl rfl rfl (Zt (cs':=[_,_,_,_,_,_,_,_,_,_,_,_,_,_,_,_,_]) rfl ta_46 rfl rfl rfl ?_);exact k.1):p:=h ⟨k⟩
theorem QfT (k:q) (h:Wr q→p:=by intro k;refine Zc Tryz.func90 rfl (by kernel_rfl) rfl (Wc rfl) ?_;exact k.1):p:=h ⟨k⟩
theorem QfU (k:q) (h:Wr q→p:=by intro k;refine Zb _ rfl rfl rfl (Zh rfl te_27 rfl (.seq _ _) rfl rfl (hcz) ?_);exact k.1):p:=h ⟨k⟩
theorem QfV (k:q) (h:Wr q→p:=by intro k;refine Zo _ rfl rfl rfl rfl rfl (Zt (cs':=[_,_,_,_,_,_]) rfl ta_97 rfl rfl rfl ?_);exact k.1):p:=h ⟨k⟩
theorem QfW (k:q) (h:Wr q→p:=by intro k;(refine Ye _ rfl rfl rfl rfl (Zh (i:=I.toNat) rfl te_37 rfl (.seq _ _) rfl by11 (by first|exact Da.cellss_get (HF (by first|assumption|omega|grind)).1|exact Cn.cellss_get (HF (by first|assumption|omega|grind)).2.1) ⟨rfl,rfl⟩) ?_);exact k.1):p:=h ⟨k⟩
theorem QfX (k:q) (h:Wr q→p:=by intro k;refine Zr rfl rfl (Zp (cs':=[_,_,_,_,_,_]) (i:=0) rfl ts_97 rfl rfl rfl rfl rfl (Wc rfl) rfl ?_);exact k.1):p:=h ⟨k⟩
theorem QfY (k:q) (h:Wr q→p:=by intro k;refine Zo _ rfl rfl rfl rfl rfl (Zs (cs':=[_,_,_,_,_,_,_,_,_,_,_,_,_,_,_,_,_]) (i:=0) rfl ta_46 rfl rfl rfl rfl ?_);exact k.1):p:=h ⟨k⟩
theorem QfZ (k:q) (h:Wr q→p:=by intro k;refine Zr rfl rfl (Zp (cs':=[_,_,_,_,_]) (i:=0) rfl ts_9 rfl rfl rfl rfl rfl (Wc rfl) rfl ?_);exact k.1):p:=h ⟨k⟩
theorem Qf0 (k:q) (h:Wr q→p:=by intro k;refine Zc Tryz.func214 rfl (by kernel_rfl) rfl (Wc rfl) ?_;exact k.1):p:=h ⟨k⟩
theorem Qf1 (k:q) (h:Wr q→p:=by intro k;refine Zb _ rfl rfl rfl (Zs (cs':=[_,_,_,_,_,_,_,_,_,_,_]) (i:=1) rfl Xg rfl rfl rfl rfl ?_);exact k.1):p:=h ⟨k⟩
theorem Qf2 (k:q) (h:Wr q→p:=by intro k;refine Zc Tryz.func199 rfl (by kernel_rfl) rfl (Wc rfl) ?_;exact k.1):p:=h ⟨k⟩
theorem Qf3 (k:q) (h:Wr q→p:=by intro k;refine Zb _ rfl rfl rfl (Zm (ns:=[7]) (xs:=[.tmp 12]) rfl tz_128 rfl tfl_128 rfl rfl rfl rfl ?_);exact k.1):p:=h ⟨k⟩
theorem Qf4 (k:q) (h:Wr q→p:=by intro k;refine Zr rfl rfl (Zp (cs':=[_,_,_,_,_,_,_,_,_,_,_]) (i:=0) rfl ts_9 rfl rfl rfl rfl rfl (Wc rfl) rfl ?_);exact k.1):p:=h ⟨k⟩
theorem Qf5 (k:q) (h:Wr q→p:=by intro k;refine Zo _ rfl rfl rfl rfl rfl (op_nilCheck_m rfl rfl ?_);exact k.1):p:=h ⟨k⟩
theorem Qf6 (k:q) (h:Wr q→p:=by intro k;refine Zb _ rfl rfl rfl (Zm (ns:=[]) (xs:=[]) rfl tz_128 rfl tfl_128 rfl rfl rfl rfl ?_);exact k.1):p:=h ⟨k⟩
theorem Qf7 (k:q) (h:Wr q→p:=by intro k;refine Zb _ rfl rfl rfl (Yb (cs':=[_,_,_,_]) rfl tz_81 rfl rfl ?_);exact k.1):p:=h ⟨k⟩
theorem Qf8 (k:q) (h:Wr q→p:=by intro k;refine Zb _ rfl rfl rfl (Zm (ns:=[]) (xs:=[]) rfl tz_41 rfl tfl_41 rfl rfl rfl rfl ?_);exact k.1):p:=h ⟨k⟩
theorem Qf9 (k:q) (h:Wr q→p:=by intro k;refine Zo _ rfl rfl rfl rfl rfl (Yw rfl tu_27 rfl (.seq _ _) ?_);exact k.1):p:=h ⟨k⟩
theorem Qga (k:q) (h:Wr q→p:=by intro k;refine Zo _ rfl rfl rfl rfl rfl (Zs (cs':=[_]) (i:=4) rfl ta_36 rfl rfl rfl rfl ?_);exact k.1):p:=h ⟨k⟩
theorem Qgb (k:q) (h:Wr q→p:=by intro k;refine Zo _ rfl rfl rfl rfl rfl (op_beqlc rfl tu_4 rfl rfl ?_);exact k.1):p:=h ⟨k⟩
theorem Qgd (k:q) (h:Wr q→p:=by intro k;refine Zq _ rfl rfl (Zh rfl te_22 rfl (.seq _ _) rfl rfl by14 ⟨rfl,rfl⟩) ?_;exact k.1):p:=h ⟨k⟩
theorem Qge (k:q) (h:Wr q→p:=by intro k;refine Zb _ rfl rfl rfl (op_convert rfl tu_5 tu_3 rfl (IntWalk.i64_in _ by17) ?_);exact k.1):p:=h ⟨k⟩
theorem Qgf (k:q) (h:Wr q→p:=by intro k;refine Zo _ rfl rfl rfl rfl rfl (op_add rfl rfl rfl (IntWalk.i64_in _ by17) ?_);exact k.1):p:=h ⟨k⟩
theorem Qgg (k:q) (h:Wr q→p:=by intro k;(refine Zo _ rfl rfl rfl rfl rfl (Yv (i:=0) rfl tu_9 rfl rfl by11 (hz0) ?_));exact k.1):p:=h ⟨k⟩
theorem Qgh (k:q) (h:Wr q→p:=by intro k;refine Zb _ rfl rfl rfl (Zf (xs:=[.tmp 5,.tmp 6]) Xj rfl rfl rfl rfl rfl rfl (Wc rfl) ?_);exact k.1):p:=h ⟨k⟩
theorem Qgi (k:q) (h:Wr q→p:=by intro k;(refine Zb _ rfl rfl rfl (Zv (i:=0) Xj rfl rfl rfl rfl (.seq _ _) by7 ?_));exact k.1):p:=h ⟨k⟩
theorem Qgj (k:q) (h:Wr q→p:=by intro k;refine Zb _ rfl rfl rfl (Zt (cs':=[_,_,_,_,_,_,_,_,_,_,_,_,_,_,_,_]) rfl ta_69 rfl rfl rfl ?_);exact k.1):p:=h ⟨k⟩
theorem Qgk (k:q) (h:Wr q→p:=by intro k;refine Zb _ rfl rfl rfl (Zf (xs:=[.tmp 11]) Xj rfl rfl rfl rfl rfl rfl (Wc rfl) ?_);exact k.1):p:=h ⟨k⟩
theorem Qgl (k:q) (h:Wr q→p:=by intro k;(refine Zb _ rfl rfl rfl (Zv (i:=0) Xj rfl rfl rfl rfl (.seq _ _) (by simp [Ty.cellss_len];omega) ?_));exact k.1):p:=h ⟨k⟩
theorem Qgm (k:q) (h:Wr q→p:=by intro k;refine Zr rfl rfl (Zp (cs':=[_,_,_]) (i:=0) rfl ts_163 rfl rfl rfl rfl rfl (Wc rfl) rfl ?_);exact k.1):p:=h ⟨k⟩
theorem Qgn (k:q) (h:Wr q→p:=by intro k;(refine Zb _ rfl rfl rfl (Zv (i:=3) Yy rfl rfl rfl rfl (.seq _ _) by7 ?_));exact k.1):p:=h ⟨k⟩
theorem Qgo (k:q) (h:Wr q→p:=by intro k;refine Zq _ rfl rfl (op_cuth rfl te_44 rfl (.seq _ _) rfl rfl by17 ⟨rfl,rfl⟩) ?_;exact k.1):p:=h ⟨k⟩
theorem Qgp (k:q) (h:Wr q→p:=by intro k;refine Zb _ rfl rfl rfl (Zt (cs':=[_,_,_,_,_,_]) rfl ta_168 rfl rfl rfl ?_);exact k.1):p:=h ⟨k⟩
theorem Qgq (k:q) (h:Wr q→p:=by intro k;refine Zb _ rfl rfl rfl (Yb (cs':=[_,_,_,_,_,_]) rfl tz_168 rfl rfl ?_);exact k.1):p:=h ⟨k⟩
theorem Qgr (k:q) (h:Wr q→p:=by intro k;refine Zr rfl rfl (Zp (cs':=[_,_,_,_,_,_]) (i:=0) rfl ts_168 rfl rfl rfl rfl rfl (Wc rfl) rfl ?_);exact k.1):p:=h ⟨k⟩
theorem Qgs (k:q) (h:Wr q→p:=by intro k;refine Zq _ rfl rfl (Zh rfl te_38 rfl (.seq _ _) rfl rfl (hcx) ⟨rfl,rfl⟩) ?_;exact k.1):p:=h ⟨k⟩
theorem Qgt (k:q) (h:Wr q→p:=by intro k;refine Ye _ rfl rfl rfl rfl (Zt (cs':=[_,_,_,_,_,_,_,_]) rfl ta_122 rfl rfl rfl ⟨rfl,rfl⟩) ?_;exact k.1):p:=h ⟨k⟩
theorem Qgu (k:q) (h:Wr q→p:=by intro k;refine Zr rfl rfl (Zp (cs':=[_,_,_,_,_,_,_,_]) (i:=0) rfl ts_122 rfl rfl rfl rfl rfl (Wc rfl) rfl ?_);exact k.1):p:=h ⟨k⟩
theorem Qgv (k:q) (h:Wr q→p:=by intro k;refine Zb _ rfl rfl rfl (Zs (cs':=[_,_,_,_,_,_,_,_]) (i:=0) rfl ta_122 rfl rfl rfl rfl ?_);exact k.1):p:=h ⟨k⟩
theorem Qgw (k:q) (h:Wr q→p:=by intro k;(refine Zi _ (none) rfl rfl rfl rfl rfl (Zh (i:=ci.toNat) rfl te_38 rfl (.seq _ _) rfl by11 (hcc2) ⟨rfl,rfl⟩) ?_);exact k.1):p:=h ⟨k⟩
theorem Qgx (k:q) (h:Wr q→p:=by intro k;refine Ye _ rfl rfl rfl rfl (Zh rfl te_120 rfl (.seq _ _) rfl rfl (hcp) ⟨rfl,rfl⟩) ?_;exact k.1):p:=h ⟨k⟩
theorem Qgy (k:q) (h:Wr q→p:=by intro k;refine Zq _ rfl rfl (Zs (cs':=[_,_,_]) (i:=1) rfl ta_41 rfl rfl rfl rfl ⟨rfl,rfl⟩) ?_;exact k.1):p:=h ⟨k⟩
theorem Qgz (k:q) (h:Wr q→p:=by intro k;(refine Zb _ rfl rfl rfl (Zv (i:=0) el_27 rfl rfl rfl rfl (.seq _ _) by7 ?_));exact k.1):p:=h ⟨k⟩
theorem QgA (k:q) (h:Wr q→p:=by intro k;refine Zb _ rfl rfl rfl (Zs (cs':=[_,_,_,_,_,_]) (i:=2) rfl ta_92 rfl rfl rfl rfl ?_);exact k.1):p:=h ⟨k⟩
theorem QgB (k:q) (h:Wr q→p:=by intro k;refine Zr rfl rfl (Zp (cs':=[_,_,_,_,_,_]) (i:=1) rfl ts_92 rfl rfl rfl rfl rfl (Wc rfl) rfl ?_);exact k.1):p:=h ⟨k⟩
theorem QgC (k:q) (h:Wr q→p:=by intro k;refine Zi _ (none) rfl rfl rfl rfl rfl (op_add rfl rfl rfl (IntWalk.i64_in _ by17) ⟨rfl,rfl⟩) ?_;exact k.1):p:=h ⟨k⟩
theorem QgD (k:q) (h:Wr q→p:=by intro k;refine Ye _ rfl rfl rfl rfl (Zh rfl te_112 rfl (.seq _ _) rfl rfl (hcj) ⟨rfl,rfl⟩) ?_;exact k.1):p:=h ⟨k⟩
theorem QgE (k:q) (h:Wr q→p:=by intro k;(refine Zb _ rfl rfl rfl (Zh (i:=(m - 1).toNat) rfl te_90 rfl (.seq _ _) rfl by11 (hcq) ?_));exact k.1):p:=h ⟨k⟩
theorem QgF (k:q) (h:Wr q→p:=by intro k;refine Zq _ rfl rfl (Zt (cs':=[_,_,_,_,_,_]) rfl ta_92 rfl rfl rfl ⟨rfl,rfl⟩) ?_;exact k.1):p:=h ⟨k⟩
theorem QgG (k:q) (h:Wr q→p:=by intro k;refine Zq _ rfl rfl (Zh rfl te_22 rfl (.seq _ _) rfl rfl (hcu) ⟨rfl,rfl⟩) ?_;exact k.1):p:=h ⟨k⟩
theorem QgH (k:q) (h:Wr q→p:=by intro k;(refine Zb _ rfl rfl rfl (Zh (i:=m.toNat) rfl te_22 rfl (.seq _ _) rfl by11 (Ty.cellss_get hy) ?_));exact k.1):p:=h ⟨k⟩
theorem QgI (k:q) (h:Wr q→p:=by intro k;refine Yh [0,1,2,3,4,5,6,7,8,9,10,11,12,13,14,15,16,17,18] [16,17] [[],[],[1],[],[3],[1,2,3,4],[1,2,3,4,5],[0,1,2,3,4,5,6],[],[8],[8,9],[8,9,10],[0,1,2,3,4,5,6,7,8,9,10,11],[0,1,2,3,4,5,6,7,8,9,10,11,12],[0,1,2,3,4,5,6,7,8,9,10,11,12,13],[0,1,2,3,4,5,6,7,8,9,10,11,12,13],[],[0,1,2,3,4,5,6,7,8,9,10,11,12,13,14,16],[0,1,2,3,4,5,6,7,8,9,10,11,12,13,14,15,16,17]] Yx rfl ?_;exact k.1):p:=h ⟨k⟩
theorem QgJ (k:q) (h:Wr q→p:=by intro k;refine Zi _ (none) rfl rfl rfl rfl rfl (Zh rfl te_25 rfl (.seq _ _) rfl rfl (hcf) ⟨rfl,rfl⟩) ?_;exact k.1):p:=h ⟨k⟩
theorem QgK (k:q) (h:Wr q→p:=by intro k;refine Ye _ rfl rfl rfl rfl (Zt (cs':=[_,_,_,_,_,_,_,_,_,_,_]) rfl ta_29 rfl rfl rfl ⟨rfl,rfl⟩) ?_;exact k.1):p:=h ⟨k⟩
theorem QgL (k:q) (h:Wr q→p:=by intro k;(refine Zb _ rfl rfl rfl (Zv (i:=2) Yy rfl rfl rfl rfl (.own _ _ _) (by rw [Ya,Ya,List.length_append];omega) ?_));exact k.1):p:=h ⟨k⟩
theorem QgM (k:q) (h:Wr q→p:=by intro k;(refine Zb _ rfl rfl rfl (Zv (i:=1) Yy rfl rfl rfl rfl (.own _ _ _) (by rw [Ya,Ya,List.length_append];omega) ?_));exact k.1):p:=h ⟨k⟩
theorem QgN (k:q) (h:Wr q→p:=by intro k;refine Zc Tryz.func152 rfl (by kernel_rfl) rfl (Wc rfl) ?_;exact k.1):p:=h ⟨k⟩
theorem QgO (k:q) (h:Wr q→p:=by intro k;refine Zb _ rfl rfl rfl (Zf (xs:=[.tmp 26]) el_27 rfl rfl rfl rfl rfl rfl (Wc rfl) ?_);exact k.1):p:=h ⟨k⟩
theorem QgP (k:q) (h:Wr q→p:=by intro k;refine Ye _ rfl rfl rfl rfl (Yw rfl tu_44 rfl (.seq _ _) (fun _=>⟨rfl,rfl⟩)) ?_;exact k.1):p:=h ⟨k⟩
theorem QgR (k:q) (h:Wr q→p:=by intro k;refine Zo _ rfl rfl rfl rfl rfl (Zs (cs':=[_,_,_,_,_,_]) (i:=0) rfl ta_92 rfl rfl rfl rfl ?_);exact k.1):p:=h ⟨k⟩
theorem QgS (k:q) (h:Wr q→p:=by intro k;refine Zo _ rfl rfl rfl rfl rfl (Zt (cs':=[_,_,_,_,_,_,_,_,_,_,_]) rfl ta_29 rfl rfl rfl ?_);exact k.1):p:=h ⟨k⟩
theorem QgT (k:q) (h:Wr q→p:=by intro k;refine Yh [0,1,2,3,4,5,6,7,8,9] [8] [[],[],[1],[1,2],[1,2,3],[0,1,2,3,4],[0,1,2,3,4,5],[0,1,2,3,4,5],[0,1,2,3,4,5,6,7],[0,1,2,3,4,5,6,7,8]] Yx rfl ?_;exact k.1):p:=h ⟨k⟩
theorem QgU (k:q) (h:Wr q→p:=by intro k;refine Zc Tryz.func151 rfl (by kernel_rfl) rfl (Wc rfl) ?_;exact k.1):p:=h ⟨k⟩
theorem QgV (k:q) (h:Wr q→p:=by intro k;refine Yh [0,1,2,3,4,5,6,7,8,9,10] [9] [[],[0],[],[2],[2,3],[2,3,4],[2,3],[2,3,4,5,6],[2,3,4,5,6,7],[0,1,2,3,4,5,6,7],[0,1,2,3,4,5,6,7,8,9]] Yx rfl ?_;exact k.1):p:=h ⟨k⟩
theorem QgW (k:q) (h:Wr q→p:=by intro k;refine Zq _ rfl rfl (Zh rfl te_27 rfl (.seq _ _) rfl rfl (hcq) ⟨rfl,rfl⟩) ?_;exact k.1):p:=h ⟨k⟩
theorem QgX (k:q) (h:Wr q→p:=by intro k;refine Zq _ rfl rfl (Zt (cs':=[_,_,_,_,_,_,_,_,_,_,_]) rfl ta_29 rfl rfl rfl ⟨rfl,rfl⟩) ?_;exact k.1):p:=h ⟨k⟩
theorem QgY (k:q) (h:Wr q→p:=by intro k;refine Zq _ rfl rfl (op_sub rfl rfl rfl (IntWalk.i64_in _ by17) ⟨rfl,rfl⟩) ?_;exact k.1):p:=h ⟨k⟩
theorem QgZ (k:q) (h:Wr q→p:=by intro k;refine Zq _ rfl rfl (Zh rfl te_26 rfl (.seq _ _) rfl rfl (hcq) ⟨rfl,rfl⟩) ?_;exact k.1):p:=h ⟨k⟩
theorem Qg0 (k:q) (h:Wr q→p:=by intro k;refine Zq _ rfl rfl (Zh rfl te_22 rfl (.seq _ _) rfl rfl (hcq) ⟨rfl,rfl⟩) ?_;exact k.1):p:=h ⟨k⟩
theorem Qg1 (k:q) (h:Wr q→p:=by intro k;refine Zb _ rfl rfl rfl (Zf (xs:=[.tmp 51]) Xj rfl rfl rfl rfl rfl rfl (Wc rfl) ?_);exact k.1):p:=h ⟨k⟩
theorem Qg2 (k:q) (h:Wr q→p:=by intro k;(refine Zb _ rfl rfl rfl (Zv (i:=0) Xj rfl rfl rfl rfl (.seq _ _) (by simp [Ty.cellss_len,Ty.turns_len];omega) ?_));exact k.1):p:=h ⟨k⟩
theorem Qg3 (k:q) (h:Wr q→p:=by intro k;refine Zc Tryz.func137 rfl (by kernel_rfl) rfl (Wc rfl) ?_;exact k.1):p:=h ⟨k⟩
theorem Qg4 (k:q) (h:Wr q→p:=by intro k;refine Ye _ rfl rfl rfl rfl (Zs (cs':=[_,_,_,_]) (i:=0) rfl Zx rfl rfl rfl rfl ⟨rfl,rfl⟩) ?_;exact k.1):p:=h ⟨k⟩
theorem Qg5 (k:q) (h:Wr q→p:=by intro k;refine Zq _ rfl rfl (Zh rfl te_44 rfl (.seq _ _) rfl rfl (hcx) ⟨rfl,rfl⟩) ?_;exact k.1):p:=h ⟨k⟩
theorem Qg6 (k:q) (h:Wr q→p:=by intro k;refine Zi _ (none) rfl rfl rfl rfl rfl (Zh rfl te_226 rfl (.seq _ _) rfl rfl (hcq) ⟨rfl,rfl⟩) ?_;exact k.1):p:=h ⟨k⟩
theorem Qg7 (k:q) (h:Wr q→p:=by intro k;refine Zc Tryz.func206 rfl (by kernel_rfl) rfl (Wc rfl) ?_;exact k.1):p:=h ⟨k⟩
theorem Qg8 (k:q) (h:Wr q→p:=by intro k;(refine Zb _ rfl rfl rfl (Zh rfl te_37 rfl (.seq _ _) rfl rfl (by first|exact hci|exact hcj) ?_));exact k.1):p:=h ⟨k⟩
theorem Qg9 (k:q) (h:Wr q→p:=by intro k;(refine Zb _ rfl rfl rfl (Zh rfl te_112 rfl (.seq _ _) rfl rfl (by first|exact hci|exact hcj) ?_));exact k.1):p:=h ⟨k⟩
theorem Qha (k:q) (h:Wr q→p:=by intro k;refine Ye _ rfl rfl rfl rfl (Zt (cs':=[_,_,_,_,_,_]) rfl ta_97 rfl rfl rfl ⟨rfl,rfl⟩) ?_;exact k.1):p:=h ⟨k⟩
theorem Qhb (k:q) (h:Wr q→p:=by intro k;refine Yc 3 rfl rfl rfl rfl rfl (Zp (cs':=[_,_,_,_]) (i:=0) rfl ts_24 rfl rfl rfl rfl rfl (Wc rfl) rfl ⟨_,rfl,?_⟩);exact k.1):p:=h ⟨k⟩
theorem Qhc (k:q) (h:Wr q→p:=by intro k;refine Zb _ rfl rfl rfl (Zm (ns:=[]) (xs:=[]) rfl tz_109 rfl tfl_109 rfl rfl rfl rfl ?_);exact k.1):p:=h ⟨k⟩
theorem Qhd (k:q) (h:Wr q→p:=by intro k;refine Zc Tryz.func104 rfl (by kernel_rfl) rfl (Wc rfl) ?_;exact k.1):p:=h ⟨k⟩
theorem Qhe (k:q) (h:Wr q→p:=by intro k;refine Zc Tryz.func217 rfl (by kernel_rfl) rfl (Wc rfl) ?_;exact k.1):p:=h ⟨k⟩
theorem Qhf (k:q) (h:Wr q→p:=by intro k;refine Zb _ rfl rfl rfl (Zm (ns:=[4]) (xs:=[.tmp 8]) rfl tz_67 rfl tfl_67 rfl rfl rfl rfl ?_);exact k.1):p:=h ⟨k⟩
theorem Qhg (k:q) (h:Wr q→p:=by intro k;refine Zr rfl rfl (Zp (cs':=[_,_,_,_,_]) (i:=1) rfl ts_67 rfl rfl rfl rfl rfl (Wc rfl) rfl ?_);exact k.1):p:=h ⟨k⟩
theorem Qhh (k:q) (h:Wr q→p:=by intro k;(refine Zo _ rfl rfl rfl rfl rfl (Zh (i:=(j - 1)) rfl te_44 rfl (.seq _ _) rfl by11 (strs_at (ops:=ops) (i:=j - 1) by17) ?_));exact k.1):p:=h ⟨k⟩
theorem Qhi (k:q) (h:Wr q→p:=by intro k;refine Zc Tryz.func163 rfl (by kernel_rfl) rfl (Wc rfl) ?_;exact k.1):p:=h ⟨k⟩
theorem Qhj (k:q) (h:Wr q→p:=by intro k;refine Zr rfl rfl (Zp (cs':=[_,_,_,_,_,_,_,_,_,_,_]) (i:=4) rfl ts_128 rfl rfl rfl rfl rfl (Wc rfl) rfl ?_);exact k.1):p:=h ⟨k⟩
theorem Qhk (k:q) (h:Wr q→p:=by intro k;refine Zr rfl rfl (Zp (cs':=[_,_,_,_,_,_,_,_,_,_,_]) (i:=0) rfl ts_2 rfl rfl rfl rfl rfl (Wc rfl) rfl ?_);exact k.1):p:=h ⟨k⟩
theorem Qhl (k:q) (h:Wr q→p:=by intro k;refine Zi _ (some 0) rfl rfl rfl rfl rfl (Zs (cs':=[_,_,_,_,_,_,_,_,_,_,_]) (i:=0) rfl Xg rfl rfl rfl rfl ⟨rfl,rfl⟩) ?_;exact k.1):p:=h ⟨k⟩
theorem Qhm (k:q) (h:Wr q→p:=by intro k;refine Yc 0 rfl rfl rfl rfl rfl (Zp (cs':=[_,_,_,_,_,_,_,_,_,_,_]) (i:=0) rfl ts_128 rfl rfl rfl rfl rfl (Wc rfl) rfl ⟨_,rfl,?_⟩);exact k.1):p:=h ⟨k⟩
theorem Qhn (k:q) (h:Wr q→p:=by intro k;refine Yc 0 rfl rfl rfl rfl rfl (Zp (cs':=[_,_,_,_,_,_,_,_,_,_,_]) (i:=0) rfl ts_79 rfl rfl rfl rfl rfl (Wc rfl) rfl ⟨_,rfl,?_⟩);exact k.1):p:=h ⟨k⟩
theorem Qho (k:q) (h:Wr q→p:=by intro k;refine Zc Tryz.func105 rfl (by kernel_rfl) rfl (Wc rfl) ?_;exact k.1):p:=h ⟨k⟩
theorem Qhp (k:q) (h:Wr q→p:=by intro k;refine Zb _ rfl rfl rfl (Zs (cs':=[_,_,_,_,_]) (i:=0) rfl ta_114 rfl rfl rfl rfl ?_);exact k.1):p:=h ⟨k⟩
theorem Qhq (k:q) (h:Wr q→p:=by intro k;refine Zr rfl rfl (Zp (cs':=[_,_,_,_,_]) (i:=2) rfl ts_114 rfl rfl rfl rfl rfl (Wc rfl) rfl ?_);exact k.1):p:=h ⟨k⟩
theorem Qhr (k:q) (h:Wr q→p:=by intro k;refine Zb _ rfl rfl rfl (Zs (cs':=[_,_,_,_,_,_]) (i:=3) rfl ta_118 rfl rfl rfl rfl ?_);exact k.1):p:=h ⟨k⟩
theorem Qhs (k:q) (h:Wr q→p:=by intro k;refine Zr rfl rfl (Zp (cs':=[_,_,_,_,_,_]) (i:=1) rfl ts_118 rfl rfl rfl rfl rfl (Wc rfl) rfl ?_);exact k.1):p:=h ⟨k⟩
theorem Qht (k:q) (h:Wr q→p:=by intro k;refine Zi _ (some 3) rfl rfl rfl rfl rfl (op_lm1 (i:=0) rfl rfl rfl rfl rfl ⟨rfl,rfl⟩) ?_;exact k.1):p:=h ⟨k⟩
theorem Qhu (k:q) (h:Wr q→p:=by intro k;refine Zb _ rfl rfl rfl (Zs (cs':=[_,_,_,_,_,_,_,_]) (i:=3) rfl ta_122 rfl rfl rfl rfl ?_);exact k.1):p:=h ⟨k⟩
theorem Qhv (k:q) (h:Wr q→p:=by intro k;refine Zr rfl rfl (Zp (cs':=[_,_,_,_,_,_,_,_]) (i:=1) rfl ts_122 rfl rfl rfl rfl rfl (Wc rfl) rfl ?_);exact k.1):p:=h ⟨k⟩
theorem Qhw (k:q) (h:Wr q→p:=by intro k;refine Zr rfl rfl (Zp (cs':=[_,_,_,_]) (i:=0) rfl ts_81 rfl rfl rfl rfl rfl (Wc rfl) rfl ?_);exact k.1):p:=h ⟨k⟩
theorem Qhx (k:q) (h:Wr q→p:=by intro k;refine Zo _ rfl rfl rfl rfl rfl (op_field1 (ft:=3) (fo:=0) rfl (by kernel_rfl) ta_3 rfl rfl ?_);exact k.1):p:=h ⟨k⟩
theorem Qhy (k:q) (h:Wr q→p:=by intro k;refine Yh [0,1,2,3,4,5,6,7,8,9,10,11] [9] [[],[],[1],[1,2],[1,2,3],[],[5],[5,6],[5,6,7],[0],[0,1,2,3,4,9],[0,1,2,3,4,5,6,7,8,9,10]] Yx rfl ?_;exact k.1):p:=h ⟨k⟩
theorem Qhz (k:q) (h:Wr q→p:=by intro k;refine Zb _ rfl rfl rfl (Zf (xs:=[.const (.string ⟨#[97]⟩)]) Yy rfl rfl rfl rfl rfl rfl (Wc rfl) ?_);exact k.1):p:=h ⟨k⟩
theorem QhA (k:q) (h:Wr q→p:=by intro k;refine Zr rfl rfl (Zp (cs':=[_,_,_,_,_,_,_,_,_]) (i:=2) rfl ts_44 rfl rfl rfl rfl rfl (Wc rfl) rfl ?_);exact k.1):p:=h ⟨k⟩
theorem QhB (k:q) (h:Wr q→p:=by intro k;(refine Zq _ rfl rfl (Zh rfl te_27 rfl (.seq _ _) rfl rfl (by first|exact hcy|exact hcz) ⟨rfl,rfl⟩) ?_);exact k.1):p:=h ⟨k⟩
theorem QhC (k:q) (h:Wr q→p:=by intro k;refine Yc 1 rfl rfl rfl rfl rfl (Zp (cs':=[_,_,_]) (i:=0) rfl ts_41 rfl rfl rfl rfl rfl (Wc rfl) rfl ⟨_,rfl,?_⟩);exact k.1):p:=h ⟨k⟩
theorem QhD (k:q) (h:Wr q→p:=by intro k;refine Zi _ (none) rfl rfl rfl rfl rfl (op_sub rfl rfl rfl (IntWalk.i64_in _ by17) ⟨rfl,rfl⟩) ?_;exact k.1):p:=h ⟨k⟩
theorem Qa (k:q) (h:Wr q→p:=by intro k;refine Qa2 ?_;refine Qc ?_;exact k.1):p:=h ⟨k⟩
theorem Ql (k:q) (h:Wr q→p:=by intro k;refine Q2 ?_;refine Qi ?_;exact k.1):p:=h ⟨k⟩
theorem Qj (k:q) (h:Wr q→p:=by intro k;refine QJ ?_;refine Qa ?_;exact k.1):p:=h ⟨k⟩
theorem Q0 (k:q) (h:Wr q→p:=by intro k;refine Ql ?_;refine Qb ?_;exact k.1):p:=h ⟨k⟩
theorem QaU (k:q) (h:Wr q→p:=by intro k;refine QbO ?_;refine QbO ?_;exact k.1):p:=h ⟨k⟩
theorem Qo (k:q) (h:Wr q→p:=by intro k;refine Qj ?_;refine c_ret ?_;exact k.1):p:=h ⟨k⟩
theorem Qh (k:q) (h:Wr q→p:=by intro k;refine Qi ?_;refine Qb ?_;exact k.1):p:=h ⟨k⟩
theorem Qd (k:q) (h:Wr q→p:=by intro k;refine QaR ?_;refine QaG ?_;exact k.1):p:=h ⟨k⟩
theorem Qcw (k:q) (h:Wr q→p:=by intro k;refine QJ ?_;refine Qa2 ?_;exact k.1):p:=h ⟨k⟩
theorem QG (k:q) (h:Wr q→p:=by intro k;refine Qj ?_;refine Q2 ?_;exact k.1):p:=h ⟨k⟩
theorem Qe (k:q) (h:Wr q→p:=by intro k;refine QN ?_;refine Ql ?_;exact k.1):p:=h ⟨k⟩
theorem Qm (k:q) (h:Wr q→p:=by intro k;refine Qby ?_;refine Qa2 ?_;exact k.1):p:=h ⟨k⟩
theorem Qq (k:q) (h:Wr q→p:=by intro k;refine Q4 ?_;refine Ql ?_;exact k.1):p:=h ⟨k⟩
theorem Qca (k:q) (h:Wr q→p:=by intro k;refine QcH ?_;refine QcH ?_;exact k.1):p:=h ⟨k⟩
theorem Qx (k:q) (h:Wr q→p:=by intro k;refine QaU ?_;refine QaU ?_;exact k.1):p:=h ⟨k⟩
theorem Qy (k:q) (h:Wr q→p:=by intro k;refine Qa ?_;refine Q2 ?_;exact k.1):p:=h ⟨k⟩
theorem Qp (k:q) (h:Wr q→p:=by intro k;refine QX ?_;refine Qbm ?_;refine Qc ?_;refine Q2 ?_;exact k.1):p:=h ⟨k⟩
theorem QcP (k:q) (h:Wr q→p:=by intro k;refine QX ?_;refine c_exit ?_;refine x_code ?_;refine x_lp ?_;refine x_here ?_;refine Qc ?_;exact k.1):p:=h ⟨k⟩
theorem Qn (k:q) (h:Wr q→p:=by intro k;refine Qt ?_;refine Zb _ rfl rfl rfl (op_lm1 (i:=0) rfl rfl rfl rfl rfl ?_);exact k.1):p:=h ⟨k⟩
theorem QaV (k:q) (h:Wr q→p:=by intro k;refine Q4 ?_;refine Qbm ?_;refine Qc ?_;refine Q2 ?_;refine c_block ?_;exact k.1):p:=h ⟨k⟩
theorem QbE (k:q) (h:Wr q→p:=by intro k;refine Qcw ?_;refine go_lp ?_;exact k.1):p:=h ⟨k⟩
theorem Qr (k:q) (h:Wr q→p:=by intro k;refine Qa ?_;refine c_ret ?_;exact k.1):p:=h ⟨k⟩
theorem QS (k:q) (h:Wr q→p:=by intro k;refine Q2 ?_;refine Q0 ?_;exact k.1):p:=h ⟨k⟩
theorem QcR (k:q) (h:Wr q→p:=by intro k;refine Qh ?_;refine Qa6 ?_;exact k.1):p:=h ⟨k⟩
theorem Qv (k:q) (h:Wr q→p:=by intro k;refine Qby ?_;refine Qb ?_;exact k.1):p:=h ⟨k⟩
theorem Qk (k:q) (h:Wr q→p:=by intro k;refine QaV ?_;refine Q2 ?_;exact k.1):p:=h ⟨k⟩
theorem QcS (k:q) (h:Wr q→p:=by intro k;refine go_blk ?_;refine Qc ?_;refine QcR ?_;refine QbE ?_;exact k.1):p:=h ⟨k⟩
theorem Qu (k:q) (h:Wr q→p:=by intro k;refine Qa ?_;refine Ql ?_;exact k.1):p:=h ⟨k⟩
theorem Qab (k:q) (h:Wr q→p:=by intro k;refine Qj ?_;refine c_block ?_;exact k.1):p:=h ⟨k⟩
theorem Qac (k:q) (h:Wr q→p:=by intro k;refine QJ ?_;refine Qo ?_;exact k.1):p:=h ⟨k⟩
theorem Qbh (k:q) (h:Wr q→p:=by intro k;refine Qca ?_;refine Qca ?_;exact k.1):p:=h ⟨k⟩
theorem QC (k:q) (h:Wr q→p:=by intro k;refine Qby ?_;refine Qcw ?_;exact k.1):p:=h ⟨k⟩
theorem QbW (k:q) (h:Wr q→p:=by intro k;refine QX ?_;refine Qbm ?_;refine Qc ?_;exact k.1):p:=h ⟨k⟩
theorem Qs (k:q) (h:Wr q→p:=by intro k;refine Qj ?_;refine Ql ?_;exact k.1):p:=h ⟨k⟩
theorem Qao (k:q) (h:Wr q→p:=by intro k;refine Qt ?_;refine Qfa ?_;exact k.1):p:=h ⟨k⟩
theorem QA (k:q) (h:Wr q→p:=by intro k;refine QaI ?_;refine Qfb ?_;exact k.1):p:=h ⟨k⟩
theorem QK (k:q) (h:Wr q→p:=by intro k;refine Qj ?_;refine Q0 ?_;exact k.1):p:=h ⟨k⟩
theorem QU (k:q) (h:Wr q→p:=by intro k;refine QG ?_;refine Q0 ?_;exact k.1):p:=h ⟨k⟩
theorem QT (k:q) (h:Wr q→p:=by intro k;refine Qd ?_;refine Qb ?_;exact k.1):p:=h ⟨k⟩
theorem Q3 (k:q) (h:Wr q→p:=by intro k;refine QbP ?_;refine QdV ?_;exact k.1):p:=h ⟨k⟩
theorem Qbi (k:q) (h:Wr q→p:=by intro k;refine QG ?_;refine Ql ?_;exact k.1):p:=h ⟨k⟩
theorem Q8 (k:q) (h:Wr q→p:=by intro k;refine Qh ?_;refine Qb ?_;exact k.1):p:=h ⟨k⟩
theorem QaW (k:q) (h:Wr q→p:=by intro k;refine Q4 ?_;refine Q0 ?_;exact k.1):p:=h ⟨k⟩
theorem QbF (k:q) (h:Wr q→p:=by intro k;refine Qe9 ?_;refine Qe9 ?_;exact k.1):p:=h ⟨k⟩
theorem QB (k:q) (h:Wr q→p:=by intro k;refine Qa ?_;refine Q0 ?_;exact k.1):p:=h ⟨k⟩
theorem QD (k:q) (h:Wr q→p:=by intro k;refine Qq ?_;refine Qo ?_;exact k.1):p:=h ⟨k⟩
theorem Qah (k:q) (h:Wr q→p:=by intro k;refine QaU ?_;refine QbO ?_;exact k.1):p:=h ⟨k⟩
theorem Qa3 (k:q) (h:Wr q→p:=by intro k;refine QcP ?_;refine Ql ?_;exact k.1):p:=h ⟨k⟩
theorem QaJ (k:q) (h:Wr q→p:=by intro k;refine Q2 ?_;refine Q2 ?_;exact k.1):p:=h ⟨k⟩
theorem QI (k:q) (h:Wr q→p:=by intro k;refine Qc ?_;refine c_ret ?_;exact k.1):p:=h ⟨k⟩
theorem QL (k:q) (h:Wr q→p:=by intro k;refine QX ?_;refine Qbm ?_;refine QcS ?_;exact k.1):p:=h ⟨k⟩
theorem QaK (k:q) (h:Wr q→p:=by intro k;refine Qx ?_;refine QbO ?_;exact k.1):p:=h ⟨k⟩
theorem QcT (k:q) (h:Wr q→p:=by intro k;refine go_blk ?_;refine go_lp ?_;exact k.1):p:=h ⟨k⟩
theorem Qaa (k:q) (h:Wr q→p:=by intro k;refine Qdd ?_;refine Qo ?_;exact k.1):p:=h ⟨k⟩
theorem QM (k:q) (h:Wr q→p:=by intro k;refine Q4 ?_;refine Q2 ?_;exact k.1):p:=h ⟨k⟩
theorem Qap (k:q) (h:Wr q→p:=by intro k;refine QcI ?_;refine Qfc ?_;exact k.1):p:=h ⟨k⟩
theorem Qaz (k:q) (h:Wr q→p:=by intro k;refine Qbz ?_;refine Qm ?_;exact k.1):p:=h ⟨k⟩
theorem QV (k:q) (h:Wr q→p:=by intro k;refine QbW ?_;refine Ql ?_;exact k.1):p:=h ⟨k⟩
theorem Q1 (k:q) (h:Wr q→p:=by intro k;refine QG ?_;refine Q2 ?_;exact k.1):p:=h ⟨k⟩
theorem Qdl (k:q) (h:Wr q→p:=by intro k;refine Qa ?_;refine c_block ?_;exact k.1):p:=h ⟨k⟩
theorem QaA (k:q) (h:Wr q→p:=by intro k;refine QS ?_;refine Qb ?_;exact k.1):p:=h ⟨k⟩
theorem QaB (k:q) (h:Wr q→p:=by intro k;refine Qy ?_;refine Q0 ?_;exact k.1):p:=h ⟨k⟩
theorem Qbq (k:q) (h:Wr q→p:=by intro k;refine QdW ?_;refine Qt ?_;exact k.1):p:=h ⟨k⟩
theorem QaL (k:q) (h:Wr q→p:=by intro k;refine Qcm ?_;refine Qel ?_;exact k.1):p:=h ⟨k⟩
theorem Qad (k:q) (h:Wr q→p:=by intro k;refine Qa3 ?_;refine Qo ?_;exact k.1):p:=h ⟨k⟩
theorem Qae (k:q) (h:Wr q→p:=by intro k;refine Qbi ?_;refine Qab ?_;exact k.1):p:=h ⟨k⟩
theorem QaM (k:q) (h:Wr q→p:=by intro k;refine Qf ?_;refine Qf ?_;exact k.1):p:=h ⟨k⟩
theorem Qbr (k:q) (h:Wr q→p:=by intro k;refine QX ?_;refine Qbm ?_;refine go_blk ?_;refine Qc ?_;exact k.1):p:=h ⟨k⟩
theorem Qaf (k:q) (h:Wr q→p:=by intro k;refine Qbh ?_;refine Qbh ?_;exact k.1):p:=h ⟨k⟩
theorem Qa7 (k:q) (h:Wr q→p:=by intro k;refine QW ?_;refine Zi _ (some 0) rfl rfl rfl rfl rfl (op_lm1 (i:=0) rfl rfl rfl rfl rfl ⟨rfl,rfl⟩) ?_;exact k.1):p:=h ⟨k⟩
theorem Qag (k:q) (h:Wr q→p:=by intro k;refine QcP ?_;refine Q2 ?_;exact k.1):p:=h ⟨k⟩
theorem Qai (k:q) (h:Wr q→p:=by intro k;refine Qb ?_;refine Qb ?_;exact k.1):p:=h ⟨k⟩
theorem QbX (k:q) (h:Wr q→p:=by intro k;refine Q4 ?_;refine Qi ?_;exact k.1):p:=h ⟨k⟩
theorem Qa8 (k:q) (h:Wr q→p:=by intro k;refine Qy ?_;refine Ql ?_;exact k.1):p:=h ⟨k⟩
theorem Qaj (k:q) (h:Wr q→p:=by intro k;refine QX ?_;refine Ql ?_;refine Qz ?_;exact k.1):p:=h ⟨k⟩
theorem Qam (k:q) (h:Wr q→p:=by intro k;refine Qb ?_;refine Qdl ?_;exact k.1):p:=h ⟨k⟩
theorem Qan (k:q) (h:Wr q→p:=by intro k;refine Ql ?_;refine Qg ?_;exact k.1):p:=h ⟨k⟩
theorem Qaq (k:q) (h:Wr q→p:=by intro k;refine Qba ?_;refine Zo _ rfl rfl rfl rfl rfl (op_lm1 (i:=0) rfl rfl rfl rfl rfl ?_);exact k.1):p:=h ⟨k⟩
theorem Qbj (k:q) (h:Wr q→p:=by intro k;refine Qe ?_;refine Qem ?_;exact k.1):p:=h ⟨k⟩
theorem Qar (k:q) (h:Wr q→p:=by intro k;refine Qe ?_;refine Qde ?_;exact k.1):p:=h ⟨k⟩
theorem Qat (k:q) (h:Wr q→p:=by intro k;refine Qf ?_;refine Qak ?_;exact k.1):p:=h ⟨k⟩
theorem Qbk (k:q) (h:Wr q→p:=by intro k;refine Q4 ?_;refine Qbm ?_;refine Qc ?_;refine c_block ?_;exact k.1):p:=h ⟨k⟩
theorem Qau (k:q) (h:Wr q→p:=by intro k;refine QbW ?_;refine Q0 ?_;exact k.1):p:=h ⟨k⟩
theorem Qav (k:q) (h:Wr q→p:=by intro k;refine QS ?_;refine Qd ?_;exact k.1):p:=h ⟨k⟩
theorem QaC (k:q) (h:Wr q→p:=by intro k;refine Qp ?_;refine Ql ?_;exact k.1):p:=h ⟨k⟩
theorem Qcb (k:q) (h:Wr q→p:=by intro k;refine QaS ?_;refine QaS ?_;refine QaS ?_;refine QaS ?_;exact k.1):p:=h ⟨k⟩
theorem QaD (k:q) (h:Wr q→p:=by intro k;refine Qcw ?_;refine QcS ?_;exact k.1):p:=h ⟨k⟩
theorem QaE (k:q) (h:Wr q→p:=by intro k;refine Qd ?_;refine Qz ?_;exact k.1):p:=h ⟨k⟩
theorem QaF (k:q) (h:Wr q→p:=by intro k;refine Q3 ?_;refine QF ?_;exact k.1):p:=h ⟨k⟩
theorem QaH (k:q) (h:Wr q→p:=by intro k;refine QaK ?_;refine Qm ?_;exact k.1):p:=h ⟨k⟩
theorem Qcx (k:q) (h:Wr q→p:=by intro k;refine QaU ?_;refine Qm ?_;exact k.1):p:=h ⟨k⟩
theorem QaN (k:q) (h:Wr q→p:=by intro k;refine Qi ?_;refine Qab ?_;exact k.1):p:=h ⟨k⟩
theorem QaO (k:q) (h:Wr q→p:=by intro k;refine Q8 ?_;refine Qb ?_;exact k.1):p:=h ⟨k⟩
theorem QaP (k:q) (h:Wr q→p:=by intro k;refine Qp ?_;refine Q0 ?_;exact k.1):p:=h ⟨k⟩
theorem QaX (k:q) (h:Wr q→p:=by intro k;refine Qx ?_;refine Qm ?_;exact k.1):p:=h ⟨k⟩
theorem QaY (k:q) (h:Wr q→p:=by intro k;refine QaW ?_;refine Qo ?_;exact k.1):p:=h ⟨k⟩
theorem QaZ (k:q) (h:Wr q→p:=by intro k;refine Qq ?_;refine Qac ?_;exact k.1):p:=h ⟨k⟩
theorem Qa0 (k:q) (h:Wr q→p:=by intro k;refine Qb ?_;refine QbF ?_;refine QJ ?_;exact k.1):p:=h ⟨k⟩
theorem Qa1 (k:q) (h:Wr q→p:=by intro k;refine QH ?_;refine QF ?_;exact k.1):p:=h ⟨k⟩
theorem Qa4 (k:q) (h:Wr q→p:=by intro k;refine QcP ?_;refine Q0 ?_;refine Qo ?_;exact k.1):p:=h ⟨k⟩
theorem Qa5 (k:q) (h:Wr q→p:=by intro k;refine Qi ?_;refine QT ?_;exact k.1):p:=h ⟨k⟩
theorem QcU (k:q) (h:Wr q→p:=by intro k;refine Qq ?_;refine QeH ?_;exact k.1):p:=h ⟨k⟩
theorem Qdm (k:q) (h:Wr q→p:=by intro k;refine Qao ?_;refine Qz ?_;exact k.1):p:=h ⟨k⟩
theorem Qa9 (k:q) (h:Wr q→p:=by intro k;refine Qe ?_;refine QdG ?_;exact k.1):p:=h ⟨k⟩
theorem Qdn (k:q) (h:Wr q→p:=by intro k;refine QcJ ?_;refine Qb ?_;refine Qdg ?_;refine Qac ?_;exact k.1):p:=h ⟨k⟩
theorem Qbb (k:q) (h:Wr q→p:=by intro k;refine QK ?_;refine Qb ?_;exact k.1):p:=h ⟨k⟩
theorem Qbc (k:q) (h:Wr q→p:=by intro k;refine Qa2 ?_;refine QcT ?_;exact k.1):p:=h ⟨k⟩
theorem Qbd (k:q) (h:Wr q→p:=by intro k;refine Qc ?_;refine Q2 ?_;exact k.1):p:=h ⟨k⟩
theorem Qbl (k:q) (h:Wr q→p:=by intro k;refine Qcw ?_;refine QcT ?_;exact k.1):p:=h ⟨k⟩
theorem Qbs (k:q) (h:Wr q→p:=by intro k;refine QcP ?_;refine QaJ ?_;exact k.1):p:=h ⟨k⟩
theorem Qbt (k:q) (h:Wr q→p:=by intro k;refine QbX ?_;refine Qt ?_;refine QeI ?_;exact k.1):p:=h ⟨k⟩
theorem Qbu (k:q) (h:Wr q→p:=by intro k;refine Qbr ?_;refine Qi ?_;refine Qa6 ?_;refine Qb ?_;refine Qa2 ?_;refine go_lp ?_;exact k.1):p:=h ⟨k⟩
theorem Qbv (k:q) (h:Wr q→p:=by intro k;refine QbR ?_;refine Zq _ rfl rfl (op_lm1 (i:=0) rfl rfl rfl rfl rfl ⟨rfl,rfl⟩) ?_;exact k.1):p:=h ⟨k⟩
theorem Qbw (k:q) (h:Wr q→p:=by intro k;refine Qu ?_;refine Qn ?_;exact k.1):p:=h ⟨k⟩
theorem Qbx (k:q) (h:Wr q→p:=by intro k;refine Qb ?_;refine Q5 ?_;exact k.1):p:=h ⟨k⟩
theorem QbG (k:q) (h:Wr q→p:=by intro k;refine Qb ?_;refine QbS ?_;exact k.1):p:=h ⟨k⟩
theorem QbH (k:q) (h:Wr q→p:=by intro k;refine QaU ?_;refine Qv ?_;exact k.1):p:=h ⟨k⟩
theorem QbI (k:q) (h:Wr q→p:=by intro k;refine QaU ?_;refine QC ?_;exact k.1):p:=h ⟨k⟩
theorem QbJ (k:q) (h:Wr q→p:=by intro k;refine Qbz ?_;refine Qaz ?_;exact k.1):p:=h ⟨k⟩
theorem QbK (k:q) (h:Wr q→p:=by intro k;refine Qp ?_;refine Q2 ?_;exact k.1):p:=h ⟨k⟩
theorem QbL (k:q) (h:Wr q→p:=by intro k;refine QX ?_;refine Qbm ?_;refine go_lp ?_;exact k.1):p:=h ⟨k⟩
theorem QbM (k:q) (h:Wr q→p:=by intro k;refine Qw ?_;refine Qw ?_;exact k.1):p:=h ⟨k⟩
theorem QbN (k:q) (h:Wr q→p:=by intro k;refine Qap ?_;refine QaT ?_;exact k.1):p:=h ⟨k⟩
theorem QbY (k:q) (h:Wr q→p:=by intro k;refine Ql ?_;refine QU ?_;exact k.1):p:=h ⟨k⟩
theorem QbZ (k:q) (h:Wr q→p:=by intro k;refine QF ?_;refine QF ?_;exact k.1):p:=h ⟨k⟩
theorem Qb0 (k:q) (h:Wr q→p:=by intro k;refine QaW ?_;refine Qb ?_;exact k.1):p:=h ⟨k⟩
theorem Qb1 (k:q) (h:Wr q→p:=by intro k;refine Qah ?_;refine Qv ?_;exact k.1):p:=h ⟨k⟩
theorem Qb2 (k:q) (h:Wr q→p:=by intro k;refine Qt ?_;refine Qfd ?_;exact k.1):p:=h ⟨k⟩
theorem Qb3 (k:q) (h:Wr q→p:=by intro k;refine Qca ?_;refine QcH ?_;exact k.1):p:=h ⟨k⟩
theorem Qb4 (k:q) (h:Wr q→p:=by intro k;refine Qw ?_;refine Qd7 ?_;refine Qd7 ?_;exact k.1):p:=h ⟨k⟩
theorem Qcc (k:q) (h:Wr q→p:=by intro k;refine QG ?_;refine c_block ?_;exact k.1):p:=h ⟨k⟩
theorem Qcd (k:q) (h:Wr q→p:=by intro k;refine Qcb ?_;refine QbO ?_;exact k.1):p:=h ⟨k⟩
theorem Qce (k:q) (h:Wr q→p:=by intro k;refine Qbz ?_;refine Qbz ?_;exact k.1):p:=h ⟨k⟩
theorem Qcf (k:q) (h:Wr q→p:=by intro k;refine Zr rfl rfl (Zp (cs':=[_,_]) (i:=2) rfl ts_85 rfl rfl rfl rfl rfl (Wc rfl) rfl ?_);refine Qr ?_;exact k.1):p:=h ⟨k⟩
theorem Qcg (k:q) (h:Wr q→p:=by intro k;refine Qq ?_;refine Qn ?_;exact k.1):p:=h ⟨k⟩
theorem Qch (k:q) (h:Wr q→p:=by intro k;refine Zr rfl rfl (Zp (cs':=[_,_]) (i:=1) rfl ts_85 rfl rfl rfl rfl rfl (Wc rfl) rfl ?_);refine Qr ?_;exact k.1):p:=h ⟨k⟩
theorem Qci (k:q) (h:Wr q→p:=by intro k;refine QaI ?_;refine Qgc ?_;exact k.1):p:=h ⟨k⟩
theorem Qcj (k:q) (h:Wr q→p:=by intro k;refine Qq ?_;refine Q9 ?_;refine Qaa ?_;exact k.1):p:=h ⟨k⟩
theorem Qck (k:q) (h:Wr q→p:=by intro k;refine Qfe ?_;refine Qa7 ?_;refine Qw ?_;exact k.1):p:=h ⟨k⟩
theorem Qcl (k:q) (h:Wr q→p:=by intro k;refine Qe ?_;refine QbA ?_;exact k.1):p:=h ⟨k⟩
theorem Qcy (k:q) (h:Wr q→p:=by intro k;refine Qc ?_;refine QaJ ?_;exact k.1):p:=h ⟨k⟩
theorem Qcz (k:q) (h:Wr q→p:=by intro k;refine Qx ?_;refine Qcx ?_;exact k.1):p:=h ⟨k⟩
theorem QcA (k:q) (h:Wr q→p:=by intro k;refine QJ ?_;refine QJ ?_;exact k.1):p:=h ⟨k⟩
theorem QcB (k:q) (h:Wr q→p:=by intro k;refine QJ ?_;refine Qac ?_;exact k.1):p:=h ⟨k⟩
theorem QcC (k:q) (h:Wr q→p:=by intro k;refine go_blk ?_;refine Qc ?_;refine Qi ?_;refine Qa6 ?_;refine Qb ?_;refine Qa2 ?_;refine go_lp ?_;exact k.1):p:=h ⟨k⟩
theorem QcD (k:q) (h:Wr q→p:=by intro k;refine QdH ?_;refine Qo ?_;exact k.1):p:=h ⟨k⟩
theorem QcE (k:q) (h:Wr q→p:=by intro k;refine Qdf ?_;refine QJ ?_;exact k.1):p:=h ⟨k⟩
theorem QcF (k:q) (h:Wr q→p:=by intro k;refine QX ?_;refine Ql ?_;refine Qdm ?_;exact k.1):p:=h ⟨k⟩
theorem QcG (k:q) (h:Wr q→p:=by intro k;refine Qy ?_;refine c_block ?_;exact k.1):p:=h ⟨k⟩
theorem QcV (k:q) (h:Wr q→p:=by intro k;refine QaA ?_;refine QbB ?_;exact k.1):p:=h ⟨k⟩
theorem QcW (k:q) (h:Wr q→p:=by intro k;refine QaS ?_;refine QaS ?_;refine QbO ?_;exact k.1):p:=h ⟨k⟩
theorem QcX (k:q) (h:Wr q→p:=by intro k;refine Qaw ?_;refine QaB ?_;exact k.1):p:=h ⟨k⟩
theorem QcY (k:q) (h:Wr q→p:=by intro k;refine Qb ?_;refine QbF ?_;refine Qe9 ?_;exact k.1):p:=h ⟨k⟩
theorem QcZ (k:q) (h:Wr q→p:=by intro k;refine QU ?_;refine Q5 ?_;exact k.1):p:=h ⟨k⟩
theorem Qc0 (k:q) (h:Wr q→p:=by intro k;refine Qu ?_;refine Qdn ?_;exact k.1):p:=h ⟨k⟩
theorem Qc1 (k:q) (h:Wr q→p:=by intro k;refine Qa8 ?_;refine Qn ?_;exact k.1):p:=h ⟨k⟩
theorem Qc2 (k:q) (h:Wr q→p:=by intro k;refine Qff ?_;refine Q7 ?_;exact k.1):p:=h ⟨k⟩
theorem Qc3 (k:q) (h:Wr q→p:=by intro k;refine Qx ?_;refine QC ?_;exact k.1):p:=h ⟨k⟩
theorem Qc4 (k:q) (h:Wr q→p:=by intro k;refine QO ?_;refine Qr ?_;exact k.1):p:=h ⟨k⟩
theorem Qc5 (k:q) (h:Wr q→p:=by intro k;refine Qah ?_;refine Qm ?_;exact k.1):p:=h ⟨k⟩
theorem Qc6 (k:q) (h:Wr q→p:=by intro k;refine Qbi ?_;refine Qd ?_;exact k.1):p:=h ⟨k⟩
theorem Qc7 (k:q) (h:Wr q→p:=by intro k;refine QcU ?_;refine QO ?_;refine Qo ?_;exact k.1):p:=h ⟨k⟩
theorem Qc8 (k:q) (h:Wr q→p:=by intro k;refine Qbj ?_;refine Qdh ?_;refine QE ?_;exact k.1):p:=h ⟨k⟩
theorem Qc9 (k:q) (h:Wr q→p:=by intro k;refine QaR ?_;refine Qbe ?_;refine Qd ?_;exact k.1):p:=h ⟨k⟩
theorem Qda (k:q) (h:Wr q→p:=by intro k;refine QaL ?_;refine Zi _ (none) rfl rfl rfl rfl rfl (Zh rfl te_25 rfl (.seq _ _) rfl rfl (hcx) ⟨rfl,rfl⟩) ?_;refine Qd8 ?_;exact k.1):p:=h ⟨k⟩
theorem Qdb (k:q) (h:Wr q→p:=by intro k;refine QaR ?_;refine Q7 ?_;exact k.1):p:=h ⟨k⟩
theorem Qdc (k:q) (h:Wr q→p:=by intro k;refine Qbq ?_;refine Qfd ?_;exact k.1):p:=h ⟨k⟩
theorem Qdo (k:q) (h:Wr q→p:=by intro k;refine Qco ?_;refine Qg ?_;exact k.1):p:=h ⟨k⟩
theorem Qdp (k:q) (h:Wr q→p:=by intro k;refine QaM ?_;refine Zo _ rfl rfl rfl rfl rfl (Yv rfl tu_9 rfl rfl rfl ((hb by17).1) ?_);exact k.1):p:=h ⟨k⟩
theorem Qdq (k:q) (h:Wr q→p:=by intro k;refine Qbk ?_;refine Q2 ?_;exact k.1):p:=h ⟨k⟩
theorem Qdr (k:q) (h:Wr q→p:=by intro k;refine Qy ?_;refine Q2 ?_;exact k.1):p:=h ⟨k⟩
theorem Qds (k:q) (h:Wr q→p:=by intro k;refine Qe ?_;refine Qdf ?_;exact k.1):p:=h ⟨k⟩
theorem Qdt (k:q) (h:Wr q→p:=by intro k;refine Qi ?_;refine Qao ?_;exact k.1):p:=h ⟨k⟩
theorem Qdu (k:q) (h:Wr q→p:=by intro k;refine QA ?_;refine Qf ?_;exact k.1):p:=h ⟨k⟩
theorem Qdv (k:q) (h:Wr q→p:=by intro k;refine QX ?_;refine c_exit ?_;refine x_code ?_;refine x_lp ?_;refine x_here ?_;refine QcS ?_;exact k.1):p:=h ⟨k⟩
theorem Qdw (k:q) (h:Wr q→p:=by intro k;refine Qs ?_;refine Qbe ?_;exact k.1):p:=h ⟨k⟩
theorem Qdx (k:q) (h:Wr q→p:=by intro k;refine QdX ?_;refine Ye _ rfl rfl rfl rfl (op_lm1 (i:=0) rfl rfl rfl rfl rfl ⟨rfl,rfl⟩) ?_;exact k.1):p:=h ⟨k⟩
theorem Qdy (k:q) (h:Wr q→p:=by intro k;refine Qc ?_;refine Ql ?_;exact k.1):p:=h ⟨k⟩
theorem Qdz (k:q) (h:Wr q→p:=by intro k;refine Qcn ?_;refine Qcn ?_;exact k.1):p:=h ⟨k⟩
theorem QdA (k:q) (h:Wr q→p:=by intro k;refine Qb ?_;refine QbF ?_;refine QE ?_;exact k.1):p:=h ⟨k⟩
theorem QdB (k:q) (h:Wr q→p:=by intro k;refine Qa ?_;refine Qh ?_;exact k.1):p:=h ⟨k⟩
theorem QdC (k:q) (h:Wr q→p:=by intro k;refine Qbz ?_;refine Qv ?_;exact k.1):p:=h ⟨k⟩
theorem QdD (k:q) (h:Wr q→p:=by intro k;refine Qa6 ?_;refine Qbq ?_;exact k.1):p:=h ⟨k⟩
theorem QdE (k:q) (h:Wr q→p:=by intro k;refine QdW ?_;refine Qao ?_;refine QP ?_;exact k.1):p:=h ⟨k⟩
theorem QdF (k:q) (h:Wr q→p:=by intro k;refine Qq ?_;refine Qt ?_;exact k.1):p:=h ⟨k⟩
end
section
variable {P:Program}
end
theorem cellsOf_ty:Tryz.prog.cellsOf 24=4:=by kernel_rfl
theorem cellsOf_str:Tryz.prog.cellsOf 9=1:=by kernel_rfl
end Go.Proofs.YteepjjgooplljaaGreat
namespace Go.Proofs.YteepjjgooplljaaGreat
open Go.ChangeShapes Go.WideShapes Go.ChangeAt Go.RowKit
section
variable {H:Type} {enc:TypeId × Value→H} {P:Program}
theorem trodAll_below (hl:laidOutB P=true) {W W':World} (hb:Below W.heap.size W W') :
    ∀ {ts:List TypeId} {vs:List Value} {ds:List (DataW H)} {ps:List MemPlace},
     (∀ t∈ts,P.readableRec t=true∧t<P.types.size)→DataW.TrodAll enc P W 0 (fun _=>true) true ts vs ds ps →
     (∀ x∈ps,x.block<W.heap.size)→DataW.TrodAll enc P W' 0 (fun b=>decide (b<W.heap.size)) true ts vs ds ps
 | [],_,_,_,_,h,_=>by
  obtain ⟨rfl,rfl,rfl⟩:=trodAll_nil h
  exact trodAll_mk0
 | t::ts,_,_,_,hr,h,hlt=>by
  obtain ⟨v,vs,d,ds,p,q,rfl,rfl,rfl,h0,h1⟩:=trodAll_cons h
  exact trodAll_cons_mk (Below.trod hl (hr t by18).1 (hr t by18).2 h0 hb (fun x hx=>hlt x (by simp [hx])))
   (trodAll_below hl hb (fun t ht=>hr t (by simp [ht])) h1 (fun x hx=>hlt x (by simp [hx])))
theorem law_post {f:Func} {s:ChangeSpec} {W W':World} {args:Array Value} {ds gs:List (DataW H)} {before:List MemPlace} {tb:TypeId}
    (hl:laidOutB P=true) (hr:(f.params.toList.all fun t=>P.readableRec t && decide (t<P.types.size))=true)
    (hres:f.resultTypes=#[tb]) (htb:P.underlying tb=some .bool) (hvars:s.vars=[])
    (hs1:(s.fn H (ds++gs)).results=[.lit (.bool true)]) (hs2:(s.fn H (ds++gs)).args=ds) (hs3:(s.fn H (ds++gs)).vars=[])
    (hW:DataW.Whole enc P f.params.toList s.vars false W args.toList ds gs before) (hb:Below W.heap.size W W') :
    s.post enc P f false true false false W args (.bool true) W':=by
 have hW':=hW
 obtain ⟨p,q,hA,hV,rfl,hfz,hnd⟩:=hW
 have hr':∀ t∈f.params.toList,P.readableRec t=true∧t<P.types.size:=by
  intro t ht
  have:=List.all_eq_true.1 hr t ht
  simpa using this
 refine ⟨ds,gs,p++q,[],p,[],hW',?_,?_,?_,hb.frame _,fun h=>by cases h⟩
 ·rw [hs1,hres]
  exact trodAll_mk1 (shut_bool htb true)
 ·rw [hs2]
  exact trodAll_below hl hb hr' hA (fun x hx=>by simpa using hW'.lt x (by simp [hx]))
 rw [hs3,hvars]
 rfl
end
open Go.RowKit
abbrev uptoBulk {H:Type}:DataW H→Nat:=Rows.uptoBulk
abbrev uptoBulkAll {H:Type}:List (DataW H)→Nat:=Rows.uptoBulkAll
mutual
def ShapeL (P:Program) (L:Nat):Nat→TypeId→List AV→Prop
 | 0,_,_=>False
 | n+1,t,cs=>match P.underlying t with
  | some .bool=>∃ b,cs=[.val (.bool b)]
  | some (.int k)=>∃ x,(k.min≤x∧x≤k.max)∧cs=[.val (.int k x)]
  | some .string=>∃ s:ByteArray,s.size≤L∧cs=[.val (.string s)]
  | some (.slice e)=>∃ es,cs=[.seq (P.cellsOf e) es]∧es.length≤L∧∀ x∈es,ShapeL P L n e x
  | some (.struct fs)=>ShapeLF P L n fs.toList cs
  | _=>False
def ShapeLF (P:Program) (L:Nat):Nat→List Field→List AV→Prop
 | _,[],cs=>cs=[]
 | n,f::fs,cs=>∃ a b,cs=a++b∧ShapeL P L n f.type a∧ShapeLF P L n fs b
end
mutual
def AV.bulk:AV→Nat
 | .val (.string s)=>s.size+1
 | .seq _ es=>bulkss es+1
 | _=>1
def bulks:List AV→Nat
 | []=>0
 | a::l=>a.bulk+bulks l
def bulkss:List (List AV)→Nat
 | []=>0
 | e::es=>bulks e+bulkss es
end
theorem bulks_app:∀ a b:List AV,bulks (a++b)=bulks a+bulks b
 | [],b=>by simp [bulks]
 | x::a,b=>by simp only [List.cons_append,bulks,bulks_app a b];omega
theorem bulkss_app:∀ a b:List (List AV),bulkss (a++b)=bulkss a+bulkss b
 | [],b=>by simp [bulkss]
 | x::a,b=>by simp only [List.cons_append,bulkss,bulkss_app a b];omega
theorem uptoBulkAll_app {H:Type}:∀ a b:List (DataW H),uptoBulkAll (a++b)=uptoBulkAll a+uptoBulkAll b
 | [],b=>by simp [uptoBulkAll,Rows.uptoBulkAll]
 | x::a,b=>by have:=uptoBulkAll_app a b;simp only [uptoBulkAll] at this;simp only [List.cons_append,uptoBulkAll,Rows.uptoBulkAll,this];omega
def closedL (P:Program) (S:List TypeId):Bool:=closedT P S && S.all fun t=>match P.underlying t with
 | some (.slice e)=>Nat.blt 0 (P.bytesOf e)
 | _=>true
section
variable {H:Type} {enc:TypeId × Value→H} {P:Program} {w:World} {sp:Nat→Bool} {held:Bool} {L:Nat}
theorem rows_of2 {fuel:Nat} {e:TypeId} {a:Addr} {m:Nat} {F:EH} (ds:List (DataW H)):∀ n:Nat,n≤ds.length→(∀ i d,i<n→ds[i]?=some d→∃ (ws:List Value) (es:List AV),w.cells? 0 (a.add (i * m)) m=some ws∧ShapeL P L fuel e es∧Rels F es ws∧Ones ws∧bulks es≤uptoBulk d) →
    ∃ (ess:List (List AV)) (vs:List Value),ess.length=n∧(∀ x∈ess,ShapeL P L fuel e x∧x.length=m)∧Rels F ess.flatten vs∧Ones vs∧vs.length=n * m∧(∀ j x,vs[j]?=some x→w.cell? (a.add j)=some x)∧bulkss ess≤uptoBulkAll (ds.take n)
 | 0,_,_=>⟨[],[],rfl,by simp,.nil,by intro v hv;simp at hv,by simp,by simp,by simp [bulkss]⟩
 | n+1,hn,h=>by
  obtain ⟨ess,vs,h1,h2,h3,h4,h5,h6,h7⟩:=rows_of2 ds n by17 (fun i d hi hd=>h i d by17 hd)
  have hlt:n<ds.length:=by omega
  obtain ⟨ws,es,k1,k2,k3,k4,k5⟩:=h n ds[n] by17 (List.getElem?_eq_getElem hlt)
  obtain ⟨q1,q2⟩:=cells_get k1
  refine ⟨ess++[es],vs++ws,by simp [h1],fun x hx=>?_,by simpa using h3.app k3,fun v hv=>?_,by simp only [List.length_append,h5,q1,Nat.add_mul];omega,fun j x hx=>?_,?_⟩
  ·rcases List.mem_append.1 hx with r|r
   ·exact h2 x r
   simp at r;subst r;exact ⟨k2,by rw [k3.len,q1]⟩
  ·rcases List.mem_append.1 hv with r|r
   ·exact h4 v r
   exact k4 v r
  ·rcases Nat.lt_or_ge j vs.length with r|r
   ·rw [List.getElem?_append_left r] at hx;exact h6 j x hx
   rw [List.getElem?_append_right r] at hx
   have:=q2 _ x hx
   have e1:(a.add (n * m)).add (j - vs.length)=a.add j:=by
    rw [h5] at r ⊢
    unfold Addr.add
    by_cases z1:n * m=0
    ·rw [if_pos z1]
     simp only [z1,Nat.sub_zero]
    rw [if_neg z1]
    have hj0:j≠0:=by omega
    rw [if_neg hj0]
    by_cases z2:j - n * m=0
    ·rw [if_pos z2]
     simp only [Addr.mk.injEq,true_and,and_true]
     omega
    rw [if_neg z2]
    simp only [Addr.mk.injEq,true_and,and_true]
    omega
   rwa [e1] at this
  rw [bulkss_app,List.take_add_one,List.getElem?_eq_getElem hlt,uptoBulkAll_app]
  simp only [bulkss,Option.toList,uptoBulkAll,Rows.uptoBulkAll]
  simp only [uptoBulk,uptoBulkAll] at *
  omega
theorem weights_all {e:TypeId}:∀ {ds:List (DataW H)} {i:Nat} {d:DataW H},ds[i]?=some d→∀ n∈d.weights P e,n∈DataW.weightsAll P e ds
 | [],i,d,h,_,_=>by simp at h
 | x::ds,0,d,h,n,hn=>by
  simp at h;subst h
  simp only [DataW.weightsAll,List.mem_append];exact .inl hn
 | x::ds,i+1,d,h,n,hn=>by
  simp only [DataW.weightsAll,List.mem_append];exact .inr (weights_all (by simpa using h) n hn)
theorem open_shape2 {S:List TypeId} (hS:closedL P S=true) (hL:L≤maxLen):∀ (fuel:Nat) (t:TypeId) (vs:List Value) (x:DataW H × List MemPlace),t∈S→DataW.trod enc P w 0 sp held fuel t vs=some x→(∀ n∈x.1.weights P t,n≤L) →
    ∃ cs,ShapeL P L fuel t cs∧Rels (cellF w) cs vs∧Ones vs∧bulks cs≤uptoBulk x.1:=by
 have hS1:closedT P S=true:=by unfold closedL at hS;exact (Bool.and_eq_true_iff.1 hS).1
 have hS2:=by unfold closedL at hS;exact (Bool.and_eq_true_iff.1 hS).2
 intro fuel
 induction fuel with
 | zero=>intro t vs x _ h;simp [DataW.trod] at h
 | succ n ih =>
  intro t vs x ht h hw
  have hc:=List.all_eq_true.1 hS1 t ht
  have hc2:=List.all_eq_true.1 hS2 t ht
  have hh:=h
  unfold DataW.trod at h
  unfold ShapeL
  cases hu:P.underlying t with
  | none=>rw [hu] at hc;simp at hc
  | some d =>
   rw [hu] at hc hc2 h
   cases d with
   | bool =>
    simp only at h
    split at h <;> first|(simp at h;done)|skip
    all_goals first|(rename_i b _;simp at h;subst h;exact ⟨[.val (.bool b)],⟨b,rfl⟩,.cons (.val _) .nil,by intro v hv;simp at hv;subst hv;rfl,by simp [bulks,AV.bulk,uptoBulk,Rows.uptoBulk]⟩)|(simp_all;done)
   | int k =>
    simp only at h
    split at h <;> simp_all
    rename_i k' z _
    obtain ⟨⟨rfl,hwf⟩,rfl⟩:=h
    simp only [Lit.wf,Bool.and_eq_true,decide_eq_true_eq] at hwf
    exact ⟨_,⟨z,hwf,rfl⟩,.cons (.val _) .nil,by intro v hv;simp at hv;subst hv;rfl,by simp [bulks,AV.bulk,uptoBulk,Rows.uptoBulk]⟩
   | string =>
    simp only at h
    split at h <;> simp_all
    obtain ⟨_,rfl⟩:=h
    rename_i s _
    have hsz:s.data.toList.length≤L:=hw _ (by simp [DataW.weights])
    exact ⟨_,⟨_,by simpa using hsz,rfl⟩,.cons (.val _) .nil,by intro v hv;simp at hv;subst hv;rfl,by simp [bulks,AV.bulk,uptoBulk,Rows.uptoBulk]⟩
   | slice e =>
    simp only [Bool.and_eq_true,List.contains_iff_mem,Nat.blt_eq] at hc hc2
    obtain ⟨rfl,rfl⟩|⟨a,len,cap,elems,rest,n',hn,rfl,rfl,_,hlc,hcm,hel,hat,_⟩:=DataW.trod_slice hu hh
    ·exact ⟨[.seq (P.cellsOf e) []],⟨[],rfl,by simp,by simp⟩,.cons (.seq0 _ none 0 (fun _=>rfl)) .nil,by intro v hv;simp at hv;subst hv;rfl,by simp [bulks,AV.bulk,bulkss,uptoBulk,Rows.uptoBulk]⟩
    obtain rfl:n=n':=by omega
    have hlenL:len≤L:=by
     have h1:=hw ((elems.length+rest.length) * P.bytesOf e) (by simp [DataW.weights,hu])
     have h2:len * 1≤(elems.length+rest.length) * P.bytesOf e:=Nat.mul_le_mul by17 hc2
     omega
    have hrows:∀ i d,i<len→(elems.map (·.1))[i]?=some d→∃ ws es,w.cells? 0 (a.add (i * P.cellsOf e)) (P.cellsOf e)=some ws∧ShapeL P L n e es∧Rels (cellF w) es ws∧Ones ws∧bulks es≤uptoBulk d:=by
     intro i d hi hd
     have h1:=hat i hi
     rw [List.getElem?_eq_getElem by17] at h1
     obtain ⟨ws,h2,h3⟩:=Option.bind_eq_some_iff.1 h1
     have hdd:(elems[i]'by17).1=d:=by
      rw [List.getElem?_map,List.getElem?_eq_getElem by17] at hd
      simpa using hd
     obtain ⟨es,h4,h5,h6,h7⟩:=ih e ws _ hc.1 h3 (by
      intro k hk
      rw [hdd] at hk
      refine hw k ?_
      simp only [DataW.weights,hu,List.mem_cons,List.mem_append]
      exact .inr (.inl (weights_all hd k hk)))
     exact ⟨ws,es,h2,h4,h5,h6,by rw [hdd] at h7;exact h7⟩
    obtain ⟨ess,vs',r1,r2,r3,r4,r5,r6,r7⟩:=rows_of2 (elems.map (·.1)) len by13 hrows
    have hb:bulks [AV.seq (P.cellsOf e) ess]≤uptoBulk (DataW.slice (elems.map (·.1)) (rest.map (·.1))):=by
     rw [List.take_of_length_le by13] at r7
     simp only [bulks,AV.bulk,uptoBulk,uptoBulkAll,Rows.uptoBulk] at *
     omega
    refine ⟨[.seq (P.cellsOf e) ess],⟨ess,rfl,by omega,fun x hx=>(r2 x hx).1⟩,.cons ?_ .nil,by intro v hv;simp at hv;subst hv;rfl,hb⟩
    by_cases h0:len=0
    ·subst h0
     have:ess=[]:=List.eq_nil_of_length_eq_zero r1
     subst this
     exact .seq0 _ _ _ by18
    have hpos:0<vs'.length:=by rw [r5];exact Nat.mul_pos by17 hc.2
    have hsp:a.spot=none:=by
     have:=r6 0 vs'[0] (List.getElem?_eq_getElem hpos)
     have e0:a.add 0=a:=by simp [Addr.add]
     rw [e0] at this
     unfold World.cell? at this
     cases hs:a.spot with
     | none=>rfl
     | some q=>rw [hs] at this;simp at this;split at this <;> simp at this
    obtain ⟨b,off,spot⟩:=a
    simp only at hsp
    subst hsp
    subst r1
    refine .seq b off cap (fun x hx=>(r2 x hx).2) by17 (fun j x hx=>?_) r3 r4 by17
    have:=r6 j x hx
    rwa [addr_add0] at this
   | struct fs =>
    simp only at hc
    obtain ⟨xs,n',hn,rfl,hlen,hxl,hat⟩:=DataW.trod_struct hu hh
    obtain rfl:n=n':=by omega
    have key:∀ (l:List Field) (ys:List (DataW H × List MemPlace)) (k:Nat),ys.length=l.length→(∀ (i:Nat) (f:Field),l[i]?=some f→DataW.trod enc P w 0 sp held n f.type ((vs.drop f.offset).take (P.cellsOf f.type))=ys[i]?)→fsOk P S k l (P.cellsOf t)=true→(∀ j∈DataW.weightsEach P (l.map (·.type)) (ys.map (·.1)),j≤L) →
        ∃ cs,ShapeLF P L n l cs∧Rels (cellF w) cs (vs.drop k)∧Ones (vs.drop k)∧bulks cs≤uptoBulkAll (ys.map (·.1)):=by
     intro l
     induction l with
     | nil =>
      intro ys k _ _ hk _
      simp only [fsOk,beq_iff_eq] at hk
      refine ⟨[],by simp [ShapeLF],?_,?_,by simp [bulks]⟩
      ·rw [List.drop_eq_nil_of_le by17];exact .nil
      rw [List.drop_eq_nil_of_le by17];intro v hv;simp at hv
     | cons f l ihl =>
      intro ys k hyl hf hk hwt
      cases ys with
      | nil=>simp at hyl
      | cons y ys =>
       simp only [fsOk,Bool.and_eq_true,beq_iff_eq,List.contains_iff_mem] at hk
       obtain ⟨⟨rfl,hS1⟩,hk⟩:=hk
       have hy:=hf 0 f by18
       simp only [List.getElem?_cons_zero] at hy
       simp only [List.map_cons,DataW.weightsEach,List.mem_append] at hwt
       obtain ⟨c1,h1,h2,h3,h7⟩:=ih f.type _ y hS1 hy (fun j hj=>hwt j (.inl hj))
       obtain ⟨c2,h4,h5,h6,h8⟩:=ihl ys (f.offset+P.cellsOf f.type) (by simpa using hyl) (fun i g hg=>by have:=hf (i+1) g (by simpa using hg);simpa using this) hk (fun j hj=>hwt j (.inr hj))
       have e1:vs.drop f.offset=(vs.drop f.offset).take (P.cellsOf f.type)++vs.drop (f.offset+P.cellsOf f.type):=by
        rw [← List.drop_drop,List.take_append_drop]
       refine ⟨c1++c2,by rw [ShapeLF];exact ⟨c1,c2,U,h1,h4⟩,by rw [e1];exact h2.app h5,?_,?_⟩
       ·rw [e1]
        intro v hv
        rcases List.mem_append.1 hv with q|q
        ·exact h3 v q
        exact h6 v q
       rw [bulks_app]
       simp only [List.map_cons,uptoBulkAll,uptoBulk,Rows.uptoBulkAll] at *
       omega
    obtain ⟨cs,k1,k2,k3,k4⟩:=key fs.toList xs 0 (by simpa using hxl) (fun i f hf=>hat i f (by simpa using hf)) hc (by
     intro j hj
     refine hw j ?_
     simp only [DataW.weights,hu]
     exact hj)
    rw [List.drop_zero] at k2 k3
    exact ⟨cs,k1,k2,k3,by simp only [uptoBulk,uptoBulkAll,Rows.uptoBulk] at *;omega⟩
   | _=>simp at hc
theorem open_two {S:List TypeId} (hS:closedL P S=true) {ts:List TypeId} {ds:List (DataW H)} (hsz:(DataW.weightsEach P ts ds).all (·≤reachBytes)=true) (j:Nat) {t:TypeId} {v:Value} {d:DataW H} {ps:List MemPlace} (hj:ts[j]?=some t) (hd:ds[j]?=some d) (ht:t∈S) (h:DataW.Trod enc P w 0 sp held t v d ps) :
    ∃ fuel cs,ShapeL P reachBytes fuel t cs∧Rels (cellF w) cs v.cells.toList∧Ones v.cells.toList∧bulks cs≤uptoBulk d:=by
 obtain ⟨fuel,h⟩:=h
 obtain ⟨cs,h1,h2,h3,h4⟩:=open_shape2 hS (L:=reachBytes) by16 fuel t _ _ ht h (fun n hn=>by
  have:=List.all_eq_true.1 hsz n (DataW.weights_mem_each hj hd n hn)
  simpa using this)
 exact ⟨fuel,cs,h1,h2,h3,h4⟩
end
section
variable {P:Program} {L:Nat}
theorem shapeL_int {fuel:Nat} {t:TypeId} {k:IntKind} {cs:List AV} (ht:P.underlying t=some (.int k)) (h:ShapeL P L fuel t cs):∃ x,(k.min≤x∧x≤k.max)∧cs=[.val (.int k x)]:=by
 cases fuel with
 | zero=>unfold ShapeL at h;exact h.elim
 | succ n=>unfold ShapeL at h;rw [ht] at h;exact h
theorem shapeL_str {fuel:Nat} {t:TypeId} {cs:List AV} (ht:P.underlying t=some .string) (h:ShapeL P L fuel t cs):∃ s:ByteArray,s.size≤L∧cs=[.val (.string s)]:=by
 cases fuel with
 | zero=>unfold ShapeL at h;exact h.elim
 | succ n=>unfold ShapeL at h;rw [ht] at h;exact h
theorem shapeL_slice {fuel:Nat} {t e:TypeId} {cs:List AV} (ht:P.underlying t=some (.slice e)) (h:ShapeL P L fuel t cs):∃ n es,n<fuel∧cs=[.seq (P.cellsOf e) es]∧es.length≤L∧∀ x∈es,ShapeL P L n e x:=by
 cases fuel with
 | zero=>unfold ShapeL at h;exact h.elim
 | succ n =>
  unfold ShapeL at h
  rw [ht] at h
  obtain ⟨es,h1,h3,h2⟩:=h
  exact ⟨n,es,by omega,h1,h3,h2⟩
theorem shapeL_struct {fuel:Nat} {t:TypeId} {fs:Array Field} {cs:List AV} (ht:P.underlying t=some (.struct fs)) (h:ShapeL P L fuel t cs):∃ n,n<fuel∧ShapeLF P L n fs.toList cs:=by
 cases fuel with
 | zero=>unfold ShapeL at h;exact h.elim
 | succ n=>unfold ShapeL at h;rw [ht] at h;exact ⟨n,by omega,h⟩
theorem pick_all2 {α:Type} {f:α→List AV} {p:α→Prop}:∀ {es:List (List AV)},(∀ x∈es,∃ a,x=f a∧p a)→∃ l:List α,es=l.map f∧∀ a∈l,p a
 | [],_=>⟨[],rfl,by simp⟩
 | e::es,h=>by
  obtain ⟨a,ha,hp⟩:=h e by18
  obtain ⟨l,hl,hq⟩:=pick_all2 (fun x hx=>h x (by simp [hx]):∀ x∈es,∃ a,x=f a∧p a)
  exact ⟨a::l,by rw [ha,hl];rfl,by simp;exact ⟨hp,hq⟩⟩
end
inductive Pa where
 | mk (k:Int) (s:ByteArray) (n:Int) (ks:List Pa) (p:Int)
mutual
inductive Ex where
 | mk (k:Int) (s:ByteArray) (n:Int) (t:Ty) (ks:List Ex) (al:List Al) (bs:List Bi) (p:Int)
inductive Al where
 | mk (q:Pa) (e:Ex)
inductive Bi where
 | mk (s:ByteArray) (e:Ex) (p:Int)
end
mutual
def Pa.cells:Pa→List AV
 | .mk k s n ks p=>[.val (.int .i64 k),.val (.string s),.val (.int .i64 n),.seq 5 (Pa.cellss ks),.val (.int .i64 p)]
def Pa.cellss:List Pa→List (List AV)
 | []=>[]
 | t::ts=>t.cells::Pa.cellss ts
end
mutual
def Ex.cells:Ex→List AV
 | .mk k s n t ks al bs p=>.val (.int .i64 k)::.val (.string s)::.val (.int .i64 n)::(t.cells++[.seq 11 (Ex.cellss ks),.seq 16 (Al.cellss al),.seq 13 (Bi.cellss bs),.val (.int .i64 p)])
def Ex.cellss:List Ex→List (List AV)
 | []=>[]
 | t::ts=>t.cells::Ex.cellss ts
def Al.cells:Al→List AV
 | .mk q e=>q.cells++e.cells
def Al.cellss:List Al→List (List AV)
 | []=>[]
 | t::ts=>t.cells::Al.cellss ts
def Bi.cells:Bi→List AV
 | .mk s e p=>.val (.string s)::(e.cells++[.val (.int .i64 p)])
def Bi.cellss:List Bi→List (List AV)
 | []=>[]
 | t::ts=>t.cells::Bi.cellss ts
end
theorem Pa.cellss_map:∀ ts:List Pa,Pa.cellss ts=ts.map Pa.cells
 | []=>by simp [Pa.cellss]
 | t::ts=>by simp [Pa.cellss,Pa.cellss_map ts]
theorem Ex.cellss_map:∀ ts:List Ex,Ex.cellss ts=ts.map Ex.cells
 | []=>by simp [Ex.cellss]
 | t::ts=>by simp [Ex.cellss,Ex.cellss_map ts]
theorem Al.cellss_map:∀ ts:List Al,Al.cellss ts=ts.map Al.cells
 | []=>by simp [Al.cellss]
 | t::ts=>by simp [Al.cellss,Al.cellss_map ts]
theorem Bi.cellss_map:∀ ts:List Bi,Bi.cellss ts=ts.map Bi.cells
 | []=>by simp [Bi.cellss]
 | t::ts=>by simp [Bi.cellss,Bi.cellss_map ts]
theorem Pa.cellss_len (ts:List Pa):(Pa.cellss ts).length=ts.length:=by rw [Pa.cellss_map];simp
theorem Ex.cellss_len (ts:List Ex):(Ex.cellss ts).length=ts.length:=by rw [Ex.cellss_map];simp
theorem Al.cellss_len (ts:List Al):(Al.cellss ts).length=ts.length:=by rw [Al.cellss_map];simp
theorem Bi.cellss_len (ts:List Bi):(Bi.cellss ts).length=ts.length:=by rw [Bi.cellss_map];simp
theorem Pa.cellss_get {ts:List Pa} {i:Nat} {t:Pa} (h:ts[i]?=some t):(Pa.cellss ts)[i]?=some t.cells:=by rw [Pa.cellss_map];simp [h]
theorem Ex.cellss_get {ts:List Ex} {i:Nat} {t:Ex} (h:ts[i]?=some t):(Ex.cellss ts)[i]?=some t.cells:=by rw [Ex.cellss_map];simp [h]
theorem Al.cellss_get {ts:List Al} {i:Nat} {t:Al} (h:ts[i]?=some t):(Al.cellss ts)[i]?=some t.cells:=by rw [Al.cellss_map];simp [h]
theorem Bi.cellss_get {ts:List Bi} {i:Nat} {t:Bi} (h:ts[i]?=some t):(Bi.cellss ts)[i]?=some t.cells:=by rw [Bi.cellss_map];simp [h]
def Al.e:Al→Ex|.mk _ e=>e
def Al.q:Al→Pa|.mk q _=>q
def Bi.e:Bi→Ex|.mk _ e _=>e
def Bi.s:Bi→ByteArray|.mk s _ _=>s
mutual
def Pa.bare:Pa→Pa
 | .mk k s n ks _=>.mk k s n (Pa.bares ks) 0
def Pa.bares:List Pa→List Pa
 | []=>[]
 | t::ts=>t.bare::Pa.bares ts
end
mutual
def Ex.bare:Ex→Ex
 | .mk k s n t ks al bs _=>.mk k s n t (Ex.bares ks) (Al.bares al) (Bi.bares bs) 0
def Ex.bares:List Ex→List Ex
 | []=>[]
 | t::ts=>t.bare::Ex.bares ts
def Al.bare:Al→Al
 | .mk q e=>.mk q.bare e.bare
def Al.bares:List Al→List Al
 | []=>[]
 | t::ts=>t.bare::Al.bares ts
def Bi.bare:Bi→Bi
 | .mk s e _=>.mk s e.bare 0
def Bi.bares:List Bi→List Bi
 | []=>[]
 | t::ts=>t.bare::Bi.bares ts
end
theorem Pa.lt_kid {x:Pa} {k n p:Int} {s:ByteArray} {ks:List Pa} (h:x∈ks):SizeOf.sizeOf x<SizeOf.sizeOf (Pa.mk k s n ks p):=by
 have:=List.sizeOf_lt_of_mem h
 simp;omega
section
variable {x:Ex} {a:Al} {b:Bi} {k n p:Int} {s:ByteArray} {t:Ty} {ks:List Ex} {al:List Al} {bs:List Bi}
theorem Ex.lt_kid (h:x∈ks):SizeOf.sizeOf x<SizeOf.sizeOf (Ex.mk k s n t ks al bs p):=by
 have:=List.sizeOf_lt_of_mem h
 simp;omega
theorem Ex.lt_alt (h:a∈al):SizeOf.sizeOf a<SizeOf.sizeOf (Ex.mk k s n t ks al bs p):=by
 have:=List.sizeOf_lt_of_mem h
 simp;omega
theorem Ex.lt_bind (h:b∈bs):SizeOf.sizeOf b<SizeOf.sizeOf (Ex.mk k s n t ks al bs p):=by
 have:=List.sizeOf_lt_of_mem h
 simp;omega
theorem Al.lt_e (a:Al):SizeOf.sizeOf a.e<SizeOf.sizeOf a:=by cases a;simp [Al.e];omega
theorem Bi.lt_e (a:Bi):SizeOf.sizeOf a.e<SizeOf.sizeOf a:=by cases a;simp [Bi.e];omega
end
def Ex.parts:Ex→List Ex
 | .mk k _ _ _ ks al bs _=>(if k=7 then [] else ks)++bs.map Bi.e++(if k=7 then ks else [])++al.map Al.e
theorem Ex.lt_part {e x:Ex} (h:x∈e.parts):SizeOf.sizeOf x<SizeOf.sizeOf e:=by
 obtain ⟨k,s,n,t,ks,al,bs,p⟩:=e
 simp only [Ex.parts,List.mem_append,List.mem_map] at h
 rcases h with ((h|⟨b,hb,rfl⟩)|h)|⟨a,ha,rfl⟩
 ·split at h
  ·simp at h
  exact Ex.lt_kid h
 ·exact Nat.lt_trans (Bi.lt_e b) (Ex.lt_bind hb)
 ·split at h
  ·exact Ex.lt_kid h
  simp at h
 exact Nat.lt_trans (Al.lt_e a) (Ex.lt_alt ha)
def maxOf:List Nat→Nat
 | []=>0
 | x::xs=>max x (maxOf xs)
def Ex.dp (e:Ex):Nat:=1+maxOf (e.parts.attach.map fun x=>Ex.dp x.1)
termination_by SizeOf.sizeOf e
decreasing_by exact Ex.lt_part x.2
theorem sum_mem {l:List Nat} {x:Nat} (h:x∈l):x≤l.sum:=by
 induction l with
 | nil=>simp at h
 | cons y l ih =>
  simp only [List.sum_cons]
  rcases List.mem_cons.1 h with rfl|h
  ·omega
  have:=ih h;omega
theorem sum_take {l:List Nat} {i x:Nat} (h:l[i]?=some x):(l.take (i+1)).sum=(l.take i).sum+x:=by
 rw [List.take_add_one,h];simp
theorem sum_take_le (l:List Nat) (i:Nat):(l.take i).sum≤l.sum:=by
 have:=congrArg List.sum (List.take_append_drop i l)
 rw [List.sum_append] at this;omega
theorem upto_map {α β:Type} (f:α→β) {xs ys:List α} {i:Nat} {x y:α} (h:Upto (xs.map f) (ys.map f) i) (hx:xs[i]?=some x) (hy:ys[i]?=some y) (e:f x=f y):Upto (xs.map f) (ys.map f) (i+1) :=
 h.succ (x:=f x) (y:=f y) (by simp [hx]) (by simp [hy]) e
theorem map_ne {α β:Type} (f:α→β) {xs ys:List α} {i:Nat} {x y:α} (hx:xs[i]?=some x) (hy:ys[i]?=some y) (e:¬ f x=f y):¬ xs.map f=ys.map f:=fun q=>e (by
 have:(xs.map f)[i]?=(ys.map f)[i]?:=by rw [q]
 simpa [hx,hy] using this)
theorem map_len_ne {α β:Type} (f:α→β) {xs ys:List α} (h:¬ xs.length=ys.length):¬ xs.map f=ys.map f:=fun q=>h (by simpa using congrArg List.length q)
mutual
inductive Co where
 | mk (k:Int) (s:ByteArray) (n:Int) (t:Ty) (ts:List Ty) (ks:List Co) (al:List Ca) (bs:List Cb)
inductive Ca where
 | mk (q:Pa) (e:Co)
inductive Cb where
 | mk (s:ByteArray) (vs:List ByteArray) (t:Ty) (e:Co)
end
mutual
def Co.cells:Co→List AV
 | .mk k s n t ts ks al bs=>.val (.int .i64 k)::.val (.string s)::.val (.int .i64 n)::(t.cells++[.seq 4 (Ty.cellss ts),.seq 11 (Co.cellss ks),.seq 16 (Ca.cellss al),.seq 17 (Cb.cellss bs)])
def Co.cellss:List Co→List (List AV)
 | []=>[]
 | t::ts=>t.cells::Co.cellss ts
def Ca.cells:Ca→List AV
 | .mk q e=>q.cells++e.cells
def Ca.cellss:List Ca→List (List AV)
 | []=>[]
 | t::ts=>t.cells::Ca.cellss ts
def Cb.cells:Cb→List AV
 | .mk s vs t e=>.val (.string s)::.seq 1 (strs vs)::(t.cells++e.cells)
def Cb.cellss:List Cb→List (List AV)
 | []=>[]
 | t::ts=>t.cells::Cb.cellss ts
end
theorem Co.cellss_map:∀ ts:List Co,Co.cellss ts=ts.map Co.cells
 | []=>by simp [Co.cellss]
 | t::ts=>by simp [Co.cellss,Co.cellss_map ts]
theorem Co.cellss_len (ts:List Co):(Co.cellss ts).length=ts.length:=by rw [Co.cellss_map];simp
theorem Co.cellss_get {ts:List Co} {i:Nat} {t:Co} (h:ts[i]?=some t):(Co.cellss ts)[i]?=some t.cells:=by rw [Co.cellss_map];simp [h]
theorem Co.cellss_app (a b:List Co):Co.cellss (a++b)=Co.cellss a++Co.cellss b:=by simp [Co.cellss_map]
theorem Ca.cellss_map:∀ ts:List Ca,Ca.cellss ts=ts.map Ca.cells
 | []=>by simp [Ca.cellss]
 | t::ts=>by simp [Ca.cellss,Ca.cellss_map ts]
theorem Ca.cellss_len (ts:List Ca):(Ca.cellss ts).length=ts.length:=by rw [Ca.cellss_map];simp
theorem Ca.cellss_get {ts:List Ca} {i:Nat} {t:Ca} (h:ts[i]?=some t):(Ca.cellss ts)[i]?=some t.cells:=by rw [Ca.cellss_map];simp [h]
theorem Ca.cellss_app (a b:List Ca):Ca.cellss (a++b)=Ca.cellss a++Ca.cellss b:=by simp [Ca.cellss_map]
theorem Cb.cellss_map:∀ ts:List Cb,Cb.cellss ts=ts.map Cb.cells
 | []=>by simp [Cb.cellss]
 | t::ts=>by simp [Cb.cellss,Cb.cellss_map ts]
theorem Cb.cellss_len (ts:List Cb):(Cb.cellss ts).length=ts.length:=by rw [Cb.cellss_map];simp
theorem Cb.cellss_get {ts:List Cb} {i:Nat} {t:Cb} (h:ts[i]?=some t):(Cb.cellss ts)[i]?=some t.cells:=by rw [Cb.cellss_map];simp [h]
theorem Cb.cellss_app (a b:List Cb):Cb.cellss (a++b)=Cb.cellss a++Cb.cellss b:=by simp [Cb.cellss_map]
def Ca.e:Ca→Co|.mk _ e=>e
def Ca.q:Ca→Pa|.mk q _=>q
def Cb.s:Cb→ByteArray|.mk s _ _ _=>s
def Cb.vs:Cb→List ByteArray|.mk _ vs _ _=>vs
def Cb.t:Cb→Ty|.mk _ _ t _=>t
def Cb.e:Cb→Co|.mk _ _ _ e=>e
def Co.k:Co→Int|.mk k _ _ _ _ _ _ _=>k
def Co.s:Co→ByteArray|.mk _ s _ _ _ _ _ _=>s
def Co.n:Co→Int|.mk _ _ n _ _ _ _ _=>n
def Co.t:Co→Ty|.mk _ _ _ t _ _ _ _=>t
def Co.ts:Co→List Ty|.mk _ _ _ _ ts _ _ _=>ts
def Co.ks:Co→List Co|.mk _ _ _ _ _ ks _ _=>ks
def Co.al:Co→List Ca|.mk _ _ _ _ _ _ al _=>al
def Co.bs:Co→List Cb|.mk _ _ _ _ _ _ _ bs=>bs
mutual
def Co.bare:Co→Co
 | .mk k s n t ts ks al bs=>.mk k s n t ts (Co.bares ks) (Ca.bares al) (Cb.bares bs)
def Co.bares:List Co→List Co
 | []=>[]
 | t::ts=>t.bare::Co.bares ts
def Ca.bare:Ca→Ca
 | .mk q e=>.mk q.bare e.bare
def Ca.bares:List Ca→List Ca
 | []=>[]
 | t::ts=>t.bare::Ca.bares ts
def Cb.bare:Cb→Cb
 | .mk s vs t e=>.mk s vs t e.bare
def Cb.bares:List Cb→List Cb
 | []=>[]
 | t::ts=>t.bare::Cb.bares ts
end
section
variable {x:Co} {a:Ca} {b:Cb} {k n:Int} {s:ByteArray} {t:Ty} {ts:List Ty} {ks:List Co} {al:List Ca} {bs:List Cb}
theorem Co.lt_kid (h:x∈ks):SizeOf.sizeOf x<SizeOf.sizeOf (Co.mk k s n t ts ks al bs):=by
 have:=List.sizeOf_lt_of_mem h
 simp;omega
theorem Co.lt_alt (h:a∈al):SizeOf.sizeOf a<SizeOf.sizeOf (Co.mk k s n t ts ks al bs):=by
 have:=List.sizeOf_lt_of_mem h
 simp;omega
theorem Co.lt_bind (h:b∈bs):SizeOf.sizeOf b<SizeOf.sizeOf (Co.mk k s n t ts ks al bs):=by
 have:=List.sizeOf_lt_of_mem h
 simp;omega
theorem Ca.lt_e (a:Ca):SizeOf.sizeOf a.e<SizeOf.sizeOf a:=by cases a;simp [Ca.e];omega
theorem Cb.lt_e (a:Cb):SizeOf.sizeOf a.e<SizeOf.sizeOf a:=by cases a;simp [Cb.e];omega
end
mutual
def Co.size:Co→Nat
 | .mk _ _ _ _ _ ks al bs=>1+Co.sizes ks+Ca.sizes al+Cb.sizes bs
def Co.sizes:List Co→Nat
 | []=>0
 | t::ts=>t.size+Co.sizes ts
def Ca.size:Ca→Nat
 | .mk _ e=>e.size
def Ca.sizes:List Ca→Nat
 | []=>0
 | t::ts=>t.size+Ca.sizes ts
def Cb.size:Cb→Nat
 | .mk _ _ _ e=>e.size
def Cb.sizes:List Cb→Nat
 | []=>0
 | t::ts=>t.size+Cb.sizes ts
end
mutual
def Co.all:Co→List Co
 | .mk k s n t ts ks al bs=>.mk k s n t ts ks al bs::(Co.alls ks++(Ca.alls al++Cb.alls bs))
def Co.alls:List Co→List Co
 | []=>[]
 | t::ts=>t.all++Co.alls ts
def Ca.all:Ca→List Co
 | .mk _ e=>e.all
def Ca.alls:List Ca→List Co
 | []=>[]
 | t::ts=>t.all++Ca.alls ts
def Cb.all:Cb→List Co
 | .mk _ _ _ e=>e.all
def Cb.alls:List Cb→List Co
 | []=>[]
 | t::ts=>t.all++Cb.alls ts
end
mutual
theorem Co.all_len:∀ e:Co,e.all.length=e.size
 | .mk k s n t ts ks al bs=>by rw [Co.all,Co.size,List.length_cons,List.length_append,List.length_append,Co.alls_len ks,Ca.alls_len al,Cb.alls_len bs];omega
theorem Co.alls_len:∀ l:List Co,(Co.alls l).length=Co.sizes l
 | []=>rfl
 | t::ts=>by rw [Co.alls,Co.sizes,List.length_append,Co.all_len t,Co.alls_len ts]
theorem Ca.all_len:∀ e:Ca,e.all.length=e.size
 | .mk q e=>by rw [Ca.all,Ca.size,Co.all_len e]
theorem Ca.alls_len:∀ l:List Ca,(Ca.alls l).length=Ca.sizes l
 | []=>rfl
 | t::ts=>by rw [Ca.alls,Ca.sizes,List.length_append,Ca.all_len t,Ca.alls_len ts]
theorem Cb.all_len:∀ e:Cb,e.all.length=e.size
 | .mk s vs t e=>by rw [Cb.all,Cb.size,Co.all_len e]
theorem Cb.alls_len:∀ l:List Cb,(Cb.alls l).length=Cb.sizes l
 | []=>rfl
 | t::ts=>by rw [Cb.alls,Cb.sizes,List.length_append,Cb.all_len t,Cb.alls_len ts]
end
theorem Co.size_mem:∀ {l:List Co} {x:Co},x∈l→x.size≤Co.sizes l
 | y::l,x,h=>by
  rw [Co.sizes]
  rcases List.mem_cons.1 h with rfl|h
  ·omega
  have:=Co.size_mem h;omega
theorem Ca.size_mem:∀ {l:List Ca} {x:Ca},x∈l→x.size≤Ca.sizes l
 | y::l,x,h=>by
  rw [Ca.sizes]
  rcases List.mem_cons.1 h with rfl|h
  ·omega
  have:=Ca.size_mem h;omega
theorem Cb.size_mem:∀ {l:List Cb} {x:Cb},x∈l→x.size≤Cb.sizes l
 | y::l,x,h=>by
  rw [Cb.sizes]
  rcases List.mem_cons.1 h with rfl|h
  ·omega
  have:=Cb.size_mem h;omega
abbrev Txt:=ByteArray
mutual
def Pa.names:Pa→List Txt
 | .mk k s _ ks _=>(if k=2 then [s] else [])++Pa.namess ks
def Pa.namess:List Pa→List Txt
 | []=>[]
 | t::ts=>t.names++Pa.namess ts
end
mutual
def Pa.size:Pa→Nat
 | .mk _ _ _ ks _=>1+Pa.sizes ks
def Pa.sizes:List Pa→Nat
 | []=>0
 | t::ts=>t.size+Pa.sizes ts
end
theorem Pa.sizes_map:∀ ts:List Pa,Pa.sizes ts=(ts.map Pa.size).sum
 | []=>by simp [Pa.sizes]
 | t::ts=>by simp [Pa.sizes,Pa.sizes_map ts]
theorem Pa.namess_flat:∀ ts:List Pa,Pa.namess ts=(ts.map Pa.names).flatten
 | []=>by simp [Pa.namess]
 | t::ts=>by simp [Pa.namess,Pa.namess_flat ts]
mutual
theorem Pa.names_len:∀ q:Pa,q.names.length≤q.size
 | .mk k s n ks p=>by
  have:=Pa.namess_len ks
  rw [Pa.names,Pa.size,List.length_append]
  split <;> simp <;> omega
theorem Pa.namess_len:∀ qs:List Pa,(Pa.namess qs).length≤Pa.sizes qs
 | []=>by simp [Pa.namess]
 | q::qs=>by
  have h1:=Pa.names_len q
  have h2:=Pa.namess_len qs
  rw [Pa.namess,Pa.sizes,List.length_append];omega
end
theorem Pa.size_kid {x:Pa} {ks:List Pa} (h:x∈ks):x.size≤Pa.sizes ks:=by
 rw [Pa.sizes_map];exact sum_mem (List.mem_map.2 ⟨x,h,rfl⟩)
theorem Pa.namess_take {ts:List Pa} {i:Nat} {x:Pa} (h:ts[i]?=some x):Pa.namess (ts.take (i+1))=Pa.namess (ts.take i)++x.names:=by
 rw [Pa.namess_flat,Pa.namess_flat,List.take_add_one,h];simp
theorem Pa.sizes_take {ts:List Pa} {i:Nat} {x:Pa} (h:ts[i]?=some x):Pa.sizes (ts.take i)+x.size≤Pa.sizes ts:=by
 have h1:(ts.map Pa.size)[i]?=some x.size:=by simp [h]
 have h2:=sum_take h1
 have h3:=sum_take_le (ts.map Pa.size) (i+1)
 rw [Pa.sizes_map,Pa.sizes_map,List.map_take];omega
mutual
def Ex.w:Ex→Nat
 | .mk _ _ _ _ ks al bs _=>1+Ex.ws ks+Al.ws al+Bi.ws bs
def Ex.ws:List Ex→Nat
 | []=>0
 | t::ts=>t.w+Ex.ws ts
def Al.w:Al→Nat
 | .mk q e=>q.size+e.w
def Al.ws:List Al→Nat
 | []=>0
 | t::ts=>t.w+Al.ws ts
def Bi.w:Bi→Nat
 | .mk _ e _=>1+e.w
def Bi.ws:List Bi→Nat
 | []=>0
 | t::ts=>t.w+Bi.ws ts
end
abbrev Bi.names (bs:List Bi):List Txt:=bs.map Bi.s
mutual
noncomputable def Ex.fr:Ex→List Txt→List Txt→List Txt
 | .mk k s n _ ks al bs _,bd,out =>
  Al.frs al bd (if k=7 then (if n=1 then Ex.frs ks (bd++Bi.names bs) (Bi.frs bs (bd++Bi.names bs) (if k=3∧s∉bd∧s∉out then out++[s] else out)) else Ex.frs ks (bd++Bi.names bs) (Bi.frs bs bd (if k=3∧s∉bd∧s∉out then out++[s] else out)))
   else if k=6 then Bi.frs bs bd (Ex.frs ks (bd++[s]) (if k=3∧s∉bd∧s∉out then out++[s] else out))
   else Bi.frs bs bd (Ex.frs ks bd (if k=3∧s∉bd∧s∉out then out++[s] else out)))
noncomputable def Ex.frs:List Ex→List Txt→List Txt→List Txt
 | [],_,out=>out
 | t::ts,bd,out=>Ex.frs ts bd (t.fr bd out)
noncomputable def Al.fr:Al→List Txt→List Txt→List Txt
 | .mk q e,bd,out=>e.fr (bd++q.names) out
noncomputable def Al.frs:List Al→List Txt→List Txt→List Txt
 | [],_,out=>out
 | t::ts,bd,out=>Al.frs ts bd (t.fr bd out)
noncomputable def Bi.fr:Bi→List Txt→List Txt→List Txt
 | .mk _ e _,bd,out=>e.fr bd out
noncomputable def Bi.frs:List Bi→List Txt→List Txt→List Txt
 | [],_,out=>out
 | t::ts,bd,out=>Bi.frs ts bd (t.fr bd out)
end
def Ty.kn:Ty→Nat|.mk _ _ _ ks=>ks.length
def Pa.kn:Pa→Nat|.mk _ _ _ ks _=>ks.length
mutual
def Ex.full:Ex→Nat
 | .mk _ _ _ t ks al bs _=>1+t.kn+Ex.fulls ks+Bi.fulls bs+Al.fulls al
def Ex.fulls:List Ex→Nat
 | []=>0
 | x::xs=>x.full+Ex.fulls xs
def Bi.full:Bi→Nat
 | .mk _ e _=>1+e.full
def Bi.fulls:List Bi→Nat
 | []=>0
 | x::xs=>x.full+Bi.fulls xs
def Al.full:Al→Nat
 | .mk q e=>1+e.full+q.kn
def Al.fulls:List Al→Nat
 | []=>0
 | x::xs=>x.full+Al.fulls xs
end
mutual
def Ex.Lim:Ex→Prop
 | .mk _ _ _ t ks al bs _=>t.kn≤140737488355328∧Ex.Lims ks∧Bi.Lims bs∧Al.Lims al
def Ex.Lims:List Ex→Prop
 | []=>True
 | x::xs=>x.Lim∧Ex.Lims xs
def Bi.Lim:Bi→Prop
 | .mk _ e _=>e.Lim
def Bi.Lims:List Bi→Prop
 | []=>True
 | x::xs=>x.Lim∧Bi.Lims xs
def Al.Lim:Al→Prop
 | .mk q e=>e.Lim∧q.kn≤140737488355328
def Al.Lims:List Al→Prop
 | []=>True
 | x::xs=>x.Lim∧Al.Lims xs
end
theorem Ex.lims_iff:∀ l:List Ex,Ex.Lims l↔∀ x∈l,x.Lim
 | []=>by simp [Ex.Lims]
 | x::l=>by simp [Ex.Lims,Ex.lims_iff l]
theorem Bi.lims_iff:∀ l:List Bi,Bi.Lims l↔∀ x∈l,x.Lim
 | []=>by simp [Bi.Lims]
 | x::l=>by simp [Bi.Lims,Bi.lims_iff l]
theorem Al.lims_iff:∀ l:List Al,Al.Lims l↔∀ x∈l,x.Lim
 | []=>by simp [Al.Lims]
 | x::l=>by simp [Al.Lims,Al.lims_iff l]
mutual
def Ex.cnt:Ex→Int→Int
 | .mk _ _ _ t ks al bs _,m=>Al.cnts al m (Bi.cnts bs m (Ex.cnts ks m (1+t.kn)))
def Ex.cnts:List Ex→Int→Int→Int
 | [],_,n=>n
 | x::xs,m,n=>if n<m then Ex.cnts xs m (n+x.cnt (m - n)) else n
def Bi.cnt:Bi→Int→Int
 | .mk _ e _,m=>1+e.cnt m
def Bi.cnts:List Bi→Int→Int→Int
 | [],_,n=>n
 | x::xs,m,n=>if n<m then Bi.cnts xs m (n+x.cnt (m - n)) else n
def Al.cnt:Al→Int→Int
 | .mk q e,m=>1+e.cnt m+q.kn
def Al.cnts:List Al→Int→Int→Int
 | [],_,n=>n
 | x::xs,m,n=>if n<m then Al.cnts xs m (n+x.cnt (m - n)) else n
end
theorem Ex.cnts_end {l:List Ex} {i:Nat} {m n:Int} (h:l.length≤i∨m≤n):Ex.cnts (l.drop i) m n=n:=by
 rcases h with h|h
 ·rw [List.drop_eq_nil_of_le h,Ex.cnts]
 cases l.drop i with
 | nil=>rw [Ex.cnts]
 | cons x l=>rw [Ex.cnts,if_neg by17]
theorem Bi.cnts_end {l:List Bi} {i:Nat} {m n:Int} (h:l.length≤i∨m≤n):Bi.cnts (l.drop i) m n=n:=by
 rcases h with h|h
 ·rw [List.drop_eq_nil_of_le h,Bi.cnts]
 cases l.drop i with
 | nil=>rw [Bi.cnts]
 | cons x l=>rw [Bi.cnts,if_neg by17]
theorem Al.cnts_end {l:List Al} {i:Nat} {m n:Int} (h:l.length≤i∨m≤n):Al.cnts (l.drop i) m n=n:=by
 rcases h with h|h
 ·rw [List.drop_eq_nil_of_le h,Al.cnts]
 cases l.drop i with
 | nil=>rw [Al.cnts]
 | cons x l=>rw [Al.cnts,if_neg by17]
theorem drop_get {α:Type} {l:List α} {i:Nat} {x:α} (h:l[i]?=some x):l.drop i=x::l.drop (i+1):=by
 obtain ⟨hi,rfl⟩:=List.getElem?_eq_some_iff.1 h
 exact List.drop_eq_getElem_cons hi
mutual
theorem Ex.cnt_b:∀ (e:Ex) (m:Int),e.Lim→1≤m→m≤2000→1≤e.cnt m∧e.cnt m≤562949953421312 * m∧e.cnt m≤e.full∧(e.cnt m<m→e.cnt m=e.full)
 | .mk k s n t ks al bs p,m=>by
  intro hl h1 h2
  rw [Ex.Lim] at hl
  obtain ⟨l1,l2,l3,l4⟩:=hl
  rw [Ex.cnt,Ex.full]
  obtain ⟨a1,a2,a3,a4⟩:=Ex.cnts_b ks m (1+t.kn) l2 h1 h2 by17 by17
  generalize Ex.cnts ks m (1+t.kn)=n1 at *
  obtain ⟨b1,b2,b3,b4⟩:=Bi.cnts_b bs m n1 l3 h1 h2 by17 by17
  generalize Bi.cnts bs m n1=n2 at *
  obtain ⟨c1,c2,c3,c4⟩:=Al.cnts_b al m n2 l4 h1 h2 by17 by17
  generalize Al.cnts al m n2=n3 at *
  omega
theorem Ex.cnts_b:∀ (l:List Ex) (m n:Int),Ex.Lims l→1≤m→m≤2000→1≤n→n≤562949953421312 * m→n≤Ex.cnts l m n∧Ex.cnts l m n≤562949953421312 * m∧Ex.cnts l m n≤n+Ex.fulls l∧(Ex.cnts l m n<m→Ex.cnts l m n=n+Ex.fulls l)
 | [],m,n=>by intro _ _ _ _ _;simp only [Ex.cnts,Ex.fulls];omega
 | x::xs,m,n=>by
  intro hl h1 h2 h3 h4
  rw [Ex.Lims] at hl
  rw [Ex.cnts,Ex.fulls]
  split
  ·rename_i h
   obtain ⟨a1,a2,a3,a4⟩:=Ex.cnt_b x (m - n) hl.1 by17 by17
   generalize x.cnt (m - n)=c at *
   obtain ⟨b1,b2,b3,b4⟩:=Ex.cnts_b xs m (n+c) hl.2 h1 h2 by17 by17
   generalize Ex.cnts xs m (n+c)=r at *
   omega
  omega
theorem Bi.cnt_b:∀ (e:Bi) (m:Int),e.Lim→1≤m→m≤2000→2≤e.cnt m∧e.cnt m≤1+562949953421312 * m∧e.cnt m≤e.full∧(e.cnt m<m→e.cnt m=e.full)
 | .mk s e p,m=>by
  intro hl h1 h2
  rw [Bi.Lim] at hl
  rw [Bi.cnt,Bi.full]
  have:=Ex.cnt_b e m hl h1 h2
  omega
theorem Bi.cnts_b:∀ (l:List Bi) (m n:Int),Bi.Lims l→1≤m→m≤2000→1≤n→n≤562949953421312 * m→n≤Bi.cnts l m n∧Bi.cnts l m n≤562949953421312 * m∧Bi.cnts l m n≤n+Bi.fulls l∧(Bi.cnts l m n<m→Bi.cnts l m n=n+Bi.fulls l)
 | [],m,n=>by intro _ _ _ _ _;simp only [Bi.cnts,Bi.fulls];omega
 | x::xs,m,n=>by
  intro hl h1 h2 h3 h4
  rw [Bi.Lims] at hl
  rw [Bi.cnts,Bi.fulls]
  split
  ·rename_i h
   obtain ⟨a1,a2,a3,a4⟩:=Bi.cnt_b x (m - n) hl.1 by17 by17
   generalize x.cnt (m - n)=c at *
   obtain ⟨b1,b2,b3,b4⟩:=Bi.cnts_b xs m (n+c) hl.2 h1 h2 by17 by17
   generalize Bi.cnts xs m (n+c)=r at *
   omega
  omega
theorem Al.cnt_b:∀ (e:Al) (m:Int),e.Lim→1≤m→m≤2000→2≤e.cnt m∧e.cnt m≤1+562949953421312 * m+140737488355328∧e.cnt m≤e.full∧(e.cnt m<m→e.cnt m=e.full)
 | .mk q e,m=>by
  intro hl h1 h2
  rw [Al.Lim] at hl
  rw [Al.cnt,Al.full]
  have:=Ex.cnt_b e m hl.1 h1 h2
  omega
theorem Al.cnts_b:∀ (l:List Al) (m n:Int),Al.Lims l→1≤m→m≤2000→1≤n→n≤562949953421312 * m→n≤Al.cnts l m n∧Al.cnts l m n≤562949953421312 * m∧Al.cnts l m n≤n+Al.fulls l∧(Al.cnts l m n<m→Al.cnts l m n=n+Al.fulls l)
 | [],m,n=>by intro _ _ _ _ _;simp only [Al.cnts,Al.fulls];omega
 | x::xs,m,n=>by
  intro hl h1 h2 h3 h4
  rw [Al.Lims] at hl
  rw [Al.cnts,Al.fulls]
  split
  ·rename_i h
   obtain ⟨a1,a2,a3,a4⟩:=Al.cnt_b x (m - n) hl.1 by17 by17
   generalize x.cnt (m - n)=c at *
   obtain ⟨b1,b2,b3,b4⟩:=Al.cnts_b xs m (n+c) hl.2 h1 h2 by17 by17
   generalize Al.cnts xs m (n+c)=r at *
   omega
  omega
end
theorem Ex.cellss_app (a b:List Ex):Ex.cellss (a++b)=Ex.cellss a++Ex.cellss b:=by simp [Ex.cellss_map]
mutual
def Co.full:Co→Nat
 | .mk _ _ _ _ ts ks al bs=>1+ts.length+Co.fulls ks+Ca.fulls al+Cb.fulls bs
def Co.fulls:List Co→Nat
 | []=>0
 | x::xs=>x.full+Co.fulls xs
def Ca.full:Ca→Nat
 | .mk q e=>1+e.full+q.kn
def Ca.fulls:List Ca→Nat
 | []=>0
 | x::xs=>x.full+Ca.fulls xs
def Cb.full:Cb→Nat
 | .mk _ vs _ e=>1+e.full+vs.length
def Cb.fulls:List Cb→Nat
 | []=>0
 | x::xs=>x.full+Cb.fulls xs
end
mutual
def Co.Lim:Co→Prop
 | .mk _ _ _ _ ts ks al bs=>ts.length≤140737488355328∧Co.Lims ks∧Ca.Lims al∧Cb.Lims bs
def Co.Lims:List Co→Prop
 | []=>True
 | x::xs=>x.Lim∧Co.Lims xs
def Ca.Lim:Ca→Prop
 | .mk q e=>e.Lim∧q.kn≤140737488355328
def Ca.Lims:List Ca→Prop
 | []=>True
 | x::xs=>x.Lim∧Ca.Lims xs
def Cb.Lim:Cb→Prop
 | .mk _ vs _ e=>e.Lim∧vs.length≤140737488355328
def Cb.Lims:List Cb→Prop
 | []=>True
 | x::xs=>x.Lim∧Cb.Lims xs
end
mutual
def Co.Ok:Co→Prop
 | .mk _ _ _ t ts ks al bs=>t.small 60=true∧(ts.all fun t=>t.small 60)=true∧Co.Oks ks∧Ca.Oks al∧Cb.Oks bs
def Co.Oks:List Co→Prop
 | []=>True
 | x::xs=>x.Ok∧Co.Oks xs
def Ca.Ok:Ca→Prop
 | .mk _ e=>e.Ok
def Ca.Oks:List Ca→Prop
 | []=>True
 | x::xs=>x.Ok∧Ca.Oks xs
def Cb.Ok:Cb→Prop
 | .mk _ _ t e=>t.small 60=true∧e.Ok
def Cb.Oks:List Cb→Prop
 | []=>True
 | x::xs=>x.Ok∧Cb.Oks xs
end
theorem Co.lims_iff:∀ l:List Co,Co.Lims l↔∀ x∈l,x.Lim
 | []=>by simp [Co.Lims]
 | x::l=>by simp [Co.Lims,Co.lims_iff l]
theorem Ca.lims_iff:∀ l:List Ca,Ca.Lims l↔∀ x∈l,x.Lim
 | []=>by simp [Ca.Lims]
 | x::l=>by simp [Ca.Lims,Ca.lims_iff l]
theorem Cb.lims_iff:∀ l:List Cb,Cb.Lims l↔∀ x∈l,x.Lim
 | []=>by simp [Cb.Lims]
 | x::l=>by simp [Cb.Lims,Cb.lims_iff l]
mutual
def Co.cnt:Co→Int→Int
 | .mk _ _ _ t ts ks al bs,m=>if t.small 60=false then m else if (ts.all fun t=>t.small 60)=false then m else Cb.cnts bs m (Ca.cnts al m (Co.cnts ks m (1+ts.length)))
def Co.cnts:List Co→Int→Int→Int
 | [],_,n=>n
 | x::xs,m,n=>if n<m then Co.cnts xs m (n+x.cnt (m - n)) else n
def Ca.cnt:Ca→Int→Int
 | .mk q e,m=>1+e.cnt m+q.kn
def Ca.cnts:List Ca→Int→Int→Int
 | [],_,n=>n
 | x::xs,m,n=>if n<m then Ca.cnts xs m (n+x.cnt (m - n)) else n
def Cb.cnt:Cb→Int→Int
 | .mk _ vs _ e,m=>1+e.cnt m+vs.length
def Cb.cnts:List Cb→Int→Int→Int
 | [],_,n=>n
 | x::xs,m,n=>if n<m then (if x.t.small 60=false then m else Cb.cnts xs m (n+x.cnt (m - n))) else n
end
theorem Co.cnts_end {l:List Co} {i:Nat} {m n:Int} (h:¬ (i<l.length∧n<m)):Co.cnts (l.drop i) m n=n:=by
 by_cases q:i<l.length
 ·cases l.drop i with
  | nil=>rw [Co.cnts]
  | cons x l=>rw [Co.cnts,if_neg by17]
 rw [List.drop_eq_nil_of_le by17,Co.cnts]
theorem Ca.cnts_end {l:List Ca} {i:Nat} {m n:Int} (h:¬ (i<l.length∧n<m)):Ca.cnts (l.drop i) m n=n:=by
 by_cases q:i<l.length
 ·cases l.drop i with
  | nil=>rw [Ca.cnts]
  | cons x l=>rw [Ca.cnts,if_neg by17]
 rw [List.drop_eq_nil_of_le by17,Ca.cnts]
theorem Cb.cnts_end {l:List Cb} {i:Nat} {m n:Int} (h:¬ (i<l.length∧n<m)):Cb.cnts (l.drop i) m n=n:=by
 by_cases q:i<l.length
 ·cases l.drop i with
  | nil=>rw [Cb.cnts]
  | cons x l=>rw [Cb.cnts,if_neg by17]
 rw [List.drop_eq_nil_of_le by17,Cb.cnts]
mutual
theorem Co.cnt_b:∀ (e:Co) (m:Int),e.Lim→1≤m→m≤2000→1≤e.cnt m∧e.cnt m≤562949953421312 * m∧(e.cnt m<m→e.cnt m=e.full∧e.Ok)
 | .mk k s n t ts ks al bs,m=>by
  intro hl h1 h2
  rw [Co.Lim] at hl
  obtain ⟨l1,l2,l3,l4⟩:=hl
  rw [Co.cnt,Co.full,Co.Ok]
  by_cases q:t.small 60=false
  ·rw [if_pos q]
   exact ⟨h1,by omega,fun h=>absurd h by17⟩
  rw [if_neg q]
  by_cases q2:(ts.all fun t=>t.small 60)=false
  ·rw [if_pos q2]
   exact ⟨h1,by omega,fun h=>absurd h by17⟩
  rw [if_neg q2]
  have q:t.small 60=true:=by simpa using q
  have q2:(ts.all fun t=>t.small 60)=true:=by simpa using q2
  obtain ⟨a1,a2,a4⟩:=Co.cnts_b ks m (1+ts.length) l2 h1 h2 by17 by17
  generalize Co.cnts ks m (1+ts.length)=n1 at *
  obtain ⟨b1,b2,b4⟩:=Ca.cnts_b al m n1 l3 h1 h2 by17 by17
  generalize Ca.cnts al m n1=n2 at *
  obtain ⟨c1,c0,c2,c4⟩:=Cb.cnts_b bs m n2 l4 h1 h2 by17 by17
  generalize Cb.cnts bs m n2=n3 at *
  refine ⟨c0,c2,fun h=>?_⟩
  obtain ⟨_,c5,c6⟩:=c4 h
  obtain ⟨b5,b6⟩:=b4 by17
  obtain ⟨a5,a6⟩:=a4 by17
  exact ⟨by omega,q,q2,a6,b6,c6⟩
theorem Co.cnts_b:∀ (l:List Co) (m n:Int),Co.Lims l→1≤m→m≤2000→1≤n→n≤562949953421312 * m→n≤Co.cnts l m n∧Co.cnts l m n≤562949953421312 * m∧(Co.cnts l m n<m→Co.cnts l m n=n+Co.fulls l∧Co.Oks l)
 | [],m,n=>by intro _ _ _ _ h;simp only [Co.cnts,Co.fulls,Co.Oks];exact ⟨by omega,h,fun _=>⟨by omega,trivial⟩⟩
 | x::xs,m,n=>by
  intro hl h1 h2 h3 h4
  rw [Co.Lims] at hl
  rw [Co.cnts,Co.fulls,Co.Oks]
  split
  ·rename_i h
   obtain ⟨a1,a2,a4⟩:=Co.cnt_b x (m - n) hl.1 by17 by17
   generalize x.cnt (m - n)=c at *
   obtain ⟨b1,b2,b4⟩:=Co.cnts_b xs m (n+c) hl.2 h1 h2 by17 by17
   generalize Co.cnts xs m (n+c)=r at *
   refine ⟨by omega,b2,fun h=>?_⟩
   obtain ⟨b5,b6⟩:=b4 h
   obtain ⟨a5,a6⟩:=a4 by17
   exact ⟨by omega,a6,b6⟩
  rename_i h
  exact ⟨by omega,h4,fun q=>absurd q h⟩
theorem Ca.cnt_b:∀ (e:Ca) (m:Int),e.Lim→1≤m→m≤2000→2≤e.cnt m∧e.cnt m≤1+562949953421312 * m+140737488355328∧(e.cnt m<m→e.cnt m=e.full∧e.Ok)
 | .mk q e,m=>by
  intro hl h1 h2
  rw [Ca.Lim] at hl
  rw [Ca.cnt,Ca.full,Ca.Ok]
  obtain ⟨a1,a2,a4⟩:=Co.cnt_b e m hl.1 h1 h2
  refine ⟨by omega,by omega,fun h=>?_⟩
  obtain ⟨a5,a6⟩:=a4 by17
  exact ⟨by omega,a6⟩
theorem Ca.cnts_b:∀ (l:List Ca) (m n:Int),Ca.Lims l→1≤m→m≤2000→1≤n→n≤562949953421312 * m→n≤Ca.cnts l m n∧Ca.cnts l m n≤562949953421312 * m∧(Ca.cnts l m n<m→Ca.cnts l m n=n+Ca.fulls l∧Ca.Oks l)
 | [],m,n=>by intro _ _ _ _ h;simp only [Ca.cnts,Ca.fulls,Ca.Oks];exact ⟨by omega,h,fun _=>⟨by omega,trivial⟩⟩
 | x::xs,m,n=>by
  intro hl h1 h2 h3 h4
  rw [Ca.Lims] at hl
  rw [Ca.cnts,Ca.fulls,Ca.Oks]
  split
  ·rename_i h
   obtain ⟨a1,a2,a4⟩:=Ca.cnt_b x (m - n) hl.1 by17 by17
   generalize x.cnt (m - n)=c at *
   obtain ⟨b1,b2,b4⟩:=Ca.cnts_b xs m (n+c) hl.2 h1 h2 by17 by17
   generalize Ca.cnts xs m (n+c)=r at *
   refine ⟨by omega,b2,fun h=>?_⟩
   obtain ⟨b5,b6⟩:=b4 h
   obtain ⟨a5,a6⟩:=a4 by17
   exact ⟨by omega,a6,b6⟩
  rename_i h
  exact ⟨by omega,h4,fun q=>absurd q h⟩
theorem Cb.cnt_b:∀ (e:Cb) (m:Int),e.Lim→1≤m→m≤2000→2≤e.cnt m∧e.cnt m≤1+562949953421312 * m+140737488355328∧(e.cnt m<m→e.cnt m=e.full∧e.e.Ok)
 | .mk s vs t e,m=>by
  intro hl h1 h2
  rw [Cb.Lim] at hl
  rw [Cb.cnt,Cb.full,Cb.e]
  obtain ⟨a1,a2,a4⟩:=Co.cnt_b e m hl.1 h1 h2
  refine ⟨by omega,by omega,fun h=>?_⟩
  obtain ⟨a5,a6⟩:=a4 by17
  exact ⟨by omega,a6⟩
theorem Cb.cnts_b:∀ (l:List Cb) (m n:Int),Cb.Lims l→1≤m→m≤2000→1≤n→n≤562949953421312 * m→(n<m→n≤Cb.cnts l m n)∧1≤Cb.cnts l m n∧Cb.cnts l m n≤562949953421312 * m∧(Cb.cnts l m n<m→n≤Cb.cnts l m n∧Cb.cnts l m n=n+Cb.fulls l∧Cb.Oks l)
 | [],m,n=>by intro _ _ _ h0 h;simp only [Cb.cnts,Cb.fulls,Cb.Oks];exact ⟨fun _=>by omega,h0,h,fun _=>⟨by omega,by omega,trivial⟩⟩
 | .mk s vs t e::xs,m,n=>by
  intro hl h1 h2 h3 h4
  rw [Cb.Lims] at hl
  rw [Cb.cnts,Cb.fulls,Cb.Oks,Cb.Ok]
  split
  ·rename_i h
   split
   ·exact ⟨fun _=>by omega,h1,by omega,fun q=>absurd q by17⟩
   rename_i ht
   obtain ⟨a1,a2,a4⟩:=Cb.cnt_b (.mk s vs t e) (m - n) hl.1 by17 by17
   generalize (Cb.mk s vs t e).cnt (m - n)=c at *
   obtain ⟨b0,b1,b2,b4⟩:=Cb.cnts_b xs m (n+c) hl.2 h1 h2 by17 by17
   generalize Cb.cnts xs m (n+c)=r at *
   have hle:n≤r:=by
    by_cases q:r<m
    ·have:=(b4 q).1;omega
    omega
   refine ⟨fun _=>hle,b1,b2,fun h=>?_⟩
   obtain ⟨b7,b5,b6⟩:=b4 h
   obtain ⟨a5,a6⟩:=a4 by17
   exact ⟨hle,by omega,⟨by simpa [Cb.t] using ht,a6⟩,b6⟩
  rename_i h
  exact ⟨fun q=>absurd q h,h3,h4,fun q=>absurd q h⟩
end
theorem rel_agg' {F:EH} {v:Value} {cs:List AV} (hl:cs.length≠1) (h:Rels F cs v.cells.toList) (h1:Ones v.cells.toList):Rel F (.agg cs) v:=by
 refine rel_agg ?_ h h1
 have:=h.len
 cases v <;> first|exact ⟨_,rfl⟩|(exfalso;exact hl (by rw [this];rfl))
theorem cellsOf_pa:Tryz.prog.cellsOf 67=5:=by kernel_rfl
theorem cellsOf_co:Tryz.prog.cellsOf 29=11:=by kernel_rfl
theorem cellsOf_ca:Tryz.prog.cellsOf 69=16:=by kernel_rfl
theorem cellsOf_cb:Tryz.prog.cellsOf 46=17:=by kernel_rfl
theorem shapeL_ty (L fuel:Nat):∀ cs,ShapeL Tryz.prog L fuel 24 cs→∃ t:Ty,cs=t.cells∧t.kn≤L:=by
 induction fuel using Nat.strongRecOn with
 | _ fuel ih =>
  intro cs h
  obtain ⟨n,hn,h⟩:=shapeL_struct Tryz.underlying24 h
  simp only [ShapeLF] at h
  obtain ⟨a1,b1,rfl,h1,a2,b2,rfl,h2,a3,b3,rfl,h3,a4,b4,rfl,h4,rfl⟩:=h
  obtain ⟨k,_,rfl⟩:=shapeL_int tu_3 h1
  obtain ⟨s,_,rfl⟩:=shapeL_str tu_9 h2
  obtain ⟨m,_,rfl⟩:=shapeL_int tu_3 h3
  obtain ⟨n',es,hn',rfl,hl,h5⟩:=shapeL_slice tu_22 h4
  obtain ⟨ts,rfl,_⟩:=pick_all2 (f:=Ty.cells) (fun x hx=>ih n' by17 x (h5 x hx))
  refine ⟨.mk k s m ts,?_,by rw [Ty.kn];simpa using hl⟩
  rw [cellsOf_ty,← Ty.cellss_map]
  rfl
theorem shapeL_pa (L fuel:Nat):∀ cs,ShapeL Tryz.prog L fuel 67 cs→∃ t:Pa,cs=t.cells∧t.kn≤L:=by
 induction fuel using Nat.strongRecOn with
 | _ fuel ih =>
  intro cs h
  obtain ⟨n,hn,h⟩:=shapeL_struct Tryz.underlying67 h
  simp only [ShapeLF] at h
  obtain ⟨a1,b1,rfl,h1,a2,b2,rfl,h2,a3,b3,rfl,h3,a4,b4,rfl,h4,a5,b5,rfl,h6,rfl⟩:=h
  obtain ⟨k,_,rfl⟩:=shapeL_int tu_3 h1
  obtain ⟨s,_,rfl⟩:=shapeL_str tu_9 h2
  obtain ⟨m,_,rfl⟩:=shapeL_int tu_2 h3
  obtain ⟨p,_,rfl⟩:=shapeL_int tu_3 h6
  obtain ⟨n',es,hn',rfl,hl,h5⟩:=shapeL_slice tu_65 h4
  obtain ⟨ts,rfl,_⟩:=pick_all2 (f:=Pa.cells) (fun x hx=>ih n' by17 x (h5 x hx))
  refine ⟨.mk k s m ts p,?_,by rw [Pa.kn];simpa using hl⟩
  rw [cellsOf_pa,← Pa.cellss_map]
  rfl
theorem shapeL_tys {L fuel:Nat} {cs:List AV} (h:ShapeL Tryz.prog L fuel 22 cs):∃ ts:List Ty,cs=[.seq 4 (Ty.cellss ts)]∧ts.length≤L:=by
 obtain ⟨n',es,hn',rfl,hl,h5⟩:=shapeL_slice tu_22 h
 obtain ⟨ts,rfl,_⟩:=pick_all2 (f:=Ty.cells) (p:=fun _=>True) (fun x hx=>by
  obtain ⟨t,ht,_⟩:=shapeL_ty L n' x (h5 x hx)
  exact ⟨t,ht,trivial⟩)
 exact ⟨ts,by rw [cellsOf_ty,← Ty.cellss_map],by simpa using hl⟩
theorem shapeL_strs {L fuel:Nat} {cs:List AV} (h:ShapeL Tryz.prog L fuel 44 cs):∃ ts:List ByteArray,cs=[.seq 1 (strs ts)]∧ts.length≤L:=by
 obtain ⟨n',es,hn',rfl,hl,h5⟩:=shapeL_slice tu_44 h
 obtain ⟨ts,rfl,_⟩:=pick_all2 (f:=fun s:ByteArray=>[AV.val (.string s)]) (p:=fun _=>True) (fun x hx=>by
  obtain ⟨s,_,rfl⟩:=shapeL_str tu_9 (h5 x hx)
  exact ⟨s,U,trivial⟩)
 exact ⟨ts,by rw [cellsOf_str];rfl,by simpa using hl⟩
theorem shapeL_co (L:Nat) (hL:L≤140737488355328) (fuel:Nat):∀ cs,ShapeL Tryz.prog L fuel 29 cs→∃ e:Co,cs=e.cells∧e.Lim:=by
 induction fuel using Nat.strongRecOn with
 | _ fuel ih =>
  intro cs h
  obtain ⟨n,hn,h⟩:=shapeL_struct Tryz.underlying29 h
  simp only [ShapeLF] at h
  obtain ⟨a1,b1,rfl,h1,a2,b2,rfl,h2,a3,b3,rfl,h3,a4,b4,rfl,h4,a5,b5,rfl,h5,a6,b6,rfl,h6,a7,b7,rfl,h7,a8,b8,rfl,h8,rfl⟩:=h
  obtain ⟨k,_,rfl⟩:=shapeL_int tu_3 h1
  obtain ⟨s,_,rfl⟩:=shapeL_str tu_9 h2
  obtain ⟨m,_,rfl⟩:=shapeL_int tu_2 h3
  obtain ⟨t,rfl,_⟩:=shapeL_ty _ _ _ h4
  obtain ⟨us,rfl,hus⟩:=shapeL_tys h5
  obtain ⟨n6,e6,hn6,rfl,hl6,h6⟩:=shapeL_slice tu_25 h6
  obtain ⟨ks,rfl,hks⟩:=pick_all2 (f:=Co.cells) (fun x hx=>ih n6 by17 x (h6 x hx))
  obtain ⟨n7,e7,hn7,rfl,hl7,h7⟩:=shapeL_slice tu_26 h7
  obtain ⟨al,rfl,hal⟩:=pick_all2 (f:=Ca.cells) (p:=Ca.Lim) (fun x hx=>by
   obtain ⟨n',hn',g⟩:=shapeL_struct Tryz.underlying69 (h7 x hx)
   simp only [ShapeLF] at g
   obtain ⟨a1,b1,rfl,g1,a2,b2,rfl,g2,rfl⟩:=g
   obtain ⟨q,rfl,hq⟩:=shapeL_pa _ _ _ g1
   obtain ⟨e,rfl,he⟩:=ih n' by17 _ g2
   exact ⟨.mk q e,by simp [Ca.cells],by rw [Ca.Lim];exact ⟨he,by omega⟩⟩)
  obtain ⟨n8,e8,hn8,rfl,hl8,h8⟩:=shapeL_slice tu_27 h8
  obtain ⟨bs,rfl,hbs⟩:=pick_all2 (f:=Cb.cells) (p:=Cb.Lim) (fun x hx=>by
   obtain ⟨n',hn',g⟩:=shapeL_struct Tryz.underlying46 (h8 x hx)
   simp only [ShapeLF] at g
   obtain ⟨a1,b1,rfl,g1,a2,b2,rfl,g2,a3,b3,rfl,g3,a4,b4,rfl,g4,rfl⟩:=g
   obtain ⟨s,_,rfl⟩:=shapeL_str tu_9 g1
   obtain ⟨vs,rfl,hvs⟩:=shapeL_strs g2
   obtain ⟨t,rfl,_⟩:=shapeL_ty _ _ _ g3
   obtain ⟨e,rfl,he⟩:=ih n' by17 _ g4
   exact ⟨.mk s vs t e,by simp [Cb.cells],by rw [Cb.Lim];exact ⟨he,by omega⟩⟩)
  refine ⟨.mk k s m t us ks al bs,?_,?_⟩
  ·rw [cellsOf_co,cellsOf_ca,cellsOf_cb,← Co.cellss_map,← Ca.cellss_map,← Cb.cellss_map,Co.cells]
   simp
  rw [Co.Lim]
  exact ⟨by omega,(Co.lims_iff _).2 hks,(Ca.lims_iff _).2 hal,(Cb.lims_iff _).2 hbs⟩
abbrev S21:List TypeId:=[24,22,3,2,9,44,67,65,29,25,69,26,46,27]
theorem Co.cells_len (e:Co):e.cells.length=11:=by cases e with|mk k s n t ts ks al bs=>cases t;simp [Co.cells,Ty.cells]
theorem okw_str {P:Program} {W:World} {r:Reach} {b:Nat} {t:TypeId} {v:Value} (ht:P.underlying t=some .string) (h:Value.okWide P W r b t v):∀ a,v≠.agg a:=by
 rintro a rfl
 unfold Value.okWide at h
 rw [ht] at h
 simp only [Cell.okWide,Cell.ok,ht] at h
theorem shapeL_cb {L:Nat} (hL:L≤140737488355328) {fuel:Nat} {cs:List AV} (h:ShapeL Tryz.prog L fuel 46 cs):∃ b:Cb,cs=b.cells∧b.Lim:=by
 obtain ⟨n',hn',g⟩:=shapeL_struct Tryz.underlying46 h
 simp only [ShapeLF] at g
 obtain ⟨a1,b1,rfl,g1,a2,b2,rfl,g2,a3,b3,rfl,g3,a4,b4,rfl,g4,rfl⟩:=g
 obtain ⟨s,_,rfl⟩:=shapeL_str tu_9 g1
 obtain ⟨vs,rfl,hvs⟩:=shapeL_strs g2
 obtain ⟨t,rfl,_⟩:=shapeL_ty _ _ _ g3
 obtain ⟨e,rfl,he⟩:=shapeL_co L hL _ _ g4
 exact ⟨.mk s vs t e,by simp [Cb.cells],by rw [Cb.Lim];exact ⟨he,by omega⟩⟩
theorem shapeL_cbs {L:Nat} (hL:L≤140737488355328) {fuel:Nat} {cs:List AV} (h:ShapeL Tryz.prog L fuel 27 cs):∃ bs:List Cb,cs=[.seq 17 (Cb.cellss bs)]∧(∀ b∈bs,b.Lim)∧bs.length≤L:=by
 obtain ⟨n',es,hn',rfl,hl,h5⟩:=shapeL_slice tu_27 h
 obtain ⟨bs,rfl,hbs⟩:=pick_all2 (f:=Cb.cells) (p:=Cb.Lim) (fun x hx=>shapeL_cb hL (h5 x hx))
 exact ⟨bs,by rw [cellsOf_cb,← Cb.cellss_map],hbs,by simpa using hl⟩
theorem shapeL_cprog {L:Nat} (hL:L≤140737488355328) {fuel:Nat} {cs:List AV} (h:ShapeL Tryz.prog L fuel 36 cs):∃ bs:List Cb,cs=[.seq 17 (Cb.cellss bs)]∧(∀ b∈bs,b.Lim)∧bs.length≤L:=by
 obtain ⟨n',hn',g⟩:=shapeL_struct Tryz.underlying36 h
 simp only [ShapeLF] at g
 obtain ⟨a1,b1,rfl,g1,rfl⟩:=g
 obtain ⟨bs,rfl,hbs,hl⟩:=shapeL_cbs hL g1
 exact ⟨bs,U,hbs,hl⟩
abbrev S22:List TypeId:=S21++[36]
theorem closed22:closedL Tryz.prog S22=true:=by kernel_rfl
theorem Cb.cells_len (b:Cb):b.cells.length=17:=by cases b with|mk s vs t e=>cases t;simp [Cb.cells,Ty.cells,Co.cells_len]
theorem upto_witness {H:Type} {enc:TypeId × Value→H} {C:Checked} {os:Os} {f:FuncId} {fn:Func} {s:OpenSpec} {k:(H:Type)→List (DataW H)→Bool} (hk:s.cond=some k) {conds:List PathCond} {apart:Bool} (modest:Bool) (i:Input) (fuel:Nat)
    (hv:(World.plainHolding C.prog os i).variablesB C.prog=true)
    (hr:((World.plainHolding C.prog os i).heap.toList.drop C.prog.globals.size).take ((begin C.prog (fun _ _=>0) default).world.heap.size - C.prog.globals.size) =
     (begin C.prog (fun _ _=>0) default).world.heap.toList.drop C.prog.globals.size)
    (hok:Input.okWideB C.prog (World.plainHolding C.prog os i) f ⟨#[],i.args,[]⟩=true)
    (hx:(match DataW.whole enc C.prog (World.plainHolding C.prog os i).memory fn.params.toList s.vars apart i.args.toList fuel with|some x=>conds.all (PathCond.test C.prog ⟨fn.params.toList,x.1,s.bare.plain.varTypes C.prog,x.2.1⟩) && k H (x.1++x.2.1)|none=>false)=true)
    (hsz:s.bare.sizedB enc C.prog fn apart (World.plainHolding C.prog os i).memory i.args fuel=true) :
    ∃ (w:World) (tape:Tape) (i:Input),w.os=os∧(w.forCall tape i).Shaped C.prog∧i.vars=[]∧Input.okWide C.prog (w.forCall tape i) .any w.heap.size f i ∧
     s.pre6 enc C.prog fn conds apart (w.forCall tape i).memory i.args∧({ modest:=modest }:Assume).holds C.prog (lone (Frame.enter C.prog f i.args .normal) [] (w.forCall tape i)):=by
 cases e:DataW.whole enc C.prog (World.plainHolding C.prog os i).memory fn.params.toList s.vars apart i.args.toList fuel with
 | none=>rw [e] at hx;cases hx
 | some x =>
  rw [e] at hx
  simp only [Bool.and_eq_true] at hx
  exact OpenSpec.witness hk modest i fuel hv hr hok e hx.1 hx.2 hsz
theorem uptoBulk_at {H:Type}:∀ {ds:List (DataW H)} {j:Nat} {d:DataW H},ds[j]?=some d→uptoBulk d≤uptoBulkAll ds
 | [],_,_,h=>by simp at h
 | x::ds,0,d,h=>by simp at h;subst h;simp only [uptoBulk,uptoBulkAll,Rows.uptoBulkAll];omega
 | x::ds,j+1,d,h=>by
  have:=uptoBulk_at (ds:=ds) (j:=j) (by simpa using h)
  simp only [uptoBulk,uptoBulkAll,Rows.uptoBulkAll] at *;omega
theorem upto_le {H:Type} {ds:List (DataW H)} {j:Nat} {d:DataW H} (hk:Rows.uptoSmall H ds=true) (h:ds[j]?=some d):uptoBulk d≤1048576:=by
 have h1:=uptoBulk_at h
 have h2:uptoBulkAll ds≤1048576:=of_decide_eq_true hk
 omega
section
variable {P:Program} {n:Nat} {al:Sl} {M:Mem} {o:Oper} {K:AV→Mem→Prop}
def bts (xs:List Int):List (List AV):=xs.map fun b=>[.val (.int .u8 b)]
theorem bts_flat (xs:List Int):(bts xs).flatten=xs.map fun b=>AV.val (.int .u8 b):=by
 induction xs with
 | nil=>rfl
 | cons x xs ih=>unfold bts at *;rw [List.map_cons,List.flatten_cons,ih];rfl
theorem rels_vals {F:EH}:∀ {vs us:List Value},Rels F (vs.map AV.val) us→us=vs
 | [],us,h=>by cases h;rfl
 | v::vs,us,h=>by
  cases h with
  | cons h hs=>cases h;rw [rels_vals hs]
theorem op_bytestr {x:Operand} {t t' e:TypeId} {v:AV} {xs:List Int} (ho:o.op=.convert t t' x) (ht:P.underlying t=some (.slice e)) (he:P.underlying e=some (.int .u8)) (ht':P.underlying t'=some .string) (hx:al.ev x=some v) (hv:IsSeq v 1 (bts xs)) (h0:xs≠[]) (q:K (.val (.string (strOfNums xs))) M):OpT P o al M K :=
 OpT.plain fun n B F Mf ac w hi hs=>by
  have h:=hv.rel (hs.ev hx)
  generalize hu:ac.eval x=u at h
  generalize hes:bts xs=es at h
  cases h with
  | seq0 _ ao cap _=>exact absurd (by simpa [bts] using hes) h0
  | seq b off cap hm hn hl h h1 hcq =>
   subst hes
   rw [bts_flat,show (xs.map fun b=>AV.val (.int .u8 b))=(xs.map (Value.int .u8)).map AV.val from by simp] at h
   have:=rels_vals h
   subst this
   have hlen:(bts xs).length=xs.length:=by simp [bts]
   refine ⟨_,_,?_,q,.val _⟩
   have:=run_convert_bytes_arg (P:=P) w t e ht he b off xs.length cap xs rfl (fun i hi'=>hi.fix _ _ _ (hl i _ (by simp [hi']))) t' ht'
   simp [execOp,ho,hu,hlen,this]
theorem op_beqlc {x y:Operand} {t t':TypeId} {a b:Bool} (ho:o.op=.binOp .eql t x y t') (ht:P.underlying t=some .bool) (hx:al.ev x=some (.val (.bool a))) (hy:al.ev y=some (.val (.bool b))) (q:∀ c:Bool,(c=true↔a=b)→K (.val (.bool c)) M):OpT P o al M K :=
 op_beql ho ht hx hy (q _ by18)
end
theorem iff_f {p:Prop} (h:¬ p):(false=true↔p):=by simp [h]
theorem iff_t {p:Prop} (h:p):(true=true↔p):=by simp [h]
theorem SameTypes_of (d:Nat) (ih:∀ a b:Ty,a.size≤d→BCall Tryz.prog 24 [.agg a.cells,.agg b.cells] (a=b)) (xs ys:List Ty) (hd:Ty.sizes xs≤d):BCall Tryz.prog 34 [.seq 4 (Ty.cellss xs),.seq 4 (Ty.cellss ys)] (xs=ys):=by
 have hlx:=Ty.cellss_len xs
 have hly:=Ty.cellss_len ys
 refine Zc Tryz.func34 U (by kernel_rfl) U (Wc U) ?_
 refine QN ?_
 refine c_lens (t:=0) U (.seq _ _) (fun hmax=>?_)
 refine QbY ?_
 refine QY ?_;intro n7
 refine Qb ?_
 refine QY ?_;intro n9
 refine QP ?_;intro c10 h10
 refine Qa ?_
 obtain ⟨rfl,g10⟩|⟨rfl,g10⟩:=Za h10
 ·refine QaC ?_
  refine Qab ?_
  refine Xk (σ:=Nat) (fun zz=>match zz with|i=>[(0,.seq 4 (Ty.cellss xs)),(1,.seq 4 (Ty.cellss ys)),(5,.val (.int .i64 i))]) (fun zz=>match zz with|i=>[]) (fun zz=>match zz with|i=>i≤xs.length∧Upto xs ys i) (fun zz=>match zz with|i=>xs.length - i) (0) ?_ ?_ ?_ ?_
  ·exact ⟨by omega,Upto.zero _ _⟩
  ·exact by5
  ·exact by4
  rintro i hI
  try dsimp only [List.cons_append,List.nil_append] at hI ⊢
  obtain ⟨hi,hu⟩:=hI
  refine QaA ?_
  refine QY ?_;intro n13
  refine Qg ?_;intro c14 h14
  refine Qa ?_
  obtain ⟨rfl,g14⟩|⟨rfl,g14⟩:=Za h14
  ·refine Qad ?_
   exact Ze U U (Xu _) by4 ⟨⟨_,iff_t (hu.eq by17 by17),U⟩,U⟩
  refine Qk ?_
  obtain ⟨⟨k1,s1,n1,ks1⟩,hx⟩:=Zj (l:=xs) (i:=i) by17
  obtain ⟨⟨k2,s2,n2,ks2⟩,hy⟩:=Zj (l:=ys) (i:=i) by17
  have hcx:=Ty.cellss_get hx
  have hcy:=Ty.cellss_get hy
  have hsz:=Ty.size_at hx
  refine Q6 ?_
  refine QbZ ?_
  refine Qgd ?_
  refine Qb5 ?_
  refine QbZ ?_
  refine Qgd ?_
  refine Qb5 ?_
  refine Yj 25 U U (fun _ q=>Zg (xs:=[.tmp 20,.tmp 24]) U U (ih (.mk k1 s1 n1 ks1) (.mk k2 s2 n2 ks2) by17) by2 q) ?_;intro c25 h25
  refine Yj 26 U U (fun _ q=>Yz U U q) ?_;intro c26 h26
  try replace h26:=Ym h26 h25
  show AGo _ _ _ _ _ _ _
  refine Qc ?_
  obtain ⟨rfl,g26⟩|⟨rfl,g26⟩:=Za h26
  ·refine QL ?_
   exact ⟨i+1,⟨by omega,hu.succ hx hy (Classical.not_not.1 g26)⟩,by simp;omega,by5,by4⟩
  refine QD ?_
  exact Ze U U (Xu _) by4 ⟨⟨_,iff_f (at_ne hx hy g26),U⟩,U⟩
 refine QD ?_
 exact Ze U U (Xu _) by4 ⟨⟨_,iff_f (len_ne by17),U⟩,U⟩
theorem SameType_of (d:Nat) (ih:∀ xs ys:List Ty,Ty.sizes xs≤d→BCall Tryz.prog 34 [.seq 4 (Ty.cellss xs),.seq 4 (Ty.cellss ys)] (xs=ys)) (a b:Ty) (hd:a.size≤d+1):BCall Tryz.prog 24 [.agg a.cells,.agg b.cells] (a=b):=by
 obtain ⟨k1,s1,n1,ks1⟩:=a
 obtain ⟨k2,s2,n2,ks2⟩:=b
 rw [Ty.size] at hd
 refine Zc Tryz.func24 U (by kernel_rfl) U (Wc U) ?_
 refine Qa9 ?_;intro b2
 refine QdG ?_;intro b3
 refine QG ?_
 refine Zw 4 (Ty.mk k1 s1 n1 ks1=Ty.mk k2 s2 n2 ks2) ?_ _ _ U ?_
 ·skip
  refine Qao ?_
  refine Qn ?_
  refine Qz ?_;intro c9 h9
  refine Qb ?_
  obtain ⟨rfl,g9⟩|⟨rfl,g9⟩:=Za h9
  ·skip
   refine QaK ?_
   refine Qv ?_
   refine QaK ?_
   refine Qv ?_
   refine QaK ?_
   refine QC ?_
   refine Wa U ?_ by6 by4
   simp_all
  skip
  refine Qba ?_
  refine QdI ?_
  refine Qaq ?_
  refine Qbf ?_;intro c15 h15
  refine Qv ?_
  obtain ⟨rfl,g15⟩|⟨rfl,g15⟩:=Za h15
  ·skip
   refine QaK ?_
   refine Qv ?_
   refine QaK ?_
   refine QC ?_
   refine Wa U ?_ by6 by4
   simp_all
  skip
  refine Qba ?_
  refine QdI ?_
  refine Qaq ?_
  refine Qak ?_;intro c22 h22
  refine Qv ?_
  obtain ⟨rfl,g22⟩|⟨rfl,g22⟩:=Za h22
  ·skip
   refine QaK ?_
   refine QC ?_
   refine Wa U ?_ by6 by4
   simp_all
  skip
  refine Qba ?_
  refine QdI ?_
  refine Qaq ?_
  refine Zo 29 U U U U U (Zg (xs:=[.tmp 26,.tmp 28]) U U (ih ks1 ks2 by17) by2 ?_);intro c29 h29
  refine QC ?_
  refine Wa U ?_ by6 by4
  simp_all
 intro c4 h4
 refine QI ?_
 exact Ze U U (Xu _) by4 ⟨⟨_,h4,U⟩,U⟩
theorem SameTy_all (d:Nat):(∀ a b:Ty,a.size≤d→BCall Tryz.prog 24 [.agg a.cells,.agg b.cells] (a=b))∧(∀ xs ys:List Ty,Ty.sizes xs≤d→BCall Tryz.prog 34 [.seq 4 (Ty.cellss xs),.seq 4 (Ty.cellss ys)] (xs=ys)):=by
 induction d with
 | zero =>
  have h1:∀ a b:Ty,a.size≤0→BCall Tryz.prog 24 [.agg a.cells,.agg b.cells] (a=b):=fun a b h=>by have:=Ty.size_pos a;omega
  exact ⟨h1,SameTypes_of 0 h1⟩
 | succ d ih=>exact ⟨SameType_of d ih.2,SameTypes_of (d+1) (SameType_of d ih.2)⟩
theorem SameType_c (a b:Ty):BCall Tryz.prog 24 [.agg a.cells,.agg b.cells] (a=b):=(SameTy_all a.size).1 a b (Nat.le_refl _)
section
variable {P:Program} {al:Sl} {M:Mem} {K:AV→Mem→Prop} {o:Oper}
theorem op_bytestr0 {x:Operand} {t t' e:TypeId} {v:AV} (ho:o.op=.convert t t' x) (ht:P.underlying t=some (.slice e)) (he:P.underlying e=some (.int .u8)) (ht':P.underlying t'=some .string) (hx:al.ev x=some v) (hv:IsSeq v 1 []) (q:K (.val (.string ⟨#[]⟩)) M):OpT P o al M K :=
 OpT.plain fun n B F Mf ac w hi hs=>by
  have h:=hv.rel (hs.ev hx)
  generalize hu:ac.eval x=u at h
  have key:∃ ao cap,u=.slice ao 0 cap:=by
   obtain ⟨ao,cap,h⟩:=h.seq_len
   exact ⟨ao,cap,h⟩
  obtain ⟨ao,cap,rfl⟩:=key
  refine ⟨_,_,?_,q,.val _⟩
  have hr:(convert t t' (.slice ao 0 cap)).run P w=.ok (.string ⟨#[]⟩) w:=by
   rw [run_convert_bytes_string w t t' e _ 0 cap ht he ht']
   cases ao <;> simp [Conv.bytesToString,loadCells,loadCellsFrom,ByteArray.empty,ByteArray.emptyWithCapacity] <;> rfl
  simp [execOp,ho,hu,hr]
theorem op_bytestra {x:Operand} {t t' e:TypeId} {v:AV} {xs:List Int} (ho:o.op=.convert t t' x) (ht:P.underlying t=some (.slice e)) (he:P.underlying e=some (.int .u8)) (ht':P.underlying t'=some .string) (hx:al.ev x=some v) (hv:IsSeq v 1 (bts xs)) (q:K (.val (.string (strOfNums xs))) M):OpT P o al M K:=by
 by_cases h0:xs=[]
 ·subst h0
  exact op_bytestr0 ho ht he ht' hx hv q
 exact op_bytestr ho ht he ht' hx hv h0 q
end
def W63 (n:Int):Int:=(n+4611686018427387904) % 9223372036854775808 - 4611686018427387904
theorem W63_id (n:Int) (h1 : -4611686018427387904≤n) (h2:n≤4611686018427387903):W63 n=n:=by unfold W63;omega
theorem W63_congr {a b:Int} (h:a % 9223372036854775808=b % 9223372036854775808):W63 a=W63 b:=by unfold W63;omega
def R63 (n:Int):Int:=n % 9223372036854775808
theorem R63_lo (n:Int):0≤R63 n:=by unfold R63;omega
theorem R63_hi (n:Int):R63 n≤9223372036854775807:=by unfold R63;omega
theorem R63_u64 (n:Int):(IntKind.u64.wrap n).tmod 9223372036854775808=R63 n:=by
 rw [Int.tmod_eq_emod_of_nonneg (by simp [IntKind.wrap_u64];omega)]
 simp only [IntKind.wrap_u64,R63];omega
theorem W63_R63 (n:Int):W63 (R63 n)=W63 n:=W63_congr (by unfold R63;omega)
def sgn (u:Int) (neg:Bool):Int:=if neg then -u else u
end Go.Proofs.YteepjjgooplljaaGreat
namespace Go.Proofs.YteepjjgooplljaaGreat
def bytesN (s:ByteArray):List Nat:=s.data.toList.map UInt8.toNat
theorem bytesN_len (s:ByteArray):(bytesN s).length=s.size:=by simp [bytesN]
theorem bytesN_get (s:ByteArray) (k:Nat) (h:k<s.size) (h':k<(bytesN s).length):(bytesN s)[k]=(s[k]).toNat:=by
 simp [bytesN];rfl
theorem bytesN_lt (s:ByteArray):∀ x∈bytesN s,x<256:=by
 intro x hx
 simp only [bytesN,List.mem_map] at hx
 obtain ⟨b,_,rfl⟩:=hx
 exact b.toNat_lt
def byteAt (ls:List Nat) (i:Nat):Nat:=ls.getD (i / 8) 0 / 256 ^ (i % 8) % 256
def bytesOf (ls:List Nat) (n:Nat):List Nat:=(List.range n).map (byteAt ls)
def strN (b:List Nat):ByteArray:=strOfNums (b.map fun x:Nat=>(x:Int))
theorem strN_size (b:List Nat):(strN b).size=b.length:=by simp [strN,strOfNums_size]
theorem bytesN_strN (b:List Nat) (h:∀ x∈b,x<256):bytesN (strN b)=b:=by
 unfold bytesN strN
 rw [strOfNums_data,List.map_map,List.map_map]
 conv=>rhs;rw [← List.map_id b]
 apply List.map_congr_left
 intro x hx
 have:=h x hx
 simp;omega
theorem strN_bytesN (s:ByteArray):strN (bytesN s)=s:=by
 apply Go.WideShapes.bytes_inj
 unfold bytesN strN
 rw [strOfNums_data,List.map_map,List.map_map]
 conv=>rhs;rw [← List.map_id s.data.toList]
 apply List.map_congr_left
 intro x _
 simp
def rst (s:ByteArray) (i:Nat):List Nat:=(bytesN s).drop i
theorem rst_len (s:ByteArray) (i:Nat):(rst s i).length=s.size - i:=by unfold rst;rw [List.length_drop,bytesN_len]
theorem rst_nil {s:ByteArray} {i:Nat} (h:s.size≤i):rst s i=[]:=by
 apply List.eq_nil_of_length_eq_zero;rw [rst_len];omega
theorem Xh {s:ByteArray} {i:Nat} (h:i<s.size):∃ b:UInt8,s[i]?=some b∧rst s i=b.toNat::rst s (i+1)∧b.toNat<256:=by
 refine ⟨s[i],?_,?_,UInt8.toNat_lt _⟩
 ·simp [h]
 unfold rst
 have h':i<(bytesN s).length:=by rw [bytesN_len];exact h
 rw [List.drop_eq_getElem_cons h',bytesN_get s i h h']
theorem rst_drop (s:ByteArray) (i n:Nat):(rst s i).drop n=rst s (i+n):=by unfold rst;rw [List.drop_drop]
theorem rst_cut (s:ByteArray) (i j:Nat):s.extract i j=strN ((rst s i).take (j - i)):=by
 rw [← strN_bytesN (s.extract i j)]
 congr 1
 unfold rst bytesN
 rw [ByteArray.data_extract,Array.toList_extract,List.extract_eq_take_drop,List.map_take,List.map_drop]
theorem rst_lt (s:ByteArray) (i:Nat):∀ x∈rst s i,x<256:=fun x hx=>bytesN_lt s x (List.mem_of_mem_drop hx)

/- what bytes are -/
def smallC (c:Nat):Bool:=(97≤c && c≤122) || c == 95
def greatC (c:Nat):Bool:=65≤c && c≤90
def digitC (c:Nat):Bool:=48≤c && c≤57
def nameC (c:Nat):Bool:=smallC c || greatC c || digitC c || c == 39
def signL:List Nat:=[33,36,37,38,42,43,46,47,60,61,62,63,64,94,124,126,58,45]
def signC (c:Nat):Bool:=signL.contains c
def blankC (c:Nat):Bool:=c == 32 || c == 9 || c == 10 || c == 13
def kindC (k c:Nat):Bool:=if k=1 then nameC c else if k=2 then digitC c else signC c
def run (k:Nat):List Nat→Nat
 | []=>0
 | c::l=>if kindC k c=true then run k l+1 else 0
theorem run_le (k:Nat):∀ l,run k l≤l.length
 | []=>Nat.le_refl _
 | c::l=>by
  unfold run
  have:=run_le k l
  split <;> simp <;> omega
def ovr:Bool→List Nat→Nat
 | _,[]=>0
 | true,c::l=>if c=10 then ovr false l+1 else ovr true l+1
 | false,c::l=>if c=35 then ovr true l+1 else if blankC c=true then ovr false l+1 else 0
theorem ovr_le:∀ (b:Bool) (l:List Nat),ovr b l≤l.length
 | b,[]=>by cases b <;> exact Nat.le_refl _
 | true,c::l=>by
  unfold ovr
  have h1:=ovr_le true l
  have h2:=ovr_le false l
  split <;> simp <;> omega
 | false,c::l=>by
  unfold ovr
  have h1:=ovr_le true l
  have h2:=ovr_le false l
  split
  ·simp;omega
  split <;> simp <;> omega
theorem ovr_nil (b:Bool):ovr b []=0:=by cases b <;> rfl
theorem ovr_10 (l:List Nat):ovr true (10::l)=ovr false (10::l):=rfl
theorem ovr_n10 {c:Nat} (l:List Nat) (h:c≠10):ovr true (c::l)=ovr true l+1:=by rw [ovr,if_neg h]
theorem ovr_35 (l:List Nat):ovr false (35::l)=ovr true (35::l):=rfl
theorem ovr_blank {c:Nat} (l:List Nat) (h:c≠35) (hb:blankC c=true):ovr false (c::l)=ovr false l+1:=by rw [ovr,if_neg h,if_pos hb]
theorem ovr_stop {c:Nat} (l:List Nat) (h:c≠35) (hb:¬ blankC c=true):ovr false (c::l)=0:=by rw [ovr,if_neg h,if_neg hb]

/- characters -/
def cont:Nat→Int→List Nat→Option Int
 | 0,v,_=>some v
 | _+1,_,[]=>none
 | n+1,v,d::l=>if d<128∨191<d then none else cont n (64 * v+d - 128) l
def utfN (c:Nat):Nat:=if c<192 then 0 else if c<224 then 2 else if c<240 then 3 else if c<248 then 4 else 0
def utfV (c:Nat):Int:=if c<192 then 0 else if c<224 then c - 192 else if c<240 then c - 224 else if c<248 then c - 240 else 0
def utfM (c:Nat):Int:=if c<192 then 0 else if c<224 then 128 else if c<240 then 2048 else if c<248 then 65536 else 0
def utfL:List Nat→Nat
 | []=>0
 | c::l=>if c<128 then 1 else if utfN c=0∨l.length+1<utfN c then 0 else
  match cont (utfN c - 1) (utfV c) l with
  | none=>0
  | some v=>if v<utfM c∨1114111<v∨(55296≤v∧v≤57343) then 0 else utfN c
theorem utfN_le (c:Nat):utfN c≤4:=by unfold utfN;repeat' split <;> try omega
theorem utfL_cons (c:Nat) (l:List Nat):utfL (c::l)=if c<128 then 1 else if utfN c=0∨l.length+1<utfN c then 0 else
    match cont (utfN c - 1) (utfV c) l with
    | none=>0
    | some v=>if v<utfM c∨1114111<v∨(55296≤v∧v≤57343) then 0 else utfN c:=rfl
theorem utfL_le (l:List Nat):utfL l≤l.length:=by
 cases l with
 | nil=>exact Nat.le_refl _
 | cons c l =>
  rw [utfL_cons]
  by_cases h1:c<128
  ·rw [if_pos h1];simp
  rw [if_neg h1]
  by_cases h2:utfN c=0∨l.length+1<utfN c
  ·rw [if_pos h2];simp
  rw [if_neg h2]
  cases cont (utfN c - 1) (utfV c) l with
  | none=>simp
  | some v =>
   simp only [List.length_cons]
   by_cases h3:v<utfM c∨1114111<v∨(55296≤v∧v≤57343)
   ·rw [if_pos h3];omega
   rw [if_neg h3];omega
def badF:Nat→Nat→List Nat→Int
 | 0,_,_ => -1
 | _+1,_,[] => -1
 | f+1,i,c::l=>if utfL (c::l)=0 then i else badF f (i+utfL (c::l)) ((c::l).drop (utfL (c::l)))

/- texts -/
def unesc (c:Nat):Option Nat:=if c=110 then some 10 else if c=116 then some 9 else if c=34∨c=92 then some c else none
def txL:List Nat→Option (List Nat × Nat)
 | []=>none
 | c::l=>if c=34 then some ([],1) else if c=10 then none else if c=92 then
     match l with
     | []=>none
     | d::l'=>match unesc d with
      | none=>none
      | some x=>(txL l').map fun r=>(x::r.1,r.2+2)
  else (txL l).map fun r=>(c::r.1,r.2+1)

/- tokens -/
structure Tok where
 k:Int
 t:ByteArray
 n:Int
 a:Int
deriving DecidableEq
def Tok.cells (t:Tok):List Value:=[.int .i64 t.k,.string t.t,.int .i64 t.n,.int .i64 t.a]
def tok0 (a:Int):Tok:=⟨0,⟨#[]⟩,0,a⟩
def keysL:List ByteArray:=[⟨#[100,97,116,97]⟩,⟨#[99,108,97,115,115]⟩,⟨#[105,110,115,116,97,110,99,101]⟩,⟨#[102,114,111,109]⟩,⟨#[119,104,101,114,101]⟩,⟨#[101,110,100]⟩,⟨#[100,101,114,105,118,105,110,103]⟩,⟨#[100,101,102]⟩,⟨#[108,101,116]⟩,⟨#[114,101,99]⟩,⟨#[97,110,100]⟩,⟨#[105,110]⟩,⟨#[99,97,115,101]⟩,⟨#[111,102]⟩,⟨#[105,102]⟩,⟨#[116,104,101,110]⟩,⟨#[101,108,115,101]⟩]
def marksL:List ByteArray:=[⟨#[40]⟩,⟨#[41]⟩,⟨#[44]⟩,⟨#[59]⟩,⟨#[92]⟩,⟨#[95]⟩,⟨#[61]⟩,⟨#[45,62]⟩,⟨#[124]⟩,⟨#[58]⟩]
def amongB (s:ByteArray) (l:List ByteArray):Bool:=l.any fun x=>decide (x=s)
def keyT (s:ByteArray):Bool:=amongB s keysL
def markT (s:ByteArray):Bool:=amongB s marksL
def zeros:List Nat→Nat
 | []=>0
 | c::l=>if c=48∧l≠[] then zeros l+1 else 0
def valO:Nat→List Nat→Option Nat
 | n,[]=>some n
 | n,d::l=>if 4611686018427387904<(10 * n+(d - 48)) % 18446744073709551616 then none else valO ((10 * n+(d - 48)) % 18446744073709551616) l
def parL (l:List Nat):Option Nat:=match valO 0 l with
 | none=>none
 | some n=>if n=4611686018427387904 then none else some n
def kindT (c:Nat) (w:ByteArray):Int:=if markT w=true then 7 else if keyT w=true then 6 else if signC c=true then 5 else if greatC c=true then 2 else 1
def oneL (at_:Int):List Nat→Tok × Int × Int
 | []=>(tok0 at_,0,0)
 | c::r =>
  if c=34 then
   match txL r with
   | none=>(tok0 at_,0,103)
   | some x=>(⟨4,strN x.1,0,at_⟩,at_+1+x.2,0)
  else if digitC c=true then
   let d:=(c::r).take (run 2 (c::r))
   let z:=d.drop (zeros d)
   match parL z with
   | none=>(tok0 at_,0,102)
   | some v=>(⟨3,strN z,v,at_⟩,at_+run 2 (c::r),0)
  else
   let k:=if smallC c=true∨greatC c=true then run 1 (c::r) else if signC c=true then run 3 (c::r) else 1
   let w:=strN ((c::r).take k)
   if ¬ (smallC c=true∨greatC c=true∨signC c=true)∧markT w=false then (tok0 at_,0,101)
   else if 40<k then (⟨0,w,0,at_⟩,0,104)
   else (⟨kindT c w,w,0,at_⟩,at_+k,0)
def lexF:Nat→Int→List Nat→List Tok→List Tok × Int × Int
 | _,i,[],acc=>(acc++[tok0 i],0,0)
 | 0,_,_::_,_=>([],0,0)
 | f+1,i,c::l,acc =>
  let o:=oneL i (c::l)
  if o.2.2≠0 then ([],o.2.2,i) else
   let l':=(c::l).drop (o.2.1 - i).toNat
   let k:=ovr false l'
   lexF f (o.2.1+k) (l'.drop k) (acc++[o.1])
def scanT (s:ByteArray):List Tok × Int × Int :=
 if 60000<s.size then ([],3,0) else
 if 0≤badF (s.size+1) 0 (rst s 0) then ([],100,badF (s.size+1) 0 (rst s 0)) else
 lexF (s.size+1) (ovr false (rst s 0)) ((rst s 0).drop (ovr false (rst s 0))) []
open Go.RowKit
theorem Le.inteq {k:IntKind} {a b:Int} (h:a=b):Le (.val (.int k a)) (.val (.int k b)):=by rw [h];exact Xu _
theorem smallC_iff (c:Nat):smallC c=true↔((97≤c∧c≤122)∨c=95):=by simp [smallC]
theorem greatC_iff (c:Nat):greatC c=true↔(65≤c∧c≤90):=by simp [greatC]
theorem digitC_iff (c:Nat):digitC c=true↔(48≤c∧c≤57):=by simp [digitC]
theorem blankC_iff (c:Nat):blankC c=true↔(c=32∨c=9∨c=10∨c=13):=by simp [blankC,or_assoc]
theorem nameC_iff (c:Nat):nameC c=true↔(smallC c=true∨greatC c=true∨digitC c=true∨c=39):=by simp [nameC,or_assoc]
theorem small_c (c:Nat):BCall Tryz.prog 193 [.val (.int .u8 c)] (smallC c=true):=by
 refine Zc Tryz.func193 U (by kernel_rfl) U (Wc U) ?_
 refine Qe ?_
 refine QG ?_
 refine Zw 2 ((97≤c∧c≤122)∨c=95) ?_ _ _ U ?_
 ·skip
  refine QbG ?_;intro c4 h4
  refine Qb ?_
  obtain ⟨rfl,g4⟩|⟨rfl,g4⟩:=Za h4
  ·skip
   refine QbH ?_
   refine Qat ?_;intro c11 h11
   refine QC ?_
   refine Wa U ?_ by6 by4
   simp_all;omega
  skip
  refine Qf ?_
  refine QeJ ?_;intro c7 h7
  refine Qv ?_
  obtain ⟨rfl,g7⟩|⟨rfl,g7⟩:=Za h7
  ·skip
   refine Qat ?_;intro c11 h11
   refine QC ?_
   refine Wa U ?_ by6 by4
   simp_all;omega
  skip
  refine QbI ?_
  refine Wa U ?_ by6 by4
  simp_all;omega
 intro c2 h2
 refine QI ?_
 exact Ze U U (Xu _) by4 ⟨⟨_,h2.trans (smallC_iff c).symm,U⟩,U⟩
theorem great_c (c:Nat):BCall Tryz.prog 194 [.val (.int .u8 c)] (greatC c=true):=by
 refine Zc Tryz.func194 U (by kernel_rfl) U (Wc U) ?_
 refine Qe ?_
 refine QG ?_
 refine Zw 2 (65≤c∧c≤90) ?_ _ _ U ?_
 ·skip
  refine QbG ?_;intro c4 h4
  refine Qb ?_
  obtain ⟨rfl,g4⟩|⟨rfl,g4⟩:=Za h4
  ·skip
   refine QbI ?_
   refine Wa U ?_ by6 by4
   simp_all;omega
  skip
  refine Qf ?_
  refine QeJ ?_;intro c7 h7
  refine QC ?_
  refine Wa U ?_ by6 by4
  simp_all;omega
 intro c2 h2
 refine QI ?_
 exact Ze U U (Xu _) by4 ⟨⟨_,h2.trans (greatC_iff c).symm,U⟩,U⟩
theorem digit_c (c:Nat):BCall Tryz.prog 190 [.val (.int .u8 c)] (digitC c=true):=by
 refine Zc Tryz.func190 U (by kernel_rfl) U (Wc U) ?_
 refine Qe ?_
 refine QG ?_
 refine Zw 2 (48≤c∧c≤57) ?_ _ _ U ?_
 ·skip
  refine QbG ?_;intro c4 h4
  refine Qb ?_
  obtain ⟨rfl,g4⟩|⟨rfl,g4⟩:=Za h4
  ·skip
   refine QbI ?_
   refine Wa U ?_ by6 by4
   simp_all;omega
  skip
  refine Qf ?_
  refine QeJ ?_;intro c7 h7
  refine QC ?_
  refine Wa U ?_ by6 by4
  simp_all;omega
 intro c2 h2
 refine QI ?_
 exact Ze U U (Xu _) by4 ⟨⟨_,h2.trans (digitC_iff c).symm,U⟩,U⟩
theorem blank_c (c:Nat):BCall Tryz.prog 188 [.val (.int .u8 c)] (blankC c=true):=by
 refine Zc Tryz.func188 U (by kernel_rfl) U (Wc U) ?_
 refine Qe ?_
 refine QG ?_
 refine Zw 2 (c=32∨c=9∨c=10∨c=13) ?_ _ _ U ?_
 ·skip
  refine Qb ?_
  refine Qz ?_;intro c4 h4
  refine Qb ?_
  obtain ⟨rfl,g4⟩|⟨rfl,g4⟩:=Za h4
  ·skip
   refine Qat ?_;intro c7 h7
   refine Qv ?_
   obtain ⟨rfl,g7⟩|⟨rfl,g7⟩:=Za h7
   ·skip
    refine Qat ?_;intro c11 h11
    refine Qv ?_
    obtain ⟨rfl,g11⟩|⟨rfl,g11⟩:=Za h11
    ·skip
     refine Qat ?_;intro c15 h15
     refine QC ?_
     refine Wa U ?_ by6 by4
     simp_all;omega
    skip
    refine QbI ?_
    refine Wa U ?_ by6 by4
    simp_all;omega
   skip
   refine QbH ?_
   refine QbI ?_
   refine Wa U ?_ by6 by4
   simp_all;omega
  skip
  refine QbH ?_
  refine QbH ?_
  refine QbI ?_
  refine Wa U ?_ by6 by4
  simp_all;omega
 intro c2 h2
 refine QI ?_
 exact Ze U U (Xu _) by4 ⟨⟨_,h2.trans (blankC_iff c).symm,U⟩,U⟩
theorem in_c (s:ByteArray) (hs:s.size≤60000) (c:Nat):BCall Tryz.prog 210 [.val (.string s),.val (.int .u8 c)] (c∈bytesN s):=by
 refine Zc Tryz.func210 U (by kernel_rfl) U (Wc U) ?_
 refine Qe ?_
 refine Qae ?_
 refine Xk (σ:=Nat) (fun zz=>match zz with|i=>[(0,.val (.string s)),(1,.val (.int .u8 c)),(5,.val (.int .i64 i))]) (fun zz=>match zz with|i=>[]) (fun zz=>match zz with|i=>i≤s.size∧(c∈bytesN s↔c∈rst s i)) (fun zz=>match zz with|i=>s.size - i) (0) ?_ ?_ ?_ ?_
 ·exact ⟨Nat.zero_le _,Iff.rfl⟩
 ·exact by5
 ·exact by4
 rintro i hI
 try dsimp only [List.cons_append,List.nil_append] at hI ⊢
 obtain ⟨hi,hu⟩:=hI
 refine QaA ?_
 refine Qdo ?_;intro c9 h9
 refine Qa ?_
 obtain ⟨rfl,g9⟩|⟨rfl,g9⟩:=Za h9
 ·refine Qad ?_
  exact Ze U U (Xu _) by4 ⟨⟨_,iff_f (fun q=>by have:=hu.1 q;rw [rst_nil by17] at this;cases this),U⟩,U⟩
 refine Qk ?_
 obtain ⟨b,hb,hr,hlt⟩:=Xh (s:=s) (i:=i) by17
 refine Q8 ?_
 refine QdY ?_
 refine Qb ?_
 refine Qz ?_;intro c16 h16
 refine Qa ?_
 obtain ⟨rfl,g16⟩|⟨rfl,g16⟩:=Za h16
 ·refine QL ?_
  exact ⟨i+1,⟨by omega,hu.trans (by rw [hr];simp;omega)⟩,by simp;omega,by5,by4⟩
 refine QD ?_
 exact Ze U U (Xu _) by4 ⟨⟨_,iff_t (hu.2 (by rw [hr];simp;omega)),U⟩,U⟩
theorem signBytes:bytesN ⟨#[33,36,37,38,42,43,46,47,60,61,62,63,64,94,124,126,58,45]⟩=signL:=by decide
theorem sign_c (c:Nat):BCall Tryz.prog 195 [.val (.int .u8 c)] (signC c=true):=by
 have H:=in_c ⟨#[33,36,37,38,42,43,46,47,60,61,62,63,64,94,124,126,58,45]⟩ by16 c
 rw [signBytes] at H
 have hC:c∈signL↔signC c=true:=by unfold signC;exact (List.contains_iff_mem).symm
 refine Zc Tryz.func195 U (by kernel_rfl) U (Wc U) ?_
 refine Qe ?_
 refine QK ?_
 refine Zb 4 U U U (Zg (xs:=[.const (.string ⟨#[33,36,37,38,42,43,46,47,60,61,62,63,64,94,124,126,58,45]⟩),.tmp 3]) U U (H) by2 ?_);intro c4 h4
 refine Qo ?_
 exact Ze U U (Xu _) by4 ⟨⟨_,h4.trans hC,U⟩,U⟩
theorem name_c (c:Nat):BCall Tryz.prog 211 [.val (.int .u8 c)] (nameC c=true):=by
 have H1:=small_c c
 have H2:=great_c c
 have H3:=digit_c c
 have hN:=nameC_iff c
 refine Zc Tryz.func211 U (by kernel_rfl) U (Wc U) ?_
 refine Qe ?_
 refine QG ?_
 refine Zw 2 (smallC c=true∨greatC c=true∨digitC c=true∨c=39) ?_ _ _ U ?_
 ·skip
  refine Qb ?_
  refine Zb 4 U U U (Zg (xs:=[.tmp 3]) U U (H1) by2 ?_);intro c4 h4
  refine Qb ?_
  obtain ⟨rfl,g4⟩|⟨rfl,g4⟩:=Za h4
  ·skip
   refine Qf ?_
   refine Zo 7 U U U U U (Zg (xs:=[.tmp 6]) U U (H2) by2 ?_);intro c7 h7
   refine Qv ?_
   obtain ⟨rfl,g7⟩|⟨rfl,g7⟩:=Za h7
   ·skip
    refine Qf ?_
    refine Zo 11 U U U U U (Zg (xs:=[.tmp 10]) U U (H3) by2 ?_);intro c11 h11
    refine Qv ?_
    obtain ⟨rfl,g11⟩|⟨rfl,g11⟩:=Za h11
    ·skip
     refine Qat ?_;intro c15 h15
     refine QC ?_
     refine Wa U ?_ by6 by4
     simp_all;omega
    skip
    refine QbI ?_
    refine Wa U ?_ by6 by4
    simp_all;done
   skip
   refine QbH ?_
   refine QbI ?_
   refine Wa U ?_ by6 by4
   simp_all;done
  skip
  refine QbH ?_
  refine QbH ?_
  refine QbI ?_
  refine Wa U ?_ by6 by4
  simp_all;done
 intro c2 h2
 refine QI ?_
 exact Ze U U (Xu _) by4 ⟨⟨_,h2.trans hN.symm,U⟩,U⟩
theorem byteAt_ (s:ByteArray) (i:Nat):∃ b:UInt8,i<s.size→s[i]?=some b∧rst s i=b.toNat::rst s (i+1)∧b.toNat<256:=by
 by_cases q:i<s.size
 ·obtain ⟨b,h⟩:=Xh q
  exact ⟨b,fun _=>h⟩
 exact ⟨0,fun h=>absurd h q⟩
theorem kindC_iff (k c:Nat) (h1:1≤k) (h3:k≤3):kindC k c=true↔((k=1∧nameC c=true)∨(k=2∧digitC c=true)∨(k=3∧signC c=true)):=by
 unfold kindC
 by_cases q1:k=1
 ·subst q1;simp
 rw [if_neg q1]
 by_cases q2:k=2
 ·subst q2;simp
 rw [if_neg q2]
 have q3:k=3:=by omega
 subst q3;simp
theorem end_c (s:ByteArray) (hs:s.size≤60000) (at_ k:Nat) (ha:at_≤s.size) (k1:1≤k) (k3:k≤3):PCall Tryz.prog 191 [.val (.string s),.val (.int .i64 at_),.val (.int .i64 k)] (.val (.int .i64 ((at_+run k (rst s at_):Nat):Int))):=by
 have HN:=name_c
 have HD:=digit_c
 have HS:=sign_c
 refine Zc Tryz.func191 U (by kernel_rfl) U (Wc U) ?_
 refine Qe ?_
 refine Qcc ?_
 refine Xk (σ:=Nat) (fun zz=>match zz with|i=>[(0,.val (.string s)),(1,.val (.int .i64 i)),(2,.val (.int .i64 k))]) (fun zz=>match zz with|i=>[]) (fun zz=>match zz with|i=>i≤s.size∧i+run k (rst s i)=at_+run k (rst s at_)) (fun zz=>match zz with|i=>s.size - i) (at_) ?_ ?_ ?_ ?_
 ·exact ⟨ha,U⟩
 ·exact by5
 ·exact by4
 rintro i hI
 try dsimp only [List.cons_append,List.nil_append] at hI ⊢
 obtain ⟨hi,hu⟩:=hI
 refine QaJ ?_
 obtain ⟨b,hb⟩:=byteAt_ s i
 have hK:=kindC_iff k b.toNat k1 k3
 refine Zw 40 (i<s.size∧kindC k b.toNat=true) ?_ _ _ U ?_
 ·skip
  refine Qai ?_
  refine Qdo ?_;intro c10 h10
  refine Qb ?_
  obtain ⟨rfl,g10⟩|⟨rfl,g10⟩:=Za h10
  ·skip
   refine Qah ?_
   refine Qcb ?_
   refine QaU ?_
   refine Qcb ?_
   refine Qcb ?_
   refine QaU ?_
   refine Qcb ?_
   refine Qcd ?_
   refine Qm ?_
   refine Wa U ?_ by6 by4
   clear HN HD HS hu hb;first|(simp_all;done)|grind
  skip
  refine Qat ?_;intro c13 h13
  refine Qf ?_
  obtain ⟨rfl,g13⟩|⟨rfl,g13⟩:=Za h13
  ·skip
   refine Qx ?_
   refine Qbz ?_
   refine QaM ?_
   refine Qak ?_;intro c22 h22
   refine Qf ?_
   obtain ⟨rfl,g22⟩|⟨rfl,g22⟩:=Za h22
   ·skip
    refine Qx ?_
    refine Qce ?_
    refine QaM ?_
    refine Qak ?_;intro c32 h32
    refine Qf ?_
    obtain ⟨rfl,g32⟩|⟨rfl,g32⟩:=Za h32
    ·skip
     refine Qx ?_
     refine QbJ ?_
     refine Wa U ?_ by6 by4
     clear HN HD HS hu hb;first|(simp_all;done)|grind
    skip
    refine Qdp ?_
    refine Zo 37 U U U U U (Zg (xs:=[.tmp 36]) U U (HS _) by2 ?_);intro c37 h37
    refine QbJ ?_
    refine Wa U ?_ by6 by4
    clear HN HD HS hu hb;first|(simp_all;done)|grind
   skip
   refine Qdp ?_
   refine Zo 27 U U U U U (Zg (xs:=[.tmp 26]) U U (HD _) by2 ?_);intro c27 h27
   refine Qce ?_
   refine Qf ?_
   obtain ⟨rfl,g27⟩|⟨rfl,g27⟩:=Za h27
   ·skip
    refine Qat ?_;intro c32 h32
    refine Qf ?_
    obtain ⟨rfl,g32⟩|⟨rfl,g32⟩:=Za h32
    ·skip
     refine Qx ?_
     refine QbJ ?_
     refine Wa U ?_ by6 by4
     clear HN HD HS hu hb;first|(simp_all;done)|grind
    skip
    refine Qdp ?_
    refine Zo 37 U U U U U (Zg (xs:=[.tmp 36]) U U (HS _) by2 ?_);intro c37 h37
    refine QbJ ?_
    refine Wa U ?_ by6 by4
    clear HN HD HS hu hb;first|(simp_all;done)|grind
   skip
   refine Qah ?_
   refine Qcd ?_
   refine Qaz ?_
   refine Wa U ?_ by6 by4
   clear HN HD HS hu hb;first|(simp_all;done)|grind
  skip
  refine Qdp ?_
  refine Zo 18 U U U U U (Zg (xs:=[.tmp 17]) U U (HN _) by2 ?_);intro c18 h18
  refine Qbz ?_
  refine Qf ?_
  obtain ⟨rfl,g18⟩|⟨rfl,g18⟩:=Za h18
  ·skip
   refine Qat ?_;intro c22 h22
   refine Qf ?_
   obtain ⟨rfl,g22⟩|⟨rfl,g22⟩:=Za h22
   ·skip
    refine Qx ?_
    refine Qce ?_
    refine QaM ?_
    refine Qak ?_;intro c32 h32
    refine Qf ?_
    obtain ⟨rfl,g32⟩|⟨rfl,g32⟩:=Za h32
    ·skip
     refine Qx ?_
     refine QbJ ?_
     refine Wa U ?_ by6 by4
     clear HN HD HS hu hb;first|(simp_all;done)|grind
    skip
    refine Qdp ?_
    refine Zo 37 U U U U U (Zg (xs:=[.tmp 36]) U U (HS _) by2 ?_);intro c37 h37
    refine QbJ ?_
    refine Wa U ?_ by6 by4
    clear HN HD HS hu hb;first|(simp_all;done)|grind
   skip
   refine Qdp ?_
   refine Zo 27 U U U U U (Zg (xs:=[.tmp 26]) U U (HD _) by2 ?_);intro c27 h27
   refine Qce ?_
   refine Qf ?_
   obtain ⟨rfl,g27⟩|⟨rfl,g27⟩:=Za h27
   ·skip
    refine Qat ?_;intro c32 h32
    refine Qf ?_
    obtain ⟨rfl,g32⟩|⟨rfl,g32⟩:=Za h32
    ·skip
     refine Qx ?_
     refine QbJ ?_
     refine Wa U ?_ by6 by4
     clear HN HD HS hu hb;first|(simp_all;done)|grind
    skip
    refine Qdp ?_
    refine Zo 37 U U U U U (Zg (xs:=[.tmp 36]) U U (HS _) by2 ?_);intro c37 h37
    refine QbJ ?_
    refine Wa U ?_ by6 by4
    clear HN HD HS hu hb;first|(simp_all;done)|grind
   skip
   refine Qah ?_
   refine Qcd ?_
   refine Qaz ?_
   refine Wa U ?_ by6 by4
   clear HN HD HS hu hb;first|(simp_all;done)|grind
  skip
  refine Qah ?_
  refine Qcd ?_
  refine Qbz ?_
  refine Qf ?_
  refine Qah ?_
  refine Qcd ?_
  refine Qaz ?_
  refine Wa U ?_ by6 by4
  clear HN HD HS hu hb;first|(simp_all;done)|grind
 intro c40 h40
 refine Qc ?_
 obtain ⟨rfl,g40⟩|⟨rfl,g40⟩:=Za h40
 ·refine Qa4 ?_
  refine Ze U U (Le.inteq ?_) by4 ⟨U,U⟩
  rw [← hu]
  by_cases q:i<s.size
  ·rw [(hb q).2.1,run,if_neg (fun h=>g40 ⟨q,h⟩)];simp
  rw [rst_nil by17];simp [run]
 refine Qbk ?_
 refine QcR ?_
 refine Qbl ?_
 refine ⟨i+1,⟨by omega,?_⟩,by simp;omega,by5,by4⟩
 rw [(hb g40.1).2.1,run,if_pos g40.2] at hu
 omega
theorem over_exit {s:ByteArray} {j:Nat} {d:UInt8} (hd:j<s.size→s[j]?=some d∧rst s j=d.toNat::rst s (j+1)∧d.toNat<256) (h:¬ (j<s.size∧d.toNat≠10)):ovr true (rst s j)=ovr false (rst s j):=by
 by_cases q:j<s.size
 ·have h2:d.toNat=10:=Classical.not_not.1 fun h3=>h ⟨q,h3⟩
  rw [(hd q).2.1,h2,ovr_10]
 rw [rst_nil by17,ovr_nil,ovr_nil]
theorem over_c (s:ByteArray) (hs:s.size≤60000) (at_:Nat) (ha:at_≤s.size):PCall Tryz.prog 158 [.val (.string s),.val (.int .i64 at_)] (.val (.int .i64 ((at_+ovr false (rst s at_):Nat):Int))):=by
 have HB:=blank_c
 refine Zc Tryz.func158 U (by kernel_rfl) U (Wc U) ?_
 refine Qe ?_
 refine Qcc ?_
 refine Xk (σ:=Nat) (fun zz=>match zz with|i=>[(0,.val (.string s)),(1,.val (.int .i64 i))]) (fun zz=>match zz with|i=>[]) (fun zz=>match zz with|i=>i≤s.size∧i+ovr false (rst s i)=at_+ovr false (rst s at_)) (fun zz=>match zz with|i=>s.size - i) (at_) ?_ ?_ ?_ ?_
 ·exact ⟨ha,U⟩
 ·exact by5
 ·exact by4
 rintro i hI
 try dsimp only [List.cons_append,List.nil_append] at hI ⊢
 obtain ⟨hi,hu⟩:=hI
 refine QaJ ?_
 obtain ⟨b,hb⟩:=byteAt_ s i
 refine Zw 20 (i<s.size∧(blankC b.toNat=true∨b.toNat=35)) ?_ _ _ U ?_
 ·skip
  refine Qai ?_
  refine Qdo ?_;intro c8 h8
  refine Qb ?_
  obtain ⟨rfl,g8⟩|⟨rfl,g8⟩:=Za h8
  ·skip
   refine QaK ?_
   refine Qcd ?_
   refine Qm ?_
   refine Wa U ?_ by6 by4
   clear HB hu hb;first|(simp_all;done)|grind
  skip
  refine Qdp ?_
  refine Zo 13 U U U U U (Zg (xs:=[.tmp 12]) U U (HB _) by2 ?_);intro c13 h13
  refine Qf ?_
  obtain ⟨rfl,g13⟩|⟨rfl,g13⟩:=Za h13
  ·skip
   refine Qdp ?_
   refine Qak ?_;intro c18 h18
   refine Qaz ?_
   refine Wa U ?_ by6 by4
   clear HB hu hb;first|(simp_all;done)|grind
  skip
  refine Qx ?_
  refine Qaz ?_
  refine Wa U ?_ by6 by4
  clear HB hu hb;first|(simp_all;done)|grind
 intro c20 h20
 refine Qc ?_
 obtain ⟨rfl,g20⟩|⟨rfl,g20⟩:=Za h20
 ·refine Qa4 ?_
  refine Ze U U (Le.inteq ?_) by4 ⟨U,U⟩
  rw [← hu]
  by_cases q:i<s.size
  ·rw [(hb q).2.1,ovr_stop _ (fun h=>g20 ⟨q,.inr h⟩) (fun h=>g20 ⟨q,.inl h⟩)];simp
  rw [rst_nil by17,ovr_nil];simp
 refine Qbk ?_
 refine Q0 ?_
 refine Qb ?_
 refine Zb 23 U U U (Yv U tu_9 U U U ((hb g20.1).1) ?_)
 refine Qz ?_;intro c24 h24
 refine Qa ?_
 obtain ⟨rfl,g24⟩|⟨rfl,g24⟩:=Za h24
 ·refine QX ?_
  refine QcR ?_
  refine Qbl ?_
  first
  | (have hx:=over_exit hd g34
     have hij:i<j:=by
      rcases Nat.lt_or_ge i j with q|q
      ·exact q
      have:j=i:=by omega
      subst this
      have e:=(hd g20.1).1.symm.trans (hb g20.1).1
      cases e
      exact absurd ⟨g20.1,by omega⟩ g34
     exact ⟨j,⟨j2,by rw [← hx];exact hj⟩,by simp;omega,by5,by4⟩)
  | (refine ⟨i+1,⟨by omega,?_⟩,by simp;omega,by5,by4⟩
     have hn:b.toNat≠35:=by omega
     rw [(hb g20.1).2.1,ovr_blank _ hn (g20.2.resolve_right hn)] at hu
     omega)
 refine Q4 ?_
 refine c_block ?_
 apply Zu (rg [(1,3),(25,12)]) (σ:=Nat) (fun zz=>match zz with|j=>[(1,.val (.int .i64 j))]) (fun zz=>match zz with|j=>i≤j∧j≤s.size∧j+ovr true (rst s j)=at_+ovr false (rst s at_)) (fun zz=>match zz with|j=>s.size - j) (i)
 ·repeat' (first|exact Wf|apply Wd rfl|apply We rfl)
 ·exact ⟨Nat.le_refl _,hi,by rw [← hu,(hb g20.1).2.1,show b.toNat=35 by omega,ovr_35]⟩
 ·exact by5
 rintro j hI
 try dsimp only [List.cons_append,List.nil_append] at hI ⊢
 obtain ⟨j1,j2,hj⟩:=hI
 refine QaJ ?_
 obtain ⟨d,hd⟩:=byteAt_ s j
 refine Zw 34 (j<s.size∧d.toNat≠10) ?_ _ _ U ?_
 ·skip
  refine Qai ?_
  refine Qdo ?_;intro c28 h28
  refine Qb ?_
  obtain ⟨rfl,g28⟩|⟨rfl,g28⟩:=Za h28
  ·skip
   refine QaX ?_
   refine Wa U ?_ by6 by4
   simp_all;omega
  skip
  refine QaM ?_
  refine Zo 32 U U U U U (Yv U tu_9 U U U ((hd by17).1) ?_)
  refine Qax ?_;intro c33 h33
  refine Qm ?_
  refine Wa U ?_ by6 by4
  simp_all;omega
 intro c34 h34
 refine Qc ?_
 obtain ⟨rfl,g34⟩|⟨rfl,g34⟩:=Za h34
 ·refine QX ?_
  refine c_exit (x_code (x_lp (x_here ?_)))
  refine QcT ?_
  first
  | (have hx:=over_exit hd g34
     have hij:i<j:=by
      rcases Nat.lt_or_ge i j with q|q
      ·exact q
      have:j=i:=by omega
      subst this
      have e:=(hd g20.1).1.symm.trans (hb g20.1).1
      cases e
      exact absurd ⟨g20.1,by omega⟩ g34
     exact ⟨j,⟨j2,by rw [← hx];exact hj⟩,by simp;omega,by5,by4⟩)
  | (refine ⟨i+1,⟨by omega,?_⟩,by simp;omega,by5,by4⟩
     have hn:b.toNat≠35:=by omega
     rw [(hb g20.1).2.1,ovr_blank _ hn (g20.2.resolve_right hn)] at hu
     omega)
 refine Qbk ?_
 refine QcR ?_
 refine Qbl ?_
 refine ⟨j+1,⟨by omega,by omega,?_⟩,by simp;omega,by5,by4⟩
 rw [(hd g34.1).2.1,ovr_n10 _ g34.2] at hj
 omega
theorem among_c (s:ByteArray) (l:List ByteArray):BCall Tryz.prog 213 [.val (.string s),.seq 1 (strs l)] (amongB s l=true):=by
 have hl:=Ya l
 refine Zc Tryz.func213 U (by kernel_rfl) U (Wc U) ?_
 refine QN ?_
 refine c_lens (t:=1) U (.seq _ _) (fun hmax=>?_)
 refine Ql ?_
 refine Qae ?_
 refine Xk (σ:=Nat) (fun zz=>match zz with|i=>[(0,.val (.string s)),(1,.seq 1 (strs l)),(5,.val (.int .i64 i))]) (fun zz=>match zz with|i=>[]) (fun zz=>match zz with|i=>i≤l.length∧amongB s l=amongB s (l.drop i)) (fun zz=>match zz with|i=>l.length - i) (0) ?_ ?_ ?_ ?_
 ·exact ⟨Nat.zero_le _,U⟩
 ·exact by5
 ·exact by4
 rintro i hI
 try dsimp only [List.cons_append,List.nil_append] at hI ⊢
 obtain ⟨hi,hu⟩:=hI
 refine QcV ?_;intro n8
 refine Qg ?_;intro c9 h9
 refine Qa ?_
 obtain ⟨rfl,g9⟩|⟨rfl,g9⟩:=Za h9
 ·refine Qad ?_
  exact Ze U U (Xu _) by4 ⟨⟨_,iff_f (by rw [hu,List.drop_eq_nil_of_le by17];simp [amongB]),U⟩,U⟩
 refine Qk ?_
 obtain ⟨x,hx⟩:=Zj (l:=l) (i:=i) by17
 have hcx:=Xc hx
 have hd:l.drop i=x::l.drop (i+1):=by
  obtain ⟨h1,h2⟩:=List.getElem?_eq_some_iff.1 hx
  rw [List.drop_eq_getElem_cons h1,h2]
 refine Q8 ?_
 refine Qfg ?_
 refine QaG ?_
 refine Qb ?_
 refine Qas ?_;intro c17 h17
 refine Qa ?_
 obtain ⟨rfl,g17⟩|⟨rfl,g17⟩:=Za h17
 ·refine QL ?_
  exact ⟨i+1,⟨by omega,by rw [hu,hd];simp [amongB];intro q;contradiction⟩,by simp;omega,by5,by4⟩
 refine QD ?_
 exact Ze U U (Xu _) by4 ⟨⟨_,iff_t (by rw [hu,hd];simp [amongB];exact .inl by14),U⟩,U⟩
theorem Key_c (s:ByteArray):BCall Tryz.prog 197 [.val (.string s)] (keyT s=true):=by
 have H:=among_c s keysL
 rw [show amongB s keysL=keyT s from rfl] at H
 simp only [strs,keysL,List.map_cons,List.map_nil] at H
 refine Zc Tryz.func197 U (by kernel_rfl) U (Wc U) ?_
 refine Qe ?_
 refine QK ?_
 refine Zb 4 U U U (Zf (xs:=[.const (.string ⟨#[100,97,116,97]⟩),.const (.string ⟨#[99,108,97,115,115]⟩),.const (.string ⟨#[105,110,115,116,97,110,99,101]⟩),.const (.string ⟨#[102,114,111,109]⟩),.const (.string ⟨#[119,104,101,114,101]⟩),.const (.string ⟨#[101,110,100]⟩),.const (.string ⟨#[100,101,114,105,118,105,110,103]⟩),.const (.string ⟨#[100,101,102]⟩),.const (.string ⟨#[108,101,116]⟩),.const (.string ⟨#[114,101,99]⟩),.const (.string ⟨#[97,110,100]⟩),.const (.string ⟨#[105,110]⟩),.const (.string ⟨#[99,97,115,101]⟩),.const (.string ⟨#[111,102]⟩),.const (.string ⟨#[105,102]⟩),.const (.string ⟨#[116,104,101,110]⟩),.const (.string ⟨#[101,108,115,101]⟩)]) Yy U U U U U U (Wc U) ?_)
 refine Zb 5 U U U (Zg (xs:=[.tmp 3,.tmp 4]) U U (H) by2 ?_);intro c5 h5
 refine Qo ?_
 exact Ze U U (Xu _) by4 ⟨⟨_,h5,U⟩,U⟩
theorem Mark_c (s:ByteArray):BCall Tryz.prog 196 [.val (.string s)] (markT s=true):=by
 have H:=among_c s marksL
 rw [show amongB s marksL=markT s from rfl] at H
 simp only [strs,marksL,List.map_cons,List.map_nil] at H
 refine Zc Tryz.func196 U (by kernel_rfl) U (Wc U) ?_
 refine Qe ?_
 refine QK ?_
 refine Zb 4 U U U (Zf (xs:=[.const (.string ⟨#[40]⟩),.const (.string ⟨#[41]⟩),.const (.string ⟨#[44]⟩),.const (.string ⟨#[59]⟩),.const (.string ⟨#[92]⟩),.const (.string ⟨#[95]⟩),.const (.string ⟨#[61]⟩),.const (.string ⟨#[45,62]⟩),.const (.string ⟨#[124]⟩),.const (.string ⟨#[58]⟩)]) Yy U U U U U U (Wc U) ?_)
 refine Zb 5 U U U (Zg (xs:=[.tmp 3,.tmp 4]) U U (H) by2 ?_);intro c5 h5
 refine Qo ?_
 exact Ze U U (Xu _) by4 ⟨⟨_,h5,U⟩,U⟩
def utfE (m:Int) (n:Nat):Option Int→Nat
 | none=>0
 | some v=>if v<m∨1114111<v∨(55296≤v∧v≤57343) then 0 else n
theorem utfL_go {c:Nat} {l:List Nat} (h1:¬ c<128) (h2:¬ (utfN c=0∨l.length+1<utfN c)):utfL (c::l)=utfE (utfM c) (utfN c) (cont (utfN c - 1) (utfV c) l):=by
 rw [utfL_cons,if_neg h1,if_neg h2]
 cases cont (utfN c - 1) (utfV c) l <;> rfl
theorem utfL_no {c:Nat} {l:List Nat} (h1:¬ c<128) (h2:utfN c=0∨l.length+1<utfN c):utfL (c::l)=0:=by
 rw [utfL_cons,if_neg h1,if_pos h2]
theorem pow_mono_ (i:Nat) (h:i≤4) (h1:1≤i):(64:Int) ^ (i - 1)≤262144∧(64:Int) ^ (i+1 - 1)=64 * 64 ^ (i - 1):=by
 rcases (by omega:i=1∨i=2∨i=3∨i=4) with rfl|rfl|rfl|rfl <;> decide
theorem utf_b (c:Nat):(utfN c=0∨2≤utfN c)∧utfN c≤4∧0≤utfV c∧utfV c+1≤32:=by
 refine ⟨?_,utfN_le _,?_,?_⟩
 ·unfold utfN;(repeat' split) <;> omega
 ·unfold utfV;(repeat' split) <;> omega
 unfold utfV;(repeat' split) <;> omega
theorem utf_all {c:Nat} (n v m:Int) (a1:192≤c∧c<224→n=2∧v=(c:Int) - 192∧m=128) (a2:224≤c∧c<240→n=3∧v=(c:Int) - 224∧m=2048) (a3:240≤c∧c<248→n=4∧v=(c:Int) - 240∧m=65536) (a4:c<192∨248≤c→n=0∧v=0∧m=0):n=(utfN c:Nat)∧v=utfV c∧m=utfM c:=by
 unfold utfN utfV utfM
 refine ⟨?_,?_,?_⟩
 ·(repeat' split) <;> omega
 ·(repeat' split) <;> omega
 (repeat' split) <;> omega
theorem Utf_c (s:ByteArray) (hs:s.size≤60000) (at_:Nat) (ha:at_<s.size):PCall Tryz.prog 187 [.val (.string s),.val (.int .i64 at_)] (.val (.int .i64 (utfL (rst s at_):Nat))):=by
 obtain ⟨b,hb,hr,hlt⟩:=Xh ha
 rw [hr]
 have hl:=rst_len s (at_+1)
 have hno:=utfL_no (c:=b.toNat) (l:=rst s (at_+1))
 have hgo:=utfL_go (c:=b.toNat) (l:=rst s (at_+1))
 rw [hl] at hno hgo
 refine Zc Tryz.func187 U (by kernel_rfl) U (Wc U) ?_
 refine Qe ?_
 refine Qbb ?_
 refine QdY ?_
 refine Qge ?_
 refine Qs ?_
 refine Qs ?_
 refine Qs ?_
 refine QU ?_
 refine Qg ?_;intro c16 h16
 refine Qa ?_
 obtain ⟨rfl,g16⟩|⟨rfl,g16⟩:=Za h16
 ·refine QbK ?_
  refine Zw 22 (192≤b.toNat∧b.toNat<224) ?_ _ _ U ?_
  ·skip
   refine QbG ?_;intro c18 h18
   refine Qb ?_
   obtain ⟨rfl,g18⟩|⟨rfl,g18⟩:=Za h18
   ·skip
    refine Qcx ?_
    refine Wa U ?_ by6 by4
    clear hno hgo;first|(simp_all;done)|(simp_all;omega)|grind
   skip
   refine Qf ?_
   refine Qbn ?_;intro c21 h21
   refine Qm ?_
   refine Wa U ?_ by6 by4
   clear hno hgo;first|(simp_all;done)|(simp_all;omega)|grind
  intro c22 h22
  refine Qc ?_
  apply c_joinkm (rg [(2,2),(6,3),(11,14)]) (σ:=Int × Int × Int) (fun zz=>match zz with|(n,v,m)=>[(6,.val (.int .i64 n)),(7,.val (.int .i64 v)),(8,.val (.int .i64 m))]) (fun zz=>match zz with|(n,v,m)=>(192≤b.toNat∧b.toNat<224→n=2∧v=(b.toNat:Int) - 192∧m=128)∧(¬ (192≤b.toNat∧b.toNat<224)→n=0∧v=0∧m=0))
  ·repeat' (first|exact Wf|apply Wd rfl|apply We rfl)
  ·skip
   obtain ⟨rfl,g22⟩|⟨rfl,g22⟩:=Za h22
   ·refine QbL ?_
    first|exact ⟨(2,(b.toNat:Int) - 192,128),⟨fun _=>⟨rfl,rfl,rfl⟩,fun q=>absurd g22 q⟩,by5,by4⟩|exact ⟨(0,0,0),⟨fun q=>absurd q g22,fun _=>⟨rfl,rfl,rfl⟩⟩,by5,by4⟩
   refine Qq ?_
   refine QK ?_
   refine Qay ?_
   refine Qj ?_
   refine Qi ?_
   refine QbE ?_
   first|exact ⟨(2,(b.toNat:Int) - 192,128),⟨fun _=>⟨rfl,rfl,rfl⟩,fun q=>absurd g22 q⟩,by5,by4⟩|exact ⟨(0,0,0),⟨fun q=>absurd q g22,fun _=>⟨rfl,rfl,rfl⟩⟩,by5,by4⟩
  rintro ⟨n,v,m⟩ hI
  try dsimp only [List.cons_append,List.nil_append] at hI ⊢
  obtain ⟨j1,j2⟩:=hI
  refine Qcy ?_
  refine Zw 30 (224≤b.toNat∧b.toNat<240) ?_ _ _ U ?_
  ·skip
   refine QbG ?_;intro c26 h26
   refine Qb ?_
   obtain ⟨rfl,g26⟩|⟨rfl,g26⟩:=Za h26
   ·skip
    refine Qcx ?_
    refine Wa U ?_ by6 by4
    clear hno hgo;first|(simp_all;done)|(simp_all;omega)|grind
   skip
   refine Qf ?_
   refine Qbn ?_;intro c29 h29
   refine Qm ?_
   refine Wa U ?_ by6 by4
   clear hno hgo;first|(simp_all;done)|(simp_all;omega)|grind
  intro c30 h30
  refine Qc ?_
  apply c_joinkm (rg [(2,2),(6,3),(11,22)]) (σ:=Int × Int × Int) (fun zz=>match zz with|(n2,v2,m2)=>[(6,.val (.int .i64 n2)),(7,.val (.int .i64 v2)),(8,.val (.int .i64 m2))]) (fun zz=>match zz with|(n2,v2,m2)=>(224≤b.toNat∧b.toNat<240→n2=3∧v2=(b.toNat:Int) - 224∧m2=2048)∧(¬ (224≤b.toNat∧b.toNat<240)→n2=n∧v2=v∧m2=m))
  ·repeat' (first|exact Wf|apply Wd rfl|apply We rfl)
  ·skip
   obtain ⟨rfl,g30⟩|⟨rfl,g30⟩:=Za h30
   ·refine QbL ?_
    first|exact ⟨(3,(b.toNat:Int) - 224,2048),⟨fun _=>⟨rfl,rfl,rfl⟩,fun q=>absurd g30 q⟩,by5,by4⟩|exact ⟨(n,v,m),⟨fun q=>absurd q g30,fun _=>⟨rfl,rfl,rfl⟩⟩,by5,by4⟩
   refine Qq ?_
   refine QK ?_
   refine Qay ?_
   refine Qj ?_
   refine Qi ?_
   refine QbE ?_
   first|exact ⟨(3,(b.toNat:Int) - 224,2048),⟨fun _=>⟨rfl,rfl,rfl⟩,fun q=>absurd g30 q⟩,by5,by4⟩|exact ⟨(n,v,m),⟨fun q=>absurd q g30,fun _=>⟨rfl,rfl,rfl⟩⟩,by5,by4⟩
  rintro ⟨n2,v2,m2⟩ hI
  try dsimp only [List.cons_append,List.nil_append] at hI ⊢
  obtain ⟨j3,j4⟩:=hI
  refine Qcy ?_
  refine Zw 38 (240≤b.toNat∧b.toNat<248) ?_ _ _ U ?_
  ·skip
   refine QbG ?_;intro c34 h34
   refine Qb ?_
   obtain ⟨rfl,g34⟩|⟨rfl,g34⟩:=Za h34
   ·skip
    refine Qcx ?_
    refine Wa U ?_ by6 by4
    clear hno hgo;first|(simp_all;done)|(simp_all;omega)|grind
   skip
   refine Qf ?_
   refine Qbn ?_;intro c37 h37
   refine Qm ?_
   refine Wa U ?_ by6 by4
   clear hno hgo;first|(simp_all;done)|(simp_all;omega)|grind
  intro c38 h38
  refine Qc ?_
  apply c_joinkm (rg [(2,2),(5,4),(11,30)]) (σ:=Int × Int × Int) (fun zz=>match zz with|(n3,v3,m3)=>[(6,.val (.int .i64 n3)),(7,.val (.int .i64 v3)),(8,.val (.int .i64 m3))]) (fun zz=>match zz with|(n3,v3,m3)=>n3=(utfN b.toNat:Nat)∧v3=utfV b.toNat∧m3=utfM b.toNat)
  ·repeat' (first|exact Wf|apply Wd rfl|apply We rfl)
  ·skip
   obtain ⟨rfl,g38⟩|⟨rfl,g38⟩:=Za h38
   ·refine QbL ?_
    first|exact ⟨(4,(b.toNat:Int) - 240,65536),utf_all _ _ _ (fun q=>by omega) (fun q=>by omega) (fun _=>⟨rfl,rfl,rfl⟩) (fun q=>by omega),by5,by4⟩|exact ⟨(n2,v2,m2),utf_all _ _ _ (fun q=>by have:=j1 q;have:=j4 by17;omega) (fun q=>j3 q) (fun q=>absurd q g38) (fun q=>by have:=j2 by17;have:=j4 by17;omega),by5,by4⟩
   refine Qq ?_
   refine QK ?_
   refine Qay ?_
   refine Qj ?_
   refine Qi ?_
   refine QbE ?_
   first|exact ⟨(4,(b.toNat:Int) - 240,65536),utf_all _ _ _ (fun q=>by omega) (fun q=>by omega) (fun _=>⟨rfl,rfl,rfl⟩) (fun q=>by omega),by5,by4⟩|exact ⟨(n2,v2,m2),utf_all _ _ _ (fun q=>by have:=j1 q;have:=j4 by17;omega) (fun q=>j3 q) (fun q=>absurd q g38) (fun q=>by have:=j2 by17;have:=j4 by17;omega),by5,by4⟩
  rintro ⟨n3,v3,m3⟩ hI
  try dsimp only [List.cons_append,List.nil_append] at hI ⊢
  obtain ⟨rfl,rfl,rfl⟩:=hI
  have hN:=utf_b b.toNat
  clear j1 j2 j3 j4
  generalize utfN b.toNat=N at *
  generalize utfV b.toNat=V at *
  generalize utfM b.toNat=W at *
  obtain ⟨k1,k2,k3,k4⟩:=hN
  refine Qcy ?_
  refine Zw 50 (N=0∨s.size<at_+N) ?_ _ _ U ?_
  ·skip
   refine Qb ?_
   refine Qz ?_;intro c42 h42
   refine Qb ?_
   obtain ⟨rfl,g42⟩|⟨rfl,g42⟩:=Za h42
   ·skip
    refine QaM ?_
    refine Qgf ?_
    refine Qf ?_
    refine Qfh ?_
    refine Qcp ?_;intro c49 h49
    refine Qm ?_
    refine Wa U ?_ by6 by4
    clear hno hgo;first|(simp_all;done)|(simp_all;omega)|grind
   skip
   refine Qcz ?_
   refine Wa U ?_ by6 by4
   clear hno hgo;first|(simp_all;done)|(simp_all;omega)|grind
  intro c50 h50
  refine Qc ?_
  obtain ⟨rfl,g50⟩|⟨rfl,g50⟩:=Za h50
  ·refine QbK ?_
   have hU:=hgo by17 by17
   refine c_le (al':=[(0,.val (.string s)),(1,.val (.int .i64 at_)),(6,.val (.int .i64 N)),(7,.val (.int .i64 V)),(8,.val (.int .i64 W))]) by5 (Xo _) ?_
   refine QaN ?_
   apply Zu (rg [(2,4),(7,1),(9,64)]) (σ:=Nat × Int) (fun zz=>match zz with|(i,v)=>[(7,.val (.int .i64 v)),(9,.val (.int .i64 i))]) (fun zz=>match zz with|(i,v)=>1≤i∧i≤N∧0≤v∧v+1≤32 * 64 ^ (i - 1)∧cont (N - 1) V (rst s (at_+1))=cont (N - i) v (rst s (at_+i))) (fun zz=>match zz with|(i,v)=>N - i) ((1,V))
   ·repeat' (first|exact Wf|apply Wd rfl|apply We rfl)
   ·refine ⟨Nat.le_refl _,by show 1≤N;omega,by show 0≤V;omega,?_,U⟩
    show V+1≤32 * 64 ^ 0
    omega
   ·exact by5
   rintro ⟨i,v⟩ hI
   try dsimp only [List.cons_append,List.nil_append] at hI ⊢
   obtain ⟨h1,h2,h3,h4,hu⟩:=hI
   have hp:=pow_mono_ i by17 h1
   refine QaA ?_
   refine Qg ?_;intro c53 h53
   refine Qa ?_
   obtain ⟨rfl,g53⟩|⟨rfl,g53⟩:=Za h53
   ·refine Qbs ?_
    have he:utfL (b.toNat::rst s (at_+1))=utfE W N (some v):=by rw [hU,hu,show N - i=0 by omega];cases rst s (at_+i) <;> rfl
    refine Zw 87 (v<W∨1114111<v∨(55296≤v∧v≤57343)) ?_ _ _ U ?_
    ·skip
     refine Qai ?_
     refine Qg ?_;intro c75 h75
     refine Qb ?_
     obtain ⟨rfl,g75⟩|⟨rfl,g75⟩:=Za h75
     ·skip
      refine Qf ?_
      refine Qcp ?_;intro c78 h78
      refine Qv ?_
      obtain ⟨rfl,g78⟩|⟨rfl,g78⟩:=Za h78
      ·skip
       refine Qf ?_
       refine Qd9 ?_;intro c82 h82
       refine Qf ?_
       obtain ⟨rfl,g82⟩|⟨rfl,g82⟩:=Za h82
       ·skip
        refine QaU ?_
        refine Qaz ?_
        refine Wa U ?_ by6 by4
        simp_all;omega
       skip
       refine Qf ?_
       refine QeJ ?_;intro c85 h85
       refine Qaz ?_
       refine Wa U ?_ by6 by4
       simp_all;omega
      skip
      refine Qah ?_
      refine QcW ?_
      refine Qm ?_
      refine Wa U ?_ by6 by4
      simp_all;done
     skip
     refine QbH ?_
     refine Qah ?_
     refine QcW ?_
     refine Qm ?_
     refine Wa U ?_ by6 by4
     simp_all;done
    intro c87 h87
    refine Qc ?_
    obtain ⟨rfl,g87⟩|⟨rfl,g87⟩:=Za h87
    ·refine Qau ?_
     refine Qo ?_
     exact Ze U U (Le.inteq (by rw [he,utfE,if_neg g87])) by4 ⟨U,U⟩
    refine QD ?_
    exact Ze U U (Le.inteq (by rw [he,utfE,if_pos g87];rfl)) by4 ⟨U,U⟩
   refine Qk ?_
   obtain ⟨d,hd,hrd,hdl⟩:=Xh (s:=s) (i:=at_+i) by17
   refine QaO ?_
   refine Qa6 ?_
   refine Zb 60 U U U (Yv (i:=at_+i) U tu_9 U U by11 (hd) ?_)
   refine Qge ?_
   refine Q1 ?_
   refine Zw 67 (d.toNat<128∨191<d.toNat) ?_ _ _ U ?_
   ·skip
    refine Qb ?_
    refine Qg ?_;intro c63 h63
    refine Qb ?_
    obtain ⟨rfl,g63⟩|⟨rfl,g63⟩:=Za h63
    ·skip
     refine Qf ?_
     refine Qcp ?_;intro c66 h66
     refine Qm ?_
     refine Wa U ?_ by6 by4
     simp_all;omega
    skip
    refine Qcx ?_
    refine Wa U ?_ by6 by4
    simp_all;omega
   intro c67 h67
   refine Qc ?_
   obtain ⟨rfl,g67⟩|⟨rfl,g67⟩:=Za h67
   ·refine QbW ?_
    refine Qh ?_
    refine Zb 69 U U U (op_mul U U U (IntWalk.i64_in _ by17) ?_)
    refine Qb ?_
    refine Qa6 ?_
    refine Qay ?_
    refine QaD ?_
    refine ⟨(i+1,64 * v+d.toNat - 128),⟨by omega,by omega,by omega,?_,?_⟩,by simp;omega,by5,by4⟩
    ·rw [hp.2];omega
    rw [hu,hrd,show N - i=(N - (i+1))+1 by omega,cont,if_neg by17];rfl
   refine QD ?_
   exact Ze U U (Le.inteq (by rw [hU,hu,hrd,show N - i=(N - i - 1)+1 by omega,cont,if_pos by17];rfl)) by4 ⟨U,U⟩
  refine QD ?_
  exact Ze U U (Le.inteq (by rw [hno by17 by17];rfl)) by4 ⟨U,U⟩
 refine QD ?_
 exact Ze U U (Le.inteq (by rw [utfL_cons,if_pos by17];rfl)) by4 ⟨U,U⟩
theorem bad_c (s:ByteArray) (hs:s.size≤60000):PCall Tryz.prog 157 [.val (.string s)] (.val (.int .i64 (badF (s.size+1) 0 (rst s 0)))):=by
 refine Zc Tryz.func157 U (by kernel_rfl) U (Wc U) ?_
 refine Qe ?_
 refine Qae ?_
 refine Xk (σ:=Nat × Nat) (fun zz=>match zz with|(i,f)=>[(0,.val (.string s)),(3,.val (.int .i64 i))]) (fun zz=>match zz with|(i,f)=>[]) (fun zz=>match zz with|(i,f)=>i≤s.size∧s.size - i<f∧badF (s.size+1) 0 (rst s 0)=badF f i (rst s i)) (fun zz=>match zz with|(i,f)=>s.size - i) ((0,s.size+1)) ?_ ?_ ?_ ?_
 ·exact ⟨Nat.zero_le _,by omega,U⟩
 ·exact by5
 ·exact by4
 rintro ⟨i,f⟩ hI
 try dsimp only [List.cons_append,List.nil_append] at hI ⊢
 obtain ⟨hi,hf,hu⟩:=hI
 refine QaA ?_
 refine Qdo ?_;intro c8 h8
 refine Qa ?_
 obtain ⟨rfl,g8⟩|⟨rfl,g8⟩:=Za h8
 ·refine Qad ?_
  refine Ze U U (Le.inteq ?_) by4 ⟨U,U⟩
  rw [hu,rst_nil by17]
  cases f <;> rfl
 refine Qdq ?_
 obtain ⟨b,_,hr,_⟩:=Xh (s:=s) (i:=i) by17
 have hle:=utfL_le (rst s i)
 rw [rst_len] at hle
 obtain ⟨f,rfl⟩:∃ f',f=f'+1:=⟨f - 1,by omega⟩
 have hb:badF (f+1) i (rst s i)=if utfL (rst s i)=0 then (i:Int) else badF f (i+utfL (rst s i)) (rst s (i+utfL (rst s i))):=by
  rw [← rst_drop,hr];rfl
 refine Q8 ?_
 refine Zb 11 U U U (Zd (xs:=[.tmp 9,.tmp 10]) U U (Utf_c s hs i by17) by2 ?_)
 refine QU ?_
 refine Qz ?_;intro c13 h13
 refine Qa ?_
 obtain ⟨rfl,g13⟩|⟨rfl,g13⟩:=Za h13
 ·refine QbW ?_
  refine Q8 ?_
  refine Qa6 ?_
  refine Qbl ?_
  refine ⟨(i+utfL (rst s i),f),⟨by omega,by omega,?_⟩,by simp;omega,by5,by4⟩
  rw [hu,hb,if_neg by17]
 refine QaY ?_
 refine Ze U U (Le.inteq ?_) by4 ⟨U,U⟩
 rw [hu,hb,if_pos by17]
end Go.Proofs.YteepjjgooplljaaGreat
