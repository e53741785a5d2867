/- Parts of a proof: short words; Arguments as trees: what a reading of an argument says, in the words of the logic; and how a law's call ends.; More rules: a rune as a text; a part of a text; contracts of the model's own kind; bools that are known.; Types as plain data: a kind, a name, a number, and kids; their size, their sameness, and the count that the statements bound them by.; Types as plain data, on: what a type takes and answers, its parts in order, its variables and metas.; Types as plain data, on: types with others in places that are told.; Facts of the seat's types, one by one, by evaluation.; steps that stand often; Arguments of the layers' types, opened: types, texts, substitutions.; The frame of a law's row: if the call returns true and nothing below the heap's old size has turned, the row's post holds, whatever the arguments' types.; Arguments as trees, with bounds: no slice and no text is longer than L, and the whole is no greater than the bulk of the reading.; Patterns and expressions as plain data: their cells, their parts, their sameness but for places.; Core expressions as plain data: their cells, their parts, their sameness but for the places of patterns.; Names of patterns, free names of expressions, as plain functions.; How much an expression has, as cognatelaw05.Count counts it.; How much a core expression has, as cognatelaw21's count counts it.; The arguments of the statements of layer 21.; Arguments that are one cell.; The arguments of CoreChecks, CoreMore, CorePut.; The frame of a row's second form ('..UptoSaid').; Plain arithmetic of 63-bit integers: what the functions of layer 1 compute, over Int, with no program in sight.; Plain arithmetic of words: what the functions of layer 2 compute.; Plain: bytes packed into words, eight a word, the first byte lowest.; Plain: words unpacked into bytes; when packing gives the words back.; the document's lexer as plain functions; texts held against each other, as the kernel can evaluate it; the document's parser: the state and its small steps, as plain functions; Plain: the levels of operators.; Declarations as plain data (printed by wip/gend.py).; the document's parser as plain functions; the document's check of declarations, as plain functions; core: which types are right, as a plain function; A logic of trees: parts of a text, one side open; calls that answer a pair of a type and a bool; cognateref05.Texts, SameType, SameTypes; cognatelaw08.ints; slices.EqualFunc and tree.same, for lists of types, patterns, expressions, alternatives, binds: alike under a map.; sameness of types, patterns, expressions: tree.SameType, SamePat, Same, sameBind, and the document's -/
import Derived.Test.YteepjjgooplljaaGreatKLZPut1
import Derived.ProofKit
import Derived.ChangeArms
import Derived.Test.YteepjjgooplljaaGreatProg
import Derived.SizedLaws
import Derived.OpenShut
import Derived.Test.YteepjjgooplljaaGreatRows
import Derived.WideShapes
import Derived.JoinedCond
import Derived.Deep.CondSized
import Derived.RowKit
import Derived.Laws.Bits64
import Derived.Laws.BitsAllLaws
import Derived.Laws.BytesArg
import Derived.WalkKit
set_option maxRecDepth 100000
set_option maxHeartbeats 4000000
namespace Go.Proofs.YteepjjgooplljaaGreat
open Go.RowKit
theorem V {α:Sort _} {a:α}:a=a:=rfl
abbrev Wf := @List.drop_of_length_le
abbrev We := @List.mem_of_getElem?
abbrev Wc := @Drops.nil
abbrev Wb := @Drops.skip
abbrev Wa := @Drops.keep
abbrev Xz := @Nat.le_of_ble_eq_true
abbrev Xy := @Le.own_eq
abbrev Xx := @BoolQ.mk
abbrev Xw := @SLe.cons
abbrev Xv := @Les.cons
abbrev Xu := @Les.refl
abbrev Xt := @Le.refl
abbrev Xs := @MLe.of_eq
abbrev Xr := @MLe.loc
abbrev Xq := @MLe.drop
abbrev Xp := @MLe.cons
abbrev Xo := @MLe.none
abbrev Xn := @MLe.refl
theorem by0 {p:Prop} (h:p:=by repeat' (first|exact Le.refl _|exact Le.own _ _ _|exact Le.nil _|refine Le.agg ?_|refine Le.tup ?_|exact Les.refl _|refine Les.cons ?_ ?_|refine Le.seq ?_|exact Less.refl _|exact Less.nil|refine Less.cons ?_ rfl ?_)):p:=h
theorem by1 {p:Prop} (h:p:=by first|exact Les.refl _|(repeat' (first|exact Les.refl _|refine Les.cons ?_ ?_|exact Le.refl _|exact Le.own _ _ _|exact Le.nil _|refine Le.agg ?_))):p:=h
theorem by2 {p:Prop} (h:p:=by repeat' (first|exact Le.refl _|exact Le.own _ _ _|exact Le.nil _|refine Le.agg ?_|refine Le.tup ?_|exact Les.refl _|refine Les.cons ?_ ?_)):p:=h
theorem by3 {p:Prop} (h:p:=by first|exact MLe.none _|exact MLe.refl _|(repeat' (first|exact MLe.nil|exact MLe.refl _|refine MLe.cons _ ?_|refine MLe.drop _ ?_))):p:=h
theorem by4 {p:Prop} (h:p:=by repeat' (first|exact SLe.nil _|refine SLe.cons rfl ?_ ?_|exact Le.refl _|exact Le.own _ _ _|exact Le.nil _)):p:=h
theorem by5 {p:Prop} (h:p:=by repeat' (first|exact SLe.wo _ _|exact SLe.refl _|refine SLe.fresh rfl ?_)):p:=h
theorem by6 {p:Prop} (h:p:=by first|(simp;done)|(simp;omega)|omega):p:=h
theorem by7 {p:Prop} (h:p:=by first|omega|(simp at *;omega)):p:=h
theorem by8 {p:Prop} (h:p:=by simp [bts,zi,AV.cells]):p:=h
theorem by9 {p:Prop} (h:p:=by rw [Bi.cellss_app'];rfl):p:=h
def cellF (w:World):EH:=fun b i=>w.cell? ⟨b,i,none⟩
def fsOk (P:Program) (S:List TypeId):Nat→List Field→Nat→Bool
 | k,[],n=>k == n
 | k,f::fs,n=>f.offset == k && S.contains f.type && fsOk P S (k+P.cellsOf f.type) fs n
def closedT (P:Program) (S:List TypeId):Bool:=S.all fun t=>match P.underlying t with
 | some .bool=>true
 | some (.int _)=>true
 | some .string=>true
 | some (.slice e)=>S.contains e && Nat.blt 0 (P.cellsOf e)
 | some (.struct fs)=>fsOk P S 0 fs.toList (P.cellsOf t)
 | _=>false
section
variable {H:Type} {enc:TypeId × Value→H} {P:Program} {w:World} {sp:Nat→Bool} {held:Bool}
theorem cells_get {a:Addr} {m:Nat} {ws:List Value} (h:w.cells? 0 a m=some ws):ws.length=m∧∀ j x,ws[j]?=some x→w.cell? (a.add j)=some x:=by
 unfold World.cells? at h
 rw [if_pos (Nat.zero_le _)] at h
 have hl:ws.length=m:=by simpa using mapM_some_length h
 refine ⟨hl,fun j x hx=>?_⟩
 have hj:j<m:=by
  rw [← hl]
  rcases Nat.lt_or_ge j ws.length with k|k
  ·exact k
  rw [List.getElem?_eq_none k] at hx;simp at hx
 have:=mapM_some_get h j j (by simp [hj])
 rw [this,hx]
theorem Inv.start (w:World):Inv w.heap.size (cellF w) [] w:=⟨Nat.le_refl _,fun _ _ _ h=>h,by simp,List.Pairwise.nil⟩
theorem law_run {f:FuncId} {vs:List AV} {us:List Value} (h:ACall P f vs [] (fun v _=>v=.val (.bool true))) (hr:Rels (cellF w) vs us):Calls P f us.toArray w fun e w'=>e=.returned (.bool true)∧Below w.heap.size w w':=by
 refine (h.run w.heap.size (cellF w) [] w us (by simpa using Inv.start w) hr).mono ?_
 rintro e w' ⟨u,v,M',F',rfl,rfl,h3,_,_,h6⟩
 cases h3
 exact ⟨V,h6⟩
theorem rel_agg {F:EH} {v:Value} {cs:List AV} (hv:∃ a,v=.agg a) (h:Rels F cs v.cells.toList) (h1:Ones v.cells.toList):Rel F (.agg cs) v:=by
 obtain ⟨a,rfl⟩:=hv
 have:=Rel.agg h h1
 simpa [Value.cells] using this
theorem rel_cell {F:EH} {v:Value} {c:AV} (hv:∀ a,v≠.agg a) (h:Rels F [c] v.cells.toList):Rel F c v:=by
 have e:v.cells.toList=[v]:=by cases v <;> first|rfl|exact absurd rfl (hv _)
 rw [e] at h
 cases h with
 | cons h _=>exact h
end
section
variable {P:Program} {n:Nat} {al:Sl} {M:Mem} {o:Oper} {K:AV→Mem→Prop}
theorem op_substr {x lo hi:Operand} {t:TypeId} {s:ByteArray} {k k':IntKind} {a b:Int} {i j:Nat} (ho:o.op=.slice t x (some lo) (some hi) none) (ht:P.underlying t=some .string) (hx:al.ev x=some (.val (.string s))) (hlo:al.ev lo=some (.val (.int k a))) (hhi:al.ev hi=some (.val (.int k' b))) (ha:a=i) (hb:b=j) (hij:i≤j) (hj:j≤s.size) (q:K (.val (.string (s.extract i j))) M):OpT P o al M K :=
 OpT.plain fun n B F Mf ac w hi' hs=>by
  refine ⟨_,_,?_,q,.val _⟩
  subst ha hb
  have h1:(0:Int)≤(j:Int)∧(j:Int)≤(s.size:Int):=⟨by omega,by omega⟩
  have h2:(0:Int)≤(i:Int)∧(i:Int)≤(j:Int):=⟨by omega,by omega⟩
  simp [execOp,ho,Yq hs hx,Yq hs hlo,Yq hs hhi,Instr.sliceAt,underlying,ht,Instr.slice,Instr.sliceBounds,Instr.sliceBound,asIntOf,hj,hij]
theorem BCall.yes {f:FuncId} {vs:List AV} {p:Prop} (h:BCall P f vs p) (hp:p):PCall P f vs (.val (.bool true)) :=
 h.mono (by rintro v M' ⟨⟨c,hc,rfl⟩,rfl⟩;exact ⟨by rw [hc.2 hp],rfl⟩)
theorem BCall.no {f:FuncId} {vs:List AV} {p:Prop} (h:BCall P f vs p) (hp:¬ p):PCall P f vs (.val (.bool false)) :=
 h.mono (by rintro v M' ⟨⟨c,hc,rfl⟩,rfl⟩;exact ⟨by cases c <;> simp_all,rfl⟩)
theorem Inv.kept {B:Nat} {F:EH} {M:Mem} {w w':World} (hi:Inv B F M w) (hb:Below w.heap.size w w'):Inv B F M w':=by
 refine ⟨Nat.le_trans hi.base hb.size,fun b i x h=>?_,fun r hr=>?_,hi.far⟩
 ·have h1:=hi.fix b i x h
  rw [hb.cell (p:=⟨b,i,none⟩) (cell_size h1)];exact h1
 exact (hi.ok r hr).stay (Ext.refl F) (fun b hbk=>⟨hb.block b ((hi.ok r hr).lt hbk),fun _=>V⟩)
theorem PCall.of_calls {f:FuncId} {vs:List Value} {r:Value} (he:Enters P f) (h:∀ w,Calls P f vs.toArray w fun e w'=>e=.returned r∧Below w.heap.size w w'):PCall P f (vs.map AV.val) (.val r):=by
 refine ⟨he,fun B F Mf w us hi hr=>?_⟩
 have e:us=vs:=by
  have key:∀ (vs us:List Value),Rels F (vs.map AV.val) us→us=vs:=by
   intro vs
   induction vs with
   | nil=>intro us h;cases h;rfl
   | cons v vs ih =>
    intro us h
    cases h with
    | cons h hs=>cases h;rw [ih _ hs]
  exact key vs us hr
 subst e
 refine (h w).mono ?_
 rintro e w' ⟨rfl,hb⟩
 exact ⟨r,.val r,[],F,V,⟨V,V⟩,.val r,Ext.refl F,hi.kept hb,hb.mono hi.base⟩
end
instance:DecidableEq ByteArray:=fun a b=>if h:a.toList=b.toList then isTrue (ba_eq h) else isFalse (fun e=>h (by rw [e]))
inductive Ty where
 | mk (k:Int) (s:ByteArray) (n:Int) (ks:List Ty)
def Ty.kind:Ty→Int|.mk k _ _ _=>k
def Ty.name:Ty→ByteArray|.mk _ s _ _=>s
def Ty.num:Ty→Int|.mk _ _ n _=>n
def Ty.kids:Ty→List Ty|.mk _ _ _ ks=>ks
mutual
def Ty.size:Ty→Nat
 | .mk _ _ _ ks=>1+Ty.sizes ks
def Ty.sizes:List Ty→Nat
 | []=>0
 | t::ts=>t.size+Ty.sizes ts
end
theorem Ty.size_pos (t:Ty):1≤t.size:=by cases t;simp [Ty.size]
theorem Ty.size_mem {t:Ty}:∀ {ts:List Ty},t∈ts→t.size≤Ty.sizes ts
 | [],h=>by simp at h
 | u::ts,h=>by
  rw [Ty.sizes]
  rcases List.mem_cons.1 h with rfl|h
  ·omega
  have:=Ty.size_mem h;omega
theorem Ty.size_kid {t u:Ty} (h:u∈t.kids):u.size<t.size:=by
 obtain ⟨k,s,n,ks⟩:=t
 have:=Ty.size_mem (show u∈ks from h)
 rw [Ty.size];omega
mutual
def Ty.cells:Ty→List AV
 | .mk k s n ks=>[.val (.int .i64 k),.val (.string s),.val (.int .i64 n),.seq 4 (Ty.cellss ks)]
def Ty.cellss:List Ty→List (List AV)
 | []=>[]
 | t::ts=>t.cells::Ty.cellss ts
end
theorem Ty.cellss_map:∀ ts:List Ty,Ty.cellss ts=ts.map Ty.cells
 | []=>by simp [Ty.cellss]
 | t::ts=>by simp [Ty.cellss,Ty.cellss_map ts]
theorem Ty.cellss_len (ts:List Ty):(Ty.cellss ts).length=ts.length:=by rw [Ty.cellss_map];simp
theorem Ty.cellss_get {ts:List Ty} {i:Nat} {t:Ty} (h:ts[i]?=some t):(Ty.cellss ts)[i]?=some t.cells:=by rw [Ty.cellss_map];simp [h]
theorem Ty.cellss_app (a b:List Ty):Ty.cellss (a++b)=Ty.cellss a++Ty.cellss b:=by simp [Ty.cellss_map]
theorem Ty.size_at {ts:List Ty} {i:Nat} {t:Ty} (h:ts[i]?=some t):t.size≤Ty.sizes ts:=Ty.size_mem (We h)
theorem Zr {α:Type} {l:List α} {i:Nat} (h:i<l.length):∃ x,l[i]?=some x:=⟨l[i],List.getElem?_eq_getElem h⟩
theorem Yh {α:Type} {l:List α} {i:Nat} {x:α} (h:l[i]?=some x):l.drop i=x::l.drop (i+1):=by
 have hi:i<l.length:=by
  rcases Nat.lt_or_ge i l.length with k|k
  ·exact k
  rw [List.getElem?_eq_none k] at h;simp at h
 rw [List.drop_eq_getElem_cons hi]
 rw [List.getElem?_eq_getElem hi] at h
 simp at h
 rw [h]
mutual
def Ty.cnt:Ty→Int→Int
 | .mk k _ n ks,most=>if k=1∧(ks≠[]∨n≠0) then most else Ty.cnts ks 1 most
def Ty.cnts:List Ty→Int→Int→Int
 | [],n,_=>n
 | t::ts,n,most=>if n<most then Ty.cnts ts (n+t.cnt (most - n)) most else n
end
mutual
theorem Ty.cnt_bd:∀ (t:Ty) (m:Int),1≤m→1≤t.cnt m∧t.cnt m≤m
 | .mk k s n ks,m,h=>by
  rw [Ty.cnt]
  split
  ·omega
  exact Ty.cnts_bd ks 1 m (by omega) h
theorem Ty.cnts_bd:∀ (ts:List Ty) (n m:Int),1≤n→n≤m→1≤Ty.cnts ts n m∧Ty.cnts ts n m≤m
 | [],n,m,h,h'=>by rw [Ty.cnts];omega
 | t::ts,n,m,h,h'=>by
  rw [Ty.cnts]
  split
  ·have:=Ty.cnt_bd t (m - n) (by omega)
   exact Ty.cnts_bd ts _ m (by omega) (by omega)
  omega
end
inductive Ty.VarOk:Ty→Prop
 | mk (k:Int) (s:ByteArray) (n:Int) (ks:List Ty) (h:k=1→ks=[]∧n=0) (hk:∀ t∈ks,Ty.VarOk t):Ty.VarOk (.mk k s n ks)
mutual
theorem Ty.cnt_size:∀ (t:Ty) (m:Int),1≤m→t.cnt m<m→(t.size:Int)=t.cnt m∧t.VarOk
 | .mk k s n ks,m,h,hlt=>by
  rw [Ty.cnt] at hlt ⊢
  split at hlt
  ·omega
  rename_i hc
  rw [if_neg hc]
  obtain ⟨h1,h2⟩:=Ty.cnts_size ks 1 m (by omega) h hlt
  refine ⟨by rw [Ty.size];omega,.mk k s n ks (fun hk=>?_) h2⟩
  constructor
  ·cases ks with
   | nil=>rfl
   | cons t ts=>exact absurd ⟨hk,Or.inl (by simp)⟩ hc
  by_cases hn:n=0
  ·exact hn
  exact absurd ⟨hk,Or.inr hn⟩ hc
theorem Ty.cnts_size:∀ (ts:List Ty) (n m:Int),1≤n→n≤m→Ty.cnts ts n m<m→n+(Ty.sizes ts:Int)=Ty.cnts ts n m∧∀ t∈ts,t.VarOk
 | [],n,m,h,h',hlt=>by rw [Ty.cnts,Ty.sizes];exact ⟨by simp,by simp⟩
 | t::ts,n,m,h,h',hlt=>by
  rw [Ty.cnts] at hlt ⊢
  split at hlt
  ·rename_i hc
   rw [if_pos hc]
   have hb:=Ty.cnt_bd t (m - n) (by omega)
   obtain ⟨i1,i2⟩:=Ty.cnts_size ts (n+t.cnt (m - n)) m (by omega) (by omega) hlt
   have hlt2:t.cnt (m - n)<m - n:=by
    have:=Ty.cnts_ge ts (n+t.cnt (m - n)) m (by omega) (by omega)
    omega
   obtain ⟨j1,j2⟩:=Ty.cnt_size t (m - n) (by omega) hlt2
   refine ⟨by rw [Ty.sizes];omega,fun u hu=>?_⟩
   rcases List.mem_cons.1 hu with rfl|hu
   ·exact j2
   exact i2 u hu
  omega
theorem Ty.cnts_ge:∀ (ts:List Ty) (n m:Int),1≤n→n≤m→n≤Ty.cnts ts n m
 | [],n,m,h,h'=>by rw [Ty.cnts];omega
 | t::ts,n,m,h,h'=>by
  rw [Ty.cnts]
  split
  ·have hb:=Ty.cnt_bd t (m - n) (by omega)
   have:=Ty.cnts_ge ts (n+t.cnt (m - n)) m (by omega) (by omega)
   omega
  omega
end
def Ty.small (t:Ty) (most:Int):Bool:=decide (t.cnt (most+1)≤most)
theorem Ty.small_size {t:Ty} {most:Int} (h0:0≤most) (h:t.small most=true):(t.size:Int)≤most∧t.VarOk:=by
 unfold Ty.small at h
 simp at h
 obtain ⟨h1,h2⟩:=Ty.cnt_size t (most+1) (by omega) (by omega)
 exact ⟨by omega,h2⟩
theorem Ty.cnt_var {t:Ty} (h:t.kind=1∧(t.kids≠[]∨t.num≠0)) (m:Int):t.cnt m=m:=by
 cases t;rw [Ty.cnt];exact if_pos h
theorem Ty.cnt_not {t:Ty} (h:¬ (t.kind=1∧(t.kids≠[]∨t.num≠0))) (m:Int):t.cnt m=Ty.cnts t.kids 1 m:=by
 cases t;rw [Ty.cnt];exact if_neg h
def strs (xs:List ByteArray):List (List AV):=xs.map fun s=>[.val (.string s)]
def nums (xs:List Int):List (List AV):=xs.map fun s=>[.val (.int .i64 s)]
theorem Ye (xs:List ByteArray):(strs xs).length=xs.length:=by simp [strs]
theorem strs_get {xs:List ByteArray} {i:Nat} {s:ByteArray} (h:xs[i]?=some s):(strs xs)[i]?=some [.val (.string s)]:=by simp [strs,h]
theorem strs_app (a b:List ByteArray):strs (a++b)=strs a++strs b:=by simp [strs]
def Upto {α:Type} (xs ys:List α) (i:Nat):Prop:=∀ j,j<i→xs[j]?=ys[j]?
theorem Upto.zero {α:Type} (xs ys:List α):Upto xs ys 0:=fun j hj=>by omega
theorem Upto.succ {α:Type} {xs ys:List α} {i:Nat} {x y:α} (h:Upto xs ys i) (hx:xs[i]?=some x) (hy:ys[i]?=some y) (e:x=y):Upto xs ys (i+1):=fun j hj=>by
 by_cases q:j=i
 ·subst q;rw [hx,hy,e]
 exact h j (by omega)
theorem Upto.eq {α:Type} {xs ys:List α} {i:Nat} (h:Upto xs ys i) (hl:xs.length=ys.length) (hi:xs.length≤i):xs=ys:=by
 apply List.ext_getElem?
 intro j
 rcases Nat.lt_or_ge j xs.length with k|k
 ·exact h j (by omega)
 rw [List.getElem?_eq_none k,List.getElem?_eq_none (by omega)]
theorem at_ne {α:Type} {xs ys:List α} {i:Nat} {x y:α} (hx:xs[i]?=some x) (hy:ys[i]?=some y) (e:x≠y):¬ xs=ys:=fun h=>by
 subst h;rw [hx] at hy;simp at hy;exact e hy
theorem len_ne {α:Type} {xs ys:List α} (h:xs.length≠ys.length):¬ xs=ys:=fun e=>h (by rw [e])
end Go.Proofs.YteepjjgooplljaaGreat
namespace Go.Proofs.YteepjjgooplljaaGreat
abbrev arrow:ByteArray:=⟨#[45,62]⟩
def Ty.isFun (t:Ty):Prop:=t.kind=3∧t.name=arrow∧t.kids.length=2
def Ty.args:Ty→List Ty
 | .mk k s _ [a,b]=>if k=3∧s=arrow then a::b.args else []
 | _=>[]
termination_by t=>t.size
decreasing_by simp [Ty.size,Ty.sizes];omega
def Ty.ans:Ty→Ty
 | .mk k s n [a,b]=>if k=3∧s=arrow then b.ans else .mk k s n [a,b]
 | t=>t
termination_by t=>t.size
decreasing_by simp [Ty.size,Ty.sizes];omega
theorem Ty.fun_kids {t:Ty} (h:t.isFun):∃ n a b,t=.mk 3 arrow n [a,b]:=by
 obtain ⟨k,s,n,ks⟩:=t
 obtain ⟨h1,h2,h3⟩:=h
 simp only [Ty.kind,Ty.name,Ty.kids] at h1 h2 h3
 subst h1 h2
 match ks,h3 with
 | [a,b],_=>exact ⟨n,a,b,rfl⟩
theorem Ty.args_fun (n:Int) (a b:Ty):Ty.args (.mk 3 arrow n [a,b])=a::b.args:=by rw [Ty.args];simp
theorem Ty.ans_fun (n:Int) (a b:Ty):Ty.ans (.mk 3 arrow n [a,b])=b.ans:=by rw [Ty.ans];simp
theorem Ty.args_not {t:Ty} (h:¬ t.isFun):t.args=[]:=by
 rw [Ty.args.eq_def]
 split
 ·rw [if_neg]
  rintro ⟨rfl,rfl⟩
  exact h ⟨V,V,V⟩
 rfl
theorem Ty.ans_not {t:Ty} (h:¬ t.isFun):t.ans=t:=by
 rw [Ty.ans.eq_def]
 split
 ·rw [if_neg]
  rintro ⟨rfl,rfl⟩
  exact h ⟨V,V,V⟩
 rfl
theorem Ty.args_size:∀ (t:Ty),t.args.length≤t.size:=by
 intro t
 generalize hd:t.size=d
 induction d using Nat.strongRecOn generalizing t with
 | _ d ih =>
  by_cases h:t.isFun
  ·obtain ⟨n,a,b,rfl⟩:=Ty.fun_kids h
   rw [Ty.args_fun]
   have hb:b.size<d:=by rw [← hd];simp [Ty.size,Ty.sizes];omega
   have:=ih b.size hb b rfl
   simp
   omega
  rw [Ty.args_not h];simp
mutual
def Ty.all:Ty→List Ty
 | .mk k s n ks=>.mk k s n ks::Ty.alls ks
def Ty.alls:List Ty→List Ty
 | []=>[]
 | t::ts=>t.all++Ty.alls ts
end
theorem Ty.alls_app:∀ a b:List Ty,Ty.alls (a++b)=Ty.alls a++Ty.alls b
 | [],b=>by simp [Ty.alls]
 | t::ts,b=>by simp [Ty.alls,Ty.alls_app ts b]
mutual
theorem Ty.all_len:∀ t:Ty,t.all.length=t.size
 | .mk k s n ks=>by rw [Ty.all,Ty.size,List.length_cons,Ty.alls_len ks];omega
theorem Ty.alls_len:∀ ts:List Ty,(Ty.alls ts).length=Ty.sizes ts
 | []=>by simp [Ty.alls,Ty.sizes]
 | t::ts=>by rw [Ty.alls,Ty.sizes,List.length_append,Ty.all_len t,Ty.alls_len ts]
end
theorem Ty.alls_take (ks:List Ty) {i:Nat} {x:Ty} (h:ks[i]?=some x):Ty.alls (ks.take (i+1))=Ty.alls (ks.take i)++x.all:=by
 have hi:i<ks.length:=by
  rcases Nat.lt_or_ge i ks.length with k|k
  ·exact k
  rw [List.getElem?_eq_none k] at h;simp at h
 rw [List.getElem?_eq_getElem hi] at h
 simp at h
 rw [List.take_succ_eq_append_getElem hi,Ty.alls_app,h]
 simp [Ty.alls]
theorem Ty.sizes_app:∀ a b:List Ty,Ty.sizes (a++b)=Ty.sizes a+Ty.sizes b
 | [],b=>by simp [Ty.sizes]
 | t::ts,b=>by simp [Ty.sizes,Ty.sizes_app ts b];omega
theorem Ty.sizes_take (ks:List Ty) (i:Nat):Ty.sizes (ks.take i)≤Ty.sizes ks:=by
 have:=Ty.sizes_app (ks.take i) (ks.drop i)
 rw [List.take_append_drop] at this
 omega
theorem Yl {α:Type} {l:List α} {i:Nat} {x:α} (h:l[i]?=some x):l.take (i+1)=l.take i++[x]:=by
 have hi:i<l.length:=by
  rcases Nat.lt_or_ge i l.length with k|k
  ·exact k
  rw [List.getElem?_eq_none k] at h;simp at h
 rw [List.getElem?_eq_getElem hi] at h
 simp at h
 rw [List.take_succ_eq_append_getElem hi,h]
theorem Ty.len_sizes (ks:List Ty):ks.length≤Ty.sizes ks:=by
 induction ks with
 | nil=>simp
 | cons t ts ih=>have:=Ty.size_pos t;simp [Ty.sizes];omega
noncomputable instance (a:ByteArray) (l:List ByteArray):Decidable (a∈l):=Classical.propDecidable _
noncomputable def addVar (acc:List ByteArray) (t:Ty):List ByteArray:=if t.kind=1∧t.name∉acc then acc++[t.name] else acc
def addMeta (acc:List Int) (t:Ty):List Int:=if t.kind=2∧t.num∉acc then acc++[t.num] else acc
noncomputable def Ty.vars (t:Ty):List ByteArray:=t.all.foldl addVar []
def Ty.metas (t:Ty):List Int:=t.all.foldl addMeta []
theorem addVar_yes {acc:List ByteArray} {k:Int} {s:ByteArray} {n:Int} {ks:List Ty} (h:k=1∧s∉acc):addVar acc (.mk k s n ks)=acc++[s]:=if_pos h
theorem addVar_no {acc:List ByteArray} {k:Int} {s:ByteArray} {n:Int} {ks:List Ty} (h:¬ (k=1∧s∉acc)):addVar acc (.mk k s n ks)=acc:=if_neg h
theorem strs_snoc (acc:List ByteArray) (s:ByteArray):strs acc++[[.val (.string s)]]=strs (acc++[s]):=by simp [strs]
theorem addVar_len (acc:List ByteArray) (t:Ty):(addVar acc t).length≤acc.length+1:=by unfold addVar;split <;> simp
theorem foldVar_len:∀ (l:List Ty) (acc:List ByteArray),(l.foldl addVar acc).length≤acc.length+l.length
 | [],acc=>by simp
 | t::l,acc=>by
  have h1:=foldVar_len l (addVar acc t)
  have h2:=addVar_len acc t
  simp only [List.foldl_cons,List.length_cons]
  omega
mutual
def Ty.turn (o:Ty→Option Ty):Ty→Ty
 | .mk k s n ks=>match o (.mk k s n ks) with
  | some y=>y
  | none=>.mk k s n (Ty.turns o ks)
def Ty.turns (o:Ty→Option Ty):List Ty→List Ty
 | []=>[]
 | t::ts=>t.turn o::Ty.turns o ts
end
theorem Ty.turns_map (o:Ty→Option Ty):∀ ts:List Ty,Ty.turns o ts=ts.map (Ty.turn o)
 | []=>by simp [Ty.turns]
 | t::ts=>by simp [Ty.turns,Ty.turns_map o ts]
theorem Ty.turn_some {o:Ty→Option Ty} {t y:Ty} (h:o t=some y):t.turn o=y:=by
 obtain ⟨k,s,n,ks⟩:=t
 rw [Ty.turn,h]
theorem Ty.turn_none {o:Ty→Option Ty} {k:Int} {s:ByteArray} {n:Int} {ks:List Ty} (h:o (.mk k s n ks)=none):(Ty.mk k s n ks).turn o=.mk k s n (Ty.turns o ks):=by
 rw [Ty.turn,h]
theorem Ty.turns_len (o:Ty→Option Ty) (ts:List Ty):(Ty.turns o ts).length=ts.length:=by rw [Ty.turns_map];simp
theorem Ty.turns_snoc (o:Ty→Option Ty) (ts:List Ty) (x:Ty):Ty.turns o (ts++[x])=Ty.turns o ts++[x.turn o]:=by simp [Ty.turns_map]
mutual
theorem Ty.turn_id:∀ t:Ty,t.turn (fun _=>none)=t
 | .mk k s n ks=>by rw [Ty.turn_none rfl,Ty.turns_id ks]
theorem Ty.turns_id:∀ ts:List Ty,Ty.turns (fun _=>none) ts=ts
 | []=>by rw [Ty.turns]
 | t::ts=>by rw [Ty.turns,Ty.turn_id t,Ty.turns_id ts]
end
def firstAt {α:Type} [DecidableEq α] (x:α):List α→Nat→Int
 | [],_ => -1
 | y::ys,i=>if x=y then i else firstAt x ys (i+1)
theorem firstAt_drop {α:Type} [DecidableEq α] (x:α):∀ (xs:List α) (i:Nat),x∉xs.take i→firstAt x (xs.drop i) i=firstAt x xs 0:=by
 have key:∀ (xs:List α) (i k:Nat),x∉xs.take i→firstAt x xs k=firstAt x (xs.drop i) (k+i):=by
  intro xs
  induction xs with
  | nil=>intro i k _;simp [firstAt]
  | cons y ys ih =>
   intro i k h
   cases i with
   | zero=>simp
   | succ i =>
    simp only [List.take_succ_cons,List.mem_cons,not_or] at h
    rw [firstAt,if_neg h.1,List.drop_succ_cons,ih i (k+1) h.2]
    congr 1;omega
 intro xs i h
 have:=key xs i 0 h
 rw [this];congr 1;omega
theorem firstAt_nonneg {α:Type} [DecidableEq α] (x:α):∀ (xs:List α) (k:Nat),0≤firstAt x xs k↔x∈xs
 | [],k=>by simp [firstAt]
 | y::ys,k=>by
  rw [firstAt]
  by_cases e:x=y
  ·simp [e]
  rw [if_neg e,firstAt_nonneg x ys (k+1)];simp [e]
theorem firstAt_lt {α:Type} [DecidableEq α] (x:α):∀ (xs:List α) (k:Nat),firstAt x xs k<k+xs.length
 | [],k=>by simp [firstAt];omega
 | y::ys,k=>by
  rw [firstAt]
  split
  ·simp;omega
  have:=firstAt_lt x ys (k+1);simp at this ⊢;omega
theorem firstAt_at {α:Type} [DecidableEq α] {x:α} {xs:List α} {i:Nat} (h:x∉xs.take i) (hx:xs[i]?=some x):firstAt x xs 0=i:=by
 rw [← firstAt_drop x xs i h,Yh hx,firstAt,if_pos rfl]
theorem firstAt_out {α:Type} [DecidableEq α] {x:α} {xs:List α} (h:x∉xs):firstAt x xs 0 = -1:=by
 have:=firstAt_drop x xs xs.length (by simpa using h)
 rw [← this];simp [firstAt]
theorem not_mem_take {α:Type} {xs:List α} {i:Nat} {x y:α} (h:x∉xs.take i) (hx:xs[i]?=some y) (e:¬ y=x):x∉xs.take (i+1):=by
 rw [Yl hx,List.mem_append]
 rintro (q|q)
 ·exact h q
 simp at q;exact e q.symm
def putO (names:List ByteArray) (ts:List Ty) (x:Ty):Option Ty:=if x.kind=1∧0≤firstAt x.name names 0 then ts[(firstAt x.name names 0).toNat]? else none
theorem putO_not {names:List ByteArray} {ts:List Ty} {k:Int} {s:ByteArray} {n:Int} {ks:List Ty} (h:k≠1):putO names ts (.mk k s n ks)=none:=if_neg (fun q=>h q.1)
theorem putO_out {names:List ByteArray} {ts:List Ty} {k:Int} {s:ByteArray} {n:Int} {ks:List Ty} (h:firstAt s names 0<0):putO names ts (.mk k s n ks)=none:=if_neg (fun q=>by have:=q.2;simp only [Ty.name] at this;omega)
theorem putO_big {names:List ByteArray} {ts:List Ty} {k:Int} {s:ByteArray} {n:Int} {ks:List Ty} (h:(ts.length:Int)≤firstAt s names 0):putO names ts (.mk k s n ks)=none:=by
 unfold putO
 split
 ·exact List.getElem?_eq_none (by simp only [Ty.name];omega)
 rfl
theorem putO_in {names:List ByteArray} {ts:List Ty} {s:ByteArray} {n:Int} {ks:List Ty} {j:Nat} (h:firstAt s names 0=j):putO names ts (.mk 1 s n ks)=ts[j]?:=by
 unfold putO
 simp only [Ty.kind,Ty.name,h]
 rw [if_pos ⟨trivial,by omega⟩]
 simp
theorem Xl:Tryz.prog.follows .mixedOrders=true:=by kernel_rfl
theorem ta_2:tyAgg Tryz.prog 2=some none:=by kernel_rfl
theorem ts_2:(Tryz.prog.info? 2).map (·.size)=some 1:=by kernel_rfl
theorem tu_2:Tryz.prog.underlying 2=some (.int .i64):=by kernel_rfl
theorem ta_3:tyAgg Tryz.prog 3=some none:=by kernel_rfl
theorem ts_3:(Tryz.prog.info? 3).map (·.size)=some 1:=by kernel_rfl
theorem tu_3:Tryz.prog.underlying 3=some (.int .i64):=by kernel_rfl
theorem tu_5:Tryz.prog.underlying 5=some (.int .u8):=by kernel_rfl
theorem ta_9:tyAgg Tryz.prog 9=some none:=by kernel_rfl
theorem ts_9:(Tryz.prog.info? 9).map (·.size)=some 1:=by kernel_rfl
theorem Xf:Tryz.prog.underlying 9=some (.string):=by kernel_rfl
theorem ta_22:tyAgg Tryz.prog 22=some none:=by kernel_rfl
theorem ts_22:(Tryz.prog.info? 22).map (·.size)=some 1:=by kernel_rfl
theorem te_22:tyElem Tryz.prog 22=some (24,4):=by kernel_rfl
theorem el_22:ElT Tryz.prog 22 24 (.agg #[(.int .i64 0),(.string ⟨#[]⟩),(.int .i64 0),(.slice none 0 0)]) 4 56:=⟨by kernel_rfl,by kernel_rfl,rfl,by decide,by decide⟩
theorem tu_22:Tryz.prog.underlying 22=some (.slice 24):=by kernel_rfl
theorem Yi:tyAgg Tryz.prog 24=some (some 4):=by kernel_rfl
theorem ts_24:(Tryz.prog.info? 24).map (·.size)=some 4:=by kernel_rfl
theorem tz_24:tyZero Tryz.prog 24=some (.agg #[(.int .i64 0),(.string ⟨#[]⟩),(.int .i64 0),(.slice none 0 0)]):=by kernel_rfl
theorem tf_24_0:tyFld Tryz.prog 24 0=some 0:=by kernel_rfl
theorem tf_24_1:tyFld Tryz.prog 24 1=some 1:=by kernel_rfl
theorem tf_24_2:tyFld Tryz.prog 24 2=some 2:=by kernel_rfl
theorem tf_24_3:tyFld Tryz.prog 24 3=some 3:=by kernel_rfl
theorem tfl_24:tyFlds Tryz.prog 24=some [(0,1),(1,1),(2,1),(3,1)]:=by kernel_rfl
theorem ta_25:tyAgg Tryz.prog 25=some none:=by kernel_rfl
theorem ts_25:(Tryz.prog.info? 25).map (·.size)=some 1:=by kernel_rfl
theorem te_25:tyElem Tryz.prog 25=some (29,11):=by kernel_rfl
theorem el_25:ElT Tryz.prog 25 29 (.agg #[(.int .i64 0),(.string ⟨#[]⟩),(.int .i64 0),(.int .i64 0),(.string ⟨#[]⟩),(.int .i64 0),(.slice none 0 0),(.slice none 0 0),(.slice none 0 0),(.slice none 0 0),(.slice none 0 0)]) 11 184:=⟨by kernel_rfl,by kernel_rfl,rfl,by decide,by decide⟩
theorem tu_25:Tryz.prog.underlying 25=some (.slice 29):=by kernel_rfl
theorem ta_26:tyAgg Tryz.prog 26=some none:=by kernel_rfl
theorem ts_26:(Tryz.prog.info? 26).map (·.size)=some 1:=by kernel_rfl
theorem te_26:tyElem Tryz.prog 26=some (69,16):=by kernel_rfl
theorem el_26:ElT Tryz.prog 26 69 (.agg #[(.int .i64 0),(.string ⟨#[]⟩),(.int .i64 0),(.slice none 0 0),(.int .i64 0),(.int .i64 0),(.string ⟨#[]⟩),(.int .i64 0),(.int .i64 0),(.string ⟨#[]⟩),(.int .i64 0),(.slice none 0 0),(.slice none 0 0),(.slice none 0 0),(.slice none 0 0),(.slice none 0 0)]) 16 248:=⟨by kernel_rfl,by kernel_rfl,rfl,by decide,by decide⟩
theorem tu_26:Tryz.prog.underlying 26=some (.slice 69):=by kernel_rfl
theorem ta_27:tyAgg Tryz.prog 27=some none:=by kernel_rfl
theorem ts_27:(Tryz.prog.info? 27).map (·.size)=some 1:=by kernel_rfl
theorem te_27:tyElem Tryz.prog 27=some (46,17):=by kernel_rfl
theorem el_27:ElT Tryz.prog 27 46 (.agg #[(.string ⟨#[]⟩),(.slice none 0 0),(.int .i64 0),(.string ⟨#[]⟩),(.int .i64 0),(.slice none 0 0),(.int .i64 0),(.string ⟨#[]⟩),(.int .i64 0),(.int .i64 0),(.string ⟨#[]⟩),(.int .i64 0),(.slice none 0 0),(.slice none 0 0),(.slice none 0 0),(.slice none 0 0),(.slice none 0 0)]) 17 280:=⟨by kernel_rfl,by kernel_rfl,rfl,by decide,by decide⟩
theorem tu_27:Tryz.prog.underlying 27=some (.slice 46):=by kernel_rfl
theorem ta_29:tyAgg Tryz.prog 29=some (some 11):=by kernel_rfl
theorem ts_29:(Tryz.prog.info? 29).map (·.size)=some 11:=by kernel_rfl
theorem tz_29:tyZero Tryz.prog 29=some (.agg #[(.int .i64 0),(.string ⟨#[]⟩),(.int .i64 0),(.int .i64 0),(.string ⟨#[]⟩),(.int .i64 0),(.slice none 0 0),(.slice none 0 0),(.slice none 0 0),(.slice none 0 0),(.slice none 0 0)]):=by kernel_rfl
theorem tf_29_0:tyFld Tryz.prog 29 0=some 0:=by kernel_rfl
theorem tf_29_1:tyFld Tryz.prog 29 1=some 1:=by kernel_rfl
theorem tf_29_2:tyFld Tryz.prog 29 2=some 2:=by kernel_rfl
theorem tf_29_3:tyFld Tryz.prog 29 3=some 3:=by kernel_rfl
theorem tf_29_4:tyFld Tryz.prog 29 4=some 7:=by kernel_rfl
theorem tf_29_5:tyFld Tryz.prog 29 5=some 8:=by kernel_rfl
theorem tf_29_6:tyFld Tryz.prog 29 6=some 9:=by kernel_rfl
theorem tf_29_7:tyFld Tryz.prog 29 7=some 10:=by kernel_rfl
theorem tfl_29:tyFlds Tryz.prog 29=some [(0,1),(1,1),(2,1),(3,4),(7,1),(8,1),(9,1),(10,1)]:=by kernel_rfl
theorem ta_37:tyAgg Tryz.prog 37=some none:=by kernel_rfl
theorem ts_37:(Tryz.prog.info? 37).map (·.size)=some 1:=by kernel_rfl
theorem te_37:tyElem Tryz.prog 37=some (114,5):=by kernel_rfl
theorem el_37:ElT Tryz.prog 37 114 (.agg #[(.string ⟨#[]⟩),(.slice none 0 0),(.slice none 0 0),(.slice none 0 0),(.int .i64 0)]) 5 96:=⟨by kernel_rfl,by kernel_rfl,rfl,by decide,by decide⟩
theorem tu_37:Tryz.prog.underlying 37=some (.slice 114):=by kernel_rfl
theorem ta_38:tyAgg Tryz.prog 38=some none:=by kernel_rfl
theorem ts_38:(Tryz.prog.info? 38).map (·.size)=some 1:=by kernel_rfl
theorem te_38:tyElem Tryz.prog 38=some (118,6):=by kernel_rfl
theorem el_38:ElT Tryz.prog 38 118 (.agg #[(.string ⟨#[]⟩),(.string ⟨#[]⟩),(.slice none 0 0),(.slice none 0 0),(.slice none 0 0),(.int .i64 0)]) 6 112:=⟨by kernel_rfl,by kernel_rfl,rfl,by decide,by decide⟩
theorem tu_38:Tryz.prog.underlying 38=some (.slice 118):=by kernel_rfl
theorem ta_39:tyAgg Tryz.prog 39=some none:=by kernel_rfl
theorem ts_39:(Tryz.prog.info? 39).map (·.size)=some 1:=by kernel_rfl
theorem te_39:tyElem Tryz.prog 39=some (122,8):=by kernel_rfl
theorem el_39:ElT Tryz.prog 39 122 (.agg #[(.string ⟨#[]⟩),(.int .i64 0),(.string ⟨#[]⟩),(.int .i64 0),(.slice none 0 0),(.slice none 0 0),(.slice none 0 0),(.int .i64 0)]) 8 128:=⟨by kernel_rfl,by kernel_rfl,rfl,by decide,by decide⟩
theorem tu_39:Tryz.prog.underlying 39=some (.slice 122):=by kernel_rfl
theorem ta_41:tyAgg Tryz.prog 41=some (some 3):=by kernel_rfl
theorem ts_41:(Tryz.prog.info? 41).map (·.size)=some 3:=by kernel_rfl
theorem tz_41:tyZero Tryz.prog 41=some (.agg #[(.slice none 0 0),(.slice none 0 0),(.slice none 0 0)]):=by kernel_rfl
theorem tf_41_0:tyFld Tryz.prog 41 0=some 0:=by kernel_rfl
theorem tf_41_1:tyFld Tryz.prog 41 1=some 1:=by kernel_rfl
theorem tf_41_2:tyFld Tryz.prog 41 2=some 2:=by kernel_rfl
theorem tfl_41:tyFlds Tryz.prog 41=some [(0,1),(1,1),(2,1)]:=by kernel_rfl
theorem ta_44:tyAgg Tryz.prog 44=some none:=by kernel_rfl
theorem ts_44:(Tryz.prog.info? 44).map (·.size)=some 1:=by kernel_rfl
theorem tz_44:tyZero Tryz.prog 44=some (.slice none 0 0):=by kernel_rfl
theorem te_44:tyElem Tryz.prog 44=some (9,1):=by kernel_rfl
theorem Xd:ElT Tryz.prog 44 9 (.string ⟨#[]⟩) 1 16:=⟨by kernel_rfl,by kernel_rfl,rfl,by decide,by decide⟩
theorem tu_44:Tryz.prog.underlying 44=some (.slice 9):=by kernel_rfl
theorem ta_46:tyAgg Tryz.prog 46=some (some 17):=by kernel_rfl
theorem ts_46:(Tryz.prog.info? 46).map (·.size)=some 17:=by kernel_rfl
theorem tz_46:tyZero Tryz.prog 46=some (.agg #[(.string ⟨#[]⟩),(.slice none 0 0),(.int .i64 0),(.string ⟨#[]⟩),(.int .i64 0),(.slice none 0 0),(.int .i64 0),(.string ⟨#[]⟩),(.int .i64 0),(.int .i64 0),(.string ⟨#[]⟩),(.int .i64 0),(.slice none 0 0),(.slice none 0 0),(.slice none 0 0),(.slice none 0 0),(.slice none 0 0)]):=by kernel_rfl
theorem tf_46_0:tyFld Tryz.prog 46 0=some 0:=by kernel_rfl
theorem tf_46_1:tyFld Tryz.prog 46 1=some 1:=by kernel_rfl
theorem tf_46_2:tyFld Tryz.prog 46 2=some 2:=by kernel_rfl
theorem tf_46_3:tyFld Tryz.prog 46 3=some 6:=by kernel_rfl
theorem tfl_46:tyFlds Tryz.prog 46=some [(0,1),(1,1),(2,4),(6,11)]:=by kernel_rfl
theorem ta_55:tyAgg Tryz.prog 55=some (some 6):=by kernel_rfl
theorem tf_55_0:tyFld Tryz.prog 55 0=some 0:=by kernel_rfl
theorem tf_55_1:tyFld Tryz.prog 55 1=some 1:=by kernel_rfl
theorem tf_55_2:tyFld Tryz.prog 55 2=some 2:=by kernel_rfl
theorem ta_65:tyAgg Tryz.prog 65=some none:=by kernel_rfl
theorem ts_65:(Tryz.prog.info? 65).map (·.size)=some 1:=by kernel_rfl
theorem te_65:tyElem Tryz.prog 65=some (67,5):=by kernel_rfl
theorem el_65:ElT Tryz.prog 65 67 (.agg #[(.int .i64 0),(.string ⟨#[]⟩),(.int .i64 0),(.slice none 0 0),(.int .i64 0)]) 5 64:=⟨by kernel_rfl,by kernel_rfl,rfl,by decide,by decide⟩
theorem tu_65:Tryz.prog.underlying 65=some (.slice 67):=by kernel_rfl
theorem ta_67:tyAgg Tryz.prog 67=some (some 5):=by kernel_rfl
theorem ts_67:(Tryz.prog.info? 67).map (·.size)=some 5:=by kernel_rfl
theorem tz_67:tyZero Tryz.prog 67=some (.agg #[(.int .i64 0),(.string ⟨#[]⟩),(.int .i64 0),(.slice none 0 0),(.int .i64 0)]):=by kernel_rfl
theorem tf_67_0:tyFld Tryz.prog 67 0=some 0:=by kernel_rfl
theorem tf_67_1:tyFld Tryz.prog 67 1=some 1:=by kernel_rfl
theorem tf_67_2:tyFld Tryz.prog 67 2=some 2:=by kernel_rfl
theorem tf_67_3:tyFld Tryz.prog 67 3=some 3:=by kernel_rfl
theorem tfl_67:tyFlds Tryz.prog 67=some [(0,1),(1,1),(2,1),(3,1),(4,1)]:=by kernel_rfl
theorem ta_69:tyAgg Tryz.prog 69=some (some 16):=by kernel_rfl
theorem tz_69:tyZero Tryz.prog 69=some (.agg #[(.int .i64 0),(.string ⟨#[]⟩),(.int .i64 0),(.slice none 0 0),(.int .i64 0),(.int .i64 0),(.string ⟨#[]⟩),(.int .i64 0),(.int .i64 0),(.string ⟨#[]⟩),(.int .i64 0),(.slice none 0 0),(.slice none 0 0),(.slice none 0 0),(.slice none 0 0),(.slice none 0 0)]):=by kernel_rfl
theorem tf_69_0:tyFld Tryz.prog 69 0=some 0:=by kernel_rfl
theorem tf_69_1:tyFld Tryz.prog 69 1=some 5:=by kernel_rfl
theorem tfl_69:tyFlds Tryz.prog 69=some [(0,5),(5,11)]:=by kernel_rfl
theorem ta_79:tyAgg Tryz.prog 79=some none:=by kernel_rfl
theorem ts_79:(Tryz.prog.info? 79).map (·.size)=some 1:=by kernel_rfl
theorem te_79:tyElem Tryz.prog 79=some (130,13):=by kernel_rfl
theorem el_79:ElT Tryz.prog 79 130 (.agg #[(.string ⟨#[]⟩),(.int .i64 0),(.string ⟨#[]⟩),(.int .i64 0),(.int .i64 0),(.string ⟨#[]⟩),(.int .i64 0),(.slice none 0 0),(.slice none 0 0),(.slice none 0 0),(.slice none 0 0),(.int .i64 0),(.int .i64 0)]) 13 192:=⟨by kernel_rfl,by kernel_rfl,rfl,by decide,by decide⟩
theorem tu_79:Tryz.prog.underlying 79=some (.slice 130):=by kernel_rfl
theorem ta_81:tyAgg Tryz.prog 81=some (some 4):=by kernel_rfl
theorem ts_81:(Tryz.prog.info? 81).map (·.size)=some 4:=by kernel_rfl
theorem tz_81:tyZero Tryz.prog 81=some (.agg #[(.slice none 0 0),(.slice none 0 0),(.slice none 0 0),(.slice none 0 0)]):=by kernel_rfl
theorem tf_81_0:tyFld Tryz.prog 81 0=some 0:=by kernel_rfl
theorem tf_81_1:tyFld Tryz.prog 81 1=some 1:=by kernel_rfl
theorem tf_81_2:tyFld Tryz.prog 81 2=some 2:=by kernel_rfl
theorem tf_81_3:tyFld Tryz.prog 81 3=some 3:=by kernel_rfl
theorem tfl_81:tyFlds Tryz.prog 81=some [(0,1),(1,1),(2,1),(3,1)]:=by kernel_rfl
theorem Xi:tyAgg Tryz.prog 85=some (some 2):=by kernel_rfl
theorem ts_85:(Tryz.prog.info? 85).map (·.size)=some 2:=by kernel_rfl
theorem tz_85:tyZero Tryz.prog 85=some (.agg #[(.int .i64 0),(.int .i64 0)]):=by kernel_rfl
theorem tf_85_0:tyFld Tryz.prog 85 0=some 0:=by kernel_rfl
theorem tfl_85:tyFlds Tryz.prog 85=some [(0,1),(1,1)]:=by kernel_rfl
theorem ta_89:tyAgg Tryz.prog 89=some (some 2):=by kernel_rfl
theorem tz_89:tyZero Tryz.prog 89=some (.agg #[(.slice none 0 0),(.slice none 0 0)]):=by kernel_rfl
theorem tf_89_0:tyFld Tryz.prog 89 0=some 0:=by kernel_rfl
theorem tf_89_1:tyFld Tryz.prog 89 1=some 1:=by kernel_rfl
theorem tfl_89:tyFlds Tryz.prog 89=some [(0,1),(1,1)]:=by kernel_rfl
theorem ta_90:tyAgg Tryz.prog 90=some none:=by kernel_rfl
theorem te_90:tyElem Tryz.prog 90=some (187,9):=by kernel_rfl
theorem el_90:ElT Tryz.prog 90 187 (.agg #[(.string ⟨#[]⟩),(.int .i64 0),(.int .i64 0),(.slice none 0 0),(.slice none 0 0),(.int .i64 0),(.string ⟨#[]⟩),(.int .i64 0),(.slice none 0 0)]) 9 136:=⟨by kernel_rfl,by kernel_rfl,rfl,by decide,by decide⟩
theorem tu_90:Tryz.prog.underlying 90=some (.slice 187):=by kernel_rfl
theorem ta_92:tyAgg Tryz.prog 92=some (some 6):=by kernel_rfl
theorem ts_92:(Tryz.prog.info? 92).map (·.size)=some 6:=by kernel_rfl
theorem tz_92:tyZero Tryz.prog 92=some (.agg #[(.slice none 0 0),(.slice none 0 0),(.slice none 0 0),(.slice none 0 0),(.slice none 0 0),(.slice none 0 0)]):=by kernel_rfl
theorem tf_92_0:tyFld Tryz.prog 92 0=some 0:=by kernel_rfl
theorem tf_92_1:tyFld Tryz.prog 92 1=some 2:=by kernel_rfl
theorem tf_92_2:tyFld Tryz.prog 92 2=some 5:=by kernel_rfl
theorem tfl_92:tyFlds Tryz.prog 92=some [(0,2),(2,3),(5,1)]:=by kernel_rfl
theorem ta_94:tyAgg Tryz.prog 94=some none:=by kernel_rfl
theorem ta_105:tyAgg Tryz.prog 105=some none:=by kernel_rfl
theorem te_105:tyElem Tryz.prog 105=some (109,4):=by kernel_rfl
theorem el_105:ElT Tryz.prog 105 109 (.agg #[(.int .i64 0),(.string ⟨#[]⟩),(.int .i64 0),(.int .i64 0)]) 4 40:=⟨by kernel_rfl,by kernel_rfl,rfl,by decide,by decide⟩
theorem tu_105:Tryz.prog.underlying 105=some (.slice 109):=by kernel_rfl
theorem tz_107:tyZero Tryz.prog 107=some (.agg #[(.slice none 0 0),(.int .i64 0),(.int .i64 0),(.int .i64 0),(.int .i64 0)]):=by kernel_rfl
theorem tf_107_0:tyFld Tryz.prog 107 0=some 0:=by kernel_rfl
theorem tf_107_1:tyFld Tryz.prog 107 1=some 1:=by kernel_rfl
theorem tf_107_2:tyFld Tryz.prog 107 2=some 2:=by kernel_rfl
theorem tf_107_3:tyFld Tryz.prog 107 3=some 3:=by kernel_rfl
theorem tf_107_4:tyFld Tryz.prog 107 4=some 4:=by kernel_rfl
theorem tfl_107:tyFlds Tryz.prog 107=some [(0,1),(1,1),(2,1),(3,1),(4,1)]:=by kernel_rfl
theorem Zv:tyAgg Tryz.prog 109=some (some 4):=by kernel_rfl
theorem ts_109:(Tryz.prog.info? 109).map (·.size)=some 4:=by kernel_rfl
theorem tz_109:tyZero Tryz.prog 109=some (.agg #[(.int .i64 0),(.string ⟨#[]⟩),(.int .i64 0),(.int .i64 0)]):=by kernel_rfl
theorem tf_109_0:tyFld Tryz.prog 109 0=some 0:=by kernel_rfl
theorem tf_109_1:tyFld Tryz.prog 109 1=some 1:=by kernel_rfl
theorem tf_109_2:tyFld Tryz.prog 109 2=some 2:=by kernel_rfl
theorem tf_109_3:tyFld Tryz.prog 109 3=some 3:=by kernel_rfl
theorem tfl_109:tyFlds Tryz.prog 109=some [(0,1),(1,1),(2,1),(3,1)]:=by kernel_rfl
theorem ta_111:tyAgg Tryz.prog 111=some none:=by kernel_rfl
theorem ta_112:tyAgg Tryz.prog 112=some none:=by kernel_rfl
theorem ts_112:(Tryz.prog.info? 112).map (·.size)=some 1:=by kernel_rfl
theorem te_112:tyElem Tryz.prog 112=some (163,3):=by kernel_rfl
theorem el_112:ElT Tryz.prog 112 163 (.agg #[(.string ⟨#[]⟩),(.slice none 0 0),(.int .i64 0)]) 3 48:=⟨by kernel_rfl,by kernel_rfl,rfl,by decide,by decide⟩
theorem tu_112:Tryz.prog.underlying 112=some (.slice 163):=by kernel_rfl
theorem ta_114:tyAgg Tryz.prog 114=some (some 5):=by kernel_rfl
theorem ts_114:(Tryz.prog.info? 114).map (·.size)=some 5:=by kernel_rfl
theorem tz_114:tyZero Tryz.prog 114=some (.agg #[(.string ⟨#[]⟩),(.slice none 0 0),(.slice none 0 0),(.slice none 0 0),(.int .i64 0)]):=by kernel_rfl
theorem tf_114_0:tyFld Tryz.prog 114 0=some 0:=by kernel_rfl
theorem tf_114_1:tyFld Tryz.prog 114 1=some 1:=by kernel_rfl
theorem tf_114_2:tyFld Tryz.prog 114 2=some 2:=by kernel_rfl
theorem tf_114_3:tyFld Tryz.prog 114 3=some 3:=by kernel_rfl
theorem tf_114_4:tyFld Tryz.prog 114 4=some 4:=by kernel_rfl
theorem tfl_114:tyFlds Tryz.prog 114=some [(0,1),(1,1),(2,1),(3,1),(4,1)]:=by kernel_rfl
theorem ta_116:tyAgg Tryz.prog 116=some none:=by kernel_rfl
theorem ts_116:(Tryz.prog.info? 116).map (·.size)=some 1:=by kernel_rfl
theorem te_116:tyElem Tryz.prog 116=some (168,6):=by kernel_rfl
theorem el_116:ElT Tryz.prog 116 168 (.agg #[(.string ⟨#[]⟩),(.int .i64 0),(.string ⟨#[]⟩),(.int .i64 0),(.slice none 0 0),(.int .i64 0)]) 6 80:=⟨by kernel_rfl,by kernel_rfl,rfl,by decide,by decide⟩
theorem tu_116:Tryz.prog.underlying 116=some (.slice 168):=by kernel_rfl
theorem ta_118:tyAgg Tryz.prog 118=some (some 6):=by kernel_rfl
theorem ts_118:(Tryz.prog.info? 118).map (·.size)=some 6:=by kernel_rfl
theorem tz_118:tyZero Tryz.prog 118=some (.agg #[(.string ⟨#[]⟩),(.string ⟨#[]⟩),(.slice none 0 0),(.slice none 0 0),(.slice none 0 0),(.int .i64 0)]):=by kernel_rfl
theorem tf_118_0:tyFld Tryz.prog 118 0=some 0:=by kernel_rfl
theorem tf_118_1:tyFld Tryz.prog 118 1=some 1:=by kernel_rfl
theorem tf_118_2:tyFld Tryz.prog 118 2=some 2:=by kernel_rfl
theorem tf_118_3:tyFld Tryz.prog 118 3=some 3:=by kernel_rfl
theorem tf_118_4:tyFld Tryz.prog 118 4=some 4:=by kernel_rfl
theorem tf_118_5:tyFld Tryz.prog 118 5=some 5:=by kernel_rfl
theorem tfl_118:tyFlds Tryz.prog 118=some [(0,1),(1,1),(2,1),(3,1),(4,1),(5,1)]:=by kernel_rfl
theorem ta_120:tyAgg Tryz.prog 120=some none:=by kernel_rfl
theorem ts_120:(Tryz.prog.info? 120).map (·.size)=some 1:=by kernel_rfl
theorem te_120:tyElem Tryz.prog 120=some (170,5):=by kernel_rfl
theorem el_120:ElT Tryz.prog 120 170 (.agg #[(.string ⟨#[]⟩),(.int .i64 0),(.string ⟨#[]⟩),(.int .i64 0),(.slice none 0 0)]) 5 72:=⟨by kernel_rfl,by kernel_rfl,rfl,by decide,by decide⟩
theorem tu_120:Tryz.prog.underlying 120=some (.slice 170):=by kernel_rfl
theorem ta_122:tyAgg Tryz.prog 122=some (some 8):=by kernel_rfl
theorem ts_122:(Tryz.prog.info? 122).map (·.size)=some 8:=by kernel_rfl
theorem tz_122:tyZero Tryz.prog 122=some (.agg #[(.string ⟨#[]⟩),(.int .i64 0),(.string ⟨#[]⟩),(.int .i64 0),(.slice none 0 0),(.slice none 0 0),(.slice none 0 0),(.int .i64 0)]):=by kernel_rfl
theorem tf_122_0:tyFld Tryz.prog 122 0=some 0:=by kernel_rfl
theorem tf_122_1:tyFld Tryz.prog 122 1=some 1:=by kernel_rfl
theorem tf_122_2:tyFld Tryz.prog 122 2=some 5:=by kernel_rfl
theorem tf_122_3:tyFld Tryz.prog 122 3=some 6:=by kernel_rfl
theorem tf_122_4:tyFld Tryz.prog 122 4=some 7:=by kernel_rfl
theorem tfl_122:tyFlds Tryz.prog 122=some [(0,1),(1,4),(5,1),(6,1),(7,1)]:=by kernel_rfl
theorem ta_125:tyAgg Tryz.prog 125=some none:=by kernel_rfl
theorem ts_125:(Tryz.prog.info? 125).map (·.size)=some 1:=by kernel_rfl
theorem te_125:tyElem Tryz.prog 125=some (128,11):=by kernel_rfl
theorem el_125:ElT Tryz.prog 125 128 (.agg #[(.int .i64 0),(.string ⟨#[]⟩),(.int .i64 0),(.int .i64 0),(.string ⟨#[]⟩),(.int .i64 0),(.slice none 0 0),(.slice none 0 0),(.slice none 0 0),(.slice none 0 0),(.int .i64 0)]) 11 168:=⟨by kernel_rfl,by kernel_rfl,rfl,by decide,by decide⟩
theorem ta_126:tyAgg Tryz.prog 126=some none:=by kernel_rfl
theorem ts_126:(Tryz.prog.info? 126).map (·.size)=some 1:=by kernel_rfl
theorem el_126:ElT Tryz.prog 126 260 (.agg #[(.int .i64 0),(.string ⟨#[]⟩),(.int .i64 0),(.slice none 0 0),(.int .i64 0),(.int .i64 0),(.string ⟨#[]⟩),(.int .i64 0),(.int .i64 0),(.string ⟨#[]⟩),(.int .i64 0),(.slice none 0 0),(.slice none 0 0),(.slice none 0 0),(.slice none 0 0),(.int .i64 0)]) 16 232:=⟨by kernel_rfl,by kernel_rfl,rfl,by decide,by decide⟩
theorem Xj:tyAgg Tryz.prog 128=some (some 11):=by kernel_rfl
theorem ts_128:(Tryz.prog.info? 128).map (·.size)=some 11:=by kernel_rfl
theorem tz_128:tyZero Tryz.prog 128=some (.agg #[(.int .i64 0),(.string ⟨#[]⟩),(.int .i64 0),(.int .i64 0),(.string ⟨#[]⟩),(.int .i64 0),(.slice none 0 0),(.slice none 0 0),(.slice none 0 0),(.slice none 0 0),(.int .i64 0)]):=by kernel_rfl
theorem tf_128_0:tyFld Tryz.prog 128 0=some 0:=by kernel_rfl
theorem tf_128_1:tyFld Tryz.prog 128 1=some 1:=by kernel_rfl
theorem tf_128_2:tyFld Tryz.prog 128 2=some 2:=by kernel_rfl
theorem tf_128_4:tyFld Tryz.prog 128 4=some 7:=by kernel_rfl
theorem tf_128_5:tyFld Tryz.prog 128 5=some 8:=by kernel_rfl
theorem tf_128_6:tyFld Tryz.prog 128 6=some 9:=by kernel_rfl
theorem tfl_128:tyFlds Tryz.prog 128=some [(0,1),(1,1),(2,1),(3,4),(7,1),(8,1),(9,1),(10,1)]:=by kernel_rfl
theorem ta_130:tyAgg Tryz.prog 130=some (some 13):=by kernel_rfl
theorem ts_130:(Tryz.prog.info? 130).map (·.size)=some 13:=by kernel_rfl
theorem tz_130:tyZero Tryz.prog 130=some (.agg #[(.string ⟨#[]⟩),(.int .i64 0),(.string ⟨#[]⟩),(.int .i64 0),(.int .i64 0),(.string ⟨#[]⟩),(.int .i64 0),(.slice none 0 0),(.slice none 0 0),(.slice none 0 0),(.slice none 0 0),(.int .i64 0),(.int .i64 0)]):=by kernel_rfl
theorem tf_130_0:tyFld Tryz.prog 130 0=some 0:=by kernel_rfl
theorem tf_130_1:tyFld Tryz.prog 130 1=some 1:=by kernel_rfl
theorem tf_130_2:tyFld Tryz.prog 130 2=some 12:=by kernel_rfl
theorem tfl_130:tyFlds Tryz.prog 130=some [(0,1),(1,11),(12,1)]:=by kernel_rfl
theorem ta_146:tyAgg Tryz.prog 146=some none:=by kernel_rfl
theorem ta_163:tyAgg Tryz.prog 163=some (some 3):=by kernel_rfl
theorem ts_163:(Tryz.prog.info? 163).map (·.size)=some 3:=by kernel_rfl
theorem tz_163:tyZero Tryz.prog 163=some (.agg #[(.string ⟨#[]⟩),(.slice none 0 0),(.int .i64 0)]):=by kernel_rfl
theorem tf_163_0:tyFld Tryz.prog 163 0=some 0:=by kernel_rfl
theorem tf_163_1:tyFld Tryz.prog 163 1=some 1:=by kernel_rfl
theorem tf_163_2:tyFld Tryz.prog 163 2=some 2:=by kernel_rfl
theorem tfl_163:tyFlds Tryz.prog 163=some [(0,1),(1,1),(2,1)]:=by kernel_rfl
theorem ta_168:tyAgg Tryz.prog 168=some (some 6):=by kernel_rfl
theorem ts_168:(Tryz.prog.info? 168).map (·.size)=some 6:=by kernel_rfl
theorem tz_168:tyZero Tryz.prog 168=some (.agg #[(.string ⟨#[]⟩),(.int .i64 0),(.string ⟨#[]⟩),(.int .i64 0),(.slice none 0 0),(.int .i64 0)]):=by kernel_rfl
theorem tf_168_0:tyFld Tryz.prog 168 0=some 0:=by kernel_rfl
theorem tf_168_1:tyFld Tryz.prog 168 1=some 1:=by kernel_rfl
theorem tf_168_2:tyFld Tryz.prog 168 2=some 5:=by kernel_rfl
theorem tfl_168:tyFlds Tryz.prog 168=some [(0,1),(1,4),(5,1)]:=by kernel_rfl
theorem ta_170:tyAgg Tryz.prog 170=some (some 5):=by kernel_rfl
theorem ts_170:(Tryz.prog.info? 170).map (·.size)=some 5:=by kernel_rfl
theorem tz_170:tyZero Tryz.prog 170=some (.agg #[(.string ⟨#[]⟩),(.int .i64 0),(.string ⟨#[]⟩),(.int .i64 0),(.slice none 0 0)]):=by kernel_rfl
theorem tf_170_0:tyFld Tryz.prog 170 0=some 0:=by kernel_rfl
theorem tf_170_1:tyFld Tryz.prog 170 1=some 1:=by kernel_rfl
theorem tfl_170:tyFlds Tryz.prog 170=some [(0,1),(1,4)]:=by kernel_rfl
theorem ta_181:tyAgg Tryz.prog 181=some (some 5):=by kernel_rfl
theorem ts_181:(Tryz.prog.info? 181).map (·.size)=some 5:=by kernel_rfl
theorem tz_181:tyZero Tryz.prog 181=some (.agg #[(.string ⟨#[]⟩),(.int .i64 0),(.string ⟨#[]⟩),(.int .i64 0),(.slice none 0 0)]):=by kernel_rfl
theorem tf_181_0:tyFld Tryz.prog 181 0=some 0:=by kernel_rfl
theorem tf_181_1:tyFld Tryz.prog 181 1=some 1:=by kernel_rfl
theorem tfl_181:tyFlds Tryz.prog 181=some [(0,1),(1,4)]:=by kernel_rfl
theorem ta_182:tyAgg Tryz.prog 182=some (some 85):=by kernel_rfl
theorem ts_182:(Tryz.prog.info? 182).map (·.size)=some 85:=by kernel_rfl
theorem tz_182:tyZero Tryz.prog 182=some (.agg #[(.string ⟨#[]⟩),(.int .i64 0),(.string ⟨#[]⟩),(.int .i64 0),(.slice none 0 0),(.string ⟨#[]⟩),(.int .i64 0),(.string ⟨#[]⟩),(.int .i64 0),(.slice none 0 0),(.string ⟨#[]⟩),(.int .i64 0),(.string ⟨#[]⟩),(.int .i64 0),(.slice none 0 0),(.string ⟨#[]⟩),(.int .i64 0),(.string ⟨#[]⟩),(.int .i64 0),(.slice none 0 0),(.string ⟨#[]⟩),(.int .i64 0),(.string ⟨#[]⟩),(.int .i64 0),(.slice none 0 0),(.string ⟨#[]⟩),(.int .i64 0),(.string ⟨#[]⟩),(.int .i64 0),(.slice none 0 0),(.string ⟨#[]⟩),(.int .i64 0),(.string ⟨#[]⟩),(.int .i64 0),(.slice none 0 0),(.string ⟨#[]⟩),(.int .i64 0),(.string ⟨#[]⟩),(.int .i64 0),(.slice none 0 0),(.string ⟨#[]⟩),(.int .i64 0),(.string ⟨#[]⟩),(.int .i64 0),(.slice none 0 0),(.string ⟨#[]⟩),(.int .i64 0),(.string ⟨#[]⟩),(.int .i64 0),(.slice none 0 0),(.string ⟨#[]⟩),(.int .i64 0),(.string ⟨#[]⟩),(.int .i64 0),(.slice none 0 0),(.string ⟨#[]⟩),(.int .i64 0),(.string ⟨#[]⟩),(.int .i64 0),(.slice none 0 0),(.string ⟨#[]⟩),(.int .i64 0),(.string ⟨#[]⟩),(.int .i64 0),(.slice none 0 0),(.string ⟨#[]⟩),(.int .i64 0),(.string ⟨#[]⟩),(.int .i64 0),(.slice none 0 0),(.string ⟨#[]⟩),(.int .i64 0),(.string ⟨#[]⟩),(.int .i64 0),(.slice none 0 0),(.string ⟨#[]⟩),(.int .i64 0),(.string ⟨#[]⟩),(.int .i64 0),(.slice none 0 0),(.string ⟨#[]⟩),(.int .i64 0),(.string ⟨#[]⟩),(.int .i64 0),(.slice none 0 0)]):=by kernel_rfl
theorem tu_182:Tryz.prog.underlying 182=some (.array 17 181):=by kernel_rfl
theorem tz_185:tyZero Tryz.prog 185=some (.agg #[(.slice none 0 0),(.slice none 0 0),(.int .i64 0),(.string ⟨#[]⟩),(.int .i64 0),(.slice none 0 0)]):=by kernel_rfl
theorem tf_185_0:tyFld Tryz.prog 185 0=some 0:=by kernel_rfl
theorem tf_185_2:tyFld Tryz.prog 185 2=some 2:=by kernel_rfl
theorem tfl_185:tyFlds Tryz.prog 185=some [(0,1),(1,1),(2,4)]:=by kernel_rfl
theorem ta_187:tyAgg Tryz.prog 187=some (some 9):=by kernel_rfl
theorem ts_187:(Tryz.prog.info? 187).map (·.size)=some 9:=by kernel_rfl
theorem tz_187:tyZero Tryz.prog 187=some (.agg #[(.string ⟨#[]⟩),(.int .i64 0),(.int .i64 0),(.slice none 0 0),(.slice none 0 0),(.int .i64 0),(.string ⟨#[]⟩),(.int .i64 0),(.slice none 0 0)]):=by kernel_rfl
theorem tf_187_3:tyFld Tryz.prog 187 3=some 3:=by kernel_rfl
theorem tfl_187:tyFlds Tryz.prog 187=some [(0,1),(1,1),(2,1),(3,6)]:=by kernel_rfl
theorem ta_209:tyAgg Tryz.prog 209=some none:=by kernel_rfl
theorem el_253:ElT Tryz.prog 253 5 (.int .u8 0) 1 1:=⟨by kernel_rfl,by kernel_rfl,rfl,by decide,by decide⟩
theorem tu_253:Tryz.prog.underlying 253=some (.slice 5):=by kernel_rfl
theorem tu_255:Tryz.prog.underlying 255=some (.int .u64):=by kernel_rfl
theorem ta_260:tyAgg Tryz.prog 260=some (some 16):=by kernel_rfl
theorem ts_260:(Tryz.prog.info? 260).map (·.size)=some 16:=by kernel_rfl
theorem tz_260:tyZero Tryz.prog 260=some (.agg #[(.int .i64 0),(.string ⟨#[]⟩),(.int .i64 0),(.slice none 0 0),(.int .i64 0),(.int .i64 0),(.string ⟨#[]⟩),(.int .i64 0),(.int .i64 0),(.string ⟨#[]⟩),(.int .i64 0),(.slice none 0 0),(.slice none 0 0),(.slice none 0 0),(.slice none 0 0),(.int .i64 0)]):=by kernel_rfl
theorem tf_260_1:tyFld Tryz.prog 260 1=some 5:=by kernel_rfl
theorem tfl_260:tyFlds Tryz.prog 260=some [(0,5),(5,11)]:=by kernel_rfl
open Go.RowKit
def rg (l:List (Nat × Nat)):List Nat:=l.flatMap fun p=>List.range' p.1 p.2
def lkf:List (Nat × Nat × Nat)→Nat→Nat→Option Nat
 | [],_,_=>none
 | (a,b,c)::l,t,f=>bif Nat.beq a t && Nat.beq b f then some c else lkf l t f
def lkm:List Nat→Nat→Bool
 | [],_=>false
 | a::l,t=>Nat.beq a t || lkm l t
def tfL:List (Nat × Nat × Nat):=[(24,0,0),(24,1,1),(24,2,2),(24,3,3),(29,0,0),(29,1,1),(29,2,2),(29,3,3),(29,4,7),(29,5,8),(29,6,9),(29,7,10),(41,0,0),(41,1,1),(41,2,2),(46,0,0),(46,1,1),(46,2,2),(46,3,6),(55,0,0),(55,1,1),(55,2,2),(67,0,0),(67,1,1),(67,2,2),(67,3,3),(69,0,0),(69,1,5),(81,0,0),(81,1,1),(81,2,2),(81,3,3),(85,0,0),(89,0,0),(89,1,1),(92,0,0),(92,1,2),(92,2,5),(107,0,0),(107,1,1),(107,2,2),(107,3,3),(107,4,4),(109,0,0),(109,1,1),(109,2,2),(109,3,3),(114,0,0),(114,1,1),(114,2,2),(114,3,3),(114,4,4),(118,0,0),(118,1,1),(118,2,2),(118,3,3),(118,4,4),(118,5,5),(122,0,0),(122,1,1),(122,2,5),(122,3,6),(122,4,7),(128,0,0),(128,1,1),(128,2,2),(128,4,7),(128,5,8),(128,6,9),(130,0,0),(130,1,1),(130,2,12),(163,0,0),(163,1,1),(163,2,2),(168,0,0),(168,1,1),(168,2,5),(170,0,0),(170,1,1),(181,0,0),(181,1,1),(185,0,0),(185,2,2),(187,3,3),(260,1,5)]
def taL:List Nat:=[2,3,9,22,25,26,27,37,38,39,44,65,79,90,94,105,111,112,116,120,125,126,146,209]
theorem lkf_ok {t f c:Nat}:∀ l:List (Nat × Nat × Nat),(l.all fun e=>tyFld Tryz.prog e.1 e.2.1 == some e.2.2)=true→lkf l t f=some c→tyFld Tryz.prog t f=some c
 | [],_,h=>by simp [lkf] at h
 | (a,b,d)::l,hl,h=>by
  rw [List.all_cons,Bool.and_eq_true] at hl
  rw [lkf] at h
  cases q:(Nat.beq a t && Nat.beq b f) with
  | true =>
   rw [q] at h
   rw [Bool.and_eq_true] at q
   have h1:=Nat.eq_of_beq_eq_true q.1
   have h2:=Nat.eq_of_beq_eq_true q.2
   subst h1 h2
   have h3:d=c:=by simpa using h
   subst h3
   simpa using hl.1
  | false=>rw [q] at h;exact lkf_ok l hl.2 h
theorem lkm_ok {t:Nat}:∀ l:List Nat,(l.all fun e=>tyAgg Tryz.prog e == some none)=true→lkm l t=true→tyAgg Tryz.prog t=some none
 | [],_,h=>by simp [lkm] at h
 | a::l,hl,h=>by
  rw [List.all_cons,Bool.and_eq_true] at hl
  rw [lkm,Bool.or_eq_true] at h
  rcases h with h|h
  ·have h1:=Nat.eq_of_beq_eq_true h
   subst h1
   simpa using hl.1
  exact lkm_ok l hl.2 h
theorem tfL_ok:(tfL.all fun e=>tyFld Tryz.prog e.1 e.2.1 == some e.2.2)=true:=by kernel_rfl
theorem taL_ok:(taL.all fun e=>tyAgg Tryz.prog e == some none)=true:=by kernel_rfl
section
variable {al:Sl} {M:Mem} {K:AV→Mem→Prop} {o:Oper}
theorem op_fam {x:Operand} {t f b off fo:Nat} (ho:o.op=.fieldAddr t x f) (ht:lkf tfL t f=some fo) (hx:al.ev x=some (.ptr b off)) (q:K (.ptr b (off+fo)) M):OpT Tryz.prog o al M K:=op_fieldAddr_m ho (lkf_ok tfL tfL_ok ht) hx q
theorem op_fac {x:Operand} {t f fo:Nat} {cs cs':List AV} (ho:o.op=.fieldAddr t x f) (ht:lkf tfL t f=some fo) (hx:al.ev x=some (.cptr cs)) (hc:cs.drop fo=cs') (q:K (.cptr cs') M):OpT Tryz.prog o al M K:=Xe ho (lkf_ok tfL tfL_ok ht) hx hc q
theorem op_lc1 {x:Operand} {t:Nat} {c:AV} {cs:List AV} (ho:o.op=.load t x) (ht:lkm taL t=true) (hx:al.ev x=some (.cptr cs)) (hc:cs[0]?=some c) (q:K c M):OpT Tryz.prog o al M K:=op_load_c1 ho (lkm_ok taL taL_ok ht) hx hc q
theorem op_lm1 {x:Operand} {t b off i:Nat} {c:AV} {cs:List AV} (ho:o.op=.load t x) (ht:lkm taL t=true) (hx:al.ev x=some (.ptr b off)) (hm:M[i]?=some (.loc b cs)) (hc:cs[off]?=some c) (q:K c M):OpT Tryz.prog o al M K:=op_load_m1 ho (lkm_ok taL taL_ok ht) hx hm hc q
end
structure Wr (q:Prop):Prop where
 out:q
section
variable {p q:Prop}
theorem Q1 (k:q) (h:Wr q→p:=by intro k;refine go_code ?_;exact k.1):p:=h ⟨k⟩
theorem Q2 (k:q) (h:Wr q→p:=by intro k;refine c_seq ?_;exact k.1):p:=h ⟨k⟩
theorem Q3 (k:q) (h:Wr q→p:=by intro k;refine AOps.nil ?_;exact k.1):p:=h ⟨k⟩
theorem Q4 (k:q) (h:Wr q→p:=by intro k;refine c_region ?_;exact k.1):p:=h ⟨k⟩
theorem Q5 (k:q) (h:Wr q→p:=by intro k;refine Zb _ rfl rfl rfl (op_move rfl rfl ?_);exact k.1):p:=h ⟨k⟩
theorem Q6 (k:q) (h:Wr q→p:=by intro k;refine Zb _ rfl rfl rfl (op_assign rfl rfl ?_);exact k.1):p:=h ⟨k⟩
theorem Q7 (k:q) (h:Wr q→p:=by intro k;refine AOps.gf _ rfl rfl rfl rfl rfl ?_;exact k.1):p:=h ⟨k⟩
theorem Q8 (k:q) (h:Wr q→p:=by intro k;refine c_cond_f rfl ?_;exact k.1):p:=h ⟨k⟩
theorem Q9 (k:q) (h:Wr q→p:=by intro k;refine c_cond_t rfl ?_;exact k.1):p:=h ⟨k⟩
theorem Q10 (k:q) (h:Wr q→p:=by intro k;refine Zb _ rfl rfl rfl (op_pick rfl rfl rfl ?_);exact k.1):p:=h ⟨k⟩
theorem Q11 (k:q) (h:Wr q→p:=by intro k;refine Zb _ rfl rfl rfl (op_fam rfl rfl rfl ?_);exact k.1):p:=h ⟨k⟩
theorem Q12 (k:q) (h:Wr q→p:=by intro k;refine DOps.gf _ rfl rfl rfl rfl ?_;exact k.1):p:=h ⟨k⟩
theorem Q13 (k:q) (h:Wr q→p:=by intro k;refine Zb _ rfl rfl rfl (op_fac rfl rfl rfl rfl ?_);exact k.1):p:=h ⟨k⟩
theorem Q14 (k:q) (h:Wr q→p:=by intro k;refine Zb _ rfl rfl rfl (op_lc1 rfl rfl rfl rfl ?_);exact k.1):p:=h ⟨k⟩
theorem Q15 (k:q) (h:Wr q→p:=by intro k;refine c_start ?_;exact k.1):p:=h ⟨k⟩
theorem Q16 (k:q) (h:Wr q→p:=by intro k;refine Zq _ rfl rfl rfl rfl rfl (op_move rfl rfl ?_);exact k.1):p:=h ⟨k⟩
theorem Q17 (k:q) (h:Wr q→p:=by intro k;refine Zb _ rfl rfl rfl (op_eql rfl rfl rfl ?_);exact k.1):p:=h ⟨k⟩
theorem Q18 (k:q) (h:Wr q→p:=by intro k;refine Zb _ rfl rfl rfl (op_add rfl rfl rfl (IntWalk.i64_in _ (by omega)) ?_);exact k.1):p:=h ⟨k⟩
theorem Q19 (k:q) (h:Wr q→p:=by intro k;refine Zb _ rfl rfl rfl (op_lss rfl rfl rfl ?_);exact k.1):p:=h ⟨k⟩
theorem Q20 (k:q) (h:Wr q→p:=by intro k;refine Zx _ rfl rfl (op_move rfl rfl ⟨rfl,rfl⟩) ?_;exact k.1):p:=h ⟨k⟩
theorem Q21 (k:q) (h:Wr q→p:=by intro k;refine Zb _ rfl rfl rfl (Yk (cs':=[_,_,_,_]) rfl tz_24 rfl rfl ?_);exact k.1):p:=h ⟨k⟩
theorem Q22 (k:q) (h:Wr q→p:=by intro k;refine Zq _ rfl rfl rfl rfl rfl (op_pick rfl rfl rfl ?_);exact k.1):p:=h ⟨k⟩
theorem Q23 (k:q) (h:Wr q→p:=by intro k;refine Zb _ rfl rfl rfl (op_extract rfl rfl rfl ?_);exact k.1):p:=h ⟨k⟩
theorem Q24 (k:q) (h:Wr q→p:=by intro k;refine Zm _ (none) rfl rfl rfl rfl rfl (op_move rfl rfl ⟨rfl,rfl⟩) ?_;exact k.1):p:=h ⟨k⟩
theorem Q25 (k:q) (h:Wr q→p:=by intro k;refine Zq _ rfl rfl rfl rfl rfl (op_fac rfl rfl rfl rfl ?_);exact k.1):p:=h ⟨k⟩
theorem Q26 (k:q) (h:Wr q→p:=by intro k;refine Zb _ rfl rfl rfl (op_notc rfl rfl ?_);exact k.1):p:=h ⟨k⟩
theorem Q27 (k:q) (h:Wr q→p:=by intro k;refine Zm _ (none) rfl rfl rfl rfl rfl (op_fam rfl rfl rfl ⟨rfl,rfl⟩) ?_;exact k.1):p:=h ⟨k⟩
theorem Q28 (k:q) (h:Wr q→p:=by intro k;refine Zb _ rfl rfl rfl (Yc (cs':=[_,_,_,_]) (i:=0) rfl Zv rfl rfl rfl rfl ?_);exact k.1):p:=h ⟨k⟩
theorem Q29 (k:q) (h:Wr q→p:=by intro k;refine Zb _ rfl rfl rfl (op_lm1 (i:=1) rfl rfl rfl rfl rfl ?_);exact k.1):p:=h ⟨k⟩
theorem Q30 (k:q) (h:Wr q→p:=by intro k;refine Ya rfl rfl (Zu (cs':=[_,_,_,_]) (i:=0) rfl ts_24 rfl rfl rfl rfl rfl (Xz rfl) rfl ?_);exact k.1):p:=h ⟨k⟩
theorem Q31 (k:q) (h:Wr q→p:=by intro k;refine Ya rfl rfl (Zu (cs':=[_,_,_,_]) (i:=1) rfl ts_109 rfl rfl rfl rfl rfl (Xz rfl) rfl ?_);exact k.1):p:=h ⟨k⟩
theorem Q32 (k:q) (h:Wr q→p:=by intro k;refine Zx _ rfl rfl (op_fac rfl rfl rfl rfl ⟨rfl,rfl⟩) ?_;exact k.1):p:=h ⟨k⟩
theorem Q33 (k:q) (h:Wr q→p:=by intro k;refine Zx _ rfl rfl (op_pick rfl rfl rfl ⟨rfl,rfl⟩) ?_;exact k.1):p:=h ⟨k⟩
theorem Q34 (k:q) (h:Wr q→p:=by intro k;refine Zb _ rfl rfl rfl (op_neq rfl rfl rfl ?_);exact k.1):p:=h ⟨k⟩
theorem Q35 (k:q) (h:Wr q→p:=by intro k;refine Zx _ rfl rfl (op_lc1 rfl rfl rfl rfl ⟨rfl,rfl⟩) ?_;exact k.1):p:=h ⟨k⟩
theorem Q36 (k:q) (h:Wr q→p:=by intro k;refine Zq _ rfl rfl rfl rfl rfl (op_lc1 rfl rfl rfl rfl ?_);exact k.1):p:=h ⟨k⟩
theorem Q37 (k:q) (h:Wr q→p:=by intro k;refine Zb _ rfl rfl rfl (op_nilCheck_m rfl rfl ?_);exact k.1):p:=h ⟨k⟩
theorem Q38 (k:q) (h:Wr q→p:=by intro k;refine Zq _ rfl rfl rfl rfl rfl (op_eql rfl rfl rfl ?_);exact k.1):p:=h ⟨k⟩
theorem Q39 (k:q) (h:Wr q→p:=by intro k;refine Zb _ rfl rfl rfl (Yk (cs':=[_,_,_,_]) rfl tz_109 rfl rfl ?_);exact k.1):p:=h ⟨k⟩
theorem Q40 (k:q) (h:Wr q→p:=by intro k;refine Zb _ rfl rfl rfl (op_boxc (cs':=[_,_,_,_,_,_]) rfl rfl rfl rfl ?_);exact k.1):p:=h ⟨k⟩
theorem Q41 (k:q) (h:Wr q→p:=by intro k;refine Zq _ rfl rfl rfl rfl rfl (op_fam rfl rfl rfl ?_);exact k.1):p:=h ⟨k⟩
theorem Q42 (k:q) (h:Wr q→p:=by intro k;refine Zb _ rfl rfl rfl (Yb (cs':=[_,_,_,_]) rfl Yi rfl rfl rfl ?_);exact k.1):p:=h ⟨k⟩
theorem Q43 (k:q) (h:Wr q→p:=by intro k;refine Zb _ rfl rfl rfl (op_boxc (cs':=[_,_,_,_,_,_,_,_,_,_,_]) rfl rfl rfl rfl ?_);exact k.1):p:=h ⟨k⟩
theorem Q44 (k:q) (h:Wr q→p:=by intro k;refine Ya rfl rfl (Zu (cs':=[_,_,_,_]) (i:=0) rfl ts_109 rfl rfl rfl rfl rfl (Xz rfl) rfl ?_);exact k.1):p:=h ⟨k⟩
theorem Q45 (k:q) (h:Wr q→p:=by intro k;refine Zb _ rfl rfl rfl (Zp (ns:=[]) (xs:=[]) rfl tz_24 rfl tfl_24 rfl rfl rfl rfl ?_);exact k.1):p:=h ⟨k⟩
theorem Q46 (k:q) (h:Wr q→p:=by intro k;refine Zb _ rfl rfl rfl (op_geq rfl rfl rfl ?_);exact k.1):p:=h ⟨k⟩
theorem Q47 (k:q) (h:Wr q→p:=by intro k;refine Zb _ rfl rfl rfl (Yu rfl tu_22 rfl (.seq _ _) ?_);exact k.1):p:=h ⟨k⟩
theorem Q48 (k:q) (h:Wr q→p:=by intro k;refine Yg _ rfl rfl rfl rfl (op_fac rfl rfl rfl rfl ⟨rfl,rfl⟩) ?_;exact k.1):p:=h ⟨k⟩
theorem Q49 (k:q) (h:Wr q→p:=by intro k;refine Zb _ rfl rfl rfl (Yc (cs':=[_,_,_,_]) (i:=0) rfl Yi rfl rfl rfl rfl ?_);exact k.1):p:=h ⟨k⟩
theorem Q50 (k:q) (h:Wr q→p:=by intro k;refine Yg _ rfl rfl rfl rfl (op_move rfl rfl ⟨rfl,rfl⟩) ?_;exact k.1):p:=h ⟨k⟩
theorem Q51 (k:q) (h:Wr q→p:=by intro k;refine c_drawn Xl rfl ?_;exact k.1):p:=h ⟨k⟩
theorem Q52 (k:q) (h:Wr q→p:=by intro k;refine Zx _ rfl rfl (op_assign rfl rfl ⟨rfl,rfl⟩) ?_;exact k.1):p:=h ⟨k⟩
theorem Q53 (k:q) (h:Wr q→p:=by intro k;refine Ya rfl rfl (Zu (cs':=[_,_,_,_]) (i:=1) rfl ts_24 rfl rfl rfl rfl rfl (Xz rfl) rfl ?_);exact k.1):p:=h ⟨k⟩
theorem Q54 (k:q) (h:Wr q→p:=by intro k;refine Zb _ rfl rfl rfl (Yk (cs':=[_,_,_,_,_,_,_,_,_,_,_]) rfl tz_128 rfl rfl ?_);exact k.1):p:=h ⟨k⟩
theorem Q55 (k:q) (h:Wr q→p:=by intro k;refine Zx _ rfl rfl (op_fam rfl rfl rfl ⟨rfl,rfl⟩) ?_;exact k.1):p:=h ⟨k⟩
theorem Q56 (k:q) (h:Wr q→p:=by intro k;refine Zm _ (none) rfl rfl rfl rfl rfl (op_fac rfl rfl rfl rfl ⟨rfl,rfl⟩) ?_;exact k.1):p:=h ⟨k⟩
theorem Q57 (k:q) (h:Wr q→p:=by intro k;refine Zb _ rfl rfl rfl (op_lm1 (i:=2) rfl rfl rfl rfl rfl ?_);exact k.1):p:=h ⟨k⟩
theorem Q58 (k:q) (h:Wr q→p:=by intro k;refine Zm _ (none) rfl rfl rfl rfl rfl (op_assign rfl rfl ⟨rfl,rfl⟩) ?_;exact k.1):p:=h ⟨k⟩
theorem Q59 (k:q) (h:Wr q→p:=by intro k;refine Zb _ rfl rfl rfl (Yb (cs':=[_,_,_]) rfl ta_41 rfl rfl rfl ?_);exact k.1):p:=h ⟨k⟩
theorem Q60 (k:q) (h:Wr q→p:=by intro k;refine Zb _ rfl rfl rfl (op_seql rfl rfl rfl ?_);exact k.1):p:=h ⟨k⟩
theorem Q61 (k:q) (h:Wr q→p:=by intro k;refine Zq _ rfl rfl rfl rfl rfl (op_lss rfl rfl rfl ?_);exact k.1):p:=h ⟨k⟩
theorem Q62 (k:q) (h:Wr q→p:=by intro k;refine Zb _ rfl rfl rfl (op_len_str rfl Xf rfl ?_);exact k.1):p:=h ⟨k⟩
theorem Q63 (k:q) (h:Wr q→p:=by intro k;refine Zm _ (none) rfl rfl rfl rfl rfl (op_lc1 rfl rfl rfl rfl ⟨rfl,rfl⟩) ?_;exact k.1):p:=h ⟨k⟩
theorem Q64 (k:q) (h:Wr q→p:=by intro k;refine Zb _ rfl rfl rfl (op_boxe (cs':=[_,_,_,_]) rfl rfl rfl rfl ?_);exact k.1):p:=h ⟨k⟩
theorem Q65 (k:q) (h:Wr q→p:=by intro k;refine Zb _ rfl rfl rfl (op_sub rfl rfl rfl (IntWalk.i64_in _ (by omega)) ?_);exact k.1):p:=h ⟨k⟩
theorem Q66 (k:q) (h:Wr q→p:=by intro k;refine Zq _ rfl rfl rfl rfl rfl (op_neq rfl rfl rfl ?_);exact k.1):p:=h ⟨k⟩
theorem Q67 (k:q) (h:Wr q→p:=by intro k;refine Zq _ rfl rfl rfl rfl rfl (op_notc rfl rfl ?_);exact k.1):p:=h ⟨k⟩
theorem Q68 (k:q) (h:Wr q→p:=by intro k;refine Zb _ rfl rfl rfl (Yu rfl tu_25 rfl (.seq _ _) ?_);exact k.1):p:=h ⟨k⟩
theorem Q69 (k:q) (h:Wr q→p:=by intro k;refine Zb _ rfl rfl rfl (op_boxc (cs':=[_,_,_,_]) rfl rfl rfl rfl ?_);exact k.1):p:=h ⟨k⟩
theorem Q70 (k:q) (h:Wr q→p:=by intro k;refine Zb _ rfl rfl rfl (Yu rfl tu_44 rfl (.seq _ _) ?_);exact k.1):p:=h ⟨k⟩
theorem Q71 (k:q) (h:Wr q→p:=by intro k;refine Zq _ rfl rfl rfl rfl rfl (op_gtr rfl rfl rfl ?_);exact k.1):p:=h ⟨k⟩
theorem Q72 (k:q) (h:Wr q→p:=by intro k;refine Zb _ rfl rfl rfl (Yb (cs':=[_,_,_,_,_,_,_,_,_,_,_]) rfl ta_29 rfl rfl rfl ?_);exact k.1):p:=h ⟨k⟩
theorem Q73 (k:q) (h:Wr q→p:=by intro k;refine Ya rfl rfl (Zu (cs':=[_,_,_,_,_,_,_,_,_,_,_]) (i:=0) rfl ts_128 rfl rfl rfl rfl rfl (Xz rfl) rfl ?_);exact k.1):p:=h ⟨k⟩
theorem Q74 (k:q) (h:Wr q→p:=by intro k;refine Zb _ rfl rfl rfl (op_gtr rfl rfl rfl ?_);exact k.1):p:=h ⟨k⟩
theorem Q75 (k:q) (h:Wr q→p:=by intro k;refine Ya rfl rfl (Zu (cs':=[_,_,_,_]) (i:=2) rfl ts_24 rfl rfl rfl rfl rfl (Xz rfl) rfl ?_);exact k.1):p:=h ⟨k⟩
theorem Q76 (k:q) (h:Wr q→p:=by intro k;refine Zm _ (some 5) rfl rfl rfl rfl rfl (Yc (cs':=[_,_,_,_]) (i:=0) rfl Yi rfl rfl rfl rfl ⟨rfl,rfl⟩) ?_;exact k.1):p:=h ⟨k⟩
theorem Q77 (k:q) (h:Wr q→p:=by intro k;refine Yp [0,1,2,3,4,5,6,7] [3,5,7] [[],[0],[],[2],[2,3],[0,1,2,3,4],[0,1,2,3,4,5],[0,1,2,3,4,5,6]] Xl rfl ?_;exact k.1):p:=h ⟨k⟩
theorem Q78 (k:q) (h:Wr q→p:=by intro k;refine Zq _ rfl rfl rfl rfl rfl (op_seql rfl rfl rfl ?_);exact k.1):p:=h ⟨k⟩
theorem Q79 (k:q) (h:Wr q→p:=by intro k;refine Zq _ rfl rfl rfl rfl rfl (Yu rfl tu_22 rfl (.seq _ _) ?_);exact k.1):p:=h ⟨k⟩
theorem Q80 (k:q) (h:Wr q→p:=by intro k;refine Zb _ rfl rfl rfl (Zg rfl te_22 rfl (.seq _ _) rfl rfl (by assumption) ?_);exact k.1):p:=h ⟨k⟩
theorem Q81 (k:q) (h:Wr q→p:=by intro k;refine Zb _ rfl rfl rfl (Yc (cs':=[_,_,_,_]) (i:=1) rfl Yi rfl rfl rfl rfl ?_);exact k.1):p:=h ⟨k⟩
theorem Q82 (k:q) (h:Wr q→p:=by intro k;refine Ya rfl rfl (Zu (cs':=[_,_]) (i:=0) rfl ts_85 rfl rfl rfl rfl rfl (Xz rfl) rfl ?_);exact k.1):p:=h ⟨k⟩
theorem Q83 (k:q) (h:Wr q→p:=by intro k;refine Yg _ rfl rfl rfl rfl (op_fam rfl rfl rfl ⟨rfl,rfl⟩) ?_;exact k.1):p:=h ⟨k⟩
theorem Q84 (k:q) (h:Wr q→p:=by intro k;refine Zm _ (none) rfl rfl rfl rfl rfl (Yb (cs':=[_,_,_,_,_,_,_,_,_,_,_]) rfl ta_29 rfl rfl rfl ⟨rfl,rfl⟩) ?_;exact k.1):p:=h ⟨k⟩
theorem Q85 (k:q) (h:Wr q→p:=by intro k;refine Zb _ rfl rfl rfl (Yb (cs':=[_,_,_,_,_,_]) rfl ta_92 rfl rfl rfl ?_);exact k.1):p:=h ⟨k⟩
theorem Q86 (k:q) (h:Wr q→p:=by intro k;refine Zb _ rfl rfl rfl (Yk (cs':=[_,_,_,_,_]) rfl tz_67 rfl rfl ?_);exact k.1):p:=h ⟨k⟩
theorem Q87 (k:q) (h:Wr q→p:=by intro k;refine Zx _ rfl rfl (Yb (cs':=[_,_,_,_]) rfl Yi rfl rfl rfl ⟨rfl,rfl⟩) ?_;exact k.1):p:=h ⟨k⟩
theorem Q88 (k:q) (h:Wr q→p:=by intro k;refine Yv 9 1 ?_;exact k.1):p:=h ⟨k⟩
theorem Q89 (k:q) (h:Wr q→p:=by intro k;refine Zb _ rfl rfl rfl (op_lm1 (i:=3) rfl rfl rfl rfl rfl ?_);exact k.1):p:=h ⟨k⟩
theorem Q90 (k:q) (h:Wr q→p:=by intro k;refine Zb _ rfl rfl rfl (Yc (cs':=[_,_,_,_,_,_,_,_,_,_,_]) (i:=0) rfl Xj rfl rfl rfl rfl ?_);exact k.1):p:=h ⟨k⟩
theorem Q91 (k:q) (h:Wr q→p:=by intro k;refine Zb _ rfl rfl rfl (Yu rfl tu_27 rfl (.seq _ _) ?_);exact k.1):p:=h ⟨k⟩
theorem Q92 (k:q) (h:Wr q→p:=by intro k;refine Zx _ rfl rfl (Yb (cs':=[_,_,_]) rfl ta_41 rfl rfl rfl ⟨rfl,rfl⟩) ?_;exact k.1):p:=h ⟨k⟩
theorem Q93 (k:q) (h:Wr q→p:=by intro k;refine Ya rfl rfl (Zu (cs':=[_,_,_,_,_,_,_,_,_,_,_,_,_,_,_,_,_]) (i:=0) rfl ts_46 rfl rfl rfl rfl rfl (Xz rfl) rfl ?_);exact k.1):p:=h ⟨k⟩
theorem Q94 (k:q) (h:Wr q→p:=by intro k;refine Zq _ rfl rfl rfl rfl rfl (Yb (cs':=[_,_,_,_]) rfl Yi rfl rfl rfl ?_);exact k.1):p:=h ⟨k⟩
theorem Q95 (k:q) (h:Wr q→p:=by intro k;refine Zb _ rfl rfl rfl (Yc (cs':=[_,_,_,_]) (i:=2) rfl Yi rfl rfl rfl rfl ?_);exact k.1):p:=h ⟨k⟩
theorem Q96 (k:q) (h:Wr q→p:=by intro k;refine Zb _ rfl rfl rfl (op_makeFunc (fs:=[]) (cs:=[.tmp 3]) rfl rfl rfl ?_);exact k.1):p:=h ⟨k⟩
theorem Q97 (k:q) (h:Wr q→p:=by intro k;refine Yf 1 rfl rfl rfl rfl rfl (Zu (cs':=[_,_,_,_]) (i:=0) rfl ts_24 rfl rfl rfl rfl rfl (Xz rfl) rfl ⟨_,rfl,?_⟩);exact k.1):p:=h ⟨k⟩
theorem Q98 (k:q) (h:Wr q→p:=by intro k;refine Zb _ rfl rfl rfl (Yk (cs':=[_,_,_,_,_,_,_,_,_,_,_,_,_,_,_,_,_]) rfl tz_46 rfl rfl ?_);exact k.1):p:=h ⟨k⟩
theorem Q99 (k:q) (h:Wr q→p:=by intro k;refine Ya rfl rfl (Zu (cs':=[_,_,_,_,_]) (i:=0) rfl ts_67 rfl rfl rfl rfl rfl (Xz rfl) rfl ?_);exact k.1):p:=h ⟨k⟩
theorem Q100 (k:q) (h:Wr q→p:=by intro k;refine Zb _ rfl rfl rfl (op_boxc (cs':=[_]) rfl rfl rfl rfl ?_);exact k.1):p:=h ⟨k⟩
theorem Q101 (k:q) (h:Wr q→p:=by intro k;refine Zb _ rfl rfl rfl (Yb (cs':=[_,_,_,_,_,_,_,_,_,_,_,_,_,_,_,_,_]) rfl ta_46 rfl rfl rfl ?_);exact k.1):p:=h ⟨k⟩
theorem Q102 (k:q) (h:Wr q→p:=by intro k;refine Zq _ rfl rfl rfl rfl rfl (op_geq rfl rfl rfl ?_);exact k.1):p:=h ⟨k⟩
theorem Q103 (k:q) (h:Wr q→p:=by intro k;refine Zm _ (none) rfl rfl rfl rfl rfl (Yb (cs':=[_,_,_,_]) rfl Yi rfl rfl rfl ⟨rfl,rfl⟩) ?_;exact k.1):p:=h ⟨k⟩
theorem Q104 (k:q) (h:Wr q→p:=by intro k;refine Zm _ (some 4) rfl rfl rfl rfl rfl (Yc (cs':=[_,_,_,_]) (i:=0) rfl Yi rfl rfl rfl rfl ⟨rfl,rfl⟩) ?_;exact k.1):p:=h ⟨k⟩
theorem Q105 (k:q) (h:Wr q→p:=by intro k;refine Zb _ rfl rfl rfl (Yk (cs':=[_,_]) rfl tz_85 rfl rfl ?_);exact k.1):p:=h ⟨k⟩
theorem Q106 (k:q) (h:Wr q→p:=by intro k;refine Zb _ rfl rfl rfl (Yk (cs':=[_,_,_,_,_]) rfl tz_114 rfl rfl ?_);exact k.1):p:=h ⟨k⟩
theorem Q107 (k:q) (h:Wr q→p:=by intro k;refine Zb _ rfl rfl rfl (op_convert rfl tu_5 tu_3 rfl (IntWalk.i64_in _ (by omega)) ?_);exact k.1):p:=h ⟨k⟩
theorem Q108 (k:q) (h:Wr q→p:=by intro k;refine Zb _ rfl rfl rfl (Yc (cs':=[_,_,_,_,_]) (i:=0) rfl ta_67 rfl rfl rfl rfl ?_);exact k.1):p:=h ⟨k⟩
theorem Q109 (k:q) (h:Wr q→p:=by intro k;refine Zb _ rfl rfl rfl (Yb (cs':=[_,_,_,_,_]) rfl ta_114 rfl rfl rfl ?_);exact k.1):p:=h ⟨k⟩
theorem Q110 (k:q) (h:Wr q→p:=by intro k;refine Ya rfl rfl (Zu (cs':=[_,_,_,_,_]) (i:=0) rfl ts_114 rfl rfl rfl rfl rfl (Xz rfl) rfl ?_);exact k.1):p:=h ⟨k⟩
theorem Q111 (k:q) (h:Wr q→p:=by intro k;refine Zq _ rfl rfl rfl rfl rfl (Yu rfl tu_44 rfl (.seq _ _) ?_);exact k.1):p:=h ⟨k⟩
theorem Q112 (k:q) (h:Wr q→p:=by intro k;refine Zb _ rfl rfl rfl (Yk (cs':=[_,_,_,_,_,_]) rfl tz_92 rfl rfl ?_);exact k.1):p:=h ⟨k⟩
theorem Q113 (k:q) (h:Wr q→p:=by intro k;refine Zm _ (some 0) rfl rfl rfl rfl rfl (Yc (cs':=[_,_,_,_]) (i:=0) rfl Yi rfl rfl rfl rfl ⟨rfl,rfl⟩) ?_;exact k.1):p:=h ⟨k⟩
theorem Q114 (k:q) (h:Wr q→p:=by intro k;refine Zx _ rfl rfl (op_add rfl rfl rfl (IntWalk.i64_in _ (by omega)) ⟨rfl,rfl⟩) ?_;exact k.1):p:=h ⟨k⟩
theorem Q115 (k:q) (h:Wr q→p:=by intro k;refine Ya rfl rfl (Zu (i:=2) rfl ts_3 rfl rfl rfl rfl rfl (Xz rfl) rfl ?_);exact k.1):p:=h ⟨k⟩
theorem Q116 (k:q) (h:Wr q→p:=by intro k;refine Zm _ (some 2) rfl rfl rfl rfl rfl (Yc (cs':=[_,_,_,_]) (i:=0) rfl Yi rfl rfl rfl rfl ⟨rfl,rfl⟩) ?_;exact k.1):p:=h ⟨k⟩
theorem Q117 (k:q) (h:Wr q→p:=by intro k;refine Zb _ rfl rfl rfl (Yu rfl tu_37 rfl (.seq _ _) ?_);exact k.1):p:=h ⟨k⟩
theorem Q118 (k:q) (h:Wr q→p:=by intro k;refine Zb _ rfl rfl rfl (op_boxc (cs':=[_,_,_,_,_,_,_,_]) rfl rfl rfl rfl ?_);exact k.1):p:=h ⟨k⟩
theorem Q119 (k:q) (h:Wr q→p:=by intro k;refine Yg _ rfl rfl rfl rfl (op_pick rfl rfl rfl ⟨rfl,rfl⟩) ?_;exact k.1):p:=h ⟨k⟩
theorem Q120 (k:q) (h:Wr q→p:=by intro k;refine Zq _ rfl rfl rfl rfl rfl (op_add rfl rfl rfl (IntWalk.i64_in _ (by omega)) ?_);exact k.1):p:=h ⟨k⟩
theorem Q121 (k:q) (h:Wr q→p:=by intro k;refine Zm _ (some 1) rfl rfl rfl rfl rfl (Yc (cs':=[_,_,_,_]) (i:=0) rfl Yi rfl rfl rfl rfl ⟨rfl,rfl⟩) ?_;exact k.1):p:=h ⟨k⟩
theorem Q122 (k:q) (h:Wr q→p:=by intro k;refine Zq _ rfl rfl rfl rfl rfl (op_sneq rfl rfl rfl ?_);exact k.1):p:=h ⟨k⟩
theorem Q123 (k:q) (h:Wr q→p:=by intro k;refine Zb _ rfl rfl rfl (Yb (cs':=[_,_,_,_,_]) rfl ta_67 rfl rfl rfl ?_);exact k.1):p:=h ⟨k⟩
theorem Q124 (k:q) (h:Wr q→p:=by intro k;refine Ya rfl rfl (Zu (cs':=[_,_,_,_,_]) (i:=0) rfl ts_3 rfl rfl rfl rfl rfl (Xz rfl) rfl ?_);exact k.1):p:=h ⟨k⟩
theorem Q125 (k:q) (h:Wr q→p:=by intro k;refine Zb _ rfl rfl rfl (Yu rfl tu_26 rfl (.seq _ _) ?_);exact k.1):p:=h ⟨k⟩
theorem Q126 (k:q) (h:Wr q→p:=by intro k;refine Zb _ rfl rfl rfl (Yu rfl tu_116 rfl (.seq _ _) ?_);exact k.1):p:=h ⟨k⟩
theorem Q127 (k:q) (h:Wr q→p:=by intro k;refine Zb _ rfl rfl rfl (Yb (cs':=[_,_,_,_,_,_]) rfl ta_118 rfl rfl rfl ?_);exact k.1):p:=h ⟨k⟩
theorem Q128 (k:q) (h:Wr q→p:=by intro k;refine Zb _ rfl rfl rfl (Yc (cs':=[_,_]) (i:=0) rfl Xi rfl rfl rfl rfl ?_);exact k.1):p:=h ⟨k⟩
theorem Q129 (k:q) (h:Wr q→p:=by intro k;refine Zb _ rfl rfl rfl (op_boxc (cs':=[_,_,_,_,_]) rfl rfl rfl rfl ?_);exact k.1):p:=h ⟨k⟩
theorem Q130 (k:q) (h:Wr q→p:=by intro k;refine Zb _ rfl rfl rfl (op_makeFunc (fs:=[]) (cs:=[.tmp 3,.tmp 4]) rfl rfl rfl ?_);exact k.1):p:=h ⟨k⟩
theorem Q131 (k:q) (h:Wr q→p:=by intro k;refine Yf 0 rfl rfl rfl rfl rfl (Zu (cs':=[_,_,_,_]) (i:=0) rfl ts_24 rfl rfl rfl rfl rfl (Xz rfl) rfl ⟨_,rfl,?_⟩);exact k.1):p:=h ⟨k⟩
theorem Q132 (k:q) (h:Wr q→p:=by intro k;refine Zm _ (some 3) rfl rfl rfl rfl rfl (Yc (cs':=[_,_,_,_]) (i:=0) rfl Yi rfl rfl rfl rfl ⟨rfl,rfl⟩) ?_;exact k.1):p:=h ⟨k⟩
theorem Q133 (k:q) (h:Wr q→p:=by intro k;refine Zb _ rfl rfl rfl (Yk (cs':=[_,_,_,_,_,_,_,_,_,_,_]) rfl tz_29 rfl rfl ?_);exact k.1):p:=h ⟨k⟩
theorem Q134 (k:q) (h:Wr q→p:=by intro k;refine Ya rfl rfl (Zu (cs':=[_,_,_,_,_,_,_,_,_,_,_]) (i:=0) rfl ts_29 rfl rfl rfl rfl rfl (Xz rfl) rfl ?_);exact k.1):p:=h ⟨k⟩
theorem Q135 (k:q) (h:Wr q→p:=by intro k;refine Ya rfl rfl (Zu (cs':=[_,_,_,_,_,_]) (i:=0) rfl ts_92 rfl rfl rfl rfl rfl (Xz rfl) rfl ?_);exact k.1):p:=h ⟨k⟩
theorem Q136 (k:q) (h:Wr q→p:=by intro k;refine Zm _ (none) rfl rfl rfl rfl rfl (op_pick rfl rfl rfl ⟨rfl,rfl⟩) ?_;exact k.1):p:=h ⟨k⟩
theorem Q137 (k:q) (h:Wr q→p:=by intro k;refine Zm _ (none) rfl rfl rfl rfl rfl (op_nilCheck_m rfl rfl ⟨rfl,rfl⟩) ?_;exact k.1):p:=h ⟨k⟩
theorem Q138 (k:q) (h:Wr q→p:=by intro k;refine Ya rfl rfl (Zu (i:=0) rfl ts_3 rfl rfl rfl rfl rfl (Xz rfl) rfl ?_);exact k.1):p:=h ⟨k⟩
theorem Q139 (k:q) (h:Wr q→p:=by intro k;refine Ya rfl rfl (Zu (cs':=[_,_,_,_,_]) (i:=2) rfl ts_67 rfl rfl rfl rfl rfl (Xz rfl) rfl ?_);exact k.1):p:=h ⟨k⟩
theorem Q140 (k:q) (h:Wr q→p:=by intro k;refine Zb _ rfl rfl rfl (Yc (cs':=[_,_,_,_,_,_,_,_,_,_,_]) (i:=2) rfl Xj rfl rfl rfl rfl ?_);exact k.1):p:=h ⟨k⟩
theorem Q141 (k:q) (h:Wr q→p:=by intro k;refine Yf 0 rfl rfl rfl rfl rfl (Zu (cs':=[_,_,_,_,_,_,_,_,_,_,_]) (i:=0) rfl ts_125 rfl rfl rfl rfl rfl (Xz rfl) rfl ⟨_,rfl,?_⟩);exact k.1):p:=h ⟨k⟩
theorem Q142 (k:q) (h:Wr q→p:=by intro k;refine Ya rfl rfl (Zu (cs':=[_,_,_,_,_,_,_,_,_,_,_]) (i:=1) rfl ts_128 rfl rfl rfl rfl rfl (Xz rfl) rfl ?_);exact k.1):p:=h ⟨k⟩
theorem Q143 (k:q) (h:Wr q→p:=by intro k;refine Zb _ rfl rfl rfl (Zg rfl te_44 rfl (.seq _ _) rfl rfl (by assumption) ?_);exact k.1):p:=h ⟨k⟩
theorem Q144 (k:q) (h:Wr q→p:=by intro k;refine Zb _ rfl rfl rfl (op_boxc (cs':=[_,_,_,_,_,_,_,_,_,_,_,_,_,_,_,_,_]) rfl rfl rfl rfl ?_);exact k.1):p:=h ⟨k⟩
theorem Q145 (k:q) (h:Wr q→p:=by intro k;refine Zb _ rfl rfl rfl (op_boxc (cs':=[_,_,_,_,_,_,_,_,_,_,_,_,_,_,_,_]) rfl rfl rfl rfl ?_);exact k.1):p:=h ⟨k⟩
theorem Q146 (k:q) (h:Wr q→p:=by intro k;refine Zb _ rfl rfl rfl (op_leq rfl rfl rfl ?_);exact k.1):p:=h ⟨k⟩
theorem Q147 (k:q) (h:Wr q→p:=by intro k;refine Zb _ rfl rfl rfl (Yu rfl tu_39 rfl (.seq _ _) ?_);exact k.1):p:=h ⟨k⟩
theorem Q148 (k:q) (h:Wr q→p:=by intro k;refine Zm _ (none) rfl rfl rfl rfl rfl (Yb (cs':=[_,_,_]) rfl ta_41 rfl rfl rfl ⟨rfl,rfl⟩) ?_;exact k.1):p:=h ⟨k⟩
theorem Q149 (k:q) (h:Wr q→p:=by intro k;refine Zb _ rfl rfl rfl (Yu rfl tu_79 rfl (.seq _ _) ?_);exact k.1):p:=h ⟨k⟩
theorem Q150 (k:q) (h:Wr q→p:=by intro k;refine Zb _ rfl rfl rfl (Yk (cs':=[_,_,_,_,_,_]) rfl tz_118 rfl rfl ?_);exact k.1):p:=h ⟨k⟩
theorem Q151 (k:q) (h:Wr q→p:=by intro k;refine Zb _ rfl rfl rfl (Yb (cs':=[_,_,_,_,_,_,_,_]) rfl ta_122 rfl rfl rfl ?_);exact k.1):p:=h ⟨k⟩
theorem Q152 (k:q) (h:Wr q→p:=by intro k;refine Zb _ rfl rfl rfl (Yu rfl tu_120 rfl (.seq _ _) ?_);exact k.1):p:=h ⟨k⟩
theorem Q153 (k:q) (h:Wr q→p:=by intro k;refine Zb _ rfl rfl rfl (Yk (cs':=[_,_,_,_,_,_,_,_]) rfl tz_122 rfl rfl ?_);exact k.1):p:=h ⟨k⟩
theorem Q154 (k:q) (h:Wr q→p:=by intro k;refine Yg _ rfl rfl rfl rfl (Yb (cs':=[_,_,_]) rfl ta_41 rfl rfl rfl ⟨rfl,rfl⟩) ?_;exact k.1):p:=h ⟨k⟩
theorem Q155 (k:q) (h:Wr q→p:=by intro k;refine Zb _ rfl rfl rfl (Yk (cs':=[_,_,_]) rfl tz_41 rfl rfl ?_);exact k.1):p:=h ⟨k⟩
theorem Q156 (k:q) (h:Wr q→p:=by intro k;refine Ya rfl rfl (Zu (cs':=[_,_,_]) (i:=0) rfl ts_41 rfl rfl rfl rfl rfl (Xz rfl) rfl ?_);exact k.1):p:=h ⟨k⟩
theorem Q157 (k:q) (h:Wr q→p:=by intro k;refine Zb _ rfl rfl rfl (op_mul rfl rfl rfl (IntWalk.i64_in _ (by omega)) ?_);exact k.1):p:=h ⟨k⟩
theorem Q158 (k:q) (h:Wr q→p:=by intro k;refine Zb _ rfl rfl rfl (op_max rfl rfl rfl ?_);exact k.1):p:=h ⟨k⟩
theorem Q159 (k:q) (h:Wr q→p:=by intro k;refine Zq _ rfl rfl rfl rfl rfl (op_lm1 (i:=3) rfl rfl rfl rfl rfl ?_);exact k.1):p:=h ⟨k⟩
theorem Q160 (k:q) (h:Wr q→p:=by intro k;refine Yf 2 rfl rfl rfl rfl rfl (Zu (cs':=[_,_,_,_]) (i:=0) rfl ts_24 rfl rfl rfl rfl rfl (Xz rfl) rfl ⟨_,rfl,?_⟩);exact k.1):p:=h ⟨k⟩
theorem Q161 (k:q) (h:Wr q→p:=by intro k;refine Yg _ rfl rfl rfl rfl (Yb (cs':=[_,_,_,_,_,_]) rfl ta_92 rfl rfl rfl ⟨rfl,rfl⟩) ?_;exact k.1):p:=h ⟨k⟩
theorem Q162 (k:q) (h:Wr q→p:=by intro k;refine Zb _ rfl rfl rfl (op_sadd rfl rfl rfl (by omega) ?_);exact k.1):p:=h ⟨k⟩
theorem Q163 (k:q) (h:Wr q→p:=by intro k;refine Zq _ rfl rfl rfl rfl rfl (Yb (cs':=[_,_,_,_,_,_]) rfl ta_92 rfl rfl rfl ?_);exact k.1):p:=h ⟨k⟩
theorem Q164 (k:q) (h:Wr q→p:=by intro k;refine Zq _ rfl rfl rfl rfl rfl (op_sadd rfl rfl rfl (by omega) ?_);exact k.1):p:=h ⟨k⟩
theorem Q165 (k:q) (h:Wr q→p:=by intro k;refine Zb _ rfl rfl rfl (Yu rfl tu_65 rfl (.seq _ _) ?_);exact k.1):p:=h ⟨k⟩
theorem Q166 (k:q) (h:Wr q→p:=by intro k;refine Zx _ rfl rfl (Yb (cs':=[_,_,_,_,_,_,_,_,_,_,_]) rfl ta_29 rfl rfl rfl ⟨rfl,rfl⟩) ?_;exact k.1):p:=h ⟨k⟩
theorem Q167 (k:q) (h:Wr q→p:=by intro k;refine Ya rfl rfl (Zu (cs':=[_,_,_,_,_]) (i:=0) rfl ts_9 rfl rfl rfl rfl rfl (Xz rfl) rfl ?_);exact k.1):p:=h ⟨k⟩
theorem Q168 (k:q) (h:Wr q→p:=by intro k;refine Zb _ rfl rfl rfl (Yc (cs':=[_,_,_,_,_,_,_,_,_,_,_]) (i:=1) rfl Xj rfl rfl rfl rfl ?_);exact k.1):p:=h ⟨k⟩
theorem Q169 (k:q) (h:Wr q→p:=by intro k;refine Zb _ rfl rfl rfl (Zp (ns:=[7]) (xs:=[.tmp 12]) rfl tz_128 rfl tfl_128 rfl rfl rfl rfl ?_);exact k.1):p:=h ⟨k⟩
theorem Q170 (k:q) (h:Wr q→p:=by intro k;refine Ya rfl rfl (Zu (cs':=[_,_,_,_,_,_,_,_,_,_,_]) (i:=0) rfl ts_9 rfl rfl rfl rfl rfl (Xz rfl) rfl ?_);exact k.1):p:=h ⟨k⟩
theorem Q171 (k:q) (h:Wr q→p:=by intro k;refine Zq _ rfl rfl rfl rfl rfl (op_nilCheck_m rfl rfl ?_);exact k.1):p:=h ⟨k⟩
theorem Q172 (k:q) (h:Wr q→p:=by intro k;refine Zb _ rfl rfl rfl (Zp (ns:=[]) (xs:=[]) rfl tz_128 rfl tfl_128 rfl rfl rfl rfl ?_);exact k.1):p:=h ⟨k⟩
theorem Q173 (k:q) (h:Wr q→p:=by intro k;refine Zb _ rfl rfl rfl (Yk (cs':=[_,_,_,_]) rfl tz_81 rfl rfl ?_);exact k.1):p:=h ⟨k⟩
theorem Q174 (k:q) (h:Wr q→p:=by intro k;refine Zb _ rfl rfl rfl (Zp (ns:=[]) (xs:=[]) rfl tz_41 rfl tfl_41 rfl rfl rfl rfl ?_);exact k.1):p:=h ⟨k⟩
theorem Q175 (k:q) (h:Wr q→p:=by intro k;refine Zx _ rfl rfl (Zg rfl te_22 rfl (.seq _ _) rfl rfl (by assumption) ⟨rfl,rfl⟩) ?_;exact k.1):p:=h ⟨k⟩
theorem Q176 (k:q) (h:Wr q→p:=by intro k;refine Zb _ rfl rfl rfl (Yb (cs':=[_,_,_,_,_,_,_,_,_,_,_,_,_,_,_,_]) rfl ta_69 rfl rfl rfl ?_);exact k.1):p:=h ⟨k⟩
theorem Q177 (k:q) (h:Wr q→p:=by intro k;refine Zb _ rfl rfl rfl (Zh (xs:=[.tmp 11]) el_22 rfl rfl rfl rfl rfl rfl (Xz rfl) ?_);exact k.1):p:=h ⟨k⟩
theorem Q178 (k:q) (h:Wr q→p:=by intro k;refine Ya rfl rfl (Zu (cs':=[_,_,_]) (i:=0) rfl ts_163 rfl rfl rfl rfl rfl (Xz rfl) rfl ?_);exact k.1):p:=h ⟨k⟩
theorem Q179 (k:q) (h:Wr q→p:=by intro k;refine Zx _ rfl rfl (op_cuth rfl te_44 rfl (.seq _ _) rfl rfl (by omega) ⟨rfl,rfl⟩) ?_;exact k.1):p:=h ⟨k⟩
theorem Q180 (k:q) (h:Wr q→p:=by intro k;refine Ya rfl rfl (Zu (cs':=[_,_,_,_,_,_]) (i:=0) rfl ts_118 rfl rfl rfl rfl rfl (Xz rfl) rfl ?_);exact k.1):p:=h ⟨k⟩
theorem Q181 (k:q) (h:Wr q→p:=by intro k;refine Zb _ rfl rfl rfl (Yb (cs':=[_,_,_,_,_,_]) rfl ta_168 rfl rfl rfl ?_);exact k.1):p:=h ⟨k⟩
theorem Q182 (k:q) (h:Wr q→p:=by intro k;refine Zb _ rfl rfl rfl (Yk (cs':=[_,_,_,_,_,_]) rfl tz_168 rfl rfl ?_);exact k.1):p:=h ⟨k⟩
theorem Q183 (k:q) (h:Wr q→p:=by intro k;refine Ya rfl rfl (Zu (cs':=[_,_,_,_,_,_]) (i:=0) rfl ts_168 rfl rfl rfl rfl rfl (Xz rfl) rfl ?_);exact k.1):p:=h ⟨k⟩
theorem Q184 (k:q) (h:Wr q→p:=by intro k;refine Zq _ rfl rfl rfl rfl rfl (Yc (cs':=[_,_,_,_]) (i:=0) rfl Yi rfl rfl rfl rfl ?_);exact k.1):p:=h ⟨k⟩
theorem Q185 (k:q) (h:Wr q→p:=by intro k;refine Yg _ rfl rfl rfl rfl (Yb (cs':=[_,_,_,_,_,_,_,_]) rfl ta_122 rfl rfl rfl ⟨rfl,rfl⟩) ?_;exact k.1):p:=h ⟨k⟩
theorem Q186 (k:q) (h:Wr q→p:=by intro k;refine Ya rfl rfl (Zu (cs':=[_,_,_,_,_,_,_,_]) (i:=0) rfl ts_122 rfl rfl rfl rfl rfl (Xz rfl) rfl ?_);exact k.1):p:=h ⟨k⟩
theorem Q187 (k:q) (h:Wr q→p:=by intro k;refine Zb _ rfl rfl rfl (Yc (cs':=[_,_,_,_,_,_,_,_]) (i:=0) rfl ta_122 rfl rfl rfl rfl ?_);exact k.1):p:=h ⟨k⟩
theorem Q188 (k:q) (h:Wr q→p:=by intro k;refine Zb _ rfl rfl rfl (Yc (cs':=[_,_,_]) (i:=0) rfl ta_41 rfl rfl rfl rfl ?_);exact k.1):p:=h ⟨k⟩
theorem Q189 (k:q) (h:Wr q→p:=by intro k;refine Zb _ rfl rfl rfl (Yc (cs':=[_,_,_]) (i:=1) rfl ta_41 rfl rfl rfl rfl ?_);exact k.1):p:=h ⟨k⟩
theorem Q190 (k:q) (h:Wr q→p:=by intro k;refine Zx _ rfl rfl (Yc (cs':=[_,_,_]) (i:=1) rfl ta_41 rfl rfl rfl rfl ⟨rfl,rfl⟩) ?_;exact k.1):p:=h ⟨k⟩
theorem Q191 (k:q) (h:Wr q→p:=by intro k;refine Zb _ rfl rfl rfl (Yc (cs':=[_,_,_,_,_,_]) (i:=2) rfl ta_92 rfl rfl rfl rfl ?_);exact k.1):p:=h ⟨k⟩
theorem Q192 (k:q) (h:Wr q→p:=by intro k;refine Ya rfl rfl (Zu (cs':=[_,_,_,_,_,_]) (i:=1) rfl ts_92 rfl rfl rfl rfl rfl (Xz rfl) rfl ?_);exact k.1):p:=h ⟨k⟩
theorem Q193 (k:q) (h:Wr q→p:=by intro k;refine Zb _ rfl rfl rfl (Yc (cs':=[_,_,_,_,_,_,_,_,_,_,_]) (i:=1) rfl ta_29 rfl rfl rfl rfl ?_);exact k.1):p:=h ⟨k⟩
theorem Q194 (k:q) (h:Wr q→p:=by intro k;refine Zx _ rfl rfl (Yb (cs':=[_,_,_,_,_,_]) rfl ta_92 rfl rfl rfl ⟨rfl,rfl⟩) ?_;exact k.1):p:=h ⟨k⟩
theorem Q195 (k:q) (h:Wr q→p:=by intro k;refine Yg _ rfl rfl rfl rfl (Yb (cs':=[_,_,_,_,_,_,_,_,_,_,_]) rfl ta_29 rfl rfl rfl ⟨rfl,rfl⟩) ?_;exact k.1):p:=h ⟨k⟩
theorem Q196 (k:q) (h:Wr q→p:=by intro k;refine Yg _ rfl rfl rfl rfl (Yb (cs':=[_,_,_,_]) rfl Yi rfl rfl rfl ⟨rfl,rfl⟩) ?_;exact k.1):p:=h ⟨k⟩
theorem Q197 (k:q) (h:Wr q→p:=by intro k;refine Zb _ rfl rfl rfl (Zh (xs:=[.tmp 189]) el_22 rfl rfl rfl rfl rfl rfl (Xz rfl) ?_);exact k.1):p:=h ⟨k⟩
theorem Q198 (k:q) (h:Wr q→p:=by intro k;refine Zb _ rfl rfl rfl (Zg rfl te_65 rfl (.seq _ _) rfl rfl (by assumption) ?_);exact k.1):p:=h ⟨k⟩
theorem Q199 (k:q) (h:Wr q→p:=by intro k;refine Zb _ rfl rfl rfl (Zh (xs:=[.tmp 26]) el_27 rfl rfl rfl rfl rfl rfl (Xz rfl) ?_);exact k.1):p:=h ⟨k⟩
theorem Q200 (k:q) (h:Wr q→p:=by intro k;refine Zq _ rfl rfl rfl rfl rfl (Yb (cs':=[_,_,_,_,_,_,_,_,_,_,_]) rfl ta_29 rfl rfl rfl ?_);exact k.1):p:=h ⟨k⟩
theorem Q201 (k:q) (h:Wr q→p:=by intro k;refine Zq _ rfl rfl rfl rfl rfl (Yb (cs':=[_,_,_,_,_,_,_,_,_,_,_,_,_,_,_,_,_]) rfl ta_46 rfl rfl rfl ?_);exact k.1):p:=h ⟨k⟩
theorem Q202 (k:q) (h:Wr q→p:=by intro k;refine Yp [0,1,2,3,4,5,6,7,8,9,10] [9] [[],[0],[],[2],[2,3],[2,3,4],[2,3],[2,3,4,5,6],[2,3,4,5,6,7],[0,1,2,3,4,5,6,7],[0,1,2,3,4,5,6,7,8,9]] Xl rfl ?_;exact k.1):p:=h ⟨k⟩
theorem Q203 (k:q) (h:Wr q→p:=by intro k;refine Zx _ rfl rfl (op_sub rfl rfl rfl (IntWalk.i64_in _ (by omega)) ⟨rfl,rfl⟩) ?_;exact k.1):p:=h ⟨k⟩
theorem Q204 (k:q) (h:Wr q→p:=by intro k;refine Zb _ rfl rfl rfl (Zh (xs:=[.tmp 51]) el_22 rfl rfl rfl rfl rfl rfl (Xz rfl) ?_);exact k.1):p:=h ⟨k⟩
theorem Q205 (k:q) (h:Wr q→p:=by intro k;refine Zb _ rfl rfl rfl (Zp (ns:=[]) (xs:=[]) rfl tz_109 rfl tfl_109 rfl rfl rfl rfl ?_);exact k.1):p:=h ⟨k⟩
theorem Q206 (k:q) (h:Wr q→p:=by intro k;refine Zb _ rfl rfl rfl (Zp (ns:=[4]) (xs:=[.tmp 8]) rfl tz_67 rfl tfl_67 rfl rfl rfl rfl ?_);exact k.1):p:=h ⟨k⟩
theorem Q207 (k:q) (h:Wr q→p:=by intro k;refine Ya rfl rfl (Zu (cs':=[_,_,_,_,_]) (i:=1) rfl ts_67 rfl rfl rfl rfl rfl (Xz rfl) rfl ?_);exact k.1):p:=h ⟨k⟩
theorem Q208 (k:q) (h:Wr q→p:=by intro k;refine Ya rfl rfl (Zu (cs':=[_,_,_,_,_,_,_,_,_,_,_]) (i:=4) rfl ts_128 rfl rfl rfl rfl rfl (Xz rfl) rfl ?_);exact k.1):p:=h ⟨k⟩
theorem Q209 (k:q) (h:Wr q→p:=by intro k;refine Ya rfl rfl (Zu (cs':=[_,_,_,_,_,_,_,_,_,_,_]) (i:=0) rfl ts_2 rfl rfl rfl rfl rfl (Xz rfl) rfl ?_);exact k.1):p:=h ⟨k⟩
theorem Q210 (k:q) (h:Wr q→p:=by intro k;refine Zm _ (some 0) rfl rfl rfl rfl rfl (Yc (cs':=[_,_,_,_,_,_,_,_,_,_,_]) (i:=0) rfl Xj rfl rfl rfl rfl ⟨rfl,rfl⟩) ?_;exact k.1):p:=h ⟨k⟩
theorem Q211 (k:q) (h:Wr q→p:=by intro k;refine Zm _ (some 2) rfl rfl rfl rfl rfl (op_lm1 (i:=0) rfl rfl rfl rfl rfl ⟨rfl,rfl⟩) ?_;exact k.1):p:=h ⟨k⟩
theorem Q212 (k:q) (h:Wr q→p:=by intro k;refine Yf 0 rfl rfl rfl rfl rfl (Zu (cs':=[_,_,_,_,_,_,_,_,_,_,_]) (i:=0) rfl ts_128 rfl rfl rfl rfl rfl (Xz rfl) rfl ⟨_,rfl,?_⟩);exact k.1):p:=h ⟨k⟩
theorem Q213 (k:q) (h:Wr q→p:=by intro k;refine Yf 0 rfl rfl rfl rfl rfl (Zu (cs':=[_,_,_,_,_,_,_,_,_,_,_]) (i:=0) rfl ts_79 rfl rfl rfl rfl rfl (Xz rfl) rfl ⟨_,rfl,?_⟩);exact k.1):p:=h ⟨k⟩
theorem Q214 (k:q) (h:Wr q→p:=by intro k;refine Zb _ rfl rfl rfl (Yc (cs':=[_,_,_,_,_]) (i:=0) rfl ta_114 rfl rfl rfl rfl ?_);exact k.1):p:=h ⟨k⟩
theorem Q215 (k:q) (h:Wr q→p:=by intro k;refine Ya rfl rfl (Zu (cs':=[_,_,_,_,_]) (i:=2) rfl ts_114 rfl rfl rfl rfl rfl (Xz rfl) rfl ?_);exact k.1):p:=h ⟨k⟩
theorem Q216 (k:q) (h:Wr q→p:=by intro k;refine Zb _ rfl rfl rfl (Yc (cs':=[_,_,_,_,_,_]) (i:=3) rfl ta_118 rfl rfl rfl rfl ?_);exact k.1):p:=h ⟨k⟩
theorem Q217 (k:q) (h:Wr q→p:=by intro k;refine Ya rfl rfl (Zu (cs':=[_,_,_,_,_,_]) (i:=1) rfl ts_118 rfl rfl rfl rfl rfl (Xz rfl) rfl ?_);exact k.1):p:=h ⟨k⟩
theorem Q218 (k:q) (h:Wr q→p:=by intro k;refine Zm _ (some 3) rfl rfl rfl rfl rfl (op_lm1 (i:=0) rfl rfl rfl rfl rfl ⟨rfl,rfl⟩) ?_;exact k.1):p:=h ⟨k⟩
theorem Q219 (k:q) (h:Wr q→p:=by intro k;refine Zb _ rfl rfl rfl (Yc (cs':=[_,_,_,_,_,_,_,_]) (i:=3) rfl ta_122 rfl rfl rfl rfl ?_);exact k.1):p:=h ⟨k⟩
theorem Q220 (k:q) (h:Wr q→p:=by intro k;refine Ya rfl rfl (Zu (cs':=[_,_,_,_,_,_,_,_]) (i:=1) rfl ts_122 rfl rfl rfl rfl rfl (Xz rfl) rfl ?_);exact k.1):p:=h ⟨k⟩
theorem Q221 (k:q) (h:Wr q→p:=by intro k;refine Ya rfl rfl (Zu (cs':=[_,_,_,_]) (i:=0) rfl ts_81 rfl rfl rfl rfl rfl (Xz rfl) rfl ?_);exact k.1):p:=h ⟨k⟩
theorem Q222 (k:q) (h:Wr q→p:=by intro k;refine Yf 1 rfl rfl rfl rfl rfl (Zu (cs':=[_,_,_]) (i:=0) rfl ts_41 rfl rfl rfl rfl rfl (Xz rfl) rfl ⟨_,rfl,?_⟩);exact k.1):p:=h ⟨k⟩
theorem Q223 (k:q) (h:Wr q→p:=by intro k;refine Yp [0,1,2,3,4,5,6,7,8,9,10,11,12,13] [11,13] [[],[0],[],[],[],[4],[],[4,5,6],[4,5,6,7],[2,3,4,5,6,7,8],[2,3,4,5,6,7,8,9],[0,1,2,3,4,5,6,7,8,9,10],[0,1,2,3,4,5,6,7,8,9,10,11],[0,1,2,3,4,5,6,7,8,9,10,11,12]] Xl rfl ?_;exact k.1):p:=h ⟨k⟩
theorem Q224 (k:q) (h:Wr q→p:=by intro k;refine Zx _ rfl rfl (Zg rfl te_44 rfl (.seq _ _) rfl rfl (rfl) ⟨rfl,rfl⟩) ?_;exact k.1):p:=h ⟨k⟩
theorem Q225 (k:q) (h:Wr q→p:=by intro k;refine Yg _ rfl rfl rfl rfl (Yc (cs':=[_,_,_,_]) (i:=3) rfl Yi rfl rfl rfl rfl ⟨rfl,rfl⟩) ?_;exact k.1):p:=h ⟨k⟩
theorem Q226 (k:q) (h:Wr q→p:=by intro k;refine Q3 ?_;refine Q1 ?_;exact k.1):p:=h ⟨k⟩
theorem Q227 (k:q) (h:Wr q→p:=by intro k;refine Q2 ?_;refine Q4 ?_;exact k.1):p:=h ⟨k⟩
theorem Q228 (k:q) (h:Wr q→p:=by intro k;refine Q6 ?_;refine Q226 ?_;exact k.1):p:=h ⟨k⟩
theorem Q229 (k:q) (h:Wr q→p:=by intro k;refine Q227 ?_;refine Q5 ?_;exact k.1):p:=h ⟨k⟩
theorem Q230 (k:q) (h:Wr q→p:=by intro k;refine c_skip ?_;refine Q1 ?_;exact k.1):p:=h ⟨k⟩
theorem Q231 (k:q) (h:Wr q→p:=by intro k;refine Q7 ?_;refine Q7 ?_;exact k.1):p:=h ⟨k⟩
theorem Q232 (k:q) (h:Wr q→p:=by intro k;refine Q228 ?_;refine c_ret ?_;exact k.1):p:=h ⟨k⟩
theorem Q233 (k:q) (h:Wr q→p:=by intro k;refine Q230 ?_;refine Q2 ?_;exact k.1):p:=h ⟨k⟩
theorem Q234 (k:q) (h:Wr q→p:=by intro k;refine Q4 ?_;refine Q5 ?_;exact k.1):p:=h ⟨k⟩
theorem Q235 (k:q) (h:Wr q→p:=by intro k;refine Q13 ?_;refine Q14 ?_;exact k.1):p:=h ⟨k⟩
theorem Q236 (k:q) (h:Wr q→p:=by intro k;refine Q10 ?_;refine Q3 ?_;exact k.1):p:=h ⟨k⟩
theorem Q237 (k:q) (h:Wr q→p:=by intro k;refine Q15 ?_;refine Q227 ?_;exact k.1):p:=h ⟨k⟩
theorem Q238 (k:q) (h:Wr q→p:=by intro k;refine Q228 ?_;refine Q2 ?_;exact k.1):p:=h ⟨k⟩
theorem Q239 (k:q) (h:Wr q→p:=by intro k;refine Q6 ?_;refine Q3 ?_;exact k.1):p:=h ⟨k⟩
theorem Q240 (k:q) (h:Wr q→p:=by intro k;refine Q9 ?_;refine Q227 ?_;exact k.1):p:=h ⟨k⟩
theorem Q241 (k:q) (h:Wr q→p:=by intro k;refine Q226 ?_;refine Q2 ?_;exact k.1):p:=h ⟨k⟩
theorem Q242 (k:q) (h:Wr q→p:=by intro k;refine Q8 ?_;refine Q233 ?_;exact k.1):p:=h ⟨k⟩
theorem Q243 (k:q) (h:Wr q→p:=by intro k;refine Q11 ?_;refine Zb _ rfl rfl rfl (op_lm1 (i:=0) rfl rfl rfl rfl rfl ?_);exact k.1):p:=h ⟨k⟩
theorem Q244 (k:q) (h:Wr q→p:=by intro k;refine Q12 ?_;refine Q12 ?_;exact k.1):p:=h ⟨k⟩
theorem Q245 (k:q) (h:Wr q→p:=by intro k;refine c_exit ?_;refine x_code ?_;exact k.1):p:=h ⟨k⟩
theorem Q246 (k:q) (h:Wr q→p:=by intro k;refine Q8 ?_;refine Q245 ?_;exact k.1):p:=h ⟨k⟩
theorem Q247 (k:q) (h:Wr q→p:=by intro k;refine Q246 ?_;refine x_lp ?_;exact k.1):p:=h ⟨k⟩
theorem Q248 (k:q) (h:Wr q→p:=by intro k;refine Q247 ?_;refine x_here ?_;exact k.1):p:=h ⟨k⟩
theorem Q249 (k:q) (h:Wr q→p:=by intro k;refine Q227 ?_;refine Q17 ?_;exact k.1):p:=h ⟨k⟩
theorem Q250 (k:q) (h:Wr q→p:=by intro k;refine go_blk ?_;refine Q1 ?_;exact k.1):p:=h ⟨k⟩
theorem Q251 (k:q) (h:Wr q→p:=by intro k;refine Q231 ?_;refine Q231 ?_;exact k.1):p:=h ⟨k⟩
theorem Q252 (k:q) (h:Wr q→p:=by intro k;refine Q248 ?_;refine Q1 ?_;exact k.1):p:=h ⟨k⟩
theorem Q253 (k:q) (h:Wr q→p:=by intro k;refine Q6 ?_;refine Q232 ?_;exact k.1):p:=h ⟨k⟩
theorem Q254 (k:q) (h:Wr q→p:=by intro k;refine Q8 ?_;refine Q249 ?_;exact k.1):p:=h ⟨k⟩
theorem Q255 (k:q) (h:Wr q→p:=by intro k;refine Q9 ?_;refine Q233 ?_;exact k.1):p:=h ⟨k⟩
theorem Q256 (k:q) (h:Wr q→p:=by intro k;refine Q255 ?_;refine c_block ?_;exact k.1):p:=h ⟨k⟩
theorem Q257 (k:q) (h:Wr q→p:=by intro k;refine Q226 ?_;refine c_ret ?_;exact k.1):p:=h ⟨k⟩
theorem Q258 (k:q) (h:Wr q→p:=by intro k;refine Q226 ?_;refine Q227 ?_;exact k.1):p:=h ⟨k⟩
theorem Q259 (k:q) (h:Wr q→p:=by intro k;refine Q8 ?_;refine Q230 ?_;exact k.1):p:=h ⟨k⟩
theorem Q260 (k:q) (h:Wr q→p:=by intro k;refine Q10 ?_;refine Q5 ?_;exact k.1):p:=h ⟨k⟩
theorem Q261 (k:q) (h:Wr q→p:=by intro k;refine Q2 ?_;refine Q229 ?_;exact k.1):p:=h ⟨k⟩
theorem Q262 (k:q) (h:Wr q→p:=by intro k;refine Q18 ?_;refine Q239 ?_;exact k.1):p:=h ⟨k⟩
theorem Q263 (k:q) (h:Wr q→p:=by intro k;refine Q234 ?_;refine Q262 ?_;exact k.1):p:=h ⟨k⟩
theorem Q264 (k:q) (h:Wr q→p:=by intro k;refine Q228 ?_;refine Q227 ?_;exact k.1):p:=h ⟨k⟩
theorem Q265 (k:q) (h:Wr q→p:=by intro k;refine Q256 ?_;refine Q2 ?_;exact k.1):p:=h ⟨k⟩
theorem Q266 (k:q) (h:Wr q→p:=by intro k;refine Q263 ?_;refine go_lp ?_;exact k.1):p:=h ⟨k⟩
theorem Q267 (k:q) (h:Wr q→p:=by intro k;refine Q8 ?_;refine c_skip ?_;exact k.1):p:=h ⟨k⟩
theorem Q268 (k:q) (h:Wr q→p:=by intro k;refine Q250 ?_;refine Q266 ?_;exact k.1):p:=h ⟨k⟩
theorem Q269 (k:q) (h:Wr q→p:=by intro k;refine Q228 ?_;refine c_block ?_;exact k.1):p:=h ⟨k⟩
theorem Q270 (k:q) (h:Wr q→p:=by intro k;refine Q227 ?_;refine Q235 ?_;exact k.1):p:=h ⟨k⟩
theorem Q271 (k:q) (h:Wr q→p:=by intro k;refine Q228 ?_;refine Q229 ?_;exact k.1):p:=h ⟨k⟩
theorem Q272 (k:q) (h:Wr q→p:=by intro k;refine Q11 ?_;refine Q29 ?_;exact k.1):p:=h ⟨k⟩
theorem Q273 (k:q) (h:Wr q→p:=by intro k;refine Q10 ?_;refine Q239 ?_;exact k.1):p:=h ⟨k⟩
theorem Q274 (k:q) (h:Wr q→p:=by intro k;refine Q31 ?_;refine Q253 ?_;exact k.1):p:=h ⟨k⟩
theorem Q275 (k:q) (h:Wr q→p:=by intro k;refine Q238 ?_;refine Q229 ?_;exact k.1):p:=h ⟨k⟩
theorem Q276 (k:q) (h:Wr q→p:=by intro k;refine AOps.gu _ rfl rfl rfl rfl rfl ?_;refine AOps.gu _ rfl rfl rfl rfl rfl ?_;exact k.1):p:=h ⟨k⟩
theorem Q277 (k:q) (h:Wr q→p:=by intro k;refine Q5 ?_;refine Q5 ?_;exact k.1):p:=h ⟨k⟩
theorem Q278 (k:q) (h:Wr q→p:=by intro k;refine Q9 ?_;refine Q4 ?_;exact k.1):p:=h ⟨k⟩
theorem Q279 (k:q) (h:Wr q→p:=by intro k;refine Q231 ?_;refine Q7 ?_;exact k.1):p:=h ⟨k⟩
theorem Q280 (k:q) (h:Wr q→p:=by intro k;refine Q227 ?_;refine Q243 ?_;exact k.1):p:=h ⟨k⟩
theorem Q281 (k:q) (h:Wr q→p:=by intro k;refine Q244 ?_;refine Q244 ?_;exact k.1):p:=h ⟨k⟩
theorem Q282 (k:q) (h:Wr q→p:=by intro k;refine Q11 ?_;refine Ya rfl rfl (Zu (cs':=[_,_,_,_]) (i:=0) rfl ts_3 rfl rfl rfl rfl rfl (Xz rfl) rfl ?_);exact k.1):p:=h ⟨k⟩
theorem Q283 (k:q) (h:Wr q→p:=by intro k;refine Q28 ?_;refine Q5 ?_;exact k.1):p:=h ⟨k⟩
theorem Q284 (k:q) (h:Wr q→p:=by intro k;refine Q283 ?_;refine Q274 ?_;exact k.1):p:=h ⟨k⟩
theorem Q285 (k:q) (h:Wr q→p:=by intro k;refine Q240 ?_;refine Q232 ?_;exact k.1):p:=h ⟨k⟩
theorem Q286 (k:q) (h:Wr q→p:=by intro k;refine Q226 ?_;refine c_block ?_;exact k.1):p:=h ⟨k⟩
theorem Q287 (k:q) (h:Wr q→p:=by intro k;refine Q226 ?_;refine Q229 ?_;exact k.1):p:=h ⟨k⟩
theorem Q288 (k:q) (h:Wr q→p:=by intro k;refine Q9 ?_;refine Q229 ?_;exact k.1):p:=h ⟨k⟩
theorem Q289 (k:q) (h:Wr q→p:=by intro k;refine Q259 ?_;refine Q227 ?_;exact k.1):p:=h ⟨k⟩
theorem Q290 (k:q) (h:Wr q→p:=by intro k;refine Q278 ?_;refine Q282 ?_;exact k.1):p:=h ⟨k⟩
theorem Q291 (k:q) (h:Wr q→p:=by intro k;refine Q25 ?_;refine Q36 ?_;exact k.1):p:=h ⟨k⟩
theorem Q292 (k:q) (h:Wr q→p:=by intro k;refine Q2 ?_;refine Q2 ?_;exact k.1):p:=h ⟨k⟩
theorem Q293 (k:q) (h:Wr q→p:=by intro k;refine Q32 ?_;refine Q35 ?_;exact k.1):p:=h ⟨k⟩
theorem Q294 (k:q) (h:Wr q→p:=by intro k;refine Q251 ?_;refine Q7 ?_;exact k.1):p:=h ⟨k⟩
theorem Q295 (k:q) (h:Wr q→p:=by intro k;refine go_blk ?_;refine go_lp ?_;exact k.1):p:=h ⟨k⟩
theorem Q296 (k:q) (h:Wr q→p:=by intro k;refine Q252 ?_;refine Q227 ?_;exact k.1):p:=h ⟨k⟩
theorem Q297 (k:q) (h:Wr q→p:=by intro k;refine Q235 ?_;refine Q5 ?_;exact k.1):p:=h ⟨k⟩
theorem Q298 (k:q) (h:Wr q→p:=by intro k;refine Q23 ?_;refine Q23 ?_;exact k.1):p:=h ⟨k⟩
theorem Q299 (k:q) (h:Wr q→p:=by intro k;refine Q22 ?_;refine Q236 ?_;exact k.1):p:=h ⟨k⟩
theorem Q300 (k:q) (h:Wr q→p:=by intro k;refine Q237 ?_;refine Q40 ?_;exact k.1):p:=h ⟨k⟩
theorem Q301 (k:q) (h:Wr q→p:=by intro k;refine Q241 ?_;refine Q229 ?_;exact k.1):p:=h ⟨k⟩
theorem Q302 (k:q) (h:Wr q→p:=by intro k;refine Q9 ?_;refine Q2 ?_;exact k.1):p:=h ⟨k⟩
theorem Q303 (k:q) (h:Wr q→p:=by intro k;refine Q1 ?_;refine c_ret ?_;exact k.1):p:=h ⟨k⟩
theorem Q304 (k:q) (h:Wr q→p:=by intro k;refine Q227 ?_;refine Q269 ?_;exact k.1):p:=h ⟨k⟩
theorem Q305 (k:q) (h:Wr q→p:=by intro k;refine Q267 ?_;refine Q268 ?_;exact k.1):p:=h ⟨k⟩
theorem Q306 (k:q) (h:Wr q→p:=by intro k;refine Q238 ?_;refine Q2 ?_;exact k.1):p:=h ⟨k⟩
theorem Q307 (k:q) (h:Wr q→p:=by intro k;refine Q231 ?_;refine Q236 ?_;exact k.1):p:=h ⟨k⟩
theorem Q308 (k:q) (h:Wr q→p:=by intro k;refine Q5 ?_;refine Q298 ?_;exact k.1):p:=h ⟨k⟩
theorem Q309 (k:q) (h:Wr q→p:=by intro k;refine Q37 ?_;refine Q11 ?_;exact k.1):p:=h ⟨k⟩
theorem Q310 (k:q) (h:Wr q→p:=by intro k;refine Q3 ?_;refine go_lp ?_;exact k.1):p:=h ⟨k⟩
theorem Q311 (k:q) (h:Wr q→p:=by intro k;refine Q43 ?_;refine Q21 ?_;exact k.1):p:=h ⟨k⟩
theorem Q312 (k:q) (h:Wr q→p:=by intro k;refine Q16 ?_;refine Q16 ?_;exact k.1):p:=h ⟨k⟩
theorem Q313 (k:q) (h:Wr q→p:=by intro k;refine Q18 ?_;refine Q5 ?_;exact k.1):p:=h ⟨k⟩
theorem Q314 (k:q) (h:Wr q→p:=by intro k;refine Q234 ?_;refine Q5 ?_;exact k.1):p:=h ⟨k⟩
theorem Q315 (k:q) (h:Wr q→p:=by intro k;refine Q300 ?_;refine Q311 ?_;exact k.1):p:=h ⟨k⟩
theorem Q316 (k:q) (h:Wr q→p:=by intro k;refine Q261 ?_;refine Q5 ?_;exact k.1):p:=h ⟨k⟩
theorem Q317 (k:q) (h:Wr q→p:=by intro k;refine Q5 ?_;refine Q286 ?_;exact k.1):p:=h ⟨k⟩
theorem Q318 (k:q) (h:Wr q→p:=by intro k;refine Q227 ?_;refine Q19 ?_;exact k.1):p:=h ⟨k⟩
theorem Q319 (k:q) (h:Wr q→p:=by intro k;refine Q4 ?_;refine Q313 ?_;exact k.1):p:=h ⟨k⟩
theorem Q320 (k:q) (h:Wr q→p:=by intro k;refine Q319 ?_;refine Q310 ?_;exact k.1):p:=h ⟨k⟩
theorem Q321 (k:q) (h:Wr q→p:=by intro k;refine Q259 ?_;refine Q229 ?_;exact k.1):p:=h ⟨k⟩
theorem Q322 (k:q) (h:Wr q→p:=by intro k;refine Q296 ?_;refine Q232 ?_;exact k.1):p:=h ⟨k⟩
theorem Q323 (k:q) (h:Wr q→p:=by intro k;refine Q250 ?_;refine Q320 ?_;exact k.1):p:=h ⟨k⟩
theorem Q324 (k:q) (h:Wr q→p:=by intro k;refine Q242 ?_;refine Q2 ?_;exact k.1):p:=h ⟨k⟩
theorem Q325 (k:q) (h:Wr q→p:=by intro k;refine Q27 ?_;refine Zm _ (some 0) rfl rfl rfl rfl rfl (op_lm1 (i:=0) rfl rfl rfl rfl rfl ⟨rfl,rfl⟩) ?_;exact k.1):p:=h ⟨k⟩
theorem Q326 (k:q) (h:Wr q→p:=by intro k;refine Q258 ?_;refine Q284 ?_;exact k.1):p:=h ⟨k⟩
theorem Q327 (k:q) (h:Wr q→p:=by intro k;refine Q234 ?_;refine Q277 ?_;exact k.1):p:=h ⟨k⟩
theorem Q328 (k:q) (h:Wr q→p:=by intro k;refine Q9 ?_;refine Q230 ?_;exact k.1):p:=h ⟨k⟩
theorem Q329 (k:q) (h:Wr q→p:=by intro k;refine Q242 ?_;refine Q229 ?_;exact k.1):p:=h ⟨k⟩
theorem Q330 (k:q) (h:Wr q→p:=by intro k;refine Q328 ?_;refine c_block ?_;exact k.1):p:=h ⟨k⟩
theorem Q331 (k:q) (h:Wr q→p:=by intro k;refine Q294 ?_;refine Q236 ?_;exact k.1):p:=h ⟨k⟩
theorem Q332 (k:q) (h:Wr q→p:=by intro k;refine Q4 ?_;refine Q269 ?_;exact k.1):p:=h ⟨k⟩
theorem Q333 (k:q) (h:Wr q→p:=by intro k;refine Q48 ?_;refine Yg _ rfl rfl rfl rfl (op_lc1 rfl rfl rfl rfl ⟨rfl,rfl⟩) ?_;exact k.1):p:=h ⟨k⟩
theorem Q334 (k:q) (h:Wr q→p:=by intro k;refine Q289 ?_;refine Q284 ?_;exact k.1):p:=h ⟨k⟩
theorem Q335 (k:q) (h:Wr q→p:=by intro k;refine Q290 ?_;refine Q326 ?_;exact k.1):p:=h ⟨k⟩
theorem Q336 (k:q) (h:Wr q→p:=by intro k;refine Q41 ?_;refine Zq _ rfl rfl rfl rfl rfl (op_lm1 (i:=0) rfl rfl rfl rfl rfl ?_);exact k.1):p:=h ⟨k⟩
theorem Q337 (k:q) (h:Wr q→p:=by intro k;refine Q238 ?_;refine Q304 ?_;exact k.1):p:=h ⟨k⟩
theorem Q338 (k:q) (h:Wr q→p:=by intro k;refine Q276 ?_;refine Q7 ?_;exact k.1):p:=h ⟨k⟩
theorem Q339 (k:q) (h:Wr q→p:=by intro k;refine Q261 ?_;refine Q235 ?_;exact k.1):p:=h ⟨k⟩
theorem Q340 (k:q) (h:Wr q→p:=by intro k;refine Q30 ?_;refine Q241 ?_;exact k.1):p:=h ⟨k⟩
theorem Q341 (k:q) (h:Wr q→p:=by intro k;refine Q271 ?_;refine Q5 ?_;exact k.1):p:=h ⟨k⟩
theorem Q342 (k:q) (h:Wr q→p:=by intro k;refine Q252 ?_;refine Q229 ?_;exact k.1):p:=h ⟨k⟩
theorem Q343 (k:q) (h:Wr q→p:=by intro k;refine Q252 ?_;refine Q2 ?_;exact k.1):p:=h ⟨k⟩
theorem Q344 (k:q) (h:Wr q→p:=by intro k;refine Q16 ?_;refine Q38 ?_;exact k.1):p:=h ⟨k⟩
theorem Q345 (k:q) (h:Wr q→p:=by intro k;refine Q241 ?_;refine Q280 ?_;exact k.1):p:=h ⟨k⟩
theorem Q346 (k:q) (h:Wr q→p:=by intro k;refine Q5 ?_;refine Q46 ?_;exact k.1):p:=h ⟨k⟩
theorem Q347 (k:q) (h:Wr q→p:=by intro k;refine Q252 ?_;refine Q292 ?_;exact k.1):p:=h ⟨k⟩
theorem Q348 (k:q) (h:Wr q→p:=by intro k;refine Q281 ?_;refine Q281 ?_;exact k.1):p:=h ⟨k⟩
theorem Q349 (k:q) (h:Wr q→p:=by intro k;refine Q239 ?_;refine Q268 ?_;exact k.1):p:=h ⟨k⟩
theorem Q350 (k:q) (h:Wr q→p:=by intro k;refine Q242 ?_;refine Q280 ?_;exact k.1):p:=h ⟨k⟩
theorem Q351 (k:q) (h:Wr q→p:=by intro k;refine Q270 ?_;refine Q286 ?_;exact k.1):p:=h ⟨k⟩
theorem Q352 (k:q) (h:Wr q→p:=by intro k;refine Q351 ?_;refine Q249 ?_;exact k.1):p:=h ⟨k⟩
theorem Q353 (k:q) (h:Wr q→p:=by intro k;refine Q237 ?_;refine Zb _ rfl rfl rfl (op_boxc (cs':=[_,_,_]) rfl rfl rfl rfl ?_);exact k.1):p:=h ⟨k⟩
theorem Q354 (k:q) (h:Wr q→p:=by intro k;refine Q56 ?_;refine Q63 ?_;exact k.1):p:=h ⟨k⟩
theorem Q355 (k:q) (h:Wr q→p:=by intro k;refine Q227 ?_;refine Q272 ?_;exact k.1):p:=h ⟨k⟩
theorem Q356 (k:q) (h:Wr q→p:=by intro k;refine Q45 ?_;refine Q21 ?_;exact k.1):p:=h ⟨k⟩
theorem Q357 (k:q) (h:Wr q→p:=by intro k;refine Q53 ?_;refine Q232 ?_;exact k.1):p:=h ⟨k⟩
theorem Q358 (k:q) (h:Wr q→p:=by intro k;refine Q288 ?_;refine Q232 ?_;exact k.1):p:=h ⟨k⟩
theorem Q359 (k:q) (h:Wr q→p:=by intro k;refine Q290 ?_;refine Q345 ?_;exact k.1):p:=h ⟨k⟩
theorem Q360 (k:q) (h:Wr q→p:=by intro k;refine Q264 ?_;refine Q356 ?_;exact k.1):p:=h ⟨k⟩
theorem Q361 (k:q) (h:Wr q→p:=by intro k;refine Q340 ?_;refine Q270 ?_;exact k.1):p:=h ⟨k⟩
theorem Q362 (k:q) (h:Wr q→p:=by intro k;refine Q361 ?_;refine Zb _ rfl rfl rfl (op_makeFunc (fs:=[]) (cs:=[.tmp 2]) rfl rfl rfl ?_);exact k.1):p:=h ⟨k⟩
theorem Q363 (k:q) (h:Wr q→p:=by intro k;refine Q355 ?_;refine Q17 ?_;exact k.1):p:=h ⟨k⟩
theorem Q364 (k:q) (h:Wr q→p:=by intro k;refine Q342 ?_;refine Q232 ?_;exact k.1):p:=h ⟨k⟩
theorem Q365 (k:q) (h:Wr q→p:=by intro k;refine Q3 ?_;refine Q295 ?_;exact k.1):p:=h ⟨k⟩
theorem Q366 (k:q) (h:Wr q→p:=by intro k;refine Q6 ?_;refine Q275 ?_;exact k.1):p:=h ⟨k⟩
theorem Q367 (k:q) (h:Wr q→p:=by intro k;refine Q242 ?_;refine Q352 ?_;exact k.1):p:=h ⟨k⟩
theorem Q368 (k:q) (h:Wr q→p:=by intro k;refine Q325 ?_;refine Q24 ?_;exact k.1):p:=h ⟨k⟩
theorem Q369 (k:q) (h:Wr q→p:=by intro k;refine Q231 ?_;refine Q260 ?_;exact k.1):p:=h ⟨k⟩
theorem Q370 (k:q) (h:Wr q→p:=by intro k;refine Q293 ?_;refine Q20 ?_;exact k.1):p:=h ⟨k⟩
theorem Q371 (k:q) (h:Wr q→p:=by intro k;refine Q33 ?_;refine Q20 ?_;exact k.1):p:=h ⟨k⟩
theorem Q372 (k:q) (h:Wr q→p:=by intro k;refine Q4 ?_;refine Q297 ?_;exact k.1):p:=h ⟨k⟩
theorem Q373 (k:q) (h:Wr q→p:=by intro k;refine Q1 ?_;refine Q2 ?_;exact k.1):p:=h ⟨k⟩
theorem Q374 (k:q) (h:Wr q→p:=by intro k;refine Q237 ?_;refine Q64 ?_;exact k.1):p:=h ⟨k⟩
theorem Q375 (k:q) (h:Wr q→p:=by intro k;refine Q267 ?_;refine Q323 ?_;exact k.1):p:=h ⟨k⟩
theorem Q376 (k:q) (h:Wr q→p:=by intro k;refine Q251 ?_;refine Q236 ?_;exact k.1):p:=h ⟨k⟩
theorem Q377 (k:q) (h:Wr q→p:=by intro k;refine Q22 ?_;refine Q299 ?_;exact k.1):p:=h ⟨k⟩
theorem Q378 (k:q) (h:Wr q→p:=by intro k;refine Q258 ?_;refine Q243 ?_;exact k.1):p:=h ⟨k⟩
theorem Q379 (k:q) (h:Wr q→p:=by intro k;refine Q240 ?_;refine Q253 ?_;exact k.1):p:=h ⟨k⟩
theorem Q380 (k:q) (h:Wr q→p:=by intro k;refine Q30 ?_;refine Q232 ?_;exact k.1):p:=h ⟨k⟩
theorem Q381 (k:q) (h:Wr q→p:=by intro k;refine Q227 ?_;refine Q275 ?_;exact k.1):p:=h ⟨k⟩
theorem Q382 (k:q) (h:Wr q→p:=by intro k;refine Q279 ?_;refine Q260 ?_;exact k.1):p:=h ⟨k⟩
theorem Q383 (k:q) (h:Wr q→p:=by intro k;refine Q238 ?_;refine Q270 ?_;exact k.1):p:=h ⟨k⟩
theorem Q384 (k:q) (h:Wr q→p:=by intro k;refine Q240 ?_;refine Q45 ?_;exact k.1):p:=h ⟨k⟩
theorem Q385 (k:q) (h:Wr q→p:=by intro k;refine Q20 ?_;refine Q20 ?_;exact k.1):p:=h ⟨k⟩
theorem Q386 (k:q) (h:Wr q→p:=by intro k;refine Q41 ?_;refine Zq _ rfl rfl rfl rfl rfl (op_lm1 (i:=1) rfl rfl rfl rfl rfl ?_);exact k.1):p:=h ⟨k⟩
theorem Q387 (k:q) (h:Wr q→p:=by intro k;refine Q238 ?_;refine c_block ?_;exact k.1):p:=h ⟨k⟩
theorem Q388 (k:q) (h:Wr q→p:=by intro k;refine Q11 ?_;refine Q57 ?_;exact k.1):p:=h ⟨k⟩
theorem Q389 (k:q) (h:Wr q→p:=by intro k;refine Q276 ?_;refine Q338 ?_;exact k.1):p:=h ⟨k⟩
theorem Q390 (k:q) (h:Wr q→p:=by intro k;refine Q22 ?_;refine Q22 ?_;exact k.1):p:=h ⟨k⟩
theorem Q391 (k:q) (h:Wr q→p:=by intro k;refine Q288 ?_;refine Q5 ?_;exact k.1):p:=h ⟨k⟩
theorem Q392 (k:q) (h:Wr q→p:=by intro k;refine Q55 ?_;refine Zx _ rfl rfl (op_lm1 (i:=0) rfl rfl rfl rfl rfl ⟨rfl,rfl⟩) ?_;exact k.1):p:=h ⟨k⟩
theorem Q393 (k:q) (h:Wr q→p:=by intro k;refine Ya rfl rfl (Zu (cs':=[_,_]) (i:=2) rfl ts_85 rfl rfl rfl rfl rfl (Xz rfl) rfl ?_);refine Q257 ?_;exact k.1):p:=h ⟨k⟩
theorem Q394 (k:q) (h:Wr q→p:=by intro k;refine Q240 ?_;refine Q243 ?_;exact k.1):p:=h ⟨k⟩
theorem Q395 (k:q) (h:Wr q→p:=by intro k;refine Ya rfl rfl (Zu (cs':=[_,_]) (i:=1) rfl ts_85 rfl rfl rfl rfl rfl (Xz rfl) rfl ?_);refine Q257 ?_;exact k.1):p:=h ⟨k⟩
theorem Q396 (k:q) (h:Wr q→p:=by intro k;refine Q16 ?_;refine Q61 ?_;exact k.1):p:=h ⟨k⟩
theorem Q397 (k:q) (h:Wr q→p:=by intro k;refine Q44 ?_;refine Q301 ?_;exact k.1):p:=h ⟨k⟩
theorem Q398 (k:q) (h:Wr q→p:=by intro k;refine Q77 ?_;refine Q368 ?_;exact k.1):p:=h ⟨k⟩
theorem Q399 (k:q) (h:Wr q→p:=by intro k;refine Q237 ?_;refine Q54 ?_;exact k.1):p:=h ⟨k⟩
theorem Q400 (k:q) (h:Wr q→p:=by intro k;refine Q231 ?_;refine Q273 ?_;exact k.1):p:=h ⟨k⟩
theorem Q401 (k:q) (h:Wr q→p:=by intro k;refine Q5 ?_;refine Q17 ?_;exact k.1):p:=h ⟨k⟩
theorem Q402 (k:q) (h:Wr q→p:=by intro k;refine Q279 ?_;refine Q338 ?_;exact k.1):p:=h ⟨k⟩
theorem Q403 (k:q) (h:Wr q→p:=by intro k;refine Q6 ?_;refine Q253 ?_;exact k.1):p:=h ⟨k⟩
theorem Q404 (k:q) (h:Wr q→p:=by intro k;refine Q267 ?_;refine Q250 ?_;exact k.1):p:=h ⟨k⟩
theorem Q405 (k:q) (h:Wr q→p:=by intro k;refine Q8 ?_;refine Q363 ?_;exact k.1):p:=h ⟨k⟩
theorem Q406 (k:q) (h:Wr q→p:=by intro k;refine Q241 ?_;refine c_block ?_;exact k.1):p:=h ⟨k⟩
theorem Q407 (k:q) (h:Wr q→p:=by intro k;refine Q80 ?_;refine Q42 ?_;exact k.1):p:=h ⟨k⟩
theorem Q408 (k:q) (h:Wr q→p:=by intro k;refine Q237 ?_;refine Q341 ?_;exact k.1):p:=h ⟨k⟩
theorem Q409 (k:q) (h:Wr q→p:=by intro k;refine Q25 ?_;refine Q291 ?_;exact k.1):p:=h ⟨k⟩
theorem Q410 (k:q) (h:Wr q→p:=by intro k;refine Q59 ?_;refine Q235 ?_;exact k.1):p:=h ⟨k⟩
theorem Q411 (k:q) (h:Wr q→p:=by intro k;refine Q267 ?_;refine go_lp ?_;exact k.1):p:=h ⟨k⟩
theorem Q412 (k:q) (h:Wr q→p:=by intro k;refine Q24 ?_;refine Q24 ?_;exact k.1):p:=h ⟨k⟩
theorem Q413 (k:q) (h:Wr q→p:=by intro k;refine Q251 ?_;refine Q307 ?_;exact k.1):p:=h ⟨k⟩
theorem Q414 (k:q) (h:Wr q→p:=by intro k;refine Q244 ?_;refine Q12 ?_;exact k.1):p:=h ⟨k⟩
theorem Q415 (k:q) (h:Wr q→p:=by intro k;refine Q237 ?_;refine Q39 ?_;exact k.1):p:=h ⟨k⟩
theorem Q416 (k:q) (h:Wr q→p:=by intro k;refine Q6 ?_;refine Q341 ?_;exact k.1):p:=h ⟨k⟩
theorem Q417 (k:q) (h:Wr q→p:=by intro k;refine Q366 ?_;refine Q26 ?_;exact k.1):p:=h ⟨k⟩
theorem Q418 (k:q) (h:Wr q→p:=by intro k;refine Q239 ?_;refine Q295 ?_;exact k.1):p:=h ⟨k⟩
theorem Q419 (k:q) (h:Wr q→p:=by intro k;refine Q5 ?_;refine Q26 ?_;exact k.1):p:=h ⟨k⟩
theorem Q420 (k:q) (h:Wr q→p:=by intro k;refine Zm _ (none) rfl rfl rfl rfl rfl (op_extract rfl rfl rfl ⟨rfl,rfl⟩) ?_;refine Zm _ (none) rfl rfl rfl rfl rfl (op_extract rfl rfl rfl ⟨rfl,rfl⟩) ?_;exact k.1):p:=h ⟨k⟩
theorem Q421 (k:q) (h:Wr q→p:=by intro k;refine Q309 ?_;refine Q57 ?_;exact k.1):p:=h ⟨k⟩
theorem Q422 (k:q) (h:Wr q→p:=by intro k;refine Q279 ?_;refine Q236 ?_;exact k.1):p:=h ⟨k⟩
theorem Q423 (k:q) (h:Wr q→p:=by intro k;refine Q330 ?_;refine Q2 ?_;exact k.1):p:=h ⟨k⟩
theorem Q424 (k:q) (h:Wr q→p:=by intro k;refine Q62 ?_;refine Q19 ?_;exact k.1):p:=h ⟨k⟩
theorem Q425 (k:q) (h:Wr q→p:=by intro k;refine Q55 ?_;refine Zx _ rfl rfl (op_lm1 (i:=1) rfl rfl rfl rfl rfl ⟨rfl,rfl⟩) ?_;exact k.1):p:=h ⟨k⟩
theorem Q426 (k:q) (h:Wr q→p:=by intro k;refine Q241 ?_;refine Q2 ?_;exact k.1):p:=h ⟨k⟩
theorem Q427 (k:q) (h:Wr q→p:=by intro k;refine DOps.gu _ rfl rfl rfl rfl ?_;refine DOps.gu _ rfl rfl rfl rfl ?_;exact k.1):p:=h ⟨k⟩
theorem Q428 (k:q) (h:Wr q→p:=by intro k;refine Q308 ?_;refine Q23 ?_;exact k.1):p:=h ⟨k⟩
theorem Q429 (k:q) (h:Wr q→p:=by intro k;refine Q25 ?_;refine Q94 ?_;exact k.1):p:=h ⟨k⟩
theorem Q430 (k:q) (h:Wr q→p:=by intro k;refine Q24 ?_;refine Q420 ?_;exact k.1):p:=h ⟨k⟩
theorem Q431 (k:q) (h:Wr q→p:=by intro k;refine Q13 ?_;refine Q42 ?_;exact k.1):p:=h ⟨k⟩
theorem Q432 (k:q) (h:Wr q→p:=by intro k;refine Q226 ?_;refine Q4 ?_;exact k.1):p:=h ⟨k⟩
theorem Q433 (k:q) (h:Wr q→p:=by intro k;refine Q27 ?_;refine Zm _ (some 1) rfl rfl rfl rfl rfl (op_lm1 (i:=0) rfl rfl rfl rfl rfl ⟨rfl,rfl⟩) ?_;exact k.1):p:=h ⟨k⟩
theorem Q434 (k:q) (h:Wr q→p:=by intro k;refine Q18 ?_;refine Q309 ?_;exact k.1):p:=h ⟨k⟩
theorem Q435 (k:q) (h:Wr q→p:=by intro k;refine Q37 ?_;refine Q272 ?_;exact k.1):p:=h ⟨k⟩
theorem Q436 (k:q) (h:Wr q→p:=by intro k;refine Q240 ?_;refine Q11 ?_;exact k.1):p:=h ⟨k⟩
theorem Q437 (k:q) (h:Wr q→p:=by intro k;refine Q272 ?_;refine Q11 ?_;exact k.1):p:=h ⟨k⟩
theorem Q438 (k:q) (h:Wr q→p:=by intro k;refine Q237 ?_;refine Q271 ?_;exact k.1):p:=h ⟨k⟩
theorem Q439 (k:q) (h:Wr q→p:=by intro k;refine Q316 ?_;refine Q70 ?_;exact k.1):p:=h ⟨k⟩
theorem Q440 (k:q) (h:Wr q→p:=by intro k;refine Q248 ?_;refine Q268 ?_;exact k.1):p:=h ⟨k⟩
theorem Q441 (k:q) (h:Wr q→p:=by intro k;refine Q82 ?_;refine Q257 ?_;exact k.1):p:=h ⟨k⟩
theorem Q442 (k:q) (h:Wr q→p:=by intro k;refine Q251 ?_;refine Q260 ?_;exact k.1):p:=h ⟨k⟩
theorem Q443 (k:q) (h:Wr q→p:=by intro k;refine Q333 ?_;refine Q50 ?_;exact k.1):p:=h ⟨k⟩
theorem Q444 (k:q) (h:Wr q→p:=by intro k;refine Q83 ?_;refine Yg _ rfl rfl rfl rfl (op_lm1 (i:=0) rfl rfl rfl rfl rfl ⟨rfl,rfl⟩) ?_;exact k.1):p:=h ⟨k⟩
theorem Q445 (k:q) (h:Wr q→p:=by intro k;refine Q52 ?_;refine Q52 ?_;exact k.1):p:=h ⟨k⟩
theorem Q446 (k:q) (h:Wr q→p:=by intro k;refine Q75 ?_;refine Q232 ?_;exact k.1):p:=h ⟨k⟩
theorem Q447 (k:q) (h:Wr q→p:=by intro k;refine Zm _ (none) rfl rfl rfl rfl rfl (Yb (cs':=[_,_,_,_,_,_]) rfl ta_92 rfl rfl rfl ⟨rfl,rfl⟩) ?_;refine Q354 ?_;exact k.1):p:=h ⟨k⟩
theorem Q448 (k:q) (h:Wr q→p:=by intro k;refine Q1 ?_;refine Q227 ?_;exact k.1):p:=h ⟨k⟩
theorem Q449 (k:q) (h:Wr q→p:=by intro k;refine Q384 ?_;refine Q380 ?_;exact k.1):p:=h ⟨k⟩
theorem Q450 (k:q) (h:Wr q→p:=by intro k;refine Q239 ?_;refine Q323 ?_;exact k.1):p:=h ⟨k⟩
theorem Q451 (k:q) (h:Wr q→p:=by intro k;refine Q226 ?_;refine Q234 ?_;exact k.1):p:=h ⟨k⟩
theorem Q452 (k:q) (h:Wr q→p:=by intro k;refine Q390 ?_;refine Q273 ?_;exact k.1):p:=h ⟨k⟩
theorem Q453 (k:q) (h:Wr q→p:=by intro k;refine Q435 ?_;refine Q34 ?_;exact k.1):p:=h ⟨k⟩
theorem Q454 (k:q) (h:Wr q→p:=by intro k;refine Q44 ?_;refine Q378 ?_;exact k.1):p:=h ⟨k⟩
theorem Q455 (k:q) (h:Wr q→p:=by intro k;refine Q432 ?_;refine Q437 ?_;exact k.1):p:=h ⟨k⟩
theorem Q456 (k:q) (h:Wr q→p:=by intro k;refine Q10 ?_;refine Q226 ?_;exact k.1):p:=h ⟨k⟩
theorem Q457 (k:q) (h:Wr q→p:=by intro k;refine Q294 ?_;refine Q260 ?_;exact k.1):p:=h ⟨k⟩
theorem Q458 (k:q) (h:Wr q→p:=by intro k;refine Q237 ?_;refine Q69 ?_;exact k.1):p:=h ⟨k⟩
theorem Q459 (k:q) (h:Wr q→p:=by intro k;refine Q234 ?_;refine Q238 ?_;exact k.1):p:=h ⟨k⟩
theorem Q460 (k:q) (h:Wr q→p:=by intro k;refine Q276 ?_;refine Q276 ?_;exact k.1):p:=h ⟨k⟩
theorem Q461 (k:q) (h:Wr q→p:=by intro k;refine Q234 ?_;refine Q297 ?_;exact k.1):p:=h ⟨k⟩
theorem Q462 (k:q) (h:Wr q→p:=by intro k;refine Q275 ?_;refine Q19 ?_;exact k.1):p:=h ⟨k⟩
theorem Q463 (k:q) (h:Wr q→p:=by intro k;refine Q51 ?_;refine Q92 ?_;exact k.1):p:=h ⟨k⟩
theorem Q464 (k:q) (h:Wr q→p:=by intro k;refine Q1 ?_;refine Q229 ?_;exact k.1):p:=h ⟨k⟩
theorem Q465 (k:q) (h:Wr q→p:=by intro k;refine Q4 ?_;refine Q243 ?_;exact k.1):p:=h ⟨k⟩
theorem Q466 (k:q) (h:Wr q→p:=by intro k;refine Q392 ?_;refine Q20 ?_;exact k.1):p:=h ⟨k⟩
theorem Q467 (k:q) (h:Wr q→p:=by intro k;refine Zq _ rfl rfl rfl rfl rfl (Yb (cs':=[_,_,_]) rfl ta_41 rfl rfl rfl ?_);refine Q409 ?_;exact k.1):p:=h ⟨k⟩
theorem Q468 (k:q) (h:Wr q→p:=by intro k;refine Q354 ?_;refine Q24 ?_;exact k.1):p:=h ⟨k⟩
theorem Q469 (k:q) (h:Wr q→p:=by intro k;refine Q1 ?_;refine Q261 ?_;exact k.1):p:=h ⟨k⟩
theorem Q470 (k:q) (h:Wr q→p:=by intro k;refine Q6 ?_;refine Q238 ?_;exact k.1):p:=h ⟨k⟩
theorem Q471 (k:q) (h:Wr q→p:=by intro k;refine Q62 ?_;refine Q74 ?_;exact k.1):p:=h ⟨k⟩
theorem Q472 (k:q) (h:Wr q→p:=by intro k;refine Q271 ?_;refine Zb _ rfl rfl rfl (Zp (ns:=[3]) (xs:=[.tmp 20]) rfl tz_109 rfl tfl_109 rfl rfl rfl rfl ?_);exact k.1):p:=h ⟨k⟩
theorem Q473 (k:q) (h:Wr q→p:=by intro k;refine Q472 ?_;refine Q39 ?_;exact k.1):p:=h ⟨k⟩
theorem Q474 (k:q) (h:Wr q→p:=by intro k;refine Q397 ?_;refine Q17 ?_;exact k.1):p:=h ⟨k⟩
theorem Q475 (k:q) (h:Wr q→p:=by intro k;refine Q428 ?_;refine Q6 ?_;exact k.1):p:=h ⟨k⟩
theorem Q476 (k:q) (h:Wr q→p:=by intro k;refine Q240 ?_;refine Q28 ?_;exact k.1):p:=h ⟨k⟩
theorem Q477 (k:q) (h:Wr q→p:=by intro k;refine Q264 ?_;refine Q235 ?_;exact k.1):p:=h ⟨k⟩
theorem Q478 (k:q) (h:Wr q→p:=by intro k;refine Q308 ?_;refine Q21 ?_;exact k.1):p:=h ⟨k⟩
theorem Q479 (k:q) (h:Wr q→p:=by intro k;refine Q53 ?_;refine Q257 ?_;exact k.1):p:=h ⟨k⟩
theorem Q480 (k:q) (h:Wr q→p:=by intro k;refine Q235 ?_;refine Q68 ?_;exact k.1):p:=h ⟨k⟩
theorem Q481 (k:q) (h:Wr q→p:=by intro k;refine Q24 ?_;refine Q76 ?_;exact k.1):p:=h ⟨k⟩
theorem Q482 (k:q) (h:Wr q→p:=by intro k;refine Q97 ?_;refine Q58 ?_;exact k.1):p:=h ⟨k⟩
theorem Q483 (k:q) (h:Wr q→p:=by intro k;refine Q85 ?_;refine Q72 ?_;exact k.1):p:=h ⟨k⟩
theorem Q484 (k:q) (h:Wr q→p:=by intro k;refine Q242 ?_;refine Yp [0,1,2,3,4,5,6,7,8,9,10,11] [9,10] [[],[],[1],[1,2],[1,2,3],[0,1,2,3,4],[0,1,2,3,4,5],[0,1,2,3,4,5,6],[0,1,2,3,4,5,6],[],[0,1,2,3,4,5,6,7,9],[0,1,2,3,4,5,6,7,8,9,10]] Xl rfl ?_;exact k.1):p:=h ⟨k⟩
theorem Q485 (k:q) (h:Wr q→p:=by intro k;refine Q484 ?_;refine Q447 ?_;exact k.1):p:=h ⟨k⟩
theorem Q486 (k:q) (h:Wr q→p:=by intro k;refine Q244 ?_;refine Q33 ?_;exact k.1):p:=h ⟨k⟩
theorem Q487 (k:q) (h:Wr q→p:=by intro k;refine Q301 ?_;refine Q453 ?_;exact k.1):p:=h ⟨k⟩
theorem Q488 (k:q) (h:Wr q→p:=by intro k;refine Ya rfl rfl (Zu (cs':=[_,_,_,_,_,_,_,_,_,_,_]) (i:=2) rfl ts_128 rfl rfl rfl rfl rfl (Xz rfl) rfl ?_);refine Q257 ?_;exact k.1):p:=h ⟨k⟩
theorem Q489 (k:q) (h:Wr q→p:=by intro k;refine Q294 ?_;refine Q273 ?_;exact k.1):p:=h ⟨k⟩
theorem Q490 (k:q) (h:Wr q→p:=by intro k;refine Q336 ?_;refine Q78 ?_;exact k.1):p:=h ⟨k⟩
theorem Q491 (k:q) (h:Wr q→p:=by intro k;refine Q5 ?_;refine Q407 ?_;exact k.1):p:=h ⟨k⟩
theorem Q492 (k:q) (h:Wr q→p:=by intro k;refine Q30 ?_;refine Q257 ?_;exact k.1):p:=h ⟨k⟩
theorem Q493 (k:q) (h:Wr q→p:=by intro k;refine Q5 ?_;refine Q18 ?_;exact k.1):p:=h ⟨k⟩
theorem Q494 (k:q) (h:Wr q→p:=by intro k;refine Q228 ?_;refine Q4 ?_;exact k.1):p:=h ⟨k⟩
theorem Q495 (k:q) (h:Wr q→p:=by intro k;refine Q237 ?_;refine Q238 ?_;exact k.1):p:=h ⟨k⟩
theorem Q496 (k:q) (h:Wr q→p:=by intro k;refine Q16 ?_;refine Zq _ rfl rfl rfl rfl rfl (op_leq rfl rfl rfl ?_);exact k.1):p:=h ⟨k⟩
theorem Q497 (k:q) (h:Wr q→p:=by intro k;refine Q316 ?_;refine Q424 ?_;exact k.1):p:=h ⟨k⟩
theorem Q498 (k:q) (h:Wr q→p:=by intro k;refine Q251 ?_;refine Q377 ?_;exact k.1):p:=h ⟨k⟩
theorem Q499 (k:q) (h:Wr q→p:=by intro k;refine Q227 ?_;refine Zb _ rfl rfl rfl (op_boxc (cs':=[_,_,_]) rfl rfl rfl rfl ?_);exact k.1):p:=h ⟨k⟩
theorem Q500 (k:q) (h:Wr q→p:=by intro k;refine Q339 ?_;refine Zb _ rfl rfl rfl (Yu rfl tu_38 rfl (.seq _ _) ?_);exact k.1):p:=h ⟨k⟩
theorem Q501 (k:q) (h:Wr q→p:=by intro k;refine Q251 ?_;refine Q331 ?_;exact k.1):p:=h ⟨k⟩
theorem Q502 (k:q) (h:Wr q→p:=by intro k;refine Q240 ?_;refine Q228 ?_;exact k.1):p:=h ⟨k⟩
theorem Q503 (k:q) (h:Wr q→p:=by intro k;refine Q261 ?_;refine Q243 ?_;exact k.1):p:=h ⟨k⟩
theorem Q504 (k:q) (h:Wr q→p:=by intro k;refine Q288 ?_;refine Q243 ?_;exact k.1):p:=h ⟨k⟩
theorem Q505 (k:q) (h:Wr q→p:=by intro k;refine Q316 ?_;refine Q19 ?_;exact k.1):p:=h ⟨k⟩
theorem Q506 (k:q) (h:Wr q→p:=by intro k;refine Q11 ?_;refine Q49 ?_;exact k.1):p:=h ⟨k⟩
theorem Q507 (k:q) (h:Wr q→p:=by intro k;refine Q371 ?_;refine Q348 ?_;exact k.1):p:=h ⟨k⟩
theorem Q508 (k:q) (h:Wr q→p:=by intro k;refine Q5 ?_;refine Q19 ?_;exact k.1):p:=h ⟨k⟩
theorem Q509 (k:q) (h:Wr q→p:=by intro k;refine Q16 ?_;refine Q71 ?_;exact k.1):p:=h ⟨k⟩
theorem Q510 (k:q) (h:Wr q→p:=by intro k;refine Q402 ?_;refine Q236 ?_;exact k.1):p:=h ⟨k⟩
theorem Q511 (k:q) (h:Wr q→p:=by intro k;refine Q475 ?_;refine Q417 ?_;exact k.1):p:=h ⟨k⟩
theorem Q512 (k:q) (h:Wr q→p:=by intro k;refine Q476 ?_;refine Q274 ?_;exact k.1):p:=h ⟨k⟩
theorem Q513 (k:q) (h:Wr q→p:=by intro k;refine Q8 ?_;refine Q229 ?_;exact k.1):p:=h ⟨k⟩
theorem Q514 (k:q) (h:Wr q→p:=by intro k;refine Q240 ?_;refine Q81 ?_;exact k.1):p:=h ⟨k⟩
theorem Q515 (k:q) (h:Wr q→p:=by intro k;refine Q25 ?_;refine Q467 ?_;exact k.1):p:=h ⟨k⟩
theorem Q516 (k:q) (h:Wr q→p:=by intro k;refine Q515 ?_;refine Q429 ?_;exact k.1):p:=h ⟨k⟩
theorem Q517 (k:q) (h:Wr q→p:=by intro k;refine Q237 ?_;refine Q43 ?_;exact k.1):p:=h ⟨k⟩
theorem Q518 (k:q) (h:Wr q→p:=by intro k;refine Q13 ?_;refine Q410 ?_;exact k.1):p:=h ⟨k⟩
theorem Q519 (k:q) (h:Wr q→p:=by intro k;refine Q33 ?_;refine Q52 ?_;exact k.1):p:=h ⟨k⟩
theorem Q520 (k:q) (h:Wr q→p:=by intro k;refine Q309 ?_;refine Q89 ?_;exact k.1):p:=h ⟨k⟩
theorem Q521 (k:q) (h:Wr q→p:=by intro k;refine Ya rfl rfl (Zu (i:=3) rfl ts_3 rfl rfl rfl rfl rfl (Xz rfl) rfl ?_);refine Q258 ?_;exact k.1):p:=h ⟨k⟩
theorem Q522 (k:q) (h:Wr q→p:=by intro k;refine Q226 ?_;refine Q9 ?_;exact k.1):p:=h ⟨k⟩
theorem Q523 (k:q) (h:Wr q→p:=by intro k;refine Q90 ?_;refine Q488 ?_;exact k.1):p:=h ⟨k⟩
theorem Q524 (k:q) (h:Wr q→p:=by intro k;refine Q226 ?_;refine Q329 ?_;exact k.1):p:=h ⟨k⟩
theorem Q525 (k:q) (h:Wr q→p:=by intro k;refine Q243 ?_;refine Q17 ?_;exact k.1):p:=h ⟨k⟩
theorem Q526 (k:q) (h:Wr q→p:=by intro k;refine Q291 ?_;refine Q291 ?_;exact k.1):p:=h ⟨k⟩
theorem Q527 (k:q) (h:Wr q→p:=by intro k;refine Q237 ?_;refine Q275 ?_;exact k.1):p:=h ⟨k⟩
theorem Q528 (k:q) (h:Wr q→p:=by intro k;refine AOps.gu _ rfl rfl rfl rfl rfl ?_;refine Q7 ?_;exact k.1):p:=h ⟨k⟩
theorem Q529 (k:q) (h:Wr q→p:=by intro k;refine Q234 ?_;refine Q243 ?_;exact k.1):p:=h ⟨k⟩
theorem Q530 (k:q) (h:Wr q→p:=by intro k;refine Q389 ?_;refine Q299 ?_;exact k.1):p:=h ⟨k⟩
theorem Q531 (k:q) (h:Wr q→p:=by intro k;refine Q263 ?_;refine Q295 ?_;exact k.1):p:=h ⟨k⟩
theorem Q532 (k:q) (h:Wr q→p:=by intro k;refine Q297 ?_;refine Q60 ?_;exact k.1):p:=h ⟨k⟩
theorem Q533 (k:q) (h:Wr q→p:=by intro k;refine Q291 ?_;refine Q16 ?_;exact k.1):p:=h ⟨k⟩
theorem Q534 (k:q) (h:Wr q→p:=by intro k;refine Q240 ?_;refine Q297 ?_;exact k.1):p:=h ⟨k⟩
theorem Q535 (k:q) (h:Wr q→p:=by intro k;refine Q235 ?_;refine Q47 ?_;exact k.1):p:=h ⟨k⟩
theorem Q536 (k:q) (h:Wr q→p:=by intro k;refine Q264 ?_;refine Q59 ?_;exact k.1):p:=h ⟨k⟩
theorem Q537 (k:q) (h:Wr q→p:=by intro k;refine Q237 ?_;refine Q264 ?_;exact k.1):p:=h ⟨k⟩
theorem Q538 (k:q) (h:Wr q→p:=by intro k;refine Q296 ?_;refine Zb _ rfl rfl rfl (Zp (ns:=[]) (xs:=[]) rfl tz_85 rfl tfl_85 rfl rfl rfl rfl ?_);exact k.1):p:=h ⟨k⟩
theorem Q539 (k:q) (h:Wr q→p:=by intro k;refine Q265 ?_;refine Q2 ?_;exact k.1):p:=h ⟨k⟩
theorem Q540 (k:q) (h:Wr q→p:=by intro k;refine Q109 ?_;refine Q106 ?_;exact k.1):p:=h ⟨k⟩
theorem Q541 (k:q) (h:Wr q→p:=by intro k;refine Q32 ?_;refine Q293 ?_;exact k.1):p:=h ⟨k⟩
theorem Q542 (k:q) (h:Wr q→p:=by intro k;refine Q414 ?_;refine Q33 ?_;exact k.1):p:=h ⟨k⟩
theorem Q543 (k:q) (h:Wr q→p:=by intro k;refine Zx _ rfl rfl (op_extract rfl rfl rfl ⟨rfl,rfl⟩) ?_;refine Zx _ rfl rfl (op_extract rfl rfl rfl ⟨rfl,rfl⟩) ?_;exact k.1):p:=h ⟨k⟩
theorem Q544 (k:q) (h:Wr q→p:=by intro k;refine Q543 ?_;refine Q445 ?_;exact k.1):p:=h ⟨k⟩
theorem Q545 (k:q) (h:Wr q→p:=by intro k;refine Q264 ?_;refine Q264 ?_;exact k.1):p:=h ⟨k⟩
theorem Q546 (k:q) (h:Wr q→p:=by intro k;refine Q16 ?_;refine Zq _ rfl rfl rfl rfl rfl (op_len_str rfl Xf rfl ?_);exact k.1):p:=h ⟨k⟩
theorem Q547 (k:q) (h:Wr q→p:=by intro k;refine Q16 ?_;refine Q102 ?_;exact k.1):p:=h ⟨k⟩
theorem Q548 (k:q) (h:Wr q→p:=by intro k;refine Q314 ?_;refine Zb _ rfl rfl rfl (Zh (xs:=[.tmp 48]) el_253 rfl rfl rfl rfl rfl rfl (Xz rfl) ?_);exact k.1):p:=h ⟨k⟩
theorem Q549 (k:q) (h:Wr q→p:=by intro k;refine Q279 ?_;refine Q273 ?_;exact k.1):p:=h ⟨k⟩
theorem Q550 (k:q) (h:Wr q→p:=by intro k;refine Q289 ?_;refine Q282 ?_;exact k.1):p:=h ⟨k⟩
theorem Q551 (k:q) (h:Wr q→p:=by intro k;refine Q11 ?_;refine Ya rfl rfl (Zu (cs':=[_,_,_,_]) (i:=0) rfl ts_9 rfl rfl rfl rfl rfl (Xz rfl) rfl ?_);exact k.1):p:=h ⟨k⟩
theorem Q552 (k:q) (h:Wr q→p:=by intro k;refine Q481 ?_;refine Q76 ?_;exact k.1):p:=h ⟨k⟩
theorem Q553 (k:q) (h:Wr q→p:=by intro k;refine Q240 ?_;refine Q483 ?_;exact k.1):p:=h ⟨k⟩
theorem Q554 (k:q) (h:Wr q→p:=by intro k;refine Q298 ?_;refine Q357 ?_;exact k.1):p:=h ⟨k⟩
theorem Q555 (k:q) (h:Wr q→p:=by intro k;refine Q1 ?_;refine Q292 ?_;exact k.1):p:=h ⟨k⟩
theorem Q556 (k:q) (h:Wr q→p:=by intro k;refine Q101 ?_;refine Q98 ?_;exact k.1):p:=h ⟨k⟩
theorem Q557 (k:q) (h:Wr q→p:=by intro k;refine Q44 ?_;refine Q287 ?_;exact k.1):p:=h ⟨k⟩
theorem Q558 (k:q) (h:Wr q→p:=by intro k;refine Q65 ?_;refine Q309 ?_;exact k.1):p:=h ⟨k⟩
theorem Q559 (k:q) (h:Wr q→p:=by intro k;refine Q237 ?_;refine Q86 ?_;exact k.1):p:=h ⟨k⟩
theorem Q560 (k:q) (h:Wr q→p:=by intro k;refine Q280 ?_;refine Q74 ?_;exact k.1):p:=h ⟨k⟩
theorem Q561 (k:q) (h:Wr q→p:=by intro k;refine Ya rfl rfl (Zu (cs':=[_,_,_,_,_,_,_,_,_,_,_]) (i:=3) rfl ts_128 rfl rfl rfl rfl rfl (Xz rfl) rfl ?_);refine Q257 ?_;exact k.1):p:=h ⟨k⟩
theorem Q562 (k:q) (h:Wr q→p:=by intro k;refine Q436 ?_;refine Ya rfl rfl (Zu (cs':=[_,_,_,_,_,_,_,_,_,_,_]) (i:=0) rfl ts_3 rfl rfl rfl rfl rfl (Xz rfl) rfl ?_);exact k.1):p:=h ⟨k⟩
theorem Q563 (k:q) (h:Wr q→p:=by intro k;refine Q1 ?_;refine Q234 ?_;exact k.1):p:=h ⟨k⟩
end
section
variable {P:Program}
end
theorem cellsOf_ty:Tryz.prog.cellsOf 24=4:=by kernel_rfl
theorem cellsOf_str:Tryz.prog.cellsOf 9=1:=by kernel_rfl
end Go.Proofs.YteepjjgooplljaaGreat
namespace Go.Proofs.YteepjjgooplljaaGreat
open Go.ChangeShapes Go.WideShapes Go.ChangeAt Go.RowKit
section
variable {H:Type} {enc:TypeId × Value→H} {P:Program}
theorem trodAll_below (hl:laidOutB P=true) {W W':World} (hb:Below W.heap.size W W') :
    ∀ {ts:List TypeId} {vs:List Value} {ds:List (DataW H)} {ps:List MemPlace},
     (∀ t∈ts,P.readableRec t=true∧t<P.types.size)→DataW.TrodAll enc P W 0 (fun _=>true) true ts vs ds ps →
     (∀ x∈ps,x.block<W.heap.size)→DataW.TrodAll enc P W' 0 (fun b=>decide (b<W.heap.size)) true ts vs ds ps
 | [],_,_,_,_,h,_=>by
  obtain ⟨rfl,rfl,rfl⟩:=trodAll_nil h
  exact trodAll_mk0
 | t::ts,_,_,_,hr,h,hlt=>by
  obtain ⟨v,vs,d,ds,p,q,rfl,rfl,rfl,h0,h1⟩:=trodAll_cons h
  exact trodAll_cons_mk (Below.trod hl (hr t (by simp)).1 (hr t (by simp)).2 h0 hb (fun x hx=>hlt x (by simp [hx])))
   (trodAll_below hl hb (fun t ht=>hr t (by simp [ht])) h1 (fun x hx=>hlt x (by simp [hx])))
theorem law_post {f:Func} {s:ChangeSpec} {W W':World} {args:Array Value} {ds gs:List (DataW H)} {before:List MemPlace} {tb:TypeId}
    (hl:laidOutB P=true) (hr:(f.params.toList.all fun t=>P.readableRec t && decide (t<P.types.size))=true)
    (hres:f.resultTypes=#[tb]) (htb:P.underlying tb=some .bool) (hvars:s.vars=[])
    (hs1:(s.fn H (ds++gs)).results=[.lit (.bool true)]) (hs2:(s.fn H (ds++gs)).args=ds) (hs3:(s.fn H (ds++gs)).vars=[])
    (hW:DataW.Whole enc P f.params.toList s.vars false W args.toList ds gs before) (hb:Below W.heap.size W W') :
    s.post enc P f false true false false W args (.bool true) W':=by
 have hW':=hW
 obtain ⟨p,q,hA,hV,rfl,hfz,hnd⟩:=hW
 have hr':∀ t∈f.params.toList,P.readableRec t=true∧t<P.types.size:=by
  intro t ht
  have:=List.all_eq_true.1 hr t ht
  simpa using this
 refine ⟨ds,gs,p++q,[],p,[],hW',?_,?_,?_,hb.frame _,fun h=>by cases h⟩
 ·rw [hs1,hres]
  exact trodAll_mk1 (shut_bool htb true)
 ·rw [hs2]
  exact trodAll_below hl hb hr' hA (fun x hx=>by simpa using hW'.lt x (by simp [hx]))
 rw [hs3,hvars]
 rfl
end
open Go.RowKit
abbrev uptoBulk {H:Type}:DataW H→Nat:=Rows.uptoBulk
abbrev uptoBulkAll {H:Type}:List (DataW H)→Nat:=Rows.uptoBulkAll
mutual
def ShapeL (P:Program) (L:Nat):Nat→TypeId→List AV→Prop
 | 0,_,_=>False
 | n+1,t,cs=>match P.underlying t with
  | some .bool=>∃ b,cs=[.val (.bool b)]
  | some (.int k)=>∃ x,(k.min≤x∧x≤k.max)∧cs=[.val (.int k x)]
  | some .string=>∃ s:ByteArray,s.size≤L∧cs=[.val (.string s)]
  | some (.slice e)=>∃ es,cs=[.seq (P.cellsOf e) es]∧es.length≤L∧∀ x∈es,ShapeL P L n e x
  | some (.struct fs)=>ShapeLF P L n fs.toList cs
  | _=>False
def ShapeLF (P:Program) (L:Nat):Nat→List Field→List AV→Prop
 | _,[],cs=>cs=[]
 | n,f::fs,cs=>∃ a b,cs=a++b∧ShapeL P L n f.type a∧ShapeLF P L n fs b
end
mutual
def AV.bulk:AV→Nat
 | .val (.string s)=>s.size+1
 | .seq _ es=>bulkss es+1
 | _=>1
def bulks:List AV→Nat
 | []=>0
 | a::l=>a.bulk+bulks l
def bulkss:List (List AV)→Nat
 | []=>0
 | e::es=>bulks e+bulkss es
end
theorem bulks_app:∀ a b:List AV,bulks (a++b)=bulks a+bulks b
 | [],b=>by simp [bulks]
 | x::a,b=>by simp only [List.cons_append,bulks,bulks_app a b];omega
theorem bulkss_app:∀ a b:List (List AV),bulkss (a++b)=bulkss a+bulkss b
 | [],b=>by simp [bulkss]
 | x::a,b=>by simp only [List.cons_append,bulkss,bulkss_app a b];omega
theorem uptoBulkAll_app {H:Type}:∀ a b:List (DataW H),uptoBulkAll (a++b)=uptoBulkAll a+uptoBulkAll b
 | [],b=>by simp [uptoBulkAll,Rows.uptoBulkAll]
 | x::a,b=>by have:=uptoBulkAll_app a b;simp only [uptoBulkAll] at this;simp only [List.cons_append,uptoBulkAll,Rows.uptoBulkAll,this];omega
def closedL (P:Program) (S:List TypeId):Bool:=closedT P S && S.all fun t=>match P.underlying t with
 | some (.slice e)=>Nat.blt 0 (P.bytesOf e)
 | _=>true
section
variable {H:Type} {enc:TypeId × Value→H} {P:Program} {w:World} {sp:Nat→Bool} {held:Bool} {L:Nat}
theorem rows_of2 {fuel:Nat} {e:TypeId} {a:Addr} {m:Nat} {F:EH} (ds:List (DataW H)):∀ n:Nat,n≤ds.length→(∀ i d,i<n→ds[i]?=some d→∃ (ws:List Value) (es:List AV),w.cells? 0 (a.add (i * m)) m=some ws∧ShapeL P L fuel e es∧Rels F es ws∧Ones ws∧bulks es≤uptoBulk d) →
    ∃ (ess:List (List AV)) (vs:List Value),ess.length=n∧(∀ x∈ess,ShapeL P L fuel e x∧x.length=m)∧Rels F ess.flatten vs∧Ones vs∧vs.length=n * m∧(∀ j x,vs[j]?=some x→w.cell? (a.add j)=some x)∧bulkss ess≤uptoBulkAll (ds.take n)
 | 0,_,_=>⟨[],[],rfl,by simp,.nil,by intro v hv;simp at hv,by simp,by simp,by simp [bulkss]⟩
 | n+1,hn,h=>by
  obtain ⟨ess,vs,h1,h2,h3,h4,h5,h6,h7⟩:=rows_of2 ds n (by omega) (fun i d hi hd=>h i d (by omega) hd)
  have hlt:n<ds.length:=by omega
  obtain ⟨ws,es,k1,k2,k3,k4,k5⟩:=h n ds[n] (by omega) (List.getElem?_eq_getElem hlt)
  obtain ⟨q1,q2⟩:=cells_get k1
  refine ⟨ess++[es],vs++ws,by simp [h1],fun x hx=>?_,by simpa using h3.app k3,fun v hv=>?_,by simp only [List.length_append,h5,q1,Nat.add_mul];omega,fun j x hx=>?_,?_⟩
  ·rcases List.mem_append.1 hx with r|r
   ·exact h2 x r
   simp at r;subst r;exact ⟨k2,by rw [k3.len,q1]⟩
  ·rcases List.mem_append.1 hv with r|r
   ·exact h4 v r
   exact k4 v r
  ·rcases Nat.lt_or_ge j vs.length with r|r
   ·rw [List.getElem?_append_left r] at hx;exact h6 j x hx
   rw [List.getElem?_append_right r] at hx
   have:=q2 _ x hx
   have e1:(a.add (n * m)).add (j - vs.length)=a.add j:=by
    rw [h5] at r ⊢
    unfold Addr.add
    by_cases z1:n * m=0
    ·rw [if_pos z1]
     simp only [z1,Nat.sub_zero]
    rw [if_neg z1]
    have hj0:j≠0:=by omega
    rw [if_neg hj0]
    by_cases z2:j - n * m=0
    ·rw [if_pos z2]
     simp only [Addr.mk.injEq,true_and,and_true]
     omega
    rw [if_neg z2]
    simp only [Addr.mk.injEq,true_and,and_true]
    omega
   rwa [e1] at this
  rw [bulkss_app,List.take_add_one,List.getElem?_eq_getElem hlt,uptoBulkAll_app]
  simp only [bulkss,Option.toList,uptoBulkAll,Rows.uptoBulkAll]
  simp only [uptoBulk,uptoBulkAll] at *
  omega
theorem weights_all {e:TypeId}:∀ {ds:List (DataW H)} {i:Nat} {d:DataW H},ds[i]?=some d→∀ n∈d.weights P e,n∈DataW.weightsAll P e ds
 | [],i,d,h,_,_=>by simp at h
 | x::ds,0,d,h,n,hn=>by
  simp at h;subst h
  simp only [DataW.weightsAll,List.mem_append];exact .inl hn
 | x::ds,i+1,d,h,n,hn=>by
  simp only [DataW.weightsAll,List.mem_append];exact .inr (weights_all (by simpa using h) n hn)
theorem open_shape2 {S:List TypeId} (hS:closedL P S=true) (hL:L≤maxLen):∀ (fuel:Nat) (t:TypeId) (vs:List Value) (x:DataW H × List MemPlace),t∈S→DataW.trod enc P w 0 sp held fuel t vs=some x→(∀ n∈x.1.weights P t,n≤L) →
    ∃ cs,ShapeL P L fuel t cs∧Rels (cellF w) cs vs∧Ones vs∧bulks cs≤uptoBulk x.1:=by
 have hS1:closedT P S=true:=by unfold closedL at hS;exact (Bool.and_eq_true_iff.1 hS).1
 have hS2:=by unfold closedL at hS;exact (Bool.and_eq_true_iff.1 hS).2
 intro fuel
 induction fuel with
 | zero=>intro t vs x _ h;simp [DataW.trod] at h
 | succ n ih =>
  intro t vs x ht h hw
  have hc:=List.all_eq_true.1 hS1 t ht
  have hc2:=List.all_eq_true.1 hS2 t ht
  have hh:=h
  unfold DataW.trod at h
  unfold ShapeL
  cases hu:P.underlying t with
  | none=>rw [hu] at hc;simp at hc
  | some d =>
   rw [hu] at hc hc2 h
   cases d with
   | bool =>
    simp only at h
    split at h <;> first|(simp at h;done)|skip
    all_goals first|(rename_i b _;simp at h;subst h;exact ⟨[.val (.bool b)],⟨b,rfl⟩,.cons (.val _) .nil,by intro v hv;simp at hv;subst hv;rfl,by simp [bulks,AV.bulk,uptoBulk,Rows.uptoBulk]⟩)|(simp_all;done)
   | int k =>
    simp only at h
    split at h <;> simp_all
    rename_i k' z _
    obtain ⟨⟨rfl,hwf⟩,rfl⟩:=h
    simp only [Lit.wf,Bool.and_eq_true,decide_eq_true_eq] at hwf
    exact ⟨_,⟨z,hwf,rfl⟩,.cons (.val _) .nil,by intro v hv;simp at hv;subst hv;rfl,by simp [bulks,AV.bulk,uptoBulk,Rows.uptoBulk]⟩
   | string =>
    simp only at h
    split at h <;> simp_all
    obtain ⟨_,rfl⟩:=h
    rename_i s _
    have hsz:s.data.toList.length≤L:=hw _ (by simp [DataW.weights])
    exact ⟨_,⟨_,by simpa using hsz,rfl⟩,.cons (.val _) .nil,by intro v hv;simp at hv;subst hv;rfl,by simp [bulks,AV.bulk,uptoBulk,Rows.uptoBulk]⟩
   | slice e =>
    simp only [Bool.and_eq_true,List.contains_iff_mem,Nat.blt_eq] at hc hc2
    rcases DataW.trod_slice hu hh with ⟨rfl,rfl⟩|⟨a,len,cap,elems,rest,n',hn,rfl,rfl,_,hlc,hcm,hel,hat,_⟩
    ·exact ⟨[.seq (P.cellsOf e) []],⟨[],rfl,by simp,by simp⟩,.cons (.seq0 _ none 0 (fun _=>rfl)) .nil,by intro v hv;simp at hv;subst hv;rfl,by simp [bulks,AV.bulk,bulkss,uptoBulk,Rows.uptoBulk]⟩
    obtain rfl:n=n':=by omega
    have hlenL:len≤L:=by
     have h1:=hw ((elems.length+rest.length) * P.bytesOf e) (by simp [DataW.weights,hu])
     have h2:len * 1≤(elems.length+rest.length) * P.bytesOf e:=Nat.mul_le_mul (by omega) hc2
     omega
    have hrows:∀ i d,i<len→(elems.map (·.1))[i]?=some d→∃ ws es,w.cells? 0 (a.add (i * P.cellsOf e)) (P.cellsOf e)=some ws∧ShapeL P L n e es∧Rels (cellF w) es ws∧Ones ws∧bulks es≤uptoBulk d:=by
     intro i d hi hd
     have h1:=hat i hi
     rw [List.getElem?_eq_getElem (by omega)] at h1
     obtain ⟨ws,h2,h3⟩:=Option.bind_eq_some_iff.1 h1
     have hdd:(elems[i]'(by omega)).1=d:=by
      rw [List.getElem?_map,List.getElem?_eq_getElem (by omega)] at hd
      simpa using hd
     obtain ⟨es,h4,h5,h6,h7⟩:=ih e ws _ hc.1 h3 (by
      intro k hk
      rw [hdd] at hk
      refine hw k ?_
      simp only [DataW.weights,hu,List.mem_cons,List.mem_append]
      exact .inr (.inl (weights_all hd k hk)))
     exact ⟨ws,es,h2,h4,h5,h6,by rw [hdd] at h7;exact h7⟩
    obtain ⟨ess,vs',r1,r2,r3,r4,r5,r6,r7⟩:=rows_of2 (elems.map (·.1)) len (by simp;omega) hrows
    have hb:bulks [AV.seq (P.cellsOf e) ess]≤uptoBulk (DataW.slice (elems.map (·.1)) (rest.map (·.1))):=by
     rw [List.take_of_length_le (by simp;omega)] at r7
     simp only [bulks,AV.bulk,uptoBulk,uptoBulkAll,Rows.uptoBulk] at *
     omega
    refine ⟨[.seq (P.cellsOf e) ess],⟨ess,rfl,by omega,fun x hx=>(r2 x hx).1⟩,.cons ?_ .nil,by intro v hv;simp at hv;subst hv;rfl,hb⟩
    by_cases h0:len=0
    ·subst h0
     have:ess=[]:=List.eq_nil_of_length_eq_zero r1
     subst this
     exact .seq0 _ _ _ (by simp)
    have hpos:0<vs'.length:=by rw [r5];exact Nat.mul_pos (by omega) hc.2
    have hsp:a.spot=none:=by
     have:=r6 0 vs'[0] (List.getElem?_eq_getElem hpos)
     have e0:a.add 0=a:=by simp [Addr.add]
     rw [e0] at this
     unfold World.cell? at this
     cases hs:a.spot with
     | none=>rfl
     | some q=>rw [hs] at this;simp at this;split at this <;> simp at this
    obtain ⟨b,off,spot⟩:=a
    simp only at hsp
    subst hsp
    subst r1
    refine .seq b off cap (fun x hx=>(r2 x hx).2) (by omega) (fun j x hx=>?_) r3 r4 (by omega)
    have:=r6 j x hx
    rwa [addr_add0] at this
   | struct fs =>
    simp only at hc
    obtain ⟨xs,n',hn,rfl,hlen,hxl,hat⟩:=DataW.trod_struct hu hh
    obtain rfl:n=n':=by omega
    have key:∀ (l:List Field) (ys:List (DataW H × List MemPlace)) (k:Nat),ys.length=l.length→(∀ (i:Nat) (f:Field),l[i]?=some f→DataW.trod enc P w 0 sp held n f.type ((vs.drop f.offset).take (P.cellsOf f.type))=ys[i]?)→fsOk P S k l (P.cellsOf t)=true→(∀ j∈DataW.weightsEach P (l.map (·.type)) (ys.map (·.1)),j≤L) →
        ∃ cs,ShapeLF P L n l cs∧Rels (cellF w) cs (vs.drop k)∧Ones (vs.drop k)∧bulks cs≤uptoBulkAll (ys.map (·.1)):=by
     intro l
     induction l with
     | nil =>
      intro ys k _ _ hk _
      simp only [fsOk,beq_iff_eq] at hk
      refine ⟨[],by simp [ShapeLF],?_,?_,by simp [bulks]⟩
      ·rw [List.drop_eq_nil_of_le (by omega)];exact .nil
      rw [List.drop_eq_nil_of_le (by omega)];intro v hv;simp at hv
     | cons f l ihl =>
      intro ys k hyl hf hk hwt
      cases ys with
      | nil=>simp at hyl
      | cons y ys =>
       simp only [fsOk,Bool.and_eq_true,beq_iff_eq,List.contains_iff_mem] at hk
       obtain ⟨⟨rfl,hS1⟩,hk⟩:=hk
       have hy:=hf 0 f (by simp)
       simp only [List.getElem?_cons_zero] at hy
       simp only [List.map_cons,DataW.weightsEach,List.mem_append] at hwt
       obtain ⟨c1,h1,h2,h3,h7⟩:=ih f.type _ y hS1 hy (fun j hj=>hwt j (.inl hj))
       obtain ⟨c2,h4,h5,h6,h8⟩:=ihl ys (f.offset+P.cellsOf f.type) (by simpa using hyl) (fun i g hg=>by have:=hf (i+1) g (by simpa using hg);simpa using this) hk (fun j hj=>hwt j (.inr hj))
       have e1:vs.drop f.offset=(vs.drop f.offset).take (P.cellsOf f.type)++vs.drop (f.offset+P.cellsOf f.type):=by
        rw [← List.drop_drop,List.take_append_drop]
       refine ⟨c1++c2,by rw [ShapeLF];exact ⟨c1,c2,V,h1,h4⟩,by rw [e1];exact h2.app h5,?_,?_⟩
       ·rw [e1]
        intro v hv
        rcases List.mem_append.1 hv with q|q
        ·exact h3 v q
        exact h6 v q
       rw [bulks_app]
       simp only [List.map_cons,uptoBulkAll,uptoBulk,Rows.uptoBulkAll] at *
       omega
    obtain ⟨cs,k1,k2,k3,k4⟩:=key fs.toList xs 0 (by simpa using hxl) (fun i f hf=>hat i f (by simpa using hf)) hc (by
     intro j hj
     refine hw j ?_
     simp only [DataW.weights,hu]
     exact hj)
    rw [List.drop_zero] at k2 k3
    exact ⟨cs,k1,k2,k3,by simp only [uptoBulk,uptoBulkAll,Rows.uptoBulk] at *;omega⟩
   | _=>simp at hc
theorem open_two {S:List TypeId} (hS:closedL P S=true) {ts:List TypeId} {ds:List (DataW H)} (hsz:(DataW.weightsEach P ts ds).all (·≤reachBytes)=true) (j:Nat) {t:TypeId} {v:Value} {d:DataW H} {ps:List MemPlace} (hj:ts[j]?=some t) (hd:ds[j]?=some d) (ht:t∈S) (h:DataW.Trod enc P w 0 sp held t v d ps) :
    ∃ fuel cs,ShapeL P reachBytes fuel t cs∧Rels (cellF w) cs v.cells.toList∧Ones v.cells.toList∧bulks cs≤uptoBulk d:=by
 obtain ⟨fuel,h⟩:=h
 obtain ⟨cs,h1,h2,h3,h4⟩:=open_shape2 hS (L:=reachBytes) (by decide) fuel t _ _ ht h (fun n hn=>by
  have:=List.all_eq_true.1 hsz n (DataW.weights_mem_each hj hd n hn)
  simpa using this)
 exact ⟨fuel,cs,h1,h2,h3,h4⟩
end
section
variable {P:Program} {L:Nat}
theorem shapeL_int {fuel:Nat} {t:TypeId} {k:IntKind} {cs:List AV} (ht:P.underlying t=some (.int k)) (h:ShapeL P L fuel t cs):∃ x,(k.min≤x∧x≤k.max)∧cs=[.val (.int k x)]:=by
 cases fuel with
 | zero=>unfold ShapeL at h;exact h.elim
 | succ n=>unfold ShapeL at h;rw [ht] at h;exact h
theorem shapeL_str {fuel:Nat} {t:TypeId} {cs:List AV} (ht:P.underlying t=some .string) (h:ShapeL P L fuel t cs):∃ s:ByteArray,s.size≤L∧cs=[.val (.string s)]:=by
 cases fuel with
 | zero=>unfold ShapeL at h;exact h.elim
 | succ n=>unfold ShapeL at h;rw [ht] at h;exact h
theorem shapeL_slice {fuel:Nat} {t e:TypeId} {cs:List AV} (ht:P.underlying t=some (.slice e)) (h:ShapeL P L fuel t cs):∃ n es,n<fuel∧cs=[.seq (P.cellsOf e) es]∧es.length≤L∧∀ x∈es,ShapeL P L n e x:=by
 cases fuel with
 | zero=>unfold ShapeL at h;exact h.elim
 | succ n =>
  unfold ShapeL at h
  rw [ht] at h
  obtain ⟨es,h1,h3,h2⟩:=h
  exact ⟨n,es,by omega,h1,h3,h2⟩
theorem shapeL_struct {fuel:Nat} {t:TypeId} {fs:Array Field} {cs:List AV} (ht:P.underlying t=some (.struct fs)) (h:ShapeL P L fuel t cs):∃ n,n<fuel∧ShapeLF P L n fs.toList cs:=by
 cases fuel with
 | zero=>unfold ShapeL at h;exact h.elim
 | succ n=>unfold ShapeL at h;rw [ht] at h;exact ⟨n,by omega,h⟩
theorem pick_all2 {α:Type} {f:α→List AV} {p:α→Prop}:∀ {es:List (List AV)},(∀ x∈es,∃ a,x=f a∧p a)→∃ l:List α,es=l.map f∧∀ a∈l,p a
 | [],_=>⟨[],rfl,by simp⟩
 | e::es,h=>by
  obtain ⟨a,ha,hp⟩:=h e (by simp)
  obtain ⟨l,hl,hq⟩:=pick_all2 (fun x hx=>h x (by simp [hx]):∀ x∈es,∃ a,x=f a∧p a)
  exact ⟨a::l,by rw [ha,hl];rfl,by simp;exact ⟨hp,hq⟩⟩
end
inductive Pa where
 | mk (k:Int) (s:ByteArray) (n:Int) (ks:List Pa) (p:Int)
mutual
inductive Ex where
 | mk (k:Int) (s:ByteArray) (n:Int) (t:Ty) (ks:List Ex) (al:List Al) (bs:List Bi) (p:Int)
inductive Al where
 | mk (q:Pa) (e:Ex)
inductive Bi where
 | mk (s:ByteArray) (e:Ex) (p:Int)
end
mutual
def Pa.cells:Pa→List AV
 | .mk k s n ks p=>[.val (.int .i64 k),.val (.string s),.val (.int .i64 n),.seq 5 (Pa.cellss ks),.val (.int .i64 p)]
def Pa.cellss:List Pa→List (List AV)
 | []=>[]
 | t::ts=>t.cells::Pa.cellss ts
end
mutual
def Ex.cells:Ex→List AV
 | .mk k s n t ks al bs p=>.val (.int .i64 k)::.val (.string s)::.val (.int .i64 n)::(t.cells++[.seq 11 (Ex.cellss ks),.seq 16 (Al.cellss al),.seq 13 (Bi.cellss bs),.val (.int .i64 p)])
def Ex.cellss:List Ex→List (List AV)
 | []=>[]
 | t::ts=>t.cells::Ex.cellss ts
def Al.cells:Al→List AV
 | .mk q e=>q.cells++e.cells
def Al.cellss:List Al→List (List AV)
 | []=>[]
 | t::ts=>t.cells::Al.cellss ts
def Bi.cells:Bi→List AV
 | .mk s e p=>.val (.string s)::(e.cells++[.val (.int .i64 p)])
def Bi.cellss:List Bi→List (List AV)
 | []=>[]
 | t::ts=>t.cells::Bi.cellss ts
end
theorem Pa.cellss_map:∀ ts:List Pa,Pa.cellss ts=ts.map Pa.cells
 | []=>by simp [Pa.cellss]
 | t::ts=>by simp [Pa.cellss,Pa.cellss_map ts]
theorem Ex.cellss_map:∀ ts:List Ex,Ex.cellss ts=ts.map Ex.cells
 | []=>by simp [Ex.cellss]
 | t::ts=>by simp [Ex.cellss,Ex.cellss_map ts]
theorem Al.cellss_map:∀ ts:List Al,Al.cellss ts=ts.map Al.cells
 | []=>by simp [Al.cellss]
 | t::ts=>by simp [Al.cellss,Al.cellss_map ts]
theorem Bi.cellss_map:∀ ts:List Bi,Bi.cellss ts=ts.map Bi.cells
 | []=>by simp [Bi.cellss]
 | t::ts=>by simp [Bi.cellss,Bi.cellss_map ts]
theorem Pa.cellss_len (ts:List Pa):(Pa.cellss ts).length=ts.length:=by rw [Pa.cellss_map];simp
theorem Ex.cellss_len (ts:List Ex):(Ex.cellss ts).length=ts.length:=by rw [Ex.cellss_map];simp
theorem Al.cellss_len (ts:List Al):(Al.cellss ts).length=ts.length:=by rw [Al.cellss_map];simp
theorem Bi.cellss_len (ts:List Bi):(Bi.cellss ts).length=ts.length:=by rw [Bi.cellss_map];simp
theorem Pa.cellss_get {ts:List Pa} {i:Nat} {t:Pa} (h:ts[i]?=some t):(Pa.cellss ts)[i]?=some t.cells:=by rw [Pa.cellss_map];simp [h]
theorem Ex.cellss_get {ts:List Ex} {i:Nat} {t:Ex} (h:ts[i]?=some t):(Ex.cellss ts)[i]?=some t.cells:=by rw [Ex.cellss_map];simp [h]
theorem Al.cellss_get {ts:List Al} {i:Nat} {t:Al} (h:ts[i]?=some t):(Al.cellss ts)[i]?=some t.cells:=by rw [Al.cellss_map];simp [h]
theorem Bi.cellss_get {ts:List Bi} {i:Nat} {t:Bi} (h:ts[i]?=some t):(Bi.cellss ts)[i]?=some t.cells:=by rw [Bi.cellss_map];simp [h]
def Al.e:Al→Ex|.mk _ e=>e
def Al.q:Al→Pa|.mk q _=>q
def Bi.e:Bi→Ex|.mk _ e _=>e
def Bi.s:Bi→ByteArray|.mk s _ _=>s
mutual
def Pa.bare:Pa→Pa
 | .mk k s n ks _=>.mk k s n (Pa.bares ks) 0
def Pa.bares:List Pa→List Pa
 | []=>[]
 | t::ts=>t.bare::Pa.bares ts
end
mutual
def Ex.bare:Ex→Ex
 | .mk k s n t ks al bs _=>.mk k s n t (Ex.bares ks) (Al.bares al) (Bi.bares bs) 0
def Ex.bares:List Ex→List Ex
 | []=>[]
 | t::ts=>t.bare::Ex.bares ts
def Al.bare:Al→Al
 | .mk q e=>.mk q.bare e.bare
def Al.bares:List Al→List Al
 | []=>[]
 | t::ts=>t.bare::Al.bares ts
def Bi.bare:Bi→Bi
 | .mk s e _=>.mk s e.bare 0
def Bi.bares:List Bi→List Bi
 | []=>[]
 | t::ts=>t.bare::Bi.bares ts
end
theorem Pa.lt_kid {x:Pa} {k n p:Int} {s:ByteArray} {ks:List Pa} (h:x∈ks):SizeOf.sizeOf x<SizeOf.sizeOf (Pa.mk k s n ks p):=by
 have:=List.sizeOf_lt_of_mem h
 simp;omega
section
variable {x:Ex} {a:Al} {b:Bi} {k n p:Int} {s:ByteArray} {t:Ty} {ks:List Ex} {al:List Al} {bs:List Bi}
theorem Ex.lt_kid (h:x∈ks):SizeOf.sizeOf x<SizeOf.sizeOf (Ex.mk k s n t ks al bs p):=by
 have:=List.sizeOf_lt_of_mem h
 simp;omega
theorem Ex.lt_alt (h:a∈al):SizeOf.sizeOf a<SizeOf.sizeOf (Ex.mk k s n t ks al bs p):=by
 have:=List.sizeOf_lt_of_mem h
 simp;omega
theorem Ex.lt_bind (h:b∈bs):SizeOf.sizeOf b<SizeOf.sizeOf (Ex.mk k s n t ks al bs p):=by
 have:=List.sizeOf_lt_of_mem h
 simp;omega
theorem Al.lt_e (a:Al):SizeOf.sizeOf a.e<SizeOf.sizeOf a:=by cases a;simp [Al.e];omega
theorem Bi.lt_e (a:Bi):SizeOf.sizeOf a.e<SizeOf.sizeOf a:=by cases a;simp [Bi.e];omega
end
def Ex.parts:Ex→List Ex
 | .mk k _ _ _ ks al bs _=>(if k=7 then [] else ks)++bs.map Bi.e++(if k=7 then ks else [])++al.map Al.e
theorem Ex.lt_part {e x:Ex} (h:x∈e.parts):SizeOf.sizeOf x<SizeOf.sizeOf e:=by
 obtain ⟨k,s,n,t,ks,al,bs,p⟩:=e
 simp only [Ex.parts,List.mem_append,List.mem_map] at h
 rcases h with ((h|⟨b,hb,rfl⟩)|h)|⟨a,ha,rfl⟩
 ·split at h
  ·simp at h
  exact Ex.lt_kid h
 ·exact Nat.lt_trans (Bi.lt_e b) (Ex.lt_bind hb)
 ·split at h
  ·exact Ex.lt_kid h
  simp at h
 exact Nat.lt_trans (Al.lt_e a) (Ex.lt_alt ha)
def Ex.sz (e:Ex):Nat:=1+(e.parts.attach.map fun x=>Ex.sz x.1).sum
termination_by SizeOf.sizeOf e
decreasing_by exact Ex.lt_part x.2
def maxOf:List Nat→Nat
 | []=>0
 | x::xs=>max x (maxOf xs)
def Ex.dp (e:Ex):Nat:=1+maxOf (e.parts.attach.map fun x=>Ex.dp x.1)
termination_by SizeOf.sizeOf e
decreasing_by exact Ex.lt_part x.2
theorem sum_mem {l:List Nat} {x:Nat} (h:x∈l):x≤l.sum:=by
 induction l with
 | nil=>simp at h
 | cons y l ih =>
  simp only [List.sum_cons]
  rcases List.mem_cons.1 h with rfl|h
  ·omega
  have:=ih h;omega
theorem sum_take {l:List Nat} {i x:Nat} (h:l[i]?=some x):(l.take (i+1)).sum=(l.take i).sum+x:=by
 rw [List.take_add_one,h];simp
theorem sum_take_le (l:List Nat) (i:Nat):(l.take i).sum≤l.sum:=by
 have:=congrArg List.sum (List.take_append_drop i l)
 rw [List.sum_append] at this;omega
theorem upto_map {α β:Type} (f:α→β) {xs ys:List α} {i:Nat} {x y:α} (h:Upto (xs.map f) (ys.map f) i) (hx:xs[i]?=some x) (hy:ys[i]?=some y) (e:f x=f y):Upto (xs.map f) (ys.map f) (i+1) :=
 h.succ (x:=f x) (y:=f y) (by simp [hx]) (by simp [hy]) e
theorem map_ne {α β:Type} (f:α→β) {xs ys:List α} {i:Nat} {x y:α} (hx:xs[i]?=some x) (hy:ys[i]?=some y) (e:¬ f x=f y):¬ xs.map f=ys.map f:=fun q=>e (by
 have:(xs.map f)[i]?=(ys.map f)[i]?:=by rw [q]
 simpa [hx,hy] using this)
theorem map_len_ne {α β:Type} (f:α→β) {xs ys:List α} (h:¬ xs.length=ys.length):¬ xs.map f=ys.map f:=fun q=>h (by simpa using congrArg List.length q)
mutual
inductive Co where
 | mk (k:Int) (s:ByteArray) (n:Int) (t:Ty) (ts:List Ty) (ks:List Co) (al:List Ca) (bs:List Cb)
inductive Ca where
 | mk (q:Pa) (e:Co)
inductive Cb where
 | mk (s:ByteArray) (vs:List ByteArray) (t:Ty) (e:Co)
end
mutual
def Co.cells:Co→List AV
 | .mk k s n t ts ks al bs=>.val (.int .i64 k)::.val (.string s)::.val (.int .i64 n)::(t.cells++[.seq 4 (Ty.cellss ts),.seq 11 (Co.cellss ks),.seq 16 (Ca.cellss al),.seq 17 (Cb.cellss bs)])
def Co.cellss:List Co→List (List AV)
 | []=>[]
 | t::ts=>t.cells::Co.cellss ts
def Ca.cells:Ca→List AV
 | .mk q e=>q.cells++e.cells
def Ca.cellss:List Ca→List (List AV)
 | []=>[]
 | t::ts=>t.cells::Ca.cellss ts
def Cb.cells:Cb→List AV
 | .mk s vs t e=>.val (.string s)::.seq 1 (strs vs)::(t.cells++e.cells)
def Cb.cellss:List Cb→List (List AV)
 | []=>[]
 | t::ts=>t.cells::Cb.cellss ts
end
theorem Co.cellss_map:∀ ts:List Co,Co.cellss ts=ts.map Co.cells
 | []=>by simp [Co.cellss]
 | t::ts=>by simp [Co.cellss,Co.cellss_map ts]
theorem Co.cellss_len (ts:List Co):(Co.cellss ts).length=ts.length:=by rw [Co.cellss_map];simp
theorem Co.cellss_get {ts:List Co} {i:Nat} {t:Co} (h:ts[i]?=some t):(Co.cellss ts)[i]?=some t.cells:=by rw [Co.cellss_map];simp [h]
theorem Co.cellss_app (a b:List Co):Co.cellss (a++b)=Co.cellss a++Co.cellss b:=by simp [Co.cellss_map]
theorem Ca.cellss_map:∀ ts:List Ca,Ca.cellss ts=ts.map Ca.cells
 | []=>by simp [Ca.cellss]
 | t::ts=>by simp [Ca.cellss,Ca.cellss_map ts]
theorem Ca.cellss_len (ts:List Ca):(Ca.cellss ts).length=ts.length:=by rw [Ca.cellss_map];simp
theorem Ca.cellss_get {ts:List Ca} {i:Nat} {t:Ca} (h:ts[i]?=some t):(Ca.cellss ts)[i]?=some t.cells:=by rw [Ca.cellss_map];simp [h]
theorem Ca.cellss_app (a b:List Ca):Ca.cellss (a++b)=Ca.cellss a++Ca.cellss b:=by simp [Ca.cellss_map]
theorem Cb.cellss_map:∀ ts:List Cb,Cb.cellss ts=ts.map Cb.cells
 | []=>by simp [Cb.cellss]
 | t::ts=>by simp [Cb.cellss,Cb.cellss_map ts]
theorem Cb.cellss_len (ts:List Cb):(Cb.cellss ts).length=ts.length:=by rw [Cb.cellss_map];simp
theorem Cb.cellss_get {ts:List Cb} {i:Nat} {t:Cb} (h:ts[i]?=some t):(Cb.cellss ts)[i]?=some t.cells:=by rw [Cb.cellss_map];simp [h]
theorem Cb.cellss_app (a b:List Cb):Cb.cellss (a++b)=Cb.cellss a++Cb.cellss b:=by simp [Cb.cellss_map]
def Ca.e:Ca→Co|.mk _ e=>e
def Ca.q:Ca→Pa|.mk q _=>q
def Cb.s:Cb→ByteArray|.mk s _ _ _=>s
def Cb.vs:Cb→List ByteArray|.mk _ vs _ _=>vs
def Cb.t:Cb→Ty|.mk _ _ t _=>t
def Cb.e:Cb→Co|.mk _ _ _ e=>e
def Co.k:Co→Int|.mk k _ _ _ _ _ _ _=>k
def Co.s:Co→ByteArray|.mk _ s _ _ _ _ _ _=>s
def Co.n:Co→Int|.mk _ _ n _ _ _ _ _=>n
def Co.t:Co→Ty|.mk _ _ _ t _ _ _ _=>t
def Co.ts:Co→List Ty|.mk _ _ _ _ ts _ _ _=>ts
def Co.ks:Co→List Co|.mk _ _ _ _ _ ks _ _=>ks
def Co.al:Co→List Ca|.mk _ _ _ _ _ _ al _=>al
def Co.bs:Co→List Cb|.mk _ _ _ _ _ _ _ bs=>bs
mutual
def Co.bare:Co→Co
 | .mk k s n t ts ks al bs=>.mk k s n t ts (Co.bares ks) (Ca.bares al) (Cb.bares bs)
def Co.bares:List Co→List Co
 | []=>[]
 | t::ts=>t.bare::Co.bares ts
def Ca.bare:Ca→Ca
 | .mk q e=>.mk q.bare e.bare
def Ca.bares:List Ca→List Ca
 | []=>[]
 | t::ts=>t.bare::Ca.bares ts
def Cb.bare:Cb→Cb
 | .mk s vs t e=>.mk s vs t e.bare
def Cb.bares:List Cb→List Cb
 | []=>[]
 | t::ts=>t.bare::Cb.bares ts
end
section
variable {x:Co} {a:Ca} {b:Cb} {k n:Int} {s:ByteArray} {t:Ty} {ts:List Ty} {ks:List Co} {al:List Ca} {bs:List Cb}
theorem Co.lt_kid (h:x∈ks):SizeOf.sizeOf x<SizeOf.sizeOf (Co.mk k s n t ts ks al bs):=by
 have:=List.sizeOf_lt_of_mem h
 simp;omega
theorem Co.lt_alt (h:a∈al):SizeOf.sizeOf a<SizeOf.sizeOf (Co.mk k s n t ts ks al bs):=by
 have:=List.sizeOf_lt_of_mem h
 simp;omega
theorem Co.lt_bind (h:b∈bs):SizeOf.sizeOf b<SizeOf.sizeOf (Co.mk k s n t ts ks al bs):=by
 have:=List.sizeOf_lt_of_mem h
 simp;omega
theorem Ca.lt_e (a:Ca):SizeOf.sizeOf a.e<SizeOf.sizeOf a:=by cases a;simp [Ca.e];omega
theorem Cb.lt_e (a:Cb):SizeOf.sizeOf a.e<SizeOf.sizeOf a:=by cases a;simp [Cb.e];omega
end
mutual
def Co.size:Co→Nat
 | .mk _ _ _ _ _ ks al bs=>1+Co.sizes ks+Ca.sizes al+Cb.sizes bs
def Co.sizes:List Co→Nat
 | []=>0
 | t::ts=>t.size+Co.sizes ts
def Ca.size:Ca→Nat
 | .mk _ e=>e.size
def Ca.sizes:List Ca→Nat
 | []=>0
 | t::ts=>t.size+Ca.sizes ts
def Cb.size:Cb→Nat
 | .mk _ _ _ e=>e.size
def Cb.sizes:List Cb→Nat
 | []=>0
 | t::ts=>t.size+Cb.sizes ts
end
mutual
def Co.all:Co→List Co
 | .mk k s n t ts ks al bs=>.mk k s n t ts ks al bs::(Co.alls ks++(Ca.alls al++Cb.alls bs))
def Co.alls:List Co→List Co
 | []=>[]
 | t::ts=>t.all++Co.alls ts
def Ca.all:Ca→List Co
 | .mk _ e=>e.all
def Ca.alls:List Ca→List Co
 | []=>[]
 | t::ts=>t.all++Ca.alls ts
def Cb.all:Cb→List Co
 | .mk _ _ _ e=>e.all
def Cb.alls:List Cb→List Co
 | []=>[]
 | t::ts=>t.all++Cb.alls ts
end
mutual
theorem Co.all_len:∀ e:Co,e.all.length=e.size
 | .mk k s n t ts ks al bs=>by rw [Co.all,Co.size,List.length_cons,List.length_append,List.length_append,Co.alls_len ks,Ca.alls_len al,Cb.alls_len bs];omega
theorem Co.alls_len:∀ l:List Co,(Co.alls l).length=Co.sizes l
 | []=>rfl
 | t::ts=>by rw [Co.alls,Co.sizes,List.length_append,Co.all_len t,Co.alls_len ts]
theorem Ca.all_len:∀ e:Ca,e.all.length=e.size
 | .mk q e=>by rw [Ca.all,Ca.size,Co.all_len e]
theorem Ca.alls_len:∀ l:List Ca,(Ca.alls l).length=Ca.sizes l
 | []=>rfl
 | t::ts=>by rw [Ca.alls,Ca.sizes,List.length_append,Ca.all_len t,Ca.alls_len ts]
theorem Cb.all_len:∀ e:Cb,e.all.length=e.size
 | .mk s vs t e=>by rw [Cb.all,Cb.size,Co.all_len e]
theorem Cb.alls_len:∀ l:List Cb,(Cb.alls l).length=Cb.sizes l
 | []=>rfl
 | t::ts=>by rw [Cb.alls,Cb.sizes,List.length_append,Cb.all_len t,Cb.alls_len ts]
end
theorem Co.size_mem:∀ {l:List Co} {x:Co},x∈l→x.size≤Co.sizes l
 | y::l,x,h=>by
  rw [Co.sizes]
  rcases List.mem_cons.1 h with rfl|h
  ·omega
  have:=Co.size_mem h;omega
theorem Ca.size_mem:∀ {l:List Ca} {x:Ca},x∈l→x.size≤Ca.sizes l
 | y::l,x,h=>by
  rw [Ca.sizes]
  rcases List.mem_cons.1 h with rfl|h
  ·omega
  have:=Ca.size_mem h;omega
theorem Cb.size_mem:∀ {l:List Cb} {x:Cb},x∈l→x.size≤Cb.sizes l
 | y::l,x,h=>by
  rw [Cb.sizes]
  rcases List.mem_cons.1 h with rfl|h
  ·omega
  have:=Cb.size_mem h;omega
abbrev Txt:=ByteArray
mutual
def Pa.names:Pa→List Txt
 | .mk k s _ ks _=>(if k=2 then [s] else [])++Pa.namess ks
def Pa.namess:List Pa→List Txt
 | []=>[]
 | t::ts=>t.names++Pa.namess ts
end
mutual
def Pa.size:Pa→Nat
 | .mk _ _ _ ks _=>1+Pa.sizes ks
def Pa.sizes:List Pa→Nat
 | []=>0
 | t::ts=>t.size+Pa.sizes ts
end
theorem Pa.sizes_map:∀ ts:List Pa,Pa.sizes ts=(ts.map Pa.size).sum
 | []=>by simp [Pa.sizes]
 | t::ts=>by simp [Pa.sizes,Pa.sizes_map ts]
theorem Pa.namess_flat:∀ ts:List Pa,Pa.namess ts=(ts.map Pa.names).flatten
 | []=>by simp [Pa.namess]
 | t::ts=>by simp [Pa.namess,Pa.namess_flat ts]
mutual
theorem Pa.names_len:∀ q:Pa,q.names.length≤q.size
 | .mk k s n ks p=>by
  have:=Pa.namess_len ks
  rw [Pa.names,Pa.size,List.length_append]
  split <;> simp <;> omega
theorem Pa.namess_len:∀ qs:List Pa,(Pa.namess qs).length≤Pa.sizes qs
 | []=>by simp [Pa.namess]
 | q::qs=>by
  have h1:=Pa.names_len q
  have h2:=Pa.namess_len qs
  rw [Pa.namess,Pa.sizes,List.length_append];omega
end
theorem Pa.size_kid {x:Pa} {ks:List Pa} (h:x∈ks):x.size≤Pa.sizes ks:=by
 rw [Pa.sizes_map];exact sum_mem (List.mem_map.2 ⟨x,h,rfl⟩)
theorem Pa.namess_take {ts:List Pa} {i:Nat} {x:Pa} (h:ts[i]?=some x):Pa.namess (ts.take (i+1))=Pa.namess (ts.take i)++x.names:=by
 rw [Pa.namess_flat,Pa.namess_flat,List.take_add_one,h];simp
theorem Pa.sizes_take {ts:List Pa} {i:Nat} {x:Pa} (h:ts[i]?=some x):Pa.sizes (ts.take i)+x.size≤Pa.sizes ts:=by
 have h1:(ts.map Pa.size)[i]?=some x.size:=by simp [h]
 have h2:=sum_take h1
 have h3:=sum_take_le (ts.map Pa.size) (i+1)
 rw [Pa.sizes_map,Pa.sizes_map,List.map_take];omega
mutual
def Ex.w:Ex→Nat
 | .mk _ _ _ _ ks al bs _=>1+Ex.ws ks+Al.ws al+Bi.ws bs
def Ex.ws:List Ex→Nat
 | []=>0
 | t::ts=>t.w+Ex.ws ts
def Al.w:Al→Nat
 | .mk q e=>q.size+e.w
def Al.ws:List Al→Nat
 | []=>0
 | t::ts=>t.w+Al.ws ts
def Bi.w:Bi→Nat
 | .mk _ e _=>1+e.w
def Bi.ws:List Bi→Nat
 | []=>0
 | t::ts=>t.w+Bi.ws ts
end
abbrev Bi.names (bs:List Bi):List Txt:=bs.map Bi.s
def Ty.kn:Ty→Nat|.mk _ _ _ ks=>ks.length
def Pa.kn:Pa→Nat|.mk _ _ _ ks _=>ks.length
mutual
def Ex.full:Ex→Nat
 | .mk _ _ _ t ks al bs _=>1+t.kn+Ex.fulls ks+Bi.fulls bs+Al.fulls al
def Ex.fulls:List Ex→Nat
 | []=>0
 | x::xs=>x.full+Ex.fulls xs
def Bi.full:Bi→Nat
 | .mk _ e _=>1+e.full
def Bi.fulls:List Bi→Nat
 | []=>0
 | x::xs=>x.full+Bi.fulls xs
def Al.full:Al→Nat
 | .mk q e=>1+e.full+q.kn
def Al.fulls:List Al→Nat
 | []=>0
 | x::xs=>x.full+Al.fulls xs
end
mutual
def Ex.Lim:Ex→Prop
 | .mk _ _ _ t ks al bs _=>t.kn≤140737488355328∧Ex.Lims ks∧Bi.Lims bs∧Al.Lims al
def Ex.Lims:List Ex→Prop
 | []=>True
 | x::xs=>x.Lim∧Ex.Lims xs
def Bi.Lim:Bi→Prop
 | .mk _ e _=>e.Lim
def Bi.Lims:List Bi→Prop
 | []=>True
 | x::xs=>x.Lim∧Bi.Lims xs
def Al.Lim:Al→Prop
 | .mk q e=>e.Lim∧q.kn≤140737488355328
def Al.Lims:List Al→Prop
 | []=>True
 | x::xs=>x.Lim∧Al.Lims xs
end
theorem Ex.lims_iff:∀ l:List Ex,Ex.Lims l↔∀ x∈l,x.Lim
 | []=>by simp [Ex.Lims]
 | x::l=>by simp [Ex.Lims,Ex.lims_iff l]
theorem Bi.lims_iff:∀ l:List Bi,Bi.Lims l↔∀ x∈l,x.Lim
 | []=>by simp [Bi.Lims]
 | x::l=>by simp [Bi.Lims,Bi.lims_iff l]
theorem Al.lims_iff:∀ l:List Al,Al.Lims l↔∀ x∈l,x.Lim
 | []=>by simp [Al.Lims]
 | x::l=>by simp [Al.Lims,Al.lims_iff l]
mutual
def Ex.cnt:Ex→Int→Int
 | .mk _ _ _ t ks al bs _,m=>Al.cnts al m (Bi.cnts bs m (Ex.cnts ks m (1+t.kn)))
def Ex.cnts:List Ex→Int→Int→Int
 | [],_,n=>n
 | x::xs,m,n=>if n<m then Ex.cnts xs m (n+x.cnt (m - n)) else n
def Bi.cnt:Bi→Int→Int
 | .mk _ e _,m=>1+e.cnt m
def Bi.cnts:List Bi→Int→Int→Int
 | [],_,n=>n
 | x::xs,m,n=>if n<m then Bi.cnts xs m (n+x.cnt (m - n)) else n
def Al.cnt:Al→Int→Int
 | .mk q e,m=>1+e.cnt m+q.kn
def Al.cnts:List Al→Int→Int→Int
 | [],_,n=>n
 | x::xs,m,n=>if n<m then Al.cnts xs m (n+x.cnt (m - n)) else n
end
theorem Ex.cnts_end {l:List Ex} {i:Nat} {m n:Int} (h:l.length≤i∨m≤n):Ex.cnts (l.drop i) m n=n:=by
 rcases h with h|h
 ·rw [List.drop_eq_nil_of_le h,Ex.cnts]
 cases l.drop i with
 | nil=>rw [Ex.cnts]
 | cons x l=>rw [Ex.cnts,if_neg (by omega)]
theorem Bi.cnts_end {l:List Bi} {i:Nat} {m n:Int} (h:l.length≤i∨m≤n):Bi.cnts (l.drop i) m n=n:=by
 rcases h with h|h
 ·rw [List.drop_eq_nil_of_le h,Bi.cnts]
 cases l.drop i with
 | nil=>rw [Bi.cnts]
 | cons x l=>rw [Bi.cnts,if_neg (by omega)]
theorem Al.cnts_end {l:List Al} {i:Nat} {m n:Int} (h:l.length≤i∨m≤n):Al.cnts (l.drop i) m n=n:=by
 rcases h with h|h
 ·rw [List.drop_eq_nil_of_le h,Al.cnts]
 cases l.drop i with
 | nil=>rw [Al.cnts]
 | cons x l=>rw [Al.cnts,if_neg (by omega)]
theorem drop_get {α:Type} {l:List α} {i:Nat} {x:α} (h:l[i]?=some x):l.drop i=x::l.drop (i+1):=by
 obtain ⟨hi,rfl⟩:=List.getElem?_eq_some_iff.1 h
 exact List.drop_eq_getElem_cons hi
mutual
theorem Ex.cnt_b:∀ (e:Ex) (m:Int),e.Lim→1≤m→m≤2000→1≤e.cnt m∧e.cnt m≤562949953421312 * m∧e.cnt m≤e.full∧(e.cnt m<m→e.cnt m=e.full)
 | .mk k s n t ks al bs p,m=>by
  intro hl h1 h2
  rw [Ex.Lim] at hl
  obtain ⟨l1,l2,l3,l4⟩:=hl
  rw [Ex.cnt,Ex.full]
  obtain ⟨a1,a2,a3,a4⟩:=Ex.cnts_b ks m (1+t.kn) l2 h1 h2 (by omega) (by omega)
  generalize Ex.cnts ks m (1+t.kn)=n1 at *
  obtain ⟨b1,b2,b3,b4⟩:=Bi.cnts_b bs m n1 l3 h1 h2 (by omega) (by omega)
  generalize Bi.cnts bs m n1=n2 at *
  obtain ⟨c1,c2,c3,c4⟩:=Al.cnts_b al m n2 l4 h1 h2 (by omega) (by omega)
  generalize Al.cnts al m n2=n3 at *
  omega
theorem Ex.cnts_b:∀ (l:List Ex) (m n:Int),Ex.Lims l→1≤m→m≤2000→1≤n→n≤562949953421312 * m→n≤Ex.cnts l m n∧Ex.cnts l m n≤562949953421312 * m∧Ex.cnts l m n≤n+Ex.fulls l∧(Ex.cnts l m n<m→Ex.cnts l m n=n+Ex.fulls l)
 | [],m,n=>by intro _ _ _ _ _;simp only [Ex.cnts,Ex.fulls];omega
 | x::xs,m,n=>by
  intro hl h1 h2 h3 h4
  rw [Ex.Lims] at hl
  rw [Ex.cnts,Ex.fulls]
  split
  ·rename_i h
   obtain ⟨a1,a2,a3,a4⟩:=Ex.cnt_b x (m - n) hl.1 (by omega) (by omega)
   generalize x.cnt (m - n)=c at *
   obtain ⟨b1,b2,b3,b4⟩:=Ex.cnts_b xs m (n+c) hl.2 h1 h2 (by omega) (by omega)
   generalize Ex.cnts xs m (n+c)=r at *
   omega
  omega
theorem Bi.cnt_b:∀ (e:Bi) (m:Int),e.Lim→1≤m→m≤2000→2≤e.cnt m∧e.cnt m≤1+562949953421312 * m∧e.cnt m≤e.full∧(e.cnt m<m→e.cnt m=e.full)
 | .mk s e p,m=>by
  intro hl h1 h2
  rw [Bi.Lim] at hl
  rw [Bi.cnt,Bi.full]
  have:=Ex.cnt_b e m hl h1 h2
  omega
theorem Bi.cnts_b:∀ (l:List Bi) (m n:Int),Bi.Lims l→1≤m→m≤2000→1≤n→n≤562949953421312 * m→n≤Bi.cnts l m n∧Bi.cnts l m n≤562949953421312 * m∧Bi.cnts l m n≤n+Bi.fulls l∧(Bi.cnts l m n<m→Bi.cnts l m n=n+Bi.fulls l)
 | [],m,n=>by intro _ _ _ _ _;simp only [Bi.cnts,Bi.fulls];omega
 | x::xs,m,n=>by
  intro hl h1 h2 h3 h4
  rw [Bi.Lims] at hl
  rw [Bi.cnts,Bi.fulls]
  split
  ·rename_i h
   obtain ⟨a1,a2,a3,a4⟩:=Bi.cnt_b x (m - n) hl.1 (by omega) (by omega)
   generalize x.cnt (m - n)=c at *
   obtain ⟨b1,b2,b3,b4⟩:=Bi.cnts_b xs m (n+c) hl.2 h1 h2 (by omega) (by omega)
   generalize Bi.cnts xs m (n+c)=r at *
   omega
  omega
theorem Al.cnt_b:∀ (e:Al) (m:Int),e.Lim→1≤m→m≤2000→2≤e.cnt m∧e.cnt m≤1+562949953421312 * m+140737488355328∧e.cnt m≤e.full∧(e.cnt m<m→e.cnt m=e.full)
 | .mk q e,m=>by
  intro hl h1 h2
  rw [Al.Lim] at hl
  rw [Al.cnt,Al.full]
  have:=Ex.cnt_b e m hl.1 h1 h2
  omega
theorem Al.cnts_b:∀ (l:List Al) (m n:Int),Al.Lims l→1≤m→m≤2000→1≤n→n≤562949953421312 * m→n≤Al.cnts l m n∧Al.cnts l m n≤562949953421312 * m∧Al.cnts l m n≤n+Al.fulls l∧(Al.cnts l m n<m→Al.cnts l m n=n+Al.fulls l)
 | [],m,n=>by intro _ _ _ _ _;simp only [Al.cnts,Al.fulls];omega
 | x::xs,m,n=>by
  intro hl h1 h2 h3 h4
  rw [Al.Lims] at hl
  rw [Al.cnts,Al.fulls]
  split
  ·rename_i h
   obtain ⟨a1,a2,a3,a4⟩:=Al.cnt_b x (m - n) hl.1 (by omega) (by omega)
   generalize x.cnt (m - n)=c at *
   obtain ⟨b1,b2,b3,b4⟩:=Al.cnts_b xs m (n+c) hl.2 h1 h2 (by omega) (by omega)
   generalize Al.cnts xs m (n+c)=r at *
   omega
  omega
end
theorem Ex.cellss_app (a b:List Ex):Ex.cellss (a++b)=Ex.cellss a++Ex.cellss b:=by simp [Ex.cellss_map]
mutual
def Co.full:Co→Nat
 | .mk _ _ _ _ ts ks al bs=>1+ts.length+Co.fulls ks+Ca.fulls al+Cb.fulls bs
def Co.fulls:List Co→Nat
 | []=>0
 | x::xs=>x.full+Co.fulls xs
def Ca.full:Ca→Nat
 | .mk q e=>1+e.full+q.kn
def Ca.fulls:List Ca→Nat
 | []=>0
 | x::xs=>x.full+Ca.fulls xs
def Cb.full:Cb→Nat
 | .mk _ vs _ e=>1+e.full+vs.length
def Cb.fulls:List Cb→Nat
 | []=>0
 | x::xs=>x.full+Cb.fulls xs
end
mutual
def Co.Lim:Co→Prop
 | .mk _ _ _ _ ts ks al bs=>ts.length≤140737488355328∧Co.Lims ks∧Ca.Lims al∧Cb.Lims bs
def Co.Lims:List Co→Prop
 | []=>True
 | x::xs=>x.Lim∧Co.Lims xs
def Ca.Lim:Ca→Prop
 | .mk q e=>e.Lim∧q.kn≤140737488355328
def Ca.Lims:List Ca→Prop
 | []=>True
 | x::xs=>x.Lim∧Ca.Lims xs
def Cb.Lim:Cb→Prop
 | .mk _ vs _ e=>e.Lim∧vs.length≤140737488355328
def Cb.Lims:List Cb→Prop
 | []=>True
 | x::xs=>x.Lim∧Cb.Lims xs
end
mutual
def Co.Ok:Co→Prop
 | .mk _ _ _ t ts ks al bs=>t.small 60=true∧(ts.all fun t=>t.small 60)=true∧Co.Oks ks∧Ca.Oks al∧Cb.Oks bs
def Co.Oks:List Co→Prop
 | []=>True
 | x::xs=>x.Ok∧Co.Oks xs
def Ca.Ok:Ca→Prop
 | .mk _ e=>e.Ok
def Ca.Oks:List Ca→Prop
 | []=>True
 | x::xs=>x.Ok∧Ca.Oks xs
def Cb.Ok:Cb→Prop
 | .mk _ _ t e=>t.small 60=true∧e.Ok
def Cb.Oks:List Cb→Prop
 | []=>True
 | x::xs=>x.Ok∧Cb.Oks xs
end
theorem Co.lims_iff:∀ l:List Co,Co.Lims l↔∀ x∈l,x.Lim
 | []=>by simp [Co.Lims]
 | x::l=>by simp [Co.Lims,Co.lims_iff l]
theorem Ca.lims_iff:∀ l:List Ca,Ca.Lims l↔∀ x∈l,x.Lim
 | []=>by simp [Ca.Lims]
 | x::l=>by simp [Ca.Lims,Ca.lims_iff l]
theorem Cb.lims_iff:∀ l:List Cb,Cb.Lims l↔∀ x∈l,x.Lim
 | []=>by simp [Cb.Lims]
 | x::l=>by simp [Cb.Lims,Cb.lims_iff l]
mutual
def Co.cnt:Co→Int→Int
 | .mk _ _ _ t ts ks al bs,m=>if t.small 60=false then m else if (ts.all fun t=>t.small 60)=false then m else Cb.cnts bs m (Ca.cnts al m (Co.cnts ks m (1+ts.length)))
def Co.cnts:List Co→Int→Int→Int
 | [],_,n=>n
 | x::xs,m,n=>if n<m then Co.cnts xs m (n+x.cnt (m - n)) else n
def Ca.cnt:Ca→Int→Int
 | .mk q e,m=>1+e.cnt m+q.kn
def Ca.cnts:List Ca→Int→Int→Int
 | [],_,n=>n
 | x::xs,m,n=>if n<m then Ca.cnts xs m (n+x.cnt (m - n)) else n
def Cb.cnt:Cb→Int→Int
 | .mk _ vs _ e,m=>1+e.cnt m+vs.length
def Cb.cnts:List Cb→Int→Int→Int
 | [],_,n=>n
 | x::xs,m,n=>if n<m then (if x.t.small 60=false then m else Cb.cnts xs m (n+x.cnt (m - n))) else n
end
theorem Co.cnts_end {l:List Co} {i:Nat} {m n:Int} (h:¬ (i<l.length∧n<m)):Co.cnts (l.drop i) m n=n:=by
 by_cases q:i<l.length
 ·cases l.drop i with
  | nil=>rw [Co.cnts]
  | cons x l=>rw [Co.cnts,if_neg (by omega)]
 rw [List.drop_eq_nil_of_le (by omega),Co.cnts]
theorem Ca.cnts_end {l:List Ca} {i:Nat} {m n:Int} (h:¬ (i<l.length∧n<m)):Ca.cnts (l.drop i) m n=n:=by
 by_cases q:i<l.length
 ·cases l.drop i with
  | nil=>rw [Ca.cnts]
  | cons x l=>rw [Ca.cnts,if_neg (by omega)]
 rw [List.drop_eq_nil_of_le (by omega),Ca.cnts]
theorem Cb.cnts_end {l:List Cb} {i:Nat} {m n:Int} (h:¬ (i<l.length∧n<m)):Cb.cnts (l.drop i) m n=n:=by
 by_cases q:i<l.length
 ·cases l.drop i with
  | nil=>rw [Cb.cnts]
  | cons x l=>rw [Cb.cnts,if_neg (by omega)]
 rw [List.drop_eq_nil_of_le (by omega),Cb.cnts]
mutual
theorem Co.cnt_b:∀ (e:Co) (m:Int),e.Lim→1≤m→m≤2000→1≤e.cnt m∧e.cnt m≤562949953421312 * m∧(e.cnt m<m→e.cnt m=e.full∧e.Ok)
 | .mk k s n t ts ks al bs,m=>by
  intro hl h1 h2
  rw [Co.Lim] at hl
  obtain ⟨l1,l2,l3,l4⟩:=hl
  rw [Co.cnt,Co.full,Co.Ok]
  by_cases q:t.small 60=false
  ·rw [if_pos q]
   exact ⟨h1,by omega,fun h=>absurd h (by omega)⟩
  rw [if_neg q]
  by_cases q2:(ts.all fun t=>t.small 60)=false
  ·rw [if_pos q2]
   exact ⟨h1,by omega,fun h=>absurd h (by omega)⟩
  rw [if_neg q2]
  have q:t.small 60=true:=by simpa using q
  have q2:(ts.all fun t=>t.small 60)=true:=by simpa using q2
  obtain ⟨a1,a2,a4⟩:=Co.cnts_b ks m (1+ts.length) l2 h1 h2 (by omega) (by omega)
  generalize Co.cnts ks m (1+ts.length)=n1 at *
  obtain ⟨b1,b2,b4⟩:=Ca.cnts_b al m n1 l3 h1 h2 (by omega) (by omega)
  generalize Ca.cnts al m n1=n2 at *
  obtain ⟨c1,c0,c2,c4⟩:=Cb.cnts_b bs m n2 l4 h1 h2 (by omega) (by omega)
  generalize Cb.cnts bs m n2=n3 at *
  refine ⟨c0,c2,fun h=>?_⟩
  obtain ⟨_,c5,c6⟩:=c4 h
  obtain ⟨b5,b6⟩:=b4 (by omega)
  obtain ⟨a5,a6⟩:=a4 (by omega)
  exact ⟨by omega,q,q2,a6,b6,c6⟩
theorem Co.cnts_b:∀ (l:List Co) (m n:Int),Co.Lims l→1≤m→m≤2000→1≤n→n≤562949953421312 * m→n≤Co.cnts l m n∧Co.cnts l m n≤562949953421312 * m∧(Co.cnts l m n<m→Co.cnts l m n=n+Co.fulls l∧Co.Oks l)
 | [],m,n=>by intro _ _ _ _ h;simp only [Co.cnts,Co.fulls,Co.Oks];exact ⟨by omega,h,fun _=>⟨by omega,trivial⟩⟩
 | x::xs,m,n=>by
  intro hl h1 h2 h3 h4
  rw [Co.Lims] at hl
  rw [Co.cnts,Co.fulls,Co.Oks]
  split
  ·rename_i h
   obtain ⟨a1,a2,a4⟩:=Co.cnt_b x (m - n) hl.1 (by omega) (by omega)
   generalize x.cnt (m - n)=c at *
   obtain ⟨b1,b2,b4⟩:=Co.cnts_b xs m (n+c) hl.2 h1 h2 (by omega) (by omega)
   generalize Co.cnts xs m (n+c)=r at *
   refine ⟨by omega,b2,fun h=>?_⟩
   obtain ⟨b5,b6⟩:=b4 h
   obtain ⟨a5,a6⟩:=a4 (by omega)
   exact ⟨by omega,a6,b6⟩
  rename_i h
  exact ⟨by omega,h4,fun q=>absurd q h⟩
theorem Ca.cnt_b:∀ (e:Ca) (m:Int),e.Lim→1≤m→m≤2000→2≤e.cnt m∧e.cnt m≤1+562949953421312 * m+140737488355328∧(e.cnt m<m→e.cnt m=e.full∧e.Ok)
 | .mk q e,m=>by
  intro hl h1 h2
  rw [Ca.Lim] at hl
  rw [Ca.cnt,Ca.full,Ca.Ok]
  obtain ⟨a1,a2,a4⟩:=Co.cnt_b e m hl.1 h1 h2
  refine ⟨by omega,by omega,fun h=>?_⟩
  obtain ⟨a5,a6⟩:=a4 (by omega)
  exact ⟨by omega,a6⟩
theorem Ca.cnts_b:∀ (l:List Ca) (m n:Int),Ca.Lims l→1≤m→m≤2000→1≤n→n≤562949953421312 * m→n≤Ca.cnts l m n∧Ca.cnts l m n≤562949953421312 * m∧(Ca.cnts l m n<m→Ca.cnts l m n=n+Ca.fulls l∧Ca.Oks l)
 | [],m,n=>by intro _ _ _ _ h;simp only [Ca.cnts,Ca.fulls,Ca.Oks];exact ⟨by omega,h,fun _=>⟨by omega,trivial⟩⟩
 | x::xs,m,n=>by
  intro hl h1 h2 h3 h4
  rw [Ca.Lims] at hl
  rw [Ca.cnts,Ca.fulls,Ca.Oks]
  split
  ·rename_i h
   obtain ⟨a1,a2,a4⟩:=Ca.cnt_b x (m - n) hl.1 (by omega) (by omega)
   generalize x.cnt (m - n)=c at *
   obtain ⟨b1,b2,b4⟩:=Ca.cnts_b xs m (n+c) hl.2 h1 h2 (by omega) (by omega)
   generalize Ca.cnts xs m (n+c)=r at *
   refine ⟨by omega,b2,fun h=>?_⟩
   obtain ⟨b5,b6⟩:=b4 h
   obtain ⟨a5,a6⟩:=a4 (by omega)
   exact ⟨by omega,a6,b6⟩
  rename_i h
  exact ⟨by omega,h4,fun q=>absurd q h⟩
theorem Cb.cnt_b:∀ (e:Cb) (m:Int),e.Lim→1≤m→m≤2000→2≤e.cnt m∧e.cnt m≤1+562949953421312 * m+140737488355328∧(e.cnt m<m→e.cnt m=e.full∧e.e.Ok)
 | .mk s vs t e,m=>by
  intro hl h1 h2
  rw [Cb.Lim] at hl
  rw [Cb.cnt,Cb.full,Cb.e]
  obtain ⟨a1,a2,a4⟩:=Co.cnt_b e m hl.1 h1 h2
  refine ⟨by omega,by omega,fun h=>?_⟩
  obtain ⟨a5,a6⟩:=a4 (by omega)
  exact ⟨by omega,a6⟩
theorem Cb.cnts_b:∀ (l:List Cb) (m n:Int),Cb.Lims l→1≤m→m≤2000→1≤n→n≤562949953421312 * m→(n<m→n≤Cb.cnts l m n)∧1≤Cb.cnts l m n∧Cb.cnts l m n≤562949953421312 * m∧(Cb.cnts l m n<m→n≤Cb.cnts l m n∧Cb.cnts l m n=n+Cb.fulls l∧Cb.Oks l)
 | [],m,n=>by intro _ _ _ h0 h;simp only [Cb.cnts,Cb.fulls,Cb.Oks];exact ⟨fun _=>by omega,h0,h,fun _=>⟨by omega,by omega,trivial⟩⟩
 | .mk s vs t e::xs,m,n=>by
  intro hl h1 h2 h3 h4
  rw [Cb.Lims] at hl
  rw [Cb.cnts,Cb.fulls,Cb.Oks,Cb.Ok]
  split
  ·rename_i h
   split
   ·exact ⟨fun _=>by omega,h1,by omega,fun q=>absurd q (by omega)⟩
   rename_i ht
   obtain ⟨a1,a2,a4⟩:=Cb.cnt_b (.mk s vs t e) (m - n) hl.1 (by omega) (by omega)
   generalize (Cb.mk s vs t e).cnt (m - n)=c at *
   obtain ⟨b0,b1,b2,b4⟩:=Cb.cnts_b xs m (n+c) hl.2 h1 h2 (by omega) (by omega)
   generalize Cb.cnts xs m (n+c)=r at *
   have hle:n≤r:=by
    by_cases q:r<m
    ·have:=(b4 q).1;omega
    omega
   refine ⟨fun _=>hle,b1,b2,fun h=>?_⟩
   obtain ⟨b7,b5,b6⟩:=b4 h
   obtain ⟨a5,a6⟩:=a4 (by omega)
   exact ⟨hle,by omega,⟨by simpa [Cb.t] using ht,a6⟩,b6⟩
  rename_i h
  exact ⟨fun q=>absurd q h,h3,h4,fun q=>absurd q h⟩
end
theorem rel_agg' {F:EH} {v:Value} {cs:List AV} (hl:cs.length≠1) (h:Rels F cs v.cells.toList) (h1:Ones v.cells.toList):Rel F (.agg cs) v:=by
 refine rel_agg ?_ h h1
 have:=h.len
 cases v <;> first|exact ⟨_,rfl⟩|(exfalso;exact hl (by rw [this];rfl))
theorem cellsOf_pa:Tryz.prog.cellsOf 67=5:=by kernel_rfl
theorem cellsOf_co:Tryz.prog.cellsOf 29=11:=by kernel_rfl
theorem cellsOf_ca:Tryz.prog.cellsOf 69=16:=by kernel_rfl
theorem cellsOf_cb:Tryz.prog.cellsOf 46=17:=by kernel_rfl
theorem shapeL_ty (L fuel:Nat):∀ cs,ShapeL Tryz.prog L fuel 24 cs→∃ t:Ty,cs=t.cells∧t.kn≤L:=by
 induction fuel using Nat.strongRecOn with
 | _ fuel ih =>
  intro cs h
  obtain ⟨n,hn,h⟩:=shapeL_struct Tryz.underlying24 h
  simp only [ShapeLF] at h
  obtain ⟨a1,b1,rfl,h1,a2,b2,rfl,h2,a3,b3,rfl,h3,a4,b4,rfl,h4,rfl⟩:=h
  obtain ⟨k,_,rfl⟩:=shapeL_int tu_3 h1
  obtain ⟨s,_,rfl⟩:=shapeL_str Xf h2
  obtain ⟨m,_,rfl⟩:=shapeL_int tu_3 h3
  obtain ⟨n',es,hn',rfl,hl,h5⟩:=shapeL_slice tu_22 h4
  obtain ⟨ts,rfl,_⟩:=pick_all2 (f:=Ty.cells) (fun x hx=>ih n' (by omega) x (h5 x hx))
  refine ⟨.mk k s m ts,?_,by rw [Ty.kn];simpa using hl⟩
  rw [cellsOf_ty,← Ty.cellss_map]
  rfl
theorem shapeL_pa (L fuel:Nat):∀ cs,ShapeL Tryz.prog L fuel 67 cs→∃ t:Pa,cs=t.cells∧t.kn≤L:=by
 induction fuel using Nat.strongRecOn with
 | _ fuel ih =>
  intro cs h
  obtain ⟨n,hn,h⟩:=shapeL_struct Tryz.underlying67 h
  simp only [ShapeLF] at h
  obtain ⟨a1,b1,rfl,h1,a2,b2,rfl,h2,a3,b3,rfl,h3,a4,b4,rfl,h4,a5,b5,rfl,h6,rfl⟩:=h
  obtain ⟨k,_,rfl⟩:=shapeL_int tu_3 h1
  obtain ⟨s,_,rfl⟩:=shapeL_str Xf h2
  obtain ⟨m,_,rfl⟩:=shapeL_int tu_2 h3
  obtain ⟨p,_,rfl⟩:=shapeL_int tu_3 h6
  obtain ⟨n',es,hn',rfl,hl,h5⟩:=shapeL_slice tu_65 h4
  obtain ⟨ts,rfl,_⟩:=pick_all2 (f:=Pa.cells) (fun x hx=>ih n' (by omega) x (h5 x hx))
  refine ⟨.mk k s m ts p,?_,by rw [Pa.kn];simpa using hl⟩
  rw [cellsOf_pa,← Pa.cellss_map]
  rfl
theorem shapeL_tys {L fuel:Nat} {cs:List AV} (h:ShapeL Tryz.prog L fuel 22 cs):∃ ts:List Ty,cs=[.seq 4 (Ty.cellss ts)]∧ts.length≤L:=by
 obtain ⟨n',es,hn',rfl,hl,h5⟩:=shapeL_slice tu_22 h
 obtain ⟨ts,rfl,_⟩:=pick_all2 (f:=Ty.cells) (p:=fun _=>True) (fun x hx=>by
  obtain ⟨t,ht,_⟩:=shapeL_ty L n' x (h5 x hx)
  exact ⟨t,ht,trivial⟩)
 exact ⟨ts,by rw [cellsOf_ty,← Ty.cellss_map],by simpa using hl⟩
theorem shapeL_strs {L fuel:Nat} {cs:List AV} (h:ShapeL Tryz.prog L fuel 44 cs):∃ ts:List ByteArray,cs=[.seq 1 (strs ts)]∧ts.length≤L:=by
 obtain ⟨n',es,hn',rfl,hl,h5⟩:=shapeL_slice tu_44 h
 obtain ⟨ts,rfl,_⟩:=pick_all2 (f:=fun s:ByteArray=>[AV.val (.string s)]) (p:=fun _=>True) (fun x hx=>by
  obtain ⟨s,_,rfl⟩:=shapeL_str Xf (h5 x hx)
  exact ⟨s,V,trivial⟩)
 exact ⟨ts,by rw [cellsOf_str];rfl,by simpa using hl⟩
theorem shapeL_co (L:Nat) (hL:L≤140737488355328) (fuel:Nat):∀ cs,ShapeL Tryz.prog L fuel 29 cs→∃ e:Co,cs=e.cells∧e.Lim:=by
 induction fuel using Nat.strongRecOn with
 | _ fuel ih =>
  intro cs h
  obtain ⟨n,hn,h⟩:=shapeL_struct Tryz.underlying29 h
  simp only [ShapeLF] at h
  obtain ⟨a1,b1,rfl,h1,a2,b2,rfl,h2,a3,b3,rfl,h3,a4,b4,rfl,h4,a5,b5,rfl,h5,a6,b6,rfl,h6,a7,b7,rfl,h7,a8,b8,rfl,h8,rfl⟩:=h
  obtain ⟨k,_,rfl⟩:=shapeL_int tu_3 h1
  obtain ⟨s,_,rfl⟩:=shapeL_str Xf h2
  obtain ⟨m,_,rfl⟩:=shapeL_int tu_2 h3
  obtain ⟨t,rfl,_⟩:=shapeL_ty _ _ _ h4
  obtain ⟨us,rfl,hus⟩:=shapeL_tys h5
  obtain ⟨n6,e6,hn6,rfl,hl6,h6⟩:=shapeL_slice tu_25 h6
  obtain ⟨ks,rfl,hks⟩:=pick_all2 (f:=Co.cells) (fun x hx=>ih n6 (by omega) x (h6 x hx))
  obtain ⟨n7,e7,hn7,rfl,hl7,h7⟩:=shapeL_slice tu_26 h7
  obtain ⟨al,rfl,hal⟩:=pick_all2 (f:=Ca.cells) (p:=Ca.Lim) (fun x hx=>by
   obtain ⟨n',hn',g⟩:=shapeL_struct Tryz.underlying69 (h7 x hx)
   simp only [ShapeLF] at g
   obtain ⟨a1,b1,rfl,g1,a2,b2,rfl,g2,rfl⟩:=g
   obtain ⟨q,rfl,hq⟩:=shapeL_pa _ _ _ g1
   obtain ⟨e,rfl,he⟩:=ih n' (by omega) _ g2
   exact ⟨.mk q e,by simp [Ca.cells],by rw [Ca.Lim];exact ⟨he,by omega⟩⟩)
  obtain ⟨n8,e8,hn8,rfl,hl8,h8⟩:=shapeL_slice tu_27 h8
  obtain ⟨bs,rfl,hbs⟩:=pick_all2 (f:=Cb.cells) (p:=Cb.Lim) (fun x hx=>by
   obtain ⟨n',hn',g⟩:=shapeL_struct Tryz.underlying46 (h8 x hx)
   simp only [ShapeLF] at g
   obtain ⟨a1,b1,rfl,g1,a2,b2,rfl,g2,a3,b3,rfl,g3,a4,b4,rfl,g4,rfl⟩:=g
   obtain ⟨s,_,rfl⟩:=shapeL_str Xf g1
   obtain ⟨vs,rfl,hvs⟩:=shapeL_strs g2
   obtain ⟨t,rfl,_⟩:=shapeL_ty _ _ _ g3
   obtain ⟨e,rfl,he⟩:=ih n' (by omega) _ g4
   exact ⟨.mk s vs t e,by simp [Cb.cells],by rw [Cb.Lim];exact ⟨he,by omega⟩⟩)
  refine ⟨.mk k s m t us ks al bs,?_,?_⟩
  ·rw [cellsOf_co,cellsOf_ca,cellsOf_cb,← Co.cellss_map,← Ca.cellss_map,← Cb.cellss_map,Co.cells]
   simp
  rw [Co.Lim]
  exact ⟨by omega,(Co.lims_iff _).2 hks,(Ca.lims_iff _).2 hal,(Cb.lims_iff _).2 hbs⟩
abbrev S21:List TypeId:=[24,22,3,2,9,44,67,65,29,25,69,26,46,27]
theorem Co.cells_len (e:Co):e.cells.length=11:=by cases e with|mk k s n t ts ks al bs=>cases t;simp [Co.cells,Ty.cells]
theorem okw_str {P:Program} {W:World} {r:Reach} {b:Nat} {t:TypeId} {v:Value} (ht:P.underlying t=some .string) (h:Value.okWide P W r b t v):∀ a,v≠.agg a:=by
 rintro a rfl
 unfold Value.okWide at h
 rw [ht] at h
 simp only [Cell.okWide,Cell.ok,ht] at h
theorem shapeL_cb {L:Nat} (hL:L≤140737488355328) {fuel:Nat} {cs:List AV} (h:ShapeL Tryz.prog L fuel 46 cs):∃ b:Cb,cs=b.cells∧b.Lim:=by
 obtain ⟨n',hn',g⟩:=shapeL_struct Tryz.underlying46 h
 simp only [ShapeLF] at g
 obtain ⟨a1,b1,rfl,g1,a2,b2,rfl,g2,a3,b3,rfl,g3,a4,b4,rfl,g4,rfl⟩:=g
 obtain ⟨s,_,rfl⟩:=shapeL_str Xf g1
 obtain ⟨vs,rfl,hvs⟩:=shapeL_strs g2
 obtain ⟨t,rfl,_⟩:=shapeL_ty _ _ _ g3
 obtain ⟨e,rfl,he⟩:=shapeL_co L hL _ _ g4
 exact ⟨.mk s vs t e,by simp [Cb.cells],by rw [Cb.Lim];exact ⟨he,by omega⟩⟩
theorem shapeL_cbs {L:Nat} (hL:L≤140737488355328) {fuel:Nat} {cs:List AV} (h:ShapeL Tryz.prog L fuel 27 cs):∃ bs:List Cb,cs=[.seq 17 (Cb.cellss bs)]∧(∀ b∈bs,b.Lim)∧bs.length≤L:=by
 obtain ⟨n',es,hn',rfl,hl,h5⟩:=shapeL_slice tu_27 h
 obtain ⟨bs,rfl,hbs⟩:=pick_all2 (f:=Cb.cells) (p:=Cb.Lim) (fun x hx=>shapeL_cb hL (h5 x hx))
 exact ⟨bs,by rw [cellsOf_cb,← Cb.cellss_map],hbs,by simpa using hl⟩
abbrev S22:List TypeId:=S21++[36]
theorem Cb.cells_len (b:Cb):b.cells.length=17:=by cases b with|mk s vs t e=>cases t;simp [Cb.cells,Ty.cells,Co.cells_len]
theorem upto_witness {H:Type} {enc:TypeId × Value→H} {C:Checked} {os:Os} {f:FuncId} {fn:Func} {s:OpenSpec} {k:(H:Type)→List (DataW H)→Bool} (hk:s.cond=some k) {conds:List PathCond} {apart:Bool} (modest:Bool) (i:Input) (fuel:Nat)
    (hv:(World.plainHolding C.prog os i).variablesB C.prog=true)
    (hr:((World.plainHolding C.prog os i).heap.toList.drop C.prog.globals.size).take ((begin C.prog (fun _ _=>0) default).world.heap.size - C.prog.globals.size) =
     (begin C.prog (fun _ _=>0) default).world.heap.toList.drop C.prog.globals.size)
    (hok:Input.okWideB C.prog (World.plainHolding C.prog os i) f ⟨#[],i.args,[]⟩=true)
    (hx:(match DataW.whole enc C.prog (World.plainHolding C.prog os i).memory fn.params.toList s.vars apart i.args.toList fuel with|some x=>conds.all (PathCond.test C.prog ⟨fn.params.toList,x.1,s.bare.plain.varTypes C.prog,x.2.1⟩) && k H (x.1++x.2.1)|none=>false)=true)
    (hsz:s.bare.sizedB enc C.prog fn apart (World.plainHolding C.prog os i).memory i.args fuel=true) :
    ∃ (w:World) (tape:Tape) (i:Input),w.os=os∧(w.forCall tape i).Shaped C.prog∧i.vars=[]∧Input.okWide C.prog (w.forCall tape i) .any w.heap.size f i ∧
     s.pre6 enc C.prog fn conds apart (w.forCall tape i).memory i.args∧({ modest:=modest }:Assume).holds C.prog (lone (Frame.enter C.prog f i.args .normal) [] (w.forCall tape i)):=by
 cases e:DataW.whole enc C.prog (World.plainHolding C.prog os i).memory fn.params.toList s.vars apart i.args.toList fuel with
 | none=>rw [e] at hx;cases hx
 | some x =>
  rw [e] at hx
  simp only [Bool.and_eq_true] at hx
  exact OpenSpec.witness hk modest i fuel hv hr hok e hx.1 hx.2 hsz
theorem uptoBulk_at {H:Type}:∀ {ds:List (DataW H)} {j:Nat} {d:DataW H},ds[j]?=some d→uptoBulk d≤uptoBulkAll ds
 | [],_,_,h=>by simp at h
 | x::ds,0,d,h=>by simp at h;subst h;simp only [uptoBulk,uptoBulkAll,Rows.uptoBulkAll];omega
 | x::ds,j+1,d,h=>by
  have:=uptoBulk_at (ds:=ds) (j:=j) (by simpa using h)
  simp only [uptoBulk,uptoBulkAll,Rows.uptoBulkAll] at *;omega
theorem upto_le {H:Type} {ds:List (DataW H)} {j:Nat} {d:DataW H} (hk:Rows.uptoSmall H ds=true) (h:ds[j]?=some d):uptoBulk d≤1048576:=by
 have h1:=uptoBulk_at h
 have h2:uptoBulkAll ds≤1048576:=of_decide_eq_true hk
 omega
def W63 (n:Int):Int:=(n+4611686018427387904) % 9223372036854775808 - 4611686018427387904
theorem W63_id (n:Int) (h1 : -4611686018427387904≤n) (h2:n≤4611686018427387903):W63 n=n:=by unfold W63;omega
theorem W63_congr {a b:Int} (h:a % 9223372036854775808=b % 9223372036854775808):W63 a=W63 b:=by unfold W63;omega
def R63 (n:Int):Int:=n % 9223372036854775808
theorem R63_lo (n:Int):0≤R63 n:=by unfold R63;omega
theorem R63_hi (n:Int):R63 n≤9223372036854775807:=by unfold R63;omega
theorem R63_u64 (n:Int):(IntKind.u64.wrap n).tmod 9223372036854775808=R63 n:=by
 rw [Int.tmod_eq_emod_of_nonneg (by simp [IntKind.wrap_u64];omega)]
 simp only [IntKind.wrap_u64,R63];omega
theorem W63_R63 (n:Int):W63 (R63 n)=W63 n:=W63_congr (by unfold R63;omega)
def sgn (u:Int) (neg:Bool):Int:=if neg then -u else u
end Go.Proofs.YteepjjgooplljaaGreat
namespace Go.Proofs.YteepjjgooplljaaGreat
def bytesN (s:ByteArray):List Nat:=s.data.toList.map UInt8.toNat
theorem bytesN_len (s:ByteArray):(bytesN s).length=s.size:=by simp [bytesN]
theorem bytesN_get (s:ByteArray) (k:Nat) (h:k<s.size) (h':k<(bytesN s).length):(bytesN s)[k]=(s[k]).toNat:=by
 simp [bytesN];rfl
theorem bytesN_lt (s:ByteArray):∀ x∈bytesN s,x<256:=by
 intro x hx
 simp only [bytesN,List.mem_map] at hx
 obtain ⟨b,_,rfl⟩:=hx
 exact b.toNat_lt
def byteAt (ls:List Nat) (i:Nat):Nat:=ls.getD (i / 8) 0 / 256 ^ (i % 8) % 256
def bytesOf (ls:List Nat) (n:Nat):List Nat:=(List.range n).map (byteAt ls)
def strN (b:List Nat):ByteArray:=strOfNums (b.map fun x:Nat=>(x:Int))
theorem strN_size (b:List Nat):(strN b).size=b.length:=by simp [strN,strOfNums_size]
theorem bytesN_strN (b:List Nat) (h:∀ x∈b,x<256):bytesN (strN b)=b:=by
 unfold bytesN strN
 rw [strOfNums_data,List.map_map,List.map_map]
 conv=>rhs;rw [← List.map_id b]
 apply List.map_congr_left
 intro x hx
 have:=h x hx
 simp;omega
theorem strN_bytesN (s:ByteArray):strN (bytesN s)=s:=by
 apply Go.WideShapes.bytes_inj
 unfold bytesN strN
 rw [strOfNums_data,List.map_map,List.map_map]
 conv=>rhs;rw [← List.map_id s.data.toList]
 apply List.map_congr_left
 intro x _
 simp
def rst (s:ByteArray) (i:Nat):List Nat:=(bytesN s).drop i
theorem rst_len (s:ByteArray) (i:Nat):(rst s i).length=s.size - i:=by unfold rst;rw [List.length_drop,bytesN_len]
theorem rst_nil {s:ByteArray} {i:Nat} (h:s.size≤i):rst s i=[]:=by
 apply List.eq_nil_of_length_eq_zero;rw [rst_len];omega
theorem Yz {s:ByteArray} {i:Nat} (h:i<s.size):∃ b:UInt8,s[i]?=some b∧rst s i=b.toNat::rst s (i+1)∧b.toNat<256:=by
 refine ⟨s[i],?_,?_,UInt8.toNat_lt _⟩
 ·simp [h]
 unfold rst
 have h':i<(bytesN s).length:=by rw [bytesN_len];exact h
 rw [List.drop_eq_getElem_cons h',bytesN_get s i h h']
theorem rst_drop (s:ByteArray) (i n:Nat):(rst s i).drop n=rst s (i+n):=by unfold rst;rw [List.drop_drop]
theorem rst_cut (s:ByteArray) (i j:Nat):s.extract i j=strN ((rst s i).take (j - i)):=by
 rw [← strN_bytesN (s.extract i j)]
 congr 1
 unfold rst bytesN
 rw [ByteArray.data_extract,Array.toList_extract,List.extract_eq_take_drop,List.map_take,List.map_drop]
theorem rst_lt (s:ByteArray) (i:Nat):∀ x∈rst s i,x<256:=fun x hx=>bytesN_lt s x (List.mem_of_mem_drop hx)

/- what bytes are -/
def smallC (c:Nat):Bool:=(97≤c && c≤122) || c == 95
def greatC (c:Nat):Bool:=65≤c && c≤90
def digitC (c:Nat):Bool:=48≤c && c≤57
def nameC (c:Nat):Bool:=smallC c || greatC c || digitC c || c == 39
def signL:List Nat:=[33,36,37,38,42,43,46,47,60,61,62,63,64,94,124,126,58,45]
def signC (c:Nat):Bool:=signL.contains c
def blankC (c:Nat):Bool:=c == 32 || c == 9 || c == 10 || c == 13
def kindC (k c:Nat):Bool:=if k=1 then nameC c else if k=2 then digitC c else signC c
def run (k:Nat):List Nat→Nat
 | []=>0
 | c::l=>if kindC k c=true then run k l+1 else 0
theorem run_le (k:Nat):∀ l,run k l≤l.length
 | []=>Nat.le_refl _
 | c::l=>by
  unfold run
  have:=run_le k l
  split <;> simp <;> omega
def ovr:Bool→List Nat→Nat
 | _,[]=>0
 | true,c::l=>if c=10 then ovr false l+1 else ovr true l+1
 | false,c::l=>if c=35 then ovr true l+1 else if blankC c=true then ovr false l+1 else 0
theorem ovr_le:∀ (b:Bool) (l:List Nat),ovr b l≤l.length
 | b,[]=>by cases b <;> exact Nat.le_refl _
 | true,c::l=>by
  unfold ovr
  have h1:=ovr_le true l
  have h2:=ovr_le false l
  split <;> simp <;> omega
 | false,c::l=>by
  unfold ovr
  have h1:=ovr_le true l
  have h2:=ovr_le false l
  split
  ·simp;omega
  split <;> simp <;> omega
theorem ovr_nil (b:Bool):ovr b []=0:=by cases b <;> rfl
theorem ovr_10 (l:List Nat):ovr true (10::l)=ovr false (10::l):=rfl
theorem ovr_n10 {c:Nat} (l:List Nat) (h:c≠10):ovr true (c::l)=ovr true l+1:=by rw [ovr,if_neg h]
theorem ovr_35 (l:List Nat):ovr false (35::l)=ovr true (35::l):=rfl
theorem ovr_blank {c:Nat} (l:List Nat) (h:c≠35) (hb:blankC c=true):ovr false (c::l)=ovr false l+1:=by rw [ovr,if_neg h,if_pos hb]
theorem ovr_stop {c:Nat} (l:List Nat) (h:c≠35) (hb:¬ blankC c=true):ovr false (c::l)=0:=by rw [ovr,if_neg h,if_neg hb]

/- characters -/
def cont:Nat→Int→List Nat→Option Int
 | 0,v,_=>some v
 | _+1,_,[]=>none
 | n+1,v,d::l=>if d<128∨191<d then none else cont n (64 * v+d - 128) l
def utfN (c:Nat):Nat:=if c<192 then 0 else if c<224 then 2 else if c<240 then 3 else if c<248 then 4 else 0
def utfV (c:Nat):Int:=if c<192 then 0 else if c<224 then c - 192 else if c<240 then c - 224 else if c<248 then c - 240 else 0
def utfM (c:Nat):Int:=if c<192 then 0 else if c<224 then 128 else if c<240 then 2048 else if c<248 then 65536 else 0
def utfL:List Nat→Nat
 | []=>0
 | c::l=>if c<128 then 1 else if utfN c=0∨l.length+1<utfN c then 0 else
  match cont (utfN c - 1) (utfV c) l with
  | none=>0
  | some v=>if v<utfM c∨1114111<v∨(55296≤v∧v≤57343) then 0 else utfN c
theorem utfL_cons (c:Nat) (l:List Nat):utfL (c::l)=if c<128 then 1 else if utfN c=0∨l.length+1<utfN c then 0 else
    match cont (utfN c - 1) (utfV c) l with
    | none=>0
    | some v=>if v<utfM c∨1114111<v∨(55296≤v∧v≤57343) then 0 else utfN c:=rfl
theorem utfL_le (l:List Nat):utfL l≤l.length:=by
 cases l with
 | nil=>exact Nat.le_refl _
 | cons c l =>
  rw [utfL_cons]
  by_cases h1:c<128
  ·rw [if_pos h1];simp
  rw [if_neg h1]
  by_cases h2:utfN c=0∨l.length+1<utfN c
  ·rw [if_pos h2];simp
  rw [if_neg h2]
  cases cont (utfN c - 1) (utfV c) l with
  | none=>simp
  | some v =>
   simp only [List.length_cons]
   by_cases h3:v<utfM c∨1114111<v∨(55296≤v∧v≤57343)
   ·rw [if_pos h3];omega
   rw [if_neg h3];omega
def badF:Nat→Nat→List Nat→Int
 | 0,_,_ => -1
 | _+1,_,[] => -1
 | f+1,i,c::l=>if utfL (c::l)=0 then i else badF f (i+utfL (c::l)) ((c::l).drop (utfL (c::l)))

/- texts -/
def unesc (c:Nat):Option Nat:=if c=110 then some 10 else if c=116 then some 9 else if c=34∨c=92 then some c else none
def txL:List Nat→Option (List Nat × Nat)
 | []=>none
 | c::l=>if c=34 then some ([],1) else if c=10 then none else if c=92 then
     match l with
     | []=>none
     | d::l'=>match unesc d with
      | none=>none
      | some x=>(txL l').map fun r=>(x::r.1,r.2+2)
  else (txL l).map fun r=>(c::r.1,r.2+1)

/- tokens -/
structure Tok where
 k:Int
 t:ByteArray
 n:Int
 a:Int
deriving DecidableEq
def Tok.cells (t:Tok):List Value:=[.int .i64 t.k,.string t.t,.int .i64 t.n,.int .i64 t.a]
def tok0 (a:Int):Tok:=⟨0,⟨#[]⟩,0,a⟩
def keysL:List ByteArray:=[⟨#[100,97,116,97]⟩,⟨#[99,108,97,115,115]⟩,⟨#[105,110,115,116,97,110,99,101]⟩,⟨#[102,114,111,109]⟩,⟨#[119,104,101,114,101]⟩,⟨#[101,110,100]⟩,⟨#[100,101,114,105,118,105,110,103]⟩,⟨#[100,101,102]⟩,⟨#[108,101,116]⟩,⟨#[114,101,99]⟩,⟨#[97,110,100]⟩,⟨#[105,110]⟩,⟨#[99,97,115,101]⟩,⟨#[111,102]⟩,⟨#[105,102]⟩,⟨#[116,104,101,110]⟩,⟨#[101,108,115,101]⟩]
def marksL:List ByteArray:=[⟨#[40]⟩,⟨#[41]⟩,⟨#[44]⟩,⟨#[59]⟩,⟨#[92]⟩,⟨#[95]⟩,⟨#[61]⟩,⟨#[45,62]⟩,⟨#[124]⟩,⟨#[58]⟩]
def amongB (s:ByteArray) (l:List ByteArray):Bool:=l.any fun x=>decide (x=s)
def keyT (s:ByteArray):Bool:=amongB s keysL
def markT (s:ByteArray):Bool:=amongB s marksL
def zeros:List Nat→Nat
 | []=>0
 | c::l=>if c=48∧l≠[] then zeros l+1 else 0
def valO:Nat→List Nat→Option Nat
 | n,[]=>some n
 | n,d::l=>if 4611686018427387904<(10 * n+(d - 48)) % 18446744073709551616 then none else valO ((10 * n+(d - 48)) % 18446744073709551616) l
def parL (l:List Nat):Option Nat:=match valO 0 l with
 | none=>none
 | some n=>if n=4611686018427387904 then none else some n
def kindT (c:Nat) (w:ByteArray):Int:=if markT w=true then 7 else if keyT w=true then 6 else if signC c=true then 5 else if greatC c=true then 2 else 1
def oneL (at_:Int):List Nat→Tok × Int × Int
 | []=>(tok0 at_,0,0)
 | c::r =>
  if c=34 then
   match txL r with
   | none=>(tok0 at_,0,103)
   | some x=>(⟨4,strN x.1,0,at_⟩,at_+1+x.2,0)
  else if digitC c=true then
   let d:=(c::r).take (run 2 (c::r))
   let z:=d.drop (zeros d)
   match parL z with
   | none=>(tok0 at_,0,102)
   | some v=>(⟨3,strN z,v,at_⟩,at_+run 2 (c::r),0)
  else
   let k:=if smallC c=true∨greatC c=true then run 1 (c::r) else if signC c=true then run 3 (c::r) else 1
   let w:=strN ((c::r).take k)
   if ¬ (smallC c=true∨greatC c=true∨signC c=true)∧markT w=false then (tok0 at_,0,101)
   else if 40<k then (⟨0,w,0,at_⟩,0,104)
   else (⟨kindT c w,w,0,at_⟩,at_+k,0)
def lexF:Nat→Int→List Nat→List Tok→List Tok × Int × Int
 | _,i,[],acc=>(acc++[tok0 i],0,0)
 | 0,_,_::_,_=>([],0,0)
 | f+1,i,c::l,acc =>
  let o:=oneL i (c::l)
  if o.2.2≠0 then ([],o.2.2,i) else
   let l':=(c::l).drop (o.2.1 - i).toNat
   let k:=ovr false l'
   lexF f (o.2.1+k) (l'.drop k) (acc++[o.1])
def scanT (s:ByteArray):List Tok × Int × Int :=
 if 60000<s.size then ([],3,0) else
 if 0≤badF (s.size+1) 0 (rst s 0) then ([],100,badF (s.size+1) 0 (rst s 0)) else
 lexF (s.size+1) (ovr false (rst s 0)) ((rst s 0).drop (ovr false (rst s 0))) []
def sameB (a b:ByteArray):Bool:=decide (a=b)
theorem Xb {a b:ByteArray}:sameB a b=true↔a=b:=by unfold sameB;simp
def hasB (l:List ByteArray) (s:ByteArray):Bool:=l.any (sameB s)
theorem hasB_iff {l:List ByteArray} {s:ByteArray}:hasB l s=true↔s∈l:=by
 unfold hasB
 rw [List.any_eq_true]
 constructor
 ·rintro ⟨x,hx,h⟩;rw [Xb.1 h];exact hx
 intro h;exact ⟨s,h,Xb.2 rfl⟩
def findI {α:Type} (p:α→Bool):List α→Nat→Int
 | [],_ => -1
 | x::l,i=>if p x=true then i else findI p l (i+1)
theorem findI_lt {α:Type} (p:α→Bool):∀ (l:List α) (i:Nat),findI p l i<i+l.length
 | [],i=>by simp [findI];omega
 | x::l,i=>by
  rw [findI]
  split
  ·simp;omega
  have:=findI_lt p l (i+1);simp at this ⊢;omega
theorem findI_cases {α:Type} (p:α→Bool):∀ (l:List α) (i:Nat),findI p l i = -1∨(i:Int)≤findI p l i
 | [],i=>.inl rfl
 | x::l,i=>by
  rw [findI]
  split
  ·exact .inr (Int.le_refl _)
  rcases findI_cases p l (i+1) with h|h
  ·exact .inl h
  right;omega
theorem findI_get {α:Type} (p:α→Bool):∀ (l:List α) (i:Nat),0≤findI p l i→∃ x,l[(findI p l i).toNat - i]?=some x∧p x=true∧i≤(findI p l i).toNat
 | [],i,h=>by simp [findI] at h
 | x::l,i,h=>by
  rw [findI] at h ⊢
  split
  ·rename_i hp
   refine ⟨x,?_,hp,by simp⟩
   simp
  rename_i hp
  rw [if_neg hp] at h
  obtain ⟨y,h1,h2,h3⟩:=findI_get p l (i+1) h
  refine ⟨y,?_,h2,by omega⟩
  rw [show (findI p l (i+1)).toNat - i=((findI p l (i+1)).toNat - (i+1))+1 by omega]
  simpa using h1
structure PS where
 at_:Nat
 lv:Int
 e:Int
 wh:Int
deriving DecidableEq
def nxt (L:List Tok) (p:PS):Tok:=if p.e≠0 then tok0 0 else (L[p.at_]?).getD (tok0 0)
def failP (p:PS) (e wh:Int):PS:=if p.e=0 then { p with e:=e,wh:=wh } else p
def isP (L:List Tok) (p:PS) (s:ByteArray):Bool:=decide (6≤(nxt L p).k∧(nxt L p).t=s)
def stepP (p:PS):PS:={ p with at_:=p.at_+1 }
def takeP (L:List Tok) (p:PS) (kind:Int) (s:ByteArray):Tok × PS :=
 if p.e≠0 then (nxt L p,p)
 else if (kind<6∧(nxt L p).k≠kind)∨(6≤kind∧((nxt L p).k<6∨(nxt L p).t≠s)) then (tok0 0,failP p 110 (nxt L p).a)
 else (nxt L p,stepP p)
def deeperP (L:List Tok) (p:PS):PS:=if 300<p.lv+1 then failP { p with lv:=p.lv+1 } 111 (nxt L { p with lv:=p.lv+1 }).a else { p with lv:=p.lv+1 }
theorem Xm {L:List Tok} {p:PS} (h:(nxt L p).k≠0):p.e=0∧p.at_<L.length:=by
 unfold nxt at h
 by_cases q:p.e≠0
 ·rw [if_pos q] at h;exact absurd rfl h
 rw [if_neg q] at h
 refine ⟨Classical.not_not.1 q,?_⟩
 rcases Nat.lt_or_ge p.at_ L.length with q2|q2
 ·exact q2
 rw [List.getElem?_eq_none q2] at h;exact absurd rfl h
def rowsT:List (List (List UInt8)):=[[[58,61]],[[124,124]],[[38,38]],[[61,61],[47,61],[60],[60,61],[62],[62,61]],[[58,58],[94]],[[43],[45]],[[42],[47],[37]]]
def lvl (op:List UInt8):Nat:=rowsT.findIdx (fun r=>r.contains op)+1
def sideN (l:Nat):Nat:=if l=4 then 0 else if l<6 then 2 else 1
open Go.RowKit
def I64 (x:Int):Prop := -9223372036854775808≤x∧x≤9223372036854775807
theorem I64.of {x:Int} (h:IntKind.i64.min≤x∧x≤IntKind.i64.max):I64 x:=by
 have h1:IntKind.i64.min = -9223372036854775808:=by decide
 have h2:IntKind.i64.max=9223372036854775807:=by decide
 rw [h1,h2] at h;exact h
def Ty.Lim (t:Ty):Prop:=t.kn≤140737488355328
inductive Pr where
 | mk (c:ByteArray) (t:Ty)
def Pr.cells:Pr→List AV
 | .mk c t=>.val (.string c)::t.cells
def Pr.c:Pr→ByteArray|.mk c _=>c
def Pr.t:Pr→Ty|.mk _ t=>t
def Pr.cellss (l:List Pr):List (List AV):=l.map Pr.cells
theorem Pr.cellss_map (l:List Pr):Pr.cellss l=l.map Pr.cells:=rfl
theorem Pr.cellss_len (l:List Pr):(Pr.cellss l).length=l.length:=by simp [Pr.cellss]
theorem Pr.cellss_get {l:List Pr} {i:Nat} {x:Pr} (h:l[i]?=some x):(Pr.cellss l)[i]?=some x.cells:=by simp [Pr.cellss,h]
theorem Pr.cells_len (x:Pr):x.cells.length=5:=by
 obtain ⟨xc,⟨xtk,xts,xtn,xtl⟩⟩:=x
 rfl
def Pr.cellsss (l:List (List Pr)):List (List AV):=l.map fun x=>[.seq 5 (Pr.cellss x)]
def Pr.Lim:Pr→Prop
 | .mk _ t=>(t.Lim)
inductive Cn where
 | mk (s:ByteArray) (ts:List Ty) (p:Int)
def Cn.cells:Cn→List AV
 | .mk s ts p=>.val (.string s)::.seq 4 (Ty.cellss ts)::[.val (.int .i64 p)]
def Cn.s:Cn→ByteArray|.mk s _ _=>s
def Cn.ts:Cn→List Ty|.mk _ ts _=>ts
def Cn.p:Cn→Int|.mk _ _ p=>p
def Cn.cellss (l:List Cn):List (List AV):=l.map Cn.cells
theorem Cn.cellss_map (l:List Cn):Cn.cellss l=l.map Cn.cells:=rfl
theorem Cn.cellss_len (l:List Cn):(Cn.cellss l).length=l.length:=by simp [Cn.cellss]
theorem Cn.cellss_get {l:List Cn} {i:Nat} {x:Cn} (h:l[i]?=some x):(Cn.cellss l)[i]?=some x.cells:=by simp [Cn.cellss,h]
theorem Cn.cells_len (x:Cn):x.cells.length=3:=by
 obtain ⟨xs,xts,xp⟩:=x
 rfl
def Cn.cellsss (l:List (List Cn)):List (List AV):=l.map fun x=>[.seq 3 (Cn.cellss x)]
def Cn.Lim:Cn→Prop
 | .mk _ ts _=>(ts.length≤140737488355328∧∀ x∈ts,x.Lim)
inductive Da where
 | mk (s:ByteArray) (ps:List ByteArray) (cs:List Cn) (dv:List ByteArray) (p:Int)
def Da.cells:Da→List AV
 | .mk s ps cs dv p=>.val (.string s)::.seq 1 (strs ps)::.seq 3 (Cn.cellss cs)::.seq 1 (strs dv)::[.val (.int .i64 p)]
def Da.s:Da→ByteArray|.mk s _ _ _ _=>s
def Da.ps:Da→List ByteArray|.mk _ ps _ _ _=>ps
def Da.cs:Da→List Cn|.mk _ _ cs _ _=>cs
def Da.dv:Da→List ByteArray|.mk _ _ _ dv _=>dv
def Da.p:Da→Int|.mk _ _ _ _ p=>p
def Da.cellss (l:List Da):List (List AV):=l.map Da.cells
theorem Da.cellss_map (l:List Da):Da.cellss l=l.map Da.cells:=rfl
theorem Da.cellss_len (l:List Da):(Da.cellss l).length=l.length:=by simp [Da.cellss]
theorem Da.cellss_get {l:List Da} {i:Nat} {x:Da} (h:l[i]?=some x):(Da.cellss l)[i]?=some x.cells:=by simp [Da.cellss,h]
theorem Da.cells_len (x:Da):x.cells.length=5:=by
 obtain ⟨xs,xps,xcs,xdv,xp⟩:=x
 rfl
def Da.cellsss (l:List (List Da)):List (List AV):=l.map fun x=>[.seq 5 (Da.cellss x)]
def Da.Lim:Da→Prop
 | .mk _ ps cs dv _=>(ps.length≤140737488355328)∧(cs.length≤140737488355328∧∀ x∈cs,x.Lim)∧(dv.length≤140737488355328)
inductive Me where
 | mk (s:ByteArray) (t:Ty) (p:Int)
def Me.cells:Me→List AV
 | .mk s t p=>.val (.string s)::t.cells++([.val (.int .i64 p)])
def Me.s:Me→ByteArray|.mk s _ _=>s
def Me.t:Me→Ty|.mk _ t _=>t
def Me.p:Me→Int|.mk _ _ p=>p
def Me.cellss (l:List Me):List (List AV):=l.map Me.cells
theorem Me.cellss_map (l:List Me):Me.cellss l=l.map Me.cells:=rfl
theorem Me.cellss_len (l:List Me):(Me.cellss l).length=l.length:=by simp [Me.cellss]
theorem Me.cellss_get {l:List Me} {i:Nat} {x:Me} (h:l[i]?=some x):(Me.cellss l)[i]?=some x.cells:=by simp [Me.cellss,h]
theorem Me.cells_len (x:Me):x.cells.length=6:=by
 obtain ⟨xs,⟨xtk,xts,xtn,xtl⟩,xp⟩:=x
 rfl
def Me.cellsss (l:List (List Me)):List (List AV):=l.map fun x=>[.seq 6 (Me.cellss x)]
def Me.Lim:Me→Prop
 | .mk _ t _=>(t.Lim)
inductive Cl where
 | mk (s:ByteArray) (v:ByteArray) (su:List ByteArray) (ms:List Me) (ds:List Bi) (p:Int)
def Cl.cells:Cl→List AV
 | .mk s v su ms ds p=>.val (.string s)::.val (.string v)::.seq 1 (strs su)::.seq 6 (Me.cellss ms)::.seq 13 (Bi.cellss ds)::[.val (.int .i64 p)]
def Cl.s:Cl→ByteArray|.mk s _ _ _ _ _=>s
def Cl.v:Cl→ByteArray|.mk _ v _ _ _ _=>v
def Cl.su:Cl→List ByteArray|.mk _ _ su _ _ _=>su
def Cl.ms:Cl→List Me|.mk _ _ _ ms _ _=>ms
def Cl.ds:Cl→List Bi|.mk _ _ _ _ ds _=>ds
def Cl.p:Cl→Int|.mk _ _ _ _ _ p=>p
def Cl.cellss (l:List Cl):List (List AV):=l.map Cl.cells
theorem Cl.cellss_map (l:List Cl):Cl.cellss l=l.map Cl.cells:=rfl
theorem Cl.cellss_len (l:List Cl):(Cl.cellss l).length=l.length:=by simp [Cl.cellss]
theorem Cl.cellss_get {l:List Cl} {i:Nat} {x:Cl} (h:l[i]?=some x):(Cl.cellss l)[i]?=some x.cells:=by simp [Cl.cellss,h]
theorem Cl.cells_len (x:Cl):x.cells.length=6:=by
 obtain ⟨xs,xv,xsu,xms,xds,xp⟩:=x
 rfl
def Cl.cellsss (l:List (List Cl)):List (List AV):=l.map fun x=>[.seq 6 (Cl.cellss x)]
def Cl.Lim:Cl→Prop
 | .mk _ _ su ms ds _=>(su.length≤140737488355328)∧(ms.length≤140737488355328∧∀ x∈ms,x.Lim)∧(ds.length≤140737488355328∧∀ x∈ds,x.Lim)
inductive In where
 | mk (c:ByteArray) (hd:Ty) (cx:List Pr) (bs:List Bi) (p:Int)
def In.cells:In→List AV
 | .mk c hd cx bs p=>.val (.string c)::hd.cells++(.seq 5 (Pr.cellss cx)::.seq 13 (Bi.cellss bs)::[.val (.int .i64 p)])
def In.c:In→ByteArray|.mk c _ _ _ _=>c
def In.hd:In→Ty|.mk _ hd _ _ _=>hd
def In.cx:In→List Pr|.mk _ _ cx _ _=>cx
def In.bs:In→List Bi|.mk _ _ _ bs _=>bs
def In.p:In→Int|.mk _ _ _ _ p=>p
def In.cellss (l:List In):List (List AV):=l.map In.cells
theorem In.cellss_map (l:List In):In.cellss l=l.map In.cells:=rfl
theorem In.cellss_len (l:List In):(In.cellss l).length=l.length:=by simp [In.cellss]
theorem In.cellss_get {l:List In} {i:Nat} {x:In} (h:l[i]?=some x):(In.cellss l)[i]?=some x.cells:=by simp [In.cellss,h]
theorem In.cells_len (x:In):x.cells.length=8:=by
 obtain ⟨xc,⟨xhdk,xhds,xhdn,xhdl⟩,xcx,xbs,xp⟩:=x
 rfl
def In.cellsss (l:List (List In)):List (List AV):=l.map fun x=>[.seq 8 (In.cellss x)]
def In.Lim:In→Prop
 | .mk _ hd cx bs _=>(hd.Lim)∧(cx.length≤140737488355328∧∀ x∈cx,x.Lim)∧(bs.length≤140737488355328∧∀ x∈bs,x.Lim)
inductive Pg where
 | mk (da:List Da) (cl:List Cl) (ins:List In) (bs:List Bi)
def Pg.cells:Pg→List AV
 | .mk da cl ins bs=>.seq 5 (Da.cellss da)::.seq 6 (Cl.cellss cl)::.seq 8 (In.cellss ins)::[.seq 13 (Bi.cellss bs)]
def Pg.da:Pg→List Da|.mk da _ _ _=>da
def Pg.cl:Pg→List Cl|.mk _ cl _ _=>cl
def Pg.ins:Pg→List In|.mk _ _ ins _=>ins
def Pg.bs:Pg→List Bi|.mk _ _ _ bs=>bs
def Pg.cellss (l:List Pg):List (List AV):=l.map Pg.cells
theorem Pg.cellss_map (l:List Pg):Pg.cellss l=l.map Pg.cells:=rfl
theorem Pg.cellss_len (l:List Pg):(Pg.cellss l).length=l.length:=by simp [Pg.cellss]
theorem Pg.cellss_get {l:List Pg} {i:Nat} {x:Pg} (h:l[i]?=some x):(Pg.cellss l)[i]?=some x.cells:=by simp [Pg.cellss,h]
theorem Pg.cells_len (x:Pg):x.cells.length=4:=by
 obtain ⟨xda,xcl,xins,xbs⟩:=x
 rfl
def Pg.cellsss (l:List (List Pg)):List (List AV):=l.map fun x=>[.seq 4 (Pg.cellss x)]
def Pg.Lim:Pg→Prop
 | .mk da cl ins bs=>(da.length≤140737488355328∧∀ x∈da,x.Lim)∧(cl.length≤140737488355328∧∀ x∈cl,x.Lim)∧(ins.length≤140737488355328∧∀ x∈ins,x.Lim)∧(bs.length≤140737488355328∧∀ x∈bs,x.Lim)
inductive En where
 | mk (da:List Da) (cl:List Cl) (ins:List In)
def En.cells:En→List AV
 | .mk da cl ins=>.seq 5 (Da.cellss da)::.seq 6 (Cl.cellss cl)::[.seq 8 (In.cellss ins)]
def En.da:En→List Da|.mk da _ _=>da
def En.cl:En→List Cl|.mk _ cl _=>cl
def En.ins:En→List In|.mk _ _ ins=>ins
def En.cellss (l:List En):List (List AV):=l.map En.cells
theorem En.cellss_map (l:List En):En.cellss l=l.map En.cells:=rfl
theorem En.cellss_len (l:List En):(En.cellss l).length=l.length:=by simp [En.cellss]
theorem En.cellss_get {l:List En} {i:Nat} {x:En} (h:l[i]?=some x):(En.cellss l)[i]?=some x.cells:=by simp [En.cellss,h]
theorem En.cells_len (x:En):x.cells.length=3:=by
 obtain ⟨xda,xcl,xins⟩:=x
 rfl
def En.cellsss (l:List (List En)):List (List AV):=l.map fun x=>[.seq 3 (En.cellss x)]
def En.Lim:En→Prop
 | .mk da cl ins=>(da.length≤140737488355328∧∀ x∈da,x.Lim)∧(cl.length≤140737488355328∧∀ x∈cl,x.Lim)∧(ins.length≤140737488355328∧∀ x∈ins,x.Lim)
end Go.Proofs.YteepjjgooplljaaGreat
namespace Go.Proofs.YteepjjgooplljaaGreat
abbrev kE:ByteArray:=⟨#[]⟩
abbrev kLP:ByteArray:=⟨#[40]⟩
abbrev kRP:ByteArray:=⟨#[41]⟩
abbrev kComma:ByteArray:=⟨#[44]⟩
abbrev kSemi:ByteArray:=⟨#[59]⟩
abbrev kBack:ByteArray:=⟨#[92]⟩
abbrev kUn:ByteArray:=⟨#[95]⟩
abbrev kEq:ByteArray:=⟨#[61]⟩
abbrev kArrow:ByteArray:=⟨#[45,62]⟩
abbrev kBar:ByteArray:=⟨#[124]⟩
abbrev kColon:ByteArray:=⟨#[58]⟩
abbrev kData:ByteArray:=⟨#[100,97,116,97]⟩
abbrev kClass:ByteArray:=⟨#[99,108,97,115,115]⟩
abbrev kInst:ByteArray:=⟨#[105,110,115,116,97,110,99,101]⟩
abbrev kFrom:ByteArray:=⟨#[102,114,111,109]⟩
abbrev kWhere:ByteArray:=⟨#[119,104,101,114,101]⟩
abbrev kEnd:ByteArray:=⟨#[101,110,100]⟩
abbrev kDeriv:ByteArray:=⟨#[100,101,114,105,118,105,110,103]⟩
abbrev kDef:ByteArray:=⟨#[100,101,102]⟩
abbrev kLet:ByteArray:=⟨#[108,101,116]⟩
abbrev kRec:ByteArray:=⟨#[114,101,99]⟩
abbrev kAnd:ByteArray:=⟨#[97,110,100]⟩
abbrev kIn:ByteArray:=⟨#[105,110]⟩
abbrev kCase:ByteArray:=⟨#[99,97,115,101]⟩
abbrev kOf:ByteArray:=⟨#[111,102]⟩
abbrev kIf:ByteArray:=⟨#[105,102]⟩
abbrev kThen:ByteArray:=⟨#[116,104,101,110]⟩
abbrev kElse:ByteArray:=⟨#[101,108,115,101]⟩
abbrev kUnit:ByteArray:=⟨#[85,110,105,116]⟩
abbrev kAA:ByteArray:=⟨#[38,38]⟩
abbrev kOO:ByteArray:=⟨#[124,124]⟩
def ty0:Ty:=.mk 0 kE 0 []
def pa0:Pa:=.mk 0 kE 0 [] 0
def ex0:Ex:=.mk 0 kE 0 ty0 [] [] [] 0
def decP (p:PS):PS:={ p with lv:=p.lv - 1 }
section
variable (L:List Tok)
def nameP (p:PS):Tok × PS :=
 if isP L p kLP=true then ((takeP L (stepP p) 5 kE).1,(takeP L (takeP L (stepP p) 5 kE).2 7 kRP).2) else takeP L p 1 kE
def uppersL:Nat→PS→List ByteArray→List ByteArray × PS
 | 0,p,acc=>(acc,p)
 | f+1,p,acc=>if isP L p kComma=true then uppersL f (takeP L (stepP p) 2 kE).2 (acc++[(takeP L (stepP p) 2 kE).1.t]) else (acc,p)
def uppersP (p:PS):List ByteArray × PS:=uppersL L (L.length+1) (takeP L p 2 kE).2 [(takeP L p 2 kE).1.t]
def startsP (what:Int) (p:PS):Prop :=
 (nxt L p).k=1∨(nxt L p).k=2∨isP L p kLP=true∨(1≤what∧(nxt L p).k=3)∨(what=1∧isP L p kUn=true)∨(what=2∧((nxt L p).k=4∨isP L p kCase=true))
instance (what:Int) (p:PS):Decidable (startsP L what p):=by unfold startsP;infer_instance
def atypeG (T:PS→Ty × PS) (p:PS):Ty × PS :=
 if (nxt L p).k=2 then (.mk 3 (nxt L p).t 0 [],stepP p)
 else if (nxt L p).k=1 then (.mk 1 (nxt L p).t 0 [],stepP p)
 else if isP L (takeP L p 7 kLP).2 kRP=true then (.mk 3 kUnit 0 [],stepP (takeP L p 7 kLP).2)
 else ((T (takeP L p 7 kLP).2).1,(takeP L (T (takeP L p 7 kLP).2).2 7 kRP).2)
def typesL (T:PS→Ty × PS):Nat→PS→List Ty→List Ty × PS
 | 0,p,acc=>(acc,p)
 | f+1,p,acc=>if startsP L 0 p then typesL T f (atypeG L T p).2 (acc++[(atypeG L T p).1]) else (acc,p)
def typeH (T:PS→Ty × PS) (q:PS):Ty × PS :=
 if (nxt L q).k=2 then (.mk 3 (nxt L q).t 0 (typesL L T (L.length+1) (stepP q) []).1,(typesL L T (L.length+1) (stepP q) []).2)
 else atypeG L T q
def typeR (T:PS→Ty × PS) (x:Ty × PS):Ty × PS :=
 if isP L x.2 kArrow=true then (.mk 3 kArrow 0 [x.1,(T (stepP x.2)).1],decP (T (stepP x.2)).2) else (x.1,decP x.2)
def typeF:Nat→PS→Ty × PS
 | 0,p=>(ty0,p)
 | n+1,p=>if p.e≠0 then (ty0,p) else typeR L (typeF n) (typeH L (typeF n) (deeperP L p))
def typeP (p:PS):Ty × PS:=typeF L 302 p
def apatG (T:PS→Pa × PS) (p:PS):Pa × PS :=
 if (nxt L p).k=2 then (.mk 3 (nxt L p).t 0 [] (nxt L p).a,stepP p)
 else if (nxt L p).k=1 then (.mk 2 (nxt L p).t 0 [] (nxt L p).a,stepP p)
 else if (nxt L p).k=3 then (.mk 4 kE (nxt L p).n [] (nxt L p).a,stepP p)
 else if isP L p kUn=true then (.mk 1 kE 0 [] (nxt L p).a,stepP p)
 else if isP L (takeP L p 7 kLP).2 kRP=true then (.mk 3 kUnit 0 [] (nxt L p).a,stepP (takeP L p 7 kLP).2)
 else ((T (takeP L p 7 kLP).2).1,(takeP L (T (takeP L p 7 kLP).2).2 7 kRP).2)
def patsL (T:PS→Pa × PS):Nat→PS→List Pa→List Pa × PS
 | 0,p,acc=>(acc,p)
 | f+1,p,acc=>if startsP L 1 p then patsL T f (apatG L T p).2 (acc++[(apatG L T p).1]) else (acc,p)
def patF:Nat→PS→Pa × PS
 | 0,p=>(pa0,p)
 | n+1,p=>if p.e≠0 then (pa0,p)
  else if (nxt L (deeperP L p)).k=2 then
   (.mk 3 (nxt L (deeperP L p)).t 0 (patsL L (patF n) (L.length+1) (stepP (deeperP L p)) []).1 (nxt L (deeperP L p)).a,decP (patsL L (patF n) (L.length+1) (stepP (deeperP L p)) []).2)
  else ((apatG L (patF n) (deeperP L p)).1,decP (apatG L (patF n) (deeperP L p)).2)
def patP (p:PS):Pa × PS:=patF L 302 p
end
/- operators -/
def lvT (ops:List Tok) (i:Nat):Nat:=lvl ((ops[i]?).getD (tok0 0)).t.toList
def rootB (ops:List Tok):Nat→Nat→Nat→Nat
 | 0,a,_=>a
 | f+1,a,i=>rootB ops f (if lvT ops i<lvT ops a∨(lvT ops i=lvT ops a∧sideN (lvT ops a)=1) then i else a) (i+1)
def opE (k:Int) (ks:List Ex) (a:Int):Ex:=.mk k kE 0 ty0 ks [] [] a
def namE (k:Int) (s:ByteArray) (a:Int):Ex:=.mk k s 0 ty0 [] [] [] a
def binE (op:Tok) (x y:Ex):Ex :=
 if op.t=kAA then opE 10 [x,y] op.a else if op.t=kOO then opE 11 [x,y] op.a
 else opE 5 [opE 5 [namE 3 op.t op.a,x] op.a,y] op.a
def buildF (l:List Ex) (ops:List Tok):Nat→Nat→Nat→Ex
 | 0,a,_=>(l[a]?).getD ex0
 | d+1,a,b=>if a=b then (l[a]?).getD ex0
  else binE ((ops[rootB ops (b - (a+1)) a (a+1)]?).getD (tok0 0)) (buildF l ops d a (rootB ops (b - (a+1)) a (a+1))) (buildF l ops d (rootB ops (b - (a+1)) a (a+1)+1) b)
def backL (lv:Nat→Nat):Nat→Bool
 | 0=>false
 | i+1=>if 4<lv i then backL lv i else decide (lv i=4)
def clashL (lv:Nat→Nat):Nat→Nat→Int
 | 0,_ => -1
 | f+1,k=>if lv k=4∧backL lv k=true then k else clashL lv f (k+1)
def clashP (ops:List Tok):Int:=clashL (lvT ops) ops.length 0
section
variable (L:List Tok)
def bindG (E:PS→Ex × PS) (p:PS):Bi × PS :=
 (.mk (nameP L p).1.t (E (takeP L (nameP L p).2 7 kEq).2).1 (nameP L p).1.a,(E (takeP L (nameP L p).2 7 kEq).2).2)
def bindsL (E:PS→Ex × PS):Nat→PS→List Bi→List Bi × PS
 | 0,p,acc=>(acc,p)
 | f+1,p,acc=>if isP L p kAnd=true then bindsL E f (bindG L E (stepP p)).2 (acc++[(bindG L E (stepP p)).1]) else (acc,p)
def lambdaG (E:PS→Ex × PS):Nat→PS→Int→Ex × PS
 | 0,p,_=>(ex0,p)
 | f+1,p,a =>
  if (nxt L (takeP L p 1 kE).2).k=1 then
   (.mk 6 (takeP L p 1 kE).1.t 0 ty0 [(lambdaG E f (takeP L p 1 kE).2 (nxt L (takeP L p 1 kE).2).a).1] [] [] a,(lambdaG E f (takeP L p 1 kE).2 (nxt L (takeP L p 1 kE).2).a).2)
  else (.mk 6 (takeP L p 1 kE).1.t 0 ty0 [(E (takeP L (takeP L p 1 kE).2 7 kArrow).2).1] [] [] a,(E (takeP L (takeP L p 1 kE).2 7 kArrow).2).2)
def altG (E:PS→Ex × PS) (p:PS):Al × PS :=
 (.mk (patP L p).1 (E (takeP L (patP L p).2 7 kArrow).2).1,(E (takeP L (patP L p).2 7 kArrow).2).2)
def altsL (E:PS→Ex × PS):Nat→PS→List Al→List Al × PS
 | 0,p,acc=>(acc,p)
 | f+1,p,acc=>if p.e≠0 then (acc,p)
  else if isP L (altG L E p).2 kBar=true then altsL E f (stepP (altG L E p).2) (acc++[(altG L E p).1])
  else (acc++[(altG L E p).1],(altG L E p).2)
def caseG (E:PS→Ex × PS) (a:Int) (p:PS):Ex × PS :=
 let y:=altsL L E (L.length+1) (takeP L (E p).2 6 kOf).2 []
 (.mk 8 kE 0 ty0 [(E p).1] y.1 [] a,(takeP L y.2 6 kEnd).2)
def annG (a:Int) (x:Ex × PS):Ex × PS :=
 if isP L x.2 kColon=true then (.mk 12 kE 0 (typeP L (stepP x.2)).1 [x.1] [] [] a,(takeP L (typeP L (stepP x.2)).2 7 kRP).2)
 else (x.1,(takeP L x.2 7 kRP).2)
def atomG (E:PS→Ex × PS) (p:PS):Ex × PS :=
 if (nxt L p).k=1 then (namE 3 (nxt L p).t (nxt L p).a,stepP p)
 else if (nxt L p).k=2 then (namE 4 (nxt L p).t (nxt L p).a,stepP p)
 else if (nxt L p).k=3 then (.mk 1 kE (nxt L p).n ty0 [] [] [] (nxt L p).a,stepP p)
 else if (nxt L p).k=4 then (namE 2 (nxt L p).t (nxt L p).a,stepP p)
 else if isP L p kCase=true then caseG L E (nxt L p).a (stepP p)
 else if isP L (takeP L p 7 kLP).2 kRP=true then (namE 4 kUnit (nxt L p).a,stepP (takeP L p 7 kLP).2)
 else if (nxt L (takeP L p 7 kLP).2).k=5 then
  (namE 3 (takeP L (takeP L p 7 kLP).2 5 kE).1.t (nxt L p).a,(takeP L (takeP L (takeP L p 7 kLP).2 5 kE).2 7 kRP).2)
 else annG L (nxt L p).a (E (takeP L p 7 kLP).2)
def appsL (E:PS→Ex × PS) (a:Int):Nat→PS→Ex→Ex × PS
 | 0,p,x=>(x,p)
 | f+1,p,x=>if startsP L 2 p then appsL E a f (atomG L E p).2 (opE 5 [x,(atomG L E p).1] a) else (x,p)
def letG (E:PS→Ex × PS) (a n:Int) (p:PS):Ex × PS :=
 let bs:=bindsL L E (L.length+1) (bindG L E p).2 [(bindG L E p).1]
 (.mk 7 kE n ty0 [(E (takeP L bs.2 6 kIn).2).1] [] bs.1 a,(E (takeP L bs.2 6 kIn).2).2)
def ifG (E:PS→Ex × PS) (a:Int) (p:PS):Ex × PS :=
 let y:=E (takeP L (E p).2 6 kThen).2
 let z:=E (takeP L y.2 6 kElse).2
 (opE 9 [(E p).1,y.1,z.1] a,z.2)
def operandG (E:PS→Ex × PS) (p:PS):Ex × PS :=
 if isP L p kBack=true then lambdaG L E (L.length+1) (stepP p) (nxt L p).a
 else if isP L p kLet=true then
  if isP L (stepP p) kRec=true then letG L E (nxt L p).a 1 (stepP (stepP p)) else letG L E (nxt L p).a 0 (stepP p)
 else if isP L p kIf=true then ifG L E (nxt L p).a (stepP p)
 else appsL L E (nxt L p).a (L.length+1) (atomG L E p).2 (atomG L E p).1
def opsL (E:PS→Ex × PS):Nat→PS→List Ex→List Tok→(List Ex × List Tok) × PS
 | 0,p,l,o=>((l,o),p)
 | f+1,p,l,o=>if (nxt L p).k=5 then opsL E f (operandG L E (takeP L p 5 kE).2).2 (l++[(operandG L E (takeP L p 5 kE).2).1]) (o++[(takeP L p 5 kE).1]) else ((l,o),p)
def joinE (y:(List Ex × List Tok) × PS):Ex × PS :=
 if y.2.e≠0 then (ex0,y.2)
 else if 0≤clashP y.1.2 then (ex0,failP y.2 112 ((y.1.2[(clashP y.1.2).toNat]?).getD (tok0 0)).a)
 else (buildF y.1.1 y.1.2 y.1.2.length 0 y.1.2.length,decP y.2)
def expF:Nat→PS→Ex × PS
 | 0,p=>(ex0,p)
 | n+1,p=>if p.e≠0 then (ex0,p)
  else joinE (opsL L (expF n) (L.length+1) (operandG L (expF n) (deeperP L p)).2 [(operandG L (expF n) (deeperP L p)).1] [])
def expP (p:PS):Ex × PS:=expF L 302 p
def bindP (p:PS):Bi × PS:=bindG L (expP L) p
/- declarations -/
def paramsL:Nat→PS→List ByteArray→List ByteArray × PS
 | 0,p,acc=>(acc,p)
 | f+1,p,acc=>if (nxt L p).k=1 then paramsL f (takeP L p 1 kE).2 (acc++[(takeP L p 1 kE).1.t]) else (acc,p)
def conP (p:PS):Cn × PS :=
 let a:=typesL L (typeP L) (L.length+1) (takeP L p 2 kE).2 []
 (.mk (takeP L p 2 kE).1.t a.1 (takeP L p 2 kE).1.a,a.2)
def consL:Nat→PS→List Cn→List Cn × PS
 | 0,p,acc=>(acc,p)
 | f+1,p,acc=>if p.e≠0 then (acc,p)
  else if isP L (conP L p).2 kBar=true then consL f (stepP (conP L p).2) (acc++[(conP L p).1])
  else (acc++[(conP L p).1],(conP L p).2)
def derivP (p:PS):List ByteArray × PS :=
 if isP L p kDeriv=true then ((uppersP L (takeP L (stepP p) 7 kLP).2).1,(takeP L (uppersP L (takeP L (stepP p) 7 kLP).2).2 7 kRP).2) else ([],p)
def dataP (p:PS):Da × PS :=
 let a:=paramsL L (L.length+1) (takeP L p 2 kE).2 []
 let c:=consL L (L.length+1) (takeP L a.2 7 kEq).2 []
 (.mk (takeP L p 2 kE).1.t a.1 c.1 (derivP L c.2).1 (takeP L p 2 kE).1.a,(derivP L c.2).2)
def clsL:Nat→PS→List Me→List Bi→(List Me × List Bi) × PS
 | 0,p,ms,ds=>((ms,ds),p)
 | f+1,p,ms,ds=>if p.e≠0 then ((ms,ds),p)
  else if isP L p kEnd=true then ((ms,ds),stepP p)
  else if isP L p kDef=true then clsL f (takeP L (bindP L (stepP p)).2 7 kSemi).2 ms (ds++[(bindP L (stepP p)).1])
  else clsL f (takeP L (typeP L (takeP L (nameP L p).2 7 kColon).2).2 7 kSemi).2 (ms++[.mk (nameP L p).1.t (typeP L (takeP L (nameP L p).2 7 kColon).2).1 (nameP L p).1.a]) ds
def supersP (p:PS):List ByteArray × PS:=if isP L p kFrom=true then uppersP L (stepP p) else ([],p)
def classP (p:PS):Cl × PS :=
 let s:=supersP L (takeP L (takeP L p 2 kE).2 1 kE).2
 let r:=clsL L (L.length+1) (takeP L s.2 6 kWhere).2 [] []
 (.mk (takeP L p 2 kE).1.t (takeP L (takeP L p 2 kE).2 1 kE).1.t s.1 r.1.1 r.1.2 (takeP L p 2 kE).1.a,r.2)
def predP (p:PS):Pr × PS :=
 (.mk (takeP L p 2 kE).1.t (.mk 1 (takeP L (takeP L p 2 kE).2 1 kE).1.t 0 []),(takeP L (takeP L p 2 kE).2 1 kE).2)
def ctxL:Nat→PS→List Pr→List Pr × PS
 | 0,p,acc=>(acc,p)
 | f+1,p,acc=>if p.e≠0 then (acc,p)
  else if isP L (predP L p).2 kComma=true then ctxL f (stepP (predP L p).2) (acc++[(predP L p).1])
  else (acc++[(predP L p).1],(predP L p).2)
def ctxP (p:PS):List Pr × PS:=if isP L p kFrom=true then ctxL L (L.length+1) (stepP p) [] else ([],p)
def insL:Nat→PS→List Bi→List Bi × PS
 | 0,p,bs=>(bs,p)
 | f+1,p,bs=>if p.e≠0 then (bs,p)
  else if isP L p kEnd=true then (bs,stepP p)
  else insL f (takeP L (bindP L (takeP L p 6 kDef).2).2 7 kSemi).2 (bs++[(bindP L (takeP L p 6 kDef).2).1])
def instP (p:PS):In × PS :=
 let h:=atypeG L (typeP L) (takeP L p 2 kE).2
 let c:=ctxP L h.2
 let b:=insL L (L.length+1) (takeP L c.2 6 kWhere).2 []
 (.mk (takeP L p 2 kE).1.t h.1 c.1 b.1 (takeP L p 2 kE).1.a,b.2)
def declP (p:PS) (x:Pg):Pg × PS :=
 if isP L p kData=true then (.mk (x.da++[(dataP L (stepP p)).1]) x.cl x.ins x.bs,(dataP L (stepP p)).2)
 else if isP L p kClass=true then (.mk x.da (x.cl++[(classP L (stepP p)).1]) x.ins x.bs,(classP L (stepP p)).2)
 else if isP L p kInst=true then (.mk x.da x.cl (x.ins++[(instP L (stepP p)).1]) x.bs,(instP L (stepP p)).2)
 else (.mk x.da x.cl x.ins (x.bs++[(bindP L (takeP L p 6 kDef).2).1]),(bindP L (takeP L p 6 kDef).2).2)
def progL:Nat→PS→Pg→Pg × PS
 | 0,p,x=>(x,p)
 | f+1,p,x=>if p.e≠0∨(nxt L p).k=0 then (x,p)
  else progL f (takeP L (declP L p x).2 7 kSemi).2 (declP L p x).1
end
def pg0:Pg:=.mk [] [] [] []
def beginP (s:List Tok × Int × Int):PS:=if s.2.1≠0 then failP ⟨0,0,0,0⟩ s.2.1 s.2.2 else ⟨0,0,0,0⟩
def progT (src:ByteArray):Pg × Int × Int :=
 let r:=progL (scanT src).1 ((scanT src).1.length+1) (beginP (scanT src)) pg0
 if r.2.e≠0 then (pg0,r.2.e,r.2.wh) else (r.1,0,0)
abbrev kIntT:ByteArray:=⟨#[73,110,116]⟩
abbrev kStrT:ByteArray:=⟨#[83,116,114,105,110,103]⟩
abbrev kRefT:ByteArray:=⟨#[82,101,102]⟩
def baseB (s:ByteArray):Bool:=sameB s kIntT || sameB s kStrT || sameB s kRefT || sameB s kArrow
def arityD (s:ByteArray):List Da→Int
 | [] => -1
 | d::l=>if sameB d.s s=true then d.ps.length else arityD s l
def arityR (v:En) (s:ByteArray):Int :=
 if sameB s kIntT=true∨sameB s kStrT=true then 0 else if sameB s kRefT=true then 1 else if sameB s kArrow=true then 2 else arityD s v.da
def headR0 (v:En) (vars:List ByteArray) (k:Int) (s:ByteArray) (n:Nat):Int :=
 if k=1 then (if hasB vars s=true then 0 else 123)
 else if k=3 then (if arityR v s<0 then 121 else if arityR v s≠n then 122 else 0)
 else 123
mutual
def rightR (v:En) (vars:List ByteArray):Ty→Int
 | .mk k s _ ks=>if headR0 v vars k s ks.length≠0 then headR0 v vars k s ks.length else rightsR v vars ks
def rightsR (v:En) (vars:List ByteArray):List Ty→Int
 | []=>0
 | t::l=>if rightR v vars t≠0 then rightR v vars t else rightsR v vars l
end
def classI (v:En) (s:ByteArray):Int:=findI (fun c=>sameB c.s s) v.cl 0
def instI (v:En) (c s:ByteArray):Int:=findI (fun (x:In)=>sameB x.c c && sameB x.hd.name s) v.ins 0
def methI (s:ByteArray):List Cl→Nat→Int × Int
 | [],_=>(-1,-1)
 | c::l,i=>if 0≤findI (fun (m:Me)=>sameB m.s s) c.ms 0 then (i,findI (fun (m:Me)=>sameB m.s s) c.ms 0) else methI s l (i+1)
/- what is above a class -/
def supersOf (v:En) (s:ByteArray):List ByteArray:=((v.cl[(classI v s).toNat]?).map Cl.su).getD []
def overL (O:ByteArray→List ByteArray→List ByteArray):List ByteArray→List ByteArray→List ByteArray
 | [],met=>met
 | s::l,met=>if hasB met s=true then overL O l met else overL O l (O s (met++[s]))
def overF (v:En):Nat→ByteArray→List ByteArray→List ByteArray
 | 0,_,met=>met
 | n+1,c,met=>if classI v c<0 then met else overL (overF v n) (supersOf v c) met
def allSup (v:En):List ByteArray:=v.cl.flatMap Cl.su
def aboveR (v:En) (c:ByteArray):List ByteArray:=overF v ((allSup v).length+1) c []
/- data -/
abbrev Flt:=Int × Int
def f0:Flt:=(0,0)
def datas1:List ByteArray→List Da→Flt
 | _,[]=>f0
 | pre,d::l=>if baseB d.s=true then (120,d.p) else if hasB pre d.s=true then (120,d.p) else datas1 (pre++[d.s]) l
def dupB:List ByteArray→List ByteArray→Bool
 | _,[]=>false
 | pre,x::l=>if hasB pre x=true then true else dupB (pre++[x]) l
def consR (v:En) (ps:List ByteArray):List Cn→List ByteArray→Flt × List ByteArray
 | [],met=>(f0,met)
 | c::l,met=>if hasB met c.s=true then ((120,c.p),met)
  else if 60<c.ts.length then ((3,c.p),met++[c.s])
  else if rightsR v ps c.ts≠0 then ((rightsR v ps c.ts,c.p),met++[c.s])
  else consR v ps l (met++[c.s])
def datas2 (v:En):List Da→List ByteArray→Flt
 | [],_=>f0
 | d::l,met=>if dupB [] d.ps=true then (120,d.p)
  else if (consR v d.ps d.cs met).1.1≠0 then (consR v d.ps d.cs met).1
  else datas2 v l (consR v d.ps d.cs met).2
def datasR (v:En):Flt:=if (datas1 [] v.da).1≠0 then datas1 [] v.da else datas2 v v.da []
/- binds -/
def bndR (ns:List ByteArray):List ByteArray→List Bi→Flt
 | _,[]=>f0
 | pre,.mk s (.mk k _ _ _ _ _ _ _) p::l=>if hasB ns s=false then (121,p) else if hasB pre s=true then (120,p) else if k≠6 then (130,p) else bndR ns (pre++[s]) l
/- classes -/
def classes1:List ByteArray→List Cl→Flt
 | _,[]=>f0
 | met,c::l=>if hasB met c.s=true then (120,c.p) else classes1 (met++[c.s]) l
def supR (met:List ByteArray):List ByteArray→List ByteArray→Int
 | _,[]=>0
 | pre,s::l=>if hasB met s=false then 121 else if hasB pre s=true then 120 else supR met (pre++[s]) l
def classes2 (met:List ByteArray):List Cl→Flt
 | []=>f0
 | c::l=>if supR met [] c.su≠0 then (supR met [] c.su,c.p) else classes2 met l
def classes3 (v:En):List Cl→Flt
 | []=>f0
 | c::l=>if hasB (aboveR v c.s) c.s=true then (124,c.p) else classes3 v l
mutual
def hasVar:Ty→Bool
 | .mk k _ _ ks=>if k=1 then true else hasVars ks
def hasVars:List Ty→Bool
 | []=>false
 | t::l=>if hasVar t=true then true else hasVars l
end
def methE (v:En) (x:ByteArray) (t:Ty):Int:=if rightR v [x] t=0∧hasVar t=false then 123 else rightR v [x] t
def methR (v:En) (x:ByteArray):List Me→List ByteArray→Flt × List ByteArray
 | [],known=>(f0,known)
 | m::l,known=>if hasB known m.s=true then ((120,m.p),known)
  else if methE v x m.t≠0 then ((methE v x m.t,m.p),known++[m.s])
  else methR v x l (known++[m.s])
def classes4 (v:En):List Cl→List ByteArray→Flt
 | [],_=>f0
 | c::l,known=>if (methR v c.v c.ms known).1.1≠0 then (methR v c.v c.ms known).1
  else if (bndR (c.ms.map Me.s) [] c.ds).1≠0 then bndR (c.ms.map Me.s) [] c.ds
  else classes4 v l (methR v c.v c.ms known).2
def classesR (v:En):Flt :=
 if (classes1 [] v.cl).1≠0 then classes1 [] v.cl
 else if (classes2 (v.cl.map Cl.s) v.cl).1≠0 then classes2 (v.cl.map Cl.s) v.cl
 else if (classes3 v v.cl).1≠0 then classes3 v v.cl
 else classes4 v v.cl []
/- instances -/
def varsR (x:In):List ByteArray:=x.hd.kids.map Ty.name
def headL:List ByteArray→List Ty→Int
 | _,[]=>0
 | pre,t::l=>if t.kind≠1∨0<t.kids.length∨hasB pre t.name=true then 127 else headL (pre++[t.name]) l
def headR (v:En) (x:In):Int :=
 if x.hd.kind≠3∨x.hd.name=kArrow∨arityR v x.hd.name<0 then 127
 else if arityR v x.hd.name≠x.hd.kids.length then 122 else headL [] x.hd.kids
def ctxL0 (v:En) (ns:List ByteArray):List Pr→List Pr→Int
 | _,[]=>0
 | pre,p::l=>if classI v p.c<0 then 121 else if p.t.kind≠1∨hasB ns p.t.name=false then 123
  else if (pre.any fun q=>sameB q.c p.c && sameB q.t.name p.t.name)=true then 120 else ctxL0 v ns (pre++[p]) l
def ctxR (v:En) (x:In):Int:=ctxL0 v (varsR x) [] x.cx
def missB (own:List ByteArray):List ByteArray→Bool
 | []=>false
 | m::l=>if hasB own m=false then true else missB own l
def instR1 (v:En) (i:Nat) (x:In) (c:Cl):Flt :=
 if headR v x≠0 then (headR v x,x.p)
 else if instI v x.c x.hd.name<i then (125,x.p)
 else if ctxR v x≠0 then (ctxR v x,x.p)
 else if (bndR (c.ms.map Me.s) [] x.bs).1≠0 then bndR (c.ms.map Me.s) [] x.bs
 else if missB (x.bs.map Bi.s++c.ds.map Bi.s) (c.ms.map Me.s)=true then (128,x.p) else f0
def instR (v:En) (i:Nat) (x:In):Flt :=
 if classI v x.c<0 then (121,x.p) else match v.cl[(classI v x.c).toNat]? with
  | none=>f0
  | some c=>instR1 v i x c
def insts1 (v:En):Nat→List In→Flt
 | _,[]=>f0
 | i,x::l=>if (instR v i x).1≠0 then instR v i x else insts1 v (i+1) l
def givenR (v:En) (x:In) (c n:ByteArray):Bool:=x.cx.any fun p=>sameB p.t.name n && (sameB p.c c || hasB (aboveR v p.c) c)
def supA (v:En) (x:In) (p:Pr):List Ty→Nat→Bool
 | [],_=>true
 | t::l,j=>if sameB t.name p.t.name=true∧givenR v x p.c (((x.hd.kids[j]?).map Ty.name).getD kE)=false then false else supA v x p l (j+1)
def supB (v:En) (x y:In):List Pr→Bool
 | []=>true
 | p::l=>if supA v x p y.hd.kids 0=false then false else supB v x y l
def supC (v:En) (x:In):List ByteArray→Bool
 | []=>true
 | s::l=>match v.ins[(instI v s x.hd.name).toNat]? with
  | none=>false
  | some y=>if instI v s x.hd.name<0 then false else if supB v x y y.cx=false then false else supC v x l
def supersR (v:En) (x:In):Bool:=supC v x (supersOf v x.c)
def insts2 (v:En):List In→Flt
 | []=>f0
 | x::l=>if supersR v x=false then (126,x.p) else insts2 v l
def binds1 (v:En):List ByteArray→List Bi→Flt
 | _,[]=>f0
 | pre,.mk s _ p::l=>if 0≤(methI s v.cl 0).1∨hasB pre s=true then (120,p) else binds1 v (pre++[s]) l
def envOf (p:Pg):En:=.mk p.da p.cl p.ins
def checkR (p:Pg):Flt :=
 let v:=envOf p
 if (datasR v).1≠0 then datasR v
 else if (classesR v).1≠0 then classesR v
 else if (insts1 v 0 v.ins).1≠0 then insts1 v 0 v.ins
 else if (insts2 v v.ins).1≠0 then insts2 v v.ins
 else binds1 v [] p.bs
abbrev kBr:ByteArray:=⟨#[123]⟩
def isBr (s:ByteArray):Bool:=sameB (s.extract 0 1) kBr
def tailB (s:ByteArray):ByteArray:=s.extract 1 s.size
theorem isBr_size {s:ByteArray} (h:isBr s=true):1≤s.size:=by
 unfold isBr at h
 have:=congrArg ByteArray.size (Xb.1 h)
 rw [ByteArray.size_extract] at this
 have h1:kBr.size=1:=rfl
 omega
def arC (v:En) (s:ByteArray):Int:=if 0≤arityR v s then arityR v s else if isBr s=true∧0≤classI v (tailB s) then 1 else -1
mutual
def rightC (v:En) (vs:List ByteArray):Ty→Bool
 | .mk k s _ ks=>(if k=1 then hasB vs s else if k=3 then decide (arC v s=ks.length) else false) && rightCs v vs ks
def rightCs (v:En) (vs:List ByteArray):List Ty→Bool
 | []=>true
 | t::ts=>rightC v vs t && rightCs v vs ts
end
theorem rightCs_all (v:En) (vs:List ByteArray):∀ l:List Ty,rightCs v vs l=l.all (rightC v vs)
 | []=>rfl
 | t::ts=>by rw [rightCs,List.all_cons,rightCs_all v vs ts]
def findL (s:ByteArray):List Cb→Option Cb
 | []=>none
 | b::l=>match findL s l with
  | some c=>some c
  | none=>if sameB b.s s=true then some b else none
theorem findL_snoc (s:ByteArray) (b:Cb):∀ l:List Cb,findL s (l++[b])=if sameB b.s s=true then some b else findL s l
 | []=>by simp [findL]
 | c::l=>by
  rw [List.cons_append,findL,findL_snoc s b l]
  by_cases h:sameB b.s s=true
  ·rw [if_pos h,if_pos h]
  rw [if_neg h,if_neg h,findL]
open Go.RowKit
section
variable {P:Program} {o:Oper} {al:Sl} {M:Mem} {K:AV→Mem→Prop}
theorem op_substrh {x hi:Operand} {t:TypeId} {s:ByteArray} {k':IntKind} {b:Int} {j:Nat} (ho:o.op=.slice t x none (some hi) none) (ht:P.underlying t=some .string) (hx:al.ev x=some (.val (.string s))) (hhi:al.ev hi=some (.val (.int k' b))) (hb:b=j) (hj:j≤s.size) (q:K (.val (.string (s.extract 0 j))) M):OpT P o al M K :=
 OpT.plain fun n B F Mf ac w hi' hs=>by
  refine ⟨_,_,?_,q,.val _⟩
  subst hb
  have h1:(0:Int)≤(j:Int)∧(j:Int)≤(s.size:Int):=⟨by omega,by omega⟩
  simp [execOp,ho,Yq hs hx,Yq hs hhi,Instr.sliceAt,underlying,ht,Instr.slice,Instr.sliceBounds,Instr.sliceBound,asIntOf,hj]
theorem op_substrl {x lo:Operand} {t:TypeId} {s:ByteArray} {k:IntKind} {a:Int} {i:Nat} (ho:o.op=.slice t x (some lo) none none) (ht:P.underlying t=some .string) (hx:al.ev x=some (.val (.string s))) (hlo:al.ev lo=some (.val (.int k a))) (ha:a=i) (hi:i≤s.size) (q:K (.val (.string (s.extract i s.size))) M):OpT P o al M K :=
 OpT.plain fun n B F Mf ac w hi' hs=>by
  refine ⟨_,_,?_,q,.val _⟩
  subst ha
  have h2:(0:Int)≤(i:Int)∧(i:Int)≤(s.size:Int):=⟨by omega,by omega⟩
  simp [execOp,ho,Yq hs hx,Yq hs hlo,Instr.sliceAt,underlying,ht,Instr.slice,Instr.sliceBounds,Instr.sliceBound,asIntOf,hi]
end
theorem iff_f {p:Prop} (h:¬ p):(false=true↔p):=by simp [h]
theorem iff_t {p:Prop} (h:p):(true=true↔p):=by simp [h]
theorem SameTypes_of (d:Nat) (ih:∀ a b:Ty,a.size≤d→BCall Tryz.prog 24 [.agg a.cells,.agg b.cells] (a=b)) (xs ys:List Ty) (hd:Ty.sizes xs≤d):BCall Tryz.prog 34 [.seq 4 (Ty.cellss xs),.seq 4 (Ty.cellss ys)] (xs=ys):=by
 have hlx:=Ty.cellss_len xs
 have hly:=Ty.cellss_len ys
 refine Zc Tryz.func34 V (by kernel_rfl) V (Xz V) ?_
 refine Q15 ?_
 refine c_lens (t:=0) V (.seq _ _) (fun hmax=>?_)
 refine Q381 ?_
 refine Q47 ?_;intro n7
 refine Q5 ?_
 refine Q47 ?_;intro n9
 refine Q34 ?_;intro c10 h10
 refine Q226 ?_
 rcases Za h10 with ⟨rfl,g10⟩|⟨rfl,g10⟩
 ·refine Q242 ?_
  refine Q304 ?_
  refine c_loop (σ:=Nat) (fun zz=>match zz with|i=>[(0,.seq 4 (Ty.cellss xs)),(1,.seq 4 (Ty.cellss ys)),(5,.val (.int .i64 i))]) (fun zz=>match zz with|i=>[]) (fun zz=>match zz with|i=>i≤xs.length∧Upto xs ys i) (fun zz=>match zz with|i=>xs.length - i) (0) ?_ ?_ ?_ ?_
  ·exact ⟨by omega,Upto.zero _ _⟩
  ·exact by4
  ·exact by3
  rintro i hI
  try dsimp only [List.cons_append,List.nil_append] at hI ⊢
  obtain ⟨hi,hu⟩:=hI
  refine Q316 ?_
  refine Q47 ?_;intro n13
  refine Q19 ?_;intro c14 h14
  refine Q226 ?_
  rcases Za h14 with ⟨rfl,g14⟩|⟨rfl,g14⟩
  ·refine Q322 ?_
   exact Zf V V (Xt _) by3 ⟨⟨_,iff_t (hu.eq (by omega) (by omega)),V⟩,V⟩
  refine Q265 ?_
  obtain ⟨⟨k1,s1,n1,ks1⟩,hx⟩:=Zr (l:=xs) (i:=i) (by omega)
  obtain ⟨⟨k2,s2,n2,ks2⟩,hy⟩:=Zr (l:=ys) (i:=i) (by omega)
  have hcx:=Ty.cellss_get hx
  have hcy:=Ty.cellss_get hy
  have hsz:=Ty.size_at hx
  refine Q51 ?_
  refine Q385 ?_
  refine Q175 ?_
  refine Q87 ?_
  refine Q385 ?_
  refine Q175 ?_
  refine Q87 ?_
  refine Yr 25 V V (fun _ q=>Ze (xs:=[.tmp 20,.tmp 24]) V V (ih (.mk k1 s1 n1 ks1) (.mk k2 s2 n2 ks2) (by omega)) by1 q) ?_;intro c25 h25
  refine Yr 26 V V (fun _ q=>op_notc V V q) ?_;intro c26 h26
  try replace h26:=Yo h26 h25
  show AGo _ _ _ _ _ _ _
  refine Q1 ?_
  rcases Za h26 with ⟨rfl,g26⟩|⟨rfl,g26⟩
  ·refine Q305 ?_
   exact ⟨i+1,⟨by omega,hu.succ hx hy (Classical.not_not.1 g26)⟩,by simp;omega,by4,by3⟩
  refine Q285 ?_
  exact Zf V V (Xt _) by3 ⟨⟨_,iff_f (at_ne hx hy g26),V⟩,V⟩
 refine Q285 ?_
 exact Zf V V (Xt _) by3 ⟨⟨_,iff_f (len_ne (by omega)),V⟩,V⟩
theorem SameType_of (d:Nat) (ih:∀ xs ys:List Ty,Ty.sizes xs≤d→BCall Tryz.prog 34 [.seq 4 (Ty.cellss xs),.seq 4 (Ty.cellss ys)] (xs=ys)) (a b:Ty) (hd:a.size≤d+1):BCall Tryz.prog 24 [.agg a.cells,.agg b.cells] (a=b):=by
 obtain ⟨k1,s1,n1,ks1⟩:=a
 obtain ⟨k2,s2,n2,ks2⟩:=b
 rw [Ty.size] at hd
 refine Zc Tryz.func24 V (by kernel_rfl) V (Xz V) ?_
 refine Q374 ?_;intro b2
 refine Q64 ?_;intro b3
 refine Q238 ?_
 refine Zy 4 (Ty.mk k1 s1 n1 ks1=Ty.mk k2 s2 n2 ks2) ?_ _ _ V ?_
 ·skip
  refine Q272 ?_
  refine Q525 ?_;intro c9 h9
  refine Q5 ?_
  rcases Za h9 with ⟨rfl,g9⟩|⟨rfl,g9⟩
  ·skip
   refine Q457 ?_
   refine Q457 ?_
   refine Q489 ?_
   refine Xx V ?_ by5 by3
   simp_all
  skip
  refine Q386 ?_
  refine Q490 ?_;intro c15 h15
  refine Q260 ?_
  rcases Za h15 with ⟨rfl,g15⟩|⟨rfl,g15⟩
  ·skip
   refine Q457 ?_
   refine Q489 ?_
   refine Xx V ?_ by5 by3
   simp_all
  skip
  refine Q386 ?_
  refine Q336 ?_
  refine Q38 ?_;intro c22 h22
  refine Q260 ?_
  rcases Za h22 with ⟨rfl,g22⟩|⟨rfl,g22⟩
  ·skip
   refine Q489 ?_
   refine Xx V ?_ by5 by3
   simp_all
  skip
  refine Q386 ?_
  refine Q336 ?_
  refine Zq 29 V V V V V (Ze (xs:=[.tmp 26,.tmp 28]) V V (ih ks1 ks2 (by omega)) by1 ?_);intro c29 h29
  refine Q273 ?_
  refine Xx V ?_ by5 by3
  simp_all
 intro c4 h4
 refine Q303 ?_
 exact Zf V V (Xt _) by3 ⟨⟨_,h4,V⟩,V⟩
theorem SameTy_all (d:Nat):(∀ a b:Ty,a.size≤d→BCall Tryz.prog 24 [.agg a.cells,.agg b.cells] (a=b))∧(∀ xs ys:List Ty,Ty.sizes xs≤d→BCall Tryz.prog 34 [.seq 4 (Ty.cellss xs),.seq 4 (Ty.cellss ys)] (xs=ys)):=by
 induction d with
 | zero =>
  have h1:∀ a b:Ty,a.size≤0→BCall Tryz.prog 24 [.agg a.cells,.agg b.cells] (a=b):=fun a b h=>by have:=Ty.size_pos a;omega
  exact ⟨h1,SameTypes_of 0 h1⟩
 | succ d ih=>exact ⟨SameType_of d ih.2,SameTypes_of (d+1) (SameType_of d ih.2)⟩
theorem SameType_c (a b:Ty):BCall Tryz.prog 24 [.agg a.cells,.agg b.cells] (a=b):=(SameTy_all a.size).1 a b (Nat.le_refl _)
theorem EqF_Ty {β:Type} (f:Ty→β) (g:FuncId) (xs ys:List Ty) (hg:∀ x∈xs,∀ y,BCall Tryz.prog g [.agg x.cells,.agg y.cells] (f x=f y)):BCall Tryz.prog 26 [.seq 4 (Ty.cellss xs),.seq 4 (Ty.cellss ys),.clo (.func g) [] []] (xs.map f=ys.map f):=by
 have hlx:=Ty.cellss_len xs
 have hly:=Ty.cellss_len ys
 refine Zc Tryz.func26 V (by kernel_rfl) V (Xz V) ?_
 refine Q15 ?_
 refine c_lens (t:=0) V (.seq _ _) (fun hmax=>?_)
 refine Q381 ?_
 refine Q47 ?_;intro n11
 refine Q5 ?_
 refine Q47 ?_;intro n13
 refine Q34 ?_;intro c14 h14
 refine Q226 ?_
 rcases Za h14 with ⟨rfl,g14⟩|⟨rfl,g14⟩
 ·refine Q329 ?_
  refine Q47 ?_;intro n16
  refine Q317 ?_
  refine c_loop (σ:=Nat) (fun zz=>match zz with|i=>[(0,.seq 4 (Ty.cellss xs)),(1,.seq 4 (Ty.cellss ys)),(2,.clo (.func g) [] []),(15,.seq 4 (Ty.cellss xs)),(16,.val (.int .i64 (Ty.cellss xs).length)),(17,.val (.int .i64 i))]) (fun zz=>match zz with|i=>[]) (fun zz=>match zz with|i=>i≤xs.length∧Upto (xs.map f) (ys.map f) i) (fun zz=>match zz with|i=>xs.length - i) (0) ?_ ?_ ?_ ?_
  ·exact ⟨by omega,Upto.zero _ _⟩
  ·exact by4
  ·exact by3
  rintro i hI
  try dsimp only [List.cons_append,List.nil_append] at hI ⊢
  obtain ⟨hi,hu⟩:=hI
  refine Q318 ?_;intro c18 h18
  refine Q241 ?_
  rcases Za h18 with ⟨rfl,g18⟩|⟨rfl,g18⟩
  ·refine Q322 ?_
   exact Zf V V (Xt _) by3 ⟨⟨_,iff_t (hu.eq (by simp;omega) (by simp;omega)),V⟩,V⟩
  refine Q265 ?_
  obtain ⟨⟨k1,s1,n1,ks1⟩,hx⟩:=Zr (l:=xs) (i:=i) (by omega)
  obtain ⟨⟨k2,s2,n2,ks2⟩,hy⟩:=Zr (l:=ys) (i:=i) (by omega)
  have hcx:=Ty.cellss_get hx
  have hcy:=Ty.cellss_get hy
  refine Q234 ?_
  refine Q407 ?_
  refine Q21 ?_;intro b8
  refine Q6 ?_
  refine Q30 ?_
  refine Q287 ?_
  refine Q491 ?_
  refine Q21 ?_;intro b9
  refine Q30 ?_
  refine Q287 ?_
  refine Q81 ?_
  refine Q49 ?_
  refine Zb 29 V V V (op_callvb (xs:=[.tmp 27,.tmp 28]) V V V (hg _ (We hx) ⟨k2,s2,n2,ks2⟩) by1 ?_);intro c29 h29
  refine Q26 ?_;intro c30 h30
  try replace h30:=Yo h30 h29
  refine Q226 ?_
  rcases Za h30 with ⟨rfl,g30⟩|⟨rfl,g30⟩
  ·refine Q375 ?_
   exact ⟨i+1,⟨by omega,upto_map f hu hx hy (Classical.not_not.1 g30)⟩,by simp;omega,by4,by3⟩
  refine Q285 ?_
  exact Zf V V (Xt _) by3 ⟨⟨_,iff_f (map_ne f hx hy g30),V⟩,V⟩
 refine Q285 ?_
 exact Zf V V (Xt _) by3 ⟨⟨_,iff_f (map_len_ne f (by omega)),V⟩,V⟩
theorem Eqs_Ty {β:Type} (f:Ty→β) (g:FuncId) (xs ys:List Ty) (hg:∀ x∈xs,∀ y,BCall Tryz.prog g [.agg x.cells,.agg y.cells] (f x=f y)):BCall Tryz.prog 50 [.seq 4 (Ty.cellss xs),.seq 4 (Ty.cellss ys),.clo (.func g) [] []] (xs.map f=ys.map f):=by
 have H:=EqF_Ty f g xs ys hg
 refine Zc Tryz.func50 V (by kernel_rfl) V (Xz V) ?_
 refine Q438 ?_
 refine Q277 ?_
 refine Zb 10 V V V (Ze (xs:=[.tmp 7,.tmp 8,.tmp 9]) V V (H) by1 ?_);intro c10 h10
 refine Q232 ?_
 exact Zf V V (Xt _) by3 ⟨⟨_,h10,V⟩,V⟩
theorem tSameType_c (a:Ty):∀ b:Ty,BCall Tryz.prog 25 [.agg a.cells,.agg b.cells] (a=b):=by
 obtain ⟨k1,s1,n1,ks1⟩:=a
 rintro ⟨k2,s2,n2,ks2⟩
 have H:=Eqs_Ty id 25 ks1 ks2 (fun x hx y=>tSameType_c x y)
 refine Zc Tryz.func25 V (by kernel_rfl) V (Xz V) ?_
 refine Q458 ?_
 refine Q69 ?_
 refine Q238 ?_
 refine Zy 4 (Ty.mk k1 s1 n1 ks1=Ty.mk k2 s2 n2 ks2) ?_ _ _ V ?_
 ·skip
  refine Q235 ?_
  refine Q235 ?_
  refine Q17 ?_;intro c9 h9
  refine Q5 ?_
  rcases Za h9 with ⟨rfl,g9⟩|⟨rfl,g9⟩
  ·skip
   refine Q457 ?_
   refine Q457 ?_
   refine Q489 ?_
   refine Xx V ?_ by5 by3
   simp_all
  skip
  refine Q526 ?_
  refine Q78 ?_;intro c15 h15
  refine Q260 ?_
  rcases Za h15 with ⟨rfl,g15⟩|⟨rfl,g15⟩
  ·skip
   refine Q457 ?_
   refine Q489 ?_
   refine Xx V ?_ by5 by3
   simp_all
  skip
  refine Q526 ?_
  refine Q38 ?_;intro c22 h22
  refine Q260 ?_
  rcases Za h22 with ⟨rfl,g22⟩|⟨rfl,g22⟩
  ·skip
   refine Q489 ?_
   refine Xx V ?_ by5 by3
   simp_all
  skip
  refine Q526 ?_
  refine Zq 29 V V V V V (Ze (xs:=[.tmp 26,.tmp 28,.func 25]) V V (H) by1 ?_);intro c29 h29
  refine Q273 ?_
  refine Xx V ?_ by5 by3
  simp_all
 intro c4 h4
 refine Q303 ?_
 exact Zf V V (Xt _) by3 ⟨⟨_,h4,V⟩,V⟩
termination_by SizeOf.sizeOf a
decreasing_by
 have:=List.sizeOf_lt_of_mem hx
 simp;omega
end Go.Proofs.YteepjjgooplljaaGreat
