/- Parts of a proof: small functions of layers 5 and 8: Has, HasInt, Index, Contains, IsFun, fun, Fun, Con, Clone, kids; core: IndexFunc, ContainsFunc, all of types, binds, alternatives, texts; Args, Answer, All, Vars, Metas of the document; Args of the program; cognatelaw08.count, Small; All, Vars, Metas of the document; Args of the program; smalls; Bytes as a text.; The logic of trees, part 18: calls of what Go gives without a body; texts, greater.; the document's lexer: what bytes are; The logic of trees, part 19: calls that turn one piece of the memory; a nil as a slice of the call's own.; the document's declarations: Arity, Class, Method, Inst, names, vars; the document's declarations: Right, Method; what is above a class: it ends; the document's declarations: over, Above; the document's declarations: Above, Bound, binds; declarations that are not too many; the document's declarations: datas; Matching, in plain words.; Matching what was put in: the plain law.; the document's declarations: classes; The logic of trees, part 20: regions whose order is drawn, and in which a new variable is made at no told place: it may be made at any time.; the document's declarations: head, ctx, instance; the document's declarations: instance; the document's declarations: given, supers; the document's check of declarations; the document's lexer: over -/
import Derived.Test.YteepjjgooplljaaGreatKLZPut2
import Derived.Laws.BytesArg
import Derived.Lib.Bytealg
set_option maxRecDepth 100000
set_option maxHeartbeats 4000000
namespace Go.Proofs.YteepjjgooplljaaGreat
open Go.RowKit
theorem Has_c (xs:List ByteArray) (x:ByteArray):BCall Tryz.prog 21 [.seq 1 (strs xs),.val (.string x)] (x∈xs):=by
 have hlx:=Ye xs
 refine Zc Tryz.func21 V (by kernel_rfl) V (Xz V) ?_
 refine Q15 ?_
 refine c_lens (t:=0) V (.seq _ _) (fun hmax=>?_)
 refine Q227 ?_
 refine Q337 ?_
 refine c_loop (σ:=Nat) (fun zz=>match zz with|i=>[(0,.seq 1 (strs xs)),(1,.val (.string x)),(5,.val (.int .i64 i))]) (fun zz=>match zz with|i=>[]) (fun zz=>match zz with|i=>i≤xs.length∧x∉xs.take i) (fun zz=>match zz with|i=>xs.length - i) (0) ?_ ?_ ?_ ?_
 ·exact ⟨by omega,by simp⟩
 ·exact by4
 ·exact by3
 rintro i hI
 try dsimp only [List.cons_append,List.nil_append] at hI ⊢
 obtain ⟨hi,hu⟩:=hI
 refine Q439 ?_;intro n8
 refine Q19 ?_;intro c9 h9
 refine Q226 ?_
 rcases Za h9 with ⟨rfl,g9⟩|⟨rfl,g9⟩
 ·refine Q322 ?_
  exact Zf V V (Xt _) by3 ⟨⟨_,iff_f (by rwa [List.take_of_length_le (by omega)] at hu),V⟩,V⟩
 refine Q265 ?_
 obtain ⟨y,hy⟩:=Zr (l:=xs) (i:=i) (by omega)
 have hcy:=strs_get hy
 refine Q314 ?_
 refine Q143 ?_
 refine Q14 ?_
 refine Q5 ?_
 refine Q60 ?_;intro c17 h17
 refine Q226 ?_
 rcases Za h17 with ⟨rfl,g17⟩|⟨rfl,g17⟩
 ·refine Q305 ?_
  exact ⟨i+1,⟨by omega,not_mem_take hu hy g17⟩,by simp;omega,by4,by3⟩
 refine Q285 ?_
 exact Zf V V (Xt _) by3 ⟨⟨_,iff_t (by rw [← g17];exact We hy),V⟩,V⟩
theorem IndexS_c (xs:List ByteArray) (x:ByteArray):PCall Tryz.prog 119 [.seq 1 (strs xs),.val (.string x)] (.val (.int .i64 (firstAt x xs 0))):=by
 have hlx:=Ye xs
 refine Zc Tryz.func119 V (by kernel_rfl) V (Xz V) ?_
 refine Q15 ?_
 refine c_lens (t:=0) V (.seq _ _) (fun hmax=>?_)
 refine Q381 ?_
 refine Q70 ?_;intro n7
 refine Q317 ?_
 refine c_loop (σ:=Nat) (fun zz=>match zz with|i=>[(0,.seq 1 (strs xs)),(1,.val (.string x)),(7,.val (.int .i64 (strs xs).length)),(8,.val (.int .i64 i))]) (fun zz=>match zz with|i=>[]) (fun zz=>match zz with|i=>i≤xs.length∧x∉xs.take i) (fun zz=>match zz with|i=>xs.length - i) (0) ?_ ?_ ?_ ?_
 ·exact ⟨by omega,by simp⟩
 ·exact by4
 ·exact by3
 rintro i hI
 try dsimp only [List.cons_append,List.nil_append] at hI ⊢
 obtain ⟨hi,hu⟩:=hI
 refine Q318 ?_;intro c9 h9
 refine Q241 ?_
 rcases Za h9 with ⟨rfl,g9⟩|⟨rfl,g9⟩
 ·refine Q322 ?_
  refine Zf V V (Xt _) by3 ⟨?_,V⟩
  rw [← firstAt_drop x xs i hu,List.drop_eq_nil_of_le (by omega),firstAt]
 refine Q256 ?_
 refine Q229 ?_
 refine Q238 ?_
 obtain ⟨y,hy⟩:=Zr (l:=xs) (i:=i) (by omega)
 have hcy:=strs_get hy
 refine Q327 ?_
 refine Q143 ?_
 refine Q14 ?_
 refine Q60 ?_;intro c16 h16
 refine Q226 ?_
 rcases Za h16 with ⟨rfl,g16⟩|⟨rfl,g16⟩
 ·refine Q375 ?_
  exact ⟨i+1,⟨by omega,not_mem_take hu hy (fun e=>g16 e.symm)⟩,by simp;omega,by4,by3⟩
 refine Q358 ?_
 refine Zf V V (Xt _) by3 ⟨?_,V⟩
 rw [← firstAt_drop x xs i hu,Yh hy,firstAt,if_pos g16]
theorem ContainsS_c (xs:List ByteArray) (x:ByteArray):BCall Tryz.prog 72 [.seq 1 (strs xs),.val (.string x)] (x∈xs):=by
 refine Zc Tryz.func72 V (by kernel_rfl) V (Xz V) ?_
 refine Q408 ?_
 refine Zb 7 V V V (Zd (xs:=[.tmp 5,.tmp 6]) V V (IndexS_c xs x) by1 ?_)
 refine Q46 ?_;intro c8 h8
 refine Q232 ?_
 exact Zf V V (Xt _) by3 ⟨⟨_,h8.trans (firstAt_nonneg x xs 0),V⟩,V⟩
theorem fun_c (t:Ty):BCall Tryz.prog 146 [.agg t.cells] t.isFun:=by
 obtain ⟨k,s,n,ks⟩:=t
 have hl:=Ty.cellss_len ks
 refine Zc Tryz.func146 V (by kernel_rfl) V (Xz V) ?_
 refine Q374 ?_;intro b1
 refine Q238 ?_
 refine Zy 2 (k=3∧s=arrow∧ks.length=2) ?_ _ _ V ?_
 ·skip
  refine Q525 ?_;intro c5 h5
  refine Q5 ?_
  rcases Za h5 with ⟨rfl,g5⟩|⟨rfl,g5⟩
  ·skip
   refine Q382 ?_
   refine Q251 ?_
   refine Q273 ?_
   refine Xx V ?_ by5 by3
   first|(simp_all;omega)|simp_all
  skip
  refine Q490 ?_;intro c9 h9
  refine Q260 ?_
  rcases Za h9 with ⟨rfl,g9⟩|⟨rfl,g9⟩
  ·skip
   refine Q251 ?_
   refine Q273 ?_
   refine Xx V ?_ by5 by3
   first|(simp_all;omega)|simp_all
  skip
  refine Q336 ?_
  refine Q79 ?_;intro n14
  refine Q38 ?_;intro c15 h15
  refine Q273 ?_
  refine Xx V ?_ by5 by3
  first|(simp_all;omega)|simp_all
 intro c2 h2
 refine Q303 ?_
 exact Zf V V (Xt _) by3 ⟨⟨_,h2,V⟩,V⟩
theorem kids_c (t:Ty) (ks:List Ty):PCall Tryz.prog 95 [.agg t.cells,.seq 4 (Ty.cellss ks)] (.agg (Ty.mk t.kind t.name t.num ks).cells):=by
 obtain ⟨k1,s1,n1,ks1⟩:=t
 refine Zc Tryz.func95 V (by kernel_rfl) V (Xz V) ?_
 refine Q374 ?_;intro b2
 refine Q21 ?_;intro b4
 refine Q258 ?_
 refine Q272 ?_
 refine Q272 ?_
 refine Q272 ?_
 refine Q5 ?_
 refine Zb 12 V V V (Zp (ns:=[0,1,2,3]) (xs:=[.tmp 6,.tmp 8,.tmp 10,.tmp 11]) V tz_24 V tfl_24 V V V V ?_)
 refine Q492 ?_
 exact Zj (i:=0) V V V Yi V by2 by3 ⟨V,V⟩
theorem CloneT_c (ks:List Ty) (hb:ks.length≤100000000):PCall Tryz.prog 143 [.seq 4 (Ty.cellss ks)] (.seq 4 (Ty.cellss ks)):=by
 have hl:=Ty.cellss_len ks
 refine Zc Tryz.func143 V (by kernel_rfl) V (Xz V) ?_
 refine Q527 ?_
 refine Zb 4 V V V (op_isnil V tu_22 V (.seq _ _) ?_)
 intro c4 h4
 refine Q226 ?_
 rcases c4 with _|_
 ·refine Q289 ?_
  refine Zb 5 V V V (Yt (xs:=[]) el_22 V V V V V V (Xz V) ?_);intro u5
  refine Q5 ?_
  refine Zb 7 V V V (Zw (i:=0) el_22 V V V V (.seq _ _) by6 ?_)
  intro u7
  refine Q232 ?_
  exact Zf V V (Le.own _ _ _) by3 ⟨V,V⟩
 refine Q285 ?_
 exact Zf V V (by rw [h4 rfl];exact Le.nil 4) by3 ⟨V,V⟩
theorem Con_c (s:ByteArray) (ks:List Ty) (hb:ks.length≤100000000):PCall Tryz.prog 83 [.val (.string s),.seq 4 (Ty.cellss ks)] (.agg (Ty.mk 3 s 0 ks).cells):=by
 refine Zc Tryz.func83 V (by kernel_rfl) V (Xz V) ?_
 refine Q237 ?_
 refine Q21 ?_;intro b4
 refine Q287 ?_
 refine Q5 ?_
 refine Zb 7 V V V (Zd (xs:=[.tmp 6]) V V (CloneT_c ks hb) by1 ?_)
 refine Zb 8 V V V (Zp (ns:=[0,1,3]) (xs:=[.const (.int .i64 3),.tmp 5,.tmp 7]) V tz_24 V tfl_24 V V V V ?_)
 refine Q492 ?_
 exact Zj (i:=0) V V V Yi V by2 by3 ⟨V,V⟩
theorem Fun_c (a b:Ty):PCall Tryz.prog 88 [.agg a.cells,.agg b.cells] (.agg (Ty.mk 3 arrow 0 [a,b]).cells):=by
 obtain ⟨k1,s1,n1,ks1⟩:=a
 obtain ⟨k2,s2,n2,ks2⟩:=b
 refine Zc Tryz.func88 V (by kernel_rfl) V (Xz V) ?_
 refine Q374 ?_;intro b2
 refine Q64 ?_;intro b3
 refine Q21 ?_;intro b4
 refine Q258 ?_
 refine Q95 ?_
 refine Q81 ?_
 refine Zb 7 V V V (Zh (xs:=[.tmp 5,.tmp 6]) el_22 V V V V V V (Xz V) (Zb 8 V V V (Zd (xs:=[.const (.string ⟨#[45,62]⟩),.tmp 7]) V V (Con_c arrow [.mk k1 s1 n1 ks1,.mk k2 s2 n2 ks2] (by simp)) by1 ?_)))
 refine Q492 ?_
 exact Zj (i:=0) V V V Yi V by2 by3 ⟨V,V⟩
theorem findI_any {α:Type} {p:α→Bool} {l:List α}:0≤findI p l 0↔l.any p=true:=by
 have key:∀ (l:List α) (i:Nat),0≤findI p l i↔l.any p=true:=by
  intro l
  induction l with
  | nil=>intro i;simp [findI]
  | cons x l ih =>
   intro i
   rw [findI,List.any_cons]
   cases h:p x with
   | true=>simp
   | false=>simp [ih]
 exact key l 0
theorem any_not {α:Type} {p:α→Bool} {l:List α}:¬ l.any (fun x => !p x)=true↔l.all p=true:=by
 induction l with
 | nil=>simp
 | cons x l ih =>
  rw [List.any_cons,List.all_cons]
  cases h:p x with
  | true=>simp
  | false=>simp
theorem IxF_Ty (p:Ty→Bool) (g:FuncId) (fs cs:List AV) (l:List Ty) (hg:∀ x∈l,BCall Tryz.prog g (fs++[.agg x.cells]++cs) (p x=true)):PCall Tryz.prog 179 [.seq 4 (Ty.cellss l),.clo (.func g) fs cs] (.val (.int .i64 (findI p l 0))):=by
 have hl:=Ty.cellss_len l
 obtain ⟨r,hr⟩:∃ r,findI p l 0=r:=⟨_,rfl⟩
 rw [hr]
 refine Zc Tryz.func179 V (by kernel_rfl) V (Xz V) ?_
 refine Q15 ?_
 refine c_lens (t:=0) V (.seq _ _) (fun hmax=>?_)
 refine Q381 ?_
 refine Q47 ?_;intro n7
 refine Q317 ?_
 apply Yd (rg [(2,5),(8,11)]) (σ:=Nat) (fun zz=>match zz with|i=>[(8,.val (.int .i64 i))]) (fun zz=>match zz with|i=>i≤l.length∧findI p (l.drop i) i=r) (fun zz=>match zz with|i=>l.length - i) (0)
 ·repeat' (first|exact Wc|apply Wa rfl|apply Wb rfl)
 ·exact ⟨by omega,hr⟩
 ·exact by4
 rintro i hI
 try dsimp only [List.cons_append,List.nil_append] at hI ⊢
 obtain ⟨hi,hu⟩:=hI
 refine Q318 ?_;intro c9 h9
 refine Q241 ?_
 rcases Za h9 with ⟨rfl,g9⟩|⟨rfl,g9⟩
 ·refine Q322 ?_
  rw [List.drop_eq_nil_of_le (by omega),findI] at hu;exact Zf rfl rfl (Xt _) by3 ⟨by rw [← hu],rfl⟩
 refine Q265 ?_
 obtain ⟨⟨yk,ys,yn,yl⟩,hxy⟩:=Zr (l:=l) (i:=i) by7
 have hcy:=Ty.cellss_get hxy
 have hmy:=We hxy
 refine Q459 ?_
 rw [Yh hxy,findI] at hu
 have HG:=hg _ hmy
 refine Q327 ?_
 refine Zb 14 V V V (Zg V te_22 V (.seq _ _) V V (hcy) ?_)
 refine Q42 ?_
 refine Zb 16 V V V (op_callvb (xs:=[.tmp 15]) V V V (HG) by1 ?_);intro c16 h16
 refine Q226 ?_
 rcases Za h16 with ⟨rfl,g16⟩|⟨rfl,g16⟩
 ·refine Q375 ?_
  rw [if_neg g16] at hu;exact ⟨i+1,⟨by omega,hu⟩,by show l.length - (i+1)<l.length - i;omega,by4,by3⟩
 refine Q358 ?_
 rw [if_pos g16] at hu;exact Zf rfl rfl (Xt _) by3 ⟨by rw [hu],rfl⟩
theorem CoF_Ty (p:Ty→Bool) (g:FuncId) (fs cs:List AV) (l:List Ty) (hg:∀ x∈l,BCall Tryz.prog g (fs++[.agg x.cells]++cs) (p x=true)):BCall Tryz.prog 138 [.seq 4 (Ty.cellss l),.clo (.func g) fs cs] (l.any p=true):=by
 have H:=IxF_Ty p g fs cs l hg
 have hf:=findI_any (p:=p) (l:=l)
 refine Zc Tryz.func138 V (by kernel_rfl) V (Xz V) ?_
 refine Q408 ?_
 refine Zb 7 V V V (Zd (xs:=[.tmp 5,.tmp 6]) V V (H) by1 ?_)
 refine Q46 ?_;intro c8 h8
 refine Q232 ?_
 exact Zf V V (Xt _) by3 ⟨⟨_,h8.trans hf,V⟩,V⟩
theorem all1_Ty (p:Ty→Bool) (g:FuncId) (fs cs:List AV) (x:Ty) (hg:BCall Tryz.prog g (fs++[.agg x.cells]++cs) (p x=true)):BCall Tryz.prog 139 [.agg x.cells,.cptr [.clo (.func g) fs cs]] ((!p x)=true):=by
 have hp:(!p x)=true↔¬ p x=true:=by simp
 generalize ((!p x)=true)=Q at *
 generalize hq:(p x=true)=q at *
 clear hq
 obtain ⟨k, s, n, ks⟩:=x
 refine Zc Tryz.func139 V (by kernel_rfl) V (Xz V) ?_
 refine Q458 ?_
 refine Q264 ?_
 refine Q14 ?_
 refine Q42 ?_
 refine Zb 6 V V V (op_callvb (xs:=[.tmp 5]) V V V (hg) by1 ?_);intro c6 h6
 refine Q26 ?_;intro c7 h7
 try replace h7:=Yo h7 h6
 refine Q232 ?_
 exact Zf V V (Xt _) (Xo _) ⟨⟨_,h7.trans hp.symm,V⟩,V⟩
theorem all_Ty (p:Ty→Bool) (g:FuncId) (fs cs:List AV) (l:List Ty) (hg:∀ x∈l,BCall Tryz.prog g (fs++[.agg x.cells]++cs) (p x=true)):BCall Tryz.prog 79 [.seq 4 (Ty.cellss l),.clo (.func g) fs cs] (l.all p=true):=by
 have H:=CoF_Ty (fun x => !p x) 139 [] [.cptr [.clo (.func g) fs cs]] l (fun x hx=>all1_Ty p g fs cs x (hg x hx))
 have hf:=any_not (p:=p) (l:=l)
 refine Zc Tryz.func79 V (by kernel_rfl) V (Xz V) ?_
 refine Q237 ?_
 refine Q100 ?_
 refine Q271 ?_
 refine Q96 ?_
 refine Zb 7 V V V (Ze (xs:=[.tmp 5,.tmp 6]) V V (H) by1 ?_);intro c7 h7
 refine Q26 ?_;intro c8 h8
 try replace h8:=Yo h8 h7
 refine Q232 ?_
 exact Zf V V (Xt _) (Xo _) ⟨⟨_,h8.trans hf,V⟩,V⟩
theorem IxF_Cb (p:Cb→Bool) (g:FuncId) (fs cs:List AV) (l:List Cb) (hg:∀ x∈l,BCall Tryz.prog g (fs++[.agg x.cells]++cs) (p x=true)):PCall Tryz.prog 68 [.seq 17 (Cb.cellss l),.clo (.func g) fs cs] (.val (.int .i64 (findI p l 0))):=by
 have hl:=Cb.cellss_len l
 obtain ⟨r,hr⟩:∃ r,findI p l 0=r:=⟨_,rfl⟩
 rw [hr]
 refine Zc Tryz.func68 V (by kernel_rfl) V (Xz V) ?_
 refine Q15 ?_
 refine c_lens (t:=0) V (.seq _ _) (fun hmax=>?_)
 refine Q381 ?_
 refine Q91 ?_;intro n7
 refine Q317 ?_
 apply Yd (rg [(2,5),(8,11)]) (σ:=Nat) (fun zz=>match zz with|i=>[(8,.val (.int .i64 i))]) (fun zz=>match zz with|i=>i≤l.length∧findI p (l.drop i) i=r) (fun zz=>match zz with|i=>l.length - i) (0)
 ·repeat' (first|exact Wc|apply Wa rfl|apply Wb rfl)
 ·exact ⟨by omega,hr⟩
 ·exact by4
 rintro i hI
 try dsimp only [List.cons_append,List.nil_append] at hI ⊢
 obtain ⟨hi,hu⟩:=hI
 refine Q318 ?_;intro c9 h9
 refine Q241 ?_
 rcases Za h9 with ⟨rfl,g9⟩|⟨rfl,g9⟩
 ·refine Q322 ?_
  rw [List.drop_eq_nil_of_le (by omega),findI] at hu;exact Zf rfl rfl (Xt _) by3 ⟨by rw [← hu],rfl⟩
 refine Q265 ?_
 obtain ⟨⟨yb,yvs,⟨ywk,yws,ywn,ywl⟩,⟨yk,ys,yn,⟨ytk,yts,ytn,ytl⟩,yus,yks,yal,ybs⟩⟩,hxy⟩:=Zr (l:=l) (i:=i) by7
 have hcy:=Cb.cellss_get hxy
 have hmy:=We hxy
 refine Q459 ?_
 rw [Yh hxy,findI] at hu
 have HG:=hg _ hmy
 refine Q327 ?_
 refine Zb 14 V V V (Zg V te_27 V (.seq _ _) V V (hcy) ?_)
 refine Q101 ?_
 refine Zb 16 V V V (op_callvb (xs:=[.tmp 15]) V V V (HG) by1 ?_);intro c16 h16
 refine Q226 ?_
 rcases Za h16 with ⟨rfl,g16⟩|⟨rfl,g16⟩
 ·refine Q375 ?_
  rw [if_neg g16] at hu;exact ⟨i+1,⟨by omega,hu⟩,by show l.length - (i+1)<l.length - i;omega,by4,by3⟩
 refine Q358 ?_
 rw [if_pos g16] at hu;exact Zf rfl rfl (Xt _) by3 ⟨by rw [hu],rfl⟩
theorem CoF_Cb (p:Cb→Bool) (g:FuncId) (fs cs:List AV) (l:List Cb) (hg:∀ x∈l,BCall Tryz.prog g (fs++[.agg x.cells]++cs) (p x=true)):BCall Tryz.prog 42 [.seq 17 (Cb.cellss l),.clo (.func g) fs cs] (l.any p=true):=by
 have H:=IxF_Cb p g fs cs l hg
 have hf:=findI_any (p:=p) (l:=l)
 refine Zc Tryz.func42 V (by kernel_rfl) V (Xz V) ?_
 refine Q408 ?_
 refine Zb 7 V V V (Zd (xs:=[.tmp 5,.tmp 6]) V V (H) by1 ?_)
 refine Q46 ?_;intro c8 h8
 refine Q232 ?_
 exact Zf V V (Xt _) by3 ⟨⟨_,h8.trans hf,V⟩,V⟩
theorem all1_Cb (p:Cb→Bool) (g:FuncId) (fs cs:List AV) (x:Cb) (hg:BCall Tryz.prog g (fs++[.agg x.cells]++cs) (p x=true)):BCall Tryz.prog 182 [.agg x.cells,.cptr [.clo (.func g) fs cs]] ((!p x)=true):=by
 have hp:(!p x)=true↔¬ p x=true:=by simp
 generalize ((!p x)=true)=Q at *
 generalize hq:(p x=true)=q at *
 clear hq
 obtain ⟨b, vs, ⟨wk, ws, wn, wl⟩, ⟨k, s, n, ⟨tk, ts, tn, tl⟩, us, ks, al, bs⟩⟩:=x
 refine Zc Tryz.func182 V (by kernel_rfl) V (Xz V) ?_
 refine Q237 ?_
 refine Q144 ?_
 refine Q264 ?_
 refine Q14 ?_
 refine Q101 ?_
 refine Zb 6 V V V (op_callvb (xs:=[.tmp 5]) V V V (hg) by1 ?_);intro c6 h6
 refine Q26 ?_;intro c7 h7
 try replace h7:=Yo h7 h6
 refine Q232 ?_
 exact Zf V V (Xt _) (Xo _) ⟨⟨_,h7.trans hp.symm,V⟩,V⟩
theorem all_Cb (p:Cb→Bool) (g:FuncId) (fs cs:List AV) (l:List Cb) (hg:∀ x∈l,BCall Tryz.prog g (fs++[.agg x.cells]++cs) (p x=true)):BCall Tryz.prog 149 [.seq 17 (Cb.cellss l),.clo (.func g) fs cs] (l.all p=true):=by
 have H:=CoF_Cb (fun x => !p x) 182 [] [.cptr [.clo (.func g) fs cs]] l (fun x hx=>all1_Cb p g fs cs x (hg x hx))
 have hf:=any_not (p:=p) (l:=l)
 refine Zc Tryz.func149 V (by kernel_rfl) V (Xz V) ?_
 refine Q237 ?_
 refine Q100 ?_
 refine Q271 ?_
 refine Q96 ?_
 refine Zb 7 V V V (Ze (xs:=[.tmp 5,.tmp 6]) V V (H) by1 ?_);intro c7 h7
 refine Q26 ?_;intro c8 h8
 try replace h8:=Yo h8 h7
 refine Q232 ?_
 exact Zf V V (Xt _) (Xo _) ⟨⟨_,h8.trans hf,V⟩,V⟩
theorem IxF_Ca (p:Ca→Bool) (g:FuncId) (fs cs:List AV) (l:List Ca) (hg:∀ x∈l,BCall Tryz.prog g (fs++[.agg x.cells]++cs) (p x=true)):PCall Tryz.prog 208 [.seq 16 (Ca.cellss l),.clo (.func g) fs cs] (.val (.int .i64 (findI p l 0))):=by
 have hl:=Ca.cellss_len l
 obtain ⟨r,hr⟩:∃ r,findI p l 0=r:=⟨_,rfl⟩
 rw [hr]
 refine Zc Tryz.func208 V (by kernel_rfl) V (Xz V) ?_
 refine Q15 ?_
 refine c_lens (t:=0) V (.seq _ _) (fun hmax=>?_)
 refine Q381 ?_
 refine Q125 ?_;intro n7
 refine Q317 ?_
 apply Yd (rg [(2,5),(8,11)]) (σ:=Nat) (fun zz=>match zz with|i=>[(8,.val (.int .i64 i))]) (fun zz=>match zz with|i=>i≤l.length∧findI p (l.drop i) i=r) (fun zz=>match zz with|i=>l.length - i) (0)
 ·repeat' (first|exact Wc|apply Wa rfl|apply Wb rfl)
 ·exact ⟨by omega,hr⟩
 ·exact by4
 rintro i hI
 try dsimp only [List.cons_append,List.nil_append] at hI ⊢
 obtain ⟨hi,hu⟩:=hI
 refine Q318 ?_;intro c9 h9
 refine Q241 ?_
 rcases Za h9 with ⟨rfl,g9⟩|⟨rfl,g9⟩
 ·refine Q322 ?_
  rw [List.drop_eq_nil_of_le (by omega),findI] at hu;exact Zf rfl rfl (Xt _) by3 ⟨by rw [← hu],rfl⟩
 refine Q265 ?_
 obtain ⟨⟨⟨yqk,yqs,yqn,yql,yqp⟩,⟨yk,ys,yn,⟨ytk,yts,ytn,ytl⟩,yus,yks,yal,ybs⟩⟩,hxy⟩:=Zr (l:=l) (i:=i) by7
 have hcy:=Ca.cellss_get hxy
 have hmy:=We hxy
 refine Q459 ?_
 rw [Yh hxy,findI] at hu
 have HG:=hg _ hmy
 refine Q327 ?_
 refine Zb 14 V V V (Zg V te_26 V (.seq _ _) V V (hcy) ?_)
 refine Q176 ?_
 refine Zb 16 V V V (op_callvb (xs:=[.tmp 15]) V V V (HG) by1 ?_);intro c16 h16
 refine Q226 ?_
 rcases Za h16 with ⟨rfl,g16⟩|⟨rfl,g16⟩
 ·refine Q375 ?_
  rw [if_neg g16] at hu;exact ⟨i+1,⟨by omega,hu⟩,by show l.length - (i+1)<l.length - i;omega,by4,by3⟩
 refine Q358 ?_
 rw [if_pos g16] at hu;exact Zf rfl rfl (Xt _) by3 ⟨by rw [hu],rfl⟩
theorem CoF_Ca (p:Ca→Bool) (g:FuncId) (fs cs:List AV) (l:List Ca) (hg:∀ x∈l,BCall Tryz.prog g (fs++[.agg x.cells]++cs) (p x=true)):BCall Tryz.prog 183 [.seq 16 (Ca.cellss l),.clo (.func g) fs cs] (l.any p=true):=by
 have H:=IxF_Ca p g fs cs l hg
 have hf:=findI_any (p:=p) (l:=l)
 refine Zc Tryz.func183 V (by kernel_rfl) V (Xz V) ?_
 refine Q408 ?_
 refine Zb 7 V V V (Zd (xs:=[.tmp 5,.tmp 6]) V V (H) by1 ?_)
 refine Q46 ?_;intro c8 h8
 refine Q232 ?_
 exact Zf V V (Xt _) by3 ⟨⟨_,h8.trans hf,V⟩,V⟩
theorem all1_Ca (p:Ca→Bool) (g:FuncId) (fs cs:List AV) (x:Ca) (hg:BCall Tryz.prog g (fs++[.agg x.cells]++cs) (p x=true)):BCall Tryz.prog 184 [.agg x.cells,.cptr [.clo (.func g) fs cs]] ((!p x)=true):=by
 have hp:(!p x)=true↔¬ p x=true:=by simp
 generalize ((!p x)=true)=Q at *
 generalize hq:(p x=true)=q at *
 clear hq
 obtain ⟨⟨qk, qs, qn, ql, qp⟩, ⟨k, s, n, ⟨tk, ts, tn, tl⟩, us, ks, al, bs⟩⟩:=x
 refine Zc Tryz.func184 V (by kernel_rfl) V (Xz V) ?_
 refine Q237 ?_
 refine Q145 ?_
 refine Q264 ?_
 refine Q14 ?_
 refine Q176 ?_
 refine Zb 6 V V V (op_callvb (xs:=[.tmp 5]) V V V (hg) by1 ?_);intro c6 h6
 refine Q26 ?_;intro c7 h7
 try replace h7:=Yo h7 h6
 refine Q232 ?_
 exact Zf V V (Xt _) (Xo _) ⟨⟨_,h7.trans hp.symm,V⟩,V⟩
theorem all_Ca (p:Ca→Bool) (g:FuncId) (fs cs:List AV) (l:List Ca) (hg:∀ x∈l,BCall Tryz.prog g (fs++[.agg x.cells]++cs) (p x=true)):BCall Tryz.prog 150 [.seq 16 (Ca.cellss l),.clo (.func g) fs cs] (l.all p=true):=by
 have H:=CoF_Ca (fun x => !p x) 184 [] [.cptr [.clo (.func g) fs cs]] l (fun x hx=>all1_Ca p g fs cs x (hg x hx))
 have hf:=any_not (p:=p) (l:=l)
 refine Zc Tryz.func150 V (by kernel_rfl) V (Xz V) ?_
 refine Q237 ?_
 refine Q100 ?_
 refine Q271 ?_
 refine Q96 ?_
 refine Zb 7 V V V (Ze (xs:=[.tmp 5,.tmp 6]) V V (H) by1 ?_);intro c7 h7
 refine Q26 ?_;intro c8 h8
 try replace h8:=Yo h8 h7
 refine Q232 ?_
 exact Zf V V (Xt _) (Xo _) ⟨⟨_,h8.trans hf,V⟩,V⟩
end Go.Proofs.YteepjjgooplljaaGreat
namespace Go.Proofs.YteepjjgooplljaaGreat
open Go.RowKit
theorem count_c (d:Nat):∀ (t:Ty) (most:Int),t.size≤d→1≤most→most≤1000000→PCall Tryz.prog 39 [.agg t.cells,.val (.int .i64 most)] (.val (.int .i64 (t.cnt most))):=by
 induction d with
 | zero=>intro t most hd;have:=Ty.size_pos t;omega
 | succ d ih =>
  rintro ⟨k,s,n,ks⟩ most hd h1 h2
  have hl:=Ty.cellss_len ks
  rw [Ty.size] at hd
  refine Zc Tryz.func39 V (by kernel_rfl) V (Xz V) ?_
  refine Q15 ?_
  refine c_lena (t:=0) (j:=3) V V (.seq _ _) (fun hmax=>?_)
  refine Q227 ?_
  refine Q64 ?_;intro b2
  refine Q264 ?_
  refine Q306 ?_
  refine Zy 20 (k=1∧(0<ks.length∨n≠0)) ?_ _ _ V ?_
  ·skip
   refine Q525 ?_;intro c9 h9
   refine Q5 ?_
   rcases Za h9 with ⟨rfl,g9⟩|⟨rfl,g9⟩
   ·skip
    refine Q294 ?_
    refine Q276 ?_
    refine Q528 ?_
    refine Q236 ?_
    refine Xx V ?_ by5 by3
    simp_all
   skip
   refine Q336 ?_
   refine Q79 ?_;intro n13
   refine Q71 ?_;intro c14 h14
   refine Q16 ?_
   rcases Za h14 with ⟨rfl,g14⟩|⟨rfl,g14⟩
   ·skip
    refine Q336 ?_
    refine Q66 ?_;intro c18 h18
    refine Q299 ?_
    refine Xx V ?_ by5 by3
    simp_all
   skip
   refine Q279 ?_
   refine Q299 ?_
   refine Xx V ?_ by5 by3
   simp_all
  intro c20 h20
  refine Q1 ?_
  rcases Za h20 with ⟨rfl,g20⟩|⟨rfl,g20⟩
  ·refine Q242 ?_
   refine Q304 ?_
   refine c_loop (σ:=Nat × Int) (fun zz=>match zz with|(i,m)=>[(2,.ptr b2 0),(1,.val (.int .i64 most)),(5,.val (.int .i64 m)),(6,.val (.int .i64 i))]) (fun zz=>match zz with|(i,m)=>[.loc b2 [.val (.int .i64 k),.val (.string s),.val (.int .i64 n),.seq 4 (Ty.cellss ks)]]) (fun zz=>match zz with|(i,m)=>i≤ks.length∧1≤m∧m≤most∧Ty.cnts (ks.drop i) m most=Ty.cnt (.mk k s n ks) most) (fun zz=>match zz with|(i,m)=>ks.length - i) ((0,1)) ?_ ?_ ?_ ?_
   ·exact ⟨by omega,by omega,h1,by rw [List.drop_zero,Ty.cnt_not (by simpa [Ty.kind,Ty.kids,Ty.num,List.length_pos_iff] using g20)];rfl⟩
   ·exact by4
   ·exact by3
   rintro ⟨i,m⟩ hI
   try dsimp only [List.cons_append,List.nil_append] at hI ⊢
   obtain ⟨hi,m1,m2,hc⟩:=hI
   refine Q292 ?_
   refine Zy 31 (i<ks.length∧m<most) ?_ _ _ V ?_
   ·skip
    refine Q5 ?_
    refine Q243 ?_
    refine Q47 ?_;intro n25
    refine Q19 ?_;intro c26 h26
    refine Q5 ?_
    rcases Za h26 with ⟨rfl,g26⟩|⟨rfl,g26⟩
    ·skip
     refine Q422 ?_
     refine Xx V ?_ by5 by3
     simp_all;done
    skip
    refine Q312 ?_
    refine Q61 ?_;intro c30 h30
    refine Q236 ?_
    refine Xx V ?_ by5 by3
    simp_all;done
   intro c31 h31
   refine Q1 ?_
   rcases Za h31 with ⟨rfl,g31⟩|⟨rfl,g31⟩
   ·refine Q364 ?_
    refine Zf V V (Xt _) by3 ⟨?_,V⟩
    rw [← hc]
    by_cases e:i<ks.length
    ·obtain ⟨x,hx⟩:=Zr e
     rw [Yh hx,Ty.cnts,if_neg (fun q=>g31 ⟨e,q⟩)]
    rw [List.drop_eq_nil_of_le (by omega),Ty.cnts]
   refine Q256 ?_
   obtain ⟨⟨k',s',n',ks'⟩,hx⟩:=Zr g31.1
   have hcx:=Ty.cellss_get hx
   have hsz:=Ty.size_at hx
   have hb:=Ty.cnt_bd (.mk k' s' n' ks') (most - m) (by omega)
   refine Q529 ?_
   refine Q491 ?_
   refine Q277 ?_
   refine Q65 ?_
   refine Zb 43 V V V (Zd (xs:=[.tmp 39,.tmp 42]) V V (ih (.mk k' s' n' ks') (most - m) (by omega) (by omega) (by omega)) by1 ?_)
   refine Q262 ?_
   refine Q268 ?_
   refine ⟨(i+1,m+Ty.cnt (.mk k' s' n' ks') (most - m)),⟨by omega,by omega,by omega,?_⟩,by simp;omega,by4,by3⟩
   rw [← hc,Yh hx,Ty.cnts,if_pos g31.2]
  refine Q358 ?_
  exact Zf V V (Xt _) by3 ⟨by rw [Ty.cnt_var (by simpa [Ty.kind,Ty.kids,Ty.num,List.length_pos_iff] using g20)],V⟩
theorem Small_c (t:Ty) (most:Int) (h1:0≤most) (h2:most≤100000):BCall Tryz.prog 15 [.agg t.cells,.val (.int .i64 most)] (t.small most=true):=by
 obtain ⟨k,s,n,ks⟩:=t
 have hb:=Ty.cnt_bd (.mk k s n ks) (most+1) (by omega)
 refine Zc Tryz.func15 V (by kernel_rfl) V (Xz V) ?_
 refine Q374 ?_;intro b2
 refine Q264 ?_
 refine Q49 ?_
 refine Q493 ?_
 refine Zb 8 V V V (Zd (xs:=[.tmp 5,.tmp 7]) V V (count_c _ (.mk k s n ks) (most+1) (Nat.le_refl _) (by omega) (by omega)) by1 ?_)
 refine Q5 ?_
 refine Q146 ?_;intro c10 h10
 refine Q232 ?_
 exact Zf V V (Xt _) by3 ⟨⟨_,h10.trans (by simp [Ty.small]),V⟩,V⟩
theorem All_c (d:Nat):∀ t:Ty,t.size≤d→t.size≤1000000→OCall Tryz.prog 165 [.agg t.cells] 24 4 (Ty.cellss t.all):=by
 induction d with
 | zero=>intro t hd;have:=Ty.size_pos t;omega
 | succ d ih =>
  rintro ⟨k,s,n,ks⟩ hd hmx
  have hl:=Ty.cellss_len ks
  have hls:=Ty.len_sizes ks
  rw [Ty.size] at hd hmx
  refine Zc Tryz.func165 V (by kernel_rfl) V (Xz V) ?_
  refine Q374 ?_;intro b1
  refine Q264 ?_
  refine Q49 ?_
  refine Zb 6 V V V (Yt (xs:=[.tmp 5]) el_22 V V V V V V (Xz V) ?_);intro u6
  refine Q337 ?_
  refine c_loop (σ:=Nat × Value) (fun zz=>match zz with|(i,u)=>[(1,.ptr b1 0),(3,.own u 4 (Ty.cellss (.mk k s n ks::Ty.alls (ks.take i)))),(4,.val (.int .i64 i))]) (fun zz=>match zz with|(i,u)=>[.own 24 4 u,.loc b1 [.val (.int .i64 k),.val (.string s),.val (.int .i64 n),.seq 4 (Ty.cellss ks)]]) (fun zz=>match zz with|(i,u)=>i≤ks.length) (fun zz=>match zz with|(i,u)=>ks.length - i) ((0,u6)) ?_ ?_ ?_ ?_
  ·simp
  ·exact by4
  ·exact by3
  rintro ⟨i,u⟩ hI
  try dsimp only [List.cons_append,List.nil_append] at hI ⊢
  refine Q261 ?_
  refine Q272 ?_
  refine Q47 ?_;intro n10
  refine Q19 ?_;intro c11 h11
  refine Q226 ?_
  rcases Za h11 with ⟨rfl,g11⟩|⟨rfl,g11⟩
  ·refine Q364 ?_
   refine Zf V V (Xy ?_) by3 ⟨_,V,V⟩
   rw [List.take_of_length_le (by omega),Ty.all]
  refine Q256 ?_
  obtain ⟨⟨k',s',n',ks'⟩,hx⟩:=Zr (l:=ks) (i:=i) (by omega)
  have hcx:=Ty.cellss_get hx
  have hsz:=Ty.size_at hx
  have hst:=Ty.sizes_take ks i
  have e:Ty.cellss (.mk k s n ks::Ty.alls (ks.take i))++Ty.cellss (Ty.all (.mk k' s' n' ks'))=Ty.cellss (.mk k s n ks::Ty.alls (ks.take (i+1))):=by rw [Ty.alls_take ks hx,← Ty.cellss_app];rfl
  refine Q234 ?_
  refine Q272 ?_
  refine Q491 ?_
  refine Zb 20 V V V (op_callo (xs:=[.tmp 19]) V V (ih (.mk k' s' n' ks') (by omega) (by omega)) by1 ?_);intro u20
  refine Zb 21 V V V (Zw (i:=1) el_22 V V V V (.own _ _ _) (by simp only [Ty.cellss_len,List.length_cons,Ty.all_len,Ty.alls_len];omega) ?_)
  intro u21
  refine Q349 ?_
  exact ⟨(i+1,u21),by simp;omega,by simp;omega,(by repeat' (first|exact SLe.nil _|refine Xw V ?_ ?_|exact Xt _|exact Le.own _ _ _|exact Le.nil _|(refine Xy ?_;exact e)|(refine Le.own_seq ?_;exact e)|(refine Le.seq_eq ?_;exact e))),by3⟩
theorem rVars_c (t:Ty) (hmx:t.size≤1000000):OCall Tryz.prog 108 [.agg t.cells] 9 1 (strs t.vars):=by
 have hA:=All_c t.size t (Nat.le_refl _) hmx
 have hal:=Ty.all_len t
 have hl:=Ty.cellss_len t.all
 unfold Ty.vars
 generalize Ty.all t=A at hA hal hl
 obtain ⟨k,s,n,ks⟩:=t
 refine Zc Tryz.func108 V (by kernel_rfl) V (Xz V) ?_
 refine Q374 ?_;intro b1
 refine Q264 ?_
 refine Q49 ?_
 refine Zb 7 V V V (op_callo (xs:=[.tmp 6]) V V (hA) by1 ?_);intro u7
 refine Q264 ?_
 refine Q337 ?_
 refine ACode.ownNil (t:=4) 9 1 V ?_
 refine c_loop (σ:=Nat × Value) (fun zz=>match zz with|(i,u)=>[(3,.seq 4 (Ty.cellss A)),(4,.own u 1 (strs ((A.take i).foldl addVar []))),(5,.val (.int .i64 i))]) (fun zz=>match zz with|(i,u)=>[.own 9 1 u]) (fun zz=>match zz with|(i,u)=>i≤A.length) (fun zz=>match zz with|(i,u)=>A.length - i) ((0,.slice none 0 0)) ?_ ?_ ?_ ?_
 ·simp
 ·exact by4
 ·exact by3
 rintro ⟨i,u⟩ hI
 try dsimp only [List.cons_append,List.nil_append] at hI ⊢
 refine Q316 ?_
 refine Q47 ?_;intro n10
 refine Q19 ?_;intro c11 h11
 refine Q226 ?_
 rcases Za h11 with ⟨rfl,g11⟩|⟨rfl,g11⟩
 ·refine Q364 ?_
  refine Zf V V (Xy ?_) by3 ⟨_,V,V⟩
  rw [List.take_of_length_le (by omega)]
 refine Q265 ?_
 obtain ⟨⟨xk,xs,xn,xks⟩,hx⟩:=Zr (l:=A) (i:=i) (by omega)
 have hcx:=Ty.cellss_get hx
 have hfl:=foldVar_len (A.take i) []
 have hts:(A.take (i+1)).foldl addVar []=addVar ((A.take i).foldl addVar []) (.mk xk xs xn xks):=by rw [Yl hx,List.foldl_append];rfl
 refine Zy 29 (xk=1∧xs∉(A.take i).foldl addVar []) ?_ _ _ V ?_
 ·skip
  refine Q277 ?_
  refine Q80 ?_
  refine Q235 ?_
  refine Q17 ?_;intro c19 h19
  refine Q5 ?_
  rcases Za h19 with ⟨rfl,g19⟩|⟨rfl,g19⟩
  ·skip
   refine Q251 ?_
   refine Q376 ?_
   refine Xx V ?_ by5 by3
   simp_all
  skip
  refine Q312 ?_
  refine Q16 ?_
  refine Zq 24 V V V V V (Zg V te_22 V (.seq _ _) V V (by assumption) ?_)
  refine Q291 ?_
  refine Zq 27 V V V V V (Ze (xs:=[.tmp 21,.tmp 26]) V V (Has_c ((A.take i).foldl addVar []) xs) by1 ?_);intro c27 h27
  refine Q67 ?_;intro c28 h28
  try replace h28:=Yo h28 h27
  refine Q236 ?_
  refine Xx V ?_ by5 by3
  simp_all
 intro c29 h29
 refine Q1 ?_
 rcases Za h29 with ⟨rfl,g29⟩|⟨rfl,g29⟩
 ·refine Q305 ?_
  first|exact ⟨(i+1,u37),by simp;omega,by simp;omega,(by repeat' (first|exact SLe.nil _|refine Xw rfl ?_ ?_|exact Xt _|exact Le.own _ _ _|exact Le.nil _|(refine Xy ?_;(rw [hts,addVar_yes g29];exact strs_snoc _ _))|(refine Le.own_seq ?_;(rw [hts,addVar_yes g29];exact strs_snoc _ _))|(refine Le.seq_eq ?_;(rw [hts,addVar_yes g29];exact strs_snoc _ _)))),by3⟩|exact ⟨(i+1,u),by simp;omega,by simp;omega,(by repeat' (first|exact SLe.nil _|refine Xw rfl ?_ ?_|exact Xt _|exact Le.own _ _ _|exact Le.nil _|(refine Xy ?_;(rw [hts,addVar_no g29]))|(refine Le.own_seq ?_;(rw [hts,addVar_no g29]))|(refine Le.seq_eq ?_;(rw [hts,addVar_no g29])))),by3⟩
 refine Q9 ?_
 refine Q327 ?_
 refine Q80 ?_
 refine Q235 ?_
 refine Zb 36 V V V (Zh (xs:=[.tmp 35]) Xd V V V V V V (Xz V) ?_)
 refine Zb 37 V V V (Zw (i:=0) Xd V V V V (.seq _ _) (by simp [Ye] at hfl ⊢;omega) ?_)
 intro u37
 refine Q349 ?_
 first|exact ⟨(i+1,u37),by simp;omega,by simp;omega,(by repeat' (first|exact SLe.nil _|refine Xw rfl ?_ ?_|exact Xt _|exact Le.own _ _ _|exact Le.nil _|(refine Xy ?_;(rw [hts,addVar_yes g29];exact strs_snoc _ _))|(refine Le.own_seq ?_;(rw [hts,addVar_yes g29];exact strs_snoc _ _))|(refine Le.seq_eq ?_;(rw [hts,addVar_yes g29];exact strs_snoc _ _)))),by3⟩|exact ⟨(i+1,u),by simp;omega,by simp;omega,(by repeat' (first|exact SLe.nil _|refine Xw rfl ?_ ?_|exact Xt _|exact Le.own _ _ _|exact Le.nil _|(refine Xy ?_;(rw [hts,addVar_no g29]))|(refine Le.own_seq ?_;(rw [hts,addVar_no g29]))|(refine Le.seq_eq ?_;(rw [hts,addVar_no g29])))),by3⟩
theorem Args_c (t:Ty) (hmx:t.size≤1000000):PCall Tryz.prog 85 [.agg t.cells] (.tup [.seq 4 (Ty.cellss t.args),.agg t.ans.cells]):=by
 have has:=Ty.args_size t
 obtain ⟨k,s,n,ks⟩:=t
 refine Zc Tryz.func85 V (by kernel_rfl) V (Xz V) ?_
 refine Q374 ?_;intro b1
 refine Q6 ?_
 refine Q21 ?_;intro b3
 refine Q258 ?_
 refine Q387 ?_
 refine ACode.ownNil (t:=4) 24 4 V ?_
 refine c_loop (σ:=Ty × List Ty × Value) (fun zz=>match zz with|(c,dn,u)=>[(1,.ptr b1 0),(3,.ptr b3 0),(4,.own u 4 (Ty.cellss dn))]) (fun zz=>match zz with|(c,dn,u)=>[.own 24 4 u,.loc b3 [.val (.int .i64 0),.val (.string ⟨#[]⟩),.val (.int .i64 0),.val (.slice none 0 0)],.loc b1 c.cells]) (fun zz=>match zz with|(c,dn,u)=>dn++c.args=Ty.args (.mk k s n ks)∧c.ans=Ty.ans (.mk k s n ks)) (fun zz=>match zz with|(c,dn,u)=>c.size) ((.mk k s n ks,[],.slice none 0 0)) ?_ ?_ ?_ ?_
 ·exact ⟨V,V⟩
 ·exact by4
 ·exact by3
 rintro ⟨⟨ck,cs,cn,cks⟩,dn,u⟩ hI
 try dsimp only [List.cons_append,List.nil_append] at hI ⊢
 obtain ⟨ha,hb⟩:=hI
 refine Q2 ?_
 refine Q227 ?_
 refine Q95 ?_
 refine Zb 6 V V V (Ze (xs:=[.tmp 5]) V V (fun_c (.mk ck cs cn cks)) by1 ?_);intro c6 h6
 refine Q226 ?_
 rcases Za h6 with ⟨rfl,g6⟩|⟨rfl,g6⟩
 ·refine Q343 ?_
  rw [Ty.args_not g6] at ha
  rw [Ty.ans_not g6] at hb
  refine Yp [0,1,2,3] [3] [[],[],[0],[0,1,2]] Xl V ?_
  refine Q24 ?_
  refine Q116 ?_
  refine Q58 ?_
  refine Q97 ?_
  show AGo _ _ _ _ _ _ _
  refine Q303 ?_
  rw [← ha,← hb]
  exact out_tc (i:=1) V V V V Yi V (by repeat' (first|exact Xt _|exact Le.own _ _ _|exact Le.nil _|refine Le.agg ?_|refine Le.tup ?_|exact Xu _|refine Xv ?_ ?_|(refine Xy ?_;simp)|(refine Le.own_seq ?_;simp)|(refine Le.seq_eq ?_;simp))) by3 ⟨V,V⟩
 refine Q423 ?_
 obtain ⟨n',⟨ka,sa,na,kas⟩,⟨kb,sb,nb,kks⟩,e⟩:=Ty.fun_kids g6
 cases e
 rw [Ty.args_fun] at ha
 rw [Ty.ans_fun] at hb
 have hln:=congrArg List.length ha
 simp only [List.length_append,List.length_cons] at hln
 refine Q234 ?_
 refine Q388 ?_
 refine Zb 10 V V V (Zg (i:=0) V te_22 V (.seq _ _) V V (by first|rfl|assumption) ?_)
 refine Q42 ?_
 refine Q177 ?_
 refine Zb 13 V V V (Zw (i:=0) el_22 V V V V (.seq _ _) (by simp [Ty.cellss_len];omega) ?_)
 intro u13
 refine Q494 ?_
 refine Q388 ?_
 refine Zb 16 V V V (Zg (i:=1) V te_22 V (.seq _ _) V V (by first|rfl|assumption) ?_)
 refine Q42 ?_
 refine Q75 ?_
 refine Q365 ?_
 exact ⟨(.mk kb sb nb kks,dn++[.mk ka sa na kas],u13),⟨by rw [← ha];simp,hb⟩,by simp [Ty.size,Ty.sizes];omega,(by repeat' (first|exact SLe.nil _|refine Xw V ?_ ?_|exact Xt _|exact Le.own _ _ _|exact Le.nil _|(refine Xy ?_;(rw [Ty.cellss_app];rfl))|(refine Le.own_seq ?_;(rw [Ty.cellss_app];rfl))|(refine Le.seq_eq ?_;(rw [Ty.cellss_app];rfl)))),by3⟩
section
variable {P:Program} {n:Nat} {al:Sl} {M:Mem} {o:Oper} {K:AV→Mem→Prop}
def bts (xs:List Int):List (List AV):=xs.map fun b=>[.val (.int .u8 b)]
theorem bts_flat (xs:List Int):(bts xs).flatten=xs.map fun b=>AV.val (.int .u8 b):=by
 induction xs with
 | nil=>rfl
 | cons x xs ih=>unfold bts at *;rw [List.map_cons,List.flatten_cons,ih];rfl
theorem rels_vals {F:EH}:∀ {vs us:List Value},Rels F (vs.map AV.val) us→us=vs
 | [],us,h=>by cases h;rfl
 | v::vs,us,h=>by
  cases h with
  | cons h hs=>cases h;rw [rels_vals hs]
theorem op_bytestr {x:Operand} {t t' e:TypeId} {v:AV} {xs:List Int} (ho:o.op=.convert t t' x) (ht:P.underlying t=some (.slice e)) (he:P.underlying e=some (.int .u8)) (ht':P.underlying t'=some .string) (hx:al.ev x=some v) (hv:IsSeq v 1 (bts xs)) (h0:xs≠[]) (q:K (.val (.string (strOfNums xs))) M):OpT P o al M K :=
 OpT.plain fun n B F Mf ac w hi hs=>by
  have h:=hv.rel (hs.ev hx)
  generalize hu:ac.eval x=u at h
  generalize hes:bts xs=es at h
  cases h with
  | seq0 _ ao cap _=>exact absurd (by simpa [bts] using hes) h0
  | seq b off cap hm hn hl h h1 hcq =>
   subst hes
   rw [bts_flat,show (xs.map fun b=>AV.val (.int .u8 b))=(xs.map (Value.int .u8)).map AV.val from by simp] at h
   have:=rels_vals h
   subst this
   have hlen:(bts xs).length=xs.length:=by simp [bts]
   refine ⟨_,_,?_,q,.val _⟩
   have:=run_convert_bytes_arg (P:=P) w t e ht he b off xs.length cap xs rfl (fun i hi'=>hi.fix _ _ _ (hl i _ (by simp [hi']))) t' ht'
   simp [execOp,ho,hu,hlen,this]
end
section
variable {P:Program} {al:Sl} {M:Mem} {K:AV→Mem→Prop} {o:Oper}
theorem op_bytestr0 {x:Operand} {t t' e:TypeId} {v:AV} (ho:o.op=.convert t t' x) (ht:P.underlying t=some (.slice e)) (he:P.underlying e=some (.int .u8)) (ht':P.underlying t'=some .string) (hx:al.ev x=some v) (hv:IsSeq v 1 []) (q:K (.val (.string ⟨#[]⟩)) M):OpT P o al M K :=
 OpT.plain fun n B F Mf ac w hi hs=>by
  have h:=hv.rel (hs.ev hx)
  generalize hu:ac.eval x=u at h
  have key:∃ ao cap,u=.slice ao 0 cap:=by
   obtain ⟨ao,cap,h⟩:=h.seq_len
   exact ⟨ao,cap,h⟩
  obtain ⟨ao,cap,rfl⟩:=key
  refine ⟨_,_,?_,q,.val _⟩
  have hr:(convert t t' (.slice ao 0 cap)).run P w=.ok (.string ⟨#[]⟩) w:=by
   rw [run_convert_bytes_string w t t' e _ 0 cap ht he ht']
   cases ao <;> simp [Conv.bytesToString,loadCells,loadCellsFrom,ByteArray.empty,ByteArray.emptyWithCapacity] <;> rfl
  simp [execOp,ho,hu,hr]
theorem op_bytestra {x:Operand} {t t' e:TypeId} {v:AV} {xs:List Int} (ho:o.op=.convert t t' x) (ht:P.underlying t=some (.slice e)) (he:P.underlying e=some (.int .u8)) (ht':P.underlying t'=some .string) (hx:al.ev x=some v) (hv:IsSeq v 1 (bts xs)) (q:K (.val (.string (strOfNums xs))) M):OpT P o al M K:=by
 by_cases h0:xs=[]
 ·subst h0
  exact op_bytestr0 ho ht he ht' hx hv q
 exact op_bytestr ho ht he ht' hx hv h0 q
end
theorem Le.inteq {k:IntKind} {a b:Int} (h:a=b):Le (.val (.int k a)) (.val (.int k b)):=by rw [h];exact Xt _
theorem smallC_iff (c:Nat):smallC c=true↔((97≤c∧c≤122)∨c=95):=by simp [smallC]
theorem greatC_iff (c:Nat):greatC c=true↔(65≤c∧c≤90):=by simp [greatC]
theorem digitC_iff (c:Nat):digitC c=true↔(48≤c∧c≤57):=by simp [digitC]
theorem blankC_iff (c:Nat):blankC c=true↔(c=32∨c=9∨c=10∨c=13):=by simp [blankC,or_assoc]
theorem nameC_iff (c:Nat):nameC c=true↔(smallC c=true∨greatC c=true∨digitC c=true∨c=39):=by simp [nameC,or_assoc]
theorem small_c (c:Nat):BCall Tryz.prog 193 [.val (.int .u8 c)] (smallC c=true):=by
 refine Zc Tryz.func193 V (by kernel_rfl) V (Xz V) ?_
 refine Q495 ?_
 refine Zy 2 ((97≤c∧c≤122)∨c=95) ?_ _ _ V ?_
 ·skip
  refine Q346 ?_;intro c4 h4
  refine Q5 ?_
  rcases Za h4 with ⟨rfl,g4⟩|⟨rfl,g4⟩
  ·skip
   refine Q369 ?_
   refine Q344 ?_;intro c11 h11
   refine Q273 ?_
   refine Xx V ?_ by5 by3
   simp_all;omega
  skip
  refine Q496 ?_;intro c7 h7
  refine Q260 ?_
  rcases Za h7 with ⟨rfl,g7⟩|⟨rfl,g7⟩
  ·skip
   refine Q344 ?_;intro c11 h11
   refine Q273 ?_
   refine Xx V ?_ by5 by3
   simp_all;omega
  skip
  refine Q400 ?_
  refine Xx V ?_ by5 by3
  simp_all;omega
 intro c2 h2
 refine Q303 ?_
 exact Zf V V (Xt _) by3 ⟨⟨_,h2.trans (smallC_iff c).symm,V⟩,V⟩
theorem great_c (c:Nat):BCall Tryz.prog 194 [.val (.int .u8 c)] (greatC c=true):=by
 refine Zc Tryz.func194 V (by kernel_rfl) V (Xz V) ?_
 refine Q495 ?_
 refine Zy 2 (65≤c∧c≤90) ?_ _ _ V ?_
 ·skip
  refine Q346 ?_;intro c4 h4
  refine Q5 ?_
  rcases Za h4 with ⟨rfl,g4⟩|⟨rfl,g4⟩
  ·skip
   refine Q400 ?_
   refine Xx V ?_ by5 by3
   simp_all;omega
  skip
  refine Q496 ?_;intro c7 h7
  refine Q273 ?_
  refine Xx V ?_ by5 by3
  simp_all;omega
 intro c2 h2
 refine Q303 ?_
 exact Zf V V (Xt _) by3 ⟨⟨_,h2.trans (greatC_iff c).symm,V⟩,V⟩
theorem digit_c (c:Nat):BCall Tryz.prog 190 [.val (.int .u8 c)] (digitC c=true):=by
 refine Zc Tryz.func190 V (by kernel_rfl) V (Xz V) ?_
 refine Q495 ?_
 refine Zy 2 (48≤c∧c≤57) ?_ _ _ V ?_
 ·skip
  refine Q346 ?_;intro c4 h4
  refine Q5 ?_
  rcases Za h4 with ⟨rfl,g4⟩|⟨rfl,g4⟩
  ·skip
   refine Q400 ?_
   refine Xx V ?_ by5 by3
   simp_all;omega
  skip
  refine Q496 ?_;intro c7 h7
  refine Q273 ?_
  refine Xx V ?_ by5 by3
  simp_all;omega
 intro c2 h2
 refine Q303 ?_
 exact Zf V V (Xt _) by3 ⟨⟨_,h2.trans (digitC_iff c).symm,V⟩,V⟩
theorem blank_c (c:Nat):BCall Tryz.prog 188 [.val (.int .u8 c)] (blankC c=true):=by
 refine Zc Tryz.func188 V (by kernel_rfl) V (Xz V) ?_
 refine Q495 ?_
 refine Zy 2 (c=32∨c=9∨c=10∨c=13) ?_ _ _ V ?_
 ·skip
  refine Q401 ?_;intro c4 h4
  refine Q5 ?_
  rcases Za h4 with ⟨rfl,g4⟩|⟨rfl,g4⟩
  ·skip
   refine Q344 ?_;intro c7 h7
   refine Q260 ?_
   rcases Za h7 with ⟨rfl,g7⟩|⟨rfl,g7⟩
   ·skip
    refine Q344 ?_;intro c11 h11
    refine Q260 ?_
    rcases Za h11 with ⟨rfl,g11⟩|⟨rfl,g11⟩
    ·skip
     refine Q344 ?_;intro c15 h15
     refine Q273 ?_
     refine Xx V ?_ by5 by3
     simp_all;omega
    skip
    refine Q400 ?_
    refine Xx V ?_ by5 by3
    simp_all;omega
   skip
   refine Q369 ?_
   refine Q400 ?_
   refine Xx V ?_ by5 by3
   simp_all;omega
  skip
  refine Q369 ?_
  refine Q369 ?_
  refine Q400 ?_
  refine Xx V ?_ by5 by3
  simp_all;omega
 intro c2 h2
 refine Q303 ?_
 exact Zf V V (Xt _) by3 ⟨⟨_,h2.trans (blankC_iff c).symm,V⟩,V⟩
theorem in_c (s:ByteArray) (hs:s.size≤60000) (c:Nat):BCall Tryz.prog 210 [.val (.string s),.val (.int .u8 c)] (c∈bytesN s):=by
 refine Zc Tryz.func210 V (by kernel_rfl) V (Xz V) ?_
 refine Q237 ?_
 refine Q337 ?_
 refine c_loop (σ:=Nat) (fun zz=>match zz with|i=>[(0,.val (.string s)),(1,.val (.int .u8 c)),(5,.val (.int .i64 i))]) (fun zz=>match zz with|i=>[]) (fun zz=>match zz with|i=>i≤s.size∧(c∈bytesN s↔c∈rst s i)) (fun zz=>match zz with|i=>s.size - i) (0) ?_ ?_ ?_ ?_
 ·exact ⟨Nat.zero_le _,Iff.rfl⟩
 ·exact by4
 ·exact by3
 rintro i hI
 try dsimp only [List.cons_append,List.nil_append] at hI ⊢
 obtain ⟨hi,hu⟩:=hI
 refine Q497 ?_;intro c9 h9
 refine Q226 ?_
 rcases Za h9 with ⟨rfl,g9⟩|⟨rfl,g9⟩
 ·refine Q322 ?_
  exact Zf V V (Xt _) by3 ⟨⟨_,iff_f (fun q=>by have:=hu.1 q;rw [rst_nil (by omega)] at this;cases this),V⟩,V⟩
 refine Q265 ?_
 obtain ⟨b,hb,hr,hlt⟩:=Yz (s:=s) (i:=i) (by omega)
 refine Q314 ?_
 refine Zb 14 V V V (Zz V Xf V V V (hb) ?_)
 refine Q401 ?_;intro c16 h16
 refine Q226 ?_
 rcases Za h16 with ⟨rfl,g16⟩|⟨rfl,g16⟩
 ·refine Q305 ?_
  exact ⟨i+1,⟨by omega,hu.trans (by rw [hr];simp;omega)⟩,by simp;omega,by4,by3⟩
 refine Q285 ?_
 exact Zf V V (Xt _) by3 ⟨⟨_,iff_t (hu.2 (by rw [hr];simp;omega)),V⟩,V⟩
theorem signBytes:bytesN ⟨#[33,36,37,38,42,43,46,47,60,61,62,63,64,94,124,126,58,45]⟩=signL:=by decide
theorem sign_c (c:Nat):BCall Tryz.prog 195 [.val (.int .u8 c)] (signC c=true):=by
 have H:=in_c ⟨#[33,36,37,38,42,43,46,47,60,61,62,63,64,94,124,126,58,45]⟩ (by decide) c
 rw [signBytes] at H
 have hC:c∈signL↔signC c=true:=by unfold signC;exact (List.contains_iff_mem).symm
 refine Zc Tryz.func195 V (by kernel_rfl) V (Xz V) ?_
 refine Q438 ?_
 refine Zb 4 V V V (Ze (xs:=[.const (.string ⟨#[33,36,37,38,42,43,46,47,60,61,62,63,64,94,124,126,58,45]⟩),.tmp 3]) V V (H) by1 ?_);intro c4 h4
 refine Q232 ?_
 exact Zf V V (Xt _) by3 ⟨⟨_,h4.trans hC,V⟩,V⟩
theorem name_c (c:Nat):BCall Tryz.prog 211 [.val (.int .u8 c)] (nameC c=true):=by
 have H1:=small_c c
 have H2:=great_c c
 have H3:=digit_c c
 have hN:=nameC_iff c
 refine Zc Tryz.func211 V (by kernel_rfl) V (Xz V) ?_
 refine Q495 ?_
 refine Zy 2 (smallC c=true∨greatC c=true∨digitC c=true∨c=39) ?_ _ _ V ?_
 ·skip
  refine Q5 ?_
  refine Zb 4 V V V (Ze (xs:=[.tmp 3]) V V (H1) by1 ?_);intro c4 h4
  refine Q5 ?_
  rcases Za h4 with ⟨rfl,g4⟩|⟨rfl,g4⟩
  ·skip
   refine Q16 ?_
   refine Zq 7 V V V V V (Ze (xs:=[.tmp 6]) V V (H2) by1 ?_);intro c7 h7
   refine Q260 ?_
   rcases Za h7 with ⟨rfl,g7⟩|⟨rfl,g7⟩
   ·skip
    refine Q16 ?_
    refine Zq 11 V V V V V (Ze (xs:=[.tmp 10]) V V (H3) by1 ?_);intro c11 h11
    refine Q260 ?_
    rcases Za h11 with ⟨rfl,g11⟩|⟨rfl,g11⟩
    ·skip
     refine Q344 ?_;intro c15 h15
     refine Q273 ?_
     refine Xx V ?_ by5 by3
     simp_all;omega
    skip
    refine Q400 ?_
    refine Xx V ?_ by5 by3
    simp_all;done
   skip
   refine Q369 ?_
   refine Q400 ?_
   refine Xx V ?_ by5 by3
   simp_all;done
  skip
  refine Q369 ?_
  refine Q369 ?_
  refine Q400 ?_
  refine Xx V ?_ by5 by3
  simp_all;done
 intro c2 h2
 refine Q303 ?_
 exact Zf V V (Xt _) by3 ⟨⟨_,h2.trans hN.symm,V⟩,V⟩
theorem byteAt_ (s:ByteArray) (i:Nat):∃ b:UInt8,i<s.size→s[i]?=some b∧rst s i=b.toNat::rst s (i+1)∧b.toNat<256:=by
 by_cases q:i<s.size
 ·obtain ⟨b,h⟩:=Yz q
  exact ⟨b,fun _=>h⟩
 exact ⟨0,fun h=>absurd h q⟩
theorem kindC_iff (k c:Nat) (h1:1≤k) (h3:k≤3):kindC k c=true↔((k=1∧nameC c=true)∨(k=2∧digitC c=true)∨(k=3∧signC c=true)):=by
 unfold kindC
 by_cases q1:k=1
 ·subst q1;simp
 rw [if_neg q1]
 by_cases q2:k=2
 ·subst q2;simp
 rw [if_neg q2]
 have q3:k=3:=by omega
 subst q3;simp
theorem end_c (s:ByteArray) (hs:s.size≤60000) (at_ k:Nat) (ha:at_≤s.size) (k1:1≤k) (k3:k≤3):PCall Tryz.prog 191 [.val (.string s),.val (.int .i64 at_),.val (.int .i64 k)] (.val (.int .i64 ((at_+run k (rst s at_):Nat):Int))):=by
 have HN:=name_c
 have HD:=digit_c
 have HS:=sign_c
 refine Zc Tryz.func191 V (by kernel_rfl) V (Xz V) ?_
 refine Q237 ?_
 refine Q387 ?_
 refine c_loop (σ:=Nat) (fun zz=>match zz with|i=>[(0,.val (.string s)),(1,.val (.int .i64 i)),(2,.val (.int .i64 k))]) (fun zz=>match zz with|i=>[]) (fun zz=>match zz with|i=>i≤s.size∧i+run k (rst s i)=at_+run k (rst s at_)) (fun zz=>match zz with|i=>s.size - i) (at_) ?_ ?_ ?_ ?_
 ·exact ⟨ha,V⟩
 ·exact by4
 ·exact by3
 rintro i hI
 try dsimp only [List.cons_append,List.nil_append] at hI ⊢
 obtain ⟨hi,hu⟩:=hI
 refine Q292 ?_
 obtain ⟨b,hb⟩:=byteAt_ s i
 have hK:=kindC_iff k b.toNat k1 k3
 refine Zy 40 (i<s.size∧kindC k b.toNat=true) ?_ _ _ V ?_
 ·skip
  refine Q277 ?_
  refine Q424 ?_;intro c10 h10
  refine Q5 ?_
  rcases Za h10 with ⟨rfl,g10⟩|⟨rfl,g10⟩
  ·skip
   refine Q279 ?_
   refine Q460 ?_
   refine Q231 ?_
   refine Q460 ?_
   refine Q460 ?_
   refine Q231 ?_
   refine Q460 ?_
   refine Q389 ?_
   refine Q236 ?_
   refine Xx V ?_ by5 by3
   clear HN HD HS hu hb;first|(simp_all;done)|grind
  skip
  refine Q344 ?_;intro c13 h13
  refine Q16 ?_
  rcases Za h13 with ⟨rfl,g13⟩|⟨rfl,g13⟩
  ·skip
   refine Q251 ?_
   refine Q22 ?_
   refine Q312 ?_
   refine Q38 ?_;intro c22 h22
   refine Q16 ?_
   rcases Za h22 with ⟨rfl,g22⟩|⟨rfl,g22⟩
   ·skip
    refine Q251 ?_
    refine Q390 ?_
    refine Q312 ?_
    refine Q38 ?_;intro c32 h32
    refine Q16 ?_
    rcases Za h32 with ⟨rfl,g32⟩|⟨rfl,g32⟩
    ·skip
     refine Q498 ?_
     refine Xx V ?_ by5 by3
     clear HN HD HS hu hb;first|(simp_all;done)|grind
    skip
    refine Q312 ?_
    refine Zq 36 V V V V V (Zz V Xf V V V ((hb (by omega)).1) ?_)
    refine Zq 37 V V V V V (Ze (xs:=[.tmp 36]) V V (HS _) by1 ?_);intro c37 h37
    refine Q377 ?_
    refine Xx V ?_ by5 by3
    clear HN HD HS hu hb;first|(simp_all;done)|grind
   skip
   refine Q312 ?_
   refine Zq 26 V V V V V (Zz V Xf V V V ((hb (by omega)).1) ?_)
   refine Zq 27 V V V V V (Ze (xs:=[.tmp 26]) V V (HD _) by1 ?_);intro c27 h27
   refine Q390 ?_
   refine Q16 ?_
   rcases Za h27 with ⟨rfl,g27⟩|⟨rfl,g27⟩
   ·skip
    refine Q344 ?_;intro c32 h32
    refine Q16 ?_
    rcases Za h32 with ⟨rfl,g32⟩|⟨rfl,g32⟩
    ·skip
     refine Q498 ?_
     refine Xx V ?_ by5 by3
     clear HN HD HS hu hb;first|(simp_all;done)|grind
    skip
    refine Q312 ?_
    refine Zq 36 V V V V V (Zz V Xf V V V ((hb (by omega)).1) ?_)
    refine Zq 37 V V V V V (Ze (xs:=[.tmp 36]) V V (HS _) by1 ?_);intro c37 h37
    refine Q377 ?_
    refine Xx V ?_ by5 by3
    clear HN HD HS hu hb;first|(simp_all;done)|grind
   skip
   refine Q279 ?_
   refine Q530 ?_
   refine Xx V ?_ by5 by3
   clear HN HD HS hu hb;first|(simp_all;done)|grind
  skip
  refine Q312 ?_
  refine Zq 17 V V V V V (Zz V Xf V V V ((hb (by omega)).1) ?_)
  refine Zq 18 V V V V V (Ze (xs:=[.tmp 17]) V V (HN _) by1 ?_);intro c18 h18
  refine Q22 ?_
  refine Q16 ?_
  rcases Za h18 with ⟨rfl,g18⟩|⟨rfl,g18⟩
  ·skip
   refine Q344 ?_;intro c22 h22
   refine Q16 ?_
   rcases Za h22 with ⟨rfl,g22⟩|⟨rfl,g22⟩
   ·skip
    refine Q251 ?_
    refine Q390 ?_
    refine Q312 ?_
    refine Q38 ?_;intro c32 h32
    refine Q16 ?_
    rcases Za h32 with ⟨rfl,g32⟩|⟨rfl,g32⟩
    ·skip
     refine Q498 ?_
     refine Xx V ?_ by5 by3
     clear HN HD HS hu hb;first|(simp_all;done)|grind
    skip
    refine Q312 ?_
    refine Zq 36 V V V V V (Zz V Xf V V V ((hb (by omega)).1) ?_)
    refine Zq 37 V V V V V (Ze (xs:=[.tmp 36]) V V (HS _) by1 ?_);intro c37 h37
    refine Q377 ?_
    refine Xx V ?_ by5 by3
    clear HN HD HS hu hb;first|(simp_all;done)|grind
   skip
   refine Q312 ?_
   refine Zq 26 V V V V V (Zz V Xf V V V ((hb (by omega)).1) ?_)
   refine Zq 27 V V V V V (Ze (xs:=[.tmp 26]) V V (HD _) by1 ?_);intro c27 h27
   refine Q390 ?_
   refine Q16 ?_
   rcases Za h27 with ⟨rfl,g27⟩|⟨rfl,g27⟩
   ·skip
    refine Q344 ?_;intro c32 h32
    refine Q16 ?_
    rcases Za h32 with ⟨rfl,g32⟩|⟨rfl,g32⟩
    ·skip
     refine Q498 ?_
     refine Xx V ?_ by5 by3
     clear HN HD HS hu hb;first|(simp_all;done)|grind
    skip
    refine Q312 ?_
    refine Zq 36 V V V V V (Zz V Xf V V V ((hb (by omega)).1) ?_)
    refine Zq 37 V V V V V (Ze (xs:=[.tmp 36]) V V (HS _) by1 ?_);intro c37 h37
    refine Q377 ?_
    refine Xx V ?_ by5 by3
    clear HN HD HS hu hb;first|(simp_all;done)|grind
   skip
   refine Q279 ?_
   refine Q530 ?_
   refine Xx V ?_ by5 by3
   clear HN HD HS hu hb;first|(simp_all;done)|grind
  skip
  refine Q279 ?_
  refine Q389 ?_
  refine Q22 ?_
  refine Q16 ?_
  refine Q279 ?_
  refine Q530 ?_
  refine Xx V ?_ by5 by3
  clear HN HD HS hu hb;first|(simp_all;done)|grind
 intro c40 h40
 refine Q1 ?_
 rcases Za h40 with ⟨rfl,g40⟩|⟨rfl,g40⟩
 ·refine Q364 ?_
  refine Zf V V (Le.inteq ?_) by3 ⟨V,V⟩
  rw [← hu]
  by_cases q:i<s.size
  ·rw [(hb q).2.1,run,if_neg (fun h=>g40 ⟨q,h⟩)];simp
  rw [rst_nil (by omega)];simp [run]
 refine Q330 ?_
 refine Q531 ?_
 refine ⟨i+1,⟨by omega,?_⟩,by simp;omega,by4,by3⟩
 rw [(hb g40.1).2.1,run,if_pos g40.2] at hu
 omega
abbrev MCall (P:Program) (f:FuncId) (vs:List AV) (r:Res) (v:AV) (r':Res):Prop:=ACall P f vs [r] (fun u M'=>u=v∧M'=[r'])
abbrev MayCall (P:Program) (f:FuncId) (vs:List AV) (r:Res) (p:Prop) (r':Res):Prop:=ACall P f vs [r] (fun u M'=>(p∧u=.val (.bool true)∧M'=[r'])∨(¬ p∧u=.val (.bool false)∧M'=[r]))
section
variable {P:Program} {al:Sl} {M:Mem} {K:AV→Mem→Prop} {o:Oper}
theorem set_perm {M:Mem} {i:Nat} {r r':Res} (h:M[i]?=some r):(r'::M.eraseIdx i).Perm (M.set i r'):=by
 have hi:i<M.length:=get_lt h
 have:=perm_at (M:=M.set i r') (i:=i) (r:=r') (by simp [hi])
 rw [List.eraseIdx_set_eq] at this
 exact this.symm
theorem pick_one {M:Mem} {i:Nat} {r:Res} (h:M[i]?=some r):pick [i] M=some ([r],M.eraseIdx i):=by
 simp [pick,h]
theorem OpT.permd {K0:AV→Mem→Prop} (h:OpT P o al M K0) (q:∀ v M',K0 v M'→∃ M2,M'.Perm M2∧K v M2):OpT P o al M K:=by
 intro n B F Mf a w hi hs ro
 refine Oper.wpIn_mono ?_ (h n B F Mf a w hi hs ro)
 rintro a' w' ⟨u,v,M',F',h1,h2,h3,h4,h5,h6⟩
 obtain ⟨M2,hp,hk⟩:=q v M' h2
 exact ⟨u,v,M2,F',h1,hk,h3,h4,h5.perm (hp.append_right Mf),h6⟩
theorem Zi {f:FuncId} {xs:List Operand} {ts:Array TypeId} {vs vs':List AV} (i:Nat) {r r':Res} {v:AV} (ho:o.op=.call { callee:=.value (.func f),args:=xs.toArray,argTypes:=ts }) (hx:xs.mapM al.ev=some vs) (hm:M[i]?=some r) (hc:MCall P f vs' r v r') (hl:Les vs vs') (q:K v (M.set i r')):OpT P o al M K:=by
 refine OpT.permd (op_callat (K:=fun u M'=>u=v∧M'=r'::M.eraseIdx i) [i] ho hx (pick_one hm) hc hl ?_) ?_
 ·rintro u M' ⟨rfl,rfl⟩;exact ⟨rfl,rfl⟩
 rintro u M' ⟨rfl,rfl⟩;exact ⟨_,set_perm hm,q⟩
theorem op_mayc {f:FuncId} {xs:List Operand} {ts:Array TypeId} {vs vs':List AV} (i:Nat) {r r':Res} {p:Prop} (ho:o.op=.call { callee:=.value (.func f),args:=xs.toArray,argTypes:=ts }) (hx:xs.mapM al.ev=some vs) (hm:M[i]?=some r) (hc:MayCall P f vs' r p r') (hl:Les vs vs') (qt:p→K (.val (.bool true)) (M.set i r')) (qf:¬ p→K (.val (.bool false)) M):OpT P o al M K:=by
 refine OpT.permd (op_callat (K:=fun u M'=>(p∧u=.val (.bool true)∧M'=r'::M.eraseIdx i)∨(¬ p∧u=.val (.bool false)∧M'=r::M.eraseIdx i)) [i] ho hx (pick_one hm) hc hl ?_) ?_
 ·rintro u M' (⟨h,rfl,rfl⟩|⟨h,rfl,rfl⟩)
  ·exact .inl ⟨h,V,V⟩
  exact .inr ⟨h,V,V⟩
 rintro u M' (⟨h,rfl,rfl⟩|⟨h,rfl,rfl⟩)
 ·exact ⟨_,set_perm hm,qt h⟩
 exact ⟨_,(perm_at hm).symm,qf h⟩
theorem Le.nilOwn (m:Nat):Le (.val (.slice none 0 0)) (.own (.slice none 0 0) m []):=fun F u h=>by
 cases h;exact .own _ (.seq0 m none 0 (fun _=>rfl))
theorem Yv {ro:Option Nat} {n:Nat} {ks:List Kont} {Q:Exit→Sl→Mem→Prop} {c:Code} (e:TypeId) (m:Nat) (h:ACode ro P n c (after ro P n ks Q) al (M++[.own e m (.slice none 0 0)])):ACode ro P n c (after ro P n ks Q) al M:=fun B F Mf a w hi hs=>by
 refine h B F Mf a w ?_ hs
 refine (hi.ownNil e m).perm ?_
 have:(Res.own e m (.slice none 0 0)::(M++Mf)).Perm (M++Res.own e m (.slice none 0 0)::Mf):=List.perm_middle.symm
 simpa using this
def tyField (P:Program) (t:TypeId) (f:Nat):Option (TypeId × Nat) :=
 match P.underlying t with
 | some (.struct fs)=>match fs[f]? with
  | some g=>some (g.type,g.offset)
  | none=>none
 | _=>none
theorem Xc {x:Operand} {t ft:TypeId} {f fo:Nat} {cs:List AV} {v:AV} (ho:o.op=.field t x f) (ht:tyField P t f=some (ft,fo)) (ha:tyAgg P ft=some none) (hx:al.ev x=some (.agg cs)) (hc:cs[fo]?=some v) (q:K v M):OpT P o al M K :=
 OpT.plain fun n B F Mf ac w hi hs=>by
  have h:=hs.ev hx
  generalize hu:ac.eval x=u at h
  cases h with
  | agg h h1 =>
   rename_i vs
   obtain ⟨y,h2,h3⟩:=h.get hc
   refine ⟨y,_,?_,q,h3⟩
   unfold tyField at ht
   split at ht <;> first|(simp at ht;done)|skip
   rename_i fs hfs
   split at ht <;> first|(simp at ht;done)|skip
   rename_i g hg
   simp only [Option.some.injEq,Prod.mk.injEq] at ht
   obtain ⟨rfl,rfl⟩:=ht
   obtain ⟨a1,a2⟩:=tyAgg_none ha w
   simp [execOp,ho,hu,Instr.field,underlying,hfs,hg,part,asAgg,a1,h2]
end
theorem sameB_no {a b:ByteArray}:¬ a=b→sameB a b=false:=fun h=>by
 cases q:sameB a b with
 | false=>rfl
 | true=>exact absurd (Xb.1 q) h
theorem sameB_yes {a b:ByteArray} (h:a=b):sameB a b=true:=Xb.2 h
theorem Class_c (v:En) (s:ByteArray):PCall Tryz.prog 47 [.agg v.cells,.val (.string s)] (.val (.int .i64 (classI v s))):=by
 obtain ⟨da,cl,ins⟩:=v
 have hl:=Cl.cellss_len cl
 have hC:classI (.mk da cl ins) s=findI (fun c=>sameB c.s s) (cl.drop 0) 0:=rfl
 generalize classI (.mk da cl ins) s=r at *
 simp only [En.cells]
 refine Zc Tryz.func47 V (by kernel_rfl) V (Xz V) ?_
 refine Q15 ?_
 refine c_lena (t:=0) (j:=1) V V (.seq _ _) (fun hmax=>?_)
 refine Q499 ?_
 refine Q337 ?_
 apply Yd (rg [(0,1),(3,19)]) (σ:=Nat) (fun zz=>match zz with|i=>[(5,.val (.int .i64 i))]) (fun zz=>match zz with|i=>i≤cl.length∧r=findI (fun c=>sameB c.s s) (cl.drop i) i) (fun zz=>match zz with|i=>cl.length - i) (0)
 ·repeat' (first|exact Wc|apply Wa rfl|apply Wb rfl)
 ·exact ⟨Nat.zero_le _,hC⟩
 ·exact by4
 rintro i hI
 try dsimp only [List.cons_append,List.nil_append] at hI ⊢
 obtain ⟨h1,hu⟩:=hI
 refine Q500 ?_;intro n9
 refine Q19 ?_;intro c10 h10
 refine Q226 ?_
 rcases Za h10 with ⟨rfl,g10⟩|⟨rfl,g10⟩
 ·refine Q322 ?_
  rw [Wf (by omega),findI] at hu;exact Zf rfl rfl (Xt _) by3 ⟨by rw [hu],rfl⟩
 refine Q265 ?_
 obtain ⟨⟨xs,xv,xsu,xms,xds,xp⟩,hxx⟩:=Zr (l:=cl) (i:=i) by7
 have hcx:=Cl.cellss_get hxx
 have hmx:=We hxx
 rw [Yh hxx,findI] at hu
 have hu:r=if sameB xs s=true then (i:Int) else findI (fun c=>sameB c.s s) (cl.drop (i+1)) (i+1):=hu
 refine Q372 ?_
 refine Zb 16 V V V (Zg V te_38 V (.seq _ _) V V (hcx) ?_)
 refine Q532 ?_;intro c20 h20
 refine Q226 ?_
 rcases Za h20 with ⟨rfl,g20⟩|⟨rfl,g20⟩
 ·refine Q305 ?_
  rw [if_neg (by rw [sameB_no g20];simp)] at hu;exact ⟨i+1,⟨by omega,hu⟩,by show cl.length - (i+1)<cl.length - i;omega,by4,by3⟩
 refine Q358 ?_
 rw [if_pos (sameB_yes g20)] at hu;exact Zf rfl rfl (Xt _) by3 ⟨by rw [hu],rfl⟩
theorem Inst_c (v:En) (c s:ByteArray):PCall Tryz.prog 111 [.agg v.cells,.val (.string c),.val (.string s)] (.val (.int .i64 (instI v c s))):=by
 obtain ⟨da,cl,ins⟩:=v
 have hl:=In.cellss_len ins
 have hC:instI (.mk da cl ins) c s=findI (fun (x:In)=>sameB x.c c && sameB x.hd.name s) (ins.drop 0) 0:=rfl
 generalize instI (.mk da cl ins) c s=r at *
 simp only [En.cells]
 refine Zc Tryz.func111 V (by kernel_rfl) V (Xz V) ?_
 refine Q15 ?_
 refine c_lena (t:=0) (j:=2) V V (.seq _ _) (fun hmax=>?_)
 refine Q499 ?_
 refine Q337 ?_
 apply Yd (rg [(0,1),(4,31)]) (σ:=Nat) (fun zz=>match zz with|i=>[(7,.val (.int .i64 i))]) (fun zz=>match zz with|i=>i≤ins.length∧r=findI (fun (x:In)=>sameB x.c c && sameB x.hd.name s) (ins.drop i) i) (fun zz=>match zz with|i=>ins.length - i) (0)
 ·repeat' (first|exact Wc|apply Wa rfl|apply Wb rfl)
 ·exact ⟨Nat.zero_le _,hC⟩
 ·exact by4
 rintro i hI
 try dsimp only [List.cons_append,List.nil_append] at hI ⊢
 obtain ⟨h1,hu⟩:=hI
 refine Q339 ?_
 refine Q147 ?_;intro n11
 refine Q19 ?_;intro c12 h12
 refine Q226 ?_
 rcases Za h12 with ⟨rfl,g12⟩|⟨rfl,g12⟩
 ·refine Q322 ?_
  rw [Wf (by omega),findI] at hu;exact Zf rfl rfl (Xt _) by3 ⟨by rw [hu],rfl⟩
 refine Q265 ?_
 obtain ⟨⟨xc,⟨xhdk,xhds,xhdn,xhdl⟩,xcx,xbs,xp⟩,hxx⟩:=Zr (l:=ins) (i:=i) by7
 have hcx:=In.cellss_get hxx
 have hmx:=We hxx
 rw [Yh hxx,findI] at hu
 have hu:r=if (sameB xc c && sameB xhds s)=true then (i:Int) else findI (fun (x:In)=>sameB x.c c && sameB x.hd.name s) (ins.drop (i+1)) (i+1):=hu
 simp only [Bool.and_eq_true,Xb] at hu
 simp only [In.cells,Ty.cells,List.cons_append,List.nil_append] at hcx
 refine Zy 33 (xc=c∧xhds=s) ?_ _ _ V ?_
 ·skip
  refine Q297 ?_
  refine Zb 18 V V V (Zg V te_39 V (.seq _ _) V V (hcx) ?_)
  refine Q532 ?_;intro c22 h22
  refine Q5 ?_
  rcases Za h22 with ⟨rfl,g22⟩|⟨rfl,g22⟩
  ·skip
   refine Q501 ?_
   refine Xx V ?_ by5 by3
   simp_all;done
  skip
  refine Q533 ?_
  refine Zq 27 V V V V V (Zg V te_39 V (.seq _ _) V V (hcx) ?_)
  refine Q409 ?_
  refine Q16 ?_
  refine Q78 ?_;intro c32 h32
  refine Q236 ?_
  refine Xx V ?_ by5 by3
  simp_all;done
 intro c33 h33
 refine Q1 ?_
 rcases Za h33 with ⟨rfl,g33⟩|⟨rfl,g33⟩
 ·refine Q305 ?_
  rw [if_neg g33] at hu;exact ⟨i+1,⟨by omega,hu⟩,by show ins.length - (i+1)<ins.length - i;omega,by4,by3⟩
 refine Q358 ?_
 rw [if_pos g33] at hu;exact Zf rfl rfl (Xt _) by3 ⟨by rw [hu],rfl⟩
theorem Arity_c (v:En) (s:ByteArray):PCall Tryz.prog 46 [.agg v.cells,.val (.string s)] (.val (.int .i64 (arityR v s))):=by
 obtain ⟨da,cl,ins⟩:=v
 have hl:=Da.cellss_len da
 obtain ⟨r,hr⟩:∃ r,arityR (.mk da cl ins) s=r:=⟨_,rfl⟩
 rw [hr]
 unfold arityR at hr
 simp only [Xb,En.da] at hr
 simp only [En.cells]
 refine Zc Tryz.func46 V (by kernel_rfl) V (Xz V) ?_
 refine Q15 ?_
 refine c_lena (t:=0) (j:=0) V V (.seq _ _) (fun hmax=>?_)
 refine Q499 ?_
 refine Q306 ?_
 refine Zy 11 (s=kIntT∨s=kStrT) ?_ _ _ V ?_
 ·skip
  refine Q5 ?_
  refine Q60 ?_;intro c7 h7
  refine Q5 ?_
  rcases Za h7 with ⟨rfl,g7⟩|⟨rfl,g7⟩
  ·skip
   refine Q16 ?_
   refine Q78 ?_;intro c10 h10
   refine Q236 ?_
   refine Xx V ?_ by5 by3
   simp_all;done
  skip
  refine Q307 ?_
  refine Xx V ?_ by5 by3
  simp_all;done
 intro c11 h11
 refine Q1 ?_
 rcases Za h11 with ⟨rfl,g11⟩|⟨rfl,g11⟩
 ·refine Q329 ?_
  refine Q60 ?_;intro c13 h13
  refine Q226 ?_
  rcases Za h13 with ⟨rfl,g13⟩|⟨rfl,g13⟩
  ·refine Q329 ?_
   refine Q60 ?_;intro c15 h15
   refine Q226 ?_
   rcases Za h15 with ⟨rfl,g15⟩|⟨rfl,g15⟩
   ·refine Q242 ?_
    refine Q304 ?_
    apply Yd (rg [(0,1),(3,35)]) (σ:=Nat) (fun zz=>match zz with|i=>[(5,.val (.int .i64 i))]) (fun zz=>match zz with|i=>i≤da.length∧arityD s (da.drop i)=r) (fun zz=>match zz with|i=>da.length - i) (0)
    ·repeat' (first|exact Wc|apply Wa rfl|apply Wb rfl)
    ·rw [if_neg g11,if_neg g13,if_neg g15] at hr;exact ⟨Nat.zero_le _,hr⟩
    ·exact by4
    rintro i hI
    try dsimp only [List.cons_append,List.nil_append] at hI ⊢
    obtain ⟨h1,hu⟩:=hI
    refine Q339 ?_
    refine Q117 ?_;intro n19
    refine Q19 ?_;intro c20 h20
    refine Q226 ?_
    rcases Za h20 with ⟨rfl,g20⟩|⟨rfl,g20⟩
    ·refine Q322 ?_
     rw [Wf (by omega),arityD] at hu;exact Zf rfl rfl (Xt _) by3 ⟨by rw [hu],rfl⟩
    refine Q265 ?_
    obtain ⟨⟨xs,xps,xcs,xdv,xp⟩,hxx⟩:=Zr (l:=da) (i:=i) by7
    have hcx:=Da.cellss_get hxx
    have hmx:=We hxx
    rw [Yh hxx,arityD] at hu
    simp only [Da.s,Da.ps,Xb] at hu
    refine Q372 ?_
    refine Zb 26 V V V (Zg V te_37 V (.seq _ _) V V (hcx) ?_)
    refine Q532 ?_;intro c30 h30
    refine Q226 ?_
    rcases Za h30 with ⟨rfl,g30⟩|⟨rfl,g30⟩
    ·refine Q305 ?_
     rw [if_neg g30] at hu;exact ⟨i+1,⟨by omega,hu⟩,by show da.length - (i+1)<da.length - i;omega,by4,by3⟩
    refine Q534 ?_
    refine Zb 34 V V V (Zg V te_37 V (.seq _ _) V V (hcx) ?_)
    refine Q235 ?_
    refine Q70 ?_;intro n37
    refine Q232 ?_
    rw [if_pos g30] at hu;exact Zf rfl rfl (Le.inteq (by rw [← hu,Ye])) by3 ⟨rfl,rfl⟩
   refine Q285 ?_
   rw [if_neg g11,if_neg g13,if_pos g15] at hr;exact Zf rfl rfl (Xt _) by3 ⟨by rw [hr],rfl⟩
  refine Q285 ?_
  rw [if_neg g11,if_pos g13] at hr;exact Zf rfl rfl (Xt _) by3 ⟨by rw [hr],rfl⟩
 refine Q285 ?_
 rw [if_pos g11] at hr;exact Zf rfl rfl (Xt _) by3 ⟨by rw [hr],rfl⟩
theorem names_c (c:Cl) (hb:c.ms.length≤1000000):OCall Tryz.prog 113 [.agg c.cells] 9 1 (strs (c.ms.map Me.s)):=by
 obtain ⟨cs,cv,csu,cms,cds,cp⟩:=c
 have hl:=Me.cellss_len cms
 simp only [Cl.ms] at hb ⊢
 simp only [Cl.cells]
 refine Zc Tryz.func113 V (by kernel_rfl) V (Xz V) ?_
 refine Q300 ?_
 refine Q264 ?_
 refine Q337 ?_
 refine Q88 ?_
 apply Ym (rg [(0,1),(3,18)]) (σ:=Nat × List ByteArray × Value) (fun zz=>match zz with|(i,acc,u)=>[(3,.own u 1 (strs acc)),(4,.val (.int .i64 i))]) (fun zz=>match zz with|(i,acc,u)=>[.own 9 1 u]) (fun zz=>match zz with|(i,acc,u)=>i≤cms.length∧acc=(cms.take i).map Me.s) (fun zz=>match zz with|(i,acc,u)=>cms.length - i) ((0,[],.slice none 0 0))
 ·repeat' (first|exact Wc|apply Wa rfl|apply Wb rfl)
 ·exact ⟨Nat.zero_le _,V⟩
 ·exact Xw V (Le.nilOwn 1) (Xw V (Xt _) (SLe.nil _))
 ·exact by3
 rintro ⟨i,acc,u⟩ hI
 try dsimp only [List.cons_append,List.nil_append] at hI ⊢
 obtain ⟨hi,ha⟩:=hI
 have hle:(strs acc).length≤1000000:=by rw [Ye,ha,List.length_map,List.length_take];omega
 refine Q339 ?_
 refine Q126 ?_;intro n8
 refine Q19 ?_;intro c9 h9
 refine Q226 ?_
 rcases Za h9 with ⟨rfl,g9⟩|⟨rfl,g9⟩
 ·refine Q364 ?_
  exact Zf V V (Xy (by rw [ha,List.take_of_length_le (by omega)])) (Xn _) ⟨u,V,V⟩
 refine Q256 ?_
 obtain ⟨⟨xs,⟨xtk,xts,xtn,xtl⟩,xp⟩,hxx⟩:=Zr (l:=cms) (i:=i) by7
 have hcx:=Me.cellss_get hxx
 have hmx:=We hxx
 simp only [Me.cells,Ty.cells,List.cons_append,List.nil_append] at hcx
 have hsn:=Yl hxx
 refine Q461 ?_
 refine Zb 16 V V V (Zg V te_116 V (.seq _ _) V V (hcx) ?_)
 refine Q235 ?_
 refine Zb 19 V V V (Zh (xs:=[.tmp 18]) Xd V V V V V V (Xz V) (Zb 20 V V V (Zw (i:=0) Xd V V V V (.seq _ _) by6 ?_)))
 intro u20
 refine Q349 ?_
 exact ⟨(i+1,(cms.take (i+1)).map Me.s,u20),⟨(by show i+1≤cms.length;omega),V⟩,by show cms.length - (i+1)<cms.length - i;omega,Xw V (Xy (by rw [hsn,List.map_append,strs_app,ha];rfl)) by4,by3⟩
theorem vars_c (x:In) (hb:x.hd.kids.length≤1000000):OCall Tryz.prog 166 [.agg x.cells] 9 1 (strs (varsR x)):=by
 obtain ⟨xc,⟨hk,hs,hn,hl⟩,xcx,xbs,xp⟩:=x
 have hll:=Ty.cellss_len hl
 simp only [In.hd,Ty.kids,varsR] at hb ⊢
 simp only [In.cells,Ty.cells,List.cons_append,List.nil_append]
 refine Zc Tryz.func166 V (by kernel_rfl) V (Xz V) ?_
 refine Q237 ?_
 refine Q118 ?_
 refine Q264 ?_
 refine Q337 ?_
 refine Q88 ?_
 apply Ym (rg [(0,1),(3,20)]) (σ:=Nat × List ByteArray × Value) (fun zz=>match zz with|(i,acc,u)=>[(3,.own u 1 (strs acc)),(4,.val (.int .i64 i))]) (fun zz=>match zz with|(i,acc,u)=>[.own 9 1 u]) (fun zz=>match zz with|(i,acc,u)=>i≤hl.length∧acc=(hl.take i).map Ty.name) (fun zz=>match zz with|(i,acc,u)=>hl.length - i) ((0,[],.slice none 0 0))
 ·repeat' (first|exact Wc|apply Wa rfl|apply Wb rfl)
 ·exact ⟨Nat.zero_le _,V⟩
 ·exact Xw V (Le.nilOwn 1) (Xw V (Xt _) (SLe.nil _))
 ·exact by3
 rintro ⟨i,acc,u⟩ hI
 try dsimp only [List.cons_append,List.nil_append] at hI ⊢
 obtain ⟨hi,ha⟩:=hI
 have hle:(strs acc).length≤1000000:=by rw [Ye,ha,List.length_map,List.length_take];omega
 refine Q261 ?_
 refine Q13 ?_
 refine Q535 ?_;intro n9
 refine Q19 ?_;intro c10 h10
 refine Q226 ?_
 rcases Za h10 with ⟨rfl,g10⟩|⟨rfl,g10⟩
 ·refine Q364 ?_
  exact Zf V V (Xy (by rw [ha,List.take_of_length_le (by omega)])) (Xn _) ⟨u,V,V⟩
 refine Q256 ?_
 obtain ⟨⟨xk,xs,xn,xl⟩,hxx⟩:=Zr (l:=hl) (i:=i) by7
 have hcx:=Ty.cellss_get hxx
 have hmx:=We hxx
 simp only [Ty.cells] at hcx
 have hsn:=Yl hxx
 refine Q234 ?_
 refine Q13 ?_
 refine Q297 ?_
 refine Zb 18 V V V (Zg V te_22 V (.seq _ _) V V (hcx) ?_)
 refine Q235 ?_
 refine Zb 21 V V V (Zh (xs:=[.tmp 20]) Xd V V V V V V (Xz V) (Zb 22 V V V (Zw (i:=0) Xd V V V V (.seq _ _) by6 ?_)))
 intro u22
 refine Q349 ?_
 exact ⟨(i+1,(hl.take (i+1)).map Ty.name,u22),⟨(by show i+1≤hl.length;omega),V⟩,by show hl.length - (i+1)<hl.length - i;omega,Xw V (Xy (by rw [hsn,List.map_append,strs_app,ha];rfl)) by4,by3⟩
theorem hasB_no {l:List ByteArray} {s:ByteArray} (h:¬ s∈l):hasB l s=false:=by
 cases q:hasB l s with
 | false=>rfl
 | true=>exact absurd (hasB_iff.1 q) h
theorem Right_c (v:En) (vars:List ByteArray):∀ (d:Nat) (t:Ty),t.size≤d→PCall Tryz.prog 106 [.agg v.cells,.seq 1 (strs vars),.agg t.cells] (.val (.int .i64 (rightR v vars t)))
 | 0,t,h=>by have:=t.size_pos;omega
 | d+1,.mk k s n ks,h=>by
  have HA:=Arity_c v s
  have hl:=Ty.cellss_len ks
  have ih:∀ t∈ks,PCall Tryz.prog 106 [.agg v.cells,.seq 1 (strs vars),.agg t.cells] (.val (.int .i64 (rightR v vars t))):=fun t ht=>Right_c v vars d t (by have:=Ty.size_mem ht;rw [Ty.size] at h;omega)
  obtain ⟨r,hr⟩:∃ r,rightR v vars (.mk k s n ks)=r:=⟨_,rfl⟩
  rw [hr]
  rw [rightR] at hr
  obtain ⟨e,he⟩:∃ e,headR0 v vars k s ks.length=e:=⟨_,rfl⟩
  rw [he] at hr
  unfold headR0 at he
  generalize arityR v s=ar at *
  obtain ⟨da,cl,ins⟩:=v
  simp only [En.cells,Ty.cells] at HA ih ⊢
  refine Zc Tryz.func106 V (by kernel_rfl) V (Xz V) ?_
  refine Q15 ?_
  refine c_lena (t:=2) (j:=3) V V (.seq _ _) (fun hmax=>?_)
  refine Q499 ?_
  refine Q69 ?_
  refine Q383 ?_
  refine Q17 ?_;intro c12 h12
  refine Q226 ?_
  apply c_joinkm (rg [(0,1),(2,1),(4,1),(6,2),(10,22)]) (σ:=Unit) (fun zz=>match zz with|z=>[]) (fun zz=>match zz with|z=>e=0)
  ·repeat' (first|exact Wc|apply Wa rfl|apply Wb rfl)
  ·skip
   rcases Za h12 with ⟨rfl,g12⟩|⟨rfl,g12⟩
   ·refine Q8 ?_
    refine Q270 ?_
    refine Q17 ?_;intro c20 h20
    refine Q226 ?_
    rcases Za h20 with ⟨rfl,g20⟩|⟨rfl,g20⟩
    ·refine Q8 ?_
     refine Q227 ?_
     refine Q228 ?_
     refine c_retj ?_
     rw [if_neg g12,if_neg g20] at he;rw [if_pos (by omega)] at hr;exact Zf rfl rfl (Xt _) by3 ⟨by rw [← hr,← he],rfl⟩
    refine Q240 ?_
    refine Q410 ?_
    refine Zb 24 V V V (Zd (xs:=[.tmp 21,.tmp 23]) V V (HA) by1 ?_)
    refine Q462 ?_;intro c26 h26
    refine Q226 ?_
    rcases Za h26 with ⟨rfl,g26⟩|⟨rfl,g26⟩
    ·refine Q321 ?_
     refine Q535 ?_;intro n30
     refine Q34 ?_;intro c31 h31
     refine Q226 ?_
     rcases Za h31 with ⟨rfl,g31⟩|⟨rfl,g31⟩
     ·refine Q411 ?_
      first
      | (rw [if_pos g12,if_pos (hasB_iff.2 (Classical.not_not.1 g17))] at he;exact ⟨(),he.symm,by4,by3⟩)
      | (rw [if_neg g12,if_pos g20,if_neg g26,if_neg (by omega)] at he;exact ⟨(),he.symm,by4,by3⟩)
     refine Q502 ?_
     refine c_retj ?_
     rw [if_neg g12,if_pos g20,if_neg g26,if_pos (by omega)] at he;rw [if_pos (by omega)] at hr;exact Zf rfl rfl (Xt _) by3 ⟨by rw [← hr,← he],rfl⟩
    refine Q502 ?_
    refine c_retj ?_
    rw [if_neg g12,if_pos g20,if_pos g26] at he;rw [if_pos (by omega)] at hr;exact Zf rfl rfl (Xt _) by3 ⟨by rw [← hr,← he],rfl⟩
   refine Q288 ?_
   refine Q235 ?_
   refine Zb 16 V V V (Ze (xs:=[.tmp 13,.tmp 15]) V V (Has_c vars s) by1 ?_);intro c16 h16
   refine Q26 ?_;intro c17 h17
   try replace h17:=Yo h17 h16
   refine Q226 ?_
   rcases Za h17 with ⟨rfl,g17⟩|⟨rfl,g17⟩
   ·refine Q411 ?_
    first
    | (rw [if_pos g12,if_pos (hasB_iff.2 (Classical.not_not.1 g17))] at he;exact ⟨(),he.symm,by4,by3⟩)
    | (rw [if_neg g12,if_pos g20,if_neg g26,if_neg (by omega)] at he;exact ⟨(),he.symm,by4,by3⟩)
   refine Q502 ?_
   refine c_retj ?_
   rw [if_pos g12,if_neg (by rw [hasB_iff];exact g17)] at he;rw [if_pos (by omega)] at hr;exact Zf rfl rfl (Xt _) by3 ⟨by rw [← hr,← he],rfl⟩
  rintro z hI
  try dsimp only [List.cons_append,List.nil_append] at hI ⊢
  refine Q373 ?_
  refine Q304 ?_
  apply Yd (rg [(0,1),(2,1),(4,1),(6,44)]) (σ:=Nat) (fun zz=>match zz with|i=>[(8,.val (.int .i64 i))]) (fun zz=>match zz with|i=>i≤ks.length∧rightsR (.mk da cl ins) vars (ks.drop i)=r) (fun zz=>match zz with|i=>ks.length - i) (0)
  ·repeat' (first|exact Wc|apply Wa rfl|apply Wb rfl)
  ·rw [if_neg (by omega)] at hr;exact ⟨Nat.zero_le _,hr⟩
  ·exact by4
  rintro i hI
  try dsimp only [List.cons_append,List.nil_append] at hI ⊢
  obtain ⟨h1,hu⟩:=hI
  refine Q339 ?_
  refine Q47 ?_;intro n35
  refine Q19 ?_;intro c36 h36
  refine Q226 ?_
  rcases Za h36 with ⟨rfl,g36⟩|⟨rfl,g36⟩
  ·refine Q322 ?_
   rw [Wf (by omega),rightsR] at hu;exact Zf rfl rfl (Xt _) by3 ⟨by rw [← hu],rfl⟩
  refine Q265 ?_
  obtain ⟨⟨xk,xs,xn,xl⟩,hx⟩:=Zr (l:=ks) (i:=i) (by omega)
  have hcx:=Ty.cellss_get hx
  have H:=ih _ (We hx)
  rw [Yh hx,rightsR] at hu
  simp only [Ty.cells] at hcx H
  refine Q463 ?_
  refine Q20 ?_
  refine Q370 ?_
  refine Zx 44 V V (Zg V te_22 V (.seq _ _) V V (hcx) ⟨V,V⟩) ?_
  refine Q87 ?_
  refine Zx 46 V V (Zd (xs:=[.tmp 39,.tmp 40,.tmp 45]) V V (H) by1 ⟨V,V⟩) ?_
  refine Q52 ?_
  show AGo _ _ _ _ _ _ _
  refine Q464 ?_
  refine Q34 ?_;intro c48 h48
  refine Q226 ?_
  rcases Za h48 with ⟨rfl,g48⟩|⟨rfl,g48⟩
  ·refine Q305 ?_
   rw [if_neg g48] at hu;exact ⟨i+1,⟨by omega,hu⟩,by show ks.length - (i+1)<ks.length - i;omega,by4,by3⟩
  refine Q358 ?_
  rw [if_pos g48] at hu;exact Zf rfl rfl (Xt _) by3 ⟨by rw [hu],rfl⟩
theorem Method_c (v:En) (s:ByteArray):PCall Tryz.prog 65 [.agg v.cells,.val (.string s)] (.tup [.val (.int .i64 (methI s v.cl 0).1),.val (.int .i64 (methI s v.cl 0).2)]):=by
 obtain ⟨da,cl,ins⟩:=v
 have hl:=Cl.cellss_len cl
 obtain ⟨r,hr⟩:∃ r,methI s cl 0=r:=⟨_,rfl⟩
 have hC:methI s (cl.drop 0) 0=r:=hr
 simp only [En.cells,En.cl]
 rw [hr]
 refine Zc Tryz.func65 V (by kernel_rfl) V (Xz V) ?_
 refine Q15 ?_
 refine c_lena (t:=0) (j:=1) V V (.seq _ _) (fun hmax=>?_)
 refine Q499 ?_
 refine Q6 ?_
 refine Q337 ?_
 apply Yd (rg [(0,1),(3,37)]) (σ:=Nat) (fun zz=>match zz with|i=>[(6,.val (.int .i64 i))]) (fun zz=>match zz with|i=>i≤cl.length∧methI s (cl.drop i) i=r) (fun zz=>match zz with|i=>cl.length - i) (0)
 ·repeat' (first|exact Wc|apply Wa rfl|apply Wb rfl)
 ·exact ⟨Nat.zero_le _,hC⟩
 ·exact by4
 rintro i hI
 try dsimp only [List.cons_append,List.nil_append] at hI ⊢
 obtain ⟨h1,hu⟩:=hI
 refine Q500 ?_;intro n11
 refine Q19 ?_;intro c12 h12
 refine Q226 ?_
 rcases Za h12 with ⟨rfl,g12⟩|⟨rfl,g12⟩
 ·refine Q296 ?_
  refine Q253 ?_
  rw [Wf (by omega),methI] at hu;subst hu;exact Yy rfl rfl rfl (Xt _) by3 ⟨rfl,rfl⟩
 refine Q265 ?_
 obtain ⟨⟨xs,xv,xsu,xms,xds,xp⟩,hxx⟩:=Zr (l:=cl) (i:=i) by7
 have hcx:=Cl.cellss_get hxx
 have hmx:=We hxx
 rw [Yh hxx,methI] at hu
 have hml:=Me.cellss_len xms
 obtain ⟨f,hf⟩:∃ f,findI (fun (m:Me)=>sameB m.s s) xms 0=f:=⟨_,rfl⟩
 have hu:(if 0≤f then ((i:Int),f) else methI s (cl.drop (i+1)) (i+1))=r:=by rw [← hf];exact hu
 refine Q332 ?_
 apply Yd (rg [(0,1),(3,3),(7,1),(15,25)]) (σ:=Nat) (fun zz=>match zz with|j=>[(7,.val (.int .i64 j))]) (fun zz=>match zz with|j=>j≤xms.length∧findI (fun (m:Me)=>sameB m.s s) (xms.drop j) j=f) (fun zz=>match zz with|j=>xms.length - j) (0)
 ·repeat' (first|exact Wc|apply Wa rfl|apply Wb rfl)
 ·exact ⟨Nat.zero_le _,hf⟩
 ·exact by4
 rintro j hI
 try dsimp only [List.cons_append,List.nil_append] at hI ⊢
 obtain ⟨h2,hv⟩:=hI
 refine Q261 ?_
 refine Q297 ?_
 refine Zb 19 V V V (Zg V te_38 V (.seq _ _) V V (hcx) ?_)
 refine Q235 ?_
 refine Q126 ?_;intro n22
 refine Q19 ?_;intro c23 h23
 refine Q226 ?_
 rcases Za h23 with ⟨rfl,g23⟩|⟨rfl,g23⟩
 ·refine Q440 ?_
  rw [Wf (by omega),findI] at hv;rw [if_neg (by omega)] at hu;exact ⟨i+1,⟨by omega,hu⟩,by show cl.length - (i+1)<cl.length - i;omega,by4,by3⟩
 refine Q265 ?_
 obtain ⟨⟨ys,⟨ytk,yts,ytn,ytl⟩,yp⟩,hxy⟩:=Zr (l:=xms) (i:=j) by7
 have hcy:=Me.cellss_get hxy
 have hmy:=We hxy
 refine c_lens (t:=21) V (.seq _ _) (fun hmx=>?_)
 rw [Yh hxy,findI] at hv
 have hv:(if sameB ys s=true then (j:Int) else findI (fun (m:Me)=>sameB m.s s) (xms.drop (j+1)) (j+1))=f:=hv
 simp only [Me.cells,Ty.cells,List.cons_append,List.nil_append] at hcy
 refine Q372 ?_
 refine Zb 29 V V V (Zg V te_38 V (.seq _ _) V V (by first|exact hcx|exact hcy) ?_)
 refine Q297 ?_
 refine Zb 33 V V V (Zg V te_116 V (.seq _ _) V V (by first|exact hcx|exact hcy) ?_)
 refine Q532 ?_;intro c37 h37
 refine Q226 ?_
 rcases Za h37 with ⟨rfl,g37⟩|⟨rfl,g37⟩
 ·refine Q305 ?_
  rw [if_neg (by rw [sameB_no g37];simp)] at hv;exact ⟨j+1,⟨by omega,hv⟩,by show xms.length - (j+1)<xms.length - j;omega,by4,by3⟩
 refine Q391 ?_
 refine Q253 ?_
 rw [if_pos (sameB_yes g37)] at hv;rw [if_pos (by omega),← hv] at hu;subst hu;exact Yy rfl rfl rfl (Xt _) by3 ⟨rfl,rfl⟩
end Go.Proofs.YteepjjgooplljaaGreat
namespace Go.Proofs.YteepjjgooplljaaGreat
def lack (l met:List ByteArray):Nat:=(l.filter fun s => !hasB met s).length
theorem hasB_app (a b:List ByteArray) (s:ByteArray):hasB (a++b) s=(hasB a s || hasB b s):=by unfold hasB;rw [List.any_append]
theorem lack_le (l:List ByteArray) (met:List ByteArray) (s:ByteArray):lack l (met++[s])≤lack l met:=by
 unfold lack
 induction l with
 | nil=>simp
 | cons x l ih =>
  simp only [List.filter_cons,hasB_app,Bool.not_or]
  cases h:hasB met x with
  | true=>simpa [h] using (by simpa [hasB_app] using ih)
  | false =>
   simp only [hasB_app,Bool.not_or] at ih
   cases h2:hasB [s] x <;> simp <;> omega
theorem lack_lt {l:List ByteArray} {met:List ByteArray} {s:ByteArray} (hs:s∈l) (hm:¬ hasB met s=true):lack l (met++[s])+1≤lack l met:=by
 induction l with
 | nil=>simp at hs
 | cons x l ih =>
  have hle:=lack_le l met s
  unfold lack at *
  simp only [List.filter_cons,hasB_app,Bool.not_or] at *
  by_cases e:s=x
  ·subst e
   have h1:hasB met s=false:=by simpa using hm
   have h2:hasB [s] s=true:=hasB_iff.2 (by simp)
   simp only [h1,h2,Bool.not_true,Bool.not_false,Bool.and_false]
   simp
   omega
  have hs':s∈l:=by
   rcases List.mem_cons.1 hs with q|q
   ·exact absurd q e
   exact q
  have:=ih hs'
  cases h:hasB met x with
  | true=>simpa [h] using this
  | false=>cases h2:hasB [s] x <;> simp <;> omega
def Grow (l met met':List ByteArray):Prop:=met'.length+lack l met'≤met.length+lack l met∧lack l met'≤lack l met∧∀ s∈met,s∈met'
theorem Grow.refl (l met:List ByteArray):Grow l met met:=⟨Nat.le_refl _,Nat.le_refl _,fun _ h=>h⟩
theorem Grow.trans {l a b c:List ByteArray} (h:Grow l a b) (k:Grow l b c):Grow l a c:=⟨Nat.le_trans k.1 h.1,Nat.le_trans k.2.1 h.2.1,fun s hs=>k.2.2 s (h.2.2 s hs)⟩
theorem Grow.add {l met:List ByteArray} {s:ByteArray} (hs:s∈l) (hm:¬ hasB met s=true):Grow l met (met++[s]):=by
 have:=lack_lt hs hm
 exact ⟨by simp;omega,by omega,fun x hx=>by simp [hx]⟩
theorem overL_grow {l:List ByteArray} {O:ByteArray→List ByteArray→List ByteArray} (HO:∀ s met,Grow l met (O s met)):∀ (ss met:List ByteArray),(∀ s∈ss,s∈l)→Grow l met (overL O ss met)
 | [],met,_=>Grow.refl _ _
 | s::ss,met,h=>by
  unfold overL
  by_cases hm:hasB met s=true
  ·rw [if_pos hm];exact overL_grow HO ss met (fun x hx=>h x (by simp [hx]))
  rw [if_neg hm]
  exact ((Grow.add (h s (by simp)) hm).trans (HO s _)).trans (overL_grow HO ss _ (fun x hx=>h x (by simp [hx])))
theorem supersOf_sub (v:En) (c:ByteArray):∀ s∈supersOf v c,s∈allSup v:=by
 intro s hs
 unfold supersOf at hs
 cases h:v.cl[(classI v c).toNat]? with
 | none=>rw [h] at hs;simp at hs
 | some x =>
  rw [h] at hs
  simp only [Option.map_some,Option.getD_some] at hs
  exact List.mem_flatMap.2 ⟨x,We h,hs⟩
theorem overF_grow (v:En):∀ (n:Nat) (c:ByteArray) (met:List ByteArray),Grow (allSup v) met (overF v n c met)
 | 0,c,met=>Grow.refl _ _
 | n+1,c,met=>by
  unfold overF
  split
  ·exact Grow.refl _ _
  exact overL_grow (overF_grow v n) _ _ (supersOf_sub v c)
theorem lack_nil (l:List ByteArray):lack l []=l.length:=by simp [lack,hasB]
open Go.RowKit
theorem overL_go {O:ByteArray→List ByteArray→List ByteArray} {s:ByteArray} {l met:List ByteArray} (h:¬ s∈met):overL O (s::l) met=overL O l (O s (met++[s])):=by rw [overL,if_neg (by rw [hasB_no h];simp)]
theorem overL_skip {O:ByteArray→List ByteArray→List ByteArray} {s:ByteArray} {l met:List ByteArray} (h:s∈met):overL O (s::l) met=overL O l met:=by rw [overL,if_pos (hasB_iff.2 h)]
theorem over11_c (v:En) (hS:(allSup v).length≤10000000000):∀ (n:Nat) (c:ByteArray) (met:List ByteArray) (u:Value),lack (allSup v) met<n→met.length+lack (allSup v) met≤(allSup v).length →
    ACall Tryz.prog 164 [.agg v.cells,.val (.string c),.own u 1 (strs met)] [.own 9 1 u] (fun r M'=>∃ u',r=.own u' 1 (strs (overF v n c met))∧M'=[.own 9 1 u'])
 | 0,c,met,u,h1,h2=>by omega
 | n+1,c,met,u,h1,h2=>by
  have IH:=fun s m u a b=>over11_c v hS n s m u a b
  have HC:=Class_c v c
  have hsub:=supersOf_sub v c
  have hcc:=findI_cases (fun (x:Cl)=>sameB x.s c) v.cl 0
  have hcl:=findI_lt (fun (x:Cl)=>sameB x.s c) v.cl 0
  obtain ⟨r,hr⟩:∃ r,overF v (n+1) c met=r:=⟨_,rfl⟩
  rw [hr]
  rw [overF] at hr
  obtain ⟨ss,hss⟩:∃ l,supersOf v c=l:=⟨_,rfl⟩
  rw [hss] at hr hsub
  unfold supersOf at hss
  have hci:classI v c=findI (fun (x:Cl)=>sameB x.s c) v.cl 0:=rfl
  rw [← hci] at hcc hcl
  clear hci
  generalize classI v c=ci at *
  obtain ⟨da,cl,ins⟩:=v
  have hl:=Cl.cellss_len cl
  have hsl:=Ye ss
  simp only [En.cells,En.cl] at HC hss hcl IH ⊢
  generalize hAll:allSup (En.mk da cl ins)=all at *
  refine Zc Tryz.func164 V (by kernel_rfl) V (Xz V) ?_
  refine Q353 ?_
  refine Q536 ?_
  refine Q5 ?_
  refine Zb 12 V V V (Zd (xs:=[.tmp 10,.tmp 11]) V V (HC) by1 ?_)
  refine Q462 ?_;intro c14 h14
  refine Q226 ?_
  rcases Za h14 with ⟨rfl,g14⟩|⟨rfl,g14⟩
  ·refine Q242 ?_
   rw [if_neg g14] at hr
   obtain ⟨x,hx⟩:=Zr (l:=cl) (i:=ci.toNat) (by omega)
   rw [hx] at hss
   have hcx:=Cl.cellss_get hx
   obtain ⟨xs,xv,xsu,xms,xds,xp⟩:=x
   obtain rfl:xsu=ss:=hss
   refine Q372 ?_
   refine Zb 19 V V V (Zg (i:=ci.toNat) V te_38 V (.seq _ _) V (by first|rfl|omega) (hcx) ?_)
   refine Q235 ?_
   refine Q337 ?_
   apply Ym (rg [(0,3),(4,2),(7,1),(9,39)]) (σ:=Nat × List ByteArray × Value) (fun zz=>match zz with|(i,m,w)=>[(2,.own w 1 (strs m)),(9,.val (.int .i64 i))]) (fun zz=>match zz with|(i,m,w)=>[.own 9 1 w]) (fun zz=>match zz with|(i,m,w)=>i≤xsu.length∧overL (overF (En.mk da cl ins) n) (xsu.drop i) m=r∧lack all m<n+1∧m.length+lack all m≤all.length) (fun zz=>match zz with|(i,m,w)=>xsu.length - i) ((0,met,u))
   ·repeat' (first|exact Wc|apply Wa rfl|apply Wb rfl)
   ·exact ⟨Nat.zero_le _,hr,h1,h2⟩
   ·exact by4
   ·exact by3
   rintro ⟨i,m,w⟩ hI
   try dsimp only [List.cons_append,List.nil_append] at hI ⊢
   obtain ⟨i1,hu,i3,i4⟩:=hI
   have hle:(strs m).length≤10000000000:=by rw [Ye];omega
   refine c_lens (t:=8) V (.seq _ _) (fun hmx=>?_)
   refine Q439 ?_;intro n24
   refine Q19 ?_;intro c25 h25
   refine Q226 ?_
   rcases Za h25 with ⟨rfl,g25⟩|⟨rfl,g25⟩
   ·refine Q364 ?_
    rw [Wf (by omega),overL] at hu;subst hu;exact Zf rfl rfl (Xt _) (Xn _) ⟨w,rfl,rfl⟩
   refine Q265 ?_
   obtain ⟨s,hxs⟩:=Zr (l:=xsu) (i:=i) by7
   have hcs:=strs_get hxs
   have hms:=We hxs
   rw [Yh hxs] at hu
   refine Q327 ?_
   refine Zb 31 V V V (Zg V te_44 V (.seq _ _) V V (hcs) ?_)
   refine Q14 ?_
   refine Zb 33 V V V (Ze (xs:=[.tmp 28,.tmp 32]) V V (Has_c m s) by1 ?_);intro c33 h33
   refine Q26 ?_;intro c34 h34
   try replace h34:=Yo h34 h33
   refine Q226 ?_
   rcases Za h34 with ⟨rfl,g34⟩|⟨rfl,g34⟩
   ·refine Q305 ?_
    first
    | (rw [overL_skip (Classical.not_not.1 g34)] at hu;exact ⟨(i+1,m,w),⟨(by show i+1≤xsu.length;omega),hu,i3,i4⟩,by show xsu.length - (i+1)<xsu.length - i;omega,by4,by3⟩)
    | exact ⟨(i+1,overF (En.mk da cl ins) n s (m++[s]),u47),⟨(by show i+1≤xsu.length;omega),hu,by have:=hgr.2.1;show lack all (overF (En.mk da cl ins) n s (m++[s]))<n+1;omega,by have:=hgr.1;simp only [List.length_append,List.length_singleton] at this;show (overF (En.mk da cl ins) n s (m++[s])).length+lack all (overF (En.mk da cl ins) n s (m++[s]))≤all.length;omega⟩,by show xsu.length - (i+1)<xsu.length - i;omega,by4,by3⟩
   refine Q9 ?_
   rw [overL_go g34] at hu
   have hlk:=lack_lt (hsub s hms) (by rw [hasB_no g34];simp)
   have hgr:=overF_grow (En.mk da cl ins) n s (m++[s])
   rw [hAll] at hgr
   have HO:∀ u,ACall Tryz.prog 164 [.agg [.seq 5 (Da.cellss da),.seq 6 (Cl.cellss cl),.seq 8 (In.cellss ins)],.val (.string s),.own u 1 (strs m++[[.val (.string s)]])] [.own 9 1 u] (fun r M'=>∃ u',r=.own u' 1 (strs (overF (En.mk da cl ins) n s (m++[s])))∧M'=[.own 9 1 u']):=fun u=>by
    rw [strs_snoc]
    exact IH s (m++[s]) u (by omega) (by simp;omega)
   refine Yp [0,1,2,3,4,5,6,7,8,9,10,11,12,13] [11,12] [[],[],[],[1,2],[1,2,3],[],[],[],[6,7],[6,7,8],[6,7,8,9],[5,6,7,8,9,10],[0,1,2,3,4,5,6,7,8,9,10,11],[0,1,2,3,4,5,6,7,8,9,10,11,12]] Xl V ?_
   refine Q148 ?_
   refine Q412 ?_
   refine Zm 38 (none) (i:=3) V V V V V (Zg V te_44 V (.seq _ _) V V (hcs) ⟨V,V⟩) ?_
   refine Q63 ?_
   refine Q412 ?_
   refine Q24 ?_
   refine Zm 43 (none) (i:=8) V V V V V (Zg V te_44 V (.seq _ _) V V (hcs) ⟨V,V⟩) ?_
   refine Q63 ?_
   refine Zm 45 (none) (i:=10) V V V V V (Zh (xs:=[.tmp 44]) Xd V V V V V V (Xz V) ⟨V,V⟩) ?_
   refine Yf 0 (i:=11) V V V V V (Zw (i:=0) Xd V V V V (.seq _ _) by6 (fun u46=>⟨_,V,?_⟩))
   refine EOps.wh (i:=12) V V V V (op_callat [0] (xs:=[.tmp 35,.tmp 39,.tmp 46])  V V V (HO u46) by1 ?_)
   rintro v47 M47 ⟨u47,rfl,rfl⟩
   refine Q58 ?_
   show AGo _ _ _ _ _ _ _
   refine Q268 ?_
   first
   | (rw [overL_skip (Classical.not_not.1 g34)] at hu;exact ⟨(i+1,m,w),⟨(by show i+1≤xsu.length;omega),hu,i3,i4⟩,by show xsu.length - (i+1)<xsu.length - i;omega,by4,by3⟩)
   | exact ⟨(i+1,overF (En.mk da cl ins) n s (m++[s]),u47),⟨(by show i+1≤xsu.length;omega),hu,by have:=hgr.2.1;show lack all (overF (En.mk da cl ins) n s (m++[s]))<n+1;omega,by have:=hgr.1;simp only [List.length_append,List.length_singleton] at this;show (overF (En.mk da cl ins) n s (m++[s])).length+lack all (overF (En.mk da cl ins) n s (m++[s]))≤all.length;omega⟩,by show xsu.length - (i+1)<xsu.length - i;omega,by4,by3⟩
  refine Q358 ?_
  rw [if_pos g14] at hr;subst hr;exact Zf rfl rfl (Xt _) (Xn _) ⟨u,rfl,rfl⟩
theorem Above_c (v:En) (hS:(allSup v).length≤10000000000) (c:ByteArray):OCall Tryz.prog 107 [.agg v.cells,.val (.string c)] 9 1 (strs (aboveR v c)):=by
 have H0:=over11_c v hS ((allSup v).length+1) c [] (.slice none 0 0) (by rw [lack_nil];omega) (by rw [lack_nil];simp)
 have H:=H0.args (Xv (Xt _) (Xv (Xt _) (Xv (Le.nilOwn 1) (Xu _))))
 clear H0
 obtain ⟨da,cl,ins⟩:=v
 have he:overF (En.mk da cl ins) ((allSup (En.mk da cl ins)).length+1) c []=aboveR (En.mk da cl ins) c:=rfl
 rw [he] at H
 simp only [En.cells] at H ⊢
 refine Zc Tryz.func107 V (by kernel_rfl) V (Xz V) ?_
 refine Q353 ?_
 refine Q238 ?_
 refine Q88 ?_
 refine Q4 ?_
 refine Q59 ?_
 refine Q5 ?_
 refine Zb 7 V V V (op_callat [0] (xs:=[.tmp 5,.tmp 6,.const (.slice none 0 0)])  V V V H (Xu _) ?_)
 rintro v7 M7 ⟨u7,rfl,rfl⟩
 refine Q232 ?_
 exact Zf V V (Xt _) (Xn _) ⟨u7,V,V⟩
theorem Bnd_c (l:List Bi) (hb:l.length≤1000000):OCall Tryz.prog 66 [.seq 13 (Bi.cellss l)] 9 1 (strs (l.map Bi.s)):=by
 have hl:=Bi.cellss_len l
 refine Zc Tryz.func66 V (by kernel_rfl) V (Xz V) ?_
 refine Q537 ?_
 refine Q337 ?_
 refine Q88 ?_
 apply Ym (rg [(1,1),(3,16)]) (σ:=Nat × List ByteArray × Value) (fun zz=>match zz with|(i,acc,u)=>[(3,.own u 1 (strs acc)),(4,.val (.int .i64 i))]) (fun zz=>match zz with|(i,acc,u)=>[.own 9 1 u]) (fun zz=>match zz with|(i,acc,u)=>i≤l.length∧acc=(l.take i).map Bi.s) (fun zz=>match zz with|(i,acc,u)=>l.length - i) ((0,[],.slice none 0 0))
 ·repeat' (first|exact Wc|apply Wa rfl|apply Wb rfl)
 ·exact ⟨Nat.zero_le _,V⟩
 ·exact Xw V (Le.nilOwn 1) (Xw V (Xt _) (SLe.nil _))
 ·exact by3
 rintro ⟨i,acc,u⟩ hI
 try dsimp only [List.cons_append,List.nil_append] at hI ⊢
 obtain ⟨hi,ha⟩:=hI
 have hle:(strs acc).length≤1000000:=by rw [Ye,ha,List.length_map,List.length_take];omega
 refine Q316 ?_
 refine Q149 ?_;intro n7
 refine Q19 ?_;intro c8 h8
 refine Q226 ?_
 rcases Za h8 with ⟨rfl,g8⟩|⟨rfl,g8⟩
 ·refine Q364 ?_
  exact Zf V V (Xy (by rw [ha,List.take_of_length_le (by omega)])) (Xn _) ⟨u,V,V⟩
 refine Q256 ?_
 obtain ⟨⟨xs,⟨yk,ys,yn,⟨ytk,yts,ytn,ytl⟩,yks,yal,ybs,yp⟩,xp⟩,hxx⟩:=Zr (l:=l) (i:=i) (by omega)
 have hcx:=Bi.cellss_get hxx
 simp only [Bi.cells,Ex.cells,Ty.cells,List.cons_append,List.nil_append] at hcx
 have hsn:=Yl hxx
 refine Q327 ?_
 refine Zb 14 V V V (Zg V te_79 V (.seq _ _) V V (hcx) ?_)
 refine Q235 ?_
 refine Zb 17 V V V (Zh (xs:=[.tmp 16]) Xd V V V V V V (Xz V) (Zb 18 V V V (Zw (i:=0) Xd V V V V (.seq _ _) by6 ?_)))
 intro u18
 refine Q349 ?_
 exact ⟨(i+1,(l.take (i+1)).map Bi.s,u18),⟨(by show i+1≤l.length;omega),V⟩,by show l.length - (i+1)<l.length - i;omega,Xw V (Xy (by rw [hsn,List.map_append,strs_app,ha];rfl)) by4,by3⟩
def faultA (f:Flt):AV:=.agg [.val (.int .i64 f.1),.val (.int .i64 f.2)]
theorem Bi.cellss_take (l:List Bi) (i:Nat):(Bi.cellss l).take i=Bi.cellss (l.take i):=by rw [Bi.cellss_map,Bi.cellss_map,List.map_take]
theorem strs_take (l:List ByteArray) (i:Nat):(strs l).take i=strs (l.take i):=by unfold strs;rw [List.map_take]
theorem binds_c (l:List Bi) (c:Cl) (hb:l.length≤1000000) (hc:c.ms.length≤1000000):PCall Tryz.prog 109 [.seq 13 (Bi.cellss l),.agg c.cells] (faultA (bndR (c.ms.map Me.s) [] l)):=by
 have HN:=(names_c c hc).pure
 have hl:=Bi.cellss_len l
 obtain ⟨ns,hns⟩:∃ ns,c.ms.map Me.s=ns:=⟨_,rfl⟩
 rw [hns] at HN ⊢
 obtain ⟨r,hr⟩:∃ r,bndR ns [] l=r:=⟨_,rfl⟩
 rw [hr]
 obtain ⟨cs,cv,csu,cms,cds,cp⟩:=c
 simp only [Cl.cells] at HN ⊢
 refine Zc Tryz.func109 V (by kernel_rfl) V (Xz V) ?_
 refine Q300 ?_
 refine Q105 ?_;intro b4
 refine Q241 ?_
 refine Q304 ?_
 apply Yd (rg [(1,2),(5,51)]) (σ:=Nat) (fun zz=>match zz with|i=>[(5,.val (.int .i64 i))]) (fun zz=>match zz with|i=>i≤l.length∧bndR ns ((l.take i).map Bi.s) (l.drop i)=r) (fun zz=>match zz with|i=>l.length - i) (0)
 ·repeat' (first|exact Wc|apply Wa rfl|apply Wb rfl)
 ·exact ⟨Nat.zero_le _,hr⟩
 ·exact by4
 rintro i hI
 try dsimp only [List.cons_append,List.nil_append] at hI ⊢
 obtain ⟨h1,hu⟩:=hI
 refine Q316 ?_
 refine Q149 ?_;intro n8
 refine Q19 ?_;intro c9 h9
 refine Q226 ?_
 rcases Za h9 with ⟨rfl,g9⟩|⟨rfl,g9⟩
 ·refine Q538 ?_
  refine Q441 ?_
  rw [Wf (by omega),bndR] at hu;subst hu;exact Zj (i:=0) rfl rfl rfl Xi rfl (Xt _) (Xo _) ⟨rfl,rfl⟩
 refine Q539 ?_
 obtain ⟨⟨xs,⟨yk,ys,yn,⟨ytk,yts,ytn,ytl⟩,yks,yal,ybs,yp⟩,xp⟩,hxx⟩:=Zr (l:=l) (i:=i) (by omega)
 have hcx:=Bi.cellss_get hxx
 simp only [Bi.cells,Ex.cells,Ty.cells,List.cons_append,List.nil_append] at hcx
 rw [Yh hxx,bndR] at hu
 have hsn:=Yl hxx
 have HB:=(Bnd_c (l.take i) (by rw [List.length_take];omega)).pure
 rw [← Bi.cellss_take] at HB
 refine Q51 ?_
 refine Zx 12 V V (Yb (cs':=[_,_,_,_,_,_]) V ta_118 V V V ⟨V,V⟩) ?_
 refine Zx 13 V V (Zd (xs:=[.tmp 12]) V V (HN) by1 ⟨V,V⟩) ?_
 refine Q385 ?_
 refine Zx 16 V V (Zg V te_79 V (.seq _ _) V V (hcx) ⟨V,V⟩) ?_
 refine Q293 ?_
 refine Yr 19 V V (fun _ q=>Ze (xs:=[.tmp 13,.tmp 18]) V V (Has_c ns xs) by1 q) ?_;intro c19 h19
 refine Yr 20 V V (fun _ q=>op_notc V V q) ?_;intro c20 h20
 try replace h20:=Yo h20 h19
 show AGo _ _ _ _ _ _ _
 refine Q1 ?_
 rcases Za h20 with ⟨rfl,g20⟩|⟨rfl,g20⟩
 ·refine Q324 ?_
  rw [if_neg (by rw [hasB_iff.2 (Classical.not_not.1 g20)];simp)] at hu
  refine Q51 ?_
  refine Q385 ?_
  refine Zx 29 V V (op_cuth V te_79 V (.seq _ _) V V (by omega) ⟨V,V⟩) ?_
  refine Zx 30 V V (Zd (xs:=[.tmp 29]) V V (HB) by1 ⟨V,V⟩) ?_
  refine Q385 ?_
  refine Zx 33 V V (Zg V te_79 V (.seq _ _) V V (hcx) ⟨V,V⟩) ?_
  refine Q293 ?_
  refine Yr 36 V V (fun _ q=>Ze (xs:=[.tmp 30,.tmp 35]) V V (Has_c ((l.take i).map Bi.s) xs) by1 q) ?_;intro c36 h36
  show AGo _ _ _ _ _ _ _
  refine Q1 ?_
  rcases Za h36 with ⟨rfl,g36⟩|⟨rfl,g36⟩
  ·refine Q242 ?_
   rw [if_neg (by rw [hasB_no g36];simp)] at hu
   refine Q314 ?_
   refine Zb 45 V V V (Zg V te_79 V (.seq _ _) V V (hcx) ?_)
   refine Q13 ?_
   refine Q235 ?_
   refine Q34 ?_;intro c49 h49
   refine Q226 ?_
   rcases Za h49 with ⟨rfl,g49⟩|⟨rfl,g49⟩
   ·refine Q305 ?_
    rw [if_neg g49] at hu;exact ⟨i+1,⟨by omega,by rw [hsn,List.map_append];exact hu⟩,by show l.length - (i+1)<l.length - i;omega,by4,by3⟩
   refine Q391 ?_
   refine Zb 52 V V V (Zg V te_79 V (.seq _ _) V V (hcx) ?_)
   refine Q235 ?_
   refine Zb 55 V V V (Zp (ns:=[0,1]) (xs:=[.const (.int .i64 130),.tmp 54]) V tz_85 V tfl_85 V V V V ?_)
   refine Q441 ?_
   rw [if_pos g49] at hu;subst hu;exact Zj (i:=0) rfl rfl rfl Xi rfl (Xt _) (Xo _) ⟨rfl,rfl⟩
  refine Q391 ?_
  refine Zb 39 V V V (Zg V te_79 V (.seq _ _) V V (hcx) ?_)
  refine Q235 ?_
  refine Zb 42 V V V (Zp (ns:=[0,1]) (xs:=[.const (.int .i64 120),.tmp 41]) V tz_85 V tfl_85 V V V V ?_)
  refine Q441 ?_
  rw [if_pos (hasB_iff.2 g36)] at hu;subst hu;exact Zj (i:=0) rfl rfl rfl Xi rfl (Xt _) (Xo _) ⟨rfl,rfl⟩
 refine Q391 ?_
 refine Zb 23 V V V (Zg V te_79 V (.seq _ _) V V (hcx) ?_)
 refine Q235 ?_
 refine Zb 26 V V V (Zp (ns:=[0,1]) (xs:=[.const (.int .i64 121),.tmp 25]) V tz_85 V tfl_85 V V V V ?_)
 refine Q441 ?_
 rw [if_pos (hasB_no g20)] at hu;subst hu;exact Zj (i:=0) rfl rfl rfl Xi rfl (Xt _) (Xo _) ⟨rfl,rfl⟩
end Go.Proofs.YteepjjgooplljaaGreat
namespace Go.Proofs.YteepjjgooplljaaGreat
structure EnB (v:En):Prop where
 da:v.da.length≤100000
 dps:∀ d∈v.da,d.ps.length≤100000∧d.cs.length≤100000
 cl:v.cl.length≤100000
 cls:∀ c∈v.cl,c.su.length≤100000∧c.ms.length≤100000∧c.ds.length≤100000∧∀ m∈c.ms,m.t.size≤1000000
 ins:v.ins.length≤100000
 inss:∀ x∈v.ins,x.cx.length≤100000∧x.bs.length≤100000∧x.hd.kids.length≤200000
theorem flatMap_len {α β:Type} (f:α→List β) (n:Nat):∀ l:List α,(∀ x∈l,(f x).length≤n)→(l.flatMap f).length≤l.length * n
 | [],_=>by simp
 | x::l,h=>by
  have h1:=h x (by simp)
  have h2:=flatMap_len f n l (fun y hy=>h y (by simp [hy]))
  rw [List.flatMap_cons,List.length_append,List.length_cons,Nat.add_mul]
  omega
theorem EnB.sup {v:En} (h:EnB v):(allSup v).length≤10000000000:=by
 have:=flatMap_len Cl.su 100000 v.cl (fun c hc=>(h.cls c hc).1)
 have h2:=h.cl
 unfold allSup
 omega
open Go.RowKit
theorem datas_c (v:En) (hv:EnB v):PCall Tryz.prog 61 [.agg v.cells] (faultA (datasR v)):=by
 have HR:=fun vars t=>Right_c v vars _ t (Nat.le_refl _)
 obtain ⟨r,hr⟩:∃ r,datasR v=r:=⟨_,rfl⟩
 rw [hr]
 unfold datasR at hr
 obtain ⟨hda,hdp,_,_,_,_⟩:=hv
 obtain ⟨da,cl,ins⟩:=v
 have hl:=Da.cellss_len da
 simp only [En.da] at hda hdp
 have hr:(if (datas1 [] da).1≠0 then datas1 [] da else datas2 (En.mk da cl ins) da [])=r:=hr
 obtain ⟨r1,hr1⟩:∃ r,datas1 [] da=r:=⟨_,rfl⟩
 rw [hr1] at hr
 simp only [En.cells] at HR ⊢
 refine Zc Tryz.func61 V (by kernel_rfl) V (Xz V) ?_
 refine Q353 ?_
 refine Q105 ?_;intro b2
 refine Q241 ?_
 refine Q304 ?_
 apply Yd (rg [(0,1),(3,3),(14,50)]) (σ:=Nat) (fun zz=>match zz with|i=>[(3,.val (.int .i64 i))]) (fun zz=>match zz with|i=>i≤da.length∧datas1 ((da.take i).map Da.s) (da.drop i)=r1) (fun zz=>match zz with|i=>da.length - i) (0)
 ·repeat' (first|exact Wc|apply Wa rfl|apply Wb rfl)
 ·exact ⟨Nat.zero_le _,hr1⟩
 ·exact by4
 rintro i hI
 try dsimp only [List.cons_append,List.nil_append] at hI ⊢
 obtain ⟨h1,hu⟩:=hI
 refine Q339 ?_
 refine Q117 ?_;intro n17
 refine Q19 ?_;intro c18 h18
 refine Q226 ?_
 rcases Za h18 with ⟨rfl,g18⟩|⟨rfl,g18⟩
 ·refine Q343 ?_
  rw [Wf (by omega),datas1] at hu
  rw [← hu,if_neg (by simp [f0])] at hr
  refine Q4 ?_
  refine Q337 ?_
  refine c_le (al':=[(1,.cptr [.seq 5 (Da.cellss da),.seq 6 (Cl.cellss cl),.seq 8 (In.cellss ins)]),(2,.ptr b2 0),(6,.val (.slice none 0 0)),(7,.val (.int .i64 0))]) by4 (Xn _) ?_
  refine Q88 ?_
  apply Ym (rg [(0,1),(3,146)]) (σ:=Nat × List ByteArray × Value) (fun zz=>match zz with|(i,met,w)=>[(6,.own w 1 (strs met)),(7,.val (.int .i64 i))]) (fun zz=>match zz with|(i,met,w)=>[.loc b2 [.val (.int .i64 0),.val (.int .i64 0)],.own 9 1 w]) (fun zz=>match zz with|(i,met,w)=>i≤da.length∧datas2 (En.mk da cl ins) (da.drop i) met=r∧met.length≤100000 * i) (fun zz=>match zz with|(i,met,w)=>da.length - i) ((0,[],.slice none 0 0))
  ·repeat' (first|exact Wc|apply Wa rfl|apply Wb rfl)
  ·exact ⟨Nat.zero_le _,hr,by simp⟩
  ·exact Xw V (Le.nilOwn 1) (Xw V (Xt _) (SLe.nil _))
  ·exact (Xs V)
  rintro ⟨i,met,w⟩ hI
  try dsimp only [List.cons_append,List.nil_append] at hI ⊢
  obtain ⟨i1,hw,i3⟩:=hI
  refine Q339 ?_
  refine Q117 ?_;intro n67
  refine Q19 ?_;intro c68 h68
  refine Q226 ?_
  rcases Za h68 with ⟨rfl,g68⟩|⟨rfl,g68⟩
  ·refine Q538 ?_
   refine Q441 ?_
   rw [Wf (by omega),datas2] at hw;subst hw;exact Zj (i:=0) rfl rfl rfl Xi rfl (Xt _) (Xo _) ⟨rfl,rfl⟩
  refine Q265 ?_
  obtain ⟨⟨xs,xps,xcs,xdv,xp⟩,hxx⟩:=Zr (l:=da) (i:=i) by7
  have hcx:=Da.cellss_get hxx
  have hmx:=We hxx
  rw [Yh hxx,datas2] at hw
  obtain ⟨hp1,hp2⟩:=hdp _ hmx
  have hw:(if dupB [] xps=true then (120,xp) else if (consR (En.mk da cl ins) xps xcs met).1.1≠0 then (consR (En.mk da cl ins) xps xcs met).1 else datas2 (En.mk da cl ins) (da.drop (i+1)) (consR (En.mk da cl ins) xps xcs met).2)=r:=hw
  simp only [Da.ps,Da.cs] at hp1 hp2
  have hlp:=Ye xps
  have hlc:=Cn.cellss_len xcs
  obtain ⟨dup,hdup⟩:∃ b,dupB [] xps=b:=⟨_,rfl⟩
  rw [hdup] at hw
  obtain ⟨⟨cf,cm⟩,hcr⟩:∃ b,consR (En.mk da cl ins) xps xcs met=b:=⟨_,rfl⟩
  rw [hcr] at hw
  simp only [] at hw
  refine Q372 ?_
  refine Zb 74 V V V (Zg V te_37 V (.seq _ _) V V (hcx) ?_)
  refine Q540 ?_;intro b8
  refine Q110 ?_
  refine Q241 ?_
  refine Q304 ?_
  apply Yd (rg [(0,1),(3,3),(9,1),(14,50),(76,20)]) (σ:=Nat) (fun zz=>match zz with|k=>[(9,.val (.int .i64 k))]) (fun zz=>match zz with|k=>k≤xps.length∧dupB (xps.take k) (xps.drop k)=dup) (fun zz=>match zz with|k=>xps.length - k) (0)
  ·repeat' (first|exact Wc|apply Wa rfl|apply Wb rfl)
  ·exact ⟨Nat.zero_le _,hdup⟩
  ·exact by4
  rintro k hI
  try dsimp only [List.cons_append,List.nil_append] at hI ⊢
  obtain ⟨k1,hk⟩:=hI
  refine Q503 ?_
  refine Q70 ?_;intro n79
  refine Q19 ?_;intro c80 h80
  refine Q226 ?_
  rcases Za h80 with ⟨rfl,g80⟩|⟨rfl,g80⟩
  ·refine Q343 ?_
   rw [Wf (by omega),dupB] at hk
   rw [if_neg (by rw [← hk];simp)] at hw
   refine Q332 ?_
   refine c_le (al':=[(1,.cptr [.seq 5 (Da.cellss da),.seq 6 (Cl.cellss cl),.seq 8 (In.cellss ins)]),(2,.ptr b2 0),(6,.own w 1 (strs met)),(7,.val (.int .i64 i)),(8,.ptr b8 0),(10,.val (.int .i64 0))]) by4 (Xn _) ?_
   apply Ym (rg [(0,1),(3,4),(10,54),(96,53)]) (σ:=Nat × List ByteArray × Value) (fun zz=>match zz with|(j,m,w2)=>[(6,.own w2 1 (strs m)),(10,.val (.int .i64 j))]) (fun zz=>match zz with|(j,m,w2)=>[.loc b8 [.val (.string xs),.seq 1 (strs xps),.seq 3 (Cn.cellss xcs),.seq 1 (strs xdv),.val (.int .i64 xp)],.loc b2 [.val (.int .i64 0),.val (.int .i64 0)],.own 9 1 w2]) (fun zz=>match zz with|(j,m,w2)=>j≤xcs.length∧consR (En.mk da cl ins) xps (xcs.drop j) m=(cf,cm)∧m.length≤100000 * i+j) (fun zz=>match zz with|(j,m,w2)=>xcs.length - j) ((0,met,w))
   ·repeat' (first|exact Wc|apply Wa rfl|apply Wb rfl)
   ·exact ⟨Nat.zero_le _,hcr,by show met.length≤100000 * i+0;omega⟩
   ·exact by4
   ·exact (Xs V)
   rintro ⟨j,m,w2⟩ hI
   try dsimp only [List.cons_append,List.nil_append] at hI ⊢
   obtain ⟨j1,hj,j3⟩:=hI
   have hle:(strs m).length≤20000000000:=by rw [Ye];omega
   refine Q503 ?_
   refine Zb 99 V V V (Yu V tu_112 V (.seq _ _) (fun n99=>?_))
   refine Q19 ?_;intro c100 h100
   refine Q226 ?_
   rcases Za h100 with ⟨rfl,g100⟩|⟨rfl,g100⟩
   ·refine Q440 ?_
    rw [Wf (by omega),consR] at hj
    cases hj
    rw [if_neg (by simp [f0])] at hw
    exact ⟨(i+1,cm,w2),⟨by show i+1≤da.length;omega,hw,by show cm.length≤100000 * (i+1);omega⟩,by show da.length - (i+1)<da.length - i;omega,by4,(Xq _ (Xs V))⟩
   refine Q265 ?_
   obtain ⟨⟨ys,yts,yp⟩,hxy⟩:=Zr (l:=xcs) (i:=j) by7
   have hcy:=Cn.cellss_get hxy
   have hmy:=We hxy
   rw [Yh hxy,consR] at hj
   have hj:(if hasB m ys=true then (((120:Int),yp),m) else if 60<yts.length then ((3,yp),m++[ys]) else if rightsR (En.mk da cl ins) xps yts≠0 then ((rightsR (En.mk da cl ins) xps yts,yp),m++[ys]) else consR (En.mk da cl ins) xps (xcs.drop (j+1)) (m++[ys]))=(cf,cm):=hj
   have hlt:=Ty.cellss_len yts
   refine Q465 ?_
   refine Q5 ?_
   refine Zb 106 V V V (Zg V te_112 V (.seq _ _) V V (hcy) (Zb 107 V V V (Yb (cs':=[_,_,_]) V ta_163 V V V (Zb 11 V V V (Yk (cs':=[_,_,_]) V tz_163 V V ?_)))));intro b11
   refine Q178 ?_
   refine Q301 ?_
   refine Q243 ?_
   refine Zb 111 V V V (Ze (xs:=[.tmp 108,.tmp 110]) V V (Has_c m ys) by1 ?_);intro c111 h111
   refine Q226 ?_
   rcases Za h111 with ⟨rfl,g111⟩|⟨rfl,g111⟩
   ·refine Q242 ?_
    rw [if_neg (by rw [hasB_no g111];simp)] at hj
    refine Q529 ?_
    refine Zb 118 V V V (Zh (xs:=[.tmp 117]) Xd V V V V V V (Xz V) (Zb 119 V V V (Zw (i:=3) Xd V V V V (.seq _ _) by6 ?_)))
    intro u119
    refine Q238 ?_
    refine Q280 ?_
    refine Q47 ?_;intro n122
    refine Q74 ?_;intro c123 h123
    refine Q226 ?_
    rcases Za h123 with ⟨rfl,g123⟩|⟨rfl,g123⟩
    ·refine Q242 ?_
     rw [if_neg (by omega)] at hj
     obtain ⟨e,he⟩:∃ e,rightsR (En.mk da cl ins) xps yts=e:=⟨_,rfl⟩
     rw [he] at hj
     refine Q332 ?_
     refine c_le (al':=[(1,.cptr [.seq 5 (Da.cellss da),.seq 6 (Cl.cellss cl),.seq 8 (In.cellss ins)]),(2,.ptr b2 0),(6,.own u119 1 (strs (m++[ys]))),(7,.val (.int .i64 i)),(8,.ptr b8 0),(10,.val (.int .i64 j)),(11,.ptr b11 0),(12,.val (.int .i64 0))]) (Xw V (Xt _) (Xw V (Xt _) (Xw V (Xy (by rw [strs_app];rfl)) by4))) (Xn _) ?_
     apply Yd (rg [(0,1),(3,3),(12,52),(127,22)]) (σ:=Nat) (fun zz=>match zz with|n=>[(12,.val (.int .i64 n))]) (fun zz=>match zz with|n=>n≤yts.length∧rightsR (En.mk da cl ins) xps (yts.drop n)=e) (fun zz=>match zz with|n=>yts.length - n) (0)
     ·repeat' (first|exact Wc|apply Wa rfl|apply Wb rfl)
     ·exact ⟨Nat.zero_le _,he⟩
     ·exact by4
     rintro n hI
     try dsimp only [List.cons_append,List.nil_append] at hI ⊢
     obtain ⟨n1,hn⟩:=hI
     refine Q503 ?_
     refine Q47 ?_;intro n130
     refine Q19 ?_;intro c131 h131
     refine Q226 ?_
     rcases Za h131 with ⟨rfl,g131⟩|⟨rfl,g131⟩
     ·refine Q440 ?_
      rw [Wf (by omega),rightsR] at hn
      rw [if_neg (by omega)] at hj
      exact ⟨(j+1,m++[ys],u119),⟨by show j+1≤xcs.length;omega,hj,by show (m++[ys]).length≤100000 * i+(j+1);simp;omega⟩,by show xcs.length - (j+1)<xcs.length - j;omega,Xw V (Xt _) by4,(Xq _ (Xs V))⟩
     refine Q265 ?_
     obtain ⟨⟨zk,zs,zn,zl⟩,hz⟩:=Zr (l:=yts) (i:=n) (by omega)
     have hcz:=Ty.cellss_get hz
     have H:=HR xps (.mk zk zs zn zl)
     rw [Yh hz,rightsR] at hn
     simp only [Ty.cells] at hcz H
     refine Q463 ?_
     refine Q425 ?_
     refine Q466 ?_
     refine Zx 140 V V (Zg V te_22 V (.seq _ _) V V (hcz) ⟨V,V⟩) ?_
     refine Q87 ?_
     refine Zx 142 V V (Zd (xs:=[.tmp 134,.tmp 136,.tmp 141]) V V (H) by1 ⟨V,V⟩) ?_
     refine Q52 ?_
     show AGo _ _ _ _ _ _ _
     refine Q464 ?_
     refine Q34 ?_;intro c144 h144
     refine Q226 ?_
     rcases Za h144 with ⟨rfl,g144⟩|⟨rfl,g144⟩
     ·refine Q305 ?_
      rw [if_neg g144] at hn;exact ⟨n+1,⟨by omega,hn⟩,by show yts.length - (n+1)<yts.length - n;omega,by4,by3⟩
     refine Q504 ?_
     refine Zb 148 V V V (Zp (ns:=[0,1]) (xs:=[.tmp 145,.tmp 147]) V tz_85 V tfl_85 V V V V ?_)
     refine Q393 ?_
     rw [if_pos g144] at hn;subst hn;rw [if_pos g144] at hj;cases hj;rw [if_pos g144] at hw;subst hw;exact Zj (i:=2) rfl rfl rfl Xi rfl (Xt _) (Xo _) ⟨rfl,rfl⟩
    refine Q394 ?_
    refine Zb 126 V V V (Zp (ns:=[0,1]) (xs:=[.const (.int .i64 3),.tmp 125]) V tz_85 V tfl_85 V V V V ?_)
    refine Q393 ?_
    rw [if_pos (by omega)] at hj;cases hj;rw [if_pos (by simp)] at hw;subst hw;exact Zj (i:=2) rfl rfl rfl Xi rfl (Xt _) (Xo _) ⟨rfl,rfl⟩
   refine Q394 ?_
   refine Zb 114 V V V (Zp (ns:=[0,1]) (xs:=[.const (.int .i64 120),.tmp 113]) V tz_85 V tfl_85 V V V V ?_)
   refine Q393 ?_
   rw [if_pos (hasB_iff.2 g111)] at hj;cases hj;rw [if_pos (by simp)] at hw;subst hw;exact Zj (i:=2) rfl rfl rfl Xi rfl (Xt _) (Xo _) ⟨rfl,rfl⟩
  refine Q265 ?_
  obtain ⟨s,hxs⟩:=Zr (l:=xps) (i:=k) by7
  have hcs:=strs_get hxs
  have hms:=We hxs
  rw [Yh hxs,dupB] at hk
  have hss:=Yl hxs
  have HH:=Has_c (xps.take k) s
  rw [← strs_take] at HH
  refine Q51 ?_
  refine Q466 ?_
  refine Q179 ?_
  refine Q466 ?_
  refine Zx 90 V V (Zg V te_44 V (.seq _ _) V V (hcs) ⟨V,V⟩) ?_
  refine Q35 ?_
  refine Yr 92 V V (fun _ q=>Ze (xs:=[.tmp 86,.tmp 91]) V V (HH) by1 q) ?_;intro c92 h92
  show AGo _ _ _ _ _ _ _
  refine Q1 ?_
  rcases Za h92 with ⟨rfl,g92⟩|⟨rfl,g92⟩
  ·refine Q305 ?_
   rw [if_neg (by rw [hasB_no g92];simp)] at hk;exact ⟨k+1,⟨by omega,by rw [hss];exact hk⟩,by show xps.length - (k+1)<xps.length - k;omega,by4,by3⟩
  refine Q394 ?_
  refine Zb 95 V V V (Zp (ns:=[0,1]) (xs:=[.const (.int .i64 120),.tmp 94]) V tz_85 V tfl_85 V V V V ?_)
  refine Q395 ?_
  rw [if_pos (hasB_iff.2 g92)] at hk;rw [if_pos hk.symm] at hw;subst hw;exact Zj (i:=1) rfl rfl rfl Xi rfl (Xt _) (Xo _) ⟨rfl,rfl⟩
 refine Q265 ?_
 obtain ⟨⟨xs,xps,xcs,xdv,xp⟩,hxx⟩:=Zr (l:=da) (i:=i) by7
 have hcx:=Da.cellss_get hxx
 have hmx:=We hxx
 rw [Yh hxx,datas1] at hu
 have hsn:=Yl hxx
 have hu:(if baseB xs=true then (120,xp) else if hasB ((da.take i).map Da.s) xs=true then (120,xp) else datas1 ((da.take i).map Da.s++[xs]) (da.drop (i+1)))=r1:=hu
 refine Q372 ?_
 refine Zb 24 V V V (Zg V te_37 V (.seq _ _) V V (hcx) ?_)
 refine Q540 ?_;intro b4
 refine Q110 ?_
 refine Q426 ?_
 refine Zy 43 (xs=kIntT∨xs=kStrT∨xs=kRefT∨xs=kArrow) ?_ _ _ V ?_
 ·skip
  refine Q243 ?_
  refine Q60 ?_;intro c28 h28
  refine Q5 ?_
  rcases Za h28 with ⟨rfl,g28⟩|⟨rfl,g28⟩
  ·skip
   refine Q490 ?_;intro c32 h32
   refine Q260 ?_
   rcases Za h32 with ⟨rfl,g32⟩|⟨rfl,g32⟩
   ·skip
    refine Q490 ?_;intro c37 h37
    refine Q260 ?_
    rcases Za h37 with ⟨rfl,g37⟩|⟨rfl,g37⟩
    ·skip
     refine Q490 ?_;intro c42 h42
     refine Q236 ?_
     refine Xx V ?_ by5 by3
     simp_all;done
    skip
    refine Q422 ?_
    refine Xx V ?_ by5 by3
    simp_all;done
   skip
   refine Q382 ?_
   refine Q422 ?_
   refine Xx V ?_ by5 by3
   simp_all;done
  skip
  refine Q382 ?_
  refine Q382 ?_
  refine Q422 ?_
  refine Xx V ?_ by5 by3
  simp_all;done
 intro c43 h43
 refine Q1 ?_
 rcases Za h43 with ⟨rfl,g43⟩|⟨rfl,g43⟩
 ·refine Q242 ?_
  rw [if_neg (by unfold baseB;simp only [Bool.or_eq_true,Xb];simpa [or_assoc] using g43)] at hu
  refine Q332 ?_
  apply Yd (rg [(0,1),(5,1),(47,17)]) (σ:=Nat) (fun zz=>match zz with|j=>[(5,.val (.int .i64 j))]) (fun zz=>match zz with|j=>j≤i∧¬ xs∈(da.take j).map Da.s) (fun zz=>match zz with|j=>i - j) (0)
  ·repeat' (first|exact Wc|apply Wa rfl|apply Wb rfl)
  ·exact ⟨Nat.zero_le _,by simp⟩
  ·exact by4
  rintro j hI
  try dsimp only [List.cons_append,List.nil_append] at hI ⊢
  obtain ⟨h2,hn⟩:=hI
  refine Q505 ?_;intro c49 h49
  refine Q226 ?_
  rcases Za h49 with ⟨rfl,g49⟩|⟨rfl,g49⟩
  ·refine Q440 ?_
   obtain rfl:j=i:=by omega
   rw [if_neg (by rw [hasB_no hn];simp)] at hu
   exact ⟨j+1,⟨by omega,by rw [hsn,List.map_append];exact hu⟩,by show da.length - (j+1)<da.length - j;omega,by4,by3⟩
  refine Q265 ?_
  obtain ⟨⟨ys,yps,ycs,ydv,yp⟩,hxy⟩:=Zr (l:=da) (i:=j) by7
  have hcy:=Da.cellss_get hxy
  have hmy:=We hxy
  have hsy:=Yl hxy
  refine Q51 ?_
  refine Q370 ?_
  refine Zx 55 V V (Zg V te_37 V (.seq _ _) V V (hcy) ⟨V,V⟩) ?_
  refine Q293 ?_
  refine Q392 ?_
  refine Yr 60 V V (fun _ q=>op_seql V V V q) ?_;intro c60 h60
  show AGo _ _ _ _ _ _ _
  refine Q1 ?_
  rcases Za h60 with ⟨rfl,g60⟩|⟨rfl,g60⟩
  ·refine Q305 ?_
   exact ⟨j+1,⟨by omega,by rw [hsy,List.map_append,List.mem_append];simp only [List.map_cons,List.map_nil,List.mem_singleton];exact fun q=>q.elim hn (fun e=>g60 e.symm)⟩,by show i - (j+1)<i - j;omega,by4,by3⟩
  refine Q394 ?_
  refine Zb 63 V V V (Zp (ns:=[0,1]) (xs:=[.const (.int .i64 120),.tmp 62]) V tz_85 V tfl_85 V V V V ?_)
  refine Q395 ?_
  have htk:(da.take i)[j]?=some (Da.mk ys yps ycs ydv yp):=by rw [List.getElem?_take_of_lt (by omega)];exact hxy
  rw [if_pos (hasB_iff.2 (List.mem_map.2 ⟨_,We htk,g60⟩))] at hu;rw [← hu,if_pos (by simp)] at hr;subst hr;exact Zj (i:=1) rfl rfl rfl Xi rfl (Xt _) (Xo _) ⟨rfl,rfl⟩
 refine Q394 ?_
 refine Zb 46 V V V (Zp (ns:=[0,1]) (xs:=[.const (.int .i64 120),.tmp 45]) V tz_85 V tfl_85 V V V V ?_)
 refine Q395 ?_
 rw [if_pos (by unfold baseB;simp only [Bool.or_eq_true,Xb];simpa [or_assoc] using g43)] at hu;rw [← hu,if_pos (by simp)] at hr;subst hr;exact Zj (i:=1) rfl rfl rfl Xi rfl (Xt _) (Xo _) ⟨rfl,rfl⟩
end Go.Proofs.YteepjjgooplljaaGreat
namespace Go.Proofs.YteepjjgooplljaaGreat
noncomputable instance:DecidableEq Ty:=fun a b=>Classical.propDecidable (a=b)
abbrev MSt:=List ByteArray × List Ty
mutual
noncomputable def mt:MSt→Ty→Ty→Option MSt
 | st,.mk k s n ks,b=>if k=1 then
       if 0≤firstAt s st.1 0 then (if st.2[(firstAt s st.1 0).toNat]?=some b then some st else none)
       else some (st.1++[s],st.2++[b])
     else if k=b.kind∧s=b.name∧n=b.num then mts st ks b.kids else none
noncomputable def mts:MSt→List Ty→List Ty→Option MSt
 | st,[],ys=>if ys=[] then some st else none
 | _,_::_,[]=>none
 | st,x::xs,y::ys=>match mt st x y with
  | some a=>mts a xs ys
  | none=>none
end
theorem mem_addVar (s:ByteArray) (acc:List ByteArray) (x:Ty):s∈addVar acc x↔s∈acc∨(x.kind=1∧x.name=s):=by
 unfold addVar
 by_cases h:x.kind=1∧x.name∉acc
 ·rw [if_pos h,List.mem_append]
  constructor
  ·rintro (q|q)
   ·exact Or.inl q
   exact Or.inr ⟨h.1,(List.mem_singleton.1 q).symm⟩
  rintro (q|q)
  ·exact Or.inl q
  exact Or.inr (List.mem_singleton.2 q.2.symm)
 rw [if_neg h]
 constructor
 ·exact Or.inl
 rintro (q|q)
 ·exact q
 by_cases hm:x.name∈acc
 ·rw [q.2] at hm;exact hm
 exact absurd ⟨q.1,hm⟩ h
theorem mem_foldVar (s:ByteArray):∀ (l:List Ty) (acc:List ByteArray),s∈l.foldl addVar acc↔s∈acc∨∃ x∈l,x.kind=1∧x.name=s
 | [],acc=>by simp
 | x::l,acc=>by
  rw [List.foldl_cons,mem_foldVar s l,mem_addVar]
  simp only [List.mem_cons,exists_eq_or_imp]
  exact or_assoc
mutual
theorem Ty.VarOk.all:∀ t:Ty,t.VarOk→∀ x∈t.all,x.VarOk
 | .mk k s n ks,h,x,hx=>by
  rw [Ty.all] at hx
  rcases List.mem_cons.1 hx with rfl|hx
  ·exact h
  obtain ⟨_,_,_,_,_,hk⟩:=h
  exact Ty.VarOk.alls ks hk x hx
theorem Ty.VarOk.alls:∀ ts:List Ty,(∀ t∈ts,t.VarOk)→∀ x∈Ty.alls ts,x.VarOk
 | [],_,x,hx=>by rw [Ty.alls] at hx;simp at hx
 | t::ts,h,x,hx=>by
  rw [Ty.alls] at hx
  rcases List.mem_append.1 hx with hx|hx
  ·exact Ty.VarOk.all t (h t (by simp)) x hx
  exact Ty.VarOk.alls ts (fun y hy=>h y (by simp [hy])) x hx
end
theorem firstAt_get {s:ByteArray} {vs:List ByteArray} (h:s∈vs):∃ j:Nat,firstAt s vs 0=j∧vs[j]?=some s:=by
 have key:∀ (vs:List ByteArray) (k:Nat),s∈vs→∃ j:Nat,firstAt s vs k=((k+j:Nat):Int)∧vs[j]?=some s:=by
  intro vs
  induction vs with
  | nil=>intro k h;simp at h
  | cons y ys ih =>
   intro k h
   rw [firstAt]
   by_cases e:s=y
   ·exact ⟨0,by rw [if_pos e];rfl,by simp [e]⟩
   obtain ⟨j,h1,h2⟩:=ih (k+1) (by simpa [e] using h)
   exact ⟨j+1,by rw [if_neg e,h1];congr 1;omega,by simpa using h2⟩
 obtain ⟨j,h1,h2⟩:=key vs 0 h
 exact ⟨j,by rw [h1];congr 1;omega,h2⟩
open Go.RowKit
mutual
theorem hasVar_iff:∀ t:Ty,hasVar t=true↔∃ x∈t.all,x.kind=1
 | .mk k s n ks=>by
  rw [hasVar,Ty.all]
  by_cases h:k=1
  ·rw [if_pos h]
   exact ⟨fun _=>⟨_,List.mem_cons_self,h⟩,fun _=>V⟩
  rw [if_neg h,hasVars_iff ks]
  constructor
  ·rintro ⟨x,hx,hk⟩;exact ⟨x,List.mem_cons_of_mem _ hx,hk⟩
  rintro ⟨x,hx,hk⟩
  rcases List.mem_cons.1 hx with q|q
  ·subst q;exact absurd hk h
  exact ⟨x,q,hk⟩
theorem hasVars_iff:∀ ts:List Ty,hasVars ts=true↔∃ x∈Ty.alls ts,x.kind=1
 | []=>by simp [hasVars,Ty.alls]
 | t::ts=>by
  rw [hasVars,Ty.alls]
  by_cases h:hasVar t=true
  ·rw [if_pos h]
   obtain ⟨x,hx,hk⟩:=(hasVar_iff t).1 h
   exact ⟨fun _=>⟨x,List.mem_append_left _ hx,hk⟩,fun _=>V⟩
  rw [if_neg h,hasVars_iff ts]
  constructor
  ·rintro ⟨x,hx,hk⟩;exact ⟨x,List.mem_append_right _ hx,hk⟩
  rintro ⟨x,hx,hk⟩
  rcases List.mem_append.1 hx with q|q
  ·exact absurd ((hasVar_iff t).2 ⟨x,q,hk⟩) h
  exact ⟨x,q,hk⟩
end
theorem vars_none (t:Ty):t.vars.length=0↔hasVar t=false:=by
 have h1:=hasVar_iff t
 constructor
 ·intro h
  cases q:hasVar t with
  | false=>rfl
  | true =>
   obtain ⟨x,hx,hk⟩:=h1.1 q
   have:=(mem_foldVar x.name t.all []).2 (Or.inr ⟨x,hx,hk,rfl⟩)
   have h2:t.vars=[]:=List.eq_nil_of_length_eq_zero h
   unfold Ty.vars at h2
   rw [h2] at this;simp at this
 intro h
 cases hv:t.vars with
 | nil=>rfl
 | cons s l =>
  exfalso
  have hs:s∈t.all.foldl addVar []:=by
   have:s∈t.vars:=by rw [hv];simp
   exact this
  rcases (mem_foldVar s t.all []).1 hs with q|⟨x,hx,hk,_⟩
  ·simp at q
  rw [h1.2 ⟨x,hx,hk⟩] at h;simp at h
abbrev zF:List AV:=[.val (.int .i64 0),.val (.int .i64 0)]
theorem classes_c (v:En) (hv:EnB v):PCall Tryz.prog 62 [.agg v.cells] (faultA (classesR v)):=by
 have HR:=fun vars t=>Right_c v vars _ t (Nat.le_refl _)
 have HAb:=fun c=>(Above_c v hv.sup c).pure
 obtain ⟨r,hr⟩:∃ r,classesR v=r:=⟨_,rfl⟩
 rw [hr]
 obtain ⟨_,_,hcl,hcs,_,_⟩:=hv
 obtain ⟨da,cl,ins⟩:=v
 simp only [En.cl] at hcl hcs
 have hr:(if (classes1 [] cl).1≠0 then classes1 [] cl else if (classes2 (cl.map Cl.s) cl).1≠0 then classes2 (cl.map Cl.s) cl else if (classes3 (En.mk da cl ins) cl).1≠0 then classes3 (En.mk da cl ins) cl else classes4 (En.mk da cl ins) cl [])=r:=hr
 simp only [En.cells] at HR HAb ⊢
 have hl:=Cl.cellss_len cl
 obtain ⟨r1,hr1⟩:∃ r,classes1 [] cl=r:=⟨_,rfl⟩
 obtain ⟨r2,hr2⟩:∃ r,classes2 (cl.map Cl.s) cl=r:=⟨_,rfl⟩
 obtain ⟨r3,hr3⟩:∃ r,classes3 (En.mk da cl ins) cl=r:=⟨_,rfl⟩
 rw [hr1,hr2,hr3] at hr
 refine Zc Tryz.func62 V (by kernel_rfl) V (Xz V) ?_
 refine Q353 ?_
 refine Q105 ?_;intro b2
 refine Q258 ?_
 refine Q337 ?_
 refine c_le (al':=[(1,.cptr [.seq 5 (Da.cellss da),.seq 6 (Cl.cellss cl),.seq 8 (In.cellss ins)]),(2,.ptr b2 0),(3,.val (.slice none 0 0)),(4,.val (.int .i64 0))]) by4 (Xn _) ?_
 refine Q88 ?_
 apply Ym (rg [(0,1),(3,2),(16,31)]) (σ:=Nat × List ByteArray × Value) (fun zz=>match zz with|(i,met,u)=>[(3,.own u 1 (strs met)),(4,.val (.int .i64 i))]) (fun zz=>match zz with|(i,met,u)=>[.loc b2 zF,.own 9 1 u]) (fun zz=>match zz with|(i,met,u)=>i≤cl.length∧classes1 met (cl.drop i)=r1∧met=(cl.take i).map Cl.s) (fun zz=>match zz with|(i,met,u)=>cl.length - i) ((0,[],.slice none 0 0))
 ·repeat' (first|exact Wc|apply Wa rfl|apply Wb rfl)
 ·exact ⟨Nat.zero_le _,hr1,V⟩
 ·exact Xw V (Le.nilOwn 1) (Xw V (Xt _) (SLe.nil _))
 ·exact (Xs V)
 rintro ⟨i,met,u⟩ hI
 try dsimp only [List.cons_append,List.nil_append] at hI ⊢
 obtain ⟨h1,hu,hm⟩:=hI
 have hle:(strs met).length≤100000:=by rw [Ye,hm,List.length_map,List.length_take];omega
 refine Q500 ?_;intro n19
 refine Q19 ?_;intro c20 h20
 refine Q226 ?_
 rcases Za h20 with ⟨rfl,g20⟩|⟨rfl,g20⟩
 ·refine Q347 ?_
  rw [Wf (by omega),classes1] at hu
  rw [← hu,if_neg (by simp [f0])] at hr
  rw [List.take_of_length_le (by omega)] at hm
  rw [← hm] at hr2
  refine Q332 ?_
  refine c_le (al':=[(1,.cptr [.seq 5 (Da.cellss da),.seq 6 (Cl.cellss cl),.seq 8 (In.cellss ins)]),(2,.ptr b2 0),(3,.seq 1 (strs met)),(5,.val (.int .i64 0))]) by4 (Xn _) ?_
  apply Yd (rg [(0,1),(4,4),(16,74)]) (σ:=Nat) (fun zz=>match zz with|i2=>[(5,.val (.int .i64 i2))]) (fun zz=>match zz with|i2=>i2≤cl.length∧classes2 met (cl.drop i2)=r2) (fun zz=>match zz with|i2=>cl.length - i2) (0)
  ·repeat' (first|exact Wc|apply Wa rfl|apply Wb rfl)
  ·exact ⟨Nat.zero_le _,hr2⟩
  ·exact by4
  rintro i2 hI
  try dsimp only [List.cons_append,List.nil_append] at hI ⊢
  obtain ⟨j1,hw⟩:=hI
  refine Q500 ?_;intro n50
  refine Q19 ?_;intro c51 h51
  refine Q226 ?_
  rcases Za h51 with ⟨rfl,g51⟩|⟨rfl,g51⟩
  ·refine Q347 ?_
   rw [Wf (by omega),classes2] at hw
   rw [← hw,if_neg (by simp [f0])] at hr
   refine Q332 ?_
   refine c_le (al':=[(1,.cptr [.seq 5 (Da.cellss da),.seq 6 (Cl.cellss cl),.seq 8 (In.cellss ins)]),(2,.ptr b2 0),(8,.val (.int .i64 0))]) by4 (Xn _) ?_
   apply Yd (rg [(0,1),(3,6),(16,69),(86,33)]) (σ:=Nat) (fun zz=>match zz with|i3=>[(8,.val (.int .i64 i3))]) (fun zz=>match zz with|i3=>i3≤cl.length∧classes3 (En.mk da cl ins) (cl.drop i3)=r3) (fun zz=>match zz with|i3=>cl.length - i3) (0)
   ·repeat' (first|exact Wc|apply Wa rfl|apply Wb rfl)
   ·exact ⟨Nat.zero_le _,hr3⟩
   ·exact by4
   rintro i3 hI
   try dsimp only [List.cons_append,List.nil_append] at hI ⊢
   obtain ⟨k1,ht⟩:=hI
   refine Q500 ?_;intro n93
   refine Q19 ?_;intro c94 h94
   refine Q226 ?_
   rcases Za h94 with ⟨rfl,g94⟩|⟨rfl,g94⟩
   ·refine Q343 ?_
    rw [Wf (by omega),classes3] at ht
    rw [← ht,if_neg (by simp [f0])] at hr
    refine Q4 ?_
    refine Q337 ?_
    refine c_le (al':=[(1,.cptr [.seq 5 (Da.cellss da),.seq 6 (Cl.cellss cl),.seq 8 (In.cellss ins)]),(2,.ptr b2 0),(9,.val (.slice none 0 0)),(10,.val (.int .i64 0))]) by4 (M':=[.loc b2 zF]) (Xp _ (Xo _)) ?_
    refine Q88 ?_
    apply Ym (rg [(0,1),(3,82),(86,99)]) (σ:=Nat × List ByteArray × Value) (fun zz=>match zz with|(i4,kn,w)=>[(9,.own w 1 (strs kn)),(10,.val (.int .i64 i4))]) (fun zz=>match zz with|(i4,kn,w)=>[.loc b2 zF,.own 9 1 w]) (fun zz=>match zz with|(i4,kn,w)=>i4≤cl.length∧classes4 (En.mk da cl ins) (cl.drop i4) kn=r∧kn.length≤100000 * i4) (fun zz=>match zz with|(i4,kn,w)=>cl.length - i4) ((0,[],.slice none 0 0))
    ·repeat' (first|exact Wc|apply Wa rfl|apply Wb rfl)
    ·exact ⟨Nat.zero_le _,hr,Nat.zero_le _⟩
    ·exact Xw V (Le.nilOwn 1) (Xw V (Xt _) (SLe.nil _))
    ·exact (Xs V)
    rintro ⟨i4,kn,w⟩ hI
    try dsimp only [List.cons_append,List.nil_append] at hI ⊢
    obtain ⟨a1,ha,a3⟩:=hI
    refine Q500 ?_;intro n122
    refine Q19 ?_;intro c123 h123
    refine Q226 ?_
    rcases Za h123 with ⟨rfl,g123⟩|⟨rfl,g123⟩
    ·refine Q538 ?_
     refine Q441 ?_
     rw [Wf (by omega),classes4] at ha;subst ha;exact Zj (i:=0) rfl rfl rfl Xi rfl (Xt _) (Xo _) ⟨rfl,rfl⟩
    refine Q265 ?_
    obtain ⟨⟨xs,xv,xsu,xms,xds,xp⟩,hxx⟩:=Zr (l:=cl) (i:=i4) by7
    have hcx:=Cl.cellss_get hxx
    have hmx:=We hxx
    rw [Yh hxx,classes4] at ha
    obtain ⟨_,hms,hds,hmt⟩:=hcs _ hmx
    have hms:xms.length≤100000:=hms
    have hds:xds.length≤100000:=hds
    have hmt:∀ m∈xms,m.t.size≤1000000:=hmt
    have HB:=binds_c xds (Cl.mk xs xv xsu xms xds xp) (by omega) (show xms.length≤1000000 by omega)
    have HB:PCall Tryz.prog 109 [.seq 13 (Bi.cellss xds),.agg (Cl.mk xs xv xsu xms xds xp).cells] (faultA (bndR (xms.map Me.s) [] xds)):=HB
    have ha:(if (methR (En.mk da cl ins) xv xms kn).1.1≠0 then (methR (En.mk da cl ins) xv xms kn).1 else if (bndR (xms.map Me.s) [] xds).1≠0 then bndR (xms.map Me.s) [] xds else classes4 (En.mk da cl ins) (cl.drop (i4+1)) (methR (En.mk da cl ins) xv xms kn).2)=r:=ha
    obtain ⟨⟨mf,mk⟩,hmr⟩:∃ b,methR (En.mk da cl ins) xv xms kn=b:=⟨_,rfl⟩
    rw [hmr] at ha
    obtain ⟨⟨fe,fa⟩,hbr⟩:∃ b,bndR (xms.map Me.s) [] xds=b:=⟨_,rfl⟩
    rw [hbr] at ha HB
    simp only [] at ha
    simp only [faultA,Cl.cells] at HB
    have hlm:=Me.cellss_len xms
    refine Q372 ?_
    refine Zb 129 V V V (Zg V te_38 V (.seq _ _) V V (hcx) ?_)
    refine Q127 ?_
    refine Q150 ?_;intro b11
    refine Q180 ?_
    refine Q241 ?_
    refine Q304 ?_
    refine c_le (al':=[(1,.cptr [.seq 5 (Da.cellss da),.seq 6 (Cl.cellss cl),.seq 8 (In.cellss ins)]),(2,.ptr b2 0),(9,.own w 1 (strs kn)),(10,.val (.int .i64 i4)),(11,.ptr b11 0),(12,.val (.int .i64 0))]) by4 (Xn _) ?_
    apply Ym (rg [(0,1),(3,7),(12,3),(16,69),(86,33),(131,46)]) (σ:=Nat × List ByteArray × Value) (fun zz=>match zz with|(k,m,w2)=>[(9,.own w2 1 (strs m)),(12,.val (.int .i64 k))]) (fun zz=>match zz with|(k,m,w2)=>[.loc b11 [.val (.string xs),.val (.string xv),.seq 1 (strs xsu),.seq 6 (Me.cellss xms),.seq 13 (Bi.cellss xds),.val (.int .i64 xp)],.loc b2 zF,.own 9 1 w2]) (fun zz=>match zz with|(k,m,w2)=>k≤xms.length∧methR (En.mk da cl ins) xv (xms.drop k) m=(mf,mk)∧m.length≤100000 * i4+k) (fun zz=>match zz with|(k,m,w2)=>xms.length - k) ((0,kn,w))
    ·repeat' (first|exact Wc|apply Wa rfl|apply Wb rfl)
    ·exact ⟨Nat.zero_le _,hmr,by show kn.length≤100000 * i4+0;omega⟩
    ·exact by4
    ·exact (Xs V)
    rintro ⟨k,m,w2⟩ hI
    try dsimp only [List.cons_append,List.nil_append] at hI ⊢
    obtain ⟨b1,hb,b3⟩:=hI
    have hle:(strs m).length≤20000000000:=by rw [Ye];omega
    refine Q503 ?_
    refine Q126 ?_;intro n134
    refine Q19 ?_;intro c135 h135
    refine Q226 ?_
    rcases Za h135 with ⟨rfl,g135⟩|⟨rfl,g135⟩
    ·refine Q343 ?_
     rw [Wf (by omega),methR] at hb
     cases hb
     rw [if_neg (by simp [f0])] at ha
     refine Q465 ?_
     refine Zb 179 V V V (Yc (cs':=[_,_,_,_,_,_]) (i:=0) V ta_118 V V V V (Zb 180 V V V (Zd (xs:=[.tmp 178,.tmp 179]) V V (HB) by1 ?_)))
     refine Q105 ?_;intro b15
     refine Q82 ?_
     refine Q378 ?_
     refine Q34 ?_;intro c183 h183
     refine Q226 ?_
     rcases Za h183 with ⟨rfl,g183⟩|⟨rfl,g183⟩
     ·refine Q305 ?_
      rw [if_neg g183] at ha;exact ⟨(i4+1,mk,w2),⟨by show i4+1≤cl.length;omega,ha,by show mk.length≤100000 * (i4+1);omega⟩,by show cl.length - (i4+1)<cl.length - i4;omega,by4,(Xq _ (Xq _ (Xs rfl)))⟩
     refine Q240 ?_
     refine Q128 ?_
     refine Q393 ?_
     rw [if_pos g183] at ha;subst ha;exact Zj (i:=2) rfl rfl rfl Xi rfl (Xt _) (Xo _) ⟨rfl,rfl⟩
    refine Q265 ?_
    obtain ⟨⟨ys,⟨ytk,yts,ytn,ytl⟩,yp⟩,hxy⟩:=Zr (l:=xms) (i:=k) by7
    have hcy:=Me.cellss_get hxy
    have hmy:=We hxy
    rw [Yh hxy,methR] at hb
    have hsz:(Ty.mk ytk yts ytn ytl).size≤1000000:=hmt _ hmy
    have hb:(if hasB m ys=true then (((120:Int),yp),m) else if methE (En.mk da cl ins) xv (Ty.mk ytk yts ytn ytl)≠0 then ((methE (En.mk da cl ins) xv (Ty.mk ytk yts ytn ytl),yp),m++[ys]) else methR (En.mk da cl ins) xv (xms.drop (k+1)) (m++[ys]))=(mf,mk):=hb
    have HRt:=HR [xv] (Ty.mk ytk yts ytn ytl)
    have HVs:=(rVars_c (Ty.mk ytk yts ytn ytl) hsz).pure
    have hvn:=vars_none (Ty.mk ytk yts ytn ytl)
    obtain ⟨me,hme⟩:∃ e,methE (En.mk da cl ins) xv (Ty.mk ytk yts ytn ytl)=e:=⟨_,rfl⟩
    rw [hme] at hb
    unfold methE at hme
    obtain ⟨e,he⟩:∃ e,rightR (En.mk da cl ins) [xv] (Ty.mk ytk yts ytn ytl)=e:=⟨_,rfl⟩
    rw [he] at HRt hme
    obtain ⟨vs,hvs⟩:∃ l,(Ty.mk ytk yts ytn ytl).vars=l:=⟨_,rfl⟩
    rw [hvs] at HVs hvn
    have hlv:=Ye vs
    simp only [Ty.cells] at HRt HVs
    simp only [Me.cells,Ty.cells,List.cons_append,List.nil_append] at hcy
    refine Q465 ?_
    refine Q5 ?_
    refine Zb 141 V V V (Zg V te_116 V (.seq _ _) V V (hcy) ?_)
    refine Q181 ?_
    refine Q182 ?_;intro b13
    refine Q183 ?_
    refine Q301 ?_
    refine Q243 ?_
    refine Zb 146 V V V (Ze (xs:=[.tmp 143,.tmp 145]) V V (Has_c m ys) by1 ?_);intro c146 h146
    refine Q226 ?_
    rcases Za h146 with ⟨rfl,g146⟩|⟨rfl,g146⟩
    ·refine Q242 ?_
     rw [if_neg (by rw [hasB_no g146];simp)] at hb
     refine Q529 ?_
     refine Zb 153 V V V (Zh (xs:=[.tmp 152]) Xd V V V V V V (Xz V) (Zb 154 V V V (Zw (i:=3) Xd V V V V (.seq _ _) by6 ?_)))
     intro u154
     refine Q536 ?_
     refine Q272 ?_
     refine Zb 158 V V V (Zh (xs:=[.tmp 157]) Xd V V V V V V (Xz V) ?_)
     refine Q506 ?_
     refine Zb 161 V V V (Zd (xs:=[.tmp 155,.tmp 158,.tmp 160]) V V (HRt) by1 ?_)
     refine Q306 ?_
     refine Zy 170 (e=0∧vs.length=0) ?_ _ _ V ?_
     ·skip
      refine Q401 ?_;intro c163 h163
      refine Q5 ?_
      rcases Za h163 with ⟨rfl,g163⟩|⟨rfl,g163⟩
      ·skip
       refine Q331 ?_
       refine Xx V ?_ by5 by3
       clear HRt HVs HR HAb HB;first|(simp_all;done)|(simp_all;omega)|grind
      skip
      refine Q41 ?_
      refine Q184 ?_
      refine Zq 167 V V V V V (Zd (xs:=[.tmp 166]) V V (HVs) by1 ?_)
      refine Q111 ?_;intro n168
      refine Q38 ?_;intro c169 h169
      refine Q236 ?_
      refine Xx V ?_ by5 by3
      clear HRt HVs HR HAb HB;first|(simp_all;done)|(simp_all;omega)|grind
     intro c170 h170
     refine Q1 ?_
     refine c_le (al':=[(1,.cptr [.seq 5 (Da.cellss da),.seq 6 (Cl.cellss cl),.seq 8 (In.cellss ins)]),(2,.ptr b2 0),(9,.own u154 1 (strs (m++[ys]))),(10,.val (.int .i64 i4)),(11,.ptr b11 0),(12,.val (.int .i64 k)),(13,.ptr b13 0),(14,.val (.int .i64 e)),(170,.val (.bool c170))]) (Xw V (Xt _) (Xw V (Xt _) (Xw V (Xy (by rw [strs_app];rfl)) by4))) (Xn _) ?_
     apply c_joinkm (rg [(0,1),(3,6),(14,1),(16,69),(86,33)]) (σ:=Unit) (fun zz=>match zz with|z=>[(14,.val (.int .i64 me))]) (fun zz=>match zz with|z=>True)
     ·repeat' (first|exact Wc|apply Wa rfl|apply Wb rfl)
     ·skip
      rcases Za h170 with ⟨rfl,g170⟩|⟨rfl,g170⟩
      ·refine Q411 ?_
       first
       | (rw [if_pos ⟨g170.1,hvn.1 g170.2⟩] at hme;exact ⟨(),trivial,Xw rfl (Le.inteq hme) by4,by3⟩)
       | (rw [if_neg (fun q=>g170 ⟨q.1,hvn.2 q.2⟩)] at hme;exact ⟨(),trivial,Xw rfl (Le.inteq hme) by4,by3⟩)
      refine Q278 ?_
      refine Q239 ?_
      refine go_lp ?_
      first
      | (rw [if_pos ⟨g170.1,hvn.1 g170.2⟩] at hme;exact ⟨(),trivial,Xw rfl (Le.inteq hme) by4,by3⟩)
      | (rw [if_neg (fun q=>g170 ⟨q.1,hvn.2 q.2⟩)] at hme;exact ⟨(),trivial,Xw rfl (Le.inteq hme) by4,by3⟩)
     rintro z hI
     try dsimp only [List.cons_append,List.nil_append] at hI ⊢
     refine Q464 ?_
     refine Q34 ?_;intro c172 h172
     refine Q226 ?_
     rcases Za h172 with ⟨rfl,g172⟩|⟨rfl,g172⟩
     ·refine Q305 ?_
      rw [if_neg g172] at hb;exact ⟨(k+1,m++[ys],u154),⟨by show k+1≤xms.length;omega,hb,by show (m++[ys]).length≤100000 * i4+(k+1);simp;omega⟩,by show xms.length - (k+1)<xms.length - k;omega,by4,(Xq _ (Xs rfl))⟩
     refine Q504 ?_
     refine Zb 176 V V V (Zp (ns:=[0,1]) (xs:=[.tmp 173,.tmp 175]) V tz_85 V tfl_85 V V V V ?_)
     refine Q393 ?_
     rw [if_pos g172] at hb;cases hb;rw [if_pos g172] at ha;subst ha;exact Zj (i:=2) rfl rfl rfl Xi rfl (Xt _) (Xo _) ⟨rfl,rfl⟩
    refine Q394 ?_
    refine Zb 149 V V V (Zp (ns:=[0,1]) (xs:=[.const (.int .i64 120),.tmp 148]) V tz_85 V tfl_85 V V V V ?_)
    refine Q393 ?_
    rw [if_pos (hasB_iff.2 g146)] at hb;cases hb;rw [if_pos (by simp)] at ha;subst ha;exact Zj (i:=2) rfl rfl rfl Xi rfl (Xt _) (Xo _) ⟨rfl,rfl⟩
   refine Q265 ?_
   obtain ⟨⟨xs,xv,xsu,xms,xds,xp⟩,hxx⟩:=Zr (l:=cl) (i:=i3) by7
   have hcx:=Cl.cellss_get hxx
   have hmx:=We hxx
   rw [Yh hxx,classes3] at ht
   have ht:(if hasB (aboveR (En.mk da cl ins) xs) xs=true then ((124:Int),xp) else classes3 (En.mk da cl ins) (cl.drop (i3+1)))=r3:=ht
   refine Q463 ?_
   refine Q370 ?_
   refine Zx 101 V V (Zg V te_38 V (.seq _ _) V V (hcx) ⟨V,V⟩) ?_
   refine Q293 ?_
   refine Zx 104 V V (Zd (xs:=[.tmp 97,.tmp 103]) V V (HAb xs) by1 ⟨V,V⟩) ?_
   refine Q370 ?_
   refine Zx 108 V V (Zg V te_38 V (.seq _ _) V V (hcx) ⟨V,V⟩) ?_
   refine Q293 ?_
   refine Yr 111 V V (fun _ q=>Ze (xs:=[.tmp 104,.tmp 110]) V V (Has_c (aboveR (En.mk da cl ins) xs) xs) by1 q) ?_;intro c111 h111
   show AGo _ _ _ _ _ _ _
   refine Q1 ?_
   rcases Za h111 with ⟨rfl,g111⟩|⟨rfl,g111⟩
   ·refine Q305 ?_
    rw [if_neg (by rw [hasB_no g111];simp)] at ht;exact ⟨i3+1,⟨by omega,ht⟩,by show cl.length - (i3+1)<cl.length - i3;omega,by4,by3⟩
   refine Q534 ?_
   refine Zb 115 V V V (Zg V te_38 V (.seq _ _) V V (hcx) ?_)
   refine Q235 ?_
   refine Zb 118 V V V (Zp (ns:=[0,1]) (xs:=[.const (.int .i64 124),.tmp 117]) V tz_85 V tfl_85 V V V V ?_)
   refine Q441 ?_
   rw [if_pos (hasB_iff.2 g111)] at ht;subst ht;rw [if_pos (by simp)] at hr;subst hr;exact Zj (i:=0) rfl rfl rfl Xi rfl (Xt _) (Xo _) ⟨rfl,rfl⟩
  refine Q265 ?_
  obtain ⟨⟨xs,xv,xsu,xms,xds,xp⟩,hxx⟩:=Zr (l:=cl) (i:=i2) by7
  have hcx:=Cl.cellss_get hxx
  have hmx:=We hxx
  rw [Yh hxx,classes2] at hw
  obtain ⟨hsu,_⟩:=hcs _ hmx
  have hw:(if supR met [] xsu≠0 then (supR met [] xsu,xp) else classes2 met (cl.drop (i2+1)))=r2:=hw
  have hlsu:=Ye xsu
  have hsu:xsu.length≤100000:=hsu
  obtain ⟨e,he⟩:∃ e,supR met [] xsu=e:=⟨_,rfl⟩
  rw [he] at hw
  refine Q372 ?_
  refine Zb 57 V V V (Zg V te_38 V (.seq _ _) V V (hcx) ?_)
  refine Q127 ?_
  refine Q150 ?_;intro b6
  refine Q180 ?_
  refine Q258 ?_
  refine Q269 ?_
  refine c_le (al':=[(1,.cptr [.seq 5 (Da.cellss da),.seq 6 (Cl.cellss cl),.seq 8 (In.cellss ins)]),(2,.ptr b2 0),(3,.seq 1 (strs met)),(5,.val (.int .i64 i2)),(6,.ptr b6 0),(7,.val (.int .i64 0))]) by4 (Xn _) ?_
  apply Yd (rg [(0,1),(4,1),(7,1),(16,31),(59,31)]) (σ:=Nat) (fun zz=>match zz with|k=>[(7,.val (.int .i64 k))]) (fun zz=>match zz with|k=>k≤xsu.length∧supR met (xsu.take k) (xsu.drop k)=e) (fun zz=>match zz with|k=>xsu.length - k) (0)
  ·repeat' (first|exact Wc|apply Wa rfl|apply Wb rfl)
  ·exact ⟨Nat.zero_le _,he⟩
  ·exact by4
  rintro k hI
  try dsimp only [List.cons_append,List.nil_append] at hI ⊢
  obtain ⟨k1,hk⟩:=hI
  refine Q503 ?_
  refine Q70 ?_;intro n62
  refine Q19 ?_;intro c63 h63
  refine Q226 ?_
  rcases Za h63 with ⟨rfl,g63⟩|⟨rfl,g63⟩
  ·refine Q440 ?_
   rw [Wf (by omega),supR] at hk
   rw [if_neg (by omega)] at hw
   exact ⟨i2+1,⟨by omega,hw⟩,by show cl.length - (i2+1)<cl.length - i2;omega,by4,(Xq _ (Xn _))⟩
  refine Q539 ?_
  obtain ⟨s,hxs⟩:=Zr (l:=xsu) (i:=k) by7
  have hcs:=strs_get hxs
  have hms:=We hxs
  rw [Yh hxs,supR] at hk
  have hss:=Yl hxs
  have HH:=Has_c (xsu.take k) s
  rw [← strs_take] at HH
  refine Q529 ?_
  refine Q5 ?_
  refine Zb 70 V V V (Zg V te_44 V (.seq _ _) V V (hcs) ?_)
  refine Q14 ?_
  refine Zb 72 V V V (Ze (xs:=[.tmp 66,.tmp 71]) V V (Has_c met s) by1 ?_);intro c72 h72
  refine Q26 ?_;intro c73 h73
  try replace h73:=Yo h73 h72
  refine Q226 ?_
  rcases Za h73 with ⟨rfl,g73⟩|⟨rfl,g73⟩
  ·refine Q242 ?_
   rw [if_neg (by rw [hasB_iff.2 (Classical.not_not.1 g73)];simp)] at hk
   refine Q51 ?_
   refine Q466 ?_
   refine Q179 ?_
   refine Q466 ?_
   refine Zx 84 V V (Zg V te_44 V (.seq _ _) V V (hcs) ⟨V,V⟩) ?_
   refine Q35 ?_
   refine Yr 86 V V (fun _ q=>Ze (xs:=[.tmp 80,.tmp 85]) V V (HH) by1 q) ?_;intro c86 h86
   show AGo _ _ _ _ _ _ _
   refine Q1 ?_
   rcases Za h86 with ⟨rfl,g86⟩|⟨rfl,g86⟩
   ·refine Q305 ?_
    rw [if_neg (by rw [hasB_no g86];simp)] at hk;exact ⟨k+1,⟨by omega,by rw [hss];exact hk⟩,by show xsu.length - (k+1)<xsu.length - k;omega,by4,by3⟩
   refine Q394 ?_
   refine Zb 89 V V V (Zp (ns:=[0,1]) (xs:=[.const (.int .i64 120),.tmp 88]) V tz_85 V tfl_85 V V V V ?_)
   refine Q395 ?_
   rw [if_pos (hasB_iff.2 g86)] at hk;subst hk;rw [if_pos (by simp)] at hw;subst hw;rw [if_pos (by simp)] at hr;subst hr;exact Zj (i:=1) rfl rfl rfl Xi rfl (Xt _) (Xo _) ⟨rfl,rfl⟩
  refine Q394 ?_
  refine Zb 76 V V V (Zp (ns:=[0,1]) (xs:=[.const (.int .i64 121),.tmp 75]) V tz_85 V tfl_85 V V V V ?_)
  refine Q395 ?_
  rw [if_pos (hasB_no g73)] at hk;subst hk;rw [if_pos (by simp)] at hw;subst hw;rw [if_pos (by simp)] at hr;subst hr;exact Zj (i:=1) rfl rfl rfl Xi rfl (Xt _) (Xo _) ⟨rfl,rfl⟩
 refine Q539 ?_
 obtain ⟨⟨xs,xv,xsu,xms,xds,xp⟩,hxx⟩:=Zr (l:=cl) (i:=i) by7
 have hcx:=Cl.cellss_get hxx
 have hmx:=We hxx
 rw [Yh hxx,classes1] at hu
 have hsn:=Yl hxx
 have hu:(if hasB met xs=true then ((120:Int),xp) else classes1 (met++[xs]) (cl.drop (i+1)))=r1:=hu
 refine Q461 ?_
 refine Zb 27 V V V (Zg V te_38 V (.seq _ _) V V (hcx) ?_)
 refine Q235 ?_
 refine Zb 30 V V V (Ze (xs:=[.tmp 23,.tmp 29]) V V (Has_c met xs) by1 ?_);intro c30 h30
 refine Q226 ?_
 rcases Za h30 with ⟨rfl,g30⟩|⟨rfl,g30⟩
 ·refine Q259 ?_
  refine Q461 ?_
  refine Zb 42 V V V (Zg V te_38 V (.seq _ _) V V (hcx) ?_)
  refine Q235 ?_
  refine Zb 45 V V V (Zh (xs:=[.tmp 44]) Xd V V V V V V (Xz V) (Zb 46 V V V (Zw (i:=1) Xd V V V V (.seq _ _) by6 ?_)))
  intro u46
  refine Q349 ?_
  rw [if_neg (by rw [hasB_no g30];simp)] at hu;exact ⟨(i+1,met++[xs],u46),⟨by show i+1≤cl.length;omega,hu,by rw [hsn,List.map_append,hm];rfl⟩,by show cl.length - (i+1)<cl.length - i;omega,Xw rfl (Xy (by rw [strs_app];rfl)) by4,(Xs rfl)⟩
 refine Q534 ?_
 refine Zb 34 V V V (Zg V te_38 V (.seq _ _) V V (hcx) ?_)
 refine Q235 ?_
 refine Zb 37 V V V (Zp (ns:=[0,1]) (xs:=[.const (.int .i64 120),.tmp 36]) V tz_85 V tfl_85 V V V V ?_)
 refine Q441 ?_
 rw [if_pos (hasB_iff.2 g30)] at hu;subst hu;rw [if_pos (by simp)] at hr;subst hr;exact Zj (i:=0) rfl rfl rfl Xi rfl (Xt _) (Xo _) ⟨rfl,rfl⟩
def EOpsF (P:Program) (ops:List Oper) (ws:List Nat) (anc:List (List Nat)) (i0:Nat) (cs0:List AV) (Q:Sl→Mem→Prop):List Nat→Sl→Mem→List (Nat × Nat)→Prop
 | [],al,M,_=>Q al M
 | i::ord,al,M,L=>∃ o,ops[i]?=some o ∧
     if i=i0 then ∀ b,EOpsF P ops ws anc i0 cs0 Q ord (al.put o.dst (.ptr b 0)) (M++[.loc b cs0]) L
     else if ws.contains i then o.guard=none ∧
      ((∃ k r,M[k]?=some r∧(L.all fun x=>x.2 != k || (anc.getD i []).contains x.1)=true∧OpT P o (al.only (Oper.tmps o)) [r] (fun v M'=>∃ r',M'=[r']∧EOpsF P ops ws anc i0 cs0 Q ord (al.put o.dst v) (M.set k r') L)) ∨
       OpT P o (al.only (Oper.tmps o)) [] (fun v M'=>EOpsF P ops ws anc i0 cs0 Q ord (al.put o.dst v) (M++M') L))
     else ∃ (fp:Option Nat) (v:AV),fp.all (fun k=>Nat.blt k M.length)=true∧DStep P ops o al (fpm M fp) v∧EOpsF P ops ws anc i0 cs0 Q ord (al.put o.dst v) M ((fp.toList.map fun k=>(i,k))++L)
def flowEF (n:Nat) (l:List Oper) (ord ws:List Nat) (anc:List (List Nat)) (i0:Nat):Bool :=
 (ord.length == l.length && (List.range l.length).all (ord.contains ·) && decide ord.Nodup && ord.all (fun i=>Nat.blt i l.length)) &&
 (l.zipIdx.all fun (o,i)=>o.dst.all (·<n) && (bindsOn o).all (fun j=>j<i) &&
  (anc.getD i []).all (fun a=>(bindsOn o).contains a || (bindsOn o).any (fun c=>(anc.getD c []).contains a))) &&
 (ws.all fun j=>(List.range l.length).all fun i=>i == j || befo ord i j || (anc.getD i []).contains j || i == i0) &&
 (l.zipIdx.all fun (o,i)=>l.zipIdx.all fun (p,k)=>(k == i || o.dst.isNone || o.dst != p.dst) &&
     (match p.dst with
      | some t => !(Oper.sees l o).contains t || k == i || (if befo ord k i then (anc.getD i []).contains k else (anc.getD k []).contains i)
      | none=>true)) && ws.contains i0
structure FlowEF (n:Nat) (l:List Oper) (ord ws:List Nat) (anc:List (List Nat)) (i0:Nat):Prop where
 nodup:ord.Nodup
 mem:∀ i,i<l.length→i∈ord
 lt:∀ i∈ord,i<l.length
 dst:∀ (i:Nat) (o:Oper),l[i]?=some o→o.dst.all (·<n)=true
 back:∀ (i:Nat) (o:Oper),l[i]?=some o→∀ j∈bindsOn o,j<i
 ancs:∀ (i:Nat) (o:Oper),l[i]?=some o→∀ a∈anc.getD i [],a∈bindsOn o∨∃ c∈bindsOn o,a∈anc.getD c []
 wild:∀ j∈ws,∀ i,i<l.length→i=j∨befo ord i j=true∨j∈anc.getD i []∨i=i0
 once:∀ (i:Nat) (o:Oper) (k:Nat) (p:Oper) (t:Tmp),l[i]?=some o→l[k]?=some p→o.dst=some t→p.dst=some t→k=i
 see:∀ (i:Nat) (o:Oper) (k:Nat) (p:Oper) (t:Tmp),l[i]?=some o→l[k]?=some p→p.dst=some t→t∈Oper.sees l o→k=i∨(befo ord k i=true∧k∈anc.getD i [])∨(befo ord k i=false∧i∈anc.getD k [])
 free:i0∈ws
theorem FlowEF.of {n:Nat} {l:List Oper} {ord ws:List Nat} {anc:List (List Nat)} {i0:Nat} (h:flowEF n l ord ws anc i0=true):FlowEF n l ord ws anc i0:=by
 unfold flowEF at h
 simp only [Bool.and_eq_true] at h
 obtain ⟨⟨⟨⟨⟨⟨⟨_,h2⟩,h3⟩,h7⟩,h4⟩,h5⟩,h6⟩,h8⟩:=h
 have hmem:∀ i,i<l.length→i∈ord:=fun i hi=>by simpa using all_range h2 hi
 refine ⟨by simpa using h3,hmem,fun i hi=>by simpa [Nat.blt_eq] using List.all_eq_true.1 h7 i hi,fun i o ho=>?_,fun i o ho j hj=>?_,fun i o ho a ha=>?_,fun j hj i hi=>?_,fun i o k p t ho hp e1 e2=>?_,fun i o k p t ho hp e1 e2=>?_,by simpa using h8⟩
 ·have:=Yx h4 ho
  simp only [Bool.and_eq_true] at this
  exact this.1.1
 ·have:=Yx h4 ho
  simp only [Bool.and_eq_true,List.all_eq_true,decide_eq_true_eq] at this
  exact this.1.2 j hj
 ·have:=Yx h4 ho
  simp only [Bool.and_eq_true,List.all_eq_true] at this
  have:=this.2 a ha
  simp only [Bool.or_eq_true,List.contains_iff_mem,List.any_eq_true] at this
  exact this
 ·have:=all_range (List.all_eq_true.1 h5 j hj) hi
  simp only [Bool.or_eq_true,beq_iff_eq,List.contains_iff_mem] at this
  rcases this with ((q|q)|q)|q
  ·exact Or.inl q
  ·exact Or.inr (Or.inl q)
  ·exact Or.inr (Or.inr (Or.inl q))
  exact Or.inr (Or.inr (Or.inr q))
 ·have:=Yx (Yx h6 ho) hp
  simp only [Bool.and_eq_true,Bool.or_eq_true,beq_iff_eq] at this
  rcases this.1 with (q|q)|q
  ·exact q
  ·simp [e1] at q
  simp [e1,e2] at q
 have:=(Bool.and_eq_true _ _ ▸ Yx (Yx h6 ho) hp).2
 simp only [e1,Bool.or_eq_true,beq_iff_eq,Bool.not_eq_true'] at this
 rcases this with (q|q)|q
 ·simp [e2] at q
 ·exact Or.inl q
 split at q
 ·rename_i hb;exact Or.inr (Or.inl ⟨hb,by simpa using q⟩)
 rename_i hb
 by_cases e:k=i
 ·exact Or.inl e
 exact Or.inr (Or.inr ⟨by simpa using hb,by simpa using q⟩)
def pdM (cs0:List AV):Option Nat→Mem
 | none=>[]
 | some b=>[.loc b cs0]
section
variable {P:Program} {n:Nat} {l:List Oper} {ord ws:List Nat} {anc:List (List Nat)} {QQ:Sl→Mem→Prop} {al:Sl} {i0:Nat} {cs0:List AV}
structure AtF (P:Program) (n B:Nat) (F:EH) (Mf:Mem) (w0:World) (ds:List Deferred) (l:List Oper) (ord ws:List Nat) (anc:List (List Nat)) (i0:Nat) (cs0:List AV) (QQ:Sl→Mem→Prop) (al:Sl) (lis:Array Bool) (a:Act) (w:World) (pr rest:List Nat) (pv:Nat→AV) (M:Mem) (L:List (Nat × Nat)) (pd:Option Nat):Prop where
 size:lis.size=l.length
 closed:∀ (k:Nat) (o:Oper),l[k]?=some o→lis[k]?=some true→∀ j∈bindsOn o,lis[j]?=some true
 defers:a.defers=ds
 tmps:a.tmps.size=n
 ord:ord=pr++rest
 done:∀ k,lis[k]?=some true→k∈pr∨(k=i0∧pd≠none)
 wild:∀ k∈pr,k∈ws→lis[k]?=some true
 pnd:∀ b,pd=some b→i0∈rest∧lis[i0]?=some true∧pv i0=.ptr b 0
 next:rest=[]∨∃ j rest',rest=j::rest'∧j∈ws∧(j=i0→pd=none)
 eops:EOpsF P l ws anc i0 cs0 QQ rest (putsI l pv pr al) M L
 lenL:∀ x∈L,x.2<M.length
 steps:∀ p1 i p2,pr=p1++i::p2→i∉ws→lis[i]?=some false→∃ o fp,l[i]?=some o∧(∀ p,fp=some p→(i,p)∈L)∧DStep P l o (putsI l pv p1 al) (fpm M fp) (pv i)
 mem:∃ F',Ext F F'∧Inv B F' (M++(pdM cs0 pd++Mf)) w∧Below B w0 w ∧
  (∀ t v,al.lookup t=some v→(∀ (j:Nat) (o:Oper),l[j]?=some o→o.dst=some t→lis[j]?=some false)→t<n∧Rel F' v (a.tmps.getD t undef)) ∧
  (∀ (j:Nat) (o:Oper) (t:Tmp),l[j]?=some o→o.dst=some t→lis[j]?=some true→t<n∧Rel F' (pv j) (a.tmps.getD t undef))

theorem closed_ancF (hfl:FlowEF n l ord ws anc i0) {lis:Array Bool} (hc:∀ (k:Nat) (o:Oper),l[k]?=some o→lis[k]?=some true→∀ j∈bindsOn o,lis[j]?=some true):∀ (i:Nat) (o:Oper),l[i]?=some o→(∀ j∈bindsOn o,lis[j]?=some true)→∀ a∈anc.getD i [],lis[a]?=some true:=by
 intro i
 induction i using Nat.strongRecOn with
 | _ i ih =>
  intro o ho hb a ha
  rcases hfl.ancs i o ho a ha with q|⟨c,hc1,hc2⟩
  ·exact hb a q
  have hci:=hfl.back i o ho c hc1
  have hil:i<l.length:=get_lt ho
  have hcl:l[c]?=some l[c]:=List.getElem?_eq_getElem (by omega)
  exact ih c hci l[c] hcl (hc c l[c] hcl (hb c hc1)) a hc2
theorem fpm_app {M X:Mem} {fp:Option Nat} (h:∀ p,fp=some p→p<M.length):fpm (M++X) fp=fpm M fp:=by
 cases fp with
 | none=>rfl
 | some p=>simp only [fpm];rw [List.getElem?_append_left (h p rfl)]
theorem advanceF (hnd:ord.Nodup) (hi0:i0∈ws) (lis:Array Bool):∀ (rest pr:List Nat) (pv:Nat→AV) (L:List (Nat × Nat)) (M:Mem) (pd:Option Nat),ord=pr++rest→(∀ b,pd=some b→i0∈rest∧pv i0=.ptr b 0)→EOpsF P l ws anc i0 cs0 QQ rest (putsI l pv pr al) M L→(∀ x∈L,x.2<M.length) →
    (∀ p1 i p2,pr=p1++i::p2→i∉ws→lis[i]?=some false→∃ o fp,l[i]?=some o∧(∀ p,fp=some p→(i,p)∈L)∧DStep P l o (putsI l pv p1 al) (fpm M fp) (pv i)) →
    ∃ pr' rest' pv' L' M' pd',ord=pr'++rest'∧(rest'=[]∨∃ j r,rest'=j::r∧j∈ws∧(j=i0→pd'=none))∧EOpsF P l ws anc i0 cs0 QQ rest' (putsI l pv' pr' al) M' L'∧(∀ x∈L',x.2<M'.length)∧(∀ k∈pr,k∈pr')∧(∀ k∈pr',k∈ws→k∈pr∨(k=i0∧pd≠none))∧(∀ k∈pr,pv' k=pv k) ∧
     (∀ p1 i p2,pr'=p1++i::p2→i∉ws→lis[i]?=some false→∃ o fp,l[i]?=some o∧(∀ p,fp=some p→(i,p)∈L')∧DStep P l o (putsI l pv' p1 al) (fpm M' fp) (pv' i)) ∧
     (∀ b,pd'=some b→pd=some b∧i0∈rest')∧(pd≠none→pd'≠none∨i0∈pr')∧M'++pdM cs0 pd'=M++pdM cs0 pd∧pv' i0=pv i0:=by
 intro rest
 induction rest with
 | nil =>
  intro pr pv L M pd ho hp he hlL hs
  have:pd=none:=by
   cases pd with
   | none=>rfl
   | some b=>exact absurd (hp b rfl).1 (by simp)
  subst this
  exact ⟨pr,[],pv,L,M,none,ho,Or.inl V,he,hlL,fun k h=>h,fun k h _=>.inl h,fun _ _=>V,hs,fun b h=>by simp at h,fun h=>absurd V h,V,V⟩
 | cons i rest ih =>
  intro pr pv L M pd ho hp he hlL hs
  by_cases hw:i∈ws
  ·by_cases hz:i=i0
   ·cases hpd:pd with
    | none=>subst hpd;exact ⟨pr,i::rest,pv,L,M,none,ho,Or.inr ⟨i,rest,rfl,hw,fun _=>rfl⟩,he,hlL,fun k h=>h,fun k h _=>.inl h,fun _ _=>rfl,hs,fun b h=>by simp at h,fun h=>absurd rfl h,rfl,rfl⟩
    | some b =>
     subst hz
     subst hpd
     obtain ⟨o,ho',he⟩:=he
     rw [if_pos rfl] at he
     have he:=he b
     have hv:=(hp b rfl).2
     obtain ⟨pr2,rest2,pv2,L2,M2,pd2,q1,q2,q3,q0,q4,q5,q6,q7,q8,q9,q10,q11⟩:=ih (pr++[i]) pv L (M++[.loc b cs0]) none (by rw [ho];simp) (fun b h=>by simp at h) (by
      rw [putsI_app]
      simp only [putsI,ho',Option.bind_some,hv]
      exact he) (fun x hx=>by have:=hlL x hx;simp;omega) (by
      intro p1 j p2 hsp hj hl
      rcases List.eq_nil_or_concat p2 with rfl|⟨p2',y,rfl⟩
      ·have e2:pr=p1∧i=j:=by
        have:=List.append_inj' hsp rfl
        exact ⟨this.1,by simpa using this.2⟩
       obtain ⟨rfl,rfl⟩:=e2
       exact absurd hw hj
      have e3:pr=p1++j::p2':=by
       rw [List.concat_eq_append,show p1++j::(p2'++[y])=(p1++j::p2')++[y] from by simp] at hsp
       exact (List.append_inj' hsp V).1
      obtain ⟨o',fp',k1,k2,k3⟩:=hs p1 j p2' e3 hj hl
      exact ⟨o',fp',k1,k2,by rw [fpm_app (fun p hp=>hlL (j,p) (k2 p hp))];exact k3⟩)
     refine ⟨pr2,rest2,pv2,L2,M2,pd2,q1,q2,q3,q0,fun k hk=>q4 k (by simp [hk]),fun k hk hkw=>?_,fun k hk=>q6 k (by simp [hk]),q7,fun b' h=>by have:=(q8 b' h).1;simp at this,fun _=>.inr (q4 i (by simp)),?_,q11⟩
     ·rcases q5 k hk hkw with h|h
      ·rcases List.mem_append.1 h with h|h
       ·exact .inl h
       simp at h;subst h;exact .inr ⟨rfl,by simp⟩
      exact absurd V h.2
     rw [q10];simp [pdM]
   exact ⟨pr,i::rest,pv,L,M,pd,ho,Or.inr ⟨i,rest,V,hw,fun q=>absurd q hz⟩,he,hlL,fun k h=>h,fun k h _=>.inl h,fun _ _=>V,hs,fun b h=>⟨h,(hp b h).1⟩,fun h=>.inl h,V,V⟩
  have hz:i≠i0:=fun q=>hw (by rw [q];exact hi0)
  obtain ⟨o,ho',he⟩:=he
  rw [if_neg hz,if_neg (by simpa using hw)] at he
  obtain ⟨fp,v,h0,h1,h2⟩:=he
  have hip:i∉pr:=by
   intro h
   rw [ho,List.nodup_append] at hnd
   exact hnd.2.2 i h i (by simp) V
  let pv':Nat→AV:=fun x=>if x=i then v else pv x
  have hpv:∀ k∈pr,pv' k=pv k:=fun k hk=>if_neg (fun e=>hip (by rw [← e];exact hk))
  have hpi:pv' i=v:=if_pos rfl
  have hpz:pv' i0=pv i0:=if_neg (fun e=>hz e.symm)
  have heq:putsI l pv' pr al=putsI l pv pr al:=putsI_congr l pv' pv pr al hpv
  obtain ⟨pr2,rest2,pv2,L2,M2,pd2,q1,q2,q3,q0,q4,q5,q6,q7,q8,q9,q10,q11⟩:=ih (pr++[i]) pv' ((fp.toList.map fun k=>(i,k))++L) M pd (by rw [ho];simp) (fun b h=>by
   obtain ⟨h3,h4⟩:=hp b h
   rcases List.mem_cons.1 h3 with q|q
   ·exact absurd q.symm hz
   ·exact ⟨q,by rw [hpz,h4]⟩) (by
   rw [putsI_app,heq]
   simp only [putsI,ho',Option.bind_some,hpi]
   exact h2) (by
   intro x hx
   rcases List.mem_append.1 hx with hx|hx
   ·cases fp with
    | none=>simp at hx
    | some k =>
     simp at hx
     subst hx
     simpa [Nat.blt_eq] using h0
   ·exact hlL x hx) (by
   intro p1 j p2 hsp hj hl
   rcases List.eq_nil_or_concat p2 with rfl|⟨p2',y,rfl⟩
   ·have e2:pr=p1∧i=j:=by
     have:=List.append_inj' hsp rfl
     exact ⟨this.1,by simpa using this.2⟩
    obtain ⟨rfl,rfl⟩:=e2
    exact ⟨o,fp,ho',fun p hp=>by subst hp;simp,by rw [heq,hpi];exact h1⟩
   have e2:pr=p1++j::p2'∧i=y:=by
    rw [List.concat_eq_append,show p1++j::(p2'++[y])=(p1++j::p2')++[y] from by simp] at hsp
    have:=List.append_inj' hsp rfl
    exact ⟨this.1,by simpa using this.2⟩
   obtain ⟨e3,_⟩:=e2
   obtain ⟨o',fp',k1,k2,k3⟩:=hs p1 j p2' e3 hj hl
   refine ⟨o',fp',k1,fun p hp=>List.mem_append_right _ (k2 p hp),?_⟩
   rw [putsI_congr l pv' pv p1 al (fun k hk=>hpv k (by rw [e3];simp [hk])),hpv j (by rw [e3];simp)]
   exact k3)
  exact ⟨pr2,rest2,pv2,L2,M2,pd2,q1,q2,q3,q0,fun k hk=>q4 k (by simp [hk]),fun k hk hkw=>by
   rcases q5 k hk hkw with h|h
   ·rcases List.mem_append.1 h with h|h
    ·exact .inl h
    simp at h;subst h;exact absurd hkw hw
   exact .inr h,fun k hk=>(q6 k (by simp [hk])).trans (hpv k hk),q7,q8,q9,q10,by rw [q11,hpz]⟩

theorem seesF {lis:Array Bool} {a:Act} {pv:Nat→AV} (hfl:FlowEF n l ord ws anc i0) (hsize:lis.size=l.length) (hclosed:∀ (k:Nat) (o:Oper),l[k]?=some o→lis[k]?=some true→∀ j∈bindsOn o,lis[j]?=some true) {F':EH}
    (h4:∀ t v,al.lookup t=some v→(∀ (j:Nat) (o:Oper),l[j]?=some o→o.dst=some t→lis[j]?=some false)→t<n∧Rel F' v (a.tmps.getD t undef))
    (h5:∀ (j:Nat) (o:Oper) (t:Tmp),l[j]?=some o→o.dst=some t→lis[j]?=some true→t<n∧Rel F' (pv j) (a.tmps.getD t undef))
    {i:Nat} {o:Oper} (ho:l[i]?=some o) (hni:lis[i]?=some false) (hrd:∀ j∈bindsOn o,lis[j]?=some true) {p1 p2:List Nat} (hsp:ord=p1++i::p2) :
    ∀ t∈Oper.sees l o,∀ v,(putsI l pv p1 al).lookup t=some v→t<n∧Rel F' v (a.tmps.getD t undef):=by
 intro t ht v hv
 have hanc:=closed_ancF hfl hclosed i o ho hrd
 rcases putsI_lookup l pv p1 al t with ⟨j,p,k1,k2,k3,k4⟩|⟨k1,k2⟩
 ·rw [k4] at hv
  simp at hv
  subst hv
  have hb:=(befo_split hfl.nodup hsp (k:=j)).1 k1
  rcases hfl.see i o j p t ho k2 k3 ht with q|q|q
  ·subst q;exfalso
   have:=hfl.nodup
   rw [hsp,List.nodup_append] at this
   exact this.2.2 j k1 j (by simp) V
  ·exact h5 j p t k2 k3 (hanc j q.2)
  rw [hb] at q;simp at q
 rw [k2] at hv
 refine h4 t v hv (fun j p hj hd=>?_)
 have hjl:j<lis.size:=by
  rw [hsize]
  rcases Nat.lt_or_ge j l.length with q|q
  ·exact q
  rw [List.getElem?_eq_none q] at hj;simp at hj
 rcases hfl.see i o j p t ho hj hd ht with q|q|q
 ·subst q;exact hni
 ·exfalso
  have hjo:=hfl.mem j (by rw [← hsize];exact hjl)
  rw [hsp] at hjo
  rcases List.mem_append.1 hjo with r|r
  ·exact k1 j p r hj hd
  rcases List.mem_cons.1 r with r|r
  ·subst r;rw [befo] at q;simp at q
  have:=(befo_split hfl.nodup hsp (k:=j)).2 r
  rw [this] at q;simp at q
 rcases lis_ft hjl with r|r
 ·have:=closed_ancF hfl hclosed j p hj (hclosed j p hj r) i q.2
  rw [hni] at this;simp at this
 exact r
theorem slots_nextF (hfl:FlowEF n l ord ws anc i0) {lis:Array Bool} {a:Act} {F1 F2:EH} {i:Nat} {o:Oper} {pv pv':Nat→AV} {u:Value} (ho:l[i]?=some o) (hni:lis[i]?=some false) (htm:a.tmps.size=n) (hF2:Ext F1 F2) (hr:Rel F2 (pv' i) u) (hpv:∀ k,lis[k]?=some true→pv' k=pv k)
    (h4:∀ t v,al.lookup t=some v→(∀ (j:Nat) (o:Oper),l[j]?=some o→o.dst=some t→lis[j]?=some false)→t<n∧Rel F1 v (a.tmps.getD t undef))
    (h5:∀ (j:Nat) (o:Oper) (t:Tmp),l[j]?=some o→o.dst=some t→lis[j]?=some true→t<n∧Rel F1 (pv j) (a.tmps.getD t undef)) :
    (∀ t v,al.lookup t=some v→(∀ (j:Nat) (o:Oper),l[j]?=some o→o.dst=some t→(lis.setIfInBounds i true)[j]?=some false)→t<n∧Rel F2 v ((a.put o.dst u).tmps.getD t undef)) ∧
    (∀ (j:Nat) (o':Oper) (t:Tmp),l[j]?=some o'→o'.dst=some t→(lis.setIfInBounds i true)[j]?=some true→t<n∧Rel F2 (pv' j) ((a.put o.dst u).tmps.getD t undef)):=by
 have hdst:=hfl.dst i o ho
 have hget:∀ t,o.dst≠some t→(a.put o.dst u).tmps.getD t undef=a.tmps.getD t undef:=by
  intro t ht
  cases hd:o.dst with
  | none=>rfl
  | some d =>
   simp only [Act.put,Array.getD_eq_getD_getElem?,Array.getElem?_setIfInBounds]
   rw [if_neg (fun e=>ht (by rw [hd,e]))]
 constructor
 ·intro t v ht hno
  have hne:o.dst≠some t:=by
   intro q
   have:=hno i o ho q
   rw [Xa hni,if_pos rfl] at this;simp at this
  rw [hget t hne]
  obtain ⟨q1,q2⟩:=h4 t v ht (fun j p hj hd=>by
   have:=hno j p hj hd
   rw [Xa hni] at this
   split at this
   ·simp at this
   exact this)
  exact ⟨q1,q2.mono hF2⟩
 intro j p t hj hd hlj
 by_cases e:i=j
 ·subst e
  rw [ho] at hj;simp at hj;subst hj
  rw [hd] at hdst ⊢
  simp at hdst
  refine ⟨hdst,?_⟩
  have:t<a.tmps.size:=by rw [htm];exact hdst
  simpa [Act.put,Array.getD,this] using hr
 rw [Xa hni,if_neg e] at hlj
 have hne:o.dst≠some t:=by
  intro q
  exact e (hfl.once j p i o t hj ho hd q)
 rw [hget t hne,hpv j hlj]
 obtain ⟨q1,q2⟩:=h5 j p t hj hd hlj
 exact ⟨q1,q2.mono hF2⟩

theorem region_flowEF {ro:Option Nat} {ds:List Deferred} {B:Nat} {F:EH} {Mf:Mem} {w0:World} {Q:Exit→Act→World→Prop} (hfl:FlowEF n l ord ws anc i0) (hfree:∀ o,l[i0]?=some o→o.guard=none∧OpT P o [] [] (fun v M'=>∃ b,v=.ptr b 0∧M'=[.loc b cs0]))
    (hend:∀ a w pr pv M L,AtF P n B F Mf w0 ds l ord ws anc i0 cs0 QQ al (Array.replicate l.length true) a w pr [] pv M L none→Q .normal a w) :
    ∀ (fuel:Nat) (lis:Array Bool) (a:Act) (w:World) (pr rest:List Nat) (pv:Nat→AV) (M:Mem) (L:List (Nat × Nat)) (pd:Option Nat),((List.range l.length).filter (fun j => !(lis[j]? == some true))).length≤fuel→AtF P n B F Mf w0 ds l ord ws anc i0 cs0 QQ al lis a w pr rest pv M L pd→wpAnyIn (RF ro) 0 P .any l.toArray Q fuel lis a w:=by
 have alltrue:∀ (lis:Array Bool) (a:Act) (w:World) (pr rest:List Nat) (pv:Nat→AV) (M:Mem) (L:List (Nat × Nat)) (pd:Option Nat),AtF P n B F Mf w0 ds l ord ws anc i0 cs0 QQ al lis a w pr rest pv M L pd→Region.ready .any l.toArray lis=[]→Q .normal a w:=by
  intro lis a w pr rest pv M L pd h hrd
  have hall:∀ i,i<l.length→lis[i]?=some true:=by
   intro i
   induction i using Nat.strongRecOn with
   | _ i ih =>
    intro hil
    rcases lis_ft (lis:=lis) (j:=i) (by rw [h.size];exact hil) with q|q
    ·exact q
    exfalso
    have:i∈Region.ready .any l.toArray lis:=(ready_iff h.size).2 ⟨l[i],List.getElem?_eq_getElem hil,q,fun j hj=>by
     have:=hfl.back i l[i] (List.getElem?_eq_getElem hil) j hj
     exact ih j this (by omega)⟩
    rw [hrd] at this;simp at this
  have e:lis=Array.replicate l.length true:=by
   apply Array.ext (by simpa using h.size)
   intro i h1 h2
   have:=hall i (by rw [← h.size];exact h1)
   rw [Array.getElem?_eq_getElem h1] at this
   simpa using this
  have hre:rest=[]:=by
   rcases h.next with q|⟨j,r,q,_,qz⟩
   ·exact q
   exfalso
   have hj:j∈ord:=by rw [h.ord,q];simp
   rcases h.done j (hall j (hfl.lt j hj)) with hjp|hjp
   ·have:=hfl.nodup
    rw [h.ord,q,List.nodup_append] at this
    exact this.2.2 j hjp j (by simp) V
   exact hjp.2 (qz hjp.1)
  subst hre
  have hpd:pd=none:=by
   cases hp:pd with
   | none=>rfl
   | some b=>exact absurd (h.pnd b hp).1 (by simp)
  subst hpd
  rw [e] at h
  exact hend a w pr pv M L h
 intro fuel
 induction fuel with
 | zero =>
  intro lis a w pr rest pv M L pd hf h
  have hr:Region.ready .any l.toArray lis=[]:=by
   cases hr:Region.ready .any l.toArray lis with
   | nil=>rfl
   | cons i r =>
    exfalso
    obtain ⟨o,ho,h1,_⟩:=(ready_iff h.size).1 (by rw [hr];simp:i∈Region.ready .any l.toArray lis)
    have hil:i<l.length:=by
     rcases Nat.lt_or_ge i l.length with q|q
     ·exact q
     rw [List.getElem?_eq_none q] at ho;simp at ho
    have:i∈(List.range l.length).filter (fun j => !(lis[j]? == some true)):=List.mem_filter.2 ⟨by simpa using hil,by simp [h1]⟩
    have:=List.length_pos_of_mem this
    omega
  exact ⟨hr,alltrue lis a w pr rest pv M L pd h hr⟩
 | succ fuel ih =>
  intro lis a w pr rest pv M L pd hf h
  refine ⟨alltrue lis a w pr rest pv M L pd h,fun i hi=>?_⟩
  obtain ⟨o,ho,hni,hrd⟩:=(ready_iff h.size).1 hi
  have hil:i<l.length:=by
   rcases Nat.lt_or_ge i l.length with q|q
   ·exact q
   rw [List.getElem?_eq_none q] at ho;simp at ho
  have hcount:((List.range l.length).filter (fun j => !((lis.setIfInBounds i true)[j]? == some true))).length≤fuel:=by
   have h1:=count_set l.length (fun j=>lis[j]? == some true) i hil (by simp [hni])
   have h2:(List.range l.length).filter (fun j => !((lis.setIfInBounds i true)[j]? == some true))=(List.range l.length).filter (fun j => !((lis[j]? == some true) || j == i)):=by
    apply List.filter_congr
    intro j hj
    rw [Xa hni]
    by_cases e:i=j
    ·subst e
     rw [if_pos rfl];simp
    rw [if_neg e]
    have:(j == i)=false:=by simp;omega
    simp [this]
   rw [h2]
   omega
  have hanc:=closed_ancF hfl h.closed i o ho hrd
  obtain ⟨F0,m1,m2,m3,m4,m5⟩:=h.mem
  have hclosed:∀ (k:Nat) (o':Oper),l[k]?=some o'→(lis.setIfInBounds i true)[k]?=some true→∀ j∈bindsOn o',(lis.setIfInBounds i true)[j]?=some true:=by
   intro k p hk hlk j hj
   rw [Xa hni] at hlk ⊢
   by_cases e:i=k
   ·subst e
    rw [ho] at hk;simp at hk;subst hk
    rw [hrd j hj];split <;> rfl
   rw [if_neg e] at hlk
   rw [h.closed k p hk hlk j hj];split <;> rfl
  have hone:∀ k:Nat,(lis.setIfInBounds i true)[k]?=some false→lis[k]?=some false:=by
   intro k hk
   rw [Xa hni] at hk
   split at hk
   ·simp at hk
   exact hk
  have hio:i∈ord:=hfl.mem i hil
  by_cases hearly:i=i0∧∃ j r,rest=j::r∧j≠i0
  ·-- the variable,before its place
   obtain ⟨rfl,j,r,hre,hji⟩:=hearly
   have hpd:pd=none:=by
    cases hp:pd with
    | none=>rfl
    | some b=>have:=(h.pnd b hp).2.1;rw [hni] at this;simp at this
   subst hpd
   have hip:i∉pr:=fun hh=>by have:=h.wild i hh hfl.free;rw [hni] at this;simp at this
   obtain ⟨hg,hop⟩:=hfree o ho
   unfold wpOpIn
   simp only [List.getElem?_toArray,ho]
   rw [if_pos (by simp [Region.wanted,hg])]
   refine wp_exits (Oper.wpIn_mono ?_ (hop n B F0 (M++Mf) a w (by simpa [pdM] using m2) ⟨h.tmps,fun t v e=>by simp at e⟩ ro))
   rintro a' w' ⟨u,v,M',F2,rfl,⟨b,rfl,rfl⟩,hr,hF2,hi2,hb2⟩
   let pv':Nat→AV:=fun x=>if x=i then .ptr b 0 else pv x
   have hpv:∀ k∈pr,pv' k=pv k:=fun k hk=>if_neg (fun e=>hip (by rw [← e];exact hk))
   have hpi:pv' i=.ptr b 0:=if_pos rfl
   have heq:∀ p1,(∀ k∈p1,k∈pr)→putsI l pv' p1 al=putsI l pv p1 al:=fun p1 hp=>putsI_congr l pv' pv p1 al (fun k hk=>hpv k (hp k hk))
   have hpvl:∀ k,lis[k]?=some true→pv' k=pv k:=fun k hk=>by
    rcases h.done k hk with q|q
    ·exact hpv k q
    exact absurd V q.2
   obtain ⟨s1,s2⟩:=slots_nextF (al:=al) hfl ho hni h.tmps hF2 (pv:=pv) (pv':=pv') (by rw [hpi];exact hr) hpvl m4 m5
   refine ih _ _ _ pr rest pv' M L (some b) hcount ⟨by simpa using h.size,hclosed,by cases o.dst <;> exact h.defers,by cases o.dst <;> simp [Act.put,h.tmps],h.ord,fun k hk=>?_,fun k hk hkw=>?_,fun b' hb'=>?_,.inr ⟨j,r,hre,?_,fun e=>absurd e hji⟩,?_,h.lenL,?_,F2,m1.trans hF2,?_,m3.trans hb2,s1,s2⟩
   ·rw [Xa hni] at hk
    split at hk
    ·rename_i e;subst e;exact .inr ⟨rfl,by simp⟩
    rcases h.done k hk with q|q
    ·exact .inl q
    exact absurd V q.2
   ·rw [Xa hni,h.wild k hk hkw];split <;> rfl
   ·simp only [Option.some.injEq] at hb'
    subst hb'
    refine ⟨?_,by rw [Xa hni,if_pos rfl],hpi⟩
    have:=hio
    rw [h.ord] at this
    exact (List.mem_append.1 this).resolve_left hip
   ·rcases h.next with q|⟨j',r',q,hq,_⟩
    ·rw [hre] at q;simp at q
    rw [hre] at q;simp at q;rw [q.1];exact hq
   ·rw [heq pr (fun _ hk=>hk)];exact h.eops
   ·intro p1 x p2 hsp hx hl
    obtain ⟨ox,fp,k1,k2,k3⟩:=h.steps p1 x p2 hsp hx (hone x hl)
    refine ⟨ox,fp,k1,k2,?_⟩
    rw [heq p1 (fun k hk=>by rw [hsp];simp [hk]),hpv x (by rw [hsp];simp)];exact k3
   refine hi2.perm ?_
   have:(Res.loc b cs0::(M++Mf)).Perm (M++Res.loc b cs0::Mf):=List.perm_middle.symm
   simpa [pdM] using this
  by_cases hiw:i∈ws
  ·-- an operation that writes: it is the next
   have hrest:∃ rest',rest=i::rest':=by
    rcases h.next with q|⟨j,r,q,hjw,qz⟩
    ·exfalso
     subst q
     have:i∈pr:=by have:=h.ord;simp at this;rw [← this];exact hio
     have:=h.wild i this hiw
     rw [hni] at this;simp at this
    by_cases e:j=i
    ·subst e;exact ⟨r,q⟩
    exfalso
    have hjl:j<l.length:=hfl.lt j (by rw [h.ord,q];simp)
    have hsp:ord=pr++j::r:=by rw [h.ord,q]
    have hir:i∈r:=by
     have:=hio
     rw [hsp] at this
     rcases List.mem_append.1 this with k|k
     ·have:=h.wild i k hiw
      rw [hni] at this;simp at this
     rcases List.mem_cons.1 k with k|k
     ·exact absurd k.symm e
     exact k
    have hb:=(befo_split hfl.nodup hsp (k:=i)).2 hir
    rcases hfl.wild j hjw i hil with k|k|k|k
    ·exact e k.symm
    ·rw [hb] at k;simp at k
    ·have:=hanc j k
     rcases h.done j this with this|this
     ·have hnd:=hfl.nodup
      rw [hsp,List.nodup_append] at hnd
      exact hnd.2.2 j this j (by simp) V
     exact this.2 (qz this.1)
    exact hearly ⟨k,j,r,q,fun e2=>e (by rw [e2,k])⟩
   obtain ⟨rest',rfl⟩:=hrest
   obtain ⟨o',ho',he⟩:=h.eops
   rw [ho] at ho';simp at ho';subst ho'
   have hsp:ord=pr++i::rest':=h.ord
   have hsees:=seesF (pv:=pv) hfl h.size h.closed m4 m5 ho hni hrd hsp
   have hslots:Slots n F0 ((putsI l pv pr al).only (Oper.tmps o)) a.tmps:=by
    refine ⟨h.tmps,fun t v' e=>?_⟩
    rw [only_lookup] at e
    split at e
    ·rename_i hc
     exact hsees t (by unfold Oper.sees;exact List.mem_append_left _ (by simpa using hc)) v' e
    simp at e
   have hip:i∉pr:=by
    intro hh
    have:=hfl.nodup
    rw [hsp,List.nodup_append] at this
    exact this.2.2 i hh i (by simp) V
   have hpd:∀ b,pd=some b→i≠i0∧i0∈rest':=fun b hb=>by
    obtain ⟨h1,h2,_⟩:=h.pnd b hb
    have hne:i≠i0:=fun e=>by rw [← e,hni] at h2;simp at h2
    exact ⟨hne,(List.mem_cons.1 h1).resolve_left (fun e=>hne e.symm)⟩
   have hpn:pd≠none→i≠i0:=fun hp=>by
    cases hq:pd with
    | none=>exact absurd hq hp
    | some b=>exact (hpd b hq).1
   obtain ⟨MF,hMF⟩:∃ MF,pdM cs0 pd++Mf=MF:=⟨_,rfl⟩
   rw [hMF] at m2
   have fin:∀ (u:Value) (v:AV) (F2:EH) (w':World) (M2:Mem),Rel F2 v u→Ext F0 F2→Inv B F2 (M2++MF) w'→Below B w w'→∀ L':List (Nat × Nat),EOpsF P l ws anc i0 cs0 QQ rest' ((putsI l pv pr al).put o.dst v) M2 L'→(∀ x∈L',x.2<M2.length) →
       (∀ i' fp,lis[i']?=some false→(∀ p,fp=some p→(i',p)∈L)→(fpm M2 fp=fpm M fp∧∀ p,fp=some p→(i',p)∈L')∨i'∈anc.getD i []) →
       wpAnyIn (RF ro) 0 P .any l.toArray Q fuel (lis.setIfInBounds i true) (a.put o.dst u) w':=by
    intro u v F2 w' M2 hr hF2 hi2 hb2 L' heo hml hkeep
    let pv':Nat→AV:=fun x=>if x=i then v else pv x
    have hpv:∀ k∈pr,pv' k=pv k:=fun k hk=>if_neg (fun e=>hip (by rw [← e];exact hk))
    have hpi:pv' i=v:=if_pos rfl
    have hpz:pd≠none→pv' i0=pv i0:=fun hp=>if_neg (fun e=>hpn hp e.symm)
    have heq:putsI l pv' pr al=putsI l pv pr al:=putsI_congr l pv' pv pr al hpv
    obtain ⟨pr2,rest2,pv2,L2,M3,pd3,q1,q2,q3,q0,q4,q5,q6,q7,q8,q9,q10,q11⟩:=advanceF (P:=P) (QQ:=QQ) (al:=al) (anc:=anc) (cs0:=cs0) hfl.nodup hfl.free (lis.setIfInBounds i true) rest' (pr++[i]) pv' L' M2 pd (by rw [hsp];simp) (fun b hb=>⟨(hpd b hb).2,by rw [hpz (by rw [hb];simp)];exact (h.pnd b hb).2.2⟩) (by
     rw [putsI_app,heq]
     simp only [putsI,ho,Option.bind_some,hpi]
     exact heo) hml (by
     intro p1 j p2 hspj hj hl
     have hl':=hone j hl
     rcases List.eq_nil_or_concat p2 with rfl|⟨p2',y,rfl⟩
     ·have e2:pr=p1∧i=j:=by
       have:=List.append_inj' hspj rfl
       exact ⟨this.1,by simpa using this.2⟩
      obtain ⟨rfl,rfl⟩:=e2
      exact absurd hiw hj
     have e3:pr=p1++j::p2':=by
      rw [List.concat_eq_append,show p1++j::(p2'++[y])=(p1++j::p2')++[y] from by simp] at hspj
      exact (List.append_inj' hspj V).1
     obtain ⟨oj,fp,k1,k2,k3⟩:=h.steps p1 j p2' e3 hj hl'
     rcases hkeep j fp hl' k2 with r|r
     ·refine ⟨oj,fp,k1,r.2,?_⟩
      rw [putsI_congr l pv' pv p1 al (fun k hk=>hpv k (by rw [e3];simp [hk])),hpv j (by rw [e3];simp)]
      rw [r.1];exact k3
     have:=hanc j r
     rw [hl'] at this;simp at this)
    have hpvl:∀ k,lis[k]?=some true→pv2 k=pv k:=fun k hk=>by
     rcases h.done k hk with this|this
     ·rw [q6 k (by simp [this]),hpv k this]
     rw [this.1,q11,hpz this.2]
    have hpv2i:pv2 i=v:=by rw [q6 i (by simp),hpi]
    obtain ⟨s1,s2⟩:=slots_nextF (al:=al) hfl ho hni h.tmps hF2 (pv:=pv) (pv':=pv2) (by rw [hpv2i];exact hr) hpvl m4 m5
    have hl0:pd≠none→(lis.setIfInBounds i true)[i0]?=some true:=fun hp=>by
     cases hq:pd with
     | none=>exact absurd hq hp
     | some b=>rw [Xa hni,(h.pnd b hq).2.1];split <;> rfl
    refine ih _ _ _ pr2 rest2 pv2 M3 L2 pd3 hcount ⟨by simpa using h.size,hclosed,by cases o.dst <;> exact h.defers,by cases o.dst <;> simp [Act.put,h.tmps],q1,fun k hk=>?_,fun k hk hkw=>?_,fun b hb=>?_,q2,q3,q0,q7,F2,m1.trans hF2,?_,m3.trans hb2,s1,s2⟩
    ·rw [Xa hni] at hk
     split at hk
     ·rename_i e;subst e;exact .inl (q4 _ (by simp))
     rcases h.done k hk with this|this
     ·exact .inl (q4 k (by simp [this]))
     rcases q9 this.2 with r|r
     ·exact .inr ⟨this.1,r⟩
     rw [this.1];exact .inl r
    ·rcases q5 k hk hkw with this|this
     ·rw [Xa hni]
      rcases List.mem_append.1 this with r|r
      ·rw [h.wild k r hkw];split <;> rfl
      simp at r;rw [if_pos r.symm]
     rw [this.1];exact hl0 this.2
    ·obtain ⟨b1,b2⟩:=q8 b hb
     exact ⟨b2,hl0 (by rw [b1];simp),by rw [q11,hpz (by rw [b1];simp)];exact (h.pnd b b1).2.2⟩
    rw [← List.append_assoc,q10,List.append_assoc,hMF];exact hi2
   unfold wpOpIn
   simp only [List.getElem?_toArray,ho]
   by_cases hz:i=i0
   ·rw [if_pos hz] at he
    have hpd0:pd=none:=by
     cases hq:pd with
     | none=>rfl
     | some b=>exact absurd hz (hpd b hq).1
    obtain ⟨hg,hop⟩:=hfree o (by rw [← hz];exact ho)
    rw [if_pos (by simp [Region.wanted,hg])]
    refine wp_exits (Oper.wpIn_mono ?_ (hop n B F0 (M++MF) a w (by simpa using m2) ⟨h.tmps,fun t v e=>by simp at e⟩ ro))
    rintro a' w' ⟨u,v,M',F2,rfl,⟨b,rfl,rfl⟩,hr,hF2,hi2,hb2⟩
    refine fin u (.ptr b 0) F2 w' (M++[.loc b cs0]) hr hF2 (hi2.perm ?_) hb2 L (he b) (fun x hx=>by have:=h.lenL x hx;simp;omega) (fun i' fp hl' hfp=>.inl ⟨fpm_app (fun p hp=>h.lenL (i',p) (hfp p hp)),hfp⟩)
    have:(Res.loc b cs0::(M++MF)).Perm (M++Res.loc b cs0::MF):=List.perm_middle.symm
    simpa using this
   rw [if_neg hz,if_pos (by simpa using hiw)] at he
   obtain ⟨hg,he⟩:=he
   rw [if_pos (by simp [Region.wanted,hg])]
   rcases he with ⟨k,r,hk,hL,hop⟩|hop
   ·have hperm:(M++MF).Perm ([r]++(M.eraseIdx k++MF)):=by
     have:=(perm_at hk).append_right MF
     simpa using this
    have hkl:k<M.length:=get_lt hk
    refine wp_exits (Oper.wpIn_mono ?_ (hop n B F0 (M.eraseIdx k++MF) a w (m2.perm hperm) hslots ro))
    rintro a' w' ⟨u,v,M',F2,rfl,⟨r',rfl,heo⟩,hr,hF2,hi2,hb2⟩
    refine fin u v F2 w' (M.set k r') hr hF2 (hi2.perm ?_) hb2 L heo (by simpa using h.lenL) (fun i' fp hl' hfp=>?_)
    ·have:=((perm_set r' hkl).append_right MF).symm
     simpa using this
    cases fp with
    | none=>exact Or.inl ⟨rfl,hfp⟩
    | some p =>
     by_cases e:p=k
     ·right
      have:=List.all_eq_true.1 hL (i',p) (hfp p rfl)
      simpa [e] using this
     left
     refine ⟨?_,hfp⟩
     simp only [fpm]
     rw [List.getElem?_set_ne (fun q=>e q.symm)]
   refine wp_exits (Oper.wpIn_mono ?_ (hop n B F0 (M++MF) a w (by simpa using m2) hslots ro))
   rintro a' w' ⟨u,v,M',F2,rfl,heo,hr,hF2,hi2,hb2⟩
   refine fin u v F2 w' (M++M') hr hF2 (hi2.perm ?_) hb2 L heo (fun x hx=>by have:=h.lenL x hx;simp;omega) (fun i' fp hl' hfp=>?_)
   ·rw [List.append_assoc]
    exact (List.perm_append_comm_assoc _ _ _)
   exact .inl ⟨fpm_app (fun p hp=>h.lenL (i',p) (hfp p hp)),hfp⟩
  -- an operation that does not write: it has been gone through
  obtain ⟨MF,hMF⟩:∃ MF,pdM cs0 pd++Mf=MF:=⟨_,rfl⟩
  rw [hMF] at m2
  have hiz:i≠i0:=fun e=>hiw (by rw [e];exact hfl.free)
  have hipr:i∈pr:=by
   have:=hio
   rw [h.ord] at this
   rcases List.mem_append.1 this with k|k
   ·exact k
   exfalso
   rcases h.next with q|⟨j,r,q,hjw,qz⟩
   ·rw [q] at k;simp at k
   have hsp:ord=pr++j::r:=by rw [h.ord,q]
   rw [q] at k
   rcases List.mem_cons.1 k with e|e
   ·subst e;exact hiw hjw
   have hb:=(befo_split hfl.nodup hsp (k:=i)).2 e
   rcases hfl.wild j hjw i hil with k|k|k|k
   ·subst k;exact hiw hjw
   ·rw [hb] at k;simp at k
   ·rcases h.done j (hanc j k) with this|this
    ·have hnd:=hfl.nodup
     rw [hsp,List.nodup_append] at hnd
     exact hnd.2.2 j this j (by simp) V
    exact this.2 (qz this.1)
   exact hiz k
  obtain ⟨p1,p2,hp⟩:=List.append_of_mem hipr
  obtain ⟨o',fp,ho',hfp,hst⟩:=h.steps p1 i p2 hp hiw hni
  rw [ho] at ho';simp at ho';subst ho'
  have hsp:ord=p1++i::(p2++rest):=by rw [h.ord,hp];simp
  have hsees:=seesF (pv:=pv) hfl h.size h.closed m4 m5 ho hni hrd hsp
  have hslots:Slots n F0 ((putsI l pv p1 al).only (Oper.tmps o)) a.tmps:=by
   refine ⟨h.tmps,fun t v' e=>?_⟩
   rw [only_lookup] at e
   split at e
   ·rename_i hc
    exact hsees t (by unfold Oper.sees;exact List.mem_append_left _ (by simpa using hc)) v' e
   simp at e
  have hperm:∃ Mr,(M++MF).Perm (fpm M fp++(Mr++MF))∧M.Perm (fpm M fp++Mr):=by
   cases fp with
   | none=>exact ⟨M,by simp [fpm],by simp [fpm]⟩
   | some k =>
    cases hk:M[k]? with
    | none=>exact ⟨M,by simp [fpm,hk],by simp [fpm,hk]⟩
    | some r =>
     have:=perm_at hk
     refine ⟨M.eraseIdx k,?_,by simpa [fpm,hk] using this⟩
     have:=this.append_right MF
     simpa [fpm,hk] using this
  obtain ⟨Mr,hp1,hp2⟩:=hperm
  have next:∀ (u:Value) (F2:EH) (w':World),Rel F2 (pv i) u→Ext F0 F2→Inv B F2 (M++MF) w'→Below B w w'→wpAnyIn (RF ro) 0 P .any l.toArray Q fuel (lis.setIfInBounds i true) (a.put o.dst u) w':=by
   intro u F2 w' hr hF2 hi2 hb2
   obtain ⟨s1,s2⟩:=slots_nextF (al:=al) hfl ho hni h.tmps hF2 (pv:=pv) (pv':=pv) hr (fun _ _=>rfl) m4 m5
   refine ih _ _ _ pr rest pv M L pd hcount ⟨by simpa using h.size,hclosed,by cases o.dst <;> exact h.defers,by cases o.dst <;> simp [Act.put,h.tmps],h.ord,fun k hk=>?_,fun k hk hkw=>?_,fun b hb=>?_,h.next,h.eops,h.lenL,fun q1 j q2 hq hj hl=>h.steps q1 j q2 hq hj (hone j hl),F2,m1.trans hF2,by rw [hMF];exact hi2,m3.trans hb2,s1,s2⟩
   ·rw [Xa hni] at hk
    split at hk
    ·rename_i e;subst e;exact .inl hipr
    exact h.done k hk
   ·rw [Xa hni,h.wild k hk hkw];split <;> rfl
   obtain ⟨b1,b2,b3⟩:=h.pnd b hb
   exact ⟨b1,by rw [Xa hni,b2];split <;> rfl,b3⟩
  have done:∀ (o':Oper),o'.dst=o.dst→OpT P o' ((putsI l pv p1 al).only (Oper.tmps o)) (fpm M fp) (fun v' M'=>v'=pv i∧M'=fpm M fp)→o'.wpIn (RF ro) 0 P a w (wpAnyIn (RF ro) 0 P .any l.toArray Q fuel (lis.setIfInBounds i true)) Q:=by
   intro o' hd' hop
   refine wp_exits (Oper.wpIn_mono ?_ (hop n B F0 (Mr++MF) a w (m2.perm hp1) hslots ro))
   rintro a' w' ⟨u,v',M',F2,rfl,⟨rfl,rfl⟩,hr,hF2,hi2,hb2⟩
   rw [hd']
   exact next u F2 w' hr hF2 (hi2.perm hp1.symm) hb2
  have skip:pv i=.val undef→wpAnyIn (RF ro) 0 P .any l.toArray Q fuel (lis.setIfInBounds i true) (a.put o.dst undef) w:=by
   intro e
   exact next undef F0 w (by rw [e];exact .val _) (Ext.refl _) m2 (Below.refl _ _)
  unfold wpOpIn
  simp only [List.getElem?_toArray,ho]
  unfold DStep at hst
  cases hg:o.guard with
  | none =>
   rw [hg] at hst
   rw [if_pos (by simp [Region.wanted,hg])]
   exact done o V hst
  | some gb =>
   obtain ⟨g,b⟩:=gb
   rw [hg] at hst
   obtain ⟨t,ht,hst⟩:=hst
   have htin:t∈Oper.sees l o:=by
    unfold Oper.sees
    rw [hg]
    exact List.mem_append_right _ (by simp [ht])
   have slot:∀ x,(putsI l pv p1 al).lookup t=some (.val x)→a.tmps[t]?=some x:=by
    intro x hx
    obtain ⟨q1,q2⟩:=hsees t htin _ hx
    have h4:t<a.tmps.size:=by rw [h.tmps];exact q1
    generalize hy:a.tmps.getD t undef=y at q2
    cases q2
    rw [Array.getElem?_eq_getElem h4]
    simpa [Array.getD,h4] using hy
   have want:∀ x,a.tmps[t]?=some x→Region.wanted o (yielded l.toArray a.tmps)=((match some x with|some (.bool b)=>some b|_=>none) == some b):=by
    intro x hx
    simp only [Region.wanted,hg,yielded,List.getElem?_toArray,ht,Option.bind_some,hx]
    cases x <;> rfl
   rcases hst with ⟨h1,h2⟩|⟨h1,h2⟩
   ·rw [if_pos (by rw [want _ (slot _ h1)];simp)]
    exact done { o with guard:=none } rfl h2
   rcases h1 with h1|h1
   ·rw [if_neg (by rw [want _ (slot _ h1)];cases b <;> simp)]
    exact ⟨fun _ _=>trivial,skip h2⟩
   rw [if_neg (by rw [want _ (slot _ h1)];simp [undef])]
   exact ⟨fun _ _=>trivial,skip h2⟩
theorem ACode.drawnEF {ro:Option Nat} {Q:Exit→Sl→Mem→Prop} {id:Nat} {M:Mem} (ord ws:List Nat) (anc:List (List Nat)) (i0:Nat) {cs0:List AV} {o0:Oper} {t:TypeId} {z:Value} (hmix:P.follows .mixedOrders=true) (hfl:flowEF n l ord ws anc i0=true) (h0:l[i0]?=some o0) (hg0:o0.guard=none) (hop:o0.op=.alloc t) (hz:tyZero P t=some z) (hf:(AV.val z).flat=true) (hc:(AV.val z).cells=cs0) (h:EOpsF P l ws anc i0 cs0 (Q .normal) ord al M []):ACode ro P n (.region id l.toArray true) Q al M:=by
 intro B F Mf a w hi hs
 have hF:=FlowEF.of hfl
 have hfree:∀ o,l[i0]?=some o→o.guard=none∧OpT P o [] [] (fun v M'=>∃ b,v=.ptr b 0∧M'=[.loc b cs0]):=fun o ho=>by
  rw [h0] at ho;simp at ho;subst ho
  exact ⟨hg0,Yk (M:=[]) hop hz hf hc (fun b=>⟨b,V,V⟩)⟩
 obtain ⟨pr,rest,pv,L,M',pd,q1,q2,q3,q0,_,q5,_,q7,q8,_,q10,_⟩:=advanceF (P:=P) (QQ:=Q .normal) (al:=al) (anc:=anc) (l:=l) (ws:=ws) (cs0:=cs0) hF.nodup hF.free (Array.replicate l.length false) ord [] (fun _=>.val undef) [] M none rfl (fun b hb=>by simp at hb) h (by simp) (by intro p1 i p2 e;simp at e)
 have hpd:pd=none:=by
  cases hq:pd with
  | none=>rfl
  | some b=>have:=(q8 b hq).1;simp at this
 subst hpd
 simp only [pdM,List.append_nil] at q10
 subst q10
 refine wpIn_region_any hmix (region_flowEF (ds:=a.defers) (P:=P) (QQ:=Q .normal) (al:=al) (B:=B) (F:=F) (Mf:=Mf) (w0:=w) (cs0:=cs0) hF hfree ?_ _ _ _ _ pr rest pv M' L none ?_ ?_)
 ·intro a' w' pr pv M L hat
  obtain ⟨F',m1,m2,m3,m4,m5⟩:=hat.mem
  have he:=hat.eops
  refine ⟨[],F',_,M,he,m1,by simpa [pdM] using m2,⟨hat.tmps,fun t v e=>?_⟩,hat.defers,m3⟩
  have hall:∀ j,j<l.length→(Array.replicate l.length true)[j]?=some true:=fun j hj=>by simp [hj]
  rcases putsI_lookup l pv pr al t with ⟨j,o,k0,k1,k3,k4⟩|⟨k1,k2⟩
  ·rw [k4] at e
   simp at e;subst e
   exact m5 j o t k1 k3 (hall j (get_lt k1))
  rw [k2] at e
  refine m4 t v e (fun j o hj hdj=>?_)
  rcases hat.done j (hall j (get_lt hj)) with q|q
  ·exact absurd hdj (k1 j o q hj)
  exact absurd V q.2
 ·have:=List.length_filter_le (fun j => !((Array.replicate l.length false)[j]? == some true)) (List.range l.length)
  simpa using this
 have hno:∀ k:Nat,(Array.replicate l.length false)[k]?≠some true:=by
  intro k hk
  rw [Array.getElem?_replicate] at hk;split at hk <;> simp at hk
 refine ⟨by simp,fun k o hk hlk=>absurd hlk (hno k),V,hs.1,q1,fun k hk=>absurd hk (hno k),fun k hk hkw=>?_,fun b hb=>by simp at hb,q2,q3,q0,q7,F,Ext.refl F,by simpa [pdM] using hi.drew,(Below.refl _ _).drew,fun t v e _=>hs.2 t v e,fun j o t hj _ hlj=>absurd hlj (hno j)⟩
 have:=q5 k hk hkw
 simp at this
theorem c_drawnEF {ro:Option Nat} {ks:List Kont} {Q:Exit→Sl→Mem→Prop} {id:Nat} {M:Mem} (ord ws:List Nat) (anc:List (List Nat)) (i0:Nat) {cs0:List AV} {o0:Oper} {t:TypeId} {z:Value} (hmix:P.follows .mixedOrders=true) (hfl:flowEF n l ord ws anc i0=true) (h0:l[i0]?=some o0) (hg0:o0.guard=none) (hop:o0.op=.alloc t) (hz:tyZero P t=some z) (hf:(AV.val z).flat=true) (hc:(AV.val z).cells=cs0) (h:EOpsF P l ws anc i0 cs0 (AGo ro P n ks Q) ord al M []):ACode ro P n (.region id l.toArray true) (after ro P n ks Q) al M:=ACode.drawnEF ord ws anc i0 hmix hfl h0 hg0 hop hz hf hc h
variable {M:Mem} {L:List (Nat × Nat)} {o:Oper}
theorem EOpsF.d {v:AV} {i:Nat} (d:Nat) (fp:Option Nat) (hz:Nat.beq i i0=false) (hi:l[i]?=some o) (hw:ws.contains i=false) (hg:o.guard=none) (hd:o.dst=some d) (hfp:fp.all (fun k=>Nat.blt k M.length)=true) (h:OpT P o (al.only (Oper.tmps o)) (fpm M fp) (fun v' M'=>v'=v∧M'=fpm M fp)) (q:EOpsF P l ws anc i0 cs0 QQ ord ((d,v)::al) M ((fp.toList.map fun k=>(i,k))++L)):EOpsF P l ws anc i0 cs0 QQ (i::ord) al M L :=
 ⟨o,hi,by rw [if_neg (Nat.ne_of_beq_eq_false hz),if_neg (by rw [hw];simp)];exact ⟨fp,v,hfp,by unfold DStep;rw [hg];exact h,by rw [hd];exact q⟩⟩
theorem EOpsF.w {i:Nat} {r:Res} (k:Nat) (hz:Nat.beq i i0=false) (hi:l[i]?=some o) (hw:ws.contains i=true) (hg:o.guard=none) (hr:M[k]?=some r) (hL:(L.all fun x=>x.2 != k || (anc.getD i []).contains x.1)=true) (h:OpT P o (al.only (Oper.tmps o)) [r] (fun v M'=>∃ r',M'=[r']∧EOpsF P l ws anc i0 cs0 QQ ord (al.put o.dst v) (M.set k r') L)):EOpsF P l ws anc i0 cs0 QQ (i::ord) al M L :=
 ⟨o,hi,by rw [if_neg (Nat.ne_of_beq_eq_false hz),if_pos hw];exact ⟨hg,.inl ⟨k,r,hr,hL,h⟩⟩⟩
theorem EOpsF.nw {i:Nat} (hz:Nat.beq i i0=false) (hi:l[i]?=some o) (hw:ws.contains i=true) (hg:o.guard=none) (h:OpT P o (al.only (Oper.tmps o)) [] (fun v M'=>∃ r',M'=[r']∧EOpsF P l ws anc i0 cs0 QQ ord (al.put o.dst v) (M++[r']) L)):EOpsF P l ws anc i0 cs0 QQ (i::ord) al M L :=
 ⟨o,hi,by rw [if_neg (Nat.ne_of_beq_eq_false hz),if_pos hw];exact ⟨hg,.inr (OpT.mono h (by rintro v M' ⟨r',rfl,h⟩;exact h))⟩⟩
theorem EOpsF.free {i d:Nat} (hz:i=i0) (hi:l[i]?=some o) (hd:o.dst=some d) (q:∀ b,EOpsF P l ws anc i0 cs0 QQ ord ((d,.ptr b 0)::al) (M++[.loc b cs0]) L):EOpsF P l ws anc i0 cs0 QQ (i::ord) al M L :=
 ⟨o,hi,by rw [if_pos hz,hd];exact q⟩

end
theorem head_c (v:En) (x:In) (hb:x.hd.kids.length≤1000000):PCall Tryz.prog 110 [.agg v.cells,.agg x.cells] (.val (.int .i64 (headR v x))):=by
 have HV:=(vars_c x hb).pure
 have HA:=Arity_c v x.hd.name
 obtain ⟨r,hr⟩:∃ r,headR v x=r:=⟨_,rfl⟩
 rw [hr]
 unfold headR at hr
 obtain ⟨ar,har⟩:∃ r,arityR v x.hd.name=r:=⟨_,rfl⟩
 rw [har] at hr HA
 obtain ⟨da,cl,ins⟩:=v
 obtain ⟨xc,⟨hk,hs,hn,hl⟩,xcx,xbs,xp⟩:=x
 have hll:=Ty.cellss_len hl
 have hb:hl.length≤1000000:=hb
 have hr:(if hk≠3∨hs=kArrow∨ar<0 then 127 else if ar≠hl.length then 122 else headL [] hl)=r:=hr
 have hvr:varsR (In.mk xc (Ty.mk hk hs hn hl) xcx xbs xp)=hl.map Ty.name:=rfl
 rw [hvr] at HV
 simp only [En.cells,In.cells,Ty.cells,List.cons_append,List.nil_append,In.hd,Ty.name] at HV HA ⊢
 have hlv:=Ye (hl.map Ty.name)
 rw [List.length_map] at hlv
 refine Zc Tryz.func110 V (by kernel_rfl) V (Xz V) ?_
 refine Q353 ?_
 refine Q118 ?_
 refine Q306 ?_
 refine Zy 24 (hk≠3∨hs=kArrow∨ar<0) ?_ _ _ V ?_
 ·skip
  refine Q13 ?_
  refine Q235 ?_
  refine Q34 ?_;intro c10 h10
  refine Q5 ?_
  rcases Za h10 with ⟨rfl,g10⟩|⟨rfl,g10⟩
  ·skip
   refine Q409 ?_
   refine Q78 ?_;intro c15 h15
   refine Q260 ?_
   rcases Za h15 with ⟨rfl,g15⟩|⟨rfl,g15⟩
   ·skip
    refine Q467 ?_
    refine Zq 22 V V V V V (Zd (xs:=[.tmp 18,.tmp 21]) V V (HA) by1 ?_)
    refine Q61 ?_;intro c23 h23
    refine Q236 ?_
    refine Xx V ?_ by5 by3
    clear HV HA;first|(simp_all;done)|(simp_all;omega)|grind
   skip
   refine Q413 ?_
   refine Xx V ?_ by5 by3
   clear HV HA;first|(simp_all;done)|(simp_all;omega)|grind
  skip
  refine Q442 ?_
  refine Q413 ?_
  refine Xx V ?_ by5 by3
  clear HV HA;first|(simp_all;done)|(simp_all;omega)|grind
 intro c24 h24
 refine Q1 ?_
 rcases Za h24 with ⟨rfl,g24⟩|⟨rfl,g24⟩
 ·refine Q324 ?_
  rw [if_neg g24] at hr
  refine Q463 ?_
  refine Q541 ?_
  refine Zx 29 V V (Zd (xs:=[.tmp 25,.tmp 28]) V V (HA) by1 ⟨V,V⟩) ?_
  refine Q541 ?_
  refine Zx 33 V V (Yu V tu_22 V (.seq _ _) (fun _=>⟨V,V⟩)) ?_
  refine Yr 34 V V (fun _ q=>op_neq V V V q) ?_;intro c34 h34
  show AGo _ _ _ _ _ _ _
  refine Q1 ?_
  rcases Za h34 with ⟨rfl,g34⟩|⟨rfl,g34⟩
  ·refine Q242 ?_
   rw [if_neg (by omega)] at hr
   refine Q4 ?_
   refine Q151 ?_
   refine Zb 36 V V V (Zd (xs:=[.tmp 35]) V V (HV) by1 ?_)
   refine Q337 ?_
   apply Yd (rg [(0,3),(4,1),(6,66)]) (σ:=Nat) (fun zz=>match zz with|i=>[(6,.val (.int .i64 i))]) (fun zz=>match zz with|i=>i≤hl.length∧headL ((hl.take i).map Ty.name) (hl.drop i)=r) (fun zz=>match zz with|i=>hl.length - i) (0)
   ·repeat' (first|exact Wc|apply Wa rfl|apply Wb rfl)
   ·exact ⟨Nat.zero_le _,hr⟩
   ·exact by4
   rintro i hI
   try dsimp only [List.cons_append,List.nil_append] at hI ⊢
   obtain ⟨h1,hu⟩:=hI
   refine Q439 ?_;intro n39
   refine Q19 ?_;intro c40 h40
   refine Q226 ?_
   rcases Za h40 with ⟨rfl,g40⟩|⟨rfl,g40⟩
   ·refine Q322 ?_
    rw [Wf (by omega),headL] at hu;exact Zf rfl rfl (Xt _) by3 ⟨by rw [← hu],rfl⟩
   refine Q265 ?_
   obtain ⟨⟨tk,ts,tn,tl⟩,hx⟩:=Zr (l:=hl) (i:=i) (by omega)
   have hcx:=Ty.cellss_get hx
   have hsn:=Yl hx
   have hcn:=strs_get (xs:=hl.map Ty.name) (i:=i) (s:=ts) (by rw [List.getElem?_map,hx];rfl)
   have htl:=Ty.cellss_len tl
   rw [Yh hx,headL] at hu
   have hu:(if tk≠1∨0<tl.length∨hasB ((hl.take i).map Ty.name) ts=true then 127 else headL ((hl.take i).map Ty.name++[ts]) (hl.drop (i+1)))=r:=hu
   have HH:=Has_c ((hl.take i).map Ty.name) ts
   rw [List.map_take,← strs_take] at HH
   simp only [Ty.cells] at hcx
   refine c_boold 71 (tk≠1∨0<tl.length∨ts∈(hl.map Ty.name).take i) Xl V ?_ _ _ V ?_
   ·skip
    refine Q32 ?_
    refine Q370 ?_
    refine Zx 47 V V (Zg V te_22 V (.seq _ _) V V (by first|exact hcx|exact hcn) ⟨V,V⟩) ?_
    refine Q293 ?_
    refine Yr 50 V V (fun _ q=>op_neq V V V q) ?_;intro c50 h50
    refine Q20 ?_
    rcases Za h50 with ⟨rfl,g50⟩|⟨rfl,g50⟩
    ·skip
     refine Q48 ?_
     refine Q443 ?_
     refine Yg 56 V V V V (Zg V te_22 V (.seq _ _) V V (by first|exact hcx|exact hcn) ⟨V,V⟩) ?_
     refine Q333 ?_
     refine Yg 59 V V V V (Yu V tu_22 V (.seq _ _) (fun _=>⟨V,V⟩)) ?_
     refine Ys 60 V V V V (fun _ q=>op_gtr V V V q) ?_;intro c60 h60
     refine Q371 ?_
     rcases Za h60 with ⟨rfl,g60⟩|⟨rfl,g60⟩
     ·skip
      refine Q50 ?_
      refine Q50 ?_
      refine Yg 65 V V V V (op_cuth V te_44 V (.seq _ _) V V (by omega) ⟨V,V⟩) ?_
      refine Q50 ?_
      refine Q50 ?_
      refine Yg 68 V V V V (Zg V te_44 V (.seq _ _) V V (by first|exact hcx|exact hcn) ⟨V,V⟩) ?_
      refine Yg 69 V V V V (op_load_c1 V ta_9 V V ⟨V,V⟩) ?_
      refine Ys 70 V V V V (fun _ q=>Ze (xs:=[.tmp 65,.tmp 69]) V V (HH) by1 q) ?_;intro c70 h70
      refine Q33 ?_
      show BoolQ _ _ _ _ _ _
      refine Xx V ?_ by5 by3
      clear HV HA HH;first|(simp_all;done)|(simp_all;omega)|grind
     skip
     refine Q348 ?_
     refine Q33 ?_
     show BoolQ _ _ _ _ _ _
     refine Xx V ?_ by5 by3
     clear HV HA HH;first|(simp_all;done)|(simp_all;omega)|grind
    skip
    refine Q348 ?_
    refine Q12 ?_
    refine Q507 ?_
    refine Q33 ?_
    show BoolQ _ _ _ _ _ _
    refine Xx V ?_ by5 by3
    clear HV HA HH;first|(simp_all;done)|(simp_all;omega)|grind
   intro c71 h71
   refine Q1 ?_
   rcases Za h71 with ⟨rfl,g71⟩|⟨rfl,g71⟩
   ·refine Q305 ?_
    rw [if_neg (fun q=>g71 (q.imp_right (fun h=>h.imp_right (fun e=>by rw [← List.map_take];exact hasB_iff.1 e))))] at hu;exact ⟨i+1,⟨by omega,by rw [hsn,List.map_append];exact hu⟩,by show hl.length - (i+1)<hl.length - i;omega,by4,by3⟩
   refine Q285 ?_
   rw [if_pos (g71.imp_right (fun h=>h.imp_right (fun e=>hasB_iff.2 (by rw [List.map_take];exact e))))] at hu;exact Zf rfl rfl (Xt _) by3 ⟨by rw [hu],rfl⟩
  refine Q285 ?_
  rw [if_pos (by omega)] at hr;exact Zf rfl rfl (Xt _) by3 ⟨by rw [hr],rfl⟩
 refine Q285 ?_
 rw [if_pos g24] at hr;exact Zf rfl rfl (Xt _) by3 ⟨by rw [hr],rfl⟩
theorem ctx_c11 (v:En) (x:In) (hb:x.hd.kids.length≤1000000) (hcx:x.cx.length≤1000000):PCall Tryz.prog 112 [.agg v.cells,.agg x.cells] (.val (.int .i64 (ctxR v x))):=by
 have HV:=(vars_c x hb).pure
 have HC:=fun c=>Class_c v c
 obtain ⟨r,hr⟩:∃ r,ctxR v x=r:=⟨_,rfl⟩
 rw [hr]
 unfold ctxR at hr
 obtain ⟨ns,hns⟩:∃ l,varsR x=l:=⟨_,rfl⟩
 rw [hns] at hr HV
 obtain ⟨da,cl,ins⟩:=v
 obtain ⟨xc,⟨hk,hs,hn,hl⟩,cx,xbs,xp⟩:=x
 have hll:=Pr.cellss_len cx
 have hcx:cx.length≤1000000:=hcx
 have hr:ctxL0 (En.mk da cl ins) ns [] cx=r:=hr
 simp only [En.cells,In.cells,Ty.cells,List.cons_append,List.nil_append] at HV HC ⊢
 refine Zc Tryz.func112 V (by kernel_rfl) V (Xz V) ?_
 refine Q353 ?_
 refine Q118 ?_
 refine Q337 ?_
 apply Yd (rg [(0,2),(4,61)]) (σ:=Nat) (fun zz=>match zz with|i=>[(5,.val (.int .i64 i))]) (fun zz=>match zz with|i=>i≤cx.length∧ctxL0 (En.mk da cl ins) ns (cx.take i) (cx.drop i)=r) (fun zz=>match zz with|i=>cx.length - i) (0)
 ·repeat' (first|exact Wc|apply Wa rfl|apply Wb rfl)
 ·exact ⟨Nat.zero_le _,hr⟩
 ·exact by4
 rintro i hI
 try dsimp only [List.cons_append,List.nil_append] at hI ⊢
 obtain ⟨h1,hu⟩:=hI
 refine Q339 ?_
 refine Q152 ?_;intro n11
 refine Q19 ?_;intro c12 h12
 refine Q226 ?_
 rcases Za h12 with ⟨rfl,g12⟩|⟨rfl,g12⟩
 ·refine Q322 ?_
  rw [Wf (by omega),ctxL0] at hu;exact Zf rfl rfl (Xt _) by3 ⟨by rw [← hu],rfl⟩
 refine Q265 ?_
 obtain ⟨⟨pc,⟨tk,ts,tn,tl⟩⟩,hx⟩:=Zr (l:=cx) (i:=i) (by omega)
 have hcp:=Pr.cellss_get hx
 have hsn:=Yl hx
 rw [Yh hx,ctxL0] at hu
 have hu:(if classI (En.mk da cl ins) pc<0 then 121 else if tk≠1∨hasB ns ts=false then 123 else if ((cx.take i).any fun q=>sameB q.c pc && sameB q.t.name ts)=true then 120 else ctxL0 (En.mk da cl ins) ns (cx.take i++[Pr.mk pc (Ty.mk tk ts tn tl)]) (cx.drop (i+1)))=r:=hu
 simp only [Pr.cells,Ty.cells] at hcp
 have HH:=Has_c ns ts
 refine Q372 ?_
 refine Zb 18 V V V (Zg V te_120 V (.seq _ _) V V (hcp) (Zb 19 V V V (Yb (cs':=[_,_,_,_,_]) V ta_170 V V V (Zb 6 V V V (Yk (cs':=[_,_,_,_,_]) V tz_170 V V ?_)))));intro b6
 refine Ya V V (Zu (cs':=[_,_,_,_,_]) (i:=0) V ts_170 V V V V V (Xz V) V ?_)
 refine Q241 ?_
 refine Q227 ?_
 refine Q59 ?_
 refine Q243 ?_
 refine Zb 23 V V V (Zd (xs:=[.tmp 20,.tmp 22]) V V (HC pc) by1 ?_)
 refine Q19 ?_;intro c24 h24
 refine Q226 ?_
 rcases Za h24 with ⟨rfl,g24⟩|⟨rfl,g24⟩
 ·refine Q324 ?_
  rw [if_neg g24] at hu
  refine c_boold 37 (tk≠1∨¬ ts∈ns) Xl V ?_ _ _ V ?_
  ·skip
   refine Q55 ?_
   refine Q392 ?_
   refine Yr 28 V V (fun _ q=>op_neq V V V q) ?_;intro c28 h28
   refine Q20 ?_
   rcases Za h28 with ⟨rfl,g28⟩|⟨rfl,g28⟩
   ·skip
    refine Q185 ?_
    refine Yg 31 V V V V (Zd (xs:=[.tmp 30]) V V (HV) by1 ⟨V,V⟩) ?_
    refine Q83 ?_
    refine Q444 ?_
    refine Ys 35 V V V V (fun _ q=>Ze (xs:=[.tmp 31,.tmp 34]) V V (HH) by1 q) ?_;intro c35 h35
    refine Ys 36 V V V V (fun _ q=>op_notc V V q) ?_;intro c36 h36
    try replace h36:=Yo h36 h35
    refine Q33 ?_
    show BoolQ _ _ _ _ _ _
    refine Xx V ?_ by5 by3
    clear HV HC HH;first|(simp_all;done)|grind
   skip
   refine Q281 ?_
   refine Q542 ?_
   show BoolQ _ _ _ _ _ _
   refine Xx V ?_ by5 by3
   clear HV HC HH;first|(simp_all;done)|grind
  intro c37 h37
  refine Q1 ?_
  rcases Za h37 with ⟨rfl,g37⟩|⟨rfl,g37⟩
  ·refine Q242 ?_
   rw [if_neg (fun q=>g37 (q.imp_right (fun e h=>by rw [hasB_iff.2 h] at e;simp at e)))] at hu
   refine Q332 ?_
   apply Yd (rg [(0,2),(4,1),(7,1),(38,27)]) (σ:=Nat) (fun zz=>match zz with|j=>[(7,.val (.int .i64 j))]) (fun zz=>match zz with|j=>j≤i∧∀ q∈cx.take j,¬ (q.c=pc∧q.t.name=ts)) (fun zz=>match zz with|j=>i - j) (0)
   ·repeat' (first|exact Wc|apply Wa rfl|apply Wb rfl)
   ·exact ⟨Nat.zero_le _,by simp⟩
   ·exact by4
   rintro j hI
   try dsimp only [List.cons_append,List.nil_append] at hI ⊢
   obtain ⟨h2,hn⟩:=hI
   refine Q505 ?_;intro c40 h40
   refine Q226 ?_
   rcases Za h40 with ⟨rfl,g40⟩|⟨rfl,g40⟩
   ·refine Q440 ?_
    obtain rfl:j=i:=by omega
    rw [if_neg (fun q=>by obtain ⟨y,hy1,hy2⟩:=List.any_eq_true.1 q;simp only [Bool.and_eq_true,Xb] at hy2;exact hn y hy1 hy2)] at hu
    exact ⟨j+1,⟨by omega,by rw [hsn];exact hu⟩,by show cx.length - (j+1)<cx.length - j;omega,by4,(Xq _ (Xn _))⟩
   refine Q265 ?_
   obtain ⟨⟨qc,⟨qk,qs,qn,ql⟩⟩,hy⟩:=Zr (l:=cx) (i:=j) (by omega)
   have hcq:=Pr.cellss_get hy
   have hsy:=Yl hy
   simp only [Pr.cells,Ty.cells] at hcq
   refine c_boold 64 (qc=pc∧qs=ts) Xl V ?_ _ _ V ?_
   ·skip
    refine Q370 ?_
    refine Zx 46 V V (Zg V te_120 V (.seq _ _) V V (hcq) ⟨V,V⟩) ?_
    refine Q293 ?_
    refine Q392 ?_
    refine Yr 51 V V (fun _ q=>op_seql V V V q) ?_;intro c51 h51
    refine Q20 ?_
    rcases Za h51 with ⟨rfl,g51⟩|⟨rfl,g51⟩
    ·skip
     refine Q348 ?_
     refine Q542 ?_
     show BoolQ _ _ _ _ _ _
     refine Xx V ?_ by5 by3
     clear HV HC HH;first|(simp_all;done)|grind
    skip
    refine Q443 ?_
    refine Yg 56 V V V V (Zg V te_120 V (.seq _ _) V V (hcq) ⟨V,V⟩) ?_
    refine Q48 ?_
    refine Q333 ?_
    refine Q83 ?_
    refine Q444 ?_
    refine Ys 63 V V V V (fun _ q=>op_seql V V V q) ?_;intro c63 h63
    refine Q33 ?_
    show BoolQ _ _ _ _ _ _
    refine Xx V ?_ by5 by3
    clear HV HC HH;first|(simp_all;done)|grind
   intro c64 h64
   refine Q1 ?_
   rcases Za h64 with ⟨rfl,g64⟩|⟨rfl,g64⟩
   ·refine Q305 ?_
    exact ⟨j+1,⟨by omega,by rw [hsy];intro q hq;rcases List.mem_append.1 hq with h|h;exact hn q h;rw [List.mem_singleton.1 h];exact g64⟩,by show i - (j+1)<i - j;omega,by4,by3⟩
   refine Q285 ?_
   have htk:(cx.take i)[j]?=some (Pr.mk qc (Ty.mk qk qs qn ql)):=by rw [List.getElem?_take_of_lt (by omega)];exact hy
   rw [if_pos (List.any_eq_true.2 ⟨_,We htk,by simp only [Bool.and_eq_true,Xb];exact g64⟩)] at hu;exact Zf rfl rfl (Xt _) by3 ⟨by rw [hu],rfl⟩
  refine Q285 ?_
  rw [if_pos (g37.imp_right hasB_no)] at hu;exact Zf rfl rfl (Xt _) by3 ⟨by rw [hu],rfl⟩
 refine Q285 ?_
 rw [if_pos g24] at hu;exact Zf rfl rfl (Xt _) by3 ⟨by rw [hu],rfl⟩
theorem instance_c (v:En) (hv:EnB v) (i:Nat) (x:In) (hx:v.ins[i]?=some x):PCall Tryz.prog 63 [.agg v.cells,.val (.int .i64 i)] (faultA (instR v i x)):=by
 obtain ⟨hcx1,hbs1,hkd1⟩:=hv.inss x (We hx)
 have HC:=Class_c v x.c
 have HH:=head_c v x (by omega)
 have HI:=Inst_c v x.c x.hd.name
 have HX:=ctx_c11 v x (by omega) (by omega)
 have hcc:=findI_cases (fun (c:Cl)=>sameB c.s x.c) v.cl 0
 have hcl:=findI_lt (fun (c:Cl)=>sameB c.s x.c) v.cl 0
 have hci:classI v x.c=findI (fun (c:Cl)=>sameB c.s x.c) v.cl 0:=rfl
 rw [← hci] at hcc hcl
 have hcls:=hv.cls
 obtain ⟨r,hr⟩:∃ r,instR v i x=r:=⟨_,rfl⟩
 rw [hr]
 unfold instR instR1 at hr
 obtain ⟨ci,hce⟩:∃ c,classI v x.c=c:=⟨_,rfl⟩
 obtain ⟨he,hhe⟩:∃ c,headR v x=c:=⟨_,rfl⟩
 obtain ⟨ii,hie⟩:∃ c,instI v x.c x.hd.name=c:=⟨_,rfl⟩
 obtain ⟨ce,hxe⟩:∃ c,ctxR v x=c:=⟨_,rfl⟩
 rw [hce] at HC hcc hcl hr
 rw [hhe] at HH hr
 rw [hie] at HI hr
 rw [hxe] at HX hr
 clear hci
 have hgi:=In.cellss_get hx
 obtain ⟨da,cl,ins⟩:=v
 have hi:=get_lt hx
 simp only [En.cl,En.ins] at hcl hcls hr hgi hi
 have hlc:=Cl.cellss_len cl
 have hli:=In.cellss_len ins
 obtain ⟨xc,⟨hk,hs,hn,hl⟩,cx,xbs,xp⟩:=x
 simp only [En.cells,In.cells,Ty.cells,List.cons_append,List.nil_append,In.c,In.hd,In.p,In.bs,Ty.name] at HC HH HI HX hr hgi hbs1 ⊢
 have hlb:=Bi.cellss_len xbs
 refine Zc Tryz.func63 V (by kernel_rfl) V (Xz V) ?_
 refine Q353 ?_
 refine Q105 ?_;intro b4
 refine Q258 ?_
 refine Q297 ?_
 refine Zb 15 V V V (Zg V te_39 V (.seq _ _) V V (hgi) ?_)
 refine Q151 ?_
 refine Q153 ?_;intro b5
 refine Q186 ?_
 refine Q258 ?_
 refine Q59 ?_
 refine Q243 ?_
 refine Zb 20 V V V (Zd (xs:=[.tmp 17,.tmp 19]) V V (HC) by1 ?_)
 refine Q462 ?_;intro c22 h22
 refine Q226 ?_
 rcases Za h22 with ⟨rfl,g22⟩|⟨rfl,g22⟩
 ·refine Q242 ?_
  rw [if_neg g22] at hr
  obtain ⟨c,hc⟩:=Zr (l:=cl) (i:=ci.toNat) (by omega)
  rw [hc] at hr
  simp only [] at hr
  obtain ⟨hsu1,hms1,hds1,_⟩:=hcls c (We hc)
  have hcc2:=Cl.cellss_get hc
  have HB:=binds_c xbs c (by omega) (by omega)
  have HN:=(names_c c (by omega)).pure
  have HB1:=Bnd_c xbs (by omega)
  have HB2:=Bnd_c c.ds (by omega)
  obtain ⟨cs,cv,csu,cms,cds,cp⟩:=c
  have hms1:cms.length≤100000:=hms1
  have hds1:cds.length≤100000:=hds1
  have hr:(if he≠0 then (he,xp) else if ii<(i:Int) then ((125:Int),xp) else if ce≠0 then (ce,xp) else if (bndR (cms.map Me.s) [] xbs).1≠0 then bndR (cms.map Me.s) [] xbs else if missB (xbs.map Bi.s++cds.map Bi.s) (cms.map Me.s)=true then (128,xp) else f0)=r:=hr
  simp only [faultA,Cl.cells,Cl.ds,Cl.ms] at HB HN HB2 hcc2
  obtain ⟨⟨be,ba⟩,hbe⟩:∃ b,bndR (cms.map Me.s) [] xbs=b:=⟨_,rfl⟩
  rw [hbe] at HB hr
  obtain ⟨ns,hns⟩:∃ l,cms.map Me.s=l:=⟨_,rfl⟩
  rw [hns] at HN hr
  have hlns:ns.length≤100000:=by rw [← hns,List.length_map];omega
  simp only [] at hr HB
  obtain ⟨own,hown⟩:∃ l,xbs.map Bi.s++cds.map Bi.s=l:=⟨_,rfl⟩
  rw [hown] at hr
  have hlo:own.length≤200000:=by rw [← hown];simp;omega
  have hsl1:=Ye (xbs.map Bi.s)
  have hsl2:=Ye (cds.map Bi.s)
  rw [List.length_map] at hsl1 hsl2
  have hsn1:=Ye ns
  refine Q4 ?_
  refine Q59 ?_
  refine Q187 ?_
  refine Zb 28 V V V (Zd (xs:=[.tmp 26,.tmp 27]) V V (HH) by1 ?_)
  refine Q275 ?_
  refine Q34 ?_;intro c30 h30
  refine Q226 ?_
  rcases Za h30 with ⟨rfl,g30⟩|⟨rfl,g30⟩
  ·refine Q324 ?_
   rw [if_neg g30] at hr
   refine Q4 ?_
   refine Q59 ?_
   refine Q243 ?_
   refine Q11 ?_
   refine Q243 ?_
   refine Zb 41 V V V (Zd (xs:=[.tmp 35,.tmp 37,.tmp 40]) V V (HI) by1 ?_)
   refine Q508 ?_;intro c43 h43
   refine Q226 ?_
   rcases Za h43 with ⟨rfl,g43⟩|⟨rfl,g43⟩
   ·refine Q242 ?_
    rw [if_neg g43] at hr
    refine Q4 ?_
    refine Q59 ?_
    refine Q187 ?_
    refine Zb 49 V V V (Zd (xs:=[.tmp 47,.tmp 48]) V V (HX) by1 ?_)
    refine Q275 ?_
    refine Q34 ?_;intro c51 h51
    refine Q226 ?_
    rcases Za h51 with ⟨rfl,g51⟩|⟨rfl,g51⟩
    ·refine Q242 ?_
     rw [if_neg g51] at hr
     refine Yp [0,1,2,3,4,5,6,7,8,9] [8,9] [[],[0],[],[2],[],[2,3,4],[2,3,4,5],[0,1,2,3,4,5,6],[],[0,1,2,3,4,5,6,7,8]] Xl V ?_
     refine Q325 ?_
     refine Q468 ?_
     refine Zm 61 (none) (i:=5) V V V V V (Zg (i:=ci.toNat) V te_38 V (.seq _ _) V (by first|rfl|omega) (hcc2) ⟨V,V⟩) ?_
     refine Zm 62 (none) (i:=6) V V V V V (Yb (cs':=[_,_,_,_,_,_]) V ta_118 V V V ⟨V,V⟩) ?_
     refine Zm 63 (none) (i:=7) V V V V V (Zd (xs:=[.tmp 57,.tmp 62]) V V (HB) by1 ⟨V,V⟩) ?_
     refine EOps.nw (i:=8) V V V (Yk (cs':=[_,_]) V tz_85 V V (fun b8=>⟨_,V,?_⟩))
     refine Yf 2 (i:=9) V V V V V (Zu (cs':=[_,_]) (i:=0) V ts_85 V V V V V (Xz V) V ⟨_,V,?_⟩)
     show AGo _ _ _ _ _ _ _
     refine Q373 ?_
     refine Q227 ?_
     refine Q388 ?_
     refine Q34 ?_;intro c66 h66
     refine Q226 ?_
     rcases Za h66 with ⟨rfl,g66⟩|⟨rfl,g66⟩
     ·refine Q242 ?_
      rw [if_neg g66] at hr
      refine Yp [0,1,3,4,5,6,7,8,2,9,10,11] [2,9,10] [[],[0],[0,1],[],[3],[],[3,4,5],[3,4,5,6],[3,4,5,6,7],[0,1,2,3,4,5,6,7,8],[0,1,2,3,4,5,6,7,8,9],[0,1,2,3,4,5,6,7,8,9,10]] Xl V ?_
      refine Q325 ?_
      refine Q468 ?_
      refine Zm 74 (none) (i:=6) V V V V V (Zg (i:=ci.toNat) V te_38 V (.seq _ _) V (by first|rfl|omega) (hcc2) ⟨V,V⟩) ?_
      refine Q354 ?_
      refine EOps.nw (i:=2) V V V (op_callo (xs:=[.tmp 69]) V V (HB1) by1 (fun u70=>⟨_,V,?_⟩))
      refine EOps.nw (i:=9) V V V (op_callo (xs:=[.tmp 76]) V V (HB2) by1 (fun u77=>⟨_,V,?_⟩))
      refine Yf 3 (i:=10) V V V V V (Zw (i:=0) Xd V V V V (.own _ _ _) by6 (fun u78=>⟨_,V,?_⟩))
      refine Q58 ?_
      show AGo _ _ _ _ _ _ _
      refine Q1 ?_
      refine Q270 ?_
      refine Q5 ?_
      refine Zb 82 V V V (Zg (i:=ci.toNat) V te_38 V (.seq _ _) V (by first|rfl|omega) (hcc2) ?_)
      refine Q127 ?_
      refine Zb 84 V V V (Zd (xs:=[.tmp 83]) V V (HN) by1 ?_)
      refine Q306 ?_
      obtain ⟨ms,hms⟩:∃ b,missB own ns=b:=⟨_,rfl⟩
      rw [hms] at hr
      have hso:strs (xbs.map Bi.s)++strs (cds.map Bi.s)=strs own:=by rw [← strs_app,hown]
      refine Q332 ?_
      refine c_le (al':=[(1,.val (.int .i64 i)),(2,.cptr [.seq 5 (Da.cellss da),.seq 6 (Cl.cellss cl),.seq 8 (In.cellss ins)]),(4,.ptr b4 0),(5,.ptr b5 0),(9,.seq 1 (strs own)),(10,.seq 1 (strs ns)),(11,.val (.int .i64 0))]) (by first|(repeat' (first|exact SLe.nil _|refine Xw V ?_ ?_|exact Xt _|exact Le.own_seq hso|exact Le.own _ _ _))) (Xn _) ?_
      apply Yd (rg [(0,4),(6,3),(11,90)]) (σ:=Nat) (fun zz=>match zz with|k=>[(11,.val (.int .i64 k))]) (fun zz=>match zz with|k=>k≤ns.length∧missB own (ns.drop k)=ms) (fun zz=>match zz with|k=>ns.length - k) (0)
      ·repeat' (first|exact Wc|apply Wa rfl|apply Wb rfl)
      ·exact ⟨Nat.zero_le _,hms⟩
      ·exact by4
      rintro k hI
      try dsimp only [List.cons_append,List.nil_append] at hI ⊢
      obtain ⟨k1,hk⟩:=hI
      refine Q439 ?_;intro n87
      refine Q19 ?_;intro c88 h88
      refine Q226 ?_
      rcases Za h88 with ⟨rfl,g88⟩|⟨rfl,g88⟩
      ·refine Q538 ?_
       refine Q395 ?_
       rw [Wf (by omega),missB] at hk;rw [if_neg (by rw [← hk];simp)] at hr;subst hr;first|exact Zj (i:=1) rfl rfl rfl Xi rfl (Xt _) (Xo _) ⟨rfl,rfl⟩|exact Zj (i:=2) rfl rfl rfl Xi rfl (Xt _) (Xo _) ⟨rfl,rfl⟩
      refine Q265 ?_
      obtain ⟨s,hxs⟩:=Zr (l:=ns) (i:=k) by7
      have hcs:=strs_get hxs
      have hms:=We hxs
      rw [Yh hxs,missB] at hk
      refine Q327 ?_
      refine Zb 94 V V V (Zg V te_44 V (.seq _ _) V V (hcs) ?_)
      refine Q14 ?_
      refine Zb 96 V V V (Ze (xs:=[.tmp 91,.tmp 95]) V V (Has_c own s) by1 ?_);intro c96 h96
      refine Q26 ?_;intro c97 h97
      try replace h97:=Yo h97 h96
      refine Q226 ?_
      rcases Za h97 with ⟨rfl,g97⟩|⟨rfl,g97⟩
      ·refine Q305 ?_
       rw [if_neg (by rw [hasB_iff.2 (Classical.not_not.1 g97)];simp)] at hk;exact ⟨k+1,⟨by omega,hk⟩,by show ns.length - (k+1)<ns.length - k;omega,by4,by3⟩
      refine Q394 ?_
      refine Zb 100 V V V (Zp (ns:=[0,1]) (xs:=[.const (.int .i64 128),.tmp 99]) V tz_85 V tfl_85 V V V V ?_)
      refine Q395 ?_
      rw [if_pos (hasB_no g97)] at hk;rw [if_pos hk.symm] at hr;subst hr;first|exact Zj (i:=1) rfl rfl rfl Xi rfl (Xt _) (Xo _) ⟨rfl,rfl⟩|exact Zj (i:=2) rfl rfl rfl Xi rfl (Xt _) (Xo _) ⟨rfl,rfl⟩
     refine Q240 ?_
     refine Zb 67 V V V (Yc (cs':=[_,_]) (i:=2) V Xi V V V V ?_)
     refine Q395 ?_
     rw [if_pos g66] at hr;subst hr;exact Zj (i:=1) rfl rfl rfl Xi rfl (Xt _) (Xo _) ⟨rfl,rfl⟩
    refine Q504 ?_
    refine Zb 55 V V V (Zp (ns:=[0,1]) (xs:=[.tmp 52,.tmp 54]) V tz_85 V tfl_85 V V V V ?_)
    refine Q395 ?_
    rw [if_pos g51] at hr;subst hr;exact Zj (i:=1) rfl rfl rfl Xi rfl (Xt _) (Xo _) ⟨rfl,rfl⟩
   refine Q394 ?_
   refine Zb 46 V V V (Zp (ns:=[0,1]) (xs:=[.const (.int .i64 125),.tmp 45]) V tz_85 V tfl_85 V V V V ?_)
   refine Q395 ?_
   rw [if_pos g43] at hr;subst hr;exact Zj (i:=1) rfl rfl rfl Xi rfl (Xt _) (Xo _) ⟨rfl,rfl⟩
  refine Q504 ?_
  refine Zb 34 V V V (Zp (ns:=[0,1]) (xs:=[.tmp 31,.tmp 33]) V tz_85 V tfl_85 V V V V ?_)
  refine Q395 ?_
  rw [if_pos g30] at hr;subst hr;exact Zj (i:=1) rfl rfl rfl Xi rfl (Xt _) (Xo _) ⟨rfl,rfl⟩
 refine Q394 ?_
 refine Zb 25 V V V (Zp (ns:=[0,1]) (xs:=[.const (.int .i64 121),.tmp 24]) V tz_85 V tfl_85 V V V V ?_)
 refine Q395 ?_
 rw [if_pos g22] at hr;subst hr;exact Zj (i:=1) rfl rfl rfl Xi rfl (Xt _) (Xo _) ⟨rfl,rfl⟩
theorem given_c (v:En) (hv:EnB v) (x:In) (hcx:x.cx.length≤1000000) (c n:ByteArray):BCall Tryz.prog 114 [.agg v.cells,.agg x.cells,.val (.string c),.val (.string n)] (givenR v x c n=true):=by
 have HA:=fun d=>(Above_c v hv.sup d).pure
 have hgv:givenR v x c n=true↔∃ p∈x.cx,p.t.name=n∧(p.c=c∨c∈aboveR v p.c):=by
  unfold givenR
  rw [List.any_eq_true]
  constructor
  ·rintro ⟨p,hp,h⟩
   simp only [Bool.and_eq_true,Bool.or_eq_true,Xb,hasB_iff] at h
   exact ⟨p,hp,h⟩
  rintro ⟨p,hp,h⟩
  exact ⟨p,hp,by simp only [Bool.and_eq_true,Bool.or_eq_true,Xb,hasB_iff];exact h⟩
 generalize givenR v x c n=g at *
 obtain ⟨da,cl,ins⟩:=v
 obtain ⟨xc,⟨hk,hs,hn,hl⟩,cx,xbs,xp⟩:=x
 have hll:=Pr.cellss_len cx
 simp only [In.cx] at hcx hgv
 simp only [En.cells,In.cells,Ty.cells,List.cons_append,List.nil_append] at HA ⊢
 refine Zc Tryz.func114 V (by kernel_rfl) V (Xz V) ?_
 refine Q353 ?_
 refine Q118 ?_
 refine Q337 ?_
 apply Yd (rg [(0,2),(6,42)]) (σ:=Nat) (fun zz=>match zz with|i=>[(9,.val (.int .i64 i))]) (fun zz=>match zz with|i=>i≤cx.length∧∀ p∈cx.take i,¬ (p.t.name=n∧(p.c=c∨c∈aboveR (En.mk da cl ins) p.c))) (fun zz=>match zz with|i=>cx.length - i) (0)
 ·repeat' (first|exact Wc|apply Wa rfl|apply Wb rfl)
 ·exact ⟨Nat.zero_le _,by simp⟩
 ·exact by4
 rintro i hI
 try dsimp only [List.cons_append,List.nil_append] at hI ⊢
 obtain ⟨h1,hu⟩:=hI
 refine Q339 ?_
 refine Q152 ?_;intro n13
 refine Q19 ?_;intro c14 h14
 refine Q226 ?_
 rcases Za h14 with ⟨rfl,g14⟩|⟨rfl,g14⟩
 ·refine Q322 ?_
  rw [List.take_of_length_le (by omega)] at hu;exact Zf rfl rfl (Xt _) by3 ⟨⟨_,iff_f (fun q=>by obtain ⟨p,hp,h⟩:=hgv.1 q;exact hu p hp h),rfl⟩,rfl⟩
 refine Q265 ?_
 obtain ⟨⟨pc,⟨tk,ts,tn,tl⟩⟩,hx⟩:=Zr (l:=cx) (i:=i) (by omega)
 have hcp:=Pr.cellss_get hx
 have hsn:=Yl hx
 simp only [Pr.cells,Ty.cells] at hcp
 have HH:=Has_c (aboveR (En.mk da cl ins) pc) c
 refine c_boold 47 (ts=n∧(pc=c∨c∈aboveR (En.mk da cl ins) pc)) Xl V ?_ _ _ V ?_
 ·skip
  refine Q370 ?_
  refine Zx 20 V V (Zg V te_120 V (.seq _ _) V V (hcp) ⟨V,V⟩) ?_
  refine Q32 ?_
  refine Q370 ?_
  refine Yr 25 V V (fun _ q=>op_seql V V V q) ?_;intro c25 h25
  refine Q20 ?_
  rcases Za h25 with ⟨rfl,g25⟩|⟨rfl,g25⟩
  ·skip
   refine Q348 ?_
   refine Q12 ?_
   refine Q427 ?_
   refine Q427 ?_
   refine Q427 ?_
   refine Q427 ?_
   refine Q427 ?_
   refine Q12 ?_
   refine Q33 ?_
   show BoolQ _ _ _ _ _ _
   refine Xx V ?_ by5 by3
   clear HA HH hgv;first|(simp_all;done)|grind
  skip
  refine Q443 ?_
  refine Yg 30 V V V V (Zg V te_120 V (.seq _ _) V V (hcp) ⟨V,V⟩) ?_
  refine Q443 ?_
  refine Ys 34 V V V V (fun _ q=>op_seql V V V q) ?_;intro c34 h34
  refine Q50 ?_
  rcases Za h34 with ⟨rfl,g34⟩|⟨rfl,g34⟩
  ·skip
   refine Q154 ?_
   refine Q443 ?_
   refine Yg 40 V V V V (Zg V te_120 V (.seq _ _) V V (hcp) ⟨V,V⟩) ?_
   refine Q333 ?_
   refine Yg 43 V V V V (Zd (xs:=[.tmp 36,.tmp 42]) V V (HA pc) by1 ⟨V,V⟩) ?_
   refine Q50 ?_
   refine Ys 45 V V V V (fun _ q=>Ze (xs:=[.tmp 43,.tmp 44]) V V (HH) by1 q) ?_;intro c45 h45
   refine Q119 ?_
   refine Q33 ?_
   show BoolQ _ _ _ _ _ _
   refine Xx V ?_ by5 by3
   clear HA HH hgv;first|(simp_all;done)|grind
  skip
  refine Q348 ?_
  refine Q244 ?_
  refine Q119 ?_
  refine Q33 ?_
  show BoolQ _ _ _ _ _ _
  refine Xx V ?_ by5 by3
  clear HA HH hgv;first|(simp_all;done)|grind
 intro c47 h47
 refine Q1 ?_
 rcases Za h47 with ⟨rfl,g47⟩|⟨rfl,g47⟩
 ·refine Q305 ?_
  exact ⟨i+1,⟨by omega,by rw [hsn];intro q hq;rcases List.mem_append.1 hq with h|h;exact hu q h;rw [List.mem_singleton.1 h];exact g47⟩,by show cx.length - (i+1)<cx.length - i;omega,by4,by3⟩
 refine Q285 ?_
 exact Zf V V (Xt _) by3 ⟨⟨_,iff_t (hgv.2 ⟨_,We hx,g47⟩),V⟩,V⟩
theorem headR_ar {v:En} {x:In} (h:headR v x=0):arityR v x.hd.name=x.hd.kids.length:=by
 unfold headR at h
 by_cases h1:x.hd.kind≠3∨x.hd.name=kArrow∨arityR v x.hd.name<0
 ·rw [if_pos h1] at h;simp at h
 rw [if_neg h1] at h
 by_cases h2:arityR v x.hd.name≠x.hd.kids.length
 ·rw [if_pos h2] at h;simp at h
 exact Classical.not_not.1 h2
theorem instI_hit {v:En} {c s:ByteArray} (h:0≤instI v c s):∃ y,v.ins[(instI v c s).toNat]?=some y∧y.c=c∧y.hd.name=s:=by
 obtain ⟨y,h1,h2,_⟩:=findI_get (fun (x:In)=>sameB x.c c && sameB x.hd.name s) v.ins 0 h
 simp only [Bool.and_eq_true,Xb] at h2
 exact ⟨y,h1,h2.1,h2.2⟩
theorem supers_c (v:En) (hv:EnB v) (x:In) (hx:x∈v.ins) (hci:0≤classI v x.c) (hh:∀ y∈v.ins,headR v y=0):BCall Tryz.prog 64 [.agg v.cells,.agg x.cells] (supersR v x=true):=by
 obtain ⟨hcx1,hbs1,hkd1⟩:=hv.inss x hx
 have hin:=hv.inss
 have HC:=Class_c v x.c
 have HG:=fun c n=>given_c v hv x (by omega) c n
 have HI:=fun s=>Inst_c v s x.hd.name
 have hii:=fun s=>instI_hit (v:=v) (c:=s) (s:=x.hd.name)
 have hcl:=findI_lt (fun (c:Cl)=>sameB c.s x.c) v.cl 0
 have hcf:classI v x.c=findI (fun (c:Cl)=>sameB c.s x.c) v.cl 0:=rfl
 rw [← hcf] at hcl
 have hxa:=headR_ar (hh x hx)
 have hya:∀ y∈v.ins,y.hd.name=x.hd.name→y.hd.kids.length=x.hd.kids.length:=fun y hy e=>by
  have:=headR_ar (hh y hy)
  rw [e,hxa] at this
  omega
 obtain ⟨r,hr⟩:∃ r,supersR v x=r:=⟨_,rfl⟩
 rw [hr]
 unfold supersR supersOf at hr
 obtain ⟨ci,hce⟩:∃ c,classI v x.c=c:=⟨_,rfl⟩
 rw [hce] at HC hcl hci hr
 clear hcf
 have hcl1:=hv.cls
 obtain ⟨c,hc⟩:=Zr (l:=v.cl) (i:=ci.toNat) (by omega)
 obtain ⟨hsu1,_⟩:=hcl1 c (We hc)
 rw [hc] at hr
 simp only [Option.map_some,Option.getD_some] at hr
 have hcc:=Cl.cellss_get hc
 obtain ⟨cs,cv,csu,cms,cds,cp⟩:=c
 have hsu1:csu.length≤100000:=hsu1
 have hlsu:=Ye csu
 have hr:supC v x csu=r:=hr
 obtain ⟨da,cl,ins⟩:=v
 obtain ⟨xc,⟨hk,hs,hn,hl⟩,xcx,xbs,xp⟩:=x
 have hlc:=Cl.cellss_len cl
 have hli:=In.cellss_len ins
 have hlh:=Ty.cellss_len hl
 have hki:hl.length≤200000:=hkd1
 simp only [En.ins,En.cl,In.hd,Ty.name,Ty.kids] at hii hya hin hcl
 simp only [En.cells,In.cells,Ty.cells,List.cons_append,List.nil_append,In.c,In.hd,Ty.name,En.cl] at HC HG HI hcc hcl ⊢
 refine Zc Tryz.func64 V (by kernel_rfl) V (Xz V) ?_
 refine Q353 ?_
 refine Q118 ?_
 refine Q238 ?_
 refine Q51 ?_
 refine Q293 ?_
 refine Q92 ?_
 refine Q293 ?_
 refine Zx 16 V V (Zd (xs:=[.tmp 13,.tmp 15]) V V (HC) by1 ⟨V,V⟩) ?_
 refine Zx 17 V V (Zg (i:=ci.toNat) V te_38 V (.seq _ _) V (by first|rfl|omega) (hcc) ⟨V,V⟩) ?_
 refine Q293 ?_
 refine Q52 ?_
 show AGo _ _ _ _ _ _ _
 refine Q373 ?_
 refine Q304 ?_
 apply Yd (rg [(0,2),(4,1),(6,85)]) (σ:=Nat) (fun zz=>match zz with|i=>[(6,.val (.int .i64 i))]) (fun zz=>match zz with|i=>i≤csu.length∧supC (En.mk da cl ins) (In.mk xc (Ty.mk hk hs hn hl) xcx xbs xp) (csu.drop i)=r) (fun zz=>match zz with|i=>csu.length - i) (0)
 ·repeat' (first|exact Wc|apply Wa rfl|apply Wb rfl)
 ·exact ⟨Nat.zero_le _,hr⟩
 ·exact by4
 rintro i hI
 try dsimp only [List.cons_append,List.nil_append] at hI ⊢
 obtain ⟨h1,hu⟩:=hI
 refine Q439 ?_;intro n22
 refine Q19 ?_;intro c23 h23
 refine Q226 ?_
 rcases Za h23 with ⟨rfl,g23⟩|⟨rfl,g23⟩
 ·refine Q322 ?_
  rw [Wf (by omega),supC] at hu;exact Zf rfl rfl (Xt _) (Xo _) ⟨⟨_,iff_t hu.symm,rfl⟩,rfl⟩
 refine Q265 ?_
 obtain ⟨s,hxs⟩:=Zr (l:=csu) (i:=i) by7
 have hcs:=strs_get hxs
 have hms:=We hxs
 rw [Yh hxs,supC] at hu
 have HI1:=HI s
 have hii1:=hii s
 obtain ⟨ii,hie⟩:∃ c,instI (En.mk da cl ins) s hs=c:=⟨_,rfl⟩
 have hu:(match ins[(instI (En.mk da cl ins) s hs).toNat]? with|none=>false|some y=>if instI (En.mk da cl ins) s hs<0 then false else if supB (En.mk da cl ins) (In.mk xc (Ty.mk hk hs hn hl) xcx xbs xp) y y.cx=false then false else supC (En.mk da cl ins) (In.mk xc (Ty.mk hk hs hn hl) xcx xbs xp) (csu.drop (i+1)))=r:=hu
 rw [hie] at hu HI1 hii1
 refine Q463 ?_
 refine Q385 ?_
 refine Zx 29 V V (Zg V te_44 V (.seq _ _) V V (hcs) ⟨V,V⟩) ?_
 refine Q35 ?_
 refine Q541 ?_
 refine Zx 34 V V (Zd (xs:=[.tmp 26,.tmp 30,.tmp 33]) V V (HI1) by1 ⟨V,V⟩) ?_
 refine Q52 ?_
 show AGo _ _ _ _ _ _ _
 refine Q469 ?_
 refine Q19 ?_;intro c36 h36
 refine Q226 ?_
 rcases Za h36 with ⟨rfl,g36⟩|⟨rfl,g36⟩
 ·refine Q242 ?_
  obtain ⟨y,hy,hyc,hyn⟩:=hii1 (by omega)
  rw [hy] at hu
  simp only [] at hu
  rw [if_neg g36] at hu
  have hyl:=hya y (We hy) hyn
  obtain ⟨hyb1,_,hyb3⟩:=hin y (We hy)
  have hcy:=In.cellss_get hy
  obtain ⟨sb,hsb⟩:∃ b,supB (En.mk da cl ins) (In.mk xc (Ty.mk hk hs hn hl) xcx xbs xp) y y.cx=b:=⟨_,rfl⟩
  rw [hsb] at hu
  obtain ⟨yc,⟨yk,ys,yn,yl⟩,ycx,ybs,yp⟩:=y
  have hyl:yl.length=hl.length:=hyl
  have hyb1:ycx.length≤100000:=hyb1
  have hlp:=Pr.cellss_len ycx
  have hly:=Ty.cellss_len yl
  have hsb:supB (En.mk da cl ins) (In.mk xc (Ty.mk hk hs hn hl) xcx xbs xp) (In.mk yc (Ty.mk yk ys yn yl) ycx ybs yp) ycx=sb:=hsb
  simp only [In.cells,Ty.cells,List.cons_append,List.nil_append] at hcy
  refine Q372 ?_
  refine Zb 40 V V V (Zg (i:=ii.toNat) V te_39 V (.seq _ _) V (by first|rfl|omega) (hcy) ?_)
  refine Q151 ?_
  refine Q153 ?_;intro b8
  refine Q186 ?_
  refine Q258 ?_
  refine Q269 ?_
  apply Yd (rg [(0,2),(4,1),(9,11),(42,49)]) (σ:=Nat) (fun zz=>match zz with|m=>[(9,.val (.int .i64 m))]) (fun zz=>match zz with|m=>m≤ycx.length∧supB (En.mk da cl ins) (In.mk xc (Ty.mk hk hs hn hl) xcx xbs xp) (In.mk yc (Ty.mk yk ys yn yl) ycx ybs yp) (ycx.drop m)=sb) (fun zz=>match zz with|m=>ycx.length - m) (0)
  ·repeat' (first|exact Wc|apply Wa rfl|apply Wb rfl)
  ·exact ⟨Nat.zero_le _,hsb⟩
  ·exact by4
  rintro m hI
  try dsimp only [List.cons_append,List.nil_append] at hI ⊢
  obtain ⟨m1,hm⟩:=hI
  refine Q503 ?_
  refine Q152 ?_;intro n45
  refine Q19 ?_;intro c46 h46
  refine Q226 ?_
  rcases Za h46 with ⟨rfl,g46⟩|⟨rfl,g46⟩
  ·refine Q440 ?_
   rw [Wf (by omega),supB] at hm;rw [if_neg (by rw [← hm];simp)] at hu;exact ⟨i+1,⟨by omega,hu⟩,by show csu.length - (i+1)<csu.length - i;omega,by4,(Xq _ (Xn _))⟩
  refine Q265 ?_
  obtain ⟨⟨pc,⟨tk,ts,tn,tl⟩⟩,hp⟩:=Zr (l:=ycx) (i:=m) (by omega)
  have hcp:=Pr.cellss_get hp
  simp only [Pr.cells,Ty.cells] at hcp
  rw [Yh hp,supB] at hm
  obtain ⟨sa,hsa⟩:∃ b,supA (En.mk da cl ins) (In.mk xc (Ty.mk hk hs hn hl) xcx xbs xp) (Pr.mk pc (Ty.mk tk ts tn tl)) yl 0=b:=⟨_,rfl⟩
  have hm:(if supA (En.mk da cl ins) (In.mk xc (Ty.mk hk hs hn hl) xcx xbs xp) (Pr.mk pc (Ty.mk tk ts tn tl)) yl 0=false then false else supB (En.mk da cl ins) (In.mk xc (Ty.mk hk hs hn hl) xcx xbs xp) (In.mk yc (Ty.mk yk ys yn yl) ycx ybs yp) (ycx.drop (m+1)))=sb:=hm
  rw [hsa] at hm
  refine Q332 ?_
  apply Yd (rg [(0,2),(4,1),(10,10),(49,42)]) (σ:=Nat) (fun zz=>match zz with|j=>[(10,.val (.int .i64 j))]) (fun zz=>match zz with|j=>j≤yl.length∧supA (En.mk da cl ins) (In.mk xc (Ty.mk hk hs hn hl) xcx xbs xp) (Pr.mk pc (Ty.mk tk ts tn tl)) (yl.drop j) j=sa) (fun zz=>match zz with|j=>yl.length - j) (0)
  ·repeat' (first|exact Wc|apply Wa rfl|apply Wb rfl)
  ·exact ⟨Nat.zero_le _,hsa⟩
  ·exact by4
  rintro j hI
  try dsimp only [List.cons_append,List.nil_append] at hI ⊢
  obtain ⟨j1,hj⟩:=hI
  refine Q261 ?_
  refine Q11 ?_
  refine Q243 ?_
  refine Q47 ?_;intro n53
  refine Q19 ?_;intro c54 h54
  refine Q226 ?_
  rcases Za h54 with ⟨rfl,g54⟩|⟨rfl,g54⟩
  ·refine Q440 ?_
   rw [Wf (by omega),supA] at hj;rw [if_neg (by rw [← hj];simp)] at hm;exact ⟨m+1,⟨by omega,hm⟩,by show ycx.length - (m+1)<ycx.length - m;omega,by4,by3⟩
  refine Q265 ?_
  obtain ⟨⟨ak,as_,an,al⟩,ha⟩:=Zr (l:=yl) (i:=j) (by omega)
  obtain ⟨⟨bk,bs,bn,bl⟩,hb⟩:=Zr (l:=hl) (i:=j) (by omega)
  have hca:=Ty.cellss_get ha
  have hcb:=Ty.cellss_get hb
  simp only [Ty.cells] at hca hcb
  rw [Yh ha,supA] at hj
  have hj:(if sameB as_ ts=true∧givenR (En.mk da cl ins) (In.mk xc (Ty.mk hk hs hn hl) xcx xbs xp) pc (((hl[j]?).map Ty.name).getD kE)=false then false else supA (En.mk da cl ins) (In.mk xc (Ty.mk hk hs hn hl) xcx xbs xp) (Pr.mk pc (Ty.mk tk ts tn tl)) (yl.drop (j+1)) (j+1))=sa:=hj
  rw [hb] at hj
  have hj:(if sameB as_ ts=true∧givenR (En.mk da cl ins) (In.mk xc (Ty.mk hk hs hn hl) xcx xbs xp) pc bs=false then false else supA (En.mk da cl ins) (In.mk xc (Ty.mk hk hs hn hl) xcx xbs xp) (Pr.mk pc (Ty.mk tk ts tn tl)) (yl.drop (j+1)) (j+1))=sa:=hj
  have HG1:=HG pc bs
  obtain ⟨gv,hgv⟩:∃ b,givenR (En.mk da cl ins) (In.mk xc (Ty.mk hk hs hn hl) xcx xbs xp) pc bs=b:=⟨_,rfl⟩
  rw [hgv] at hj HG1
  refine c_boold 90 (as_=ts∧¬ gv=true) Xl V ?_ _ _ V ?_
  ·skip
   refine Q55 ?_
   refine Q466 ?_
   refine Zx 61 V V (Zg V te_22 V (.seq _ _) V V (by first|exact hca|exact hcb|exact hcp) ⟨V,V⟩) ?_
   refine Q293 ?_
   refine Q466 ?_
   refine Zx 67 V V (Zg V te_120 V (.seq _ _) V V (by first|exact hca|exact hcb|exact hcp) ⟨V,V⟩) ?_
   refine Q541 ?_
   refine Yr 71 V V (fun _ q=>op_seql V V V q) ?_;intro c71 h71
   refine Q20 ?_
   rcases Za h71 with ⟨rfl,g71⟩|⟨rfl,g71⟩
   ·skip
    refine Q348 ?_
    refine Q348 ?_
    refine Q12 ?_
    refine Q33 ?_
    show BoolQ _ _ _ _ _ _
    refine Xx V ?_ by5 by3
    clear HC HG HI HI1 HG1 hii hya hin;first|(simp_all;done)|grind
   skip
   refine Q154 ?_
   refine Q185 ?_
   refine Q444 ?_
   refine Q50 ?_
   refine Yg 78 V V V V (Zg V te_120 V (.seq _ _) V V (by first|exact hca|exact hcb|exact hcp) ⟨V,V⟩) ?_
   refine Q333 ?_
   refine Q48 ?_
   refine Q443 ?_
   refine Yg 85 V V V V (Zg V te_22 V (.seq _ _) V V (by first|exact hca|exact hcb|exact hcp) ⟨V,V⟩) ?_
   refine Q333 ?_
   refine Ys 88 V V V V (fun _ q=>Ze (xs:=[.tmp 73,.tmp 74,.tmp 80,.tmp 87]) V V (HG1) by1 q) ?_;intro c88 h88
   refine Ys 89 V V V V (fun _ q=>op_notc V V q) ?_;intro c89 h89
   try replace h89:=Yo h89 h88
   refine Q33 ?_
   show BoolQ _ _ _ _ _ _
   refine Xx V ?_ by5 by3
   clear HC HG HI HI1 HG1 hii hya hin;first|(simp_all;done)|grind
  intro c90 h90
  refine Q1 ?_
  rcases Za h90 with ⟨rfl,g90⟩|⟨rfl,g90⟩
  ·refine Q305 ?_
   rw [if_neg (fun q=>g90 ⟨Xb.1 q.1,by rw [q.2];simp⟩)] at hj;exact ⟨j+1,⟨by omega,hj⟩,by show yl.length - (j+1)<yl.length - j;omega,by4,by3⟩
  refine Q285 ?_
  rw [if_pos ⟨sameB_yes g90.1,by simpa using g90.2⟩] at hj;rw [if_pos hj.symm] at hm;rw [if_pos hm.symm] at hu;subst hu;exact Zf rfl rfl (Xt _) (Xo _) ⟨⟨_,iff_f (by simp),rfl⟩,rfl⟩
 refine Q285 ?_
 have hrf:r=false:=by
  rw [← hu]
  split
  ·rfl
  rw [if_pos g36]
 subst hrf;exact Zf rfl rfl (Xt _) (Xo _) ⟨⟨_,iff_f (by simp),rfl⟩,rfl⟩
theorem insts1_ok (v:En):∀ (l:List In) (i:Nat),(insts1 v i l).1=0→∀ (j:Nat) (x:In),l[j]?=some x→(instR v (i+j) x).1=0
 | [],i,_,j,x,h=>by simp at h
 | y::l,i,h0,j,x,h=>by
  rw [insts1] at h0
  by_cases q:(instR v i y).1≠0
  ·rw [if_pos q] at h0;exact absurd h0 q
  rw [if_neg q] at h0
  cases j with
  | zero=>simp at h;subst h;simpa using q
  | succ j =>
   have:=insts1_ok v l (i+1) h0 j x (by simpa using h)
   rw [show i+(j+1)=i+1+j by omega];exact this
theorem instR_ok {v:En} {i:Nat} {x:In} (h:(instR v i x).1=0):0≤classI v x.c∧headR v x=0:=by
 unfold instR at h
 by_cases q:classI v x.c<0
 ·rw [if_pos q] at h;simp at h
 rw [if_neg q] at h
 refine ⟨by omega,?_⟩
 obtain ⟨c,hc,_⟩:=findI_get (fun (c:Cl)=>sameB c.s x.c) v.cl 0 (show 0≤classI v x.c by omega)
 have hc:v.cl[(classI v x.c).toNat]?=some c:=hc
 rw [hc] at h
 simp only [instR1] at h
 by_cases q2:headR v x≠0
 ·rw [if_pos q2] at h;exact absurd h q2
 exact Classical.not_not.1 q2
theorem Check_c (p:Pg) (hp:EnB (envOf p)) (hb:p.bs.length≤1000000):PCall Tryz.prog 38 [.agg p.cells] (faultA (checkR p)):=by
 have HD:=datas_c (envOf p) hp
 have HC:=classes_c (envOf p) hp
 have HI:=fun i x h=>instance_c (envOf p) hp i x h
 have HS:=fun x h1 h2 h3=>supers_c (envOf p) hp x h1 h2 h3
 have HM:=fun s=>Method_c (envOf p) s
 have hok:=fun h j x hx=>instR_ok (insts1_ok (envOf p) (envOf p).ins 0 h j x hx)
 have hinl:=hp.ins
 obtain ⟨r,hr⟩:∃ r,checkR p=r:=⟨_,rfl⟩
 rw [hr]
 unfold checkR at hr
 simp only [] at hr
 obtain ⟨da,cl,ins,bs⟩:=p
 have hev:envOf (Pg.mk da cl ins bs)=En.mk da cl ins:=rfl
 rw [hev] at HD HC HI HS HM hok hinl
 obtain ⟨⟨de,dp⟩,hde⟩:∃ f,datasR (En.mk da cl ins)=f:=⟨_,rfl⟩
 obtain ⟨⟨ce,cp⟩,hce⟩:∃ f,classesR (En.mk da cl ins)=f:=⟨_,rfl⟩
 obtain ⟨⟨ie,ip⟩,hie⟩:∃ f,insts1 (En.mk da cl ins) 0 ins=f:=⟨_,rfl⟩
 obtain ⟨⟨je,jp⟩,hje⟩:∃ f,insts2 (En.mk da cl ins) ins=f:=⟨_,rfl⟩
 have hr:(if (datasR (En.mk da cl ins)).1≠0 then datasR (En.mk da cl ins) else if (classesR (En.mk da cl ins)).1≠0 then classesR (En.mk da cl ins) else if (insts1 (En.mk da cl ins) 0 ins).1≠0 then insts1 (En.mk da cl ins) 0 ins else if (insts2 (En.mk da cl ins) ins).1≠0 then insts2 (En.mk da cl ins) ins else binds1 (En.mk da cl ins) [] bs)=r:=hr
 rw [hde,hce,hie,hje] at hr
 rw [hde] at HD
 rw [hce] at HC
 have hok:ie=0→∀ j x,ins[j]?=some x→0≤classI (En.mk da cl ins) x.c∧headR (En.mk da cl ins) x=0:=fun h j x hx=>hok (by show (insts1 (En.mk da cl ins) 0 ins).1=0;rw [hie];exact h) j x hx
 have hinl:ins.length≤100000:=hinl
 have hb:bs.length≤1000000:=hb
 have hli:=In.cellss_len ins
 have hlb:=Bi.cellss_len bs
 have hr:(if de≠0 then (de,dp) else if ce≠0 then (ce,cp) else if ie≠0 then (ie,ip) else if je≠0 then (je,jp) else binds1 (En.mk da cl ins) [] bs)=r:=hr
 simp only [En.cells,Pg.cells,faultA,En.ins,En.cl] at HD HC HI HS HM ⊢
 refine Zc Tryz.func38 V (by kernel_rfl) V (Xz V) ?_
 refine Q458 ?_
 refine Q105 ?_;intro b2
 refine Q258 ?_
 refine Q235 ?_
 refine Q235 ?_
 refine Q235 ?_
 refine Zb 16 V V V (Zp (ns:=[0,1,2]) (xs:=[.tmp 11,.tmp 13,.tmp 15]) V tz_41 V tfl_41 V V V V ?_)
 refine Q155 ?_;intro b3
 refine Q156 ?_
 refine Q258 ?_
 refine Q188 ?_
 refine Zb 18 V V V (Zd (xs:=[.tmp 17]) V V (HD) by1 ?_)
 refine Q105 ?_;intro b4
 refine Q82 ?_
 refine Q345 ?_
 refine Q34 ?_;intro c21 h21
 refine Q226 ?_
 rcases Za h21 with ⟨rfl,g21⟩|⟨rfl,g21⟩
 ·refine Q242 ?_
  rw [if_neg g21] at hr
  refine Q4 ?_
  refine Q189 ?_
  refine Zb 24 V V V (Zd (xs:=[.tmp 23]) V V (HC) by1 ?_)
  refine Q82 ?_
  refine Q345 ?_
  refine Q34 ?_;intro c27 h27
  refine Q226 ?_
  rcases Za h27 with ⟨rfl,g27⟩|⟨rfl,g27⟩
  ·refine Q324 ?_
   rw [if_neg g27] at hr
   refine Q332 ?_
   apply Ym (rg [(0,1),(5,1),(9,34)]) (σ:=Nat × Int × Int) (fun zz=>match zz with|(i,fe,fa)=>[(5,.val (.int .i64 i))]) (fun zz=>match zz with|(i,fe,fa)=>[.loc b4 [.val (.int .i64 fe),.val (.int .i64 fa)],.loc b3 [.seq 5 (Da.cellss da),.seq 6 (Cl.cellss cl),.seq 8 (In.cellss ins)],.loc b2 zF]) (fun zz=>match zz with|(i,fe,fa)=>i≤ins.length∧insts1 (En.mk da cl ins) i (ins.drop i)=(ie,ip)) (fun zz=>match zz with|(i,fe,fa)=>ins.length - i) ((0,ce,cp))
   ·repeat' (first|exact Wc|apply Wa rfl|apply Wb rfl)
   ·exact ⟨Nat.zero_le _,hie⟩
   ·exact by4
   ·exact (Xs V)
   rintro ⟨i,fe,fa⟩ hI
   try dsimp only [List.cons_append,List.nil_append] at hI ⊢
   obtain ⟨h1,hu⟩:=hI
   refine Q261 ?_
   refine Q272 ?_
   refine Q147 ?_;intro n32
   refine Q19 ?_;intro c33 h33
   refine Q226 ?_
   rcases Za h33 with ⟨rfl,g33⟩|⟨rfl,g33⟩
   ·refine Q347 ?_
    rw [Wf (by omega),insts1] at hu
    have hie0:ie=0:=(congrArg Prod.fst hu).symm
    rw [if_neg (by rw [hie0];simp)] at hr
    have hok:=hok hie0
    have hha:∀ y∈ins,headR (En.mk da cl ins) y=0:=fun y hy=>by
     obtain ⟨j,hj⟩:=List.getElem?_of_mem hy
     exact (hok j y hj).2
    refine Q332 ?_
    apply Yd (rg [(0,1),(4,3),(9,56)]) (σ:=Nat) (fun zz=>match zz with|i2=>[(6,.val (.int .i64 i2))]) (fun zz=>match zz with|i2=>i2≤ins.length∧insts2 (En.mk da cl ins) (ins.drop i2)=(je,jp)) (fun zz=>match zz with|i2=>ins.length - i2) (0)
    ·repeat' (first|exact Wc|apply Wa rfl|apply Wb rfl)
    ·exact ⟨Nat.zero_le _,hje⟩
    ·exact by4
    rintro i2 hI
    try dsimp only [List.cons_append,List.nil_append] at hI ⊢
    obtain ⟨h2,hw⟩:=hI
    refine Q261 ?_
    refine Q272 ?_
    refine Q147 ?_;intro n46
    refine Q19 ?_;intro c47 h47
    refine Q226 ?_
    rcases Za h47 with ⟨rfl,g47⟩|⟨rfl,g47⟩
    ·refine Q347 ?_
     rw [Wf (by omega),insts2] at hw
     have hje0:je=0:=(congrArg Prod.fst hw).symm
     rw [if_neg (by rw [hje0];simp)] at hr
     refine Q332 ?_
     apply Yd (rg [(0,1),(4,102)]) (σ:=Nat) (fun zz=>match zz with|i3=>[(7,.val (.int .i64 i3))]) (fun zz=>match zz with|i3=>i3≤bs.length∧binds1 (En.mk da cl ins) ((bs.take i3).map Bi.s) (bs.drop i3)=r) (fun zz=>match zz with|i3=>bs.length - i3) (0)
     ·repeat' (first|exact Wc|apply Wa rfl|apply Wb rfl)
     ·exact ⟨Nat.zero_le _,hr⟩
     ·exact by4
     rintro i3 hI
     try dsimp only [List.cons_append,List.nil_append] at hI ⊢
     obtain ⟨h3,ht⟩:=hI
     refine Q339 ?_
     refine Q149 ?_;intro n68
     refine Q19 ?_;intro c69 h69
     refine Q226 ?_
     rcases Za h69 with ⟨rfl,g69⟩|⟨rfl,g69⟩
     ·refine Q538 ?_
      refine Q393 ?_
      rw [Wf (by omega),binds1] at ht;subst ht;exact Zj (i:=2) rfl rfl rfl Xi rfl (Xt _) (Xo _) ⟨rfl,rfl⟩
     refine Q265 ?_
     obtain ⟨⟨xs,⟨yk,ys,yn,⟨ytk,yts,ytn,ytl⟩,yks,yal,ybs,yp⟩,xp⟩,hxx⟩:=Zr (l:=bs) (i:=i3) (by omega)
     have hcx:=Bi.cellss_get hxx
     simp only [Bi.cells,Ex.cells,Ty.cells,List.cons_append,List.nil_append] at hcx
     rw [Yh hxx,binds1] at ht
     have hsn:=Yl hxx
     have HB:=(Bnd_c (bs.take i3) (by rw [List.length_take];omega)).pure
     rw [← Bi.cellss_take] at HB
     have HM1:=HM xs
     have ht:(if 0≤(methI xs cl 0).1∨hasB ((bs.take i3).map Bi.s) xs=true then ((120:Int),xp) else binds1 (En.mk da cl ins) ((bs.take i3).map Bi.s++[xs]) (bs.drop (i3+1)))=r:=ht
     obtain ⟨⟨m1,m2⟩,hm⟩:∃ f,methI xs cl 0=f:=⟨_,rfl⟩
     rw [hm] at ht HM1
     simp only [] at ht HM1
     have HH:=Has_c ((bs.take i3).map Bi.s) xs
     refine Q51 ?_
     refine Q190 ?_
     refine Q370 ?_
     refine Zx 77 V V (Zg V te_79 V (.seq _ _) V V (hcx) ⟨V,V⟩) ?_
     refine Q293 ?_
     refine Zx 80 V V (Zd (xs:=[.tmp 73,.tmp 79]) V V (HM1) by1 ⟨V,V⟩) ?_
     refine Q20 ?_
     refine Q544 ?_
     show AGo _ _ _ _ _ _ _
     refine Q373 ?_
     refine c_boold 98 (0≤m1∨xs∈(bs.take i3).map Bi.s) Xl V ?_ _ _ V ?_
     ·skip
      refine Q20 ?_
      refine Yr 84 V V (fun _ q=>op_geq V V V q) ?_;intro c84 h84
      refine Q20 ?_
      rcases Za h84 with ⟨rfl,g84⟩|⟨rfl,g84⟩
      ·skip
       refine Q443 ?_
       refine Yg 89 V V V V (op_cuth V te_79 V (.seq _ _) V V (by omega) ⟨V,V⟩) ?_
       refine Yg 90 V V V V (Zd (xs:=[.tmp 89]) V V (HB) by1 ⟨V,V⟩) ?_
       refine Q443 ?_
       refine Yg 94 V V V V (Zg V te_79 V (.seq _ _) V V (hcx) ⟨V,V⟩) ?_
       refine Q333 ?_
       refine Ys 97 V V V V (fun _ q=>Ze (xs:=[.tmp 90,.tmp 96]) V V (HH) by1 q) ?_;intro c97 h97
       refine Q33 ?_
       show BoolQ _ _ _ _ _ _
       refine Xx V ?_ by5 by3
       clear HD HC HI HS HM HB HM1 HH;first|(simp_all;done)|(simp_all;omega)|grind
      skip
      refine Q348 ?_
      refine Q281 ?_
      refine Q33 ?_
      show BoolQ _ _ _ _ _ _
      refine Xx V ?_ by5 by3
      clear HD HC HI HS HM HB HM1 HH;first|(simp_all;done)|(simp_all;omega)|grind
     intro c98 h98
     refine Q1 ?_
     rcases Za h98 with ⟨rfl,g98⟩|⟨rfl,g98⟩
     ·refine Q305 ?_
      rw [if_neg (fun q=>g98 (q.imp_right hasB_iff.1))] at ht;exact ⟨i3+1,⟨by omega,by rw [hsn,List.map_append];exact ht⟩,by show bs.length - (i3+1)<bs.length - i3;omega,by4,by3⟩
     refine Q534 ?_
     refine Zb 102 V V V (Zg V te_79 V (.seq _ _) V V (hcx) ?_)
     refine Q235 ?_
     refine Zb 105 V V V (Zp (ns:=[0,1]) (xs:=[.const (.int .i64 120),.tmp 104]) V tz_85 V tfl_85 V V V V ?_)
     refine Q393 ?_
     rw [if_pos (g98.imp_right hasB_iff.2)] at ht;subst ht;exact Zj (i:=2) rfl rfl rfl Xi rfl (Xt _) (Xo _) ⟨rfl,rfl⟩
    refine Q265 ?_
    obtain ⟨x,hx⟩:=Zr (l:=ins) (i:=i2) (by omega)
    have hgx:=In.cellss_get hx
    have HS1:=HS x (We hx) (hok i2 x hx).1 hha
    rw [Yh hx,insts2] at hw
    obtain ⟨xc,⟨hk,hs,hn,hl⟩,xcx,xbs,xp⟩:=x
    have hw:(if supersR (En.mk da cl ins) (In.mk xc (Ty.mk hk hs hn hl) xcx xbs xp)=false then ((126:Int),xp) else insts2 (En.mk da cl ins) (ins.drop (i2+1)))=(je,jp):=hw
    obtain ⟨sv,hsv⟩:∃ b,supersR (En.mk da cl ins) (In.mk xc (Ty.mk hk hs hn hl) xcx xbs xp)=b:=⟨_,rfl⟩
    rw [hsv] at hw HS1
    simp only [In.cells,Ty.cells,List.cons_append,List.nil_append] at hgx HS1
    refine Q51 ?_
    refine Q190 ?_
    refine Q425 ?_
    refine Q20 ?_
    refine Zx 54 V V (Zg V te_39 V (.seq _ _) V V (hgx) ⟨V,V⟩) ?_
    refine Zx 55 V V (Yb (cs':=[_,_,_,_,_,_,_,_]) V ta_122 V V V ⟨V,V⟩) ?_
    refine Yr 56 V V (fun _ q=>Ze (xs:=[.tmp 50,.tmp 55]) V V (HS1) by1 q) ?_;intro c56 h56
    refine Yr 57 V V (fun _ q=>op_notc V V q) ?_;intro c57 h57
    try replace h57:=Yo h57 h56
    show AGo _ _ _ _ _ _ _
    refine Q1 ?_
    rcases Za h57 with ⟨rfl,g57⟩|⟨rfl,g57⟩
    ·refine Q305 ?_
     rw [if_neg (fun q=>g57 (by rw [q];simp))] at hw;exact ⟨i2+1,⟨by omega,hw⟩,by show ins.length - (i2+1)<ins.length - i2;omega,by4,by3⟩
    refine Q240 ?_
    refine Q272 ?_
    refine Q5 ?_
    refine Zb 61 V V V (Zg V te_39 V (.seq _ _) V V (hgx) ?_)
    refine Q235 ?_
    refine Zb 64 V V V (Zp (ns:=[0,1]) (xs:=[.const (.int .i64 126),.tmp 63]) V tz_85 V tfl_85 V V V V ?_)
    refine Q393 ?_
    rw [if_pos (by simpa using g57)] at hw;cases hw;rw [if_pos (by simp)] at hr;subst hr;exact Zj (i:=2) rfl rfl rfl Xi rfl (Xt _) (Xo _) ⟨rfl,rfl⟩
   refine Q265 ?_
   obtain ⟨x,hx⟩:=Zr (l:=ins) (i:=i) (by omega)
   have HI1:=HI i x hx
   rw [Yh hx,insts1] at hu
   obtain ⟨⟨ke,kp⟩,hk⟩:∃ f,instR (En.mk da cl ins) i x=f:=⟨_,rfl⟩
   rw [hk] at HI1 hu
   simp only [] at hu HI1
   refine Q4 ?_
   refine Q189 ?_
   refine Q5 ?_
   refine Zb 38 V V V (Zd (xs:=[.tmp 36,.tmp 37]) V V (HI1) by1 ?_)
   refine Q82 ?_
   refine Q378 ?_
   refine Q34 ?_;intro c41 h41
   refine Q226 ?_
   rcases Za h41 with ⟨rfl,g41⟩|⟨rfl,g41⟩
   ·refine Q305 ?_
    rw [if_neg g41] at hu;exact ⟨(i+1,ke,kp),⟨by show i+1≤ins.length;omega,hu⟩,by show ins.length - (i+1)<ins.length - i;omega,by4,(Xs rfl)⟩
   refine Q240 ?_
   refine Q128 ?_
   refine Q393 ?_
   rw [if_pos g41] at hu;cases hu;rw [if_pos g41] at hr;subst hr;exact Zj (i:=2) rfl rfl rfl Xi rfl (Xt _) (Xo _) ⟨rfl,rfl⟩
  refine Q240 ?_
  refine Q128 ?_
  refine Q393 ?_
  rw [if_pos g27] at hr;subst hr;exact Zj (i:=2) rfl rfl rfl Xi rfl (Xt _) (Xo _) ⟨rfl,rfl⟩
 refine Q240 ?_
 refine Q128 ?_
 refine Q393 ?_
 rw [if_pos g21] at hr;subst hr;exact Zj (i:=2) rfl rfl rfl Xi rfl (Xt _) (Xo _) ⟨rfl,rfl⟩
theorem over_exit {s:ByteArray} {j:Nat} {d:UInt8} (hd:j<s.size→s[j]?=some d∧rst s j=d.toNat::rst s (j+1)∧d.toNat<256) (h:¬ (j<s.size∧d.toNat≠10)):ovr true (rst s j)=ovr false (rst s j):=by
 by_cases q:j<s.size
 ·have h2:d.toNat=10:=Classical.not_not.1 fun h3=>h ⟨q,h3⟩
  rw [(hd q).2.1,h2,ovr_10]
 rw [rst_nil (by omega),ovr_nil,ovr_nil]
theorem over_c (s:ByteArray) (hs:s.size≤60000) (at_:Nat) (ha:at_≤s.size):PCall Tryz.prog 158 [.val (.string s),.val (.int .i64 at_)] (.val (.int .i64 ((at_+ovr false (rst s at_):Nat):Int))):=by
 have HB:=blank_c
 refine Zc Tryz.func158 V (by kernel_rfl) V (Xz V) ?_
 refine Q237 ?_
 refine Q387 ?_
 refine c_loop (σ:=Nat) (fun zz=>match zz with|i=>[(0,.val (.string s)),(1,.val (.int .i64 i))]) (fun zz=>match zz with|i=>[]) (fun zz=>match zz with|i=>i≤s.size∧i+ovr false (rst s i)=at_+ovr false (rst s at_)) (fun zz=>match zz with|i=>s.size - i) (at_) ?_ ?_ ?_ ?_
 ·exact ⟨ha,V⟩
 ·exact by4
 ·exact by3
 rintro i hI
 try dsimp only [List.cons_append,List.nil_append] at hI ⊢
 obtain ⟨hi,hu⟩:=hI
 refine Q292 ?_
 obtain ⟨b,hb⟩:=byteAt_ s i
 refine Zy 20 (i<s.size∧(blankC b.toNat=true∨b.toNat=35)) ?_ _ _ V ?_
 ·skip
  refine Q277 ?_
  refine Q424 ?_;intro c8 h8
  refine Q5 ?_
  rcases Za h8 with ⟨rfl,g8⟩|⟨rfl,g8⟩
  ·skip
   refine Q294 ?_
   refine Q389 ?_
   refine Q236 ?_
   refine Xx V ?_ by5 by3
   clear HB hu hb;first|(simp_all;done)|grind
  skip
  refine Q312 ?_
  refine Zq 12 V V V V V (Zz V Xf V V V ((hb (by omega)).1) ?_)
  refine Zq 13 V V V V V (Ze (xs:=[.tmp 12]) V V (HB _) by1 ?_);intro c13 h13
  refine Q16 ?_
  rcases Za h13 with ⟨rfl,g13⟩|⟨rfl,g13⟩
  ·skip
   refine Q312 ?_
   refine Zq 17 V V V V V (Zz V Xf V V V ((hb (by omega)).1) ?_)
   refine Q38 ?_;intro c18 h18
   refine Q299 ?_
   refine Xx V ?_ by5 by3
   clear HB hu hb;first|(simp_all;done)|grind
  skip
  refine Q251 ?_
  refine Q299 ?_
  refine Xx V ?_ by5 by3
  clear HB hu hb;first|(simp_all;done)|grind
 intro c20 h20
 refine Q1 ?_
 rcases Za h20 with ⟨rfl,g20⟩|⟨rfl,g20⟩
 ·refine Q364 ?_
  refine Zf V V (Le.inteq ?_) by3 ⟨V,V⟩
  rw [← hu]
  by_cases q:i<s.size
  ·rw [(hb q).2.1,ovr_stop _ (fun h=>g20 ⟨q,.inr h⟩) (fun h=>g20 ⟨q,.inl h⟩)];simp
  rw [rst_nil (by omega),ovr_nil];simp
 refine Q330 ?_
 refine Q229 ?_
 refine Q5 ?_
 refine Zb 23 V V V (Zz V Xf V V V ((hb g20.1).1) ?_)
 refine Q17 ?_;intro c24 h24
 refine Q226 ?_
 rcases Za h24 with ⟨rfl,g24⟩|⟨rfl,g24⟩
 ·refine Q8 ?_
  refine Q531 ?_
  first
  | (have hx:=over_exit hd g34
     have hij:i<j:=by
      rcases Nat.lt_or_ge i j with q|q
      ·exact q
      have:j=i:=by omega
      subst this
      have e:=(hd g20.1).1.symm.trans (hb g20.1).1
      cases e
      exact absurd ⟨g20.1,by omega⟩ g34
     exact ⟨j,⟨j2,by rw [← hx];exact hj⟩,by simp;omega,by4,by3⟩)
  | (refine ⟨i+1,⟨by omega,?_⟩,by simp;omega,by4,by3⟩
     have hn:b.toNat≠35:=by omega
     rw [(hb g20.1).2.1,ovr_blank _ hn (g20.2.resolve_right hn)] at hu
     omega)
 refine Q9 ?_
 refine c_block ?_
 apply Yd (rg [(1,3),(25,12)]) (σ:=Nat) (fun zz=>match zz with|j=>[(1,.val (.int .i64 j))]) (fun zz=>match zz with|j=>i≤j∧j≤s.size∧j+ovr true (rst s j)=at_+ovr false (rst s at_)) (fun zz=>match zz with|j=>s.size - j) (i)
 ·repeat' (first|exact Wc|apply Wa rfl|apply Wb rfl)
 ·exact ⟨Nat.le_refl _,hi,by rw [← hu,(hb g20.1).2.1,show b.toNat=35 by omega,ovr_35]⟩
 ·exact by4
 rintro j hI
 try dsimp only [List.cons_append,List.nil_append] at hI ⊢
 obtain ⟨j1,j2,hj⟩:=hI
 refine Q292 ?_
 obtain ⟨d,hd⟩:=byteAt_ s j
 refine Zy 34 (j<s.size∧d.toNat≠10) ?_ _ _ V ?_
 ·skip
  refine Q277 ?_
  refine Q424 ?_;intro c28 h28
  refine Q5 ?_
  rcases Za h28 with ⟨rfl,g28⟩|⟨rfl,g28⟩
  ·skip
   refine Q376 ?_
   refine Xx V ?_ by5 by3
   simp_all;omega
  skip
  refine Q312 ?_
  refine Zq 32 V V V V V (Zz V Xf V V V ((hd (by omega)).1) ?_)
  refine Q66 ?_;intro c33 h33
  refine Q236 ?_
  refine Xx V ?_ by5 by3
  simp_all;omega
 intro c34 h34
 refine Q1 ?_
 rcases Za h34 with ⟨rfl,g34⟩|⟨rfl,g34⟩
 ·refine Q248 ?_
  refine Q295 ?_
  first
  | (have hx:=over_exit hd g34
     have hij:i<j:=by
      rcases Nat.lt_or_ge i j with q|q
      ·exact q
      have:j=i:=by omega
      subst this
      have e:=(hd g20.1).1.symm.trans (hb g20.1).1
      cases e
      exact absurd ⟨g20.1,by omega⟩ g34
     exact ⟨j,⟨j2,by rw [← hx];exact hj⟩,by simp;omega,by4,by3⟩)
  | (refine ⟨i+1,⟨by omega,?_⟩,by simp;omega,by4,by3⟩
     have hn:b.toNat≠35:=by omega
     rw [(hb g20.1).2.1,ovr_blank _ hn (g20.2.resolve_right hn)] at hu
     omega)
 refine Q330 ?_
 refine Q531 ?_
 refine ⟨j+1,⟨by omega,by omega,?_⟩,by simp;omega,by4,by3⟩
 rw [(hd g34.1).2.1,ovr_n10 _ g34.2] at hj
 omega
end Go.Proofs.YteepjjgooplljaaGreat
