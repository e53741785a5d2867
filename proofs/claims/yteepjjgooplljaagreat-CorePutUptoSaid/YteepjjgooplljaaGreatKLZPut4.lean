/- Parts of a proof: the document's lexer: among, Key, Mark; Utf, bad; the document's lexer: bad; the document's lexer: text; Walks of layer 1: int63.Wrap, Fits, Add, Sub, Mul, Quo, Rem, Cmp and the reference's Mod, Mean, Wrap, Add, Sub, Mul, size, Signed, Quo.; cognateref01.Parse of digits; the document's lexer: one; the document's lexer: one, names and signs; the document's lexer: one, digits; the document's lexer: one, Scan; the document's lexer: Scan; the document's parser: it goes on, and never comes out of the tokens; the document's parser: it goes on: expressions, declarations; how many tokens there are; what is parsed is not too much; the program's declarations: IndexFunc, find, Class, Inst; entail.same, fits; the program's declarations: Class, Inst, Above; entail.same, fits; core: Right; decls.Arity, core.Right; core.Right; Codes and primitives as plain data (printed by wip/gend29.py).; core: the type of an expression, as a plain function: what the program answers; core: find, with, mono; turn, Put of the program: types bounded node by node; core.typ: right types; variables; lambdas; core.typ: lambdas; walk, and what goes along with it: Vars, Metas, Size; prelude.rows, prelude.Prims (printed by wip/gen19.py). -/
import Derived.Test.YteepjjgooplljaaGreatKLZPut3
import Derived.Test.YteepjjgooplljaaGreatProg
import Derived.WalkKit
import Derived.WalkSpells
import Derived.WalkLawsBesides
import Derived.Lib.Hide
set_option maxRecDepth 100000
set_option maxHeartbeats 4000000
namespace Go.Proofs.YteepjjgooplljaaGreat
open Go.RowKit
theorem among_c (s:ByteArray) (l:List ByteArray):BCall Tryz.prog 213 [.val (.string s),.seq 1 (strs l)] (amongB s l=true):=by
 have hl:=Ye l
 refine Zc Tryz.func213 V (by kernel_rfl) V (Xz V) ?_
 refine Q15 ?_
 refine c_lens (t:=1) V (.seq _ _) (fun hmax=>?_)
 refine Q227 ?_
 refine Q337 ?_
 refine c_loop (σ:=Nat) (fun zz=>match zz with|i=>[(0,.val (.string s)),(1,.seq 1 (strs l)),(5,.val (.int .i64 i))]) (fun zz=>match zz with|i=>[]) (fun zz=>match zz with|i=>i≤l.length∧amongB s l=amongB s (l.drop i)) (fun zz=>match zz with|i=>l.length - i) (0) ?_ ?_ ?_ ?_
 ·exact ⟨Nat.zero_le _,V⟩
 ·exact by4
 ·exact by3
 rintro i hI
 try dsimp only [List.cons_append,List.nil_append] at hI ⊢
 obtain ⟨hi,hu⟩:=hI
 refine Q439 ?_;intro n8
 refine Q19 ?_;intro c9 h9
 refine Q226 ?_
 rcases Za h9 with ⟨rfl,g9⟩|⟨rfl,g9⟩
 ·refine Q322 ?_
  exact Zf V V (Xt _) by3 ⟨⟨_,iff_f (by rw [hu,List.drop_eq_nil_of_le (by omega)];simp [amongB]),V⟩,V⟩
 refine Q265 ?_
 obtain ⟨x,hx⟩:=Zr (l:=l) (i:=i) (by omega)
 have hcx:=strs_get hx
 have hd:l.drop i=x::l.drop (i+1):=by
  obtain ⟨h1,h2⟩:=List.getElem?_eq_some_iff.1 hx
  rw [List.drop_eq_getElem_cons h1,h2]
 refine Q314 ?_
 refine Q143 ?_
 refine Q14 ?_
 refine Q5 ?_
 refine Q60 ?_;intro c17 h17
 refine Q226 ?_
 rcases Za h17 with ⟨rfl,g17⟩|⟨rfl,g17⟩
 ·refine Q305 ?_
  exact ⟨i+1,⟨by omega,by rw [hu,hd];simp [amongB];intro q;contradiction⟩,by simp;omega,by4,by3⟩
 refine Q285 ?_
 exact Zf V V (Xt _) by3 ⟨⟨_,iff_t (by rw [hu,hd];simp [amongB];exact .inl (by assumption)),V⟩,V⟩
theorem Key_c (s:ByteArray):BCall Tryz.prog 197 [.val (.string s)] (keyT s=true):=by
 have H:=among_c s keysL
 rw [show amongB s keysL=keyT s from rfl] at H
 simp only [strs,keysL,List.map_cons,List.map_nil] at H
 refine Zc Tryz.func197 V (by kernel_rfl) V (Xz V) ?_
 refine Q438 ?_
 refine Zb 4 V V V (Zh (xs:=[.const (.string ⟨#[100,97,116,97]⟩),.const (.string ⟨#[99,108,97,115,115]⟩),.const (.string ⟨#[105,110,115,116,97,110,99,101]⟩),.const (.string ⟨#[102,114,111,109]⟩),.const (.string ⟨#[119,104,101,114,101]⟩),.const (.string ⟨#[101,110,100]⟩),.const (.string ⟨#[100,101,114,105,118,105,110,103]⟩),.const (.string ⟨#[100,101,102]⟩),.const (.string ⟨#[108,101,116]⟩),.const (.string ⟨#[114,101,99]⟩),.const (.string ⟨#[97,110,100]⟩),.const (.string ⟨#[105,110]⟩),.const (.string ⟨#[99,97,115,101]⟩),.const (.string ⟨#[111,102]⟩),.const (.string ⟨#[105,102]⟩),.const (.string ⟨#[116,104,101,110]⟩),.const (.string ⟨#[101,108,115,101]⟩)]) Xd V V V V V V (Xz V) ?_)
 refine Zb 5 V V V (Ze (xs:=[.tmp 3,.tmp 4]) V V (H) by1 ?_);intro c5 h5
 refine Q232 ?_
 exact Zf V V (Xt _) by3 ⟨⟨_,h5,V⟩,V⟩
theorem Mark_c (s:ByteArray):BCall Tryz.prog 196 [.val (.string s)] (markT s=true):=by
 have H:=among_c s marksL
 rw [show amongB s marksL=markT s from rfl] at H
 simp only [strs,marksL,List.map_cons,List.map_nil] at H
 refine Zc Tryz.func196 V (by kernel_rfl) V (Xz V) ?_
 refine Q438 ?_
 refine Zb 4 V V V (Zh (xs:=[.const (.string ⟨#[40]⟩),.const (.string ⟨#[41]⟩),.const (.string ⟨#[44]⟩),.const (.string ⟨#[59]⟩),.const (.string ⟨#[92]⟩),.const (.string ⟨#[95]⟩),.const (.string ⟨#[61]⟩),.const (.string ⟨#[45,62]⟩),.const (.string ⟨#[124]⟩),.const (.string ⟨#[58]⟩)]) Xd V V V V V V (Xz V) ?_)
 refine Zb 5 V V V (Ze (xs:=[.tmp 3,.tmp 4]) V V (H) by1 ?_);intro c5 h5
 refine Q232 ?_
 exact Zf V V (Xt _) by3 ⟨⟨_,h5,V⟩,V⟩
theorem utf_0 {c:Nat} (h:c<192∨248≤c):utfN c=0:=by unfold utfN;repeat' split <;> try omega
theorem utf_2 {c:Nat} (h1:192≤c) (h2:c<224):utfN c=2∧utfV c=c - 192∧utfM c=128:=by
 unfold utfN utfV utfM;simp only [if_neg (show ¬ c<192 by omega),if_pos h2,and_self]
theorem utf_3 {c:Nat} (h1:224≤c) (h2:c<240):utfN c=3∧utfV c=c - 224∧utfM c=2048:=by
 unfold utfN utfV utfM;simp only [if_neg (show ¬ c<192 by omega),if_neg (show ¬ c<224 by omega),if_pos h2,and_self]
theorem utf_4 {c:Nat} (h1:240≤c) (h2:c<248):utfN c=4∧utfV c=c - 240∧utfM c=65536:=by
 unfold utfN utfV utfM;simp only [if_neg (show ¬ c<192 by omega),if_neg (show ¬ c<224 by omega),if_neg (show ¬ c<240 by omega),if_pos h2,and_self]
def utfE (m:Int) (n:Nat):Option Int→Nat
 | none=>0
 | some v=>if v<m∨1114111<v∨(55296≤v∧v≤57343) then 0 else n
theorem utfL_go {c:Nat} {l:List Nat} (h1:¬ c<128) (h2:¬ (utfN c=0∨l.length+1<utfN c)):utfL (c::l)=utfE (utfM c) (utfN c) (cont (utfN c - 1) (utfV c) l):=by
 rw [utfL_cons,if_neg h1,if_neg h2]
 cases cont (utfN c - 1) (utfV c) l <;> rfl
theorem utfL_no {c:Nat} {l:List Nat} (h1:¬ c<128) (h2:utfN c=0∨l.length+1<utfN c):utfL (c::l)=0:=by
 rw [utfL_cons,if_neg h1,if_pos h2]
theorem pow_mono_ (i:Nat) (h:i≤4) (h1:1≤i):(64:Int) ^ (i - 1)≤262144∧(64:Int) ^ (i+1 - 1)=64 * 64 ^ (i - 1):=by
 rcases (by omega:i=1∨i=2∨i=3∨i=4) with rfl|rfl|rfl|rfl <;> decide
theorem Utf_no (s:ByteArray) (hs:s.size≤60000) (at_:Nat) (ha:at_<s.size) (b:UInt8) (hb:s[at_]?=some b) (hlt:b.toNat<256) (hq:b.toNat<192∨248≤b.toNat):PCall Tryz.prog 187 [.val (.string s),.val (.int .i64 at_)] (.val (.int .i64 (utfL (b.toNat::rst s (at_+1)):Nat))):=by
 have hn:=utf_0 hq
 refine Zc Tryz.func187 V (by kernel_rfl) V (Xz V) ?_
 refine Q408 ?_
 refine Zb 13 V V V (Zz V Xf V V V (hb) ?_)
 refine Q107 ?_
 refine Q545 ?_
 refine Q264 ?_
 refine Q462 ?_;intro c16 h16
 refine Q226 ?_
 rcases Za h16 with ⟨rfl,g16⟩|⟨rfl,g16⟩
 ·refine Q324 ?_
  refine Zy 22 (192≤b.toNat∧b.toNat<224) ?_ _ _ V ?_
  ·skip
   refine Q346 ?_;intro c18 h18
   refine Q5 ?_
   rcases Za h18 with ⟨rfl,g18⟩|⟨rfl,g18⟩
   ·skip
    refine Q307 ?_
    refine Xx V ?_ by5 by3
    simp_all;omega
   skip
   refine Q396 ?_;intro c21 h21
   refine Q236 ?_
   refine Xx V ?_ by5 by3
   simp_all;omega
  intro c22 h22
  refine Q1 ?_
  rcases Za h22 with ⟨rfl,g22⟩|⟨rfl,g22⟩
  ·refine Q324 ?_
   refine Zy 30 (224≤b.toNat∧b.toNat<240) ?_ _ _ V ?_
   ·skip
    refine Q346 ?_;intro c26 h26
    refine Q5 ?_
    rcases Za h26 with ⟨rfl,g26⟩|⟨rfl,g26⟩
    ·skip
     refine Q307 ?_
     refine Xx V ?_ by5 by3
     simp_all;omega
    skip
    refine Q396 ?_;intro c29 h29
    refine Q236 ?_
    refine Xx V ?_ by5 by3
    simp_all;omega
   intro c30 h30
   refine Q1 ?_
   rcases Za h30 with ⟨rfl,g30⟩|⟨rfl,g30⟩
   ·refine Q324 ?_
    refine Zy 38 (240≤b.toNat∧b.toNat<248) ?_ _ _ V ?_
    ·skip
     refine Q346 ?_;intro c34 h34
     refine Q5 ?_
     rcases Za h34 with ⟨rfl,g34⟩|⟨rfl,g34⟩
     ·skip
      refine Q307 ?_
      refine Xx V ?_ by5 by3
      simp_all;omega
     skip
     refine Q396 ?_;intro c37 h37
     refine Q236 ?_
     refine Xx V ?_ by5 by3
     simp_all;omega
    intro c38 h38
    refine Q1 ?_
    rcases Za h38 with ⟨rfl,g38⟩|⟨rfl,g38⟩
    ·refine Q324 ?_
     refine Zy 50 (True) ?_ _ _ V ?_
     ·skip
      refine Q401 ?_;intro c42 h42
      refine Q5 ?_
      rcases Za h42 with ⟨rfl,g42⟩|⟨rfl,g42⟩
      ·skip
       refine Q312 ?_
       refine Q120 ?_
       refine Q546 ?_
       refine Q71 ?_;intro c49 h49
       refine Q236 ?_
       refine Xx V ?_ by5 by3
       simp_all;done
      skip
      refine Q413 ?_
      refine Xx V ?_ by5 by3
      simp_all;done
     intro c50 h50
     refine Q1 ?_
     rcases Za h50 with ⟨rfl,g50⟩|⟨rfl,g50⟩
     ·exact absurd trivial g50
     refine Q285 ?_
     exact Zf V V (Le.inteq (by rw [utfL_no (c:=b.toNat) (l:=rst s (at_+1)) (by omega) (.inl hn)];rfl)) by3 ⟨V,V⟩
    omega
   omega
  omega
 refine Q285 ?_
 exact Zf V V (Le.inteq (by rw [utfL_cons,if_pos (by omega)];rfl)) by3 ⟨V,V⟩
theorem Utf_2 (s:ByteArray) (hs:s.size≤60000) (at_:Nat) (ha:at_<s.size) (b:UInt8) (hb:s[at_]?=some b) (q1:192≤b.toNat) (q2:b.toNat<224):PCall Tryz.prog 187 [.val (.string s),.val (.int .i64 at_)] (.val (.int .i64 (utfL (b.toNat::rst s (at_+1)):Nat))):=by
 have hl:=rst_len s (at_+1)
 obtain ⟨hn,hv,hm⟩:=utf_2 q1 q2
 have hno:=utfL_no (c:=b.toNat) (l:=rst s (at_+1)) (by omega)
 have hgo:=utfL_go (c:=b.toNat) (l:=rst s (at_+1)) (by omega)
 rw [hn,hl] at hno
 rw [hn,hm,hv,hl] at hgo
 clear hn hv hm
 refine Zc Tryz.func187 V (by kernel_rfl) V (Xz V) ?_
 refine Q408 ?_
 refine Zb 13 V V V (Zz V Xf V V V (hb) ?_)
 refine Q107 ?_
 refine Q545 ?_
 refine Q264 ?_
 refine Q462 ?_;intro c16 h16
 refine Q226 ?_
 rcases Za h16 with ⟨rfl,g16⟩|⟨rfl,g16⟩
 ·refine Q324 ?_
  refine Zy 22 (192≤b.toNat∧b.toNat<224) ?_ _ _ V ?_
  ·skip
   refine Q346 ?_;intro c18 h18
   refine Q5 ?_
   rcases Za h18 with ⟨rfl,g18⟩|⟨rfl,g18⟩
   ·skip
    refine Q307 ?_
    refine Xx V ?_ by5 by3
    simp_all;omega
   skip
   refine Q396 ?_;intro c21 h21
   refine Q236 ?_
   refine Xx V ?_ by5 by3
   simp_all;omega
  intro c22 h22
  refine Q1 ?_
  rcases Za h22 with ⟨rfl,g22⟩|⟨rfl,g22⟩
  ·omega
  refine Q240 ?_
  refine Q271 ?_
  refine Q65 ?_
  refine Q494 ?_
  refine Q306 ?_
  refine Zy 30 (224≤b.toNat∧b.toNat<240) ?_ _ _ V ?_
  ·skip
   refine Q346 ?_;intro c26 h26
   refine Q5 ?_
   rcases Za h26 with ⟨rfl,g26⟩|⟨rfl,g26⟩
   ·skip
    refine Q307 ?_
    refine Xx V ?_ by5 by3
    simp_all;omega
   skip
   refine Q396 ?_;intro c29 h29
   refine Q236 ?_
   refine Xx V ?_ by5 by3
   simp_all;omega
  intro c30 h30
  refine Q1 ?_
  rcases Za h30 with ⟨rfl,g30⟩|⟨rfl,g30⟩
  ·refine Q324 ?_
   refine Zy 38 (240≤b.toNat∧b.toNat<248) ?_ _ _ V ?_
   ·skip
    refine Q346 ?_;intro c34 h34
    refine Q5 ?_
    rcases Za h34 with ⟨rfl,g34⟩|⟨rfl,g34⟩
    ·skip
     refine Q307 ?_
     refine Xx V ?_ by5 by3
     simp_all;omega
    skip
    refine Q396 ?_;intro c37 h37
    refine Q236 ?_
    refine Xx V ?_ by5 by3
    simp_all;omega
   intro c38 h38
   refine Q1 ?_
   rcases Za h38 with ⟨rfl,g38⟩|⟨rfl,g38⟩
   ·refine Q324 ?_
    refine Zy 50 (s.size<at_+2) ?_ _ _ V ?_
    ·skip
     refine Q401 ?_;intro c42 h42
     refine Q5 ?_
     rcases Za h42 with ⟨rfl,g42⟩|⟨rfl,g42⟩
     ·skip
      refine Q312 ?_
      refine Q120 ?_
      refine Q546 ?_
      refine Q71 ?_;intro c49 h49
      refine Q236 ?_
      refine Xx V ?_ by5 by3
      simp_all;omega
     skip
     refine Q413 ?_
     refine Xx V ?_ by5 by3
     simp_all;done
    intro c50 h50
    refine Q1 ?_
    rcases Za h50 with ⟨rfl,g50⟩|⟨rfl,g50⟩
    ·refine Q324 ?_
     have hU:=hgo (by omega)
     refine c_le (al':=[(0,.val (.string s)),(1,.val (.int .i64 at_)),(6,.val (.int .i64 2)),(7,.val (.int .i64 ((b.toNat:Int) - 192))),(8,.val (.int .i64 128))]) by4 (Xn _) ?_
     refine Q332 ?_
     apply Yd (rg [(2,4),(7,1),(9,64)]) (σ:=Nat × Int) (fun zz=>match zz with|(i,v)=>[(7,.val (.int .i64 v)),(9,.val (.int .i64 i))]) (fun zz=>match zz with|(i,v)=>1≤i∧i≤2∧0≤v∧v+1≤32 * 64 ^ (i - 1)∧cont (2 - 1) (b.toNat - 192) (rst s (at_+1))=cont (2 - i) v (rst s (at_+i))) (fun zz=>match zz with|(i,v)=>2 - i) ((1,(b.toNat:Int) - 192))
     ·repeat' (first|exact Wc|apply Wa rfl|apply Wb rfl)
     ·refine ⟨Nat.le_refl _,by omega,by omega,?_,V⟩
      show (b.toNat:Int) - 192+1≤32 * 64 ^ 0
      omega
     ·exact by4
     rintro ⟨i,v⟩ hI
     try dsimp only [List.cons_append,List.nil_append] at hI ⊢
     obtain ⟨h1,h2,h3,h4,hu⟩:=hI
     have hp:=pow_mono_ i (by omega) h1
     refine Q505 ?_;intro c53 h53
     refine Q226 ?_
     rcases Za h53 with ⟨rfl,g53⟩|⟨rfl,g53⟩
     ·refine Q347 ?_
      have he:utfL (b.toNat::rst s (at_+1))=utfE 128 2 (some v):=by rw [hU,hu,show 2 - i=0 by omega];cases rst s (at_+i) <;> rfl
      refine Zy 87 (v<128∨1114111<v∨(55296≤v∧v≤57343)) ?_ _ _ V ?_
      ·skip
       refine Q277 ?_
       refine Q19 ?_;intro c75 h75
       refine Q5 ?_
       rcases Za h75 with ⟨rfl,g75⟩|⟨rfl,g75⟩
       ·skip
        refine Q509 ?_;intro c78 h78
        refine Q260 ?_
        rcases Za h78 with ⟨rfl,g78⟩|⟨rfl,g78⟩
        ·skip
         refine Q547 ?_;intro c82 h82
         refine Q16 ?_
         rcases Za h82 with ⟨rfl,g82⟩|⟨rfl,g82⟩
         ·skip
          refine Q231 ?_
          refine Q299 ?_
          refine Xx V ?_ by5 by3
          simp_all;omega
         skip
         refine Q496 ?_;intro c85 h85
         refine Q299 ?_
         refine Xx V ?_ by5 by3
         simp_all;omega
        skip
        refine Q510 ?_
        refine Xx V ?_ by5 by3
        simp_all;done
       skip
       refine Q369 ?_
       refine Q510 ?_
       refine Xx V ?_ by5 by3
       simp_all;done
      intro c87 h87
      refine Q1 ?_
      rcases Za h87 with ⟨rfl,g87⟩|⟨rfl,g87⟩
      ·refine Q321 ?_
       refine Q232 ?_
       exact Zf V V (Le.inteq (by rw [he,utfE,if_neg g87];rfl)) by3 ⟨V,V⟩
      refine Q285 ?_
      exact Zf V V (Le.inteq (by rw [he,utfE,if_pos g87];rfl)) by3 ⟨V,V⟩
     refine Q265 ?_
     obtain ⟨d,hd,hrd,hdl⟩:=Yz (s:=s) (i:=at_+i) (by omega)
     refine Q327 ?_
     refine Q18 ?_
     refine Zb 60 V V V (Zz (i:=at_+i) V Xf V V (by first|rfl|omega) (hd) ?_)
     refine Q107 ?_
     refine Q306 ?_
     refine Zy 67 (d.toNat<128∨191<d.toNat) ?_ _ _ V ?_
     ·skip
      refine Q508 ?_;intro c63 h63
      refine Q5 ?_
      rcases Za h63 with ⟨rfl,g63⟩|⟨rfl,g63⟩
      ·skip
       refine Q509 ?_;intro c66 h66
       refine Q236 ?_
       refine Xx V ?_ by5 by3
       simp_all;omega
      skip
      refine Q307 ?_
      refine Xx V ?_ by5 by3
      simp_all;omega
     intro c67 h67
     refine Q1 ?_
     rcases Za h67 with ⟨rfl,g67⟩|⟨rfl,g67⟩
     ·refine Q259 ?_
      refine Q234 ?_
      refine Q157 ?_
      refine Q493 ?_
      refine Q65 ?_
      refine Q349 ?_
      refine ⟨(i+1,64 * v+d.toNat - 128),⟨by omega,by omega,by omega,?_,?_⟩,by simp;omega,by4,by3⟩
      ·rw [hp.2];omega
      rw [hu,hrd,show 2 - i=(2 - (i+1))+1 by omega,cont,if_neg (by omega)];rfl
     refine Q285 ?_
     exact Zf V V (Le.inteq (by rw [hU,hu,hrd,show 2 - i=(2 - i - 1)+1 by omega,cont,if_pos (by omega)];rfl)) by3 ⟨V,V⟩
    refine Q285 ?_
    exact Zf V V (Le.inteq (by rw [hno (by omega)];rfl)) by3 ⟨V,V⟩
   omega
  omega
 omega
theorem Utf_3 (s:ByteArray) (hs:s.size≤60000) (at_:Nat) (ha:at_<s.size) (b:UInt8) (hb:s[at_]?=some b) (q1:224≤b.toNat) (q2:b.toNat<240):PCall Tryz.prog 187 [.val (.string s),.val (.int .i64 at_)] (.val (.int .i64 (utfL (b.toNat::rst s (at_+1)):Nat))):=by
 have hl:=rst_len s (at_+1)
 obtain ⟨hn,hv,hm⟩:=utf_3 q1 q2
 have hno:=utfL_no (c:=b.toNat) (l:=rst s (at_+1)) (by omega)
 have hgo:=utfL_go (c:=b.toNat) (l:=rst s (at_+1)) (by omega)
 rw [hn,hl] at hno
 rw [hn,hm,hv,hl] at hgo
 clear hn hv hm
 refine Zc Tryz.func187 V (by kernel_rfl) V (Xz V) ?_
 refine Q408 ?_
 refine Zb 13 V V V (Zz V Xf V V V (hb) ?_)
 refine Q107 ?_
 refine Q545 ?_
 refine Q264 ?_
 refine Q462 ?_;intro c16 h16
 refine Q226 ?_
 rcases Za h16 with ⟨rfl,g16⟩|⟨rfl,g16⟩
 ·refine Q324 ?_
  refine Zy 22 (192≤b.toNat∧b.toNat<224) ?_ _ _ V ?_
  ·skip
   refine Q346 ?_;intro c18 h18
   refine Q5 ?_
   rcases Za h18 with ⟨rfl,g18⟩|⟨rfl,g18⟩
   ·skip
    refine Q307 ?_
    refine Xx V ?_ by5 by3
    simp_all;done
   skip
   refine Q396 ?_;intro c21 h21
   refine Q236 ?_
   refine Xx V ?_ by5 by3
   simp_all;omega
  intro c22 h22
  refine Q1 ?_
  rcases Za h22 with ⟨rfl,g22⟩|⟨rfl,g22⟩
  ·refine Q324 ?_
   refine Zy 30 (224≤b.toNat∧b.toNat<240) ?_ _ _ V ?_
   ·skip
    refine Q346 ?_;intro c26 h26
    refine Q5 ?_
    rcases Za h26 with ⟨rfl,g26⟩|⟨rfl,g26⟩
    ·skip
     refine Q307 ?_
     refine Xx V ?_ by5 by3
     simp_all;omega
    skip
    refine Q396 ?_;intro c29 h29
    refine Q236 ?_
    refine Xx V ?_ by5 by3
    simp_all;omega
   intro c30 h30
   refine Q1 ?_
   rcases Za h30 with ⟨rfl,g30⟩|⟨rfl,g30⟩
   ·omega
   refine Q240 ?_
   refine Q271 ?_
   refine Q65 ?_
   refine Q494 ?_
   refine Q306 ?_
   refine Zy 38 (240≤b.toNat∧b.toNat<248) ?_ _ _ V ?_
   ·skip
    refine Q346 ?_;intro c34 h34
    refine Q5 ?_
    rcases Za h34 with ⟨rfl,g34⟩|⟨rfl,g34⟩
    ·skip
     refine Q307 ?_
     refine Xx V ?_ by5 by3
     simp_all;omega
    skip
    refine Q396 ?_;intro c37 h37
    refine Q236 ?_
    refine Xx V ?_ by5 by3
    simp_all;omega
   intro c38 h38
   refine Q1 ?_
   rcases Za h38 with ⟨rfl,g38⟩|⟨rfl,g38⟩
   ·refine Q324 ?_
    refine Zy 50 (s.size<at_+3) ?_ _ _ V ?_
    ·skip
     refine Q401 ?_;intro c42 h42
     refine Q5 ?_
     rcases Za h42 with ⟨rfl,g42⟩|⟨rfl,g42⟩
     ·skip
      refine Q312 ?_
      refine Q120 ?_
      refine Q546 ?_
      refine Q71 ?_;intro c49 h49
      refine Q236 ?_
      refine Xx V ?_ by5 by3
      simp_all;omega
     skip
     refine Q413 ?_
     refine Xx V ?_ by5 by3
     simp_all;done
    intro c50 h50
    refine Q1 ?_
    rcases Za h50 with ⟨rfl,g50⟩|⟨rfl,g50⟩
    ·refine Q324 ?_
     have hU:=hgo (by omega)
     refine c_le (al':=[(0,.val (.string s)),(1,.val (.int .i64 at_)),(6,.val (.int .i64 3)),(7,.val (.int .i64 ((b.toNat:Int) - 224))),(8,.val (.int .i64 2048))]) by4 (Xn _) ?_
     refine Q332 ?_
     apply Yd (rg [(2,4),(7,1),(9,64)]) (σ:=Nat × Int) (fun zz=>match zz with|(i,v)=>[(7,.val (.int .i64 v)),(9,.val (.int .i64 i))]) (fun zz=>match zz with|(i,v)=>1≤i∧i≤3∧0≤v∧v+1≤32 * 64 ^ (i - 1)∧cont (3 - 1) (b.toNat - 224) (rst s (at_+1))=cont (3 - i) v (rst s (at_+i))) (fun zz=>match zz with|(i,v)=>3 - i) ((1,(b.toNat:Int) - 224))
     ·repeat' (first|exact Wc|apply Wa rfl|apply Wb rfl)
     ·refine ⟨Nat.le_refl _,by omega,by omega,?_,V⟩
      show (b.toNat:Int) - 224+1≤32 * 64 ^ 0
      omega
     ·exact by4
     rintro ⟨i,v⟩ hI
     try dsimp only [List.cons_append,List.nil_append] at hI ⊢
     obtain ⟨h1,h2,h3,h4,hu⟩:=hI
     have hp:=pow_mono_ i (by omega) h1
     refine Q505 ?_;intro c53 h53
     refine Q226 ?_
     rcases Za h53 with ⟨rfl,g53⟩|⟨rfl,g53⟩
     ·refine Q347 ?_
      have he:utfL (b.toNat::rst s (at_+1))=utfE 2048 3 (some v):=by rw [hU,hu,show 3 - i=0 by omega];cases rst s (at_+i) <;> rfl
      refine Zy 87 (v<2048∨1114111<v∨(55296≤v∧v≤57343)) ?_ _ _ V ?_
      ·skip
       refine Q277 ?_
       refine Q19 ?_;intro c75 h75
       refine Q5 ?_
       rcases Za h75 with ⟨rfl,g75⟩|⟨rfl,g75⟩
       ·skip
        refine Q509 ?_;intro c78 h78
        refine Q260 ?_
        rcases Za h78 with ⟨rfl,g78⟩|⟨rfl,g78⟩
        ·skip
         refine Q547 ?_;intro c82 h82
         refine Q16 ?_
         rcases Za h82 with ⟨rfl,g82⟩|⟨rfl,g82⟩
         ·skip
          refine Q231 ?_
          refine Q299 ?_
          refine Xx V ?_ by5 by3
          simp_all;omega
         skip
         refine Q496 ?_;intro c85 h85
         refine Q299 ?_
         refine Xx V ?_ by5 by3
         simp_all;omega
        skip
        refine Q510 ?_
        refine Xx V ?_ by5 by3
        simp_all;done
       skip
       refine Q369 ?_
       refine Q510 ?_
       refine Xx V ?_ by5 by3
       simp_all;done
      intro c87 h87
      refine Q1 ?_
      rcases Za h87 with ⟨rfl,g87⟩|⟨rfl,g87⟩
      ·refine Q321 ?_
       refine Q232 ?_
       exact Zf V V (Le.inteq (by rw [he,utfE,if_neg g87];rfl)) by3 ⟨V,V⟩
      refine Q285 ?_
      exact Zf V V (Le.inteq (by rw [he,utfE,if_pos g87];rfl)) by3 ⟨V,V⟩
     refine Q265 ?_
     obtain ⟨d,hd,hrd,hdl⟩:=Yz (s:=s) (i:=at_+i) (by omega)
     refine Q327 ?_
     refine Q18 ?_
     refine Zb 60 V V V (Zz (i:=at_+i) V Xf V V (by first|rfl|omega) (hd) ?_)
     refine Q107 ?_
     refine Q306 ?_
     refine Zy 67 (d.toNat<128∨191<d.toNat) ?_ _ _ V ?_
     ·skip
      refine Q508 ?_;intro c63 h63
      refine Q5 ?_
      rcases Za h63 with ⟨rfl,g63⟩|⟨rfl,g63⟩
      ·skip
       refine Q509 ?_;intro c66 h66
       refine Q236 ?_
       refine Xx V ?_ by5 by3
       simp_all;omega
      skip
      refine Q307 ?_
      refine Xx V ?_ by5 by3
      simp_all;omega
     intro c67 h67
     refine Q1 ?_
     rcases Za h67 with ⟨rfl,g67⟩|⟨rfl,g67⟩
     ·refine Q259 ?_
      refine Q234 ?_
      refine Q157 ?_
      refine Q493 ?_
      refine Q65 ?_
      refine Q349 ?_
      refine ⟨(i+1,64 * v+d.toNat - 128),⟨by omega,by omega,by omega,?_,?_⟩,by simp;omega,by4,by3⟩
      ·rw [hp.2];omega
      rw [hu,hrd,show 3 - i=(3 - (i+1))+1 by omega,cont,if_neg (by omega)];rfl
     refine Q285 ?_
     exact Zf V V (Le.inteq (by rw [hU,hu,hrd,show 3 - i=(3 - i - 1)+1 by omega,cont,if_pos (by omega)];rfl)) by3 ⟨V,V⟩
    refine Q285 ?_
    exact Zf V V (Le.inteq (by rw [hno (by omega)];rfl)) by3 ⟨V,V⟩
   omega
  omega
 omega
theorem Utf_4 (s:ByteArray) (hs:s.size≤60000) (at_:Nat) (ha:at_<s.size) (b:UInt8) (hb:s[at_]?=some b) (q1:240≤b.toNat) (q2:b.toNat<248):PCall Tryz.prog 187 [.val (.string s),.val (.int .i64 at_)] (.val (.int .i64 (utfL (b.toNat::rst s (at_+1)):Nat))):=by
 have hl:=rst_len s (at_+1)
 obtain ⟨hn,hv,hm⟩:=utf_4 q1 q2
 have hno:=utfL_no (c:=b.toNat) (l:=rst s (at_+1)) (by omega)
 have hgo:=utfL_go (c:=b.toNat) (l:=rst s (at_+1)) (by omega)
 rw [hn,hl] at hno
 rw [hn,hm,hv,hl] at hgo
 clear hn hv hm
 refine Zc Tryz.func187 V (by kernel_rfl) V (Xz V) ?_
 refine Q408 ?_
 refine Zb 13 V V V (Zz V Xf V V V (hb) ?_)
 refine Q107 ?_
 refine Q545 ?_
 refine Q264 ?_
 refine Q462 ?_;intro c16 h16
 refine Q226 ?_
 rcases Za h16 with ⟨rfl,g16⟩|⟨rfl,g16⟩
 ·refine Q324 ?_
  refine Zy 22 (192≤b.toNat∧b.toNat<224) ?_ _ _ V ?_
  ·skip
   refine Q346 ?_;intro c18 h18
   refine Q5 ?_
   rcases Za h18 with ⟨rfl,g18⟩|⟨rfl,g18⟩
   ·skip
    refine Q307 ?_
    refine Xx V ?_ by5 by3
    simp_all;omega
   skip
   refine Q396 ?_;intro c21 h21
   refine Q236 ?_
   refine Xx V ?_ by5 by3
   simp_all;omega
  intro c22 h22
  refine Q1 ?_
  rcases Za h22 with ⟨rfl,g22⟩|⟨rfl,g22⟩
  ·refine Q324 ?_
   refine Zy 30 (224≤b.toNat∧b.toNat<240) ?_ _ _ V ?_
   ·skip
    refine Q346 ?_;intro c26 h26
    refine Q5 ?_
    rcases Za h26 with ⟨rfl,g26⟩|⟨rfl,g26⟩
    ·skip
     refine Q307 ?_
     refine Xx V ?_ by5 by3
     simp_all;done
    skip
    refine Q396 ?_;intro c29 h29
    refine Q236 ?_
    refine Xx V ?_ by5 by3
    simp_all;omega
   intro c30 h30
   refine Q1 ?_
   rcases Za h30 with ⟨rfl,g30⟩|⟨rfl,g30⟩
   ·refine Q324 ?_
    refine Zy 38 (240≤b.toNat∧b.toNat<248) ?_ _ _ V ?_
    ·skip
     refine Q346 ?_;intro c34 h34
     refine Q5 ?_
     rcases Za h34 with ⟨rfl,g34⟩|⟨rfl,g34⟩
     ·skip
      refine Q307 ?_
      refine Xx V ?_ by5 by3
      simp_all;omega
     skip
     refine Q396 ?_;intro c37 h37
     refine Q236 ?_
     refine Xx V ?_ by5 by3
     simp_all;omega
    intro c38 h38
    refine Q1 ?_
    rcases Za h38 with ⟨rfl,g38⟩|⟨rfl,g38⟩
    ·omega
    refine Q240 ?_
    refine Q271 ?_
    refine Q65 ?_
    refine Q494 ?_
    refine Q306 ?_
    refine Zy 50 (s.size<at_+4) ?_ _ _ V ?_
    ·skip
     refine Q401 ?_;intro c42 h42
     refine Q5 ?_
     rcases Za h42 with ⟨rfl,g42⟩|⟨rfl,g42⟩
     ·skip
      refine Q312 ?_
      refine Q120 ?_
      refine Q546 ?_
      refine Q71 ?_;intro c49 h49
      refine Q236 ?_
      refine Xx V ?_ by5 by3
      simp_all;omega
     skip
     refine Q413 ?_
     refine Xx V ?_ by5 by3
     simp_all;done
    intro c50 h50
    refine Q1 ?_
    rcases Za h50 with ⟨rfl,g50⟩|⟨rfl,g50⟩
    ·refine Q324 ?_
     have hU:=hgo (by omega)
     refine c_le (al':=[(0,.val (.string s)),(1,.val (.int .i64 at_)),(6,.val (.int .i64 4)),(7,.val (.int .i64 ((b.toNat:Int) - 240))),(8,.val (.int .i64 65536))]) by4 (Xn _) ?_
     refine Q332 ?_
     apply Yd (rg [(2,4),(7,1),(9,64)]) (σ:=Nat × Int) (fun zz=>match zz with|(i,v)=>[(7,.val (.int .i64 v)),(9,.val (.int .i64 i))]) (fun zz=>match zz with|(i,v)=>1≤i∧i≤4∧0≤v∧v+1≤32 * 64 ^ (i - 1)∧cont (4 - 1) (b.toNat - 240) (rst s (at_+1))=cont (4 - i) v (rst s (at_+i))) (fun zz=>match zz with|(i,v)=>4 - i) ((1,(b.toNat:Int) - 240))
     ·repeat' (first|exact Wc|apply Wa rfl|apply Wb rfl)
     ·refine ⟨Nat.le_refl _,by omega,by omega,?_,V⟩
      show (b.toNat:Int) - 240+1≤32 * 64 ^ 0
      omega
     ·exact by4
     rintro ⟨i,v⟩ hI
     try dsimp only [List.cons_append,List.nil_append] at hI ⊢
     obtain ⟨h1,h2,h3,h4,hu⟩:=hI
     have hp:=pow_mono_ i (by omega) h1
     refine Q505 ?_;intro c53 h53
     refine Q226 ?_
     rcases Za h53 with ⟨rfl,g53⟩|⟨rfl,g53⟩
     ·refine Q347 ?_
      have he:utfL (b.toNat::rst s (at_+1))=utfE 65536 4 (some v):=by rw [hU,hu,show 4 - i=0 by omega];cases rst s (at_+i) <;> rfl
      refine Zy 87 (v<65536∨1114111<v∨(55296≤v∧v≤57343)) ?_ _ _ V ?_
      ·skip
       refine Q277 ?_
       refine Q19 ?_;intro c75 h75
       refine Q5 ?_
       rcases Za h75 with ⟨rfl,g75⟩|⟨rfl,g75⟩
       ·skip
        refine Q509 ?_;intro c78 h78
        refine Q260 ?_
        rcases Za h78 with ⟨rfl,g78⟩|⟨rfl,g78⟩
        ·skip
         refine Q547 ?_;intro c82 h82
         refine Q16 ?_
         rcases Za h82 with ⟨rfl,g82⟩|⟨rfl,g82⟩
         ·skip
          refine Q231 ?_
          refine Q299 ?_
          refine Xx V ?_ by5 by3
          simp_all;omega
         skip
         refine Q496 ?_;intro c85 h85
         refine Q299 ?_
         refine Xx V ?_ by5 by3
         simp_all;omega
        skip
        refine Q510 ?_
        refine Xx V ?_ by5 by3
        simp_all;done
       skip
       refine Q369 ?_
       refine Q510 ?_
       refine Xx V ?_ by5 by3
       simp_all;done
      intro c87 h87
      refine Q1 ?_
      rcases Za h87 with ⟨rfl,g87⟩|⟨rfl,g87⟩
      ·refine Q321 ?_
       refine Q232 ?_
       exact Zf V V (Le.inteq (by rw [he,utfE,if_neg g87];rfl)) by3 ⟨V,V⟩
      refine Q285 ?_
      exact Zf V V (Le.inteq (by rw [he,utfE,if_pos g87];rfl)) by3 ⟨V,V⟩
     refine Q265 ?_
     obtain ⟨d,hd,hrd,hdl⟩:=Yz (s:=s) (i:=at_+i) (by omega)
     refine Q327 ?_
     refine Q18 ?_
     refine Zb 60 V V V (Zz (i:=at_+i) V Xf V V (by first|rfl|omega) (hd) ?_)
     refine Q107 ?_
     refine Q306 ?_
     refine Zy 67 (d.toNat<128∨191<d.toNat) ?_ _ _ V ?_
     ·skip
      refine Q508 ?_;intro c63 h63
      refine Q5 ?_
      rcases Za h63 with ⟨rfl,g63⟩|⟨rfl,g63⟩
      ·skip
       refine Q509 ?_;intro c66 h66
       refine Q236 ?_
       refine Xx V ?_ by5 by3
       simp_all;omega
      skip
      refine Q307 ?_
      refine Xx V ?_ by5 by3
      simp_all;omega
     intro c67 h67
     refine Q1 ?_
     rcases Za h67 with ⟨rfl,g67⟩|⟨rfl,g67⟩
     ·refine Q259 ?_
      refine Q234 ?_
      refine Q157 ?_
      refine Q493 ?_
      refine Q65 ?_
      refine Q349 ?_
      refine ⟨(i+1,64 * v+d.toNat - 128),⟨by omega,by omega,by omega,?_,?_⟩,by simp;omega,by4,by3⟩
      ·rw [hp.2];omega
      rw [hu,hrd,show 4 - i=(4 - (i+1))+1 by omega,cont,if_neg (by omega)];rfl
     refine Q285 ?_
     exact Zf V V (Le.inteq (by rw [hU,hu,hrd,show 4 - i=(4 - i - 1)+1 by omega,cont,if_pos (by omega)];rfl)) by3 ⟨V,V⟩
    refine Q285 ?_
    exact Zf V V (Le.inteq (by rw [hno (by omega)];rfl)) by3 ⟨V,V⟩
   omega
  omega
 omega
theorem Utf_c (s:ByteArray) (hs:s.size≤60000) (at_:Nat) (ha:at_<s.size):PCall Tryz.prog 187 [.val (.string s),.val (.int .i64 at_)] (.val (.int .i64 (utfL (rst s at_):Nat))):=by
 obtain ⟨b,hb,hr,hlt⟩:=Yz ha
 rw [hr]
 by_cases q0:b.toNat<192∨248≤b.toNat
 ·exact Utf_no s hs at_ ha b hb hlt q0
 by_cases q2:b.toNat<224
 ·exact Utf_2 s hs at_ ha b hb (by omega) q2
 by_cases q3:b.toNat<240
 ·exact Utf_3 s hs at_ ha b hb (by omega) q3
 exact Utf_4 s hs at_ ha b hb (by omega) (by omega)
theorem bad_c (s:ByteArray) (hs:s.size≤60000):PCall Tryz.prog 157 [.val (.string s)] (.val (.int .i64 (badF (s.size+1) 0 (rst s 0)))):=by
 refine Zc Tryz.func157 V (by kernel_rfl) V (Xz V) ?_
 refine Q237 ?_
 refine Q337 ?_
 refine c_loop (σ:=Nat × Nat) (fun zz=>match zz with|(i,f)=>[(0,.val (.string s)),(3,.val (.int .i64 i))]) (fun zz=>match zz with|(i,f)=>[]) (fun zz=>match zz with|(i,f)=>i≤s.size∧s.size - i<f∧badF (s.size+1) 0 (rst s 0)=badF f i (rst s i)) (fun zz=>match zz with|(i,f)=>s.size - i) ((0,s.size+1)) ?_ ?_ ?_ ?_
 ·exact ⟨Nat.zero_le _,by omega,V⟩
 ·exact by4
 ·exact by3
 rintro ⟨i,f⟩ hI
 try dsimp only [List.cons_append,List.nil_append] at hI ⊢
 obtain ⟨hi,hf,hu⟩:=hI
 refine Q497 ?_;intro c8 h8
 refine Q226 ?_
 rcases Za h8 with ⟨rfl,g8⟩|⟨rfl,g8⟩
 ·refine Q322 ?_
  refine Zf V V (Le.inteq ?_) by3 ⟨V,V⟩
  rw [hu,rst_nil (by omega)]
  cases f <;> rfl
 refine Q423 ?_
 obtain ⟨b,_,hr,_⟩:=Yz (s:=s) (i:=i) (by omega)
 have hle:=utfL_le (rst s i)
 rw [rst_len] at hle
 obtain ⟨f,rfl⟩:∃ f',f=f'+1:=⟨f - 1,by omega⟩
 have hb:badF (f+1) i (rst s i)=if utfL (rst s i)=0 then (i:Int) else badF f (i+utfL (rst s i)) (rst s (i+utfL (rst s i))):=by
  rw [← rst_drop,hr];rfl
 refine Q314 ?_
 refine Zb 11 V V V (Zd (xs:=[.tmp 9,.tmp 10]) V V (Utf_c s hs i (by omega)) by1 ?_)
 refine Q275 ?_
 refine Q17 ?_;intro c13 h13
 refine Q226 ?_
 rcases Za h13 with ⟨rfl,g13⟩|⟨rfl,g13⟩
 ·refine Q259 ?_
  refine Q314 ?_
  refine Q262 ?_
  refine Q295 ?_
  refine ⟨(i+utfL (rst s i),f),⟨by omega,by omega,?_⟩,by simp;omega,by4,by3⟩
  rw [hu,hb,if_neg (by omega)]
 refine Q358 ?_
 refine Zf V V (Le.inteq ?_) by3 ⟨V,V⟩
 rw [hu,hb,if_pos (by omega)]
def zi (l:List Nat):List Int:=l.map fun k:Nat=>(k:Int)
theorem zi_len (l:List Nat):(bts (zi l)).length=l.length:=by simp [bts,zi]
def txR (at_:Nat):Option (List Nat × Nat)→AV
 | none=>.tup [.val (.string ⟨#[]⟩),.val (.int .i64 0),.val (.bool false)]
 | some r=>.tup [.val (.string (strN r.1)),.val (.int .i64 ((at_+1+r.2:Nat):Int)),.val (.bool true)]
theorem tx_end (l:List Nat):txL (34::l)=some ([],1):=by rw [txL.eq_def];rfl
theorem tx_10 (l:List Nat):txL (10::l)=none:=by rw [txL.eq_def];rfl
theorem tx_more {c:Nat} (l:List Nat) (h1:c≠34) (h2:c≠10) (h3:c≠92):txL (c::l)=(txL l).map fun r=>(c::r.1,r.2+1):=by
 rw [txL.eq_def];simp only [if_neg h1,if_neg h2,if_neg h3]
theorem tx_esc0:txL [92]=none:=by rfl
theorem tx_esc (d:Nat) (l:List Nat):txL (92::d::l)=match unesc d with
    | none=>none
    | some x=>(txL l).map fun r=>(x::r.1,r.2+2):=by rw [txL.eq_def];rfl
theorem Xk {A:Option (List Nat × Nat)} {acc:List Nat} {k k' x m:Nat} (h:k'=k+m):(A.map fun r:List Nat × Nat=>(x::r.1,r.2+m)).map (fun r:List Nat × Nat=>(acc++r.1,r.2+k))=A.map fun r:List Nat × Nat=>((acc++[x])++r.1,r.2+k'):=by
 cases A with
 | none=>rfl
 | some r=>simp;omega
theorem escBytes:bytesN ⟨#[110,116,34,92]⟩=[110,116,34,92]:=by decide
theorem text_c (s:ByteArray) (hs:s.size≤60000) (at_:Nat) (ha:at_<s.size):PCall Tryz.prog 189 [.val (.string s),.val (.int .i64 at_)] (txR at_ (txL (rst s (at_+1)))):=by
 have HI:=fun c=>in_c ⟨#[110,116,34,92]⟩ (by decide) c
 rw [escBytes] at HI
 refine Zc Tryz.func189 V (by kernel_rfl) V (Xz V) ?_
 refine Q237 ?_
 refine Q6 ?_
 refine Q6 ?_
 refine Q264 ?_
 refine Q306 ?_
 refine ACode.ownNil (t:=7) 5 1 V ?_
 refine Q234 ?_
 refine Q18 ?_
 refine Q269 ?_
 apply Ym (rg [(1,50)]) (σ:=Nat × List Nat × Value) (fun zz=>match zz with|(i,acc,u)=>[(7,.own u 1 (bts (zi acc))),(8,.val (.int .i64 i))]) (fun zz=>match zz with|(i,acc,u)=>[.own 5 1 u]) (fun zz=>match zz with|(i,acc,u)=>at_+1≤i∧i≤s.size∧acc.length≤i∧txL (rst s (at_+1))=(txL (rst s i)).map fun r=>(acc++r.1,r.2+(i - (at_+1)))) (fun zz=>match zz with|(i,acc,u)=>s.size - i) ((at_+1,[],.slice none 0 0))
 ·repeat' (first|exact Wc|apply Wa rfl|apply Wb rfl)
 ·refine ⟨Nat.le_refl _,ha,Nat.zero_le _,?_⟩
  cases txL (rst s (at_+1)) <;> simp
 ·exact (by repeat' (first|exact SLe.nil _|refine Xw V ?_ ?_|exact Xt _|exact Le.own _ _ _|exact Le.nil _|(refine Xy ?_;rfl)|(refine Le.own_seq ?_;rfl)|(refine Le.seq_eq ?_;rfl)))
 ·exact by3
 rintro ⟨i,acc,u⟩ hI
 try dsimp only [List.cons_append,List.nil_append] at hI ⊢
 obtain ⟨h1,h2,h3,hu⟩:=hI
 have hle:(bts (zi acc)).length≤100000000:=by rw [zi_len];omega
 refine Q497 ?_;intro c15 h15
 refine Q226 ?_
 rcases Za h15 with ⟨rfl,g15⟩|⟨rfl,g15⟩
 ·refine Q296 ?_
  refine Q403 ?_
  refine out_ttt V V V V (Xt _) by3 ⟨?_,V⟩
  rw [hu,rst_nil (by omega)];rfl
 refine Q265 ?_
 obtain ⟨b,hb,hr,hlt⟩:=Yz (s:=s) (i:=i) (by omega)
 refine Q314 ?_
 refine Zb 20 V V V (Zz V Xf V V V (hb) ?_)
 refine Q275 ?_
 refine Q17 ?_;intro c22 h22
 refine Q226 ?_
 rcases Za h22 with ⟨rfl,g22⟩|⟨rfl,g22⟩
 ·refine Q329 ?_
  refine Q17 ?_;intro c28 h28
  refine Q226 ?_
  rcases Za h28 with ⟨rfl,g28⟩|⟨rfl,g28⟩
  ·refine Q329 ?_
   refine Q17 ?_;intro c30 h30
   refine Q226 ?_
   rcases Za h30 with ⟨rfl,g30⟩|⟨rfl,g30⟩
   ·refine Q259 ?_
    refine Q548 ?_
    refine Zb 50 V V V (Zw (i:=0) el_253 V V V V (.seq _ _) by6 ?_)
    intro u50
    refine Q349 ?_
    first
    | (exfalso;clear hu;omega)
    | (have hm:=tx_more (rst s (i+1)) (c:=b.toNat) (by clear hu;omega) (by clear hu;omega) (by clear hu;omega)
       rw [hr,hm,Xk (k':=i+1 - (at_+1)) (by omega)] at hu
       exact ⟨(i+1,acc++[b.toNat],u50),⟨by omega,by omega,by simp;omega,hu⟩,by simp;omega,Xw V (Xy by8) by4,by3⟩)
    | (have hx:unesc d.toNat=some 10:=by rw [show d.toNat=110 by clear hu;omega];rfl
       rw [hx] at hu
       simp only [] at hu
       rw [Xk (k':=i+1+1 - (at_+1)) (by omega)] at hu
       exact ⟨(i+1+1,acc++[10],u50),⟨by omega,by omega,by simp;omega,hu⟩,by simp;omega,Xw V (Xy by8) by4,by3⟩)
    | (have hx:unesc d.toNat=some 9:=by rw [show d.toNat=116 by clear hu;omega];rfl
       rw [hx] at hu
       simp only [] at hu
       rw [Xk (k':=i+1+1 - (at_+1)) (by omega)] at hu
       exact ⟨(i+1+1,acc++[9],u50),⟨by omega,by omega,by simp;omega,hu⟩,by simp;omega,Xw V (Xy by8) by4,by3⟩)
    | (have hx:unesc d.toNat=some d.toNat:=by unfold unesc;rw [if_neg (by clear hu;omega),if_neg (by clear hu;omega),if_pos (by clear hu;omega)]
       rw [hx] at hu
       simp only [] at hu
       rw [Xk (k':=i+1+1 - (at_+1)) (by omega)] at hu
       exact ⟨(i+1+1,acc++[d.toNat],u50),⟨by omega,by omega,by simp;omega,hu⟩,by simp;omega,Xw V (Xy by8) by4,by3⟩)
   refine Q288 ?_
   refine Q18 ?_
   refine Q275 ?_
   refine Q5 ?_
   refine Q62 ?_
   refine Q17 ?_;intro c36 h36
   refine Q226 ?_
   rcases Za h36 with ⟨rfl,g36⟩|⟨rfl,g36⟩
   ·refine Q242 ?_
    obtain ⟨d,hd,hrd,hdl⟩:=Yz (s:=s) (i:=i+1) (by omega)
    have hE:=tx_esc d.toNat (rst s (i+1+1))
    have hr2:rst s i=92::d.toNat::rst s (i+1+1):=by rw [hr,hrd,show b.toNat=92 by omega]
    rw [hr2,hE] at hu
    refine Q314 ?_
    refine Zb 39 V V V (Zz (i:=i+1) V Xf V V (by first|rfl|omega) (hd) ?_)
    refine Q275 ?_
    refine Zb 41 V V V (Ze (xs:=[.const (.string ⟨#[110,116,34,92]⟩),.tmp 40]) V V (HI _) by1 ?_);intro c41 h41
    refine Q26 ?_;intro c42 h42
    try replace h42:=Yo h42 h41
    refine Q226 ?_
    rcases Za h42 with ⟨rfl,g42⟩|⟨rfl,g42⟩
    ·refine Q324 ?_
     have hmem:d.toNat=110∨d.toNat=116∨d.toNat=34∨d.toNat=92:=by clear hu hE hr2 hrd hd hr hb HI;simp_all;clear h41;omega
     refine Q234 ?_
     refine Q17 ?_;intro c44 h44
     refine Q226 ?_
     rcases Za h44 with ⟨rfl,g44⟩|⟨rfl,g44⟩
     ·refine Q321 ?_
      refine Q17 ?_;intro c46 h46
      refine Q226 ?_
      rcases Za h46 with ⟨rfl,g46⟩|⟨rfl,g46⟩
      ·refine Q259 ?_
       refine Q548 ?_
       refine Zb 50 V V V (Zw (i:=0) el_253 V V V V (.seq _ _) by6 ?_)
       intro u50
       refine Q349 ?_
       first
       | (exfalso;clear hu;omega)
       | (have hm:=tx_more (rst s (i+1)) (c:=b.toNat) (by clear hu;omega) (by clear hu;omega) (by clear hu;omega)
          rw [hr,hm,Xk (k':=i+1 - (at_+1)) (by omega)] at hu
          exact ⟨(i+1,acc++[b.toNat],u50),⟨by omega,by omega,by simp;omega,hu⟩,by simp;omega,Xw V (Xy by8) by4,by3⟩)
       | (have hx:unesc d.toNat=some 10:=by rw [show d.toNat=110 by clear hu;omega];rfl
          rw [hx] at hu
          simp only [] at hu
          rw [Xk (k':=i+1+1 - (at_+1)) (by omega)] at hu
          exact ⟨(i+1+1,acc++[10],u50),⟨by omega,by omega,by simp;omega,hu⟩,by simp;omega,Xw V (Xy by8) by4,by3⟩)
       | (have hx:unesc d.toNat=some 9:=by rw [show d.toNat=116 by clear hu;omega];rfl
          rw [hx] at hu
          simp only [] at hu
          rw [Xk (k':=i+1+1 - (at_+1)) (by omega)] at hu
          exact ⟨(i+1+1,acc++[9],u50),⟨by omega,by omega,by simp;omega,hu⟩,by simp;omega,Xw V (Xy by8) by4,by3⟩)
       | (have hx:unesc d.toNat=some d.toNat:=by unfold unesc;rw [if_neg (by clear hu;omega),if_neg (by clear hu;omega),if_pos (by clear hu;omega)]
          rw [hx] at hu
          simp only [] at hu
          rw [Xk (k':=i+1+1 - (at_+1)) (by omega)] at hu
          exact ⟨(i+1+1,acc++[d.toNat],u50),⟨by omega,by omega,by simp;omega,hu⟩,by simp;omega,Xw V (Xy by8) by4,by3⟩)
      refine Q278 ?_
      refine Q228 ?_
      refine Q548 ?_
      refine Zb 50 V V V (Zw (i:=0) el_253 V V V V (.seq _ _) by6 ?_)
      intro u50
      refine Q349 ?_
      first
      | (exfalso;clear hu;omega)
      | (have hm:=tx_more (rst s (i+1)) (c:=b.toNat) (by clear hu;omega) (by clear hu;omega) (by clear hu;omega)
         rw [hr,hm,Xk (k':=i+1 - (at_+1)) (by omega)] at hu
         exact ⟨(i+1,acc++[b.toNat],u50),⟨by omega,by omega,by simp;omega,hu⟩,by simp;omega,Xw V (Xy by8) by4,by3⟩)
      | (have hx:unesc d.toNat=some 10:=by rw [show d.toNat=110 by clear hu;omega];rfl
         rw [hx] at hu
         simp only [] at hu
         rw [Xk (k':=i+1+1 - (at_+1)) (by omega)] at hu
         exact ⟨(i+1+1,acc++[10],u50),⟨by omega,by omega,by simp;omega,hu⟩,by simp;omega,Xw V (Xy by8) by4,by3⟩)
      | (have hx:unesc d.toNat=some 9:=by rw [show d.toNat=116 by clear hu;omega];rfl
         rw [hx] at hu
         simp only [] at hu
         rw [Xk (k':=i+1+1 - (at_+1)) (by omega)] at hu
         exact ⟨(i+1+1,acc++[9],u50),⟨by omega,by omega,by simp;omega,hu⟩,by simp;omega,Xw V (Xy by8) by4,by3⟩)
      | (have hx:unesc d.toNat=some d.toNat:=by unfold unesc;rw [if_neg (by clear hu;omega),if_neg (by clear hu;omega),if_pos (by clear hu;omega)]
         rw [hx] at hu
         simp only [] at hu
         rw [Xk (k':=i+1+1 - (at_+1)) (by omega)] at hu
         exact ⟨(i+1+1,acc++[d.toNat],u50),⟨by omega,by omega,by simp;omega,hu⟩,by simp;omega,Xw V (Xy by8) by4,by3⟩)
     refine Q278 ?_
     refine Q271 ?_
     refine Q17 ?_;intro c46 h46
     refine Q226 ?_
     rcases Za h46 with ⟨rfl,g46⟩|⟨rfl,g46⟩
     ·refine Q259 ?_
      refine Q548 ?_
      refine Zb 50 V V V (Zw (i:=0) el_253 V V V V (.seq _ _) by6 ?_)
      intro u50
      refine Q349 ?_
      first
      | (exfalso;clear hu;omega)
      | (have hm:=tx_more (rst s (i+1)) (c:=b.toNat) (by clear hu;omega) (by clear hu;omega) (by clear hu;omega)
         rw [hr,hm,Xk (k':=i+1 - (at_+1)) (by omega)] at hu
         exact ⟨(i+1,acc++[b.toNat],u50),⟨by omega,by omega,by simp;omega,hu⟩,by simp;omega,Xw V (Xy by8) by4,by3⟩)
      | (have hx:unesc d.toNat=some 10:=by rw [show d.toNat=110 by clear hu;omega];rfl
         rw [hx] at hu
         simp only [] at hu
         rw [Xk (k':=i+1+1 - (at_+1)) (by omega)] at hu
         exact ⟨(i+1+1,acc++[10],u50),⟨by omega,by omega,by simp;omega,hu⟩,by simp;omega,Xw V (Xy by8) by4,by3⟩)
      | (have hx:unesc d.toNat=some 9:=by rw [show d.toNat=116 by clear hu;omega];rfl
         rw [hx] at hu
         simp only [] at hu
         rw [Xk (k':=i+1+1 - (at_+1)) (by omega)] at hu
         exact ⟨(i+1+1,acc++[9],u50),⟨by omega,by omega,by simp;omega,hu⟩,by simp;omega,Xw V (Xy by8) by4,by3⟩)
      | (have hx:unesc d.toNat=some d.toNat:=by unfold unesc;rw [if_neg (by clear hu;omega),if_neg (by clear hu;omega),if_pos (by clear hu;omega)]
         rw [hx] at hu
         simp only [] at hu
         rw [Xk (k':=i+1+1 - (at_+1)) (by omega)] at hu
         exact ⟨(i+1+1,acc++[d.toNat],u50),⟨by omega,by omega,by simp;omega,hu⟩,by simp;omega,Xw V (Xy by8) by4,by3⟩)
     refine Q278 ?_
     refine Q228 ?_
     refine Q548 ?_
     refine Zb 50 V V V (Zw (i:=0) el_253 V V V V (.seq _ _) by6 ?_)
     intro u50
     refine Q349 ?_
     first
     | (exfalso;clear hu;omega)
     | (have hm:=tx_more (rst s (i+1)) (c:=b.toNat) (by clear hu;omega) (by clear hu;omega) (by clear hu;omega)
        rw [hr,hm,Xk (k':=i+1 - (at_+1)) (by omega)] at hu
        exact ⟨(i+1,acc++[b.toNat],u50),⟨by omega,by omega,by simp;omega,hu⟩,by simp;omega,Xw V (Xy by8) by4,by3⟩)
     | (have hx:unesc d.toNat=some 10:=by rw [show d.toNat=110 by clear hu;omega];rfl
        rw [hx] at hu
        simp only [] at hu
        rw [Xk (k':=i+1+1 - (at_+1)) (by omega)] at hu
        exact ⟨(i+1+1,acc++[10],u50),⟨by omega,by omega,by simp;omega,hu⟩,by simp;omega,Xw V (Xy by8) by4,by3⟩)
     | (have hx:unesc d.toNat=some 9:=by rw [show d.toNat=116 by clear hu;omega];rfl
        rw [hx] at hu
        simp only [] at hu
        rw [Xk (k':=i+1+1 - (at_+1)) (by omega)] at hu
        exact ⟨(i+1+1,acc++[9],u50),⟨by omega,by omega,by simp;omega,hu⟩,by simp;omega,Xw V (Xy by8) by4,by3⟩)
     | (have hx:unesc d.toNat=some d.toNat:=by unfold unesc;rw [if_neg (by clear hu;omega),if_neg (by clear hu;omega),if_pos (by clear hu;omega)]
        rw [hx] at hu
        simp only [] at hu
        rw [Xk (k':=i+1+1 - (at_+1)) (by omega)] at hu
        exact ⟨(i+1+1,acc++[d.toNat],u50),⟨by omega,by omega,by simp;omega,hu⟩,by simp;omega,Xw V (Xy by8) by4,by3⟩)
    refine Q240 ?_
    refine Q403 ?_
    refine out_ttt V V V V (Xt _) by3 ⟨?_,V⟩
    have hn:unesc d.toNat=none:=by unfold unesc;simp_all
    rw [hu,hn];rfl
   refine Q240 ?_
   refine Q403 ?_
   refine out_ttt V V V V (Xt _) by3 ⟨?_,V⟩
   rw [hu,hr,show b.toNat=92 by omega,rst_nil (by omega),tx_esc0];rfl
  refine Q240 ?_
  refine Q403 ?_
  refine out_ttt V V V V (Xt _) by3 ⟨?_,V⟩
  rw [hu,hr,show b.toNat=10 by omega,tx_10];rfl
 refine Q288 ?_
 refine Zb 24 V V V (op_bytestra (xs:=zi acc) V tu_253 tu_5 Xf V (.own _ 1 _) ?_)
 refine Q493 ?_
 refine Q403 ?_
 refine out_ttt V V V V (Xt _) by3 ⟨?_,V⟩
 rw [hu,hr,show b.toNat=34 by omega,tx_end]
 simp [txR,strN,zi];omega
theorem ret_int {k:IntKind} {a b:Int} (h:a=b):Ending.returned (.int k a)=.returned (.int k b):=by rw [h]
set_option maxHeartbeats 400000 in
theorem Mod_c (n:Int) (w:World):Calls Tryz.prog 219 #[.int .i64 n] w fun e w'=>e=.returned (.int .u64 (R63 n))∧w=w':=by
 go_enter Tryz.func219,Tryz.ntmps219
 go_wp2
 go_ret
 exact ⟨ret_int (R63_u64 n),V⟩
set_option maxHeartbeats 400000 in
theorem Mean_c (n:Int) (w:World) (h1:0≤n) (h2:n≤9223372036854775807):Calls Tryz.prog 218 #[.int .u64 n] w fun e w'=>e=.returned (.int .i64 (W63 n))∧w=w':=by
 go_enter Tryz.func218,Tryz.ntmps218
 go_wp2
 all_goals go_ret
 all_goals exact ⟨ret_int (by unfold W63;omega),rfl⟩
set_option maxHeartbeats 400000 in
theorem RWrap_c (n:Int) (w:World):Calls Tryz.prog 216 #[.int .i64 n] w fun e w'=>e=.returned (.int .i64 (W63 n))∧w=w':=by
 go_enter Tryz.func216,Tryz.ntmps216
 go_wp2_with (first|(go_at_call 219;refine (Mod_c _ _).mono ?_;rintro e w' ⟨rfl,rfl⟩)|(go_at_call 218;refine (Mean_c _ _ (R63_lo _) (R63_hi _)).mono ?_;rintro e w' ⟨rfl,rfl⟩))
 go_ret
 exact ⟨ret_int (W63_R63 n),V⟩
set_option maxHeartbeats 400000 in
theorem RSub_c (a b:Int) (w:World):Calls Tryz.prog 215 #[.int .i64 a,.int .i64 b] w fun e w'=>e=.returned (.int .i64 (W63 (a - b)))∧w=w':=by
 have a1:=R63_lo a
 have a2:=R63_hi a
 have b1:=R63_lo b
 have b2:=R63_hi b
 go_enter Tryz.func215,Tryz.ntmps215
 go_wp2_with (first|(go_at_call 219;refine (Mod_c _ _).mono ?_;rintro e w' ⟨rfl,rfl⟩)|(go_at_call 218;refine (Mean_c _ _ (by omega) (by omega)).mono ?_;rintro e w' ⟨rfl,rfl⟩))
 go_ret
 exact ⟨ret_int (W63_congr (by unfold R63;omega)),V⟩
set_option maxHeartbeats 400000 in
theorem Signed_c (u:Int) (neg:Bool) (w:World) (h1:0≤u) (h2:u≤9223372036854775807):Calls Tryz.prog 212 #[.int .u64 u,.bool neg] w fun e w'=>e=.returned (.int .i64 (W63 (sgn u neg)))∧w=w':=by
 cases neg with
 | true =>
  go_enter Tryz.func212,Tryz.ntmps212
  go_wp2_with (go_at_call 215;refine (RSub_c _ _ _).mono ?_;rintro e w' ⟨rfl,rfl⟩)
  go_ret
  exact ⟨ret_int (W63_congr (by simp [sgn];try omega)),V⟩
 | false =>
  go_enter Tryz.func212,Tryz.ntmps212
  go_wp2_with (go_at_call 216;refine (RWrap_c _ _).mono ?_;rintro e w' ⟨rfl,rfl⟩)
  go_ret
  exact ⟨ret_int (W63_congr (by simp [sgn];try omega)),V⟩
theorem u64w (x:Int):IntKind.u64.wrap x=x % 18446744073709551616:=by
 unfold IntKind.wrap
 simp [IntKind.bits,IntKind.signed]
theorem u8w (x:Int):IntKind.u8.wrap x=x % 256:=by
 unfold IntKind.wrap
 simp [IntKind.bits,IntKind.signed]
theorem SignedA_c (u:Int) (neg:Bool) (h1:0≤u) (h2:u≤9223372036854775807):PCall Tryz.prog 212 [.val (.int .u64 u),.val (.bool neg)] (.val (.int .i64 (W63 (sgn u neg)))) :=
 PCall.of_calls (vs:=[.int .u64 u,.bool neg]) (enters_of Tryz.func212 (by kernel_rfl) rfl) (fun w=>(Signed_c u neg w h1 h2).mono (by rintro e w' ⟨rfl,rfl⟩;exact ⟨rfl,Below.refl _ _⟩))
def parR:Option Nat→AV
 | none=>.tup [.val (.int .i64 0),.val (.int .i64 3)]
 | some n=>.tup [.val (.int .i64 n),.val (.int .i64 0)]
theorem parL_none {l:List Nat} (h:valO 0 l=none):parL l=none:=by unfold parL;rw [h]
theorem parL_half {l:List Nat} (h:valO 0 l=some 4611686018427387904):parL l=none:=by unfold parL;rw [h];rfl
theorem parL_some {l:List Nat} {n:Nat} (h:valO 0 l=some n) (hn:n≠4611686018427387904):parL l=some n:=by unfold parL;rw [h];simp only [if_neg hn]
theorem rParse_c (s:ByteArray) (hs:s.size≤60000) (h0:0<s.size) (hd:∀ (i:Nat) (b:UInt8),s[i]?=some b→48≤b.toNat∧b.toNat≤57) (hz:∀ b:UInt8,s[0]?=some b→b.toNat=48→s.size=1):PCall Tryz.prog 192 [.val (.string s)] (parR (parL (rst s 0))):=by
 obtain ⟨z,hz0,_,_⟩:=Yz h0
 have hz1:=hz z hz0
 have hz2:=hd 0 z hz0
 have HS:=SignedA_c
 refine Zc Tryz.func192 V (by kernel_rfl) V (Xz V) ?_
 refine Q237 ?_
 refine Q470 ?_
 refine Zy 4 (False) ?_ _ _ V ?_
 ·skip
  refine Q5 ?_
  refine Q471 ?_;intro c11 h11
  refine Q5 ?_
  rcases Za h11 with ⟨rfl,g11⟩|⟨rfl,g11⟩
  ·skip
   refine Q549 ?_
   refine Xx V ?_ by5 by3
   simp_all;done
  skip
  refine Q16 ?_
  refine Zq 14 V V V V V (Zz (i:=0) V Xf V V (by first|rfl|omega) (hz0) ?_)
  refine Q38 ?_;intro c15 h15
  refine Q273 ?_
  refine Xx V ?_ by5 by3
  simp_all;omega
 intro c4 h4
 refine Q1 ?_
 refine Q381 ?_
 refine Q226 ?_
 rcases Za h4 with ⟨rfl,g4⟩|⟨rfl,g4⟩
 ·refine Q324 ?_
  refine Zy 37 (False) ?_ _ _ V ?_
  ·skip
   refine Q277 ?_
   refine Q62 ?_
   refine Q17 ?_;intro c21 h21
   refine Q5 ?_
   rcases Za h21 with ⟨rfl,g21⟩|⟨rfl,g21⟩
   ·skip
    refine Q312 ?_
    refine Zq 25 V V V V V (Zz (i:=0) V Xf V V (by first|rfl|omega) (hz0) ?_)
    refine Q38 ?_;intro c26 h26
    refine Q16 ?_
    rcases Za h26 with ⟨rfl,g26⟩|⟨rfl,g26⟩
    ·skip
     refine Q251 ?_
     refine Q231 ?_
     refine Q528 ?_
     refine Q299 ?_
     refine Xx V ?_ by5 by3
     clear HS;first|(simp_all;done)|(simp_all;omega)|grind
    skip
    refine Q546 ?_
    refine Q16 ?_
    refine Q120 ?_
    refine Q71 ?_;intro c32 h32
    refine Q16 ?_
    rcases Za h32 with ⟨rfl,g32⟩|⟨rfl,g32⟩
    ·skip
     refine Q16 ?_
     refine Q377 ?_
     refine Xx V ?_ by5 by3
     clear HS;first|(simp_all;done)|(simp_all;omega)|grind
    skip
    refine Q7 ?_
    refine Q377 ?_
    refine Xx V ?_ by5 by3
    clear HS;first|(simp_all;done)|(simp_all;omega)|grind
   skip
   refine Q294 ?_
   refine Q460 ?_
   refine Q389 ?_
   refine Q236 ?_
   refine Xx V ?_ by5 by3
   clear HS;first|(simp_all;done)|(simp_all;omega)|grind
  intro c37 h37
  refine Q1 ?_
  rcases Za h37 with ⟨rfl,g37⟩|⟨rfl,g37⟩
  ·refine Q329 ?_
   refine Q269 ?_
   apply Yd (rg [(1,3),(6,1),(9,46)]) (σ:=Nat) (fun zz=>match zz with|i=>[(6,.val (.int .i64 i))]) (fun zz=>match zz with|i=>i≤s.size) (fun zz=>match zz with|i=>s.size - i) (0)
   ·repeat' (first|exact Wc|apply Wa rfl|apply Wb rfl)
   ·exact Nat.zero_le _
   ·exact by4
   rintro i hI
   try dsimp only [List.cons_append,List.nil_append] at hI ⊢
   refine Q497 ?_;intro c42 h42
   refine Q226 ?_
   rcases Za h42 with ⟨rfl,g42⟩|⟨rfl,g42⟩
   ·refine Q296 ?_
    refine Q275 ?_
    refine Q269 ?_
    apply Yd (rg [(1,3),(5,67)]) (σ:=Nat × Nat) (fun zz=>match zz with|(j,n)=>[(7,.val (.int .u64 n)),(8,.val (.int .i64 j))]) (fun zz=>match zz with|(j,n)=>j≤s.size∧n≤4611686018427387904∧valO 0 (rst s 0)=valO n (rst s j)) (fun zz=>match zz with|(j,n)=>s.size - j) ((0,0))
    ·repeat' (first|exact Wc|apply Wa rfl|apply Wb rfl)
    ·exact ⟨Nat.zero_le _,by omega,V⟩
    ·exact by4
    rintro ⟨j,n⟩ hI
    try dsimp only [List.cons_append,List.nil_append] at hI ⊢
    obtain ⟨hj,hn,hu⟩:=hI
    refine Q497 ?_;intro c59 h59
    refine Q226 ?_
    rcases Za h59 with ⟨rfl,g59⟩|⟨rfl,g59⟩
    ·refine Q347 ?_
     refine Zy 77 (n=4611686018427387904) ?_ _ _ V ?_
     ·skip
      refine Q401 ?_;intro c73 h73
      refine Q5 ?_
      rcases Za h73 with ⟨rfl,g73⟩|⟨rfl,g73⟩
      ·skip
       refine Q307 ?_
       refine Xx V ?_ by5 by3
       simp_all;omega
      skip
      refine Q16 ?_
      refine Q67 ?_;intro c76 h76
      try replace h76:=Yo h76 h16
      refine Q236 ?_
      refine Xx V ?_ by5 by3
      simp_all;omega
     intro c77 h77
     refine Q1 ?_
     rcases Za h77 with ⟨rfl,g77⟩|⟨rfl,g77⟩
     ·refine Q321 ?_
      refine Q5 ?_
      refine Zb 80 V V V (Zd (xs:=[.tmp 78,.tmp 79]) V V (HS n false (by omega) (by omega)) by1 ?_)
      refine Q253 ?_
      refine Yy V V V (Xt _) by3 ⟨?_,V⟩
      rw [rst_nil (s:=s) (i:=j) (by omega),valO] at hu
      rw [parL_some hu g77,sgn,W63_id _ (by first|(simp;done)|(simp;omega)) (by first|(simp;done)|(simp;omega))];rfl
     refine Q379 ?_
     refine Yy V V V (Xt _) by3 ⟨?_,V⟩
     rw [rst_nil (s:=s) (i:=j) (by omega),valO,g77] at hu
     rw [parL_half hu];rfl
    refine Q265 ?_
    obtain ⟨b,hb,hr,_⟩:=Yz (s:=s) (i:=j) (by omega)
    have hbd:=hd j b hb
    rw [hr,valO] at hu
    have hw:IntKind.u64.wrap (IntKind.u64.wrap (10 * (n:Int))+IntKind.u64.wrap (IntKind.u8.wrap ((b.toNat:Int) - 48)))=(((10 * n+(b.toNat - 48)) % 18446744073709551616:Nat):Int):=by
     rw [u64w,u64w,u64w,u8w];omega
    refine Q234 ?_
    refine Zb 63 V V V (op_mul V V V V ?_)
    refine Q277 ?_
    refine Zb 66 V V V (Zz V Xf V V V (hb) (Zb 67 V V V (op_sub V V V V (Zb 68 V V V (op_convert V tu_5 tu_255 V V (Zb 69 V V V (op_add V V V V ?_)))))))
    refine Q271 ?_
    refine Q74 ?_;intro c71 h71
    refine Q226 ?_
    rcases Za h71 with ⟨rfl,g71⟩|⟨rfl,g71⟩
    ·refine Q305 ?_
     rw [hw] at g71
     rw [if_neg (by omega)] at hu
     exact ⟨(j+1,(10 * n+(b.toNat - 48)) % 18446744073709551616),⟨by omega,by omega,hu⟩,by simp;omega,Xw V (Le.inteq hw) by4,by3⟩
    refine Q379 ?_
    refine Yy V V V (Xt _) by3 ⟨?_,V⟩
    rw [hw] at g71
    rw [if_pos (by omega)] at hu
    rw [parL_none hu];rfl
   refine Q265 ?_
   obtain ⟨b,hb,_,_⟩:=Yz (s:=s) (i:=i) (by omega)
   have hbd:=hd i b hb
   refine Zy 54 (False) ?_ _ _ V ?_
   ·skip
    refine Q277 ?_
    refine Zb 47 V V V (Zz V Xf V V V (hb) ?_)
    refine Q19 ?_;intro c48 h48
    refine Q5 ?_
    rcases Za h48 with ⟨rfl,g48⟩|⟨rfl,g48⟩
    ·skip
     refine Q312 ?_
     refine Zq 52 V V V V V (Zz V Xf V V V (hb) ?_)
     refine Q71 ?_;intro c53 h53
     refine Q236 ?_
     refine Xx V ?_ by5 by3
     simp_all;omega
    skip
    refine Q376 ?_
    refine Xx V ?_ by5 by3
    simp_all;omega
   intro c54 h54
   refine Q1 ?_
   rcases Za h54 with ⟨rfl,g54⟩|⟨rfl,g54⟩
   ·refine Q305 ?_
    exact ⟨i+1,(by show i+1≤s.size;omega),by simp;omega,by4,by3⟩
   exact g54.elim
  exact g37.elim
 exact g4.elim
theorem Zt {P:Program} {fn:Func} {R:AV→Mem→Prop} {al:Sl} {M M':Mem} {t1 t2 t T b s i:Nat} {cs:List AV} {v v2 v':AV} (hr:fn.results=#[.cell t T,.tmp t1,.tmp t2]) (h1:al.lookup t1=some v) (h2:al.lookup t2=some v2) (hv:al.lookup t=some (.ptr b 0)) (hm0:M[i]?=some (.loc b cs)) (ht:tyAgg P T=some (some s)) (hs:cs.length=s) (hl:Le (.tup [.agg cs,v,v2]) v') (hm:MLe M M') (h:R v' M'):Out P fn R .ret al M :=
 ⟨[.agg cs,v,v2],v',M',by rw [hr];exact .cons ⟨b,0,i,cs,hv,hm0,.inl ⟨s,ht,by rw [List.drop_zero,← hs,List.take_length],by omega⟩⟩ (.cons h1 (.cons h2 .nil)),hl,hm,h⟩
def Tok.av (t:Tok):List AV:=[.val (.int .i64 t.k),.val (.string t.t),.val (.int .i64 t.n),.val (.int .i64 t.a)]
def oneR (o:Tok × Int × Int):AV:=.tup [.agg o.1.av,.val (.int .i64 o.2.1),.val (.int .i64 o.2.2)]
theorem one_text (s:ByteArray) (hs:s.size≤60000) (at_:Nat) (ha:at_<s.size) (b:UInt8) (hb:s[at_]?=some b) (hq:b.toNat=34):PCall Tryz.prog 159 [.val (.string s),.val (.int .i64 at_)] (oneR (oneL at_ (b.toNat::rst s (at_+1)))):=by
 have HT:=text_c s hs at_ ha
 have hO:oneL at_ (b.toNat::rst s (at_+1))=match txL (rst s (at_+1)) with
     | none=>(tok0 at_,0,103)
     | some x=>(⟨4,strN x.1,0,at_⟩,at_+1+x.2,0):=by (rw [oneL,if_pos hq]) <;> (cases txL (rst s (at_+1)) <;> rfl)
 rw [hO]
 cases hx:txL (rst s (at_+1)) with
 | none =>
  rw [hx] at HT
  simp only [txR] at HT
  refine Zc Tryz.func159 V (by kernel_rfl) V (Xz V) ?_
  refine Q415 ?_;intro b4
  refine Q416 ?_
  refine Zb 19 V V V (Zz V Xf V V V (hb) ?_)
  refine Q473 ?_;intro b8
  refine Q474 ?_;intro c23 h23
  refine Q226 ?_
  rcases Za h23 with ⟨rfl,g23⟩|⟨rfl,g23⟩
  ·omega
  refine Q391 ?_
  refine Zb 27 V V V (Zd (xs:=[.tmp 25,.tmp 26]) V V (HT) by1 ?_)
  refine Q511 ?_;intro c32 h32
  try replace h32:=Yo h32 h30
  refine Q226 ?_
  rcases Za h32 with ⟨rfl,g32⟩|⟨rfl,g32⟩
  ·simp_all
  refine Q512 ?_
  first|exact Zt (i:=1) rfl rfl rfl rfl rfl Zv rfl (Xt _) by3 ⟨rfl,rfl⟩|exact Zt (i:=0) rfl rfl rfl rfl rfl Zv rfl (Xt _) by3 ⟨rfl,rfl⟩
 | some r =>
  rw [hx] at HT
  simp only [txR] at HT
  refine Zc Tryz.func159 V (by kernel_rfl) V (Xz V) ?_
  refine Q415 ?_;intro b4
  refine Q416 ?_
  refine Zb 19 V V V (Zz V Xf V V V (hb) ?_)
  refine Q473 ?_;intro b8
  refine Q474 ?_;intro c23 h23
  refine Q226 ?_
  rcases Za h23 with ⟨rfl,g23⟩|⟨rfl,g23⟩
  ·omega
  refine Q391 ?_
  refine Zb 27 V V V (Zd (xs:=[.tmp 25,.tmp 26]) V V (HT) by1 ?_)
  refine Q511 ?_;intro c32 h32
  try replace h32:=Yo h32 h30
  refine Q226 ?_
  rcases Za h32 with ⟨rfl,g32⟩|⟨rfl,g32⟩
  ·refine Q550 ?_
   refine Q287 ?_
   refine Q551 ?_
   refine Q326 ?_
   first|exact Zt (i:=1) rfl rfl rfl rfl rfl Zv rfl (Xt _) by3 ⟨rfl,rfl⟩|exact Zt (i:=0) rfl rfl rfl rfl rfl Zv rfl (Xt _) by3 ⟨rfl,rfl⟩
  simp_all
def nameO (a:Int) (c k:Nat) (w:ByteArray):Tok × Int × Int:=if 40<k then (⟨0,w,0,a⟩,0,104) else (⟨kindT c w,w,0,a⟩,a+k,0)
theorem oneL_A {a:Int} {c:Nat} {r:List Nat} (h1:c≠34) (h2:¬ digitC c=true) (h3:smallC c=true∨greatC c=true):oneL a (c::r)=nameO a c (run 1 (c::r)) (strN ((c::r).take (run 1 (c::r)))):=by
 rw [oneL,if_neg h1,if_neg h2]
 simp only [if_pos h3]
 rw [if_neg (by rintro ⟨q,_⟩;exact q (h3.elim .inl fun x=>.inr (.inl x)))];rfl
theorem oneL_B {a:Int} {c:Nat} {r:List Nat} (h1:c≠34) (h2:¬ digitC c=true) (h3:¬ (smallC c=true∨greatC c=true)) (h4:signC c=true):oneL a (c::r)=nameO a c (run 3 (c::r)) (strN ((c::r).take (run 3 (c::r)))):=by
 rw [oneL,if_neg h1,if_neg h2]
 simp only [if_neg h3,if_pos h4]
 rw [if_neg (by rintro ⟨q,_⟩;exact q (.inr (.inr h4)))];rfl
theorem oneL_C {a:Int} {c:Nat} {r:List Nat} (h1:c≠34) (h2:¬ digitC c=true) (h3:¬ (smallC c=true∨greatC c=true)) (h4:¬ signC c=true):oneL a (c::r)=if markT (strN ((c::r).take 1))=false then (tok0 a,0,101) else nameO a c 1 (strN ((c::r).take 1)):=by
 rw [oneL,if_neg h1,if_neg h2]
 simp only [if_neg h3,if_neg h4]
 by_cases q:markT (strN ((c::r).take 1))=false
 ·rw [if_pos ⟨by rintro (x|x|x);exact h3 (.inl x);exact h3 (.inr x);exact h4 x,q⟩,if_pos q]
 rw [if_neg (fun x=>q x.2),if_neg q];rfl
theorem run_pos {k c:Nat} {l:List Nat} (h:kindC k c=true):1≤run k (c::l):=by rw [run,if_pos h];omega
theorem one_A (s:ByteArray) (hs:s.size≤60000) (at_:Nat) (ha:at_<s.size) (b:UInt8) (hb:s[at_]?=some b) (h1:b.toNat≠34) (h2:¬ digitC b.toNat=true) (hc:smallC b.toNat=true∨greatC b.toNat=true):PCall Tryz.prog 159 [.val (.string s),.val (.int .i64 at_)] (oneR (oneL at_ (rst s at_))):=by
 obtain ⟨b',hb',hr,_⟩:=Yz ha
 obtain rfl:b'=b:=by rw [hb] at hb';cases hb';rfl
 have HE:=end_c s hs at_ 1 (by omega) (by omega) (by omega)
 have HD:=digit_c
 have HSm:=small_c
 have HG:=great_c
 have HS:=sign_c
 have HM:=Mark_c
 have HKy:=Key_c
 have hO:oneL at_ (rst s at_)=nameO at_ b'.toNat (run 1 (rst s at_)) (strN ((rst s at_).take (run 1 (rst s at_)))):=by rw [hr];exact oneL_A h1 h2 hc
 have hle:=run_le 1 (rst s at_)
 rw [rst_len] at hle
 generalize hkk:run 1 (rst s at_)=k at *
 have hk:=rst_cut s at_ (at_+k)
 rw [show at_+k - at_=k by omega] at hk
 rw [← hk] at hO
 clear hk
 have hsz:(s.extract at_ (at_+k)).size=k:=by simp [ByteArray.size_extract];omega
 generalize hw:s.extract at_ (at_+k)=w at *
 refine Zc Tryz.func159 V (by kernel_rfl) V (Xz V) ?_
 refine Q415 ?_;intro b4
 refine Q416 ?_
 refine Zb 19 V V V (Zz V Xf V V V (hb') ?_)
 refine Q473 ?_;intro b8
 refine Q474 ?_;intro c23 h23
 refine Q226 ?_
 rcases Za h23 with ⟨rfl,g23⟩|⟨rfl,g23⟩
 ·refine Q329 ?_
  refine Zb 40 V V V (Ze (xs:=[.tmp 39]) V V (HD _) by1 ?_);intro c40 h40
  refine Q226 ?_
  rcases Za h40 with ⟨rfl,g40⟩|⟨rfl,g40⟩
  ·refine Q321 ?_
   refine Q18 ?_
   refine Q306 ?_
   refine Zy 85 (smallC b'.toNat=true∨greatC b'.toNat=true) ?_ _ _ V ?_
   ·skip
    refine Q5 ?_
    refine Zb 81 V V V (Ze (xs:=[.tmp 80]) V V (HSm _) by1 ?_);intro c81 h81
    refine Q5 ?_
    rcases Za h81 with ⟨rfl,g81⟩|⟨rfl,g81⟩
    ·skip
     refine Q16 ?_
     refine Zq 84 V V V V V (Ze (xs:=[.tmp 83]) V V (HG _) by1 ?_);intro c84 h84
     refine Q236 ?_
     refine Xx V ?_ by5 by3
     simp_all;done
    skip
    refine Q307 ?_
    refine Xx V ?_ by5 by3
    simp_all;done
   intro c85 h85
   refine Q1 ?_
   rcases Za h85 with ⟨rfl,g85⟩|⟨rfl,g85⟩
   ·exact absurd hc g85
   refine Q9 ?_
   skip
   refine Q314 ?_
   refine Zb 88 V V V (Zd (xs:=[.tmp 86,.tmp 87,.const (.int .i64 1)]) V V (HE) by1 ?_)
   refine Q271 ?_
   refine Q277 ?_
   refine Zb 104 rfl rfl rfl (op_substr rfl Xf rfl rfl rfl (i:=at_) (j:=at_+k) rfl rfl (by omega) (by omega) ?_)
   refine Q551 ?_
   refine Q426 ?_
   rw [hw]
   refine Q465 ?_
   refine Q471 ?_;intro c109 h109
   refine Q226 ?_
   rcases Za h109 with ⟨rfl,g109⟩|⟨rfl,g109⟩
   ·refine Q550 ?_
    refine Q301 ?_
    refine Zb 113 V V V (Ze (xs:=[.tmp 112]) V V (HG _) by1 ?_);intro c113 h113
    refine Q226 ?_
    rcases Za h113 with ⟨rfl,g113⟩|⟨rfl,g113⟩
    ·refine Q329 ?_
     refine Zb 116 V V V (Ze (xs:=[.tmp 115]) V V (HS _) by1 ?_);intro c116 h116
     refine Q226 ?_
     rcases Za h116 with ⟨rfl,g116⟩|⟨rfl,g116⟩
     ·refine Q350 ?_
      refine Zb 120 V V V (Ze (xs:=[.tmp 119]) V V (HKy _) by1 ?_);intro c120 h120
      refine Q226 ?_
      rcases Za h120 with ⟨rfl,g120⟩|⟨rfl,g120⟩
      ·refine Q350 ?_
       refine Zb 124 V V V (Ze (xs:=[.tmp 123]) V V (HM _) by1 ?_);intro c124 h124
       refine Q226 ?_
       rcases Za h124 with ⟨rfl,g124⟩|⟨rfl,g124⟩
       ·refine Q334 ?_
        first|refine Zt (i:=1) V V V V V Zv V (Xt _) by3 ⟨?_,V⟩|refine Zt (i:=0) V V V V V Zv V (Xt _) by3 ⟨?_,V⟩
        rw [hO,nameO,if_neg (by clear hO;omega)]
        simp [oneR,Tok.av,kindT,g113,g116,g120,g124];done
       refine Q335 ?_
       first|refine Zt (i:=1) V V V V V Zv V (Xt _) by3 ⟨?_,V⟩|refine Zt (i:=0) V V V V V Zv V (Xt _) by3 ⟨?_,V⟩
       rw [hO,nameO,if_neg (by clear hO;omega)]
       simp [oneR,Tok.av,kindT,g124];done
      refine Q359 ?_
      refine Zb 124 V V V (Ze (xs:=[.tmp 123]) V V (HM _) by1 ?_);intro c124 h124
      refine Q226 ?_
      rcases Za h124 with ⟨rfl,g124⟩|⟨rfl,g124⟩
      ·refine Q334 ?_
       first|refine Zt (i:=1) V V V V V Zv V (Xt _) by3 ⟨?_,V⟩|refine Zt (i:=0) V V V V V Zv V (Xt _) by3 ⟨?_,V⟩
       rw [hO,nameO,if_neg (by clear hO;omega)]
       simp [oneR,Tok.av,kindT,g120,g124];done
      refine Q335 ?_
      first|refine Zt (i:=1) V V V V V Zv V (Xt _) by3 ⟨?_,V⟩|refine Zt (i:=0) V V V V V Zv V (Xt _) by3 ⟨?_,V⟩
      rw [hO,nameO,if_neg (by clear hO;omega)]
      simp [oneR,Tok.av,kindT,g124];done
     refine Q359 ?_
     refine Zb 120 V V V (Ze (xs:=[.tmp 119]) V V (HKy _) by1 ?_);intro c120 h120
     refine Q226 ?_
     rcases Za h120 with ⟨rfl,g120⟩|⟨rfl,g120⟩
     ·refine Q350 ?_
      refine Zb 124 V V V (Ze (xs:=[.tmp 123]) V V (HM _) by1 ?_);intro c124 h124
      refine Q226 ?_
      rcases Za h124 with ⟨rfl,g124⟩|⟨rfl,g124⟩
      ·refine Q334 ?_
       first|refine Zt (i:=1) V V V V V Zv V (Xt _) by3 ⟨?_,V⟩|refine Zt (i:=0) V V V V V Zv V (Xt _) by3 ⟨?_,V⟩
       rw [hO,nameO,if_neg (by clear hO;omega)]
       simp [oneR,Tok.av,kindT,g116,g120,g124];done
      refine Q335 ?_
      first|refine Zt (i:=1) V V V V V Zv V (Xt _) by3 ⟨?_,V⟩|refine Zt (i:=0) V V V V V Zv V (Xt _) by3 ⟨?_,V⟩
      rw [hO,nameO,if_neg (by clear hO;omega)]
      simp [oneR,Tok.av,kindT,g124];done
     refine Q359 ?_
     refine Zb 124 V V V (Ze (xs:=[.tmp 123]) V V (HM _) by1 ?_);intro c124 h124
     refine Q226 ?_
     rcases Za h124 with ⟨rfl,g124⟩|⟨rfl,g124⟩
     ·refine Q334 ?_
      first|refine Zt (i:=1) V V V V V Zv V (Xt _) by3 ⟨?_,V⟩|refine Zt (i:=0) V V V V V Zv V (Xt _) by3 ⟨?_,V⟩
      rw [hO,nameO,if_neg (by clear hO;omega)]
      simp [oneR,Tok.av,kindT,g120,g124];done
     refine Q335 ?_
     first|refine Zt (i:=1) V V V V V Zv V (Xt _) by3 ⟨?_,V⟩|refine Zt (i:=0) V V V V V Zv V (Xt _) by3 ⟨?_,V⟩
     rw [hO,nameO,if_neg (by clear hO;omega)]
     simp [oneR,Tok.av,kindT,g124];done
    refine Q290 ?_
    refine Q301 ?_
    refine Zb 116 V V V (Ze (xs:=[.tmp 115]) V V (HS _) by1 ?_);intro c116 h116
    refine Q226 ?_
    rcases Za h116 with ⟨rfl,g116⟩|⟨rfl,g116⟩
    ·refine Q350 ?_
     refine Zb 120 V V V (Ze (xs:=[.tmp 119]) V V (HKy _) by1 ?_);intro c120 h120
     refine Q226 ?_
     rcases Za h120 with ⟨rfl,g120⟩|⟨rfl,g120⟩
     ·refine Q350 ?_
      refine Zb 124 V V V (Ze (xs:=[.tmp 123]) V V (HM _) by1 ?_);intro c124 h124
      refine Q226 ?_
      rcases Za h124 with ⟨rfl,g124⟩|⟨rfl,g124⟩
      ·refine Q334 ?_
       first|refine Zt (i:=1) V V V V V Zv V (Xt _) by3 ⟨?_,V⟩|refine Zt (i:=0) V V V V V Zv V (Xt _) by3 ⟨?_,V⟩
       rw [hO,nameO,if_neg (by clear hO;omega)]
       simp [oneR,Tok.av,kindT,g113,g116,g120,g124];done
      refine Q335 ?_
      first|refine Zt (i:=1) V V V V V Zv V (Xt _) by3 ⟨?_,V⟩|refine Zt (i:=0) V V V V V Zv V (Xt _) by3 ⟨?_,V⟩
      rw [hO,nameO,if_neg (by clear hO;omega)]
      simp [oneR,Tok.av,kindT,g124];done
     refine Q359 ?_
     refine Zb 124 V V V (Ze (xs:=[.tmp 123]) V V (HM _) by1 ?_);intro c124 h124
     refine Q226 ?_
     rcases Za h124 with ⟨rfl,g124⟩|⟨rfl,g124⟩
     ·refine Q334 ?_
      first|refine Zt (i:=1) V V V V V Zv V (Xt _) by3 ⟨?_,V⟩|refine Zt (i:=0) V V V V V Zv V (Xt _) by3 ⟨?_,V⟩
      rw [hO,nameO,if_neg (by clear hO;omega)]
      simp [oneR,Tok.av,kindT,g120,g124];done
     refine Q335 ?_
     first|refine Zt (i:=1) V V V V V Zv V (Xt _) by3 ⟨?_,V⟩|refine Zt (i:=0) V V V V V Zv V (Xt _) by3 ⟨?_,V⟩
     rw [hO,nameO,if_neg (by clear hO;omega)]
     simp [oneR,Tok.av,kindT,g124];done
    refine Q359 ?_
    refine Zb 120 V V V (Ze (xs:=[.tmp 119]) V V (HKy _) by1 ?_);intro c120 h120
    refine Q226 ?_
    rcases Za h120 with ⟨rfl,g120⟩|⟨rfl,g120⟩
    ·refine Q350 ?_
     refine Zb 124 V V V (Ze (xs:=[.tmp 123]) V V (HM _) by1 ?_);intro c124 h124
     refine Q226 ?_
     rcases Za h124 with ⟨rfl,g124⟩|⟨rfl,g124⟩
     ·refine Q334 ?_
      first|refine Zt (i:=1) V V V V V Zv V (Xt _) by3 ⟨?_,V⟩|refine Zt (i:=0) V V V V V Zv V (Xt _) by3 ⟨?_,V⟩
      rw [hO,nameO,if_neg (by clear hO;omega)]
      simp [oneR,Tok.av,kindT,g116,g120,g124];done
     refine Q335 ?_
     first|refine Zt (i:=1) V V V V V Zv V (Xt _) by3 ⟨?_,V⟩|refine Zt (i:=0) V V V V V Zv V (Xt _) by3 ⟨?_,V⟩
     rw [hO,nameO,if_neg (by clear hO;omega)]
     simp [oneR,Tok.av,kindT,g124];done
    refine Q359 ?_
    refine Zb 124 V V V (Ze (xs:=[.tmp 123]) V V (HM _) by1 ?_);intro c124 h124
    refine Q226 ?_
    rcases Za h124 with ⟨rfl,g124⟩|⟨rfl,g124⟩
    ·refine Q334 ?_
     first|refine Zt (i:=1) V V V V V Zv V (Xt _) by3 ⟨?_,V⟩|refine Zt (i:=0) V V V V V Zv V (Xt _) by3 ⟨?_,V⟩
     rw [hO,nameO,if_neg (by clear hO;omega)]
     simp [oneR,Tok.av,kindT,g120,g124];done
    refine Q335 ?_
    first|refine Zt (i:=1) V V V V V Zv V (Xt _) by3 ⟨?_,V⟩|refine Zt (i:=0) V V V V V Zv V (Xt _) by3 ⟨?_,V⟩
    rw [hO,nameO,if_neg (by clear hO;omega)]
    simp [oneR,Tok.av,kindT,g124];done
   refine Q512 ?_
   first|refine Zt (i:=1) V V V V V Zv V (Xt _) by3 ⟨?_,V⟩|refine Zt (i:=0) V V V V V Zv V (Xt _) by3 ⟨?_,V⟩
   rw [hO,nameO,if_pos (by clear hO;omega)];rfl
  exact absurd g40 h2
 omega
theorem one_B (s:ByteArray) (hs:s.size≤60000) (at_:Nat) (ha:at_<s.size) (b:UInt8) (hb:s[at_]?=some b) (h1:b.toNat≠34) (h2:¬ digitC b.toNat=true) (hc:¬ (smallC b.toNat=true∨greatC b.toNat=true)) (hc2:signC b.toNat=true):PCall Tryz.prog 159 [.val (.string s),.val (.int .i64 at_)] (oneR (oneL at_ (rst s at_))):=by
 obtain ⟨b',hb',hr,_⟩:=Yz ha
 obtain rfl:b'=b:=by rw [hb] at hb';cases hb';rfl
 have HE:=end_c s hs at_ 3 (by omega) (by omega) (by omega)
 have HD:=digit_c
 have HSm:=small_c
 have HG:=great_c
 have HS:=sign_c
 have HM:=Mark_c
 have HKy:=Key_c
 have hO:oneL at_ (rst s at_)=nameO at_ b'.toNat (run 3 (rst s at_)) (strN ((rst s at_).take (run 3 (rst s at_)))):=by rw [hr];exact oneL_B h1 h2 hc hc2
 have hle:=run_le 3 (rst s at_)
 rw [rst_len] at hle
 generalize hkk:run 3 (rst s at_)=k at *
 have hk:=rst_cut s at_ (at_+k)
 rw [show at_+k - at_=k by omega] at hk
 rw [← hk] at hO
 clear hk
 have hsz:(s.extract at_ (at_+k)).size=k:=by simp [ByteArray.size_extract];omega
 generalize hw:s.extract at_ (at_+k)=w at *
 refine Zc Tryz.func159 V (by kernel_rfl) V (Xz V) ?_
 refine Q415 ?_;intro b4
 refine Q416 ?_
 refine Zb 19 V V V (Zz V Xf V V V (hb') ?_)
 refine Q473 ?_;intro b8
 refine Q474 ?_;intro c23 h23
 refine Q226 ?_
 rcases Za h23 with ⟨rfl,g23⟩|⟨rfl,g23⟩
 ·refine Q329 ?_
  refine Zb 40 V V V (Ze (xs:=[.tmp 39]) V V (HD _) by1 ?_);intro c40 h40
  refine Q226 ?_
  rcases Za h40 with ⟨rfl,g40⟩|⟨rfl,g40⟩
  ·refine Q321 ?_
   refine Q18 ?_
   refine Q306 ?_
   refine Zy 85 (smallC b'.toNat=true∨greatC b'.toNat=true) ?_ _ _ V ?_
   ·skip
    refine Q5 ?_
    refine Zb 81 V V V (Ze (xs:=[.tmp 80]) V V (HSm _) by1 ?_);intro c81 h81
    refine Q5 ?_
    rcases Za h81 with ⟨rfl,g81⟩|⟨rfl,g81⟩
    ·skip
     refine Q16 ?_
     refine Zq 84 V V V V V (Ze (xs:=[.tmp 83]) V V (HG _) by1 ?_);intro c84 h84
     refine Q236 ?_
     refine Xx V ?_ by5 by3
     simp_all;done
    skip
    refine Q307 ?_
    refine Xx V ?_ by5 by3
    simp_all;done
   intro c85 h85
   refine Q1 ?_
   rcases Za h85 with ⟨rfl,g85⟩|⟨rfl,g85⟩
   ·refine Q513 ?_
    refine Zb 90 V V V (Ze (xs:=[.tmp 89]) V V (HS _) by1 ?_);intro c90 h90
    refine Q226 ?_
    rcases Za h90 with ⟨rfl,g90⟩|⟨rfl,g90⟩
    ·exact absurd hc2 g90
    refine Q9 ?_
    refine Q314 ?_
    refine Zb 93 V V V (Zd (xs:=[.tmp 91,.tmp 92,.const (.int .i64 3)]) V V (HE) by1 ?_)
    refine Q271 ?_
    refine Q277 ?_
    refine Zb 104 rfl rfl rfl (op_substr rfl Xf rfl rfl rfl (i:=at_) (j:=at_+k) rfl rfl (by omega) (by omega) ?_)
    refine Q551 ?_
    refine Q426 ?_
    rw [hw]
    refine Q465 ?_
    refine Q471 ?_;intro c109 h109
    refine Q226 ?_
    rcases Za h109 with ⟨rfl,g109⟩|⟨rfl,g109⟩
    ·refine Q550 ?_
     refine Q301 ?_
     refine Zb 113 V V V (Ze (xs:=[.tmp 112]) V V (HG _) by1 ?_);intro c113 h113
     refine Q226 ?_
     rcases Za h113 with ⟨rfl,g113⟩|⟨rfl,g113⟩
     ·refine Q329 ?_
      refine Zb 116 V V V (Ze (xs:=[.tmp 115]) V V (HS _) by1 ?_);intro c116 h116
      refine Q226 ?_
      rcases Za h116 with ⟨rfl,g116⟩|⟨rfl,g116⟩
      ·refine Q350 ?_
       refine Zb 120 V V V (Ze (xs:=[.tmp 119]) V V (HKy _) by1 ?_);intro c120 h120
       refine Q226 ?_
       rcases Za h120 with ⟨rfl,g120⟩|⟨rfl,g120⟩
       ·refine Q350 ?_
        refine Zb 124 V V V (Ze (xs:=[.tmp 123]) V V (HM _) by1 ?_);intro c124 h124
        refine Q226 ?_
        rcases Za h124 with ⟨rfl,g124⟩|⟨rfl,g124⟩
        ·refine Q334 ?_
         first|refine Zt (i:=1) V V V V V Zv V (Xt _) by3 ⟨?_,V⟩|refine Zt (i:=0) V V V V V Zv V (Xt _) by3 ⟨?_,V⟩
         rw [hO,nameO,if_neg (by clear hO;omega)]
         simp [oneR,Tok.av,kindT,g113,g116,g120,g124];done
        refine Q335 ?_
        first|refine Zt (i:=1) V V V V V Zv V (Xt _) by3 ⟨?_,V⟩|refine Zt (i:=0) V V V V V Zv V (Xt _) by3 ⟨?_,V⟩
        rw [hO,nameO,if_neg (by clear hO;omega)]
        simp [oneR,Tok.av,kindT,g124];done
       refine Q359 ?_
       refine Zb 124 V V V (Ze (xs:=[.tmp 123]) V V (HM _) by1 ?_);intro c124 h124
       refine Q226 ?_
       rcases Za h124 with ⟨rfl,g124⟩|⟨rfl,g124⟩
       ·refine Q334 ?_
        first|refine Zt (i:=1) V V V V V Zv V (Xt _) by3 ⟨?_,V⟩|refine Zt (i:=0) V V V V V Zv V (Xt _) by3 ⟨?_,V⟩
        rw [hO,nameO,if_neg (by clear hO;omega)]
        simp [oneR,Tok.av,kindT,g120,g124];done
       refine Q335 ?_
       first|refine Zt (i:=1) V V V V V Zv V (Xt _) by3 ⟨?_,V⟩|refine Zt (i:=0) V V V V V Zv V (Xt _) by3 ⟨?_,V⟩
       rw [hO,nameO,if_neg (by clear hO;omega)]
       simp [oneR,Tok.av,kindT,g124];done
      refine Q359 ?_
      refine Zb 120 V V V (Ze (xs:=[.tmp 119]) V V (HKy _) by1 ?_);intro c120 h120
      refine Q226 ?_
      rcases Za h120 with ⟨rfl,g120⟩|⟨rfl,g120⟩
      ·refine Q350 ?_
       refine Zb 124 V V V (Ze (xs:=[.tmp 123]) V V (HM _) by1 ?_);intro c124 h124
       refine Q226 ?_
       rcases Za h124 with ⟨rfl,g124⟩|⟨rfl,g124⟩
       ·refine Q334 ?_
        first|refine Zt (i:=1) V V V V V Zv V (Xt _) by3 ⟨?_,V⟩|refine Zt (i:=0) V V V V V Zv V (Xt _) by3 ⟨?_,V⟩
        rw [hO,nameO,if_neg (by clear hO;omega)]
        simp [oneR,Tok.av,kindT,g116,g120,g124];done
       refine Q335 ?_
       first|refine Zt (i:=1) V V V V V Zv V (Xt _) by3 ⟨?_,V⟩|refine Zt (i:=0) V V V V V Zv V (Xt _) by3 ⟨?_,V⟩
       rw [hO,nameO,if_neg (by clear hO;omega)]
       simp [oneR,Tok.av,kindT,g124];done
      refine Q359 ?_
      refine Zb 124 V V V (Ze (xs:=[.tmp 123]) V V (HM _) by1 ?_);intro c124 h124
      refine Q226 ?_
      rcases Za h124 with ⟨rfl,g124⟩|⟨rfl,g124⟩
      ·refine Q334 ?_
       first|refine Zt (i:=1) V V V V V Zv V (Xt _) by3 ⟨?_,V⟩|refine Zt (i:=0) V V V V V Zv V (Xt _) by3 ⟨?_,V⟩
       rw [hO,nameO,if_neg (by clear hO;omega)]
       simp [oneR,Tok.av,kindT,g120,g124];done
      refine Q335 ?_
      first|refine Zt (i:=1) V V V V V Zv V (Xt _) by3 ⟨?_,V⟩|refine Zt (i:=0) V V V V V Zv V (Xt _) by3 ⟨?_,V⟩
      rw [hO,nameO,if_neg (by clear hO;omega)]
      simp [oneR,Tok.av,kindT,g124];done
     refine Q290 ?_
     refine Q301 ?_
     refine Zb 116 V V V (Ze (xs:=[.tmp 115]) V V (HS _) by1 ?_);intro c116 h116
     refine Q226 ?_
     rcases Za h116 with ⟨rfl,g116⟩|⟨rfl,g116⟩
     ·refine Q350 ?_
      refine Zb 120 V V V (Ze (xs:=[.tmp 119]) V V (HKy _) by1 ?_);intro c120 h120
      refine Q226 ?_
      rcases Za h120 with ⟨rfl,g120⟩|⟨rfl,g120⟩
      ·refine Q350 ?_
       refine Zb 124 V V V (Ze (xs:=[.tmp 123]) V V (HM _) by1 ?_);intro c124 h124
       refine Q226 ?_
       rcases Za h124 with ⟨rfl,g124⟩|⟨rfl,g124⟩
       ·refine Q334 ?_
        first|refine Zt (i:=1) V V V V V Zv V (Xt _) by3 ⟨?_,V⟩|refine Zt (i:=0) V V V V V Zv V (Xt _) by3 ⟨?_,V⟩
        rw [hO,nameO,if_neg (by clear hO;omega)]
        simp [oneR,Tok.av,kindT,g113,g116,g120,g124];done
       refine Q335 ?_
       first|refine Zt (i:=1) V V V V V Zv V (Xt _) by3 ⟨?_,V⟩|refine Zt (i:=0) V V V V V Zv V (Xt _) by3 ⟨?_,V⟩
       rw [hO,nameO,if_neg (by clear hO;omega)]
       simp [oneR,Tok.av,kindT,g124];done
      refine Q359 ?_
      refine Zb 124 V V V (Ze (xs:=[.tmp 123]) V V (HM _) by1 ?_);intro c124 h124
      refine Q226 ?_
      rcases Za h124 with ⟨rfl,g124⟩|⟨rfl,g124⟩
      ·refine Q334 ?_
       first|refine Zt (i:=1) V V V V V Zv V (Xt _) by3 ⟨?_,V⟩|refine Zt (i:=0) V V V V V Zv V (Xt _) by3 ⟨?_,V⟩
       rw [hO,nameO,if_neg (by clear hO;omega)]
       simp [oneR,Tok.av,kindT,g120,g124];done
      refine Q335 ?_
      first|refine Zt (i:=1) V V V V V Zv V (Xt _) by3 ⟨?_,V⟩|refine Zt (i:=0) V V V V V Zv V (Xt _) by3 ⟨?_,V⟩
      rw [hO,nameO,if_neg (by clear hO;omega)]
      simp [oneR,Tok.av,kindT,g124];done
     refine Q359 ?_
     refine Zb 120 V V V (Ze (xs:=[.tmp 119]) V V (HKy _) by1 ?_);intro c120 h120
     refine Q226 ?_
     rcases Za h120 with ⟨rfl,g120⟩|⟨rfl,g120⟩
     ·refine Q350 ?_
      refine Zb 124 V V V (Ze (xs:=[.tmp 123]) V V (HM _) by1 ?_);intro c124 h124
      refine Q226 ?_
      rcases Za h124 with ⟨rfl,g124⟩|⟨rfl,g124⟩
      ·refine Q334 ?_
       first|refine Zt (i:=1) V V V V V Zv V (Xt _) by3 ⟨?_,V⟩|refine Zt (i:=0) V V V V V Zv V (Xt _) by3 ⟨?_,V⟩
       rw [hO,nameO,if_neg (by clear hO;omega)]
       simp [oneR,Tok.av,kindT,g116,g120,g124];done
      refine Q335 ?_
      first|refine Zt (i:=1) V V V V V Zv V (Xt _) by3 ⟨?_,V⟩|refine Zt (i:=0) V V V V V Zv V (Xt _) by3 ⟨?_,V⟩
      rw [hO,nameO,if_neg (by clear hO;omega)]
      simp [oneR,Tok.av,kindT,g124];done
     refine Q359 ?_
     refine Zb 124 V V V (Ze (xs:=[.tmp 123]) V V (HM _) by1 ?_);intro c124 h124
     refine Q226 ?_
     rcases Za h124 with ⟨rfl,g124⟩|⟨rfl,g124⟩
     ·refine Q334 ?_
      first|refine Zt (i:=1) V V V V V Zv V (Xt _) by3 ⟨?_,V⟩|refine Zt (i:=0) V V V V V Zv V (Xt _) by3 ⟨?_,V⟩
      rw [hO,nameO,if_neg (by clear hO;omega)]
      simp [oneR,Tok.av,kindT,g120,g124];done
     refine Q335 ?_
     first|refine Zt (i:=1) V V V V V Zv V (Xt _) by3 ⟨?_,V⟩|refine Zt (i:=0) V V V V V Zv V (Xt _) by3 ⟨?_,V⟩
     rw [hO,nameO,if_neg (by clear hO;omega)]
     simp [oneR,Tok.av,kindT,g124];done
    refine Q512 ?_
    first|refine Zt (i:=1) V V V V V Zv V (Xt _) by3 ⟨?_,V⟩|refine Zt (i:=0) V V V V V Zv V (Xt _) by3 ⟨?_,V⟩
    rw [hO,nameO,if_pos (by clear hO;omega)];rfl
   exact absurd g85 hc
  exact absurd g40 h2
 omega
theorem one_C (s:ByteArray) (hs:s.size≤60000) (at_:Nat) (ha:at_<s.size) (b:UInt8) (hb:s[at_]?=some b) (h1:b.toNat≠34) (h2:¬ digitC b.toNat=true) (hc:¬ (smallC b.toNat=true∨greatC b.toNat=true)) (hc2:¬ signC b.toNat=true):PCall Tryz.prog 159 [.val (.string s),.val (.int .i64 at_)] (oneR (oneL at_ (rst s at_))):=by
 obtain ⟨b',hb',hr,_⟩:=Yz ha
 obtain rfl:b'=b:=by rw [hb] at hb';cases hb';rfl
 have HD:=digit_c
 have HSm:=small_c
 have HG:=great_c
 have HS:=sign_c
 have HM:=Mark_c
 have HKy:=Key_c
 have hO:oneL at_ (rst s at_)=if markT (strN ((rst s at_).take 1))=false then (tok0 at_,0,101) else nameO at_ b'.toNat 1 (strN ((rst s at_).take 1)):=by rw [hr];exact oneL_C h1 h2 hc hc2
 have hk:=rst_cut s at_ (at_+1)
 rw [show at_+1 - at_=1 by omega] at hk
 rw [← hk] at hO
 clear hk
 have hsz:(s.extract at_ (at_+1)).size=1:=by simp [ByteArray.size_extract];omega
 generalize hw:s.extract at_ (at_+1)=w at *
 refine Zc Tryz.func159 V (by kernel_rfl) V (Xz V) ?_
 refine Q415 ?_;intro b4
 refine Q416 ?_
 refine Zb 19 V V V (Zz V Xf V V V (hb') ?_)
 refine Q473 ?_;intro b8
 refine Q474 ?_;intro c23 h23
 refine Q226 ?_
 rcases Za h23 with ⟨rfl,g23⟩|⟨rfl,g23⟩
 ·refine Q329 ?_
  refine Zb 40 V V V (Ze (xs:=[.tmp 39]) V V (HD _) by1 ?_);intro c40 h40
  refine Q226 ?_
  rcases Za h40 with ⟨rfl,g40⟩|⟨rfl,g40⟩
  ·refine Q321 ?_
   refine Q18 ?_
   refine Q306 ?_
   refine Zy 85 (smallC b'.toNat=true∨greatC b'.toNat=true) ?_ _ _ V ?_
   ·skip
    refine Q5 ?_
    refine Zb 81 V V V (Ze (xs:=[.tmp 80]) V V (HSm _) by1 ?_);intro c81 h81
    refine Q5 ?_
    rcases Za h81 with ⟨rfl,g81⟩|⟨rfl,g81⟩
    ·skip
     refine Q16 ?_
     refine Zq 84 V V V V V (Ze (xs:=[.tmp 83]) V V (HG _) by1 ?_);intro c84 h84
     refine Q236 ?_
     refine Xx V ?_ by5 by3
     simp_all;done
    skip
    refine Q307 ?_
    refine Xx V ?_ by5 by3
    simp_all;done
   intro c85 h85
   refine Q1 ?_
   rcases Za h85 with ⟨rfl,g85⟩|⟨rfl,g85⟩
   ·refine Q513 ?_
    refine Zb 90 V V V (Ze (xs:=[.tmp 89]) V V (HS _) by1 ?_);intro c90 h90
    refine Q226 ?_
    rcases Za h90 with ⟨rfl,g90⟩|⟨rfl,g90⟩
    ·refine Q513 ?_
     refine Q277 ?_
     refine Zb 97 rfl rfl rfl (op_substr rfl Xf rfl rfl rfl (i:=at_) (j:=at_+1) rfl (by omega) (by omega) (by omega) ?_)
     refine Zb 98 V V V (Ze (xs:=[.tmp 97]) V V (HM _) by1 ?_);intro c98 h98
     refine Q26 ?_;intro c99 h99
     try replace h99:=Yo h99 h98
     refine Q226 ?_
     rcases Za h99 with ⟨rfl,g99⟩|⟨rfl,g99⟩
     ·refine Q242 ?_
      have hm:¬ markT w=false:=by clear hO HD HSm HG HS HM HKy;simp_all
      refine Q327 ?_
      refine Zb 104 rfl rfl rfl (op_substr rfl Xf rfl rfl rfl (i:=at_) (j:=at_+1) rfl (by omega) (by omega) (by omega) ?_)
      refine Q551 ?_
      refine Q426 ?_
      rw [hw]
      refine Q465 ?_
      refine Q471 ?_;intro c109 h109
      refine Q226 ?_
      rcases Za h109 with ⟨rfl,g109⟩|⟨rfl,g109⟩
      ·refine Q550 ?_
       refine Q301 ?_
       refine Zb 113 V V V (Ze (xs:=[.tmp 112]) V V (HG _) by1 ?_);intro c113 h113
       refine Q226 ?_
       rcases Za h113 with ⟨rfl,g113⟩|⟨rfl,g113⟩
       ·refine Q329 ?_
        refine Zb 116 V V V (Ze (xs:=[.tmp 115]) V V (HS _) by1 ?_);intro c116 h116
        refine Q226 ?_
        rcases Za h116 with ⟨rfl,g116⟩|⟨rfl,g116⟩
        ·refine Q350 ?_
         refine Zb 120 V V V (Ze (xs:=[.tmp 119]) V V (HKy _) by1 ?_);intro c120 h120
         refine Q226 ?_
         rcases Za h120 with ⟨rfl,g120⟩|⟨rfl,g120⟩
         ·refine Q350 ?_
          refine Zb 124 V V V (Ze (xs:=[.tmp 123]) V V (HM _) by1 ?_);intro c124 h124
          refine Q226 ?_
          rcases Za h124 with ⟨rfl,g124⟩|⟨rfl,g124⟩
          ·refine Q334 ?_
           first|refine Zt (i:=1) V V V V V Zv V (Xt _) by3 ⟨?_,V⟩|refine Zt (i:=0) V V V V V Zv V (Xt _) by3 ⟨?_,V⟩
           rw [hO,if_neg hm,nameO,if_neg (by clear hO;omega)]
           simp [oneR,Tok.av,kindT,g113,g116,g120,g124];done
          refine Q335 ?_
          first|refine Zt (i:=1) V V V V V Zv V (Xt _) by3 ⟨?_,V⟩|refine Zt (i:=0) V V V V V Zv V (Xt _) by3 ⟨?_,V⟩
          rw [hO,if_neg hm,nameO,if_neg (by clear hO;omega)]
          simp [oneR,Tok.av,kindT,g124];done
         refine Q359 ?_
         refine Zb 124 V V V (Ze (xs:=[.tmp 123]) V V (HM _) by1 ?_);intro c124 h124
         refine Q226 ?_
         rcases Za h124 with ⟨rfl,g124⟩|⟨rfl,g124⟩
         ·refine Q334 ?_
          first|refine Zt (i:=1) V V V V V Zv V (Xt _) by3 ⟨?_,V⟩|refine Zt (i:=0) V V V V V Zv V (Xt _) by3 ⟨?_,V⟩
          rw [hO,if_neg hm,nameO,if_neg (by clear hO;omega)]
          simp [oneR,Tok.av,kindT,g120,g124];done
         refine Q335 ?_
         first|refine Zt (i:=1) V V V V V Zv V (Xt _) by3 ⟨?_,V⟩|refine Zt (i:=0) V V V V V Zv V (Xt _) by3 ⟨?_,V⟩
         rw [hO,if_neg hm,nameO,if_neg (by clear hO;omega)]
         simp [oneR,Tok.av,kindT,g124];done
        refine Q359 ?_
        refine Zb 120 V V V (Ze (xs:=[.tmp 119]) V V (HKy _) by1 ?_);intro c120 h120
        refine Q226 ?_
        rcases Za h120 with ⟨rfl,g120⟩|⟨rfl,g120⟩
        ·refine Q350 ?_
         refine Zb 124 V V V (Ze (xs:=[.tmp 123]) V V (HM _) by1 ?_);intro c124 h124
         refine Q226 ?_
         rcases Za h124 with ⟨rfl,g124⟩|⟨rfl,g124⟩
         ·refine Q334 ?_
          first|refine Zt (i:=1) V V V V V Zv V (Xt _) by3 ⟨?_,V⟩|refine Zt (i:=0) V V V V V Zv V (Xt _) by3 ⟨?_,V⟩
          rw [hO,if_neg hm,nameO,if_neg (by clear hO;omega)]
          simp [oneR,Tok.av,kindT,g116,g120,g124];done
         refine Q335 ?_
         first|refine Zt (i:=1) V V V V V Zv V (Xt _) by3 ⟨?_,V⟩|refine Zt (i:=0) V V V V V Zv V (Xt _) by3 ⟨?_,V⟩
         rw [hO,if_neg hm,nameO,if_neg (by clear hO;omega)]
         simp [oneR,Tok.av,kindT,g124];done
        refine Q359 ?_
        refine Zb 124 V V V (Ze (xs:=[.tmp 123]) V V (HM _) by1 ?_);intro c124 h124
        refine Q226 ?_
        rcases Za h124 with ⟨rfl,g124⟩|⟨rfl,g124⟩
        ·refine Q334 ?_
         first|refine Zt (i:=1) V V V V V Zv V (Xt _) by3 ⟨?_,V⟩|refine Zt (i:=0) V V V V V Zv V (Xt _) by3 ⟨?_,V⟩
         rw [hO,if_neg hm,nameO,if_neg (by clear hO;omega)]
         simp [oneR,Tok.av,kindT,g120,g124];done
        refine Q335 ?_
        first|refine Zt (i:=1) V V V V V Zv V (Xt _) by3 ⟨?_,V⟩|refine Zt (i:=0) V V V V V Zv V (Xt _) by3 ⟨?_,V⟩
        rw [hO,if_neg hm,nameO,if_neg (by clear hO;omega)]
        simp [oneR,Tok.av,kindT,g124];done
       refine Q290 ?_
       refine Q301 ?_
       refine Zb 116 V V V (Ze (xs:=[.tmp 115]) V V (HS _) by1 ?_);intro c116 h116
       refine Q226 ?_
       rcases Za h116 with ⟨rfl,g116⟩|⟨rfl,g116⟩
       ·refine Q350 ?_
        refine Zb 120 V V V (Ze (xs:=[.tmp 119]) V V (HKy _) by1 ?_);intro c120 h120
        refine Q226 ?_
        rcases Za h120 with ⟨rfl,g120⟩|⟨rfl,g120⟩
        ·refine Q350 ?_
         refine Zb 124 V V V (Ze (xs:=[.tmp 123]) V V (HM _) by1 ?_);intro c124 h124
         refine Q226 ?_
         rcases Za h124 with ⟨rfl,g124⟩|⟨rfl,g124⟩
         ·refine Q334 ?_
          first|refine Zt (i:=1) V V V V V Zv V (Xt _) by3 ⟨?_,V⟩|refine Zt (i:=0) V V V V V Zv V (Xt _) by3 ⟨?_,V⟩
          rw [hO,if_neg hm,nameO,if_neg (by clear hO;omega)]
          simp [oneR,Tok.av,kindT,g113,g116,g120,g124];done
         refine Q335 ?_
         first|refine Zt (i:=1) V V V V V Zv V (Xt _) by3 ⟨?_,V⟩|refine Zt (i:=0) V V V V V Zv V (Xt _) by3 ⟨?_,V⟩
         rw [hO,if_neg hm,nameO,if_neg (by clear hO;omega)]
         simp [oneR,Tok.av,kindT,g124];done
        refine Q359 ?_
        refine Zb 124 V V V (Ze (xs:=[.tmp 123]) V V (HM _) by1 ?_);intro c124 h124
        refine Q226 ?_
        rcases Za h124 with ⟨rfl,g124⟩|⟨rfl,g124⟩
        ·refine Q334 ?_
         first|refine Zt (i:=1) V V V V V Zv V (Xt _) by3 ⟨?_,V⟩|refine Zt (i:=0) V V V V V Zv V (Xt _) by3 ⟨?_,V⟩
         rw [hO,if_neg hm,nameO,if_neg (by clear hO;omega)]
         simp [oneR,Tok.av,kindT,g120,g124];done
        refine Q335 ?_
        first|refine Zt (i:=1) V V V V V Zv V (Xt _) by3 ⟨?_,V⟩|refine Zt (i:=0) V V V V V Zv V (Xt _) by3 ⟨?_,V⟩
        rw [hO,if_neg hm,nameO,if_neg (by clear hO;omega)]
        simp [oneR,Tok.av,kindT,g124];done
       refine Q359 ?_
       refine Zb 120 V V V (Ze (xs:=[.tmp 119]) V V (HKy _) by1 ?_);intro c120 h120
       refine Q226 ?_
       rcases Za h120 with ⟨rfl,g120⟩|⟨rfl,g120⟩
       ·refine Q350 ?_
        refine Zb 124 V V V (Ze (xs:=[.tmp 123]) V V (HM _) by1 ?_);intro c124 h124
        refine Q226 ?_
        rcases Za h124 with ⟨rfl,g124⟩|⟨rfl,g124⟩
        ·refine Q334 ?_
         first|refine Zt (i:=1) V V V V V Zv V (Xt _) by3 ⟨?_,V⟩|refine Zt (i:=0) V V V V V Zv V (Xt _) by3 ⟨?_,V⟩
         rw [hO,if_neg hm,nameO,if_neg (by clear hO;omega)]
         simp [oneR,Tok.av,kindT,g116,g120,g124];done
        refine Q335 ?_
        first|refine Zt (i:=1) V V V V V Zv V (Xt _) by3 ⟨?_,V⟩|refine Zt (i:=0) V V V V V Zv V (Xt _) by3 ⟨?_,V⟩
        rw [hO,if_neg hm,nameO,if_neg (by clear hO;omega)]
        simp [oneR,Tok.av,kindT,g124];done
       refine Q359 ?_
       refine Zb 124 V V V (Ze (xs:=[.tmp 123]) V V (HM _) by1 ?_);intro c124 h124
       refine Q226 ?_
       rcases Za h124 with ⟨rfl,g124⟩|⟨rfl,g124⟩
       ·refine Q334 ?_
        first|refine Zt (i:=1) V V V V V Zv V (Xt _) by3 ⟨?_,V⟩|refine Zt (i:=0) V V V V V Zv V (Xt _) by3 ⟨?_,V⟩
        rw [hO,if_neg hm,nameO,if_neg (by clear hO;omega)]
        simp [oneR,Tok.av,kindT,g120,g124];done
       refine Q335 ?_
       first|refine Zt (i:=1) V V V V V Zv V (Xt _) by3 ⟨?_,V⟩|refine Zt (i:=0) V V V V V Zv V (Xt _) by3 ⟨?_,V⟩
       rw [hO,if_neg hm,nameO,if_neg (by clear hO;omega)]
       simp [oneR,Tok.av,kindT,g124];done
      refine Q512 ?_
      first|refine Zt (i:=1) V V V V V Zv V (Xt _) by3 ⟨?_,V⟩|refine Zt (i:=0) V V V V V Zv V (Xt _) by3 ⟨?_,V⟩
      exfalso;clear hO;omega
     refine Q512 ?_
     first|refine Zt (i:=1) V V V V V Zv V (Xt _) by3 ⟨?_,V⟩|refine Zt (i:=0) V V V V V Zv V (Xt _) by3 ⟨?_,V⟩
     have hm:markT w=false:=by clear hO;simp_all
     rw [hO,if_pos hm];rfl
    exact absurd g90 hc2
   exact absurd g85 hc
  exact absurd g40 h2
 omega
def mid (s:ByteArray) (f n:Nat):List Nat:=(rst s f).take (n - f)
theorem mid_cons {s:ByteArray} {f n:Nat} {b:Nat} (hf:f<n) (hr:rst s f=b::rst s (f+1)):mid s f n=b::mid s (f+1) n:=by
 unfold mid;rw [hr,show n - f=(n - (f+1))+1 by omega,List.take_succ_cons]
theorem mid_len (s:ByteArray) (f n:Nat) (h:n≤s.size):(mid s f n).length=n - f:=by unfold mid;rw [List.length_take,rst_len];omega
theorem mid_drop (s:ByteArray) (f n z:Nat):(mid s f n).drop z=mid s (f+z) n:=by
 unfold mid;rw [List.drop_take,rst_drop,show n - f - z=n - (f+z) by omega]
theorem run_all (k:Nat):∀ l:List Nat,∀ x∈l.take (run k l),kindC k x=true
 | [],x,hx=>by simp at hx
 | c::l,x,hx=>by
  unfold run at hx
  by_cases q:kindC k c=true
  ·rw [if_pos q,List.take_succ_cons] at hx
   rcases List.mem_cons.1 hx with rfl|hx
   ·exact q
   exact run_all k l x hx
  rw [if_neg q] at hx;simp at hx
theorem zeros_48 {l:List Nat} (h:l≠[]):zeros (48::l)=zeros l+1:=by rw [zeros,if_pos ⟨rfl,h⟩]
theorem zeros_no {c:Nat} {l:List Nat} (h:¬ (c=48∧l≠[])):zeros (c::l)=0:=by rw [zeros,if_neg h]
theorem bytes_ext (s:ByteArray) (f n:Nat):rst (s.extract f n) 0=mid s f n:=by
 unfold rst
 rw [List.drop_zero,rst_cut s f n,bytesN_strN _ (fun x hx=>rst_lt s f x (List.mem_of_mem_take hx))];rfl
theorem parse_mid (s:ByteArray) (hs:s.size≤60000) (f n:Nat) (hn:n≤s.size) (hf:f<n) (hd:∀ x∈mid s f n,48≤x∧x≤57) (hz:∀ l,mid s f n=48::l→l=[]):PCall Tryz.prog 192 [.val (.string (s.extract f n))] (parR (parL (mid s f n))):=by
 have hsz:(s.extract f n).size=n - f:=by simp [ByteArray.size_extract];omega
 have hb:=bytes_ext s f n
 have hmem:∀ (i:Nat) (b:UInt8),(s.extract f n)[i]?=some b→i<(s.extract f n).size∧b.toNat∈mid s f n∧(i=0→∃ l,mid s f n=b.toNat::l∧l.length+1=n - f):=by
  intro i b h
  have hi:i<(s.extract f n).size:=by
   rcases Nat.lt_or_ge i (s.extract f n).size with q|q
   ·exact q
   rw [getElem?_neg (s.extract f n) i (Nat.not_lt.2 q)] at h;cases h
  obtain ⟨b',h1,h2,_⟩:=Yz hi
  rw [h] at h1;cases h1
  refine ⟨hi,?_,?_⟩
  ·have:b.toNat∈rst (s.extract f n) i:=by rw [h2];exact List.mem_cons_self
   rw [← hb];unfold rst;rw [List.drop_zero];exact List.mem_of_mem_drop this
  rintro rfl
  rw [hb] at h2
  refine ⟨_,h2,?_⟩
  have:=mid_len s f n hn
  rw [h2] at this
  simpa using this
 have H:=rParse_c (s.extract f n) (by omega) (by omega) (fun i b h=>hd _ (hmem i b h).2.1) (fun b h h48=>by
  obtain ⟨l,hl,hle⟩:=(hmem 0 b h).2.2 rfl
  rw [h48] at hl
  rw [hz l hl] at hle
  simp at hle;omega)
 rw [hb] at H
 exact H
def digO (a:Int) (k:Nat) (z:List Nat):Tok × Int × Int:=match parL z with
 | none=>(tok0 a,0,102)
 | some v=>(⟨3,strN z,v,a⟩,a+k,0)
theorem oneL_D {a:Int} {c:Nat} {r:List Nat} (h1:c≠34) (h2:digitC c=true):oneL a (c::r)=digO a (run 2 (c::r)) (((c::r).take (run 2 (c::r))).drop (zeros ((c::r).take (run 2 (c::r))))):=by
 rw [oneL,if_neg h1,if_pos h2]
 dsimp only [digO]
 cases parL (((c::r).take (run 2 (c::r))).drop (zeros ((c::r).take (run 2 (c::r))))) <;> rfl
theorem zeros_lt:∀ l:List Nat,l≠[]→zeros l<l.length
 | [],h=>absurd rfl h
 | c::l,_=>by
  unfold zeros
  by_cases q:c=48∧l≠[]
  ·rw [if_pos q];have:=zeros_lt l q.2;simp;omega
  rw [if_neg q];simp
theorem zeros_head:∀ l m:List Nat,l.drop (zeros l)=48::m→m=[]
 | [],m,h=>by simp at h
 | c::l,m,h=>by
  unfold zeros at h
  by_cases q:c=48∧l≠[]
  ·rw [if_pos q] at h;exact zeros_head l m (by simpa using h)
  rw [if_neg q] at h
  simp at h
  obtain ⟨rfl,rfl⟩:=h
  exact Classical.byContradiction fun e=>q ⟨V,e⟩
theorem one_digit (s:ByteArray) (hs:s.size≤60000) (at_:Nat) (ha:at_<s.size) (b:UInt8) (hb:s[at_]?=some b) (h2:digitC b.toNat=true):PCall Tryz.prog 159 [.val (.string s),.val (.int .i64 at_)] (oneR (oneL at_ (rst s at_))):=by
 obtain ⟨b',hb',hr,_⟩:=Yz ha
 obtain rfl:b'=b:=by rw [hb] at hb';cases hb';rfl
 have h1:b'.toNat≠34:=by have:=(digitC_iff _).1 h2;omega
 have HE:=end_c s hs at_ 2 (by omega) (by omega) (by omega)
 have HD:=digit_c
 have hle:=run_le 2 (rst s at_)
 rw [rst_len] at hle
 have hk1:1≤run 2 (rst s at_):=by rw [hr];exact run_pos h2
 have hall:=run_all 2 (rst s at_)
 have hD:=oneL_D (a:=at_) (r:=rst s (at_+1)) h1 h2
 rw [← hr] at hD
 obtain ⟨n,hn⟩:∃ n,n=at_+run 2 (rst s at_):=⟨_,rfl⟩
 have hm:(rst s at_).take (run 2 (rst s at_))=mid s at_ n:=by unfold mid;rw [hn,show at_+run 2 (rst s at_) - at_=run 2 (rst s at_) by omega]
 have hns:n≤s.size:=by omega
 have hml:=mid_len s at_ n hns
 have hzl:=zeros_lt (mid s at_ n) (fun e=>by rw [e] at hml;simp at hml;omega)
 rw [hm] at hall
 rw [hm,mid_drop] at hD
 have hzh:=zeros_head (mid s at_ n)
 rw [mid_drop] at hzh
 have hk:((run 2 (rst s at_):Nat):Int)=n - at_:=by omega
 rw [← hn] at HE
 obtain ⟨F,hFF⟩:∃ F,at_+zeros (mid s at_ n)=F:=⟨_,rfl⟩
 rw [hFF] at hzh hD
 have hFn:F<n:=by omega
 have HP:=parse_mid s hs F n hns hFn (fun x hx=>by
  have hx2:x∈mid s at_ n:=by
   rw [show mid s F n=(mid s at_ n).drop (zeros (mid s at_ n)) by rw [mid_drop,hFF]] at hx
   exact List.mem_of_mem_drop hx
  have:=hall x hx2
  exact (digitC_iff x).1 this) hzh
 have hO:oneL at_ (rst s at_)=match parL (mid s F n) with
     | none=>(tok0 at_,0,102)
     | some v=>(⟨3,s.extract F n,v,at_⟩,n,0):=by
  rw [hD,digO,show strN (mid s F n)=s.extract F n from (rst_cut s F n).symm]
  cases parL (mid s F n) with
  | none=>rfl
  | some v=>simp only [];congr 2;omega
 clear hD hall hm hk hle hk1
 cases hp:parL (mid s F n) with
 | none =>
  rw [hp] at HP hO
  simp only [parR] at HP hO
  refine Zc Tryz.func159 V (by kernel_rfl) V (Xz V) ?_
  refine Q415 ?_;intro b4
  refine Q416 ?_
  refine Zb 19 V V V (Zz V Xf V V V (hb') ?_)
  refine Q473 ?_;intro b8
  refine Q474 ?_;intro c23 h23
  refine Q226 ?_
  rcases Za h23 with ⟨rfl,g23⟩|⟨rfl,g23⟩
  ·refine Q329 ?_
   refine Zb 40 V V V (Ze (xs:=[.tmp 39]) V V (HD _) by1 ?_);intro c40 h40
   refine Q226 ?_
   rcases Za h40 with ⟨rfl,g40⟩|⟨rfl,g40⟩
   ·exact absurd h2 g40
   refine Q391 ?_
   refine Zb 43 V V V (Zd (xs:=[.tmp 41,.tmp 42,.const (.int .i64 2)]) V V (HE) by1 ?_)
   refine Q271 ?_
   refine Q387 ?_
   apply Yd (rg [(2,2),(9,3),(13,1),(17,40)]) (σ:=Nat) (fun zz=>match zz with|f=>[(13,.val (.int .i64 f))]) (fun zz=>match zz with|f=>at_≤f∧f+1≤n∧zeros (mid s at_ n)=f - at_+zeros (mid s f n)) (fun zz=>match zz with|f=>n - f) (at_)
   ·repeat' (first|exact Wc|apply Wa rfl|apply Wb rfl)
   ·exact ⟨Nat.le_refl _,by omega,by simp⟩
   ·exact by4
   rintro f hI
   try dsimp only [List.cons_append,List.nil_append] at hI ⊢
   obtain ⟨hf1,hf2,hz⟩:=hI
   refine Q292 ?_
   obtain ⟨d,hd,hrd,hdl⟩:=Yz (s:=s) (i:=f) (by omega)
   have hmc:=mid_cons (n:=n) (by omega) hrd
   refine Zy 54 (f+1<n∧d.toNat=48) ?_ _ _ V ?_
   ·skip
    refine Q277 ?_
    refine Q65 ?_
    refine Q19 ?_;intro c48 h48
    refine Q5 ?_
    rcases Za h48 with ⟨rfl,g48⟩|⟨rfl,g48⟩
    ·skip
     refine Q376 ?_
     refine Xx V ?_ by5 by3
     clear HE HD HP hz;first|(simp_all;done)|(simp_all;omega)|grind
    skip
    refine Q312 ?_
    refine Zq 52 V V V V V (Zz V Xf V V V (hd) ?_)
    refine Q38 ?_;intro c53 h53
    refine Q236 ?_
    refine Xx V ?_ by5 by3
    clear HE HD HP hz;first|(simp_all;done)|(simp_all;omega)|grind
   intro c54 h54
   refine Q1 ?_
   rcases Za h54 with ⟨rfl,g54⟩|⟨rfl,g54⟩
   ·refine Q343 ?_
    have hzz:zeros (mid s f n)=0:=by
     rw [hmc]
     refine zeros_no fun q=>g54 ⟨?_,q.1⟩
     rcases Nat.lt_or_ge (f+1) n with q2|q2
     ·exact q2
     exact absurd (by have:=mid_len s (f+1) n hns;exact List.eq_nil_of_length_eq_zero (by omega)) q.2
    have hF:F=f:=by rw [← hFF,hz,hzz];omega
    subst hF
    refine Q327 ?_
    refine Zb 61 rfl rfl rfl (op_substr rfl Xf rfl rfl rfl (i:=F) (j:=n) rfl rfl (by omega) (by omega) ?_)
    refine Zb 62 V V V (Zd (xs:=[.tmp 61]) V V (HP) by1 ?_)
    refine Q308 ?_
    refine Q366 ?_
    refine Q34 ?_;intro c66 h66
    refine Q226 ?_
    rcases Za h66 with ⟨rfl,g66⟩|⟨rfl,g66⟩
    ·omega
    refine Q512 ?_
    first|refine Zt (i:=1) V V V V V Zv V (Xt _) by3 ⟨?_,V⟩|refine Zt (i:=0) V V V V V Zv V (Xt _) by3 ⟨?_,V⟩
    rw [hO];rfl
   refine Q330 ?_
   refine Q531 ?_
   have hne:mid s (f+1) n≠[]:=fun e=>by
    have:=mid_len s (f+1) n hns
    rw [e] at this;simp at this;omega
   rw [hmc,g54.2,zeros_48 hne] at hz
   exact ⟨f+1,⟨by omega,by omega,by omega⟩,by simp;omega,by4,by3⟩
  omega
 | some v =>
  rw [hp] at HP hO
  simp only [parR] at HP hO
  refine Zc Tryz.func159 V (by kernel_rfl) V (Xz V) ?_
  refine Q415 ?_;intro b4
  refine Q416 ?_
  refine Zb 19 V V V (Zz V Xf V V V (hb') ?_)
  refine Q473 ?_;intro b8
  refine Q474 ?_;intro c23 h23
  refine Q226 ?_
  rcases Za h23 with ⟨rfl,g23⟩|⟨rfl,g23⟩
  ·refine Q329 ?_
   refine Zb 40 V V V (Ze (xs:=[.tmp 39]) V V (HD _) by1 ?_);intro c40 h40
   refine Q226 ?_
   rcases Za h40 with ⟨rfl,g40⟩|⟨rfl,g40⟩
   ·exact absurd h2 g40
   refine Q391 ?_
   refine Zb 43 V V V (Zd (xs:=[.tmp 41,.tmp 42,.const (.int .i64 2)]) V V (HE) by1 ?_)
   refine Q271 ?_
   refine Q387 ?_
   apply Yd (rg [(2,2),(9,3),(13,1),(17,40)]) (σ:=Nat) (fun zz=>match zz with|f=>[(13,.val (.int .i64 f))]) (fun zz=>match zz with|f=>at_≤f∧f+1≤n∧zeros (mid s at_ n)=f - at_+zeros (mid s f n)) (fun zz=>match zz with|f=>n - f) (at_)
   ·repeat' (first|exact Wc|apply Wa rfl|apply Wb rfl)
   ·exact ⟨Nat.le_refl _,by omega,by simp⟩
   ·exact by4
   rintro f hI
   try dsimp only [List.cons_append,List.nil_append] at hI ⊢
   obtain ⟨hf1,hf2,hz⟩:=hI
   refine Q292 ?_
   obtain ⟨d,hd,hrd,hdl⟩:=Yz (s:=s) (i:=f) (by omega)
   have hmc:=mid_cons (n:=n) (by omega) hrd
   refine Zy 54 (f+1<n∧d.toNat=48) ?_ _ _ V ?_
   ·skip
    refine Q277 ?_
    refine Q65 ?_
    refine Q19 ?_;intro c48 h48
    refine Q5 ?_
    rcases Za h48 with ⟨rfl,g48⟩|⟨rfl,g48⟩
    ·skip
     refine Q376 ?_
     refine Xx V ?_ by5 by3
     clear HE HD HP hz;first|(simp_all;done)|(simp_all;omega)|grind
    skip
    refine Q312 ?_
    refine Zq 52 V V V V V (Zz V Xf V V V (hd) ?_)
    refine Q38 ?_;intro c53 h53
    refine Q236 ?_
    refine Xx V ?_ by5 by3
    clear HE HD HP hz;first|(simp_all;done)|(simp_all;omega)|grind
   intro c54 h54
   refine Q1 ?_
   rcases Za h54 with ⟨rfl,g54⟩|⟨rfl,g54⟩
   ·refine Q343 ?_
    have hzz:zeros (mid s f n)=0:=by
     rw [hmc]
     refine zeros_no fun q=>g54 ⟨?_,q.1⟩
     rcases Nat.lt_or_ge (f+1) n with q2|q2
     ·exact q2
     exact absurd (by have:=mid_len s (f+1) n hns;exact List.eq_nil_of_length_eq_zero (by omega)) q.2
    have hF:F=f:=by rw [← hFF,hz,hzz];omega
    subst hF
    refine Q327 ?_
    refine Zb 61 rfl rfl rfl (op_substr rfl Xf rfl rfl rfl (i:=F) (j:=n) rfl rfl (by omega) (by omega) ?_)
    refine Zb 62 V V V (Zd (xs:=[.tmp 61]) V V (HP) by1 ?_)
    refine Q308 ?_
    refine Q366 ?_
    refine Q34 ?_;intro c66 h66
    refine Q226 ?_
    rcases Za h66 with ⟨rfl,g66⟩|⟨rfl,g66⟩
    ·refine Q550 ?_
     refine Q287 ?_
     refine Q11 ?_
     refine Ya V V (Zu (cs':=[_,_,_,_]) (i:=0) V ts_2 V V V V V (Xz V) V ?_)
     refine Q287 ?_
     refine Q277 ?_
     refine Zb 74 rfl rfl rfl (op_substr rfl Xf rfl rfl rfl (i:=F) (j:=n) rfl rfl (by omega) (by omega) ?_)
     refine Q551 ?_
     refine Q326 ?_
     first|refine Zt (i:=1) V V V V V Zv V (Xt _) by3 ⟨?_,V⟩|refine Zt (i:=0) V V V V V Zv V (Xt _) by3 ⟨?_,V⟩
     rw [hO];rfl
    omega
   refine Q330 ?_
   refine Q531 ?_
   have hne:mid s (f+1) n≠[]:=fun e=>by
    have:=mid_len s (f+1) n hns
    rw [e] at this;simp at this;omega
   rw [hmc,g54.2,zeros_48 hne] at hz
   exact ⟨f+1,⟨by omega,by omega,by omega⟩,by simp;omega,by4,by3⟩
  omega
theorem one_c (s:ByteArray) (hs:s.size≤60000) (at_:Nat) (ha:at_<s.size):PCall Tryz.prog 159 [.val (.string s),.val (.int .i64 at_)] (oneR (oneL at_ (rst s at_))):=by
 obtain ⟨b,hb,hr,_⟩:=Yz ha
 by_cases q1:b.toNat=34
 ·rw [hr];exact one_text s hs at_ ha b hb q1
 by_cases q2:digitC b.toNat=true
 ·exact one_digit s hs at_ ha b hb q2
 by_cases q3:smallC b.toNat=true∨greatC b.toNat=true
 ·exact one_A s hs at_ ha b hb q1 q2 q3
 by_cases q4:signC b.toNat=true
 ·exact one_B s hs at_ ha b hb q1 q2 q3 q4
 exact one_C s hs at_ ha b hb q1 q2 q3 q4
theorem txL_le:∀ (l:List Nat) (r:List Nat × Nat),txL l=some r→1≤r.2∧r.2≤l.length
 | [],r,h=>by simp [txL] at h
 | [c],r,h=>by
  rw [txL.eq_def] at h
  simp only [] at h
  split at h
  ·cases h;simp
  split at h
  ·cases h
  split at h
  ·cases h
  simp [txL] at h
 | c::d::l,r,h=>by
  by_cases h1:c=34
  ·subst h1;rw [tx_end] at h;cases h;simp
  by_cases h2:c=10
  ·subst h2;rw [tx_10] at h;cases h
  by_cases h3:c=92
  ·subst h3
   rw [tx_esc] at h
   cases hu:unesc d with
   | none=>rw [hu] at h;cases h
   | some x =>
    rw [hu] at h
    simp only [] at h
    cases ht:txL l with
    | none=>rw [ht] at h;cases h
    | some y =>
     rw [ht] at h;cases h
     have:=txL_le l y ht
     simp;omega
  rw [tx_more _ h1 h2 h3] at h
  cases ht:txL (d::l) with
  | none=>rw [ht] at h;cases h
  | some y =>
   rw [ht] at h;cases h
   have:=txL_le (d::l) y ht
   simp at this ⊢;omega
theorem oneL_le (a:Int) (c:Nat) (r:List Nat) (h:(oneL a (c::r)).2.2=0):a+1≤(oneL a (c::r)).2.1∧(oneL a (c::r)).2.1≤a+(c::r).length:=by
 by_cases h1:c=34
 ·rw [oneL,if_pos h1] at h ⊢
  cases ht:txL r with
  | none=>rw [ht] at h;simp at h
  | some y =>
   have:=txL_le r y ht
   simp;omega
 have hl1:=run_le 1 (c::r)
 have hl2:=run_le 2 (c::r)
 have hl3:=run_le 3 (c::r)
 by_cases h2:digitC c=true
 ·have:=run_pos (k:=2) (c:=c) (l:=r) h2
  rw [oneL_D h1 h2,digO] at h ⊢
  revert h
  cases parL (((c::r).take (run 2 (c::r))).drop (zeros ((c::r).take (run 2 (c::r))))) with
  | none=>intro h;simp at h
  | some v=>intro _;simp only [];omega
 have nm:∀ k w,1≤k→k≤(c::r).length→(nameO a c k w).2.2=0→a+1≤(nameO a c k w).2.1∧(nameO a c k w).2.1≤a+(c::r).length:=by
  intro k w k1 k2 h
  unfold nameO at h ⊢
  by_cases q:40<k
  ·rw [if_pos q] at h;simp at h
  rw [if_neg q];simp only [];omega
 by_cases h3:smallC c=true∨greatC c=true
 ·have hp:=run_pos (k:=1) (c:=c) (l:=r) (by rw [kindC,if_pos rfl,nameC_iff];rcases h3 with q|q;exact .inl q;exact .inr (.inl q))
  rw [oneL_A h1 h2 h3] at h ⊢
  exact nm _ _ hp hl1 h
 by_cases h4:signC c=true
 ·have hp:=run_pos (k:=3) (c:=c) (l:=r) (by rw [kindC,if_neg (by decide),if_neg (by decide)];exact h4)
  rw [oneL_B h1 h2 h3 h4] at h ⊢
  exact nm _ _ hp hl3 h
 rw [oneL_C h1 h2 h3 h4] at h ⊢
 by_cases q:markT (strN ((c::r).take 1))=false
 ·rw [if_pos q] at h;simp at h
 rw [if_neg q] at h ⊢
 exact nm _ _ (Nat.le_refl _) (by simp) h
def scanR (o:List Tok × Int × Int):AV:=.tup [.seq 4 (o.1.map Tok.av),.val (.int .i64 o.2.1),.val (.int .i64 o.2.2)]
theorem lexF_nil (f:Nat) (i:Int) (acc:List Tok):lexF f i [] acc=(acc++[tok0 i],0,0):=by cases f <;> rfl
theorem lexF_bad {f:Nat} {i:Int} {c:Nat} {l:List Nat} {acc:List Tok} (h:(oneL i (c::l)).2.2≠0):lexF (f+1) i (c::l) acc=([],(oneL i (c::l)).2.2,i):=by
 rw [lexF];simp only [if_pos h]
theorem lexF_go {f:Nat} {i:Int} {c:Nat} {l:List Nat} {acc:List Tok} (h:(oneL i (c::l)).2.2=0):lexF (f+1) i (c::l) acc=lexF f ((oneL i (c::l)).2.1+ovr false ((c::l).drop ((oneL i (c::l)).2.1 - i).toNat)) (((c::l).drop ((oneL i (c::l)).2.1 - i).toNat).drop (ovr false ((c::l).drop ((oneL i (c::l)).2.1 - i).toNat))) (acc++[(oneL i (c::l)).1]):=by
 rw [lexF];simp only [if_neg (fun q:(oneL i (c::l)).2.2≠0=>q h)]
theorem Scan_long (s:ByteArray) (hs:60000<s.size):PCall Tryz.prog 97 [.val (.string s)] (scanR (scanT s)):=by
 have hO:scanT s=([],3,0):=by rw [scanT,if_pos hs]
 refine Zc Tryz.func97 V (by kernel_rfl) V (Xz V) ?_
 refine Q237 ?_
 refine Q6 ?_
 refine Q366 ?_
 refine Q471 ?_;intro c13 h13
 refine Q226 ?_
 rcases Za h13 with ⟨rfl,g13⟩|⟨rfl,g13⟩
 ·omega
 refine Q240 ?_
 refine Q403 ?_
 exact out_ttt (v':=scanR ([],3,0)) V V V V (Le.tup (Xv (Le.nil _) (Xu _))) by3 ⟨by rw [hO],V⟩
theorem Scan_short (s:ByteArray) (hs:s.size≤60000):PCall Tryz.prog 97 [.val (.string s)] (scanR (scanT s)):=by
 have HB:=bad_c s hs
 have HO:=over_c s hs 0 (Nat.zero_le _)
 have hol:=ovr_le false (rst s 0)
 rw [rst_len] at hol
 have hO:scanT s=if 0≤badF (s.size+1) 0 (rst s 0) then ([],100,badF (s.size+1) 0 (rst s 0)) else lexF (s.size+1) (ovr false (rst s 0)) (rst s (ovr false (rst s 0))) []:=by
  rw [scanT,if_neg (by omega),rst_drop,Nat.zero_add]
 rw [Nat.zero_add] at HO
 generalize badF (s.size+1) 0 (rst s 0)=bd at *
 generalize hov:ovr false (rst s 0)=o0 at *
 refine Zc Tryz.func97 V (by kernel_rfl) V (Xz V) ?_
 refine Q237 ?_
 refine Q6 ?_
 refine Q366 ?_
 refine Q471 ?_;intro c13 h13
 refine Q226 ?_
 rcases Za h13 with ⟨rfl,g13⟩|⟨rfl,g13⟩
 ·refine Q321 ?_
  refine Zb 15 V V V (Zd (xs:=[.tmp 14]) V V (HB) by1 ?_)
  refine Q275 ?_
  refine Q46 ?_;intro c17 h17
  refine Q226 ?_
  rcases Za h17 with ⟨rfl,g17⟩|⟨rfl,g17⟩
  ·refine Q289 ?_
   refine Q238 ?_
   rw [if_neg (by omega)] at hO
   refine ACode.ownNil (t:=6) 109 4 V ?_
   refine Q234 ?_
   refine Zb 20 V V V (Zd (xs:=[.tmp 19,.const (.int .i64 0)]) V V (HO) by1 ?_)
   refine Q387 ?_
   apply Ym (rg [(1,42)]) (σ:=Nat × Nat × List Tok × Value) (fun zz=>match zz with|(i,f,acc,u)=>[(6,.own u 4 (acc.map Tok.av)),(7,.val (.int .i64 i))]) (fun zz=>match zz with|(i,f,acc,u)=>[.own 109 4 u]) (fun zz=>match zz with|(i,f,acc,u)=>i≤s.size∧s.size - i<f∧acc.length≤i∧scanT s=lexF f i (rst s i) acc) (fun zz=>match zz with|(i,f,acc,u)=>s.size - i) ((o0,s.size+1,[],.slice none 0 0))
   ·repeat' (first|exact Wc|apply Wa rfl|apply Wb rfl)
   ·exact ⟨by omega,by omega,Nat.zero_le _,hO⟩
   ·exact (by repeat' (first|exact SLe.nil _|refine Xw V ?_ ?_|exact Xt _|exact Le.own _ _ _|exact Le.nil _|(refine Xy ?_;rfl)|(refine Le.own_seq ?_;rfl)|(refine Le.seq_eq ?_;rfl)))
   ·exact by3
   rintro ⟨i,f,acc,u⟩ hI
   try dsimp only [List.cons_append,List.nil_append] at hI ⊢
   obtain ⟨h1,h2,h3,hu⟩:=hI
   have hle:(acc.map Tok.av).length≤100000:=by rw [List.length_map];omega
   refine Q497 ?_;intro c24 h24
   refine Q226 ?_
   rcases Za h24 with ⟨rfl,g24⟩|⟨rfl,g24⟩
   ·refine Q342 ?_
    refine Q5 ?_
    refine Q62 ?_
    refine Zb 46 V V V (Zp (ns:=[3]) (xs:=[.tmp 45]) V tz_109 V tfl_109 V V V V (Zb 47 V V V (Zh (xs:=[.tmp 46]) el_105 V V V V V V (Xz V) (Zb 48 V V V (Zw (i:=0) el_105 V V V V (.seq _ _) by6 ?_)))))
    intro u48
    refine Q403 ?_
    have hi:s.size=i:=by omega
    refine out_ttt (v':=scanR (acc++[tok0 i],0,0)) V V V V (Le.tup (Xv (Le.own_seq ?_) (Xu _))) by3 ⟨?_,V⟩
    ·simp [Tok.av,tok0,AV.cells,hi];rfl
    rw [hu,rst_nil (by omega),lexF_nil]
   refine Q423 ?_
   obtain ⟨b,_,hr,_⟩:=Yz (s:=s) (i:=i) (by omega)
   have H1:=one_c s hs i (by omega)
   obtain ⟨f,rfl⟩:∃ f',f=f'+1:=⟨f - 1,by omega⟩
   have hb0:=lexF_bad (f:=f) (i:=i) (c:=b.toNat) (l:=rst s (i+1)) (acc:=acc)
   have hg0:=lexF_go (f:=f) (i:=i) (c:=b.toNat) (l:=rst s (i+1)) (acc:=acc)
   have hl0:=oneL_le i b.toNat (rst s (i+1))
   rw [← hr] at hb0 hg0 hl0
   rw [rst_len] at hl0
   obtain ⟨⟨⟨tk,tt,tn,ta⟩,nx,e⟩,ho⟩:∃ o,oneL i (rst s i)=o:=⟨_,rfl⟩
   rw [ho] at H1 hb0 hg0 hl0
   simp only [oneR,Tok.av] at H1 hb0 hg0 hl0
   refine Q314 ?_
   refine Zb 28 V V V (Zd (xs:=[.tmp 26,.tmp 27]) V V (H1) by1 ?_)
   refine Q428 ?_
   refine Q39 ?_;intro b8
   refine Q44 ?_
   refine Q366 ?_
   refine Q34 ?_;intro c33 h33
   refine Q226 ?_
   rcases Za h33 with ⟨rfl,g33⟩|⟨rfl,g33⟩
   ·refine Q242 ?_
    have he:e=0:=Classical.not_not.1 g33
    have hl1:=hl0 he
    have hg1:=hg0 he
    obtain ⟨m,rfl⟩:∃ m:Nat,nx=m:=⟨nx.toNat,by omega⟩
    have hol2:=ovr_le false (rst s m)
    rw [rst_len] at hol2
    rw [rst_drop,show i+((m:Int) - i).toNat=m by omega,rst_drop] at hg1
    refine Q234 ?_
    refine Q28 ?_
    refine Zb 38 V V V (Zh (xs:=[.tmp 37]) el_105 V V V V V V (Xz V) (Zb 39 V V V (Zw (i:=1) el_105 V V V V (.seq _ _) by6 ?_)))
    intro u39
    refine Q228 ?_
    refine Q314 ?_
    refine Zb 42 V V V (Zd (xs:=[.tmp 40,.tmp 41]) V V (over_c s hs m (by omega)) by1 ?_)
    refine Q418 ?_
    refine ⟨(m+ovr false (rst s m),f,acc++[⟨tk,tt,tn,ta⟩],u39),⟨(by show m+ovr false (rst s m)≤s.size;omega),(by show s.size - (m+ovr false (rst s m))<f;omega),(by simp;omega),(by rw [hu,hg1];rfl)⟩,(by show s.size - (m+ovr false (rst s m))<s.size - i;omega),Xw V (Xy (by simp [Tok.av,AV.cells])) by4,by3⟩
   refine Q391 ?_
   refine Q403 ?_
   exact out_ttt (v':=scanR ([],e,i)) V V V V (Le.tup (Xv (Le.nil _) (Xu _))) by3 ⟨by rw [hu,hb0 g33],V⟩
  refine Q288 ?_
  refine Q403 ?_
  exact out_ttt (v':=scanR ([],100,bd)) V V V V (Le.tup (Xv (Le.nil _) (Xu _))) by3 ⟨by rw [hO,if_pos (by omega)],V⟩
 omega
theorem Scan_c (s:ByteArray):PCall Tryz.prog 97 [.val (.string s)] (scanR (scanT s)):=by
 by_cases q:60000<s.size
 ·exact Scan_long s q
 exact Scan_short s (by omega)
end Go.Proofs.YteepjjgooplljaaGreat
namespace Go.Proofs.YteepjjgooplljaaGreat
def POk (L:List Tok) (n:Nat) (p:PS):Prop:=p.at_≤L.length∧0≤p.lv∧p.lv≤301∧(p.e=0→301≤p.lv+n∧p.lv≤300)
def Adv (L:List Tok) (p p':PS):Prop:=p.at_≤p'.at_∧p'.at_≤L.length∧p.lv≤p'.lv∧p'.lv≤301∧(p'.e=0→p.e=0∧p'.lv=p.lv)
section
variable {L:List Tok} {n:Nat} {p p' p'':PS}
theorem Adv.trans (h:Adv L p p') (k:Adv L p' p''):Adv L p p'':=by
 unfold Adv at *;exact ⟨by omega,k.2.1,by omega,k.2.2.2.1,fun e=>⟨(h.2.2.2.2 (k.2.2.2.2 e).1).1,by rw [(k.2.2.2.2 e).2,(h.2.2.2.2 (k.2.2.2.2 e).1).2]⟩⟩
theorem Adv.ok (h:Adv L p p') (k:POk L n p):POk L n p':=by
 unfold Adv POk at *
 refine ⟨h.2.1,by omega,h.2.2.2.1,fun e=>?_⟩
 obtain ⟨e1,e2⟩:=h.2.2.2.2 e
 rw [e2];exact k.2.2.2 e1
theorem POk.refl (k:POk L n p):Adv L p p:=by
 unfold POk at k;exact ⟨Nat.le_refl _,k.1,Int.le_refl _,k.2.2.1,fun e=>⟨e,rfl⟩⟩
theorem POk.up {m:Nat} (k:POk L n p) (h:301≤m):POk L m p:=by
 unfold POk at *;exact ⟨k.1,k.2.1,k.2.2.1,fun e=>⟨by omega,(k.2.2.2 e).2⟩⟩
theorem is_k {s:ByteArray} (h:isP L p s=true):6≤(nxt L p).k∧(nxt L p).t=s:=by unfold isP at h;simpa using h
theorem is_lt {s:ByteArray} (h:isP L p s=true):p.e=0∧p.at_<L.length:=Xm (by have:=(is_k h).1;omega)
theorem Xg (k:POk L n p) (h:p.at_<L.length):Adv L p (stepP p):=by
 unfold POk at k;exact ⟨Nat.le_succ _,h,Int.le_refl _,k.2.2.1,fun e=>⟨e,rfl⟩⟩
theorem Yj {s:ByteArray} (k:POk L n p) (h:isP L p s=true):Adv L p (stepP p):=Xg k (is_lt h).2
theorem fail_ne {e wh:Int} (h:e≠0):(failP p e wh).e≠0:=by
 unfold failP;split
 ·exact h
 assumption
theorem fail_adv {e wh:Int} (k:POk L n p) (h:e≠0):Adv L p (failP p e wh):=by
 have h1:(failP p e wh).at_=p.at_:=by unfold failP;split <;> rfl
 have h2:(failP p e wh).lv=p.lv:=by unfold failP;split <;> rfl
 have h3:=fail_ne (p:=p) (wh:=wh) h
 unfold POk at k
 exact ⟨by omega,by omega,by omega,by omega,fun e=>absurd e h3⟩
theorem Zo {kind:Int} {s:ByteArray} (hk:kind≠0) (k:POk L n p):Adv L p (takeP L p kind s).2:=by
 unfold takeP
 by_cases q:p.e≠0
 ·rw [if_pos q];exact k.refl
 rw [if_neg q]
 by_cases q2:(kind<6∧(nxt L p).k≠kind)∨(6≤kind∧((nxt L p).k<6∨(nxt L p).t≠s))
 ·rw [if_pos q2];exact fail_adv k (by decide)
 rw [if_neg q2];exact Xg k (Xm (by omega)).2
theorem take_is {kind:Int} {s:ByteArray} (h:isP L p s=true) (hk:6≤kind):takeP L p kind s=(nxt L p,stepP p):=by
 obtain ⟨h1,h2⟩:=is_k h
 unfold takeP
 rw [if_neg (by rw [(is_lt h).1];simp),if_neg]
 rintro (q|q)
 ·omega
 rcases q.2 with q|q
 ·omega
 exact q h2
theorem take_k {kind:Int} {s:ByteArray} (h:(nxt L p).k=kind) (h0:kind≠0) (hk:kind<6):takeP L p kind s=(nxt L p,stepP p):=by
 unfold takeP
 rw [if_neg (by rw [(Xm (L:=L) (p:=p) (by omega)).1];simp),if_neg]
 rintro (q|q)
 ·exact q.2 h
 omega
theorem deeper_ok (k:POk L (n+1) p) (he:p.e=0):POk L n (deeperP L p):=by
 unfold POk at *
 obtain ⟨k1,k2,k3,k4⟩:=k
 have k4:=k4 he
 unfold deeperP
 by_cases q:300<p.lv+1
 ·rw [if_pos q]
  have h3:=fail_ne (p:={ p with lv:=p.lv+1 }) (e:=111) (wh:=(nxt L { p with lv:=p.lv+1 }).a) (by decide)
  have h1:∀ e wh,(failP { p with lv:=p.lv+1 } e wh).at_=p.at_:=fun e wh=>by unfold failP;split <;> rfl
  have h2:∀ e wh,(failP { p with lv:=p.lv+1 } e wh).lv=p.lv+1:=fun e wh=>by unfold failP;split <;> rfl
  exact ⟨by rw [h1];exact k1,by rw [h2];omega,by rw [h2];omega,fun e=>absurd e h3⟩
 rw [if_neg q]
 exact ⟨k1,by show 0≤p.lv+1;omega,by show p.lv+1≤301;omega,fun _=>⟨by show 301≤p.lv+1+n;omega,by show p.lv+1≤300;omega⟩⟩
theorem deeper_at:(deeperP L p).at_=p.at_∧(deeperP L p).lv=p.lv+1:=by
 unfold deeperP
 split
 ·exact ⟨by unfold failP;split <;> rfl,by unfold failP;split <;> rfl⟩
 exact ⟨V,V⟩
theorem dec_adv {r:PS} (he:p.e=0) (h:Adv L (deeperP L p) r):Adv L p (decP r):=by
 obtain ⟨d1,d2⟩:=deeper_at (L:=L) (p:=p)
 unfold Adv at *
 obtain ⟨h1,h2,h3,h4,h5⟩:=h
 refine ⟨by show p.at_≤r.at_;omega,h2,by show p.lv≤r.lv - 1;omega,by show r.lv - 1≤301;omega,fun e=>⟨he,?_⟩⟩
 have:=h5 e
 show r.lv - 1=p.lv
 omega
theorem name_adv (k:POk L n p):Adv L p (nameP L p).2:=by
 unfold nameP
 by_cases h:isP L p kLP=true
 ·rw [if_pos h]
  have a1:=Yj k h
  have a2:=Zo (kind:=5) (s:=kE) (by decide) (a1.ok k)
  exact (a1.trans a2).trans (Zo (kind:=7) (by decide) ((a1.trans a2).ok k))
 rw [if_neg h];exact Zo (by decide) k
theorem uppersL_adv:∀ (f:Nat) (p:PS) (acc:List ByteArray),POk L n p→Adv L p (uppersL L f p acc).2
 | 0,p,acc,k=>k.refl
 | f+1,p,acc,k=>by
  unfold uppersL
  by_cases h:isP L p kComma=true
  ·rw [if_pos h]
   have a1:=Yj k h
   have a2:=a1.trans (Zo (kind:=2) (s:=kE) (by decide) (a1.ok k))
   exact a2.trans (uppersL_adv f _ _ (a2.ok k))
  rw [if_neg h];exact k.refl
theorem uppers_adv (k:POk L n p):Adv L p (uppersP L p).2:=by
 have a1:=Zo (L:=L) (kind:=2) (s:=kE) (by decide) k
 exact a1.trans (uppersL_adv _ _ _ (a1.ok k))
section types
variable {T:PS→Ty × PS} (HT:∀ p,POk L n p→Adv L p (T p).2)
include HT
theorem atype_adv (k:POk L n p):Adv L p (atypeG L T p).2:=by
 unfold atypeG
 by_cases h:(nxt L p).k=2
 ·rw [if_pos h];exact Xg k (Xm (by omega)).2
 by_cases h1:(nxt L p).k=1
 ·rw [if_neg h,if_pos h1];exact Xg k (Xm (by omega)).2
 rw [if_neg h,if_neg h1]
 have a1:=Zo (L:=L) (kind:=7) (s:=kLP) (by decide) k
 by_cases h2:isP L (takeP L p 7 kLP).2 kRP=true
 ·rw [if_pos h2];exact a1.trans (Yj (a1.ok k) h2)
 rw [if_neg h2]
 have a2:=a1.trans (HT _ (a1.ok k))
 exact a2.trans (Zo (by decide) (a2.ok k))
theorem atype_lt (k:POk L n p) (hs:startsP L 0 p):p.at_+1≤(atypeG L T p).2.at_:=by
 unfold atypeG
 by_cases h:(nxt L p).k=2
 ·rw [if_pos h];exact Nat.le_refl _
 by_cases h1:(nxt L p).k=1
 ·rw [if_neg h,if_pos h1];exact Nat.le_refl _
 rw [if_neg h,if_neg h1]
 have hl:isP L p kLP=true:=by
  unfold startsP at hs
  rcases hs with q|q|q|q|q|q
  ·exact absurd q h1
  ·exact absurd q h
  ·exact q
  ·omega
  ·omega
  omega
 have e1:=take_is (kind:=7) hl (by decide)
 rw [e1]
 have a1:=Yj k hl
 by_cases h2:isP L (stepP p) kRP=true
 ·rw [if_pos h2];have:=Yj (a1.ok k) h2;exact Nat.le_succ _
 rw [if_neg h2]
 have a2:=HT _ (a1.ok k)
 have a3:=a2.trans (Zo (kind:=7) (s:=kRP) (by decide) (a2.ok (a1.ok k)))
 exact a3.1
theorem typesL_adv:∀ (f:Nat) (p:PS) (acc:List Ty),POk L n p→Adv L p (typesL L T f p acc).2
 | 0,p,acc,k=>k.refl
 | f+1,p,acc,k=>by
  unfold typesL
  by_cases h:startsP L 0 p
  ·rw [if_pos h]
   have a1:=atype_adv HT k
   exact a1.trans (typesL_adv f _ _ (a1.ok k))
  rw [if_neg h];exact k.refl
theorem typeH_adv (k:POk L n p):Adv L p (typeH L T p).2:=by
 unfold typeH
 by_cases h:(nxt L p).k=2
 ·rw [if_pos h]
  have a1:=Xg k (Xm (L:=L) (p:=p) (by omega)).2
  exact a1.trans (typesL_adv HT _ _ _ (a1.ok k))
 rw [if_neg h];exact atype_adv HT k
end types
theorem typeF_adv:∀ (n:Nat) (p:PS),POk L n p→Adv L p (typeF L n p).2
 | 0,p,k=>k.refl
 | n+1,p,k=>by
  unfold typeF
  by_cases he:p.e≠0
  ·rw [if_pos he];exact k.refl
  rw [if_neg he]
  have he:p.e=0:=Classical.not_not.1 he
  have kq:=deeper_ok k he
  have HT:=typeF_adv n
  have a1:=typeH_adv HT kq
  unfold typeR
  by_cases h:isP L (typeH L (typeF L n) (deeperP L p)).2 kArrow=true
  ·rw [if_pos h]
   have a2:=a1.trans (Yj (a1.ok kq) h)
   exact dec_adv he (a2.trans (HT _ (a2.ok kq)))
  rw [if_neg h];exact dec_adv he a1
theorem typeP_adv (k:POk L n p):Adv L p (typeP L p).2:=typeF_adv 302 p (k.up (by decide))
section pats
variable {T:PS→Pa × PS} (HT:∀ p,POk L n p→Adv L p (T p).2)
include HT
theorem apat_adv (k:POk L n p):Adv L p (apatG L T p).2:=by
 unfold apatG
 by_cases h:(nxt L p).k=2
 ·rw [if_pos h];exact Xg k (Xm (by omega)).2
 by_cases h1:(nxt L p).k=1
 ·rw [if_neg h,if_pos h1];exact Xg k (Xm (by omega)).2
 by_cases h3:(nxt L p).k=3
 ·rw [if_neg h,if_neg h1,if_pos h3];exact Xg k (Xm (by omega)).2
 by_cases h4:isP L p kUn=true
 ·rw [if_neg h,if_neg h1,if_neg h3,if_pos h4];exact Yj k h4
 rw [if_neg h,if_neg h1,if_neg h3,if_neg h4]
 have a1:=Zo (L:=L) (kind:=7) (s:=kLP) (by decide) k
 by_cases h2:isP L (takeP L p 7 kLP).2 kRP=true
 ·rw [if_pos h2];exact a1.trans (Yj (a1.ok k) h2)
 rw [if_neg h2]
 have a2:=a1.trans (HT _ (a1.ok k))
 exact a2.trans (Zo (by decide) (a2.ok k))
theorem apat_lt (k:POk L n p) (hs:startsP L 1 p):p.at_+1≤(apatG L T p).2.at_:=by
 unfold apatG
 by_cases h:(nxt L p).k=2
 ·rw [if_pos h];exact Nat.le_refl _
 by_cases h1:(nxt L p).k=1
 ·rw [if_neg h,if_pos h1];exact Nat.le_refl _
 by_cases h3:(nxt L p).k=3
 ·rw [if_neg h,if_neg h1,if_pos h3];exact Nat.le_refl _
 by_cases h4:isP L p kUn=true
 ·rw [if_neg h,if_neg h1,if_neg h3,if_pos h4];exact Nat.le_refl _
 rw [if_neg h,if_neg h1,if_neg h3,if_neg h4]
 have hl:isP L p kLP=true:=by
  unfold startsP at hs
  rcases hs with q|q|q|q|q|q
  ·exact absurd q h1
  ·exact absurd q h
  ·exact q
  ·exact absurd q.2 h3
  ·exact absurd q.2 h4
  omega
 have e1:=take_is (kind:=7) hl (by decide)
 rw [e1]
 have a1:=Yj k hl
 by_cases h2:isP L (stepP p) kRP=true
 ·rw [if_pos h2];exact Nat.le_succ _
 rw [if_neg h2]
 have a2:=HT _ (a1.ok k)
 have a3:=a2.trans (Zo (kind:=7) (s:=kRP) (by decide) (a2.ok (a1.ok k)))
 exact a3.1
theorem patsL_adv:∀ (f:Nat) (p:PS) (acc:List Pa),POk L n p→Adv L p (patsL L T f p acc).2
 | 0,p,acc,k=>k.refl
 | f+1,p,acc,k=>by
  unfold patsL
  by_cases h:startsP L 1 p
  ·rw [if_pos h]
   have a1:=apat_adv HT k
   exact a1.trans (patsL_adv f _ _ (a1.ok k))
  rw [if_neg h];exact k.refl
end pats
theorem patF_adv:∀ (n:Nat) (p:PS),POk L n p→Adv L p (patF L n p).2
 | 0,p,k=>k.refl
 | n+1,p,k=>by
  unfold patF
  by_cases he:p.e≠0
  ·rw [if_pos he];exact k.refl
  rw [if_neg he]
  have he:p.e=0:=Classical.not_not.1 he
  have kq:=deeper_ok k he
  have HT:=patF_adv n
  by_cases h:(nxt L (deeperP L p)).k=2
  ·rw [if_pos h]
   have a1:=Xg kq (Xm (L:=L) (p:=deeperP L p) (by omega)).2
   exact dec_adv he (a1.trans (patsL_adv HT _ _ _ (a1.ok kq)))
  rw [if_neg h];exact dec_adv he (apat_adv HT kq)
theorem patP_adv (k:POk L n p):Adv L p (patP L p).2:=patF_adv 302 p (k.up (by decide))
end
section
variable {L:List Tok} {n:Nat} {p p' p'':PS}
section exps
variable {E:PS→Ex × PS} (HE:∀ p,POk L n p→Adv L p (E p).2)
include HE
theorem bindG_adv (k:POk L n p):Adv L p (bindG L E p).2:=by
 unfold bindG
 have a1:=name_adv k
 have a2:=a1.trans (Zo (kind:=7) (s:=kEq) (by decide) (a1.ok k))
 exact a2.trans (HE _ (a2.ok k))
theorem bindsL_adv:∀ (f:Nat) (p:PS) (acc:List Bi),POk L n p→Adv L p (bindsL L E f p acc).2
 | 0,p,acc,k=>k.refl
 | f+1,p,acc,k=>by
  unfold bindsL
  by_cases h:isP L p kAnd=true
  ·rw [if_pos h]
   have a1:=Yj k h
   have a2:=a1.trans (bindG_adv HE (a1.ok k))
   exact a2.trans (bindsL_adv f _ _ (a2.ok k))
  rw [if_neg h];exact k.refl
theorem lambda_adv:∀ (f:Nat) (p:PS) (a:Int),POk L n p→Adv L p (lambdaG L E f p a).2
 | 0,p,a,k=>k.refl
 | f+1,p,a,k=>by
  unfold lambdaG
  have a1:=Zo (L:=L) (kind:=1) (s:=kE) (by decide) k
  by_cases h:(nxt L (takeP L p 1 kE).2).k=1
  ·rw [if_pos h];exact a1.trans (lambda_adv f _ _ (a1.ok k))
  rw [if_neg h]
  have a2:=a1.trans (Zo (kind:=7) (s:=kArrow) (by decide) (a1.ok k))
  exact a2.trans (HE _ (a2.ok k))
theorem altG_adv (k:POk L n p):Adv L p (altG L E p).2:=by
 unfold altG
 have a1:=patP_adv k
 have a2:=a1.trans (Zo (kind:=7) (s:=kArrow) (by decide) (a1.ok k))
 exact a2.trans (HE _ (a2.ok k))
theorem altsL_adv:∀ (f:Nat) (p:PS) (acc:List Al),POk L n p→Adv L p (altsL L E f p acc).2
 | 0,p,acc,k=>k.refl
 | f+1,p,acc,k=>by
  unfold altsL
  by_cases he:p.e≠0
  ·rw [if_pos he];exact k.refl
  rw [if_neg he]
  have a1:=altG_adv HE k
  by_cases h:isP L (altG L E p).2 kBar=true
  ·rw [if_pos h]
   have a2:=a1.trans (Yj (a1.ok k) h)
   exact a2.trans (altsL_adv f _ _ (a2.ok k))
  rw [if_neg h];exact a1
theorem caseG_adv (a:Int) (k:POk L n p):Adv L p (caseG L E a p).2:=by
 have a1:=HE _ k
 have a2:=a1.trans (Zo (kind:=6) (s:=kOf) (by decide) (a1.ok k))
 have a3:=a2.trans (altsL_adv HE (L.length+1) _ [] (a2.ok k))
 exact a3.trans (Zo (kind:=6) (s:=kEnd) (by decide) (a3.ok k))
omit HE in
theorem annG_adv {a:Int} {x:Ex × PS} (k:POk L n p) (h:Adv L p x.2):Adv L p (annG L a x).2:=by
 unfold annG
 by_cases h1:isP L x.2 kColon=true
 ·rw [if_pos h1]
  have a1:=h.trans (Yj (h.ok k) h1)
  have a2:=a1.trans (typeP_adv (a1.ok k))
  exact a2.trans (Zo (by decide) (a2.ok k))
 rw [if_neg h1];exact h.trans (Zo (by decide) (h.ok k))
theorem atom_adv (k:POk L n p):Adv L p (atomG L E p).2:=by
 unfold atomG
 by_cases h1:(nxt L p).k=1
 ·rw [if_pos h1];exact Xg k (Xm (by omega)).2
 by_cases h2:(nxt L p).k=2
 ·rw [if_neg h1,if_pos h2];exact Xg k (Xm (by omega)).2
 by_cases h3:(nxt L p).k=3
 ·rw [if_neg h1,if_neg h2,if_pos h3];exact Xg k (Xm (by omega)).2
 by_cases h4:(nxt L p).k=4
 ·rw [if_neg h1,if_neg h2,if_neg h3,if_pos h4];exact Xg k (Xm (by omega)).2
 by_cases h5:isP L p kCase=true
 ·rw [if_neg h1,if_neg h2,if_neg h3,if_neg h4,if_pos h5]
  have a1:=Yj k h5
  exact a1.trans (caseG_adv HE _ (a1.ok k))
 rw [if_neg h1,if_neg h2,if_neg h3,if_neg h4,if_neg h5]
 have a1:=Zo (L:=L) (kind:=7) (s:=kLP) (by decide) k
 by_cases h6:isP L (takeP L p 7 kLP).2 kRP=true
 ·rw [if_pos h6];exact a1.trans (Yj (a1.ok k) h6)
 by_cases h7:(nxt L (takeP L p 7 kLP).2).k=5
 ·rw [if_neg h6,if_pos h7]
  have a2:=a1.trans (Zo (kind:=5) (s:=kE) (by decide) (a1.ok k))
  exact a2.trans (Zo (by decide) (a2.ok k))
 rw [if_neg h6,if_neg h7]
 exact annG_adv k (a1.trans (HE _ (a1.ok k)))
theorem atom_lt (k:POk L n p) (hs:startsP L 2 p):p.at_+1≤(atomG L E p).2.at_:=by
 unfold atomG
 by_cases h1:(nxt L p).k=1
 ·rw [if_pos h1];exact Nat.le_refl _
 by_cases h2:(nxt L p).k=2
 ·rw [if_neg h1,if_pos h2];exact Nat.le_refl _
 by_cases h3:(nxt L p).k=3
 ·rw [if_neg h1,if_neg h2,if_pos h3];exact Nat.le_refl _
 by_cases h4:(nxt L p).k=4
 ·rw [if_neg h1,if_neg h2,if_neg h3,if_pos h4];exact Nat.le_refl _
 by_cases h5:isP L p kCase=true
 ·rw [if_neg h1,if_neg h2,if_neg h3,if_neg h4,if_pos h5]
  have a1:=Yj k h5
  exact (caseG_adv HE _ (a1.ok k)).1
 rw [if_neg h1,if_neg h2,if_neg h3,if_neg h4,if_neg h5]
 have hl:isP L p kLP=true:=by
  unfold startsP at hs
  rcases hs with q|q|q|q|q|q
  ·exact absurd q h1
  ·exact absurd q h2
  ·exact q
  ·exact absurd q.2 h3
  ·omega
  rcases q.2 with q|q
  ·exact absurd q h4
  exact absurd q h5
 have e1:=take_is (kind:=7) hl (by decide)
 rw [e1]
 have a1:=Yj k hl
 have k1:=a1.ok k
 by_cases h6:isP L (stepP p) kRP=true
 ·rw [if_pos h6];exact Nat.le_succ _
 by_cases h7:(nxt L (stepP p)).k=5
 ·rw [if_neg h6,if_pos h7]
  have a2:=Zo (L:=L) (kind:=5) (s:=kE) (by decide) k1
  have a3:=a2.trans (Zo (kind:=7) (s:=kRP) (by decide) (a2.ok k1))
  exact a3.1
 rw [if_neg h6,if_neg h7]
 exact (annG_adv (a:=(nxt L p).a) k1 (HE _ k1)).1
theorem appsL_adv (a:Int):∀ (f:Nat) (p:PS) (x:Ex),POk L n p→Adv L p (appsL L E a f p x).2
 | 0,p,x,k=>k.refl
 | f+1,p,x,k=>by
  unfold appsL
  by_cases h:startsP L 2 p
  ·rw [if_pos h]
   have a1:=atom_adv HE k
   exact a1.trans (appsL_adv a f _ _ (a1.ok k))
  rw [if_neg h];exact k.refl
theorem letG_adv (a m:Int) (k:POk L n p):Adv L p (letG L E a m p).2:=by
 have a1:=bindG_adv HE k
 have a2:=a1.trans (bindsL_adv HE (L.length+1) _ [(bindG L E p).1] (a1.ok k))
 have a3:=a2.trans (Zo (kind:=6) (s:=kIn) (by decide) (a2.ok k))
 exact a3.trans (HE _ (a3.ok k))
theorem ifG_adv (a:Int) (k:POk L n p):Adv L p (ifG L E a p).2:=by
 have a1:=HE _ k
 have a2:=a1.trans (Zo (kind:=6) (s:=kThen) (by decide) (a1.ok k))
 have a3:=a2.trans (HE _ (a2.ok k))
 have a4:=a3.trans (Zo (kind:=6) (s:=kElse) (by decide) (a3.ok k))
 exact a4.trans (HE _ (a4.ok k))
theorem operand_adv (k:POk L n p):Adv L p (operandG L E p).2:=by
 unfold operandG
 by_cases h1:isP L p kBack=true
 ·rw [if_pos h1]
  have a1:=Yj k h1
  exact a1.trans (lambda_adv HE _ _ _ (a1.ok k))
 by_cases h2:isP L p kLet=true
 ·rw [if_neg h1,if_pos h2]
  have a1:=Yj k h2
  by_cases h3:isP L (stepP p) kRec=true
  ·rw [if_pos h3]
   have a2:=a1.trans (Yj (a1.ok k) h3)
   exact a2.trans (letG_adv HE _ _ (a2.ok k))
  rw [if_neg h3];exact a1.trans (letG_adv HE _ _ (a1.ok k))
 by_cases h3:isP L p kIf=true
 ·rw [if_neg h1,if_neg h2,if_pos h3]
  have a1:=Yj k h3
  exact a1.trans (ifG_adv HE _ (a1.ok k))
 rw [if_neg h1,if_neg h2,if_neg h3]
 have a1:=atom_adv HE k
 exact a1.trans (appsL_adv HE _ _ _ _ (a1.ok k))
theorem opsL_adv:∀ (f:Nat) (p:PS) (l:List Ex) (o:List Tok),POk L n p→Adv L p (opsL L E f p l o).2
 | 0,p,l,o,k=>k.refl
 | f+1,p,l,o,k=>by
  unfold opsL
  by_cases h:(nxt L p).k=5
  ·rw [if_pos h]
   have a1:=Zo (L:=L) (kind:=5) (s:=kE) (by decide) k
   have a2:=a1.trans (operand_adv HE (a1.ok k))
   exact a2.trans (opsL_adv f _ _ _ (a2.ok k))
  rw [if_neg h];exact k.refl
end exps
theorem join_adv {y:(List Ex × List Tok) × PS} (k:POk L (n+1) p) (he:p.e=0) (h:Adv L (deeperP L p) y.2):Adv L p (joinE y).2:=by
 have kq:=deeper_ok k he
 obtain ⟨d1,d2⟩:=deeper_at (L:=L) (p:=p)
 unfold joinE
 by_cases h1:y.2.e≠0
 ·rw [if_pos h1]
  unfold Adv at *
  exact ⟨by dsimp only;omega,h.2.1,by dsimp only;omega,h.2.2.2.1,fun e=>absurd e h1⟩
 rw [if_neg h1]
 by_cases h2:0≤clashP y.1.2
 ·rw [if_pos h2]
  have a:=h.trans (fail_adv (e:=112) (wh:=((y.1.2[(clashP y.1.2).toNat]?).getD (tok0 0)).a) (h.ok kq) (by decide))
  have hn:=fail_ne (p:=y.2) (e:=112) (wh:=((y.1.2[(clashP y.1.2).toNat]?).getD (tok0 0)).a) (by decide)
  unfold Adv at *
  exact ⟨by dsimp only;omega,a.2.1,by dsimp only;omega,a.2.2.2.1,fun e=>absurd e hn⟩
 rw [if_neg h2];exact dec_adv he h
theorem expF_adv:∀ (n:Nat) (p:PS),POk L n p→Adv L p (expF L n p).2
 | 0,p,k=>k.refl
 | n+1,p,k=>by
  unfold expF
  by_cases he:p.e≠0
  ·rw [if_pos he];exact k.refl
  rw [if_neg he]
  have he:p.e=0:=Classical.not_not.1 he
  have kq:=deeper_ok k he
  have HE:=expF_adv n
  have a1:=operand_adv HE kq
  exact join_adv k he (a1.trans (opsL_adv HE _ _ _ _ (a1.ok kq)))
theorem expP_adv (k:POk L n p):Adv L p (expP L p).2:=expF_adv 302 p (k.up (by decide))
theorem expP_adv':∀ p,POk L 302 p→Adv L p (expP L p).2:=fun _ k=>expP_adv k
theorem Xh:∀ p,POk L 302 p→Adv L p (typeP L p).2:=fun _ k=>typeP_adv k
theorem bindP_adv (k:POk L 302 p):Adv L p (bindP L p).2:=bindG_adv expP_adv' k
theorem paramsL_adv:∀ (f:Nat) (p:PS) (acc:List ByteArray),POk L n p→Adv L p (paramsL L f p acc).2
 | 0,p,acc,k=>k.refl
 | f+1,p,acc,k=>by
  unfold paramsL
  by_cases h:(nxt L p).k=1
  ·rw [if_pos h]
   have a1:=Zo (L:=L) (kind:=1) (s:=kE) (by decide) k
   exact a1.trans (paramsL_adv f _ _ (a1.ok k))
  rw [if_neg h];exact k.refl
theorem con_adv (k:POk L 302 p):Adv L p (conP L p).2:=by
 have a1:=Zo (L:=L) (kind:=2) (s:=kE) (by decide) k
 exact a1.trans (typesL_adv Xh (L.length+1) _ [] (a1.ok k))
theorem consL_adv:∀ (f:Nat) (p:PS) (acc:List Cn),POk L 302 p→Adv L p (consL L f p acc).2
 | 0,p,acc,k=>k.refl
 | f+1,p,acc,k=>by
  unfold consL
  by_cases he:p.e≠0
  ·rw [if_pos he];exact k.refl
  rw [if_neg he]
  have a1:=con_adv k
  by_cases h:isP L (conP L p).2 kBar=true
  ·rw [if_pos h]
   have a2:=a1.trans (Yj (a1.ok k) h)
   exact a2.trans (consL_adv f _ _ (a2.ok k))
  rw [if_neg h];exact a1
theorem deriv_adv (k:POk L n p):Adv L p (derivP L p).2:=by
 unfold derivP
 by_cases h:isP L p kDeriv=true
 ·rw [if_pos h]
  have a1:=Yj k h
  have a2:=a1.trans (Zo (kind:=7) (s:=kLP) (by decide) (a1.ok k))
  have a3:=a2.trans (uppers_adv (a2.ok k))
  exact a3.trans (Zo (by decide) (a3.ok k))
 rw [if_neg h];exact k.refl
theorem data_adv (k:POk L 302 p):Adv L p (dataP L p).2:=by
 have a1:=Zo (L:=L) (kind:=2) (s:=kE) (by decide) k
 have a2:=a1.trans (paramsL_adv (L.length+1) _ [] (a1.ok k))
 have a3:=a2.trans (Zo (kind:=7) (s:=kEq) (by decide) (a2.ok k))
 have a4:=a3.trans (consL_adv (L.length+1) _ [] (a3.ok k))
 exact a4.trans (deriv_adv (a4.ok k))
theorem clsL_adv:∀ (f:Nat) (p:PS) (ms:List Me) (ds:List Bi),POk L 302 p→Adv L p (clsL L f p ms ds).2
 | 0,p,ms,ds,k=>k.refl
 | f+1,p,ms,ds,k=>by
  unfold clsL
  by_cases he:p.e≠0
  ·rw [if_pos he];exact k.refl
  rw [if_neg he]
  by_cases h:isP L p kEnd=true
  ·rw [if_pos h];exact Yj k h
  rw [if_neg h]
  by_cases h2:isP L p kDef=true
  ·rw [if_pos h2]
   have a1:=Yj k h2
   have a2:=a1.trans (bindP_adv (a1.ok k))
   have a3:=a2.trans (Zo (kind:=7) (s:=kSemi) (by decide) (a2.ok k))
   exact a3.trans (clsL_adv f _ _ _ (a3.ok k))
  rw [if_neg h2]
  have a1:=name_adv k
  have a2:=a1.trans (Zo (kind:=7) (s:=kColon) (by decide) (a1.ok k))
  have a3:=a2.trans (typeP_adv (a2.ok k))
  have a4:=a3.trans (Zo (kind:=7) (s:=kSemi) (by decide) (a3.ok k))
  exact a4.trans (clsL_adv f _ _ _ (a4.ok k))
theorem supers_adv (k:POk L n p):Adv L p (supersP L p).2:=by
 unfold supersP
 by_cases h:isP L p kFrom=true
 ·rw [if_pos h]
  have a1:=Yj k h
  exact a1.trans (uppers_adv (a1.ok k))
 rw [if_neg h];exact k.refl
theorem class_adv (k:POk L 302 p):Adv L p (classP L p).2:=by
 have a1:=Zo (L:=L) (kind:=2) (s:=kE) (by decide) k
 have a2:=a1.trans (Zo (kind:=1) (s:=kE) (by decide) (a1.ok k))
 have a3:=a2.trans (supers_adv (a2.ok k))
 have a4:=a3.trans (Zo (kind:=6) (s:=kWhere) (by decide) (a3.ok k))
 exact a4.trans (clsL_adv (L.length+1) _ [] [] (a4.ok k))
theorem pred_adv (k:POk L n p):Adv L p (predP L p).2:=by
 have a1:=Zo (L:=L) (kind:=2) (s:=kE) (by decide) k
 exact a1.trans (Zo (kind:=1) (s:=kE) (by decide) (a1.ok k))
theorem ctxL_adv:∀ (f:Nat) (p:PS) (acc:List Pr),POk L n p→Adv L p (ctxL L f p acc).2
 | 0,p,acc,k=>k.refl
 | f+1,p,acc,k=>by
  unfold ctxL
  by_cases he:p.e≠0
  ·rw [if_pos he];exact k.refl
  rw [if_neg he]
  have a1:=pred_adv k
  by_cases h:isP L (predP L p).2 kComma=true
  ·rw [if_pos h]
   have a2:=a1.trans (Yj (a1.ok k) h)
   exact a2.trans (ctxL_adv f _ _ (a2.ok k))
  rw [if_neg h];exact a1
theorem ctx_adv (k:POk L n p):Adv L p (ctxP L p).2:=by
 unfold ctxP
 by_cases h:isP L p kFrom=true
 ·rw [if_pos h]
  have a1:=Yj k h
  exact a1.trans (ctxL_adv _ _ _ (a1.ok k))
 rw [if_neg h];exact k.refl
theorem insL_adv:∀ (f:Nat) (p:PS) (bs:List Bi),POk L 302 p→Adv L p (insL L f p bs).2
 | 0,p,bs,k=>k.refl
 | f+1,p,bs,k=>by
  unfold insL
  by_cases he:p.e≠0
  ·rw [if_pos he];exact k.refl
  rw [if_neg he]
  by_cases h:isP L p kEnd=true
  ·rw [if_pos h];exact Yj k h
  rw [if_neg h]
  have a1:=Zo (L:=L) (kind:=6) (s:=kDef) (by decide) k
  have a2:=a1.trans (bindP_adv (a1.ok k))
  have a3:=a2.trans (Zo (kind:=7) (s:=kSemi) (by decide) (a2.ok k))
  exact a3.trans (insL_adv f _ _ (a3.ok k))
theorem inst_adv (k:POk L 302 p):Adv L p (instP L p).2:=by
 have a1:=Zo (L:=L) (kind:=2) (s:=kE) (by decide) k
 have a2:=a1.trans (atype_adv Xh (a1.ok k))
 have a3:=a2.trans (ctx_adv (a2.ok k))
 have a4:=a3.trans (Zo (kind:=6) (s:=kWhere) (by decide) (a3.ok k))
 exact a4.trans (insL_adv (L.length+1) _ [] (a4.ok k))
theorem decl_adv (x:Pg) (k:POk L 302 p):Adv L p (declP L p x).2:=by
 unfold declP
 by_cases h1:isP L p kData=true
 ·rw [if_pos h1];have a:=Yj k h1;exact a.trans (data_adv (a.ok k))
 by_cases h2:isP L p kClass=true
 ·rw [if_neg h1,if_pos h2];have a:=Yj k h2;exact a.trans (class_adv (a.ok k))
 by_cases h3:isP L p kInst=true
 ·rw [if_neg h1,if_neg h2,if_pos h3];have a:=Yj k h3;exact a.trans (inst_adv (a.ok k))
 rw [if_neg h1,if_neg h2,if_neg h3]
 have a1:=Zo (L:=L) (kind:=6) (s:=kDef) (by decide) k
 exact a1.trans (bindP_adv (a1.ok k))
end
theorem lexF_len:∀ (f:Nat) (i:Int) (l:List Nat) (acc:List Tok),(lexF f i l acc).1.length≤acc.length+l.length+1
 | 0,i,[],acc=>by rw [lexF_nil];simp
 | 0,i,_::_,acc=>by simp [lexF]
 | f+1,i,[],acc=>by rw [lexF_nil];simp
 | f+1,i,c::l,acc=>by
  by_cases h:(oneL i (c::l)).2.2≠0
  ·rw [lexF_bad h];simp
  have h:=Classical.not_not.1 h
  rw [lexF_go h]
  obtain ⟨h1,h2⟩:=oneL_le i c l h
  have:=lexF_len f ((oneL i (c::l)).2.1+ovr false ((c::l).drop ((oneL i (c::l)).2.1 - i).toNat)) (((c::l).drop ((oneL i (c::l)).2.1 - i).toNat).drop (ovr false ((c::l).drop ((oneL i (c::l)).2.1 - i).toNat))) (acc++[(oneL i (c::l)).1])
  simp only [List.length_append,List.length_drop,List.length_cons,List.length_nil] at this ⊢
  omega
theorem scanT_len (s:ByteArray):(scanT s).1.length≤60001:=by
 unfold scanT
 split
 ·simp
 split
 ·simp
 have h:=lexF_len (s.size+1) (ovr false (rst s 0)) ((rst s 0).drop (ovr false (rst s 0))) []
 rw [List.length_drop,rst_len] at h
 simp only [List.length_nil] at h
 omega
section
variable {L:List Tok} {n:Nat}
def TyB (L:List Tok) (n:Nat) (T:PS→Ty × PS):Prop:=∀ p,POk L n p→(T p).1.size+2 * p.at_≤2 * (T p).2.at_+1
theorem atype_size {T:PS→Ty × PS} (HT:TyB L n T) (HA:∀ p,POk L n p→Adv L p (T p).2) {p:PS} (k:POk L n p):(atypeG L T p).1.size+2 * p.at_≤2 * (atypeG L T p).2.at_+1∧(startsP L 0 p→(atypeG L T p).1.size+2 * p.at_≤2 * (atypeG L T p).2.at_):=by
 have h1s:∀ k s,(Ty.mk k s 0 []).size=1:=fun k s=>by simp [Ty.size,Ty.sizes]
 unfold atypeG
 by_cases h:(nxt L p).k=2
 ·rw [if_pos h]
  have:(stepP p).at_=p.at_+1:=rfl
  simp only [h1s]
  exact ⟨by omega,fun _=>by omega⟩
 by_cases h1:(nxt L p).k=1
 ·rw [if_neg h,if_pos h1]
  have:(stepP p).at_=p.at_+1:=rfl
  simp only [h1s]
  exact ⟨by omega,fun _=>by omega⟩
 rw [if_neg h,if_neg h1]
 have hst:startsP L 0 p→isP L p kLP=true:=fun hs=>by
  unfold startsP at hs
  rcases hs with q|q|q|q|q|q
  ·exact absurd q h1
  ·exact absurd q h
  ·exact q
  ·omega
  ·omega
  omega
 have a1:=Zo (L:=L) (kind:=7) (s:=kLP) (by decide) k
 have b1:=a1.1
 have hs1:startsP L 0 p→(takeP L p 7 kLP).2.at_=p.at_+1:=fun hs=>by rw [take_is (hst hs) (by decide)];rfl
 by_cases h2:isP L (takeP L p 7 kLP).2 kRP=true
 ·rw [if_pos h2]
  have:(stepP (takeP L p 7 kLP).2).at_=(takeP L p 7 kLP).2.at_+1:=rfl
  simp only [h1s]
  exact ⟨by omega,fun hs=>by have:=hs1 hs;omega⟩
 rw [if_neg h2]
 have k1:=a1.ok k
 have hT:=HT _ k1
 have k2:=(HA _ k1).ok k1
 have b3:=(Zo (L:=L) (kind:=7) (s:=kRP) (by decide) k2).1
 exact ⟨by dsimp only;omega,fun hs=>by have:=hs1 hs;dsimp only;omega⟩
theorem typesL_size {T:PS→Ty × PS} (HT:TyB L n T) (HA:∀ p,POk L n p→Adv L p (T p).2):∀ (f:Nat) (p:PS) (acc:List Ty),POk L n p→Ty.sizes (typesL L T f p acc).1+2 * p.at_≤Ty.sizes acc+2 * (typesL L T f p acc).2.at_
 | 0,p,acc,k=>Nat.le_refl _
 | f+1,p,acc,k=>by
  unfold typesL
  by_cases h:startsP L 0 p
  ·rw [if_pos h]
   have h1:=(atype_size HT HA k).2 h
   have a1:=atype_adv HA k
   have:=typesL_size HT HA f (atypeG L T p).2 (acc++[(atypeG L T p).1]) (a1.ok k)
   rw [Ty.sizes_app] at this
   simp only [Ty.sizes] at this
   omega
  rw [if_neg h];exact Nat.le_refl _
theorem typeF_size:∀ n:Nat,TyB L n (typeF L n)
 | 0,p,k=>by simp [typeF,ty0,Ty.size,Ty.sizes];omega
 | n+1,p,k=>by
  unfold typeF
  by_cases he:p.e≠0
  ·rw [if_pos he];simp [ty0,Ty.size,Ty.sizes];omega
  rw [if_neg he]
  have he:p.e=0:=Classical.not_not.1 he
  have kq:=deeper_ok k he
  have HA:=typeF_adv (L:=L) n
  have HT:=typeF_size n
  have a1:=typeH_adv HA kq
  have hd:(deeperP L p).at_=p.at_:=deeper_at.1
  have hH:(typeH L (typeF L n) (deeperP L p)).1.size+2 * p.at_≤2 * (typeH L (typeF L n) (deeperP L p)).2.at_+1:=by
   unfold typeH
   by_cases h:(nxt L (deeperP L p)).k=2
   ·rw [if_pos h]
    have ks:=(Xg kq (Xm (L:=L) (p:=deeperP L p) (by omega)).2).ok kq
    have:=typesL_size HT HA (L.length+1) (stepP (deeperP L p)) [] ks
    have e1:(stepP (deeperP L p)).at_=(deeperP L p).at_+1:=rfl
    simp only [Ty.size,Ty.sizes] at this ⊢
    omega
   rw [if_neg h]
   have:=(atype_size HT HA kq).1
   omega
  have kH:=a1.ok kq
  unfold typeR
  by_cases h:isP L (typeH L (typeF L n) (deeperP L p)).2 kArrow=true
  ·rw [if_pos h]
   have ka:=(Yj kH h).ok kH
   have h2:=HT _ ka
   have e1:(stepP (typeH L (typeF L n) (deeperP L p)).2).at_=(typeH L (typeF L n) (deeperP L p)).2.at_+1:=rfl
   have e2:∀ q:PS,(decP q).at_=q.at_:=fun q=>rfl
   simp only [Ty.size,Ty.sizes,e2]
   omega
  rw [if_neg h]
  have e2:∀ q:PS,(decP q).at_=q.at_:=fun q=>rfl
  simp only [e2]
  exact hH
theorem typeP_size {p:PS} (k:POk L n p):(typeP L p).1.size≤2 * L.length+1:=by
 have h:=typeF_size (L:=L) 302 p (k.up (by decide))
 have h2:=(typeP_adv k).2.1
 unfold typeP at h2 ⊢
 omega
theorem atypeP_size {p:PS} (k:POk L 302 p):(atypeG L (typeP L) p).1.size≤2 * L.length+1:=by
 have h:=(atype_size (T:=typeP L) (fun q kq=>typeF_size (L:=L) 302 q kq) Xh k).1
 have h2:=(atype_adv Xh k).2.1
 omega
theorem uppersL_len:∀ (f:Nat) (p:PS) (acc:List ByteArray),(uppersL L f p acc).1.length≤acc.length+f
 | 0,p,acc=>Nat.le_refl _
 | f+1,p,acc=>by
  unfold uppersL
  split
  ·have:=uppersL_len f (takeP L (stepP p) 2 kE).2 (acc++[(takeP L (stepP p) 2 kE).1.t])
   simp only [List.length_append,List.length_singleton] at this
   omega
  dsimp only;omega
theorem uppers_len (p:PS):(uppersP L p).1.length≤L.length+2:=by
 have:=uppersL_len (L:=L) (L.length+1) (takeP L p 2 kE).2 [(takeP L p 2 kE).1.t]
 simp only [List.length_singleton] at this
 unfold uppersP;omega
theorem paramsL_len:∀ (f:Nat) (p:PS) (acc:List ByteArray),(paramsL L f p acc).1.length≤acc.length+f
 | 0,p,acc=>Nat.le_refl _
 | f+1,p,acc=>by
  unfold paramsL
  split
  ·have:=paramsL_len f (takeP L p 1 kE).2 (acc++[(takeP L p 1 kE).1.t])
   simp only [List.length_append,List.length_singleton] at this
   omega
  dsimp only;omega
theorem consL_len:∀ (f:Nat) (p:PS) (acc:List Cn),(consL L f p acc).1.length≤acc.length+f
 | 0,p,acc=>Nat.le_refl _
 | f+1,p,acc=>by
  unfold consL
  split
  ·dsimp only;omega
  split
  ·have:=consL_len f (stepP (conP L p).2) (acc++[(conP L p).1])
   simp only [List.length_append,List.length_singleton] at this
   omega
  simp only [List.length_append,List.length_singleton];omega
theorem clsL_len:∀ (f:Nat) (p:PS) (ms:List Me) (ds:List Bi),(clsL L f p ms ds).1.1.length≤ms.length+f∧(clsL L f p ms ds).1.2.length≤ds.length+f
 | 0,p,ms,ds=>⟨Nat.le_refl _,Nat.le_refl _⟩
 | f+1,p,ms,ds=>by
  unfold clsL
  split
  ·exact ⟨by dsimp only;omega,by dsimp only;omega⟩
  split
  ·exact ⟨by dsimp only;omega,by dsimp only;omega⟩
  split
  ·have:=clsL_len f (takeP L (bindP L (stepP p)).2 7 kSemi).2 ms (ds++[(bindP L (stepP p)).1])
   simp only [List.length_append,List.length_singleton] at this
   omega
  have:=clsL_len f (takeP L (typeP L (takeP L (nameP L p).2 7 kColon).2).2 7 kSemi).2 (ms++[.mk (nameP L p).1.t (typeP L (takeP L (nameP L p).2 7 kColon).2).1 (nameP L p).1.a]) ds
  simp only [List.length_append,List.length_singleton] at this
  omega
theorem clsL_mt {B:Nat} (hB:2 * L.length+1≤B):∀ (f:Nat) (p:PS) (ms:List Me) (ds:List Bi),POk L 302 p→(∀ m∈ms,m.t.size≤B)→∀ m∈(clsL L f p ms ds).1.1,m.t.size≤B
 | 0,p,ms,ds,k,h=>h
 | f+1,p,ms,ds,k,h=>by
  unfold clsL
  by_cases he:p.e≠0
  ·rw [if_pos he];exact h
  rw [if_neg he]
  by_cases h1:isP L p kEnd=true
  ·rw [if_pos h1];exact h
  rw [if_neg h1]
  by_cases h2:isP L p kDef=true
  ·rw [if_pos h2]
   have a1:=Yj k h2
   have a2:=a1.trans (bindP_adv (a1.ok k))
   have a3:=a2.trans (Zo (kind:=7) (s:=kSemi) (by decide) (a2.ok k))
   exact clsL_mt hB f _ _ _ (a3.ok k) h
  rw [if_neg h2]
  have a1:=name_adv k
  have a2:=a1.trans (Zo (kind:=7) (s:=kColon) (by decide) (a1.ok k))
  have hs:=typeP_size (a2.ok k)
  have a3:=a2.trans (typeP_adv (a2.ok k))
  have a4:=a3.trans (Zo (kind:=7) (s:=kSemi) (by decide) (a3.ok k))
  refine clsL_mt hB f _ _ _ (a4.ok k) (fun m hm=>?_)
  rcases List.mem_append.1 hm with q|q
  ·exact h m q
  rw [List.mem_singleton.1 q];exact Nat.le_trans hs hB
theorem ctxL_len:∀ (f:Nat) (p:PS) (acc:List Pr),(ctxL L f p acc).1.length≤acc.length+f
 | 0,p,acc=>Nat.le_refl _
 | f+1,p,acc=>by
  unfold ctxL
  split
  ·dsimp only;omega
  split
  ·have:=ctxL_len f (stepP (predP L p).2) (acc++[(predP L p).1])
   simp only [List.length_append,List.length_singleton] at this
   omega
  simp only [List.length_append,List.length_singleton];omega
def CtxV (l:List Pr):Prop:=∀ p∈l,∃ c s,p=.mk c (.mk 1 s 0 [])
theorem ctxL_var:∀ (f:Nat) (p:PS) (acc:List Pr),CtxV acc→CtxV (ctxL L f p acc).1
 | 0,p,acc,h=>h
 | f+1,p,acc,h=>by
  have hs:CtxV (acc++[(predP L p).1]):=fun x hx=>by
   rcases List.mem_append.1 hx with q|q
   ·exact h x q
   rw [List.mem_singleton.1 q];exact ⟨_,_,rfl⟩
  unfold ctxL
  split
  ·exact h
  split
  ·exact ctxL_var f _ _ hs
  exact hs
theorem insL_len:∀ (f:Nat) (p:PS) (bs:List Bi),(insL L f p bs).1.length≤bs.length+f
 | 0,p,bs=>Nat.le_refl _
 | f+1,p,bs=>by
  unfold insL
  split
  ·dsimp only;omega
  split
  ·dsimp only;omega
  have:=insL_len f (takeP L (bindP L (takeP L p 6 kDef).2).2 7 kSemi).2 (bs++[(bindP L (takeP L p 6 kDef).2).1])
  simp only [List.length_append,List.length_singleton] at this
  omega
def DaB (d:Da):Prop:=d.ps.length≤100000∧d.cs.length≤100000
def ClB (c:Cl):Prop:=c.su.length≤100000∧c.ms.length≤100000∧c.ds.length≤100000∧∀ m∈c.ms,m.t.size≤1000000
def InB (x:In):Prop:=x.cx.length≤100000∧x.bs.length≤100000∧x.hd.kids.length≤200000
theorem data_b (hL:L.length≤60001) (p:PS):DaB (dataP L p).1:=by
 refine ⟨?_,?_⟩
 ·show (paramsL L (L.length+1) (takeP L p 2 kE).2 []).1.length≤100000
  have:=paramsL_len (L:=L) (L.length+1) (takeP L p 2 kE).2 []
  simp only [List.length_nil] at this;omega
 show (consL L (L.length+1) (takeP L (paramsL L (L.length+1) (takeP L p 2 kE).2 []).2 7 kEq).2 []).1.length≤100000
 have:=consL_len (L:=L) (L.length+1) (takeP L (paramsL L (L.length+1) (takeP L p 2 kE).2 []).2 7 kEq).2 []
 simp only [List.length_nil] at this;omega
theorem class_bd (hL:L.length≤60001) {p:PS} (k:POk L 302 p):ClB (classP L p).1:=by
 have a1:=Zo (L:=L) (kind:=2) (s:=kE) (by decide) k
 have a2:=a1.trans (Zo (kind:=1) (s:=kE) (by decide) (a1.ok k))
 have a3:=a2.trans (supers_adv (a2.ok k))
 have a4:=a3.trans (Zo (kind:=6) (s:=kWhere) (by decide) (a3.ok k))
 obtain ⟨q,hq⟩:∃ q,(takeP L (supersP L (takeP L (takeP L p 2 kE).2 1 kE).2).2 6 kWhere).2=q:=⟨_,rfl⟩
 have hl:=clsL_len (L:=L) (L.length+1) q [] []
 have hm:=clsL_mt (L:=L) (B:=1000000) (by omega) (L.length+1) q [] [] (by rw [← hq];exact a4.ok k) (by simp)
 simp only [List.length_nil] at hl
 refine ⟨?_,?_,?_,?_⟩
 ·show (supersP L (takeP L (takeP L p 2 kE).2 1 kE).2).1.length≤100000
  unfold supersP
  split
  ·have:=uppers_len (L:=L) (stepP (takeP L (takeP L p 2 kE).2 1 kE).2)
   omega
  simp
 ·show (clsL L (L.length+1) (takeP L (supersP L (takeP L (takeP L p 2 kE).2 1 kE).2).2 6 kWhere).2 [] []).1.1.length≤100000
  rw [hq];omega
 ·show (clsL L (L.length+1) (takeP L (supersP L (takeP L (takeP L p 2 kE).2 1 kE).2).2 6 kWhere).2 [] []).1.2.length≤100000
  rw [hq];omega
 show ∀ m∈(clsL L (L.length+1) (takeP L (supersP L (takeP L (takeP L p 2 kE).2 1 kE).2).2 6 kWhere).2 [] []).1.1,m.t.size≤1000000
 rw [hq];exact hm
theorem inst_bd (hL:L.length≤60001) {p:PS} (k:POk L 302 p):InB (instP L p).1∧CtxV (instP L p).1.cx:=by
 have a1:=Zo (L:=L) (kind:=2) (s:=kE) (by decide) k
 have hs:=atypeP_size (a1.ok k)
 obtain ⟨q,hq⟩:∃ q,(atypeG L (typeP L) (takeP L p 2 kE).2).2=q:=⟨_,rfl⟩
 have hc:(ctxP L q).1.length≤100000∧CtxV (ctxP L q).1:=by
  unfold ctxP
  split
  ·have:=ctxL_len (L:=L) (L.length+1) (stepP q) []
   simp only [List.length_nil] at this
   exact ⟨by omega,ctxL_var _ _ _ (fun x hx=>by simp at hx)⟩
  exact ⟨by simp,fun x hx=>by simp at hx⟩
 refine ⟨⟨?_,?_,?_⟩,?_⟩
 ·show (ctxP L (atypeG L (typeP L) (takeP L p 2 kE).2).2).1.length≤100000
  rw [hq];exact hc.1
 ·show (insL L (L.length+1) (takeP L (ctxP L (atypeG L (typeP L) (takeP L p 2 kE).2).2).2 6 kWhere).2 []).1.length≤100000
  have:=insL_len (L:=L) (L.length+1) (takeP L (ctxP L (atypeG L (typeP L) (takeP L p 2 kE).2).2).2 6 kWhere).2 []
  simp only [List.length_nil] at this;omega
 ·show (atypeG L (typeP L) (takeP L p 2 kE).2).1.kids.length≤200000
  have h2:=Ty.len_sizes (atypeG L (typeP L) (takeP L p 2 kE).2).1.kids
  generalize (atypeG L (typeP L) (takeP L p 2 kE).2).1=t at hs h2
  cases t
  simp only [Ty.size,Ty.kids] at hs h2 ⊢
  omega
 show CtxV (ctxP L (atypeG L (typeP L) (takeP L p 2 kE).2).2).1
 rw [hq];exact hc.2
structure PgB (m:Nat) (x:Pg):Prop where
 da:x.da.length≤m
 cl:x.cl.length≤m
 ins:x.ins.length≤m
 bs:x.bs.length≤m
 das:∀ d∈x.da,DaB d
 cls:∀ c∈x.cl,ClB c
 inss:∀ y∈x.ins,InB y∧CtxV y.cx
theorem decl_b (hL:L.length≤60001) {m:Nat} {p:PS} {x:Pg} (k:POk L 302 p) (h:PgB m x):PgB (m+1) (declP L p x).1:=by
 obtain ⟨h1,h2,h3,h4,h5,h6,h7⟩:=h
 obtain ⟨da,cl,ins,bs⟩:=x
 simp only [Pg.da,Pg.cl,Pg.ins,Pg.bs] at h1 h2 h3 h4 h5 h6 h7
 unfold declP
 by_cases q1:isP L p kData=true
 ·rw [if_pos q1]
  refine ⟨by simp [Pg.da];omega,by simp [Pg.cl];omega,by simp [Pg.ins];omega,by simp [Pg.bs];omega,fun d hd=>?_,h6,h7⟩
  rcases List.mem_append.1 hd with q|q
  ·exact h5 d q
  rw [List.mem_singleton.1 q];exact data_b hL _
 by_cases q2:isP L p kClass=true
 ·rw [if_neg q1,if_pos q2]
  refine ⟨by simp [Pg.da];omega,by simp [Pg.cl];omega,by simp [Pg.ins];omega,by simp [Pg.bs];omega,h5,fun d hd=>?_,h7⟩
  rcases List.mem_append.1 hd with q|q
  ·exact h6 d q
  rw [List.mem_singleton.1 q];exact class_bd hL ((Yj k q2).ok k)
 by_cases q3:isP L p kInst=true
 ·rw [if_neg q1,if_neg q2,if_pos q3]
  refine ⟨by simp [Pg.da];omega,by simp [Pg.cl];omega,by simp [Pg.ins];omega,by simp [Pg.bs];omega,h5,h6,fun d hd=>?_⟩
  rcases List.mem_append.1 hd with q|q
  ·exact h7 d q
  rw [List.mem_singleton.1 q];exact inst_bd hL ((Yj k q3).ok k)
 rw [if_neg q1,if_neg q2,if_neg q3]
 exact ⟨by simp [Pg.da];omega,by simp [Pg.cl];omega,by simp [Pg.ins];omega,by simp [Pg.bs];omega,h5,h6,h7⟩
theorem progL_b (hL:L.length≤60001):∀ (f m:Nat) (p:PS) (x:Pg),POk L 302 p→PgB m x→PgB (m+f) (progL L f p x).1
 | 0,m,p,x,k,h=>h
 | f+1,m,p,x,k,h=>by
  unfold progL
  by_cases he:p.e≠0∨(nxt L p).k=0
  ·rw [if_pos he]
   exact ⟨by have:=h.da;dsimp only;omega,by have:=h.cl;dsimp only;omega,by have:=h.ins;dsimp only;omega,by have:=h.bs;dsimp only;omega,h.das,h.cls,h.inss⟩
  rw [if_neg he]
  have a1:=decl_adv x k
  have a2:=a1.trans (Zo (kind:=7) (s:=kSemi) (by decide) (a1.ok k))
  have:=progL_b hL f (m+1) _ _ (a2.ok k) (decl_b hL k h)
  rw [show m+(f+1)=m+1+f by omega]
  exact this
end
theorem pg0_b:PgB 0 pg0:=⟨by simp [pg0,Pg.da],by simp [pg0,Pg.cl],by simp [pg0,Pg.ins],by simp [pg0,Pg.bs],by simp [pg0,Pg.da],by simp [pg0,Pg.cl],by simp [pg0,Pg.ins]⟩
theorem PgB.up {m m':Nat} {x:Pg} (h:PgB m x) (k:m≤m'):PgB m' x:=⟨Nat.le_trans h.da k,Nat.le_trans h.cl k,Nat.le_trans h.ins k,Nat.le_trans h.bs k,h.das,h.cls,h.inss⟩
open Go.RowKit
theorem IxF_Cl (p:Cl→Bool) (g:FuncId) (fs cs:List AV) (l:List Cl) (hg:∀ x∈l,BCall Tryz.prog g (fs++[.agg x.cells]++cs) (p x=true)):PCall Tryz.prog 209 [.seq 6 (Cl.cellss l),.clo (.func g) fs cs] (.val (.int .i64 (findI p l 0))):=by
 have hl:=Cl.cellss_len l
 obtain ⟨r,hr⟩:∃ r,findI p l 0=r:=⟨_,rfl⟩
 rw [hr]
 refine Zc Tryz.func209 V (by kernel_rfl) V (Xz V) ?_
 refine Q15 ?_
 refine c_lens (t:=0) V (.seq _ _) (fun hmax=>?_)
 refine Q381 ?_
 refine Zb 7 V V V (Yu V tu_38 V (.seq _ _) (fun n7=>?_))
 refine Q317 ?_
 apply Yd (rg [(2,5),(8,11)]) (σ:=Nat) (fun zz=>match zz with|i=>[(8,.val (.int .i64 i))]) (fun zz=>match zz with|i=>i≤l.length∧findI p (l.drop i) i=r) (fun zz=>match zz with|i=>l.length - i) (0)
 ·repeat' (first|exact Wc|apply Wa rfl|apply Wb rfl)
 ·exact ⟨by omega,hr⟩
 ·exact by4
 rintro i hI
 try dsimp only [List.cons_append,List.nil_append] at hI ⊢
 obtain ⟨hi,hu⟩:=hI
 refine Q318 ?_;intro c9 h9
 refine Q241 ?_
 rcases Za h9 with ⟨rfl,g9⟩|⟨rfl,g9⟩
 ·refine Q322 ?_
  rw [List.drop_eq_nil_of_le (by omega),findI] at hu;exact Zf rfl rfl (Xt _) by3 ⟨by rw [← hu],rfl⟩
 refine Q265 ?_
 obtain ⟨⟨ys,yv,ysu,yms,yds,yp⟩,hxy⟩:=Zr (l:=l) (i:=i) by7
 have hcy:=Cl.cellss_get hxy
 have hmy:=We hxy
 refine Q459 ?_
 rw [Yh hxy,findI] at hu
 have HG:=hg _ hmy
 simp only [Cl.cells] at HG
 refine Q327 ?_
 refine Zb 14 V V V (Zg V te_38 V (.seq _ _) V V (by assumption) ?_)
 refine Q127 ?_
 refine Zb 16 V V V (op_callvb (xs:=[.tmp 15]) V V V (HG) by1 ?_);intro c16 h16
 refine Q226 ?_
 rcases Za h16 with ⟨rfl,g16⟩|⟨rfl,g16⟩
 ·refine Q375 ?_
  rw [if_neg g16] at hu;exact ⟨i+1,⟨by omega,hu⟩,by show l.length - (i+1)<l.length - i;omega,by4,by3⟩
 refine Q358 ?_
 rw [if_pos g16] at hu;exact Zf rfl rfl (Xt _) by3 ⟨by rw [hu],rfl⟩
theorem fnd_Cl (p:Cl→Bool) (g:FuncId) (fs cs:List AV) (l:List Cl) (hg:∀ x∈l,BCall Tryz.prog g (fs++[.agg x.cells]++cs) (p x=true)):ACall Tryz.prog 185 [.seq 6 (Cl.cellss l),.clo (.func g) fs cs] [] (fun v M'=>(∃ b:Bool,(b=true↔0≤findI p l 0)∧v=.tup [.val (.int .i64 (max (findI p l 0) 0)),.val (.bool b)])∧M'=[]):=by
 have H:=IxF_Cl p g fs cs l hg
 refine Zc Tryz.func185 V (by kernel_rfl) V (Xz V) ?_
 refine Q237 ?_
 refine Q416 ?_
 refine Zb 9 V V V (Zd (xs:=[.tmp 7,.tmp 8]) V V (H) by1 ?_)
 refine Q271 ?_
 refine Q158 ?_
 refine Q346 ?_;intro c13 h13
 refine Q253 ?_
 exact Yy V V V (Xt _) by3 ⟨⟨_,h13,V⟩,V⟩
theorem Class1_c (c:Cl) (s:ByteArray):BCall Tryz.prog 186 [.agg c.cells,.cptr [.val (.string s)]] (sameB c.s s=true):=by
 obtain ⟨cs,cv,csu,cms,cds,cp⟩:=c
 simp only [Cl.cells,Cl.s,Xb]
 refine Zc Tryz.func186 V (by kernel_rfl) V (Xz V) ?_
 refine Q300 ?_
 refine Q477 ?_
 refine Q14 ?_
 refine Q60 ?_;intro c7 h7
 refine Q232 ?_
 exact Zf V V (Xt _) by3 ⟨⟨_,h7,V⟩,V⟩
theorem tClass_c (v:En) (s:ByteArray):PCall Tryz.prog 154 [.agg v.cells,.val (.string s)] (.tup [.val (.int .i64 (max (classI v s) 0)),.val (.bool (decide (0≤classI v s)))]):=by
 have H:=fnd_Cl (fun c=>sameB c.s s) 186 [] [.cptr [.val (.string s)]] v.cl (fun x _=>Class1_c x s)
 have he:findI (fun c=>sameB c.s s) v.cl 0=classI v s:=rfl
 rw [he] at H
 obtain ⟨da,cl,ins⟩:=v
 simp only [En.cl] at H
 simp only [En.cells]
 refine Zc Tryz.func154 V (by kernel_rfl) V (Xz V) ?_
 refine Q353 ?_
 refine Q100 ?_
 refine Q6 ?_
 refine Q477 ?_
 refine Q96 ?_
 refine Zb 9 V V V (op_callat [] (xs:=[.tmp 7,.tmp 8])  V V V H by1 ?_)
 rintro v9 M9 ⟨⟨b9,hb9,rfl⟩,rfl⟩
 refine Q298 ?_
 refine Q253 ?_
 obtain rfl:b9=decide (0≤classI (En.mk da cl ins) s):=by cases b9 <;> simp_all
 exact Yy V V V (Xt _) by3 ⟨V,V⟩
theorem sHasPrefix_c (s:ByteArray):BCall Tryz.prog 203 [.val (.string s),.val (.string kBr)] (isBr s=true):=by
 have h0 := @isBr_size s
 have hq:isBr s=true↔s.extract 0 1=kBr:=by unfold isBr;exact Xb
 have hk:kBr.size=1:=rfl
 generalize (isBr s=true)=q at *
 refine Zc Tryz.func203 V (by kernel_rfl) V (Xz V) ?_
 refine Q495 ?_
 refine Zy 4 (q) ?_ _ _ V ?_
 ·skip
  refine Q5 ?_
  refine Q62 ?_
  refine Q5 ?_
  refine Q62 ?_
  refine Q46 ?_;intro c9 h9
  refine Q5 ?_
  rcases Za h9 with ⟨rfl,g9⟩|⟨rfl,g9⟩
  ·skip
   refine Q251 ?_
   refine Q400 ?_
   refine Xx V ?_ by5 by3
   first|(simp_all;done)|grind
  skip
  refine Q312 ?_
  refine Zq 13 V V V V V (op_len_str V Xf V ?_)
  refine Zq 14 rfl rfl rfl rfl rfl (op_substrh (j:=1) rfl Xf rfl rfl (by first|rfl|omega) (by first|omega|assumption) ?_)
  refine Q16 ?_
  refine Q78 ?_;intro c16 h16
  refine Q273 ?_
  refine Xx V ?_ by5 by3
  first|(simp_all;done)|grind
 intro c4 h4
 refine Q303 ?_
 exact Zf V V (Xt _) by3 ⟨⟨_,h4,V⟩,V⟩
theorem HasPrefix_c (s:ByteArray):BCall Tryz.prog 174 [.val (.string s),.val (.string kBr)] (isBr s=true):=by
 have H:=sHasPrefix_c s
 refine Zc Tryz.func174 V (by kernel_rfl) V (Xz V) ?_
 refine Q408 ?_
 refine Zb 7 V V V (Ze (xs:=[.tmp 5,.tmp 6]) V V (H) by1 ?_);intro c7 h7
 refine Q232 ?_
 exact Zf V V (Xt _) by3 ⟨⟨_,h7,V⟩,V⟩
def clsC (v:En) (s:ByteArray):Int:=if isBr s=true then classI v (tailB s) else -1
theorem coClass_c (v:En) (s:ByteArray):PCall Tryz.prog 122 [.agg v.cells,.val (.string s)] (.tup [.val (.int .i64 (max (clsC v s) 0)),.val (.bool (decide (0≤clsC v s)))]):=by
 have H:=HasPrefix_c s
 have HC:=tClass_c v (s.extract 1 s.size)
 have h0 := @isBr_size s
 obtain ⟨r,hr⟩:∃ r,clsC v s=r:=⟨_,rfl⟩
 rw [hr]
 unfold clsC tailB at hr
 generalize isBr s=c at *
 generalize classI v (s.extract 1 s.size)=i at *
 obtain ⟨da,cl,ins⟩:=v
 simp only [En.cells] at HC ⊢
 refine Zc Tryz.func122 V (by kernel_rfl) V (Xz V) ?_
 refine Q353 ?_
 refine Q366 ?_
 refine Zb 7 V V V (Ze (xs:=[.tmp 6,.const (.string ⟨#[123]⟩)]) V V (H) by1 ?_);intro c7 h7
 refine Q26 ?_;intro c8 h8
 try replace h8:=Yo h8 h7
 refine Q226 ?_
 rcases Za h8 with ⟨rfl,g8⟩|⟨rfl,g8⟩
 ·refine Q242 ?_
  rw [if_pos (Classical.not_not.1 g8)] at hr
  subst hr
  have h1:=h0 (Classical.not_not.1 g8)
  refine Q463 ?_
  refine Q20 ?_
  refine Zx 11 rfl rfl (op_substrl (i:=1) rfl Xf rfl rfl (by first|rfl|omega) (by first|omega|assumption) ⟨rfl,rfl⟩) ?_
  refine Zx 12 V V (Zd (xs:=[.tmp 9,.tmp 11]) V V (HC) by1 ⟨V,V⟩) ?_
  refine Q544 ?_
  show AGo _ _ _ _ _ _ _
  refine Q303 ?_
  exact Yy V V V (Xt _) (Xo _) ⟨V,V⟩
 refine Q379 ?_
 rw [if_neg g8] at hr
 subst hr
 exact Yy V V V (Xt _) (Xo _) ⟨V,V⟩
theorem IxF_Da (p:Da→Bool) (g:FuncId) (fs cs:List AV) (l:List Da) (hg:∀ x∈l,BCall Tryz.prog g (fs++[.agg x.cells]++cs) (p x=true)):PCall Tryz.prog 202 [.seq 5 (Da.cellss l),.clo (.func g) fs cs] (.val (.int .i64 (findI p l 0))):=by
 have hl:=Da.cellss_len l
 obtain ⟨r,hr⟩:∃ r,findI p l 0=r:=⟨_,rfl⟩
 rw [hr]
 refine Zc Tryz.func202 V (by kernel_rfl) V (Xz V) ?_
 refine Q15 ?_
 refine c_lens (t:=0) V (.seq _ _) (fun hmax=>?_)
 refine Q381 ?_
 refine Q117 ?_;intro n7
 refine Q317 ?_
 apply Yd (rg [(2,5),(8,11)]) (σ:=Nat) (fun zz=>match zz with|i=>[(8,.val (.int .i64 i))]) (fun zz=>match zz with|i=>i≤l.length∧findI p (l.drop i) i=r) (fun zz=>match zz with|i=>l.length - i) (0)
 ·repeat' (first|exact Wc|apply Wa rfl|apply Wb rfl)
 ·exact ⟨by omega,hr⟩
 ·exact by4
 rintro i hI
 try dsimp only [List.cons_append,List.nil_append] at hI ⊢
 obtain ⟨hi,hu⟩:=hI
 refine Q318 ?_;intro c9 h9
 refine Q241 ?_
 rcases Za h9 with ⟨rfl,g9⟩|⟨rfl,g9⟩
 ·refine Q322 ?_
  rw [List.drop_eq_nil_of_le (by omega),findI] at hu;exact Zf rfl rfl (Xt _) by3 ⟨by rw [← hu],rfl⟩
 refine Q265 ?_
 obtain ⟨⟨ys,yps,ycs,ydv,yp⟩,hxy⟩:=Zr (l:=l) (i:=i) by7
 have hcy:=Da.cellss_get hxy
 have hmy:=We hxy
 refine Q459 ?_
 rw [Yh hxy,findI] at hu
 have HG:=hg _ hmy
 refine Q327 ?_
 refine Zb 14 V V V (Zg V te_37 V (.seq _ _) V V (hcy) ?_)
 refine Q109 ?_
 refine Zb 16 V V V (op_callvb (xs:=[.tmp 15]) V V V (HG) by1 ?_);intro c16 h16
 refine Q226 ?_
 rcases Za h16 with ⟨rfl,g16⟩|⟨rfl,g16⟩
 ·refine Q375 ?_
  rw [if_neg g16] at hu;exact ⟨i+1,⟨by omega,hu⟩,by show l.length - (i+1)<l.length - i;omega,by4,by3⟩
 refine Q358 ?_
 rw [if_pos g16] at hu;exact Zf rfl rfl (Xt _) by3 ⟨by rw [hu],rfl⟩
theorem fnd_Da (p:Da→Bool) (g:FuncId) (fs cs:List AV) (l:List Da) (hg:∀ x∈l,BCall Tryz.prog g (fs++[.agg x.cells]++cs) (p x=true)):PCall Tryz.prog 172 [.seq 5 (Da.cellss l),.clo (.func g) fs cs] (.tup [.val (.int .i64 (max (findI p l 0) 0)),.val (.bool (decide (0≤findI p l 0)))]):=by
 have H:=IxF_Da p g fs cs l hg
 refine Zc Tryz.func172 V (by kernel_rfl) V (Xz V) ?_
 refine Q237 ?_
 refine Q416 ?_
 refine Zb 9 V V V (Zd (xs:=[.tmp 7,.tmp 8]) V V (H) by1 ?_)
 refine Q271 ?_
 refine Q158 ?_
 refine Q346 ?_;intro c13 h13
 refine Q253 ?_
 exact Yy V V V (Le.tup (Xv (Xt _) (Xv (Le.beq (by cases c13 <;> simp_all)) (Xu _)))) by3 ⟨V,V⟩
theorem Arity1_c (x:Da) (s:ByteArray):BCall Tryz.prog 173 [.agg x.cells,.cptr [.val (.string s)]] (sameB x.s s=true):=by
 obtain ⟨ds,ps,cs,dv,p⟩:=x
 rw [show (sameB (Da.mk ds ps cs dv p).s s=true)=(ds=s) from propext Xb]
 refine Zc Tryz.func173 V (by kernel_rfl) V (Xz V) ?_
 refine Q237 ?_
 refine Q129 ?_
 refine Q477 ?_
 refine Q14 ?_
 refine Q60 ?_;intro c7 h7
 refine Q232 ?_
 exact Zf V V (Xt _) (Xo _) ⟨⟨_,h7,V⟩,V⟩
def baseA (s:ByteArray):Int:=if sameB s kIntT=true∨sameB s kStrT=true then 0 else if sameB s kRefT=true then 1 else if sameB s kArrow=true then 2 else -1
theorem tBase_c (s:ByteArray):PCall Tryz.prog 171 [.val (.string s)] (.tup [.val (.int .i64 (max (baseA s) 0)),.val (.bool (decide (0≤baseA s)))]):=by
 obtain ⟨r,hr⟩:∃ r,baseA s=r:=⟨_,rfl⟩
 rw [hr]
 unfold baseA at hr
 simp only [Xb] at hr
 refine Zc Tryz.func171 V (by kernel_rfl) V (Xz V) ?_
 refine Q237 ?_
 refine Q366 ?_
 refine Q286 ?_
 refine Q2 ?_
 refine Q227 ?_
 refine Q60 ?_;intro c6 h6
 refine Q228 ?_
 rcases Za h6 with ⟨rfl,g6⟩|⟨rfl,g6⟩
 ·refine Q8 ?_
  refine Q4 ?_
  refine Q60 ?_;intro c7 h7
  refine Q228 ?_
  rcases Za h7 with ⟨rfl,g7⟩|⟨rfl,g7⟩
  ·refine Q8 ?_
   refine Q227 ?_
   refine Q60 ?_;intro c9 h9
   refine Q228 ?_
   rcases Za h9 with ⟨rfl,g9⟩|⟨rfl,g9⟩
   ·refine Q8 ?_
    refine Q227 ?_
    refine Q60 ?_;intro c11 h11
    refine Q228 ?_
    rcases Za h11 with ⟨rfl,g11⟩|⟨rfl,g11⟩
    ·refine Q404 ?_
     refine Q227 ?_
     refine Q253 ?_
     rw [if_neg (fun q=>q.elim g6 g7),if_neg g9,if_neg g11] at hr
     subst hr
     exact Yy V V V (Xt _) by3 ⟨V,V⟩
    refine Q379 ?_
    rw [if_neg (fun q=>q.elim g6 g7),if_neg g9,if_pos g11] at hr
    subst hr
    exact Yy V V V (Xt _) by3 ⟨V,V⟩
   refine Q379 ?_
   rw [if_neg (fun q=>q.elim g6 g7),if_pos g9] at hr
   subst hr
   exact Yy V V V (Xt _) by3 ⟨V,V⟩
  refine Q379 ?_
  have hb:s=kIntT∨s=kStrT:=by first|exact .inl g6|exact .inr g7
  rw [if_pos hb] at hr
  subst hr
  exact Yy V V V (Xt _) by3 ⟨V,V⟩
 refine Q328 ?_
 refine Q379 ?_
 have hb:s=kIntT∨s=kStrT:=by first|exact .inl g6|exact .inr g7
 rw [if_pos hb] at hr
 subst hr
 exact Yy V V V (Xt _) by3 ⟨V,V⟩
theorem arityD_find (s:ByteArray):∀ (l:List Da) (i:Nat),(findI (fun (d:Da)=>sameB d.s s) l i<0→arityD s l = -1)∧(∀ k:Nat,findI (fun (d:Da)=>sameB d.s s) l i=((i+k:Nat):Int)→∃ d,l[k]?=some d∧arityD s l=d.ps.length)
 | [],i=>⟨fun _=>rfl,fun k h=>by rw [findI] at h;omega⟩
 | d::l,i=>by
  rw [findI,arityD]
  by_cases h:sameB d.s s=true
  ·rw [if_pos h,if_pos h]
   exact ⟨fun q=>by omega,fun k q=>⟨d,by rw [show k=0 by omega];rfl,V⟩⟩
  rw [if_neg h,if_neg h]
  obtain ⟨h1,h2⟩:=arityD_find s l (i+1)
  refine ⟨h1,fun k q=>?_⟩
  have:=findI_cases (fun (d:Da)=>sameB d.s s) l (i+1)
  obtain ⟨k,rfl⟩:∃ k',k=k'+1:=⟨k - 1,by omega⟩
  obtain ⟨x,h3,h4⟩:=h2 k (by rw [q];omega)
  exact ⟨x,by simpa using h3,h4⟩
theorem arityR_split (v:En) (s:ByteArray):arityR v s=if 0≤baseA s then baseA s else arityD s v.da:=by
 unfold arityR baseA
 split
 ·rfl
 split
 ·rfl
 split <;> rfl
theorem tArity_c (v:En) (s:ByteArray):PCall Tryz.prog 121 [.agg v.cells,.val (.string s)] (.tup [.val (.int .i64 (max (arityR v s) 0)),.val (.bool (decide (0≤arityR v s)))]):=by
 have HB:=tBase_c s
 have HF:=fnd_Da (fun d=>sameB d.s s) 173 [] [.cptr [.val (.string s)]] v.da (fun x _=>Arity1_c x s)
 obtain ⟨h1,h2⟩:=arityD_find s v.da 0
 obtain ⟨r,hr⟩:∃ r,arityR v s=r:=⟨_,rfl⟩
 rw [hr]
 rw [arityR_split] at hr
 generalize baseA s=ba at *
 have hfl:=findI_lt (fun (d:Da)=>sameB d.s s) v.da 0
 generalize findI (fun (d:Da)=>sameB d.s s) v.da 0=fi at *
 obtain ⟨c14,hc14⟩:∃ c,decide (0≤ba)=c:=⟨_,rfl⟩
 obtain ⟨c23,hc23⟩:∃ c,decide (0≤fi)=c:=⟨_,rfl⟩
 rw [hc14] at HB
 rw [hc23] at HF
 obtain ⟨da,cl,ins⟩:=v
 have hld:=Da.cellss_len da
 simp only [En.cells,En.da] at *
 refine Zc Tryz.func121 V (by kernel_rfl) V (Xz V) ?_
 refine Q353 ?_
 refine Q100 ?_
 refine Q470 ?_
 refine Q227 ?_
 refine Q14 ?_
 refine Zb 12 V V V (Zd (xs:=[.tmp 11]) V V (HB) by1 ?_)
 refine Q308 ?_
 refine Q6 ?_
 refine Q271 ?_
 refine Q226 ?_
 rcases c14 with _|_
 ·refine Q242 ?_
  have hb:¬ 0≤ba:=by simpa using hc14
  rw [if_neg hb] at hr
  refine Q4 ?_
  refine Q235 ?_
  refine Q96 ?_
  refine Zb 21 V V V (Zd (xs:=[.tmp 19,.tmp 20]) V V (HF) by1 ?_)
  refine Q308 ?_
  refine Q417 ?_;intro c25 h25
  try replace h25:=Yo h25 h23
  refine Q226 ?_
  rcases Za h25 with ⟨rfl,g25⟩|⟨rfl,g25⟩
  ·refine Q242 ?_
   have hf:0≤fi:=by simpa [← hc23] using g25
   obtain ⟨⟨qs,qps,qcs,qdv,qp⟩,hq,hqa⟩:=h2 fi.toNat (by omega)
   have hcq:=Da.cellss_get hq
   have hqs:=Ye qps
   rw [hqa] at hr
   subst hr
   rw [show max fi 0=(fi.toNat:Int) by omega]
   simp only [Da.ps]
   refine Q372 ?_
   refine Zb 29 V V V (Zg V te_37 V (.seq _ _) V V (hcq) ?_)
   refine Q235 ?_
   refine Q70 ?_;intro n32
   refine Q253 ?_
   exact Yy V V V (Le.tup (Xv (Le.ieq (by omega)) (Xv (Le.beq (by simp)) (Xu _)))) (Xo _) ⟨V,V⟩
  refine Q379 ?_
  have hf:¬ 0≤fi:=by simpa [← hc23] using g25
  rw [h1 (by omega)] at hr
  subst hr
  exact Yy V V V (Xt _) (Xo _) ⟨V,V⟩
 refine Q288 ?_
 refine Q253 ?_
 have hb:0≤ba:=by simpa using hc14
 rw [if_pos hb] at hr
 subst hr
 exact Yy V V V (Le.tup (Xv (Xt _) (Xv (Le.beq (by simpa using hb)) (Xu _)))) (Xo _) ⟨V,V⟩
theorem rightC_iff {v:En} {vs:List ByteArray} {k n:Int} {s:ByteArray} {ks:List Ty}:rightC v vs (.mk k s n ks)=true↔((k=1∧s∈vs)∨(k=3∧arC v s=ks.length))∧ks.all (rightC v vs)=true:=by
 rw [rightC,rightCs_all,Bool.and_eq_true]
 by_cases h1:k=1
 ·subst h1;simp [hasB_iff]
 rw [if_neg h1]
 by_cases h3:k=3
 ·subst h3;simp
 rw [if_neg h3];simp [h1,h3]
theorem arC_split (v:En) (s:ByteArray):arC v s=if 0≤arityR v s then arityR v s else if 0≤clsC v s then 1 else -1:=by
 unfold arC clsC
 by_cases h:isBr s=true
 ·rw [if_pos h];simp [h]
 rw [if_neg h];simp [h]
theorem coRight1_c (v:En) (vs:List ByteArray) (x:Ty) (h:BCall Tryz.prog 74 [.agg v.cells,.seq 1 (strs vs),.agg x.cells] (rightC v vs x=true)):BCall Tryz.prog 123 [.agg x.cells,.cptr v.cells,.cptr [.seq 1 (strs vs)]] (rightC v vs x=true):=by
 generalize (rightC v vs x=true)=q at *
 obtain ⟨k,s,n,ks⟩:=x
 obtain ⟨da,cl,ins⟩:=v
 simp only [En.cells] at *
 refine Zc Tryz.func123 V (by kernel_rfl) V (Xz V) ?_
 refine Q458 ?_
 refine Q536 ?_
 refine Q14 ?_
 refine Q42 ?_
 refine Zb 8 V V V (Ze (xs:=[.tmp 5,.tmp 6,.tmp 7]) V V (h) by1 ?_);intro c8 h8
 refine Q232 ?_
 exact Zf V V (Xt _) (Xo _) ⟨⟨_,h8,V⟩,V⟩
theorem coRight_c (v:En) (vs:List ByteArray) (t:Ty):BCall Tryz.prog 74 [.agg v.cells,.seq 1 (strs vs),.agg t.cells] (rightC v vs t=true):=by
 obtain ⟨k,s,n,ks⟩:=t
 have HA:=all_Ty (rightC v vs) 123 [] [.cptr v.cells,.cptr [.seq 1 (strs vs)]] ks (fun x hx=>coRight1_c v vs x (coRight_c v vs x))
 have HS:=ContainsS_c vs s
 have HN:=tArity_c v s
 have HC:=coClass_c v s
 have hr:=rightC_iff (v:=v) (vs:=vs) (k:=k) (s:=s) (n:=n) (ks:=ks)
 rw [arC_split] at hr
 generalize (rightC v vs (.mk k s n ks)=true)=R at *
 generalize (ks.all (rightC v vs)=true)=A at *
 generalize arityR v s=ar at *
 generalize clsC v s=cc at *
 obtain ⟨c26,hc26⟩:∃ c,decide (0≤ar)=c:=⟨_,rfl⟩
 obtain ⟨c35,hc35⟩:∃ c,decide (0≤cc)=c:=⟨_,rfl⟩
 rw [hc26] at HN
 rw [hc35] at HC
 have hlk:=Ty.cellss_len ks
 obtain ⟨da,cl,ins⟩:=v
 simp only [En.cells] at *
 refine Zc Tryz.func74 V (by kernel_rfl) V (Xz V) ?_
 refine Q353 ?_
 refine Q100 ?_
 refine Q69 ?_
 refine Q238 ?_
 refine Q352 ?_;intro c12 h12
 refine Q228 ?_
 rcases Za h12 with ⟨rfl,g12⟩|⟨rfl,g12⟩
 ·refine Q254 ?_;intro c19 h19
  refine Q228 ?_
  rcases Za h19 with ⟨rfl,g19⟩|⟨rfl,g19⟩
  ·refine Q8 ?_
   refine Q227 ?_
   refine Q232 ?_
   exact Zf V V (Xt _) (Xo _) ⟨⟨_,iff_f (fun q=>by have:=(hr.1 q).1;omega),V⟩,V⟩
  refine Q240 ?_
  refine Q410 ?_
  refine Zb 24 V V V (Zd (xs:=[.tmp 21,.tmp 23]) V V (HN) by1 ?_)
  refine Q308 ?_
  refine Q417 ?_;intro c28 h28
  try replace h28:=Yo h28 h26
  refine Q226 ?_
  rcases Za h28 with ⟨rfl,g28⟩|⟨rfl,g28⟩
  ·refine Q242 ?_
   refine Zy 44 (¬ ((if 0≤ar then ar else if 0≤cc then (1:Int) else -1)=ks.length)) ?_ _ _ V ?_
   ·skip
    refine Q419 ?_;intro c37 h37
    try replace h37:=Yo h37 h35
    refine Q5 ?_
    rcases Za h37 with ⟨rfl,g37⟩|⟨rfl,g37⟩
    ·skip
     refine Q16 ?_
     refine Q291 ?_
     refine Q79 ?_;intro n42
     refine Q66 ?_;intro c43 h43
     refine Q236 ?_
     refine Xx V ?_ by5 by3
     clear HA HS HN HC hr;first|grind|(simp_all;done)
    skip
    refine Q331 ?_
    refine Xx V ?_ by5 by3
    clear HA HS HN HC hr;first|grind|(simp_all;done)
   intro c44 h44
   refine Q1 ?_
   rcases Za h44 with ⟨rfl,g44⟩|⟨rfl,g44⟩
   ·refine Q404 ?_
    refine Q270 ?_
    refine Q130 ?_
    refine Zb 48 V V V (Ze (xs:=[.tmp 46,.tmp 47]) V V (HA) by1 ?_);intro c48 h48
    refine Q232 ?_
    exact Zf V V (Xt _) (Xo _) ⟨⟨_,h48.trans ⟨fun q=>hr.2 ⟨by first|exact .inl ⟨g12,Classical.not_not.1 g17⟩|exact .inr ⟨g19,Classical.not_not.1 g44⟩,q⟩,fun q=>(hr.1 q).2⟩,V⟩,V⟩
   refine Q285 ?_
   exact Zf V V (Xt _) (Xo _) ⟨⟨_,iff_f (fun q=>(hr.1 q).1.elim (fun h=>by omega) (fun h=>g44 h.2)),V⟩,V⟩
  refine Q240 ?_
  refine Q410 ?_
  refine Zb 33 V V V (Zd (xs:=[.tmp 30,.tmp 32]) V V (HC) by1 ?_)
  refine Q308 ?_
  refine Q494 ?_
  refine Q238 ?_
  refine Zy 44 (¬ ((if 0≤ar then ar else if 0≤cc then (1:Int) else -1)=ks.length)) ?_ _ _ V ?_
  ·skip
   refine Q419 ?_;intro c37 h37
   try replace h37:=Yo h37 h35
   refine Q5 ?_
   rcases Za h37 with ⟨rfl,g37⟩|⟨rfl,g37⟩
   ·skip
    refine Q16 ?_
    refine Q291 ?_
    refine Q79 ?_;intro n42
    refine Q66 ?_;intro c43 h43
    refine Q236 ?_
    refine Xx V ?_ by5 by3
    clear HA HS HN HC hr;first|grind|(simp_all;done)
   skip
   refine Q331 ?_
   refine Xx V ?_ by5 by3
   clear HA HS HN HC hr;first|grind|(simp_all;done)
  intro c44 h44
  refine Q1 ?_
  rcases Za h44 with ⟨rfl,g44⟩|⟨rfl,g44⟩
  ·refine Q404 ?_
   refine Q270 ?_
   refine Q130 ?_
   refine Zb 48 V V V (Ze (xs:=[.tmp 46,.tmp 47]) V V (HA) by1 ?_);intro c48 h48
   refine Q232 ?_
   exact Zf V V (Xt _) (Xo _) ⟨⟨_,h48.trans ⟨fun q=>hr.2 ⟨by first|exact .inl ⟨g12,Classical.not_not.1 g17⟩|exact .inr ⟨g19,Classical.not_not.1 g44⟩,q⟩,fun q=>(hr.1 q).2⟩,V⟩,V⟩
  refine Q285 ?_
  exact Zf V V (Xt _) (Xo _) ⟨⟨_,iff_f (fun q=>(hr.1 q).1.elim (fun h=>by omega) (fun h=>g44 h.2)),V⟩,V⟩
 refine Q240 ?_
 refine Q14 ?_
 refine Q235 ?_
 refine Zb 16 V V V (Ze (xs:=[.tmp 13,.tmp 15]) V V (HS) by1 ?_);intro c16 h16
 refine Q26 ?_;intro c17 h17
 try replace h17:=Yo h17 h16
 refine Q226 ?_
 rcases Za h17 with ⟨rfl,g17⟩|⟨rfl,g17⟩
 ·refine Q404 ?_
  refine Q270 ?_
  refine Q130 ?_
  refine Zb 48 V V V (Ze (xs:=[.tmp 46,.tmp 47]) V V (HA) by1 ?_);intro c48 h48
  refine Q232 ?_
  exact Zf V V (Xt _) (Xo _) ⟨⟨_,h48.trans ⟨fun q=>hr.2 ⟨by first|exact .inl ⟨g12,Classical.not_not.1 g17⟩|exact .inr ⟨g19,Classical.not_not.1 g44⟩,q⟩,fun q=>(hr.1 q).2⟩,V⟩,V⟩
 refine Q285 ?_
 exact Zf V V (Xt _) (Xo _) ⟨⟨_,iff_f (fun q=>(hr.1 q).1.elim (fun h=>g17 h.2) (fun h=>by omega)),V⟩,V⟩
termination_by SizeOf.sizeOf t
decreasing_by
 have:=List.sizeOf_lt_of_mem hx
 simp;omega
inductive Sc where
 | mk (vs:List ByteArray) (ps:List Pr) (t:Ty)
def Sc.cells:Sc→List AV
 | .mk vs ps t=>.seq 1 (strs vs)::.seq 5 (Pr.cellss ps)::t.cells
def Sc.vs:Sc→List ByteArray|.mk vs _ _=>vs
def Sc.ps:Sc→List Pr|.mk _ ps _=>ps
def Sc.t:Sc→Ty|.mk _ _ t=>t
def Sc.cellss (l:List Sc):List (List AV):=l.map Sc.cells
theorem Sc.cellss_map (l:List Sc):Sc.cellss l=l.map Sc.cells:=rfl
theorem Sc.cellss_len (l:List Sc):(Sc.cellss l).length=l.length:=by simp [Sc.cellss]
theorem Sc.cellss_get {l:List Sc} {i:Nat} {x:Sc} (h:l[i]?=some x):(Sc.cellss l)[i]?=some x.cells:=by simp [Sc.cellss,h]
theorem Sc.cells_len (x:Sc):x.cells.length=6:=by
 obtain ⟨xvs,xps,⟨xtk,xts,xtn,xtl⟩⟩:=x
 rfl
def Sc.cellsss (l:List (List Sc)):List (List AV):=l.map fun x=>[.seq 6 (Sc.cellss x)]
def Sc.Lim:Sc→Prop
 | .mk vs ps t=>(vs.length≤140737488355328)∧(ps.length≤140737488355328∧∀ x∈ps,x.Lim)∧(t.Lim)
inductive Pm where
 | mk (s:ByteArray) (op:Int) (n:Int) (sc:Sc)
def Pm.cells:Pm→List AV
 | .mk s op n sc=>.val (.string s)::.val (.int .i64 op)::.val (.int .i64 n)::sc.cells
def Pm.s:Pm→ByteArray|.mk s _ _ _=>s
def Pm.op:Pm→Int|.mk _ op _ _=>op
def Pm.n:Pm→Int|.mk _ _ n _=>n
def Pm.sc:Pm→Sc|.mk _ _ _ sc=>sc
def Pm.cellss (l:List Pm):List (List AV):=l.map Pm.cells
theorem Pm.cellss_map (l:List Pm):Pm.cellss l=l.map Pm.cells:=rfl
theorem Pm.cellss_len (l:List Pm):(Pm.cellss l).length=l.length:=by simp [Pm.cellss]
theorem Pm.cellss_get {l:List Pm} {i:Nat} {x:Pm} (h:l[i]?=some x):(Pm.cellss l)[i]?=some x.cells:=by simp [Pm.cellss,h]
theorem Pm.cells_len (x:Pm):x.cells.length=9:=by
 obtain ⟨xs,xop,xn,⟨xscvs,xscps,⟨xsctk,xscts,xsctn,xsctl⟩⟩⟩:=x
 rfl
def Pm.cellsss (l:List (List Pm)):List (List AV):=l.map fun x=>[.seq 9 (Pm.cellss x)]
def Pm.Lim:Pm→Prop
 | .mk _ _ _ sc=>(sc.Lim)
inductive Ato where
 | mk (k:Int) (n:Int)
def Ato.cells:Ato→List AV
 | .mk k n=>.val (.int .i64 k)::[.val (.int .i64 n)]
def Ato.k:Ato→Int|.mk k _=>k
def Ato.n:Ato→Int|.mk _ n=>n
def Ato.cellss (l:List Ato):List (List AV):=l.map Ato.cells
theorem Ato.cellss_map (l:List Ato):Ato.cellss l=l.map Ato.cells:=rfl
theorem Ato.cellss_len (l:List Ato):(Ato.cellss l).length=l.length:=by simp [Ato.cellss]
theorem Ato.cellss_get {l:List Ato} {i:Nat} {x:Ato} (h:l[i]?=some x):(Ato.cellss l)[i]?=some x.cells:=by simp [Ato.cellss,h]
theorem Ato.cells_len (x:Ato):x.cells.length=2:=by
 obtain ⟨xk,xn⟩:=x
 rfl
def Ato.cellsss (l:List (List Ato)):List (List AV):=l.map fun x=>[.seq 2 (Ato.cellss x)]
def Ato.Lim:Ato→Prop
 | .mk k n=>(I64 k)∧(I64 n)
inductive Is where
 | mk (op:Int) (a:Int) (b:Int) (n:Int) (ar:List Ato) (fs:List Int) (cp:List (List Ato))
def Is.cells:Is→List AV
 | .mk op a b n ar fs cp=>.val (.int .i64 op)::.val (.int .i64 a)::.val (.int .i64 b)::.val (.int .i64 n)::.seq 2 (Ato.cellss ar)::.seq 1 (nums fs)::[.seq 1 (Ato.cellsss cp)]
def Is.op:Is→Int|.mk op _ _ _ _ _ _=>op
def Is.a:Is→Int|.mk _ a _ _ _ _ _=>a
def Is.b:Is→Int|.mk _ _ b _ _ _ _=>b
def Is.n:Is→Int|.mk _ _ _ n _ _ _=>n
def Is.ar:Is→List Ato|.mk _ _ _ _ ar _ _=>ar
def Is.fs:Is→List Int|.mk _ _ _ _ _ fs _=>fs
def Is.cp:Is→List (List Ato)|.mk _ _ _ _ _ _ cp=>cp
def Is.cellss (l:List Is):List (List AV):=l.map Is.cells
theorem Is.cellss_map (l:List Is):Is.cellss l=l.map Is.cells:=rfl
theorem Is.cellss_len (l:List Is):(Is.cellss l).length=l.length:=by simp [Is.cellss]
theorem Is.cellss_get {l:List Is} {i:Nat} {x:Is} (h:l[i]?=some x):(Is.cellss l)[i]?=some x.cells:=by simp [Is.cellss,h]
theorem Is.cells_len (x:Is):x.cells.length=7:=by
 obtain ⟨xop,xa,xb,xn,xar,xfs,xcp⟩:=x
 rfl
def Is.cellsss (l:List (List Is)):List (List AV):=l.map fun x=>[.seq 7 (Is.cellss x)]
def Is.Lim:Is→Prop
 | .mk op a b n ar fs cp=>(I64 op)∧(I64 a)∧(I64 b)∧(I64 n)∧(ar.length≤140737488355328∧∀ x∈ar,x.Lim)∧(fs.length≤140737488355328∧∀ x∈fs,I64 x)∧(cp.length≤140737488355328∧∀ x∈cp,x.length≤140737488355328∧∀ y∈x,y.Lim)
inductive Cf where
 | mk (len:Int) (sl:Int) (cp:Int)
def Cf.cells:Cf→List AV
 | .mk len sl cp=>.val (.int .i64 len)::.val (.int .i64 sl)::[.val (.int .i64 cp)]
def Cf.len:Cf→Int|.mk len _ _=>len
def Cf.sl:Cf→Int|.mk _ sl _=>sl
def Cf.cp:Cf→Int|.mk _ _ cp=>cp
def Cf.cellss (l:List Cf):List (List AV):=l.map Cf.cells
theorem Cf.cellss_map (l:List Cf):Cf.cellss l=l.map Cf.cells:=rfl
theorem Cf.cellss_len (l:List Cf):(Cf.cellss l).length=l.length:=by simp [Cf.cellss]
theorem Cf.cellss_get {l:List Cf} {i:Nat} {x:Cf} (h:l[i]?=some x):(Cf.cellss l)[i]?=some x.cells:=by simp [Cf.cellss,h]
theorem Cf.cells_len (x:Cf):x.cells.length=3:=by
 obtain ⟨xlen,xsl,xcp⟩:=x
 rfl
def Cf.cellsss (l:List (List Cf)):List (List AV):=l.map fun x=>[.seq 3 (Cf.cellss x)]
def Cf.Lim:Cf→Prop
 | .mk len sl cp=>(I64 len)∧(I64 sl)∧(I64 cp)
inductive Cd where
 | mk (is:List Is) (fu:List Cf) (tx:List ByteArray) (gl:Int) (ys:Int) (no:Int)
def Cd.cells:Cd→List AV
 | .mk is fu tx gl ys no=>.seq 7 (Is.cellss is)::.seq 3 (Cf.cellss fu)::.seq 1 (strs tx)::.val (.int .i64 gl)::.val (.int .i64 ys)::[.val (.int .i64 no)]
def Cd.is:Cd→List Is|.mk is _ _ _ _ _=>is
def Cd.fu:Cd→List Cf|.mk _ fu _ _ _ _=>fu
def Cd.tx:Cd→List ByteArray|.mk _ _ tx _ _ _=>tx
def Cd.gl:Cd→Int|.mk _ _ _ gl _ _=>gl
def Cd.ys:Cd→Int|.mk _ _ _ _ ys _=>ys
def Cd.no:Cd→Int|.mk _ _ _ _ _ no=>no
def Cd.cellss (l:List Cd):List (List AV):=l.map Cd.cells
theorem Cd.cellss_map (l:List Cd):Cd.cellss l=l.map Cd.cells:=rfl
theorem Cd.cellss_len (l:List Cd):(Cd.cellss l).length=l.length:=by simp [Cd.cellss]
theorem Cd.cellss_get {l:List Cd} {i:Nat} {x:Cd} (h:l[i]?=some x):(Cd.cellss l)[i]?=some x.cells:=by simp [Cd.cellss,h]
theorem Cd.cells_len (x:Cd):x.cells.length=6:=by
 obtain ⟨xis,xfu,xtx,xgl,xys,xno⟩:=x
 rfl
def Cd.cellsss (l:List (List Cd)):List (List AV):=l.map fun x=>[.seq 6 (Cd.cellss x)]
def Cd.Lim:Cd→Prop
 | .mk is fu tx gl ys no=>(is.length≤140737488355328∧∀ x∈is,x.Lim)∧(fu.length≤140737488355328∧∀ x∈fu,x.Lim)∧(tx.length≤140737488355328)∧(I64 gl)∧(I64 ys)∧(I64 no)
end Go.Proofs.YteepjjgooplljaaGreat
namespace Go.Proofs.YteepjjgooplljaaGreat
mutual
def Ty.eqC:Ty→Ty→Bool
 | .mk k s n ks,.mk k' s' n' ks'=>decide (k=k') && sameB s s' && decide (n=n') && Ty.eqCs ks ks'
def Ty.eqCs:List Ty→List Ty→Bool
 | [],[]=>true
 | t::ts,u::us=>t.eqC u && Ty.eqCs ts us
 | _,_=>false
end
mutual
theorem Ty.eqC_iff:∀ a b:Ty,a.eqC b=true↔a=b
 | .mk k s n ks,.mk k' s' n' ks'=>by
  rw [Ty.eqC]
  simp only [Bool.and_eq_true,decide_eq_true_eq,Xb,Ty.eqCs_iff ks ks',Ty.mk.injEq,and_assoc]
theorem Ty.eqCs_iff:∀ a b:List Ty,Ty.eqCs a b=true↔a=b
 | [],[]=>by simp [Ty.eqCs]
 | [],_::_=>by simp [Ty.eqCs]
 | _::_,[]=>by simp [Ty.eqCs]
 | t::ts,u::us=>by
  rw [Ty.eqCs]
  simp only [Bool.and_eq_true,Ty.eqC_iff t u,Ty.eqCs_iff ts us,List.cons.injEq]
end
abbrev tyZ:Ty:=.mk 0 kE 0 []
abbrev co0:Co:=.mk 0 kE 0 tyZ [] [] [] []
abbrev cb0:Cb:=.mk kE [] tyZ co0
abbrev tInt:Ty:=.mk 3 kIntT 0 []
abbrev tStr:Ty:=.mk 3 kStrT 0 []
def starC (s:ByteArray) (t:Ty):Ty:=.mk 3 (kBr++s) 0 [t]
def partsC (v:En) (s:ByteArray) (t:Ty):Option (List Ty) :=
 if classI v s<0 then none else match v.cl[(classI v s).toNat]? with
  | none=>none
  | some c=>some (c.su.map (fun u=>starC u t)++c.ms.map fun m=>m.t.turn (putO [c.v] [t]))
def conC (s:ByteArray):List Da→Option (Da × Cn)
 | []=>none
 | d::l=>if findI (fun (c:Cn)=>sameB c.s s) d.cs 0<0 then conC s l else match d.cs[(findI (fun (c:Cn)=>sameB c.s s) d.cs 0).toNat]? with
  | none=>none
  | some c=>some (d,c)
def okL (f:Co→Ty × Bool):List Co→List Ty→Bool
 | [],[]=>true
 | x::xs,t::ts=>((f x).2 && (f x).1.eqC t) && okL f xs ts
 | _,_=>false
mutual
def patC (v:En):Pa→Ty→Option (List Cb)
 | .mk k s _ ks _,t=>if k=1 then some [] else if k=2 then some [.mk s [] t co0] else if k=4 then (if t.eqC tInt=true then some [] else none)
  else match conC s v.da with
   | none=>none
   | some (d,c)=>if t.kind≠3∨t.name≠d.s∨t.kids.length≠d.ps.length∨ks.length≠c.ts.length then none else patCs v ks (c.ts.map (Ty.turn (putO d.ps t.kids)))
def patCs (v:En):List Pa→List Ty→Option (List Cb)
 | p::ps,t::ts=>match patC v p t with
  | none=>none
  | some l=>match patCs v ps ts with
   | none=>none
   | some m=>some (l++m)
 | _,_=>some []
end
def unlB (l:List ByteArray):Bool := !dupB [] l
def bindC (f:List Cb→List ByteArray→Co→Ty × Bool) (v:En) (sc:List Cb) (vs:List ByteArray) (b:Cb):Bool :=
 (unlB b.vs && b.vs.all fun s => !hasB vs s) && (rightC v (vs++b.vs) b.t && ((f sc (vs++b.vs) b.e).2 && (f sc (vs++b.vs) b.e).1.eqC b.t))
def varC (sc:List Cb) (s:ByteArray) (ts:List Ty):Ty × Bool:=match findL s sc with
 | none=>(tyZ,false)
 | some b=>if b.vs.length=ts.length then (b.t.turn (putO b.vs ts),true) else (tyZ,false)
def coP (v:En) (pm:List Pm):Nat→List Cb→List ByteArray→Co→Ty × Bool
 | 0,_,_,_=>(tyZ,false)
 | n+1,sc,vs,.mk k s m t ts ks al bs =>
  if (ts.all (rightC v vs))=false then (tyZ,false)
  else if k=1 then varC sc s ts
  else if k=2 then (tInt,true)
  else if k=3 then (tStr,true)
  else if k=4 then (match conC s v.da with
   | none=>(tyZ,false)
   | some (d,c)=>if d.ps.length=ts.length∧okL (coP v pm n sc vs) ks (c.ts.map (Ty.turn (putO d.ps ts)))=true then (.mk 3 d.s 0 ts,true) else (tyZ,false))
  else if k=5 then (match ks with
   | [f,x]=>if (coP v pm n sc vs f).2=true then (match (coP v pm n sc vs f).1 with
       | .mk 3 _ _ [a,b]=>if (coP v pm n sc vs f).1.args≠[]∧((coP v pm n sc vs x).2 && (coP v pm n sc vs x).1.eqC a)=true then (b,true) else (tyZ,false)
       | _=>(tyZ,false)) else (tyZ,false)
   | _=>(tyZ,false))
  else if k=6 then (match ks with
   | [x]=>if rightC v vs t=true then (.mk 3 arrow 0 [t,(coP v pm n (sc++[.mk s [] t co0]) vs x).1],(coP v pm n (sc++[.mk s [] t co0]) vs x).2) else (tyZ,false)
   | _=>(tyZ,false))
  else if k=7 then (match ks with
   | [x]=>if unlB (bs.map Cb.s)=true∧(bs.all fun b=>(decide (m≠1) || decide (b.e.k=6)) && bindC (coP v pm n) v (if m=1 then sc++bs else sc) vs b)=true then coP v pm n (sc++bs) vs x else (tyZ,false)
   | _=>(tyZ,false))
  else if k=8 then (match ks with
   | [x]=>if rightC v vs t=true then (t,(coP v pm n sc vs x).2 && al.all fun a=>match patC v a.q (coP v pm n sc vs x).1 with
       | none=>false
       | some l=>unlB a.q.names && ((coP v pm n (sc++l) vs a.e).2 && (coP v pm n (sc++l) vs a.e).1.eqC t)) else (tyZ,false)
   | _=>(tyZ,false))
  else if k=9 then (if m<1∨pm.length<m then (tyZ,false) else match pm[(m - 1).toNat]? with
   | none=>(tyZ,false)
   | some p=>if p.sc.vs.length=ts.length∧okL (coP v pm n sc vs) ks (p.sc.t.args.map (Ty.turn (putO p.sc.vs ts)))=true then (p.sc.t.ans.turn (putO p.sc.vs ts),true) else (tyZ,false))
  else if k=10 then (starC s t,rightC v vs t && match partsC v s t with
   | none=>false
   | some l=>okL (coP v pm n sc vs) ks l)
  else if k=11 then (match ks with
   | [x]=>(match coP v pm n sc vs x with
       | (.mk 3 c _ [u],true)=>if c=kBr++s then (match partsC v s u with
           | none=>(tyZ,false)
           | some l=>if m<0 then (tyZ,false) else match l[m.toNat]? with
            | none=>(tyZ,false)
            | some r=>(r,true)) else (tyZ,false)
       | _=>(tyZ,false))
   | _=>(tyZ,false))
  else (tyZ,false)
open Go.RowKit
theorem CloneCb_c (ks:List Cb) (hb:ks.length≤1000000000):OCall Tryz.prog 147 [.seq 17 (Cb.cellss ks)] 46 17 (Cb.cellss ks):=by
 have hl:=Cb.cellss_len ks
 refine Zc Tryz.func147 V (by kernel_rfl) V (Xz V) ?_
 refine Q527 ?_
 refine Zb 4 V V V (op_isnil V tu_27 V (.seq _ _) ?_)
 intro c4 h4
 refine Q226 ?_
 rcases c4 with _|_
 ·refine Q289 ?_
  refine Zb 5 V V V (Yt (xs:=[]) el_27 V V V V V V (Xz V) ?_);intro u5
  refine Q5 ?_
  refine Zb 7 V V V (Zw (i:=0) el_27 V V V V (.seq _ _) by6 ?_)
  intro u7
  refine Q232 ?_
  exact Zf V V (Xt _) by3 ⟨_,V,V⟩
 refine Q502 ?_
 refine Yv 46 17 (c_ret ?_)
 rw [h4 rfl];exact Zf rfl rfl (Le.nilOwn 17) (Xn _) ⟨_,rfl,rfl⟩
theorem coFind_c (sc:List Cb) (vs:List ByteArray) (s:ByteArray):PCall Tryz.prog 81 [.agg [.seq 17 (Cb.cellss sc),.seq 1 (strs vs)],.val (.string s)] (.tup [.agg ((findL s sc).getD cb0).cells,.val (.bool (findL s sc).isSome)]):=by
 obtain ⟨r,hr⟩:∃ r,findL s sc=r:=⟨_,rfl⟩
 rw [hr]
 have hl:=Cb.cellss_len sc
 refine Zc Tryz.func81 V (by kernel_rfl) V (Xz V) ?_
 refine Q15 ?_
 refine c_lena (t:=0) (j:=0) V V (.seq _ _) (fun hmax=>?_)
 refine Q227 ?_
 refine Zb 2 V V V (op_boxc (cs':=[_,_]) V V V V ?_)
 refine Q98 ?_;intro b4
 refine Q383 ?_
 refine Q91 ?_;intro n9
 refine Q65 ?_
 refine Q269 ?_
 apply Ym (rg [(0,1),(3,1),(5,23)]) (σ:=Nat) (fun zz=>match zz with|i=>[(6,.val (.int .i64 ((i:Int) - 1)))]) (fun zz=>match zz with|i=>[.loc b4 [.val (.string kE),.val (.slice none 0 0),.val (.int .i64 0),.val (.string kE),.val (.int .i64 0),.val (.slice none 0 0),.val (.int .i64 0),.val (.string kE),.val (.int .i64 0),.val (.int .i64 0),.val (.string kE),.val (.int .i64 0),.val (.slice none 0 0),.val (.slice none 0 0),.val (.slice none 0 0),.val (.slice none 0 0),.val (.slice none 0 0)]]) (fun zz=>match zz with|i=>i≤sc.length∧findL s (sc.take i)=r) (fun zz=>match zz with|i=>i) (sc.length)
 ·repeat' (first|exact Wc|apply Wa rfl|apply Wb rfl)
 ·exact ⟨Nat.le_refl _,by rw [List.take_length];exact hr⟩
 ·exact Xw V (Le.ieq (by omega)) by4
 ·exact by3
 rintro i hI
 try dsimp only [List.cons_append,List.nil_append] at hI ⊢
 obtain ⟨hi,hf⟩:=hI
 refine Q261 ?_
 refine Q46 ?_;intro c12 h12
 refine Q226 ?_
 rcases Za h12 with ⟨rfl,g12⟩|⟨rfl,g12⟩
 ·refine Q343 ?_
  obtain rfl:i=0:=by omega
  rw [List.take_zero,findL] at hf
  subst hf
  refine Q4 ?_
  refine Zb 28 V V V (Zp (ns:=[]) (xs:=[]) V tz_46 V tfl_46 V V V V ?_)
  refine Q93 ?_
  refine Q232 ?_
  exact Yn (i:=0) V V V V ta_46 V by0 (Xo _) ⟨V,V⟩
 refine Q265 ?_
 obtain ⟨i,rfl⟩:∃ j,i=j+1:=⟨i - 1,by omega⟩
 rw [show (((i+1:Nat):Int) - 1)=(i:Int) by omega]
 obtain ⟨⟨qb,qvs,⟨qwk,qws,qwn,qwl⟩,⟨qk,qs,qn,⟨qtk,qts,qtn,qtl⟩,qus,qks,qal,qbs⟩⟩,hxq⟩:=Zr (l:=sc) (i:=i) (by omega)
 have hcq:=Cb.cellss_get hxq
 rw [Yl hxq,findL_snoc] at hf
 have hf:(if sameB qb s=true then some (Cb.mk qb qvs ⟨qwk,qws,qwn,qwl⟩ ⟨qk,qs,qn,⟨qtk,qts,qtn,qtl⟩,qus,qks,qal,qbs⟩) else findL s (sc.take i))=r:=hf
 refine Q372 ?_
 refine Zb 18 V V V (Zg V te_27 V (.seq _ _) V V (hcq) ?_)
 refine Q532 ?_;intro c22 h22
 refine Q226 ?_
 rcases Za h22 with ⟨rfl,g22⟩|⟨rfl,g22⟩
 ·refine Q404 ?_
  refine Q234 ?_
  refine Q65 ?_
  refine Q239 ?_
  refine go_lp ?_
  rw [if_neg (fun q=>g22 (Xb.1 q))] at hf
  exact ⟨i,⟨by omega,hf⟩,by show i<i+1;omega,by4,by3⟩
 refine Q534 ?_
 refine Zb 26 V V V (Zg V te_27 V (.seq _ _) V V (hcq) ?_)
 refine Q101 ?_
 refine Q93 ?_
 refine Q232 ?_
 rw [if_pos (Xb.2 g22)] at hf
 subst hf
 exact Yn (i:=0) V V V V ta_46 V by0 (Xo _) ⟨V,V⟩
def ckC (v:En) (pm:List (List AV)) (sc:List Cb) (vs:List ByteArray):List AV:=.seq 17 (Cb.cellss sc)::.seq 1 (strs vs)::(v.cells++[.seq 9 pm])
theorem coWith_c (v:En) (pm:List (List AV)) (sc l:List Cb) (vs:List ByteArray) (h1:sc.length≤1000000000) (h2:l.length≤1000000000):PCall Tryz.prog 86 [.agg (ckC v pm sc vs),.seq 17 (Cb.cellss l)] (.agg (ckC v pm (sc++l) vs)):=by
 have HC:=CloneCb_c sc h1
 have hl1:=Cb.cellss_len sc
 have hl2:=Cb.cellss_len l
 unfold ckC
 rw [Cb.cellss_app]
 obtain ⟨da,cl,ins⟩:=v
 simp only [En.cells,List.cons_append,List.nil_append]
 refine Zc Tryz.func86 V (by kernel_rfl) V (Xz V) ?_
 refine Q237 ?_
 refine Zb 2 V V V (op_boxe (cs':=[_,_,_,_,_,_]) V V V V ?_);intro b2
 refine Q112 ?_;intro b4
 refine Q258 ?_
 refine Q11 ?_
 refine Q272 ?_
 refine Zb 8 V V V (op_callo (xs:=[.tmp 7]) V V (HC) by1 ?_);intro u8
 refine Q5 ?_
 refine Zb 10 V V V (Zw (i:=0) el_27 V V V V (.seq _ _) by6 ?_)
 intro u10
 refine Q11 ?_
 refine Q11 ?_
 refine Ya V V (Zu (cs':=[_,_,_,_,_,_]) (i:=2) V ts_27 V V V V V (Xz V) V ?_)
 refine Q258 ?_
 refine Q191 ?_
 refine Q192 ?_
 refine Q257 ?_
 exact Zj (i:=1) V V V ta_92 V by2 (Xo _) ⟨V,V⟩
theorem coMono_c (s:ByteArray) (t:Ty):PCall Tryz.prog 87 [.val (.string s),.agg t.cells] (.agg (Cb.mk s [] t co0).cells):=by
 obtain ⟨k,ts,n,ks⟩:=t
 refine Zc Tryz.func87 V (by kernel_rfl) V (Xz V) ?_
 refine Q458 ?_
 refine Q98 ?_;intro b4
 refine Q287 ?_
 refine Q42 ?_
 refine Zb 7 V V V (Zp (ns:=[0,2]) (xs:=[.tmp 5,.tmp 6]) V tz_46 V tfl_46 V V V V ?_)
 refine Q93 ?_
 refine Q257 ?_
 exact Zj (i:=0) V V V ta_46 V by0 (Xo _) ⟨V,V⟩
mutual
def Ty.wd:Ty→Prop
 | .mk _ _ _ ks=>ks.length≤1000000∧Ty.wds ks
def Ty.wds:List Ty→Prop
 | []=>True
 | t::ts=>t.wd∧Ty.wds ts
end
theorem Ty.wds_iff:∀ l:List Ty,Ty.wds l↔∀ t∈l,t.wd
 | []=>by simp [Ty.wds]
 | t::l=>by simp [Ty.wds,Ty.wds_iff l]
theorem Ty.wds_at {l:List Ty} {i:Nat} {t:Ty} (h:Ty.wds l) (hx:l[i]?=some t):t.wd:=(Ty.wds_iff l).1 h t (We hx)
theorem Ty.size_wd:∀ (d:Nat) (t:Ty),t.size≤d→t.size≤1000000→t.wd:=by
 intro d
 induction d with
 | zero=>intro t h;have:=Ty.size_pos t;omega
 | succ d ih =>
  rintro ⟨k,s,n,ks⟩ h h2
  have hl:=Ty.len_sizes ks
  rw [Ty.wd]
  rw [Ty.size] at h h2
  refine ⟨by omega,(Ty.wds_iff ks).2 fun t ht=>?_⟩
  obtain ⟨i,hi⟩:=List.mem_iff_getElem?.1 ht
  have:=Ty.size_at hi
  exact ih t (by omega) (by omega)
theorem Ty.turn_wd {o:Ty→Option Ty} (ho:∀ x y,o x=some y→y.wd):∀ (d:Nat) (t:Ty),t.size≤d→t.wd→(t.turn o).wd:=by
 intro d
 induction d with
 | zero=>intro t h;have:=Ty.size_pos t;omega
 | succ d ih =>
  rintro ⟨k,s,n,ks⟩ h hw
  cases q:o (.mk k s n ks) with
  | some y=>rw [Ty.turn_some q];exact ho _ _ q
  | none =>
   rw [Ty.turn_none q]
   rw [Ty.wd] at hw ⊢
   rw [Ty.size] at h
   refine ⟨by rw [Ty.turns_len];exact hw.1,(Ty.wds_iff _).2 fun t ht=>?_⟩
   rw [Ty.turns_map] at ht
   obtain ⟨x,hx,rfl⟩:=List.mem_map.1 ht
   obtain ⟨i,hi⟩:=List.mem_iff_getElem?.1 hx
   have:=Ty.size_at hi
   exact ih x (by omega) (Ty.wds_at hw.2 hi)
theorem putO_wd {names:List ByteArray} {ts:List Ty} (h:∀ t∈ts,t.wd):∀ x y,putO names ts x=some y→y.wd:=by
 intro x y q
 unfold putO at q
 split at q
 ·exact h y (We q)
 simp at q
theorem les_eqW {cs cs':List AV} (h:cs=cs'):Les cs cs':=by rw [h];exact Xu _
abbrev zTyW:List AV:=[.val (.int .i64 0),.val (.string ⟨#[]⟩),.val (.int .i64 0),.val (.slice none 0 0)]
theorem noneW_c (x:Ty) (o:Ty→Option Ty) (ho:o x=none):ACall Tryz.prog 142 [.agg x.cells] [] (fun v M'=>[]=M'∧∃ (y:Ty) (c:Bool),v=.tup [.agg y.cells,.val (.bool c)]∧o x=if c then some y else none):=by
 obtain ⟨k,s,n,ks⟩:=x
 refine Zc Tryz.func142 V (by kernel_rfl) V (Xz V) ?_
 refine Q374 ?_;intro b1
 refine Q21 ?_;intro b2
 refine Q264 ?_
 refine Q81 ?_
 refine Q380 ?_
 exact Yn (i:=0) V V V V Yi V by2 by3 ⟨V,.mk k s n ks,false,V,ho⟩
theorem turn_esW (o:Ty→Option Ty) (ks:List Ty) (i:Nat) (x:Ty) (hx:ks[i]?=some x) (zc:List AV) :
    (Ty.cellss (Ty.turns o (ks.take i))++List.replicate (ks.length - i) zc).set i (x.turn o).cells=Ty.cellss (Ty.turns o (ks.take (i+1)))++List.replicate (ks.length - (i+1)) zc:=by
 have hi:i<ks.length:=by
  rcases Nat.lt_or_ge i ks.length with k|k
  ·exact k
  rw [List.getElem?_eq_none k] at hx;simp at hx
 have hl:(Ty.cellss (Ty.turns o (ks.take i))).length=i:=by rw [Ty.cellss_len,Ty.turns_len];simp;omega
 rw [List.set_append_right _ _ (by omega),hl,Nat.sub_self,show ks.length - i=(ks.length - (i+1))+1 from by omega,List.replicate_succ,List.set_cons_zero,Yl hx,Ty.turns_snoc,Ty.cellss_app]
 simp [Ty.cellss]
theorem turn_wideW (o:Ty→Option Ty) (ks:List Ty) (i:Nat) (zc:List AV) (hz:zc.length=4):∀ e∈Ty.cellss (Ty.turns o (ks.take i))++List.replicate (ks.length - i) zc,e.length=4:=by
 intro e he
 rcases List.mem_append.1 he with q|q
 ·rw [Ty.cellss_map] at q
  obtain ⟨⟨k,s,n,l⟩,_,rfl⟩:=List.mem_map.1 q
  rfl
 rw [List.eq_of_mem_replicate q];exact hz
theorem turnW_c (o:Ty→Option Ty) (f:FuncId) (fs cs:List AV) (Mc:Mem)
    (hf:∀ x,ACall Tryz.prog f (fs++[.agg (Ty.cells x)]++cs) Mc (fun v M'=>Mc=M'∧∃ (y:Ty) (c:Bool),v=.tup [.agg y.cells,.val (.bool c)]∧o x=if c then some y else none)) (d:Nat) :
    ∀ t:Ty,t.size≤d→t.wd→ACall Tryz.prog 140 [.agg t.cells,.clo (.func f) fs cs] Mc (fun v M'=>v=.agg (t.turn o).cells∧Mc=M'):=by
 induction d with
 | zero=>intro t hd;have:=Ty.size_pos t;omega
 | succ d ih =>
  rintro ⟨k,s,n,ks⟩ hd hmx
  have hl:=Ty.cellss_len ks
  rw [Ty.size] at hd
  rw [Ty.wd] at hmx
  obtain ⟨hls,hkw⟩:=hmx
  refine Zc Tryz.func140 V (by kernel_rfl) V (Xz V) ?_
  refine Q374 ?_;intro b2
  refine Q21 ?_;intro b4
  refine Q301 ?_
  refine Q81 ?_
  refine Zb 13 V V V (op_callvm (xs:=[.tmp 12])  [.loc b4 _,.loc b2 _] V V V V (hf (.mk k s n ks)) (Xu _) (fun v13 M13 h13=>?_))
  obtain ⟨rfl,⟨yk,ys,yn,yks⟩,c15,rfl,hc⟩:=h13
  refine Q478 ?_;intro b5
  refine Q30 ?_
  refine Q271 ?_
  refine Q226 ?_
  rcases c15 with _|_
  ·refine Q289 ?_
   refine Q388 ?_
   refine Q47 ?_;intro n20
   refine Zb 21 V V V (op_makeSlice el_22 V V V (by omega) V ?_);intro b21
   refine Q238 ?_
   refine Q227 ?_
   refine Q11 ?_
   refine Q89 ?_
   refine Q47 ?_;intro n24
   refine Q317 ?_
   rw [hl]
   refine c_loop (σ:=Nat) (fun zz=>match zz with|i=>[(1,.clo (.func f) fs cs),(2,.ptr b2 0),(4,.ptr b4 0),(7,.arr b21 0 ks.length ks.length),(23,.seq 4 (Ty.cellss ks)),(24,.val (.int .i64 ks.length)),(25,.val (.int .i64 i))]) (fun zz=>match zz with|i=>.loc b21 (Ty.cellss (Ty.turns o (ks.take i))++List.replicate (ks.length - i) zTyW).flatten::.loc b5 (Ty.cells (.mk yk ys yn yks))::.loc b4 zTyW::.loc b2 (Ty.cells (.mk k s n ks))::Mc) (fun zz=>match zz with|i=>i≤ks.length) (fun zz=>match zz with|i=>ks.length - i) (0) ?_ ?_ ?_ ?_
   ·simp
   ·exact by4
   ·exact by3
   rintro i hI
   try dsimp only [List.cons_append,List.nil_append] at hI ⊢
   refine Q318 ?_;intro c26 h26
   refine Q241 ?_
   rcases Za h26 with ⟨rfl,g26⟩|⟨rfl,g26⟩
   ·refine Q343 ?_
    have hw:=turn_wideW o ks ks.length zTyW rfl
    obtain rfl:i=ks.length:=by omega
    simp only [List.take_length,Nat.sub_self,List.replicate_zero,List.append_nil] at hw ⊢
    refine c_freeze (i:=0) (al':=[(2,.ptr b2 0),(4,.ptr b4 0),(7,.seq 4 (Ty.cellss (Ty.turns o ks)))]) V V hw (by rw [Ty.cellss_len,Ty.turns_len]) (by omega) (Frz.cons V (Xt _) (Frz.cons V (Xt _) (Frz.arr V Frz.nil))) ?_
    refine Q234 ?_
    refine Q11 ?_
    refine Ya V V (Zu (cs':=[_,_,_,_]) (i:=2) V ts_22 V V V V V (Xz V) V ?_)
    refine Q258 ?_
    refine Q95 ?_
    refine Q479 ?_
    rw [Ty.turn_none (by simpa using hc)]
    exact Zj (i:=1) V V V Yi V by2 (Xq _ (Xq _ (Xq _ (Xn _)))) ⟨V,V⟩
   refine Q265 ?_
   obtain ⟨⟨k',s',n',ks'⟩,hx⟩:=Zr (l:=ks) (i:=i) (by omega)
   have hcx:=Ty.cellss_get hx
   have hsz:=Ty.size_at hx
   have H:=ih (.mk k' s' n' ks') (by omega) (Ty.wds_at hkw hx)
   have he:=turn_esW o ks i _ hx zTyW
   have hw:=turn_wideW o ks i zTyW rfl
   have hln:(Ty.cellss (Ty.turns o (ks.take i))++List.replicate (ks.length - i) zTyW).length=ks.length:=by rw [List.length_append,Ty.cellss_len,Ty.turns_len];simp;omega
   generalize Ty.turn o _=r at H he
   obtain ⟨rk,rs,rn,rks⟩:=r
   refine Q234 ?_
   refine Q407 ?_
   refine Q21 ?_;intro b9
   refine Q6 ?_
   refine Q30 ?_
   refine Q226 ?_
   refine Q314 ?_
   refine Q49 ?_
   refine Q5 ?_
   refine Zb 34 V V V (op_callm (xs:=[.tmp 32,.tmp 33])  [.loc b9 _,.loc b21 _,.loc b5 _,.loc b4 _,.loc b2 _] V V V H (Xu _) (fun v34 M34 h34=>?_))
   obtain ⟨rfl,rfl⟩:=h34
   refine Zb 35 V V V (op_index_arr V te_22 V V V (by omega) ?_)
   refine Ya V V (op_store_row (k:=1) V ts_24 V V V V V (hw) ((by omega)) ?_)
   refine Q3 ?_
   refine Q323 ?_
   refine ⟨i+1,by simp;omega,by simp;omega,by4,?_⟩
   exact Xq _ (Xr _ (les_eqW (congrArg List.flatten he)) (Xn _))
  refine Q240 ?_
  refine Q49 ?_
  refine Q479 ?_
  rw [Ty.turn_some (by simpa using hc)]
  exact Zj (i:=1) V V V Yi V by2 (Xq _ (Xq _ (Xq _ (Xn _)))) ⟨V,V⟩
theorem copyW_c (t:Ty) (hmx:t.wd):PCall Tryz.prog 140 [.agg t.cells,.clo (.func 142) [] []] (.agg t.cells):=by
 have:=turnW_c (fun _=>none) 142 [] [] [] (fun x=>noneW_c x (fun _=>none) rfl) t.size t (Nat.le_refl _) hmx
 rw [Ty.turn_id] at this
 exact this.mono (fun v M' ⟨h1,h2⟩=>⟨h1,h2.symm⟩)
theorem PutFW_c (names:List ByteArray) (ts:List Ty) (b3 b4:Nat) (hts:∀ t∈ts,t.wd) (x:Ty):ACall Tryz.prog 141 [.agg x.cells,.ptr b3 0,.ptr b4 0] [.loc b3 [.seq 1 (strs names)],.loc b4 [.seq 4 (Ty.cellss ts)]] (fun v M'=>[.loc b3 [.seq 1 (strs names)],.loc b4 [.seq 4 (Ty.cellss ts)]]=M'∧∃ (y:Ty) (c:Bool),v=.tup [.agg y.cells,.val (.bool c)]∧putO names ts x=if c then some y else none):=by
 obtain ⟨k,s,n,ks⟩:=x
 have hl:=Ty.cellss_len ts
 have hfl:=firstAt_lt s names 0
 refine Zc Tryz.func141 V (by kernel_rfl) V (Xz V) ?_
 refine Q374 ?_;intro b3
 refine Q21 ?_;intro b4
 refine Q238 ?_
 refine Q355 ?_
 refine Q34 ?_;intro c9 h9
 refine Q226 ?_
 rcases Za h9 with ⟨rfl,g9⟩|⟨rfl,g9⟩
 ·refine Q289 ?_
  refine Q57 ?_
  refine Q272 ?_
  refine Zb 14 V V V (Zd (xs:=[.tmp 11,.tmp 13]) V V (IndexS_c names s) by1 ?_)
  refine Q306 ?_
  refine Zy 22 (firstAt s names 0<0∨(ts.length:Int)≤firstAt s names 0) ?_ _ _ V ?_
  ·skip
   refine Q508 ?_;intro c16 h16
   refine Q5 ?_
   rcases Za h16 with ⟨rfl,g16⟩|⟨rfl,g16⟩
   ·skip
    refine Q16 ?_
    refine Q159 ?_
    refine Q79 ?_;intro n20
    refine Q102 ?_;intro c21 h21
    refine Q236 ?_
    refine Xx V ?_ by5 by3
    simp_all;omega
   skip
   refine Q376 ?_
   refine Xx V ?_ by5 by3
   simp_all;done
  intro c22 h22
  refine Q1 ?_
  rcases Za h22 with ⟨rfl,g22⟩|⟨rfl,g22⟩
  ·refine Q242 ?_
   obtain ⟨j,hj⟩:∃ j:Nat,firstAt s names 0=j:=⟨(firstAt s names 0).toNat,by omega⟩
   obtain ⟨⟨yk,ys,yn,yks⟩,hy⟩:=Zr (l:=ts) (i:=j) (by omega)
   have hcy:=Ty.cellss_get hy
   rw [hj]
   obtain rfl:k=1:=by simpa using g9
   refine Q4 ?_
   refine Q89 ?_
   refine Q491 ?_
   refine Zb 28 V V V (Zd (xs:=[.tmp 27,.func 142]) V V (copyW_c (.mk yk ys yn yks) (hts _ (We hy))) by1 ?_)
   refine Q380 ?_
   exact Yn (i:=0) V V V V Yi V by2 (Xq _ (Xq _ (Xn _))) ⟨V,.mk yk ys yn yks,true,V,by rw [putO_in hj,hy];rfl⟩
  refine Q514 ?_
  refine Q380 ?_
  exact Yn (i:=0) rfl rfl rfl rfl Yi rfl by2 (Xq _ (Xq _ (Xn _))) ⟨rfl,.mk k s n ks,false,rfl,by rcases g22 with q|q;exact putO_out q;exact putO_big q⟩
 refine Q514 ?_
 refine Q380 ?_
 exact Yn (i:=0) V V V V Yi V by2 (Xq _ (Xq _ (Xn _))) ⟨V,.mk k s n ks,false,V,putO_not g9⟩
theorem PutW_c (names:List ByteArray) (ts:List Ty) (t:Ty) (hts:∀ t∈ts,t.wd) (hmx:t.wd):PCall Tryz.prog 82 [.seq 1 (strs names),.seq 4 (Ty.cellss ts),.agg t.cells] (.agg (t.turn (putO names ts)).cells):=by
 have W:=fun (b3 b4:Nat)=>turnW_c (putO names ts) 141 [] [.ptr b3 0,.ptr b4 0] [.loc b3 [.seq 1 (strs names)],.loc b4 [.seq 4 (Ty.cellss ts)]] (fun x=>PutFW_c names ts b3 b4 hts x) t.size t (Nat.le_refl _) hmx
 generalize Ty.turn _ t=r at W ⊢
 obtain ⟨rk,rs,rn,rks⟩:=r
 obtain ⟨k,s,n,ks⟩:=t
 refine Zc Tryz.func82 V (by kernel_rfl) V (Xz V) ?_
 refine Q237 ?_
 refine Zb 3 V V V (op_boxe (cs':=[_]) V V V V ?_);intro b3
 refine Zb 4 V V V (op_boxe (cs':=[_]) V V V V ?_);intro b4
 refine Q64 ?_;intro b5
 refine Q21 ?_;intro b6
 refine Q241 ?_
 refine c_mem (M':=[.loc b6 zTyW,.loc b5 _,.loc b3 [.seq 1 (strs names)],.loc b4 [.seq 4 (Ty.cellss ts)]]) (MImp.cons _ (MImp.cons _ (MImp.swap _ _ _))) ?_
 refine Q4 ?_
 refine Q81 ?_
 refine Q130 ?_
 refine Zb 9 V V V (op_callm (xs:=[.tmp 7,.tmp 8])  [.loc b6 _,.loc b5 _] V V V (W b3 b4) (Xu _) (fun v9 M9 h9=>?_))
 obtain ⟨rfl,rfl⟩:=h9
 refine Q492 ?_
 exact Zj (i:=0) V V V Yi V by2 by3 ⟨V,V⟩
theorem typ1_c (v:En) (pm:List (List AV)) (sc:List Cb) (vs:List ByteArray) (x:Ty):BCall Tryz.prog 80 [.agg x.cells,.cptr (ckC v pm sc vs)] (rightC v vs x=true):=by
 have H:=coRight_c v vs x
 generalize (rightC v vs x=true)=q at *
 unfold ckC
 obtain ⟨k,s,n,ks⟩:=x
 obtain ⟨da,cl,ins⟩:=v
 simp only [En.cells,List.cons_append,List.nil_append] at *
 refine Zc Tryz.func80 V (by kernel_rfl) V (Xz V) ?_
 refine Q458 ?_
 refine Q264 ?_
 refine Q13 ?_
 refine Q59 ?_
 refine Q13 ?_
 refine Q235 ?_
 refine Q42 ?_
 refine Zb 10 V V V (Ze (xs:=[.tmp 5,.tmp 8,.tmp 9]) V V (H) by1 ?_);intro c10 h10
 refine Q232 ?_
 exact Zf V V (Xt _) (Xo _) ⟨⟨_,h10,V⟩,V⟩
abbrev TypC (v:En) (pm:List Pm) (sc:List Cb) (vs:List ByteArray) (e:Co) (r:Ty × Bool):Prop:=PCall Tryz.prog 48 [.agg (ckC v (Pm.cellss pm) sc vs),.agg e.cells] (.tup [.agg r.1.cells,.val (.bool r.2)])
theorem typ_bad (v:En) (pm:List Pm) (sc:List Cb) (vs:List ByteArray) (k m:Int) (s:ByteArray) (t:Ty) (ts:List Ty) (ks:List Co) (al:List Ca) (bs:List Cb) (h:ts.all (rightC v vs)=false):TypC v pm sc vs (.mk k s m t ts ks al bs) (tyZ,false):=by
 have HA:=all_Ty (rightC v vs) 80 [] [.cptr (ckC v (Pm.cellss pm) sc vs)] ts (fun x _=>typ1_c v (Pm.cellss pm) sc vs x)
 rw [h] at HA
 obtain ⟨tk,tn,tm,tl⟩:=t
 obtain ⟨da,cl,ins⟩:=v
 unfold ckC at *
 simp only [En.cells,List.cons_append,List.nil_append] at *
 refine Zc Tryz.func48 V (by kernel_rfl) V (Xz V) ?_
 refine Q315 ?_;intro b4
 refine Q360 ?_;intro b6
 refine Q362 ?_
 refine Zb 21 V V V (Ze (xs:=[.tmp 19,.tmp 20]) V V (HA) by1 ?_);intro c21 h21
 refine Q26 ?_;intro c22 h22
 try replace h22:=Yo h22 h21
 refine Q226 ?_
 rcases Za h22 with ⟨rfl,g22⟩|⟨rfl,g22⟩
 ·refine Q324 ?_
  exact absurd g22 (by simp)
 refine Q240 ?_
 refine Q49 ?_
 refine Q357 ?_
 exact Yn (i:=1) V V V V Yi V by0 (Xo _) ⟨V,V⟩
theorem typ_var (v:En) (pm:List Pm) (sc:List Cb) (vs:List ByteArray) (m:Int) (s:ByteArray) (t:Ty) (ts:List Ty) (ks:List Co) (al:List Ca) (bs:List Cb) (h:ts.all (rightC v vs)=true) (hts:∀ t∈ts,t.wd) (hsc:∀ b,findL s sc=some b→b.t.wd):TypC v pm sc vs (.mk 1 s m t ts ks al bs) (varC sc s ts):=by
 have HA:=all_Ty (rightC v vs) 80 [] [.cptr (ckC v (Pm.cellss pm) sc vs)] ts (fun x _=>typ1_c v (Pm.cellss pm) sc vs x)
 rw [h] at HA
 have HF:=coFind_c sc vs s
 have HP:=fun b (hb:findL s sc=some b)=>PutW_c b.vs ts b.t hts (hsc b hb)
 obtain ⟨r,hr⟩:∃ r,varC sc s ts=r:=⟨_,rfl⟩
 rw [hr]
 unfold varC at hr
 have hlt:=Ty.cellss_len ts
 obtain ⟨tk,tn,tm,tl⟩:=t
 obtain ⟨da,cl,ins⟩:=v
 unfold TypC ckC at *
 simp only [En.cells,List.cons_append,List.nil_append] at *
 cases hf:findL s sc with
 | none =>
  rw [hf] at hr HF
  subst hr
  refine Zc Tryz.func48 V (by kernel_rfl) V (Xz V) ?_
  refine Q315 ?_;intro b4
  refine Q360 ?_;intro b6
  refine Q362 ?_
  refine Zb 21 V V V (Ze (xs:=[.tmp 19,.tmp 20]) V V (HA) by1 ?_);intro c21 h21
  refine Q26 ?_;intro c22 h22
  try replace h22:=Yo h22 h21
  refine Q226 ?_
  rcases Za h22 with ⟨rfl,g22⟩|⟨rfl,g22⟩
  ·refine Q367 ?_;intro c27 h27
   refine Q228 ?_
   rcases Za h27 with ⟨rfl,g27⟩|⟨rfl,g27⟩
   ·exact absurd V g27
   refine Q240 ?_
   refine Q13 ?_
   refine Zb 30 V V V (Yb (cs':=[_,_]) V ta_89 V V V ?_)
   refine Q235 ?_
   refine Zb 33 V V V (Zd (xs:=[.tmp 30,.tmp 32]) V V (HF) by1 ?_)
   refine Q308 ?_
   refine Q98 ?_;intro b7
   refine Q93 ?_
   refine Q306 ?_
   refine Zy 46 (True) ?_ _ _ V ?_
   ·skip
    refine Q419 ?_;intro c37 h37
    try replace h37:=Yo h37 h35
    refine Q5 ?_
    rcases Za h37 with ⟨rfl,g37⟩|⟨rfl,g37⟩
    ·skip
     refine Q336 ?_
     refine Q111 ?_;intro n41
     refine Q291 ?_
     refine Q79 ?_;intro n44
     refine Q66 ?_;intro c45 h45
     refine Q236 ?_
     refine Xx V ?_ by5 by3
     simp_all
    skip
    refine Q251 ?_
    refine Q422 ?_
    refine Xx V ?_ by5 by3
    simp_all
   intro c46 h46
   refine Q1 ?_
   rcases Za h46 with ⟨rfl,g46⟩|⟨rfl,g46⟩
   ·exact absurd trivial g46
   refine Q514 ?_
   refine Q446 ?_
   exact Yn (i:=2) V V V V Yi V by0 (Xo _) ⟨V,V⟩
  refine Q302 ?_
  exact absurd trivial g22
 | some b =>
  have HP:=HP b hf
  rw [hf] at hr HF
  simp only [] at hr
  obtain ⟨qb,qvs,⟨qwk,qws,qwn,qwl⟩,⟨qk,qs,qn,⟨qtk,qts,qtn,qtl⟩,qus,qks,qal,qbs⟩⟩:=b
  have hr:(if qvs.length=ts.length then ((Ty.mk qwk qws qwn qwl).turn (putO qvs ts),true) else (tyZ,false))=r:=hr
  have HP:PCall Tryz.prog 82 [.seq 1 (strs qvs),.seq 4 (Ty.cellss ts),.agg (Ty.mk qwk qws qwn qwl).cells] (.agg ((Ty.mk qwk qws qwn qwl).turn (putO qvs ts)).cells):=HP
  generalize (Ty.mk qwk qws qwn qwl).turn (putO qvs ts)=y at *
  obtain ⟨yk,ys,yn,yl⟩:=y
  have hlv:=Ye qvs
  refine Zc Tryz.func48 V (by kernel_rfl) V (Xz V) ?_
  refine Q315 ?_;intro b4
  refine Q360 ?_;intro b6
  refine Q362 ?_
  refine Zb 21 V V V (Ze (xs:=[.tmp 19,.tmp 20]) V V (HA) by1 ?_);intro c21 h21
  refine Q26 ?_;intro c22 h22
  try replace h22:=Yo h22 h21
  refine Q226 ?_
  rcases Za h22 with ⟨rfl,g22⟩|⟨rfl,g22⟩
  ·refine Q367 ?_;intro c27 h27
   refine Q228 ?_
   rcases Za h27 with ⟨rfl,g27⟩|⟨rfl,g27⟩
   ·exact absurd V g27
   refine Q240 ?_
   refine Q13 ?_
   refine Zb 30 V V V (Yb (cs':=[_,_]) V ta_89 V V V ?_)
   refine Q235 ?_
   refine Zb 33 V V V (Zd (xs:=[.tmp 30,.tmp 32]) V V (HF) by1 ?_)
   refine Q308 ?_
   refine Q98 ?_;intro b7
   refine Q93 ?_
   refine Q306 ?_
   refine Zy 46 (¬ qvs.length=ts.length) ?_ _ _ V ?_
   ·skip
    refine Q419 ?_;intro c37 h37
    try replace h37:=Yo h37 h35
    refine Q5 ?_
    rcases Za h37 with ⟨rfl,g37⟩|⟨rfl,g37⟩
    ·skip
     refine Q336 ?_
     refine Q111 ?_;intro n41
     refine Q291 ?_
     refine Q79 ?_;intro n44
     refine Q66 ?_;intro c45 h45
     refine Q236 ?_
     refine Xx V ?_ by5 by3
     first|(simp_all;done)|(simp_all;omega)|grind
    skip
    refine Q251 ?_
    refine Q422 ?_
    refine Xx V ?_ by5 by3
    first|(simp_all;done)|(simp_all;omega)|grind
   intro c46 h46
   refine Q1 ?_
   rcases Za h46 with ⟨rfl,g46⟩|⟨rfl,g46⟩
   ·refine Q259 ?_
    refine Q280 ?_
    refine Q235 ?_
    refine Q506 ?_
    refine Zb 54 V V V (Zd (xs:=[.tmp 49,.tmp 51,.tmp 53]) V V (HP) by1 ?_)
    refine Q446 ?_
    rw [if_pos (Classical.not_not.1 g46)] at hr
    subst hr
    exact Yn (i:=2) V V V V Yi V by0 (Xo _) ⟨V,V⟩
   refine Q514 ?_
   refine Q446 ?_
   rw [if_neg g46] at hr
   subst hr
   exact Yn (i:=2) V V V V Yi V by0 (Xo _) ⟨V,V⟩
  refine Q302 ?_
  exact absurd trivial g22
theorem typ_lam_bad (v:En) (pm:List Pm) (sc:List Cb) (vs:List ByteArray) (m:Int) (s:ByteArray) (t:Ty) (ts:List Ty) (ks:List Co) (al:List Ca) (bs:List Cb) (h:ts.all (rightC v vs)=true) (hb:¬ (ks.length=1∧rightC v vs t=true)):TypC v pm sc vs (.mk 6 s m t ts ks al bs) (tyZ,false):=by
 have HA:=all_Ty (rightC v vs) 80 [] [.cptr (ckC v (Pm.cellss pm) sc vs)] ts (fun x _=>typ1_c v (Pm.cellss pm) sc vs x)
 rw [h] at HA
 have HR:=coRight_c v vs t
 generalize (rightC v vs t=true)=R at *
 have hlk:=Co.cellss_len ks
 obtain ⟨tk,tn,tm,tl⟩:=t
 obtain ⟨da,cl,ins⟩:=v
 unfold TypC ckC at *
 simp only [En.cells,List.cons_append,List.nil_append] at *
 refine Zc Tryz.func48 V (by kernel_rfl) V (Xz V) ?_
 refine Q315 ?_;intro b4
 refine Q360 ?_;intro b6
 refine Q362 ?_
 refine Zb 21 V V V (Ze (xs:=[.tmp 19,.tmp 20]) V V (HA) by1 ?_);intro c21 h21
 refine Q26 ?_;intro c22 h22
 try replace h22:=Yo h22 h21
 refine Q226 ?_
 rcases Za h22 with ⟨rfl,g22⟩|⟨rfl,g22⟩
 ·refine Q367 ?_;intro c27 h27
  refine Q228 ?_
  rcases Za h27 with ⟨rfl,g27⟩|⟨rfl,g27⟩
  ·refine Q254 ?_;intro c56 h56
   refine Q228 ?_
   rcases Za h56 with ⟨rfl,g56⟩|⟨rfl,g56⟩
   ·refine Q254 ?_;intro c59 h59
    refine Q228 ?_
    rcases Za h59 with ⟨rfl,g59⟩|⟨rfl,g59⟩
    ·refine Q254 ?_;intro c62 h62
     refine Q228 ?_
     rcases Za h62 with ⟨rfl,g62⟩|⟨rfl,g62⟩
     ·refine Q254 ?_;intro c69 h69
      refine Q228 ?_
      rcases Za h69 with ⟨rfl,g69⟩|⟨rfl,g69⟩
      ·refine Q254 ?_;intro c114 h114
       refine Q228 ?_
       rcases Za h114 with ⟨rfl,g114⟩|⟨rfl,g114⟩
       ·exact absurd V g114
       refine Q9 ?_
       refine Q292 ?_
       refine Zy 129 (True) ?_ _ _ V ?_
       ·skip
        refine Q480 ?_;intro n117
        refine Q34 ?_;intro c118 h118
        refine Q5 ?_
        rcases Za h118 with ⟨rfl,g118⟩|⟨rfl,g118⟩
        ·skip
         refine Q516 ?_
         refine Zq 127 V V V V V (Ze (xs:=[.tmp 121,.tmp 124,.tmp 126]) V V (HR) by1 ?_);intro c127 h127
         refine Q67 ?_;intro c128 h128
         try replace h128:=Yo h128 h127
         refine Q236 ?_
         refine Xx V ?_ by5 by3
         first|(simp_all;done)|(simp_all;omega)|grind
        skip
        refine Q501 ?_
        refine Xx V ?_ by5 by3
        first|(simp_all;done)|(simp_all;omega)|grind
       intro c129 h129
       refine Q1 ?_
       rcases Za h129 with ⟨rfl,g129⟩|⟨rfl,g129⟩
       ·exact absurd trivial g129
       refine Q240 ?_
       refine Q49 ?_
       refine Q357 ?_
       exact Yn (i:=1) V V V V Yi V by0 (Xo _) ⟨V,V⟩
      omega
     omega
    omega
   omega
  omega
 refine Q302 ?_
 exact absurd trivial g22
theorem typ_lam (v:En) (pm:List Pm) (sc:List Cb) (vs:List ByteArray) (m:Int) (s:ByteArray) (t:Ty) (ts:List Ty) (x:Co) (al:List Ca) (bs:List Cb) (r:Ty × Bool) (h:ts.all (rightC v vs)=true) (hb:rightC v vs t=true) (hs:sc.length≤1000000000) (IH:TypC v pm (sc++[.mk s [] t co0]) vs x r):TypC v pm sc vs (.mk 6 s m t ts [x] al bs) (.mk 3 arrow 0 [t,r.1],r.2):=by
 have HA:=all_Ty (rightC v vs) 80 [] [.cptr (ckC v (Pm.cellss pm) sc vs)] ts (fun x _=>typ1_c v (Pm.cellss pm) sc vs x)
 rw [h] at HA
 have HR:=coRight_c v vs t
 rw [hb] at HR
 have HM:=coMono_c s t
 have HW:=coWith_c v (Pm.cellss pm) sc [.mk s [] t co0] vs hs (by simp)
 have HU:=Fun_c t r.1
 obtain ⟨tk,tn,tm,tl⟩:=t
 obtain ⟨⟨rk,rn,rm,rl⟩,c146⟩:=r
 have hcx:=Co.cellss_get (ts:=[x]) (i:=0) (t:=x) rfl
 obtain ⟨xk,xs,xn,⟨xtk,xts,xtn,xtl⟩,xus,xks,xal,xbs⟩:=x
 obtain ⟨da,cl,ins⟩:=v
 unfold TypC ckC at *
 simp only [En.cells,List.cons_append,List.nil_append] at *
 refine Zc Tryz.func48 V (by kernel_rfl) V (Xz V) ?_
 refine Q315 ?_;intro b4
 refine Q360 ?_;intro b6
 refine Q362 ?_
 refine Zb 21 V V V (Ze (xs:=[.tmp 19,.tmp 20]) V V (HA) by1 ?_);intro c21 h21
 refine Q26 ?_;intro c22 h22
 try replace h22:=Yo h22 h21
 refine Q226 ?_
 rcases Za h22 with ⟨rfl,g22⟩|⟨rfl,g22⟩
 ·refine Q367 ?_;intro c27 h27
  refine Q228 ?_
  rcases Za h27 with ⟨rfl,g27⟩|⟨rfl,g27⟩
  ·refine Q254 ?_;intro c56 h56
   refine Q228 ?_
   rcases Za h56 with ⟨rfl,g56⟩|⟨rfl,g56⟩
   ·refine Q254 ?_;intro c59 h59
    refine Q228 ?_
    rcases Za h59 with ⟨rfl,g59⟩|⟨rfl,g59⟩
    ·refine Q254 ?_;intro c62 h62
     refine Q228 ?_
     rcases Za h62 with ⟨rfl,g62⟩|⟨rfl,g62⟩
     ·refine Q254 ?_;intro c69 h69
      refine Q228 ?_
      rcases Za h69 with ⟨rfl,g69⟩|⟨rfl,g69⟩
      ·refine Q254 ?_;intro c114 h114
       refine Q228 ?_
       rcases Za h114 with ⟨rfl,g114⟩|⟨rfl,g114⟩
       ·exact absurd V g114
       refine Q9 ?_
       refine Q292 ?_
       refine Zy 129 (False) ?_ _ _ V ?_
       ·skip
        refine Q480 ?_;intro n117
        refine Q34 ?_;intro c118 h118
        refine Q5 ?_
        rcases Za h118 with ⟨rfl,g118⟩|⟨rfl,g118⟩
        ·skip
         refine Q516 ?_
         refine Zq 127 V V V V V (Ze (xs:=[.tmp 121,.tmp 124,.tmp 126]) V V (HR) by1 ?_);intro c127 h127
         refine Q67 ?_;intro c128 h128
         try replace h128:=Yo h128 h127
         refine Q236 ?_
         refine Xx V ?_ by5 by3
         first|(simp_all [Co.cellss];done)|grind
        skip
        refine Q501 ?_
        refine Xx V ?_ by5 by3
        first|(simp_all [Co.cellss];done)|grind
       intro c129 h129
       refine Q1 ?_
       rcases Za h129 with ⟨rfl,g129⟩|⟨rfl,g129⟩
       ·refine Q242 ?_
        refine Yp [0,1,2,3,4,5,6,7,8,9,10,11,12,13,14,15,16,17,18] [16,17] [[],[],[1],[],[3],[1,2,3,4],[1,2,3,4,5],[0,1,2,3,4,5,6],[],[8],[8,9],[8,9,10],[0,1,2,3,4,5,6,7,8,9,10,11],[0,1,2,3,4,5,6,7,8,9,10,11,12],[0,1,2,3,4,5,6,7,8,9,10,11,12,13],[0,1,2,3,4,5,6,7,8,9,10,11,12,13],[],[0,1,2,3,4,5,6,7,8,9,10,11,12,13,14,16],[0,1,2,3,4,5,6,7,8,9,10,11,12,13,14,15,16,17]] Xl V ?_
        refine Q447 ?_
        refine Q56 ?_
        refine Q103 ?_
        refine Zm 137 (none) (i:=5) V V V V V (Zd (xs:=[.tmp 134,.tmp 136]) V V (HM) by1 ⟨V,V⟩) ?_
        refine Zm 138 (none) (i:=6) V V V V V (Zh (xs:=[.tmp 137]) el_27 V V V V V V (Xz V) ⟨V,V⟩) ?_
        refine Zm 139 (none) (i:=7) V V V V V (Zd (xs:=[.tmp 132,.tmp 138]) V V (HW) by1 ⟨V,V⟩) ?_
        refine Q354 ?_
        refine Zm 142 (none) (i:=10) V V V V V (Zg V te_25 V (.seq _ _) V V (hcx) ⟨V,V⟩) ?_
        refine Q84 ?_
        refine Zm 144 (none) (i:=12) V V V V V (Zd (xs:=[.tmp 139,.tmp 143]) V V (IH) by1 ⟨V,V⟩) ?_
        refine Q430 ?_
        refine EOps.nw (i:=16) V V V (Yk (cs':=[_,_,_,_]) V tz_24 V V (fun b13=>⟨_,V,?_⟩))
        refine Q160 ?_
        refine Q58 ?_
        show AGo _ _ _ _ _ _ _
        refine Q448 ?_
        refine Q431 ?_
        refine Q95 ?_
        refine Zb 150 V V V (Zd (xs:=[.tmp 148,.tmp 149]) V V (HU) by1 ?_)
        refine Q5 ?_
        refine Q357 ?_
        exact Yn (i:=1) V V V V Yi V by0 (Xo _) ⟨V,V⟩
       exact g129.elim
      omega
     omega
    omega
   omega
  omega
 refine Q302 ?_
 exact absurd trivial g22
theorem C_fold {A:Type} {C:Nat→A→Prop} {step:A→Ty→A} (hC:∀ k acc x,C (k+1) acc→C k (step acc x)):∀ (l:List Ty) (k:Nat) (acc:A),C (l.length+k) acc→C k (l.foldl step acc)
 | [],k,acc,h=>by simpa using h
 | x::l,k,acc,h=>by
  rw [List.foldl_cons]
  exact C_fold hC l k _ (hC _ _ _ (by rw [List.length_cons] at h;rwa [show l.length+k+1=l.length+1+k from by omega]))
theorem walk_c {A:Type} (G:A→Mem→Prop) (C:Nat→A→Prop) (step:A→Ty→A) (f:FuncId) (fs cs:List AV)
    (hf:∀ k acc x M,C (k+1) acc→G acc M→ACall Tryz.prog f (fs++[.agg (Ty.cells x)]++cs) M (fun v M'=>v=.tup []∧G (step acc x) M'))
    (hC:∀ k acc x,C (k+1) acc→C k (step acc x)) (d:Nat):∀ (t:Ty) (acc:A) (k:Nat) (M:Mem),t.size≤d→C (t.size+k) acc→G acc M →
     ACall Tryz.prog 168 [.agg t.cells,.clo (.func f) fs cs] M (fun v M'=>v=.tup []∧G (t.all.foldl step acc) M'):=by
 induction d with
 | zero=>intro t acc k M hd;have:=Ty.size_pos t;omega
 | succ d ih =>
  rintro ⟨tk,ts,tn,ks⟩ acc k M hd hc hG
  have hl:=Ty.cellss_len ks
  rw [Ty.size] at hd hc
  have hc1:C (Ty.sizes ks+k) (step acc (.mk tk ts tn ks)):=hC _ _ _ (by rwa [show Ty.sizes ks+k+1=1+Ty.sizes ks+k from by omega])
  refine Zc Tryz.func168 V (by kernel_rfl) V (Xz V) ?_
  refine Q15 ?_
  refine c_lena (t:=0) (j:=3) V V (.seq _ _) (fun hmax=>?_)
  refine Q227 ?_
  refine Q64 ?_;intro b2
  refine Q287 ?_
  refine Q49 ?_
  refine Zb 8 V V V (op_callvm (xs:=[.tmp 7])  [.loc b2 _] V V V V (hf (Ty.sizes ks+k) acc (.mk tk ts tn ks) M (by rwa [show Ty.sizes ks+k+1=1+Ty.sizes ks+k from by omega]) hG) (Xu _) (fun v8 M8 h8=>?_))
  refine Q3 ?_
  obtain ⟨rfl,hG8⟩:=h8
  refine Q1 ?_
  refine Q280 ?_
  refine Q47 ?_;intro n11
  refine Q317 ?_
  refine c_loop (σ:=Nat × Mem) (fun zz=>match zz with|(i,Ms)=>[(1,.clo (.func f) fs cs),(10,.seq 4 (Ty.cellss ks)),(11,.val (.int .i64 (Ty.cellss ks).length)),(12,.val (.int .i64 i))]) (fun zz=>match zz with|(i,Ms)=>.loc b2 (Ty.cells (.mk tk ts tn ks))::Ms) (fun zz=>match zz with|(i,Ms)=>i≤ks.length∧G ((Ty.alls (ks.take i)).foldl step (step acc (.mk tk ts tn ks))) Ms) (fun zz=>match zz with|(i,Ms)=>ks.length - i) ((0,M8)) ?_ ?_ ?_ ?_
  ·exact ⟨by omega,by simpa [Ty.alls] using hG8⟩
  ·exact by4
  ·exact by3
  rintro ⟨i,Ms⟩ hI
  try dsimp only [List.cons_append,List.nil_append] at hI ⊢
  obtain ⟨hi,hGi⟩:=hI
  refine Q318 ?_;intro c13 h13
  refine Q241 ?_
  rcases Za h13 with ⟨rfl,g13⟩|⟨rfl,g13⟩
  ·refine Q248 ?_
   refine go_end (out_none V (Xq _ (Xn _)) ⟨V,?_⟩)
   rw [Ty.all,List.foldl_cons]
   rwa [List.take_of_length_le (by omega)] at hGi
  refine Q265 ?_
  obtain ⟨⟨k',s',n',ks'⟩,hx⟩:=Zr (l:=ks) (i:=i) (by omega)
  have hcx:=Ty.cellss_get hx
  have hsz:=Ty.size_at hx
  have hsp:Ty.sizes (ks.take i)+Ty.size (.mk k' s' n' ks')≤Ty.sizes ks:=by
   have h1:=Ty.sizes_take ks (i+1)
   rw [Yl hx,Ty.sizes_app] at h1
   simpa [Ty.sizes] using h1
  have hCi:C (Ty.size (.mk k' s' n' ks')+(Ty.sizes ks - Ty.sizes (ks.take i) - Ty.size (.mk k' s' n' ks')+k)) ((Ty.alls (ks.take i)).foldl step (step acc (.mk tk ts tn ks))):=by
   refine C_fold hC _ _ _ ?_
   rw [Ty.alls_len]
   rwa [show Ty.sizes (ks.take i)+(Ty.size (.mk k' s' n' ks')+(Ty.sizes ks - Ty.sizes (ks.take i) - Ty.size (.mk k' s' n' ks')+k))=Ty.sizes ks+k from by omega]
  refine Q4 ?_
  refine Q407 ?_
  refine Q21 ?_;intro b5
  refine Q30 ?_
  refine Q432 ?_
  refine Q49 ?_
  refine Q5 ?_
  refine Zb 18 V V V (op_callm (xs:=[.tmp 16,.tmp 17])  [.loc b5 _,.loc b2 _] V V V (ih (.mk k' s' n' ks') _ _ Ms (by omega) hCi hGi) (Xu _) (fun v18 M18 h18=>?_))
  refine Q3 ?_
  obtain ⟨rfl,hG18⟩:=h18
  refine Q323 ?_
  refine ⟨(i+1,M18),⟨by omega,?_⟩,by simp;omega,by4,?_⟩
  ·rw [Ty.alls_take ks hx,List.foldl_append];exact hG18
  exact Xq _ (Xp _ (Xn _))
def GV (b:Nat) (acc:List ByteArray) (M:Mem):Prop:=∃ u,M=[.loc b [.own u 1 (strs acc)],.own 9 1 u]
theorem VarsF_c (b k:Nat) (acc:List ByteArray) (x:Ty) (M:Mem) (hk:acc.length+(k+1)≤2000000) (hG:GV b acc M):ACall Tryz.prog 169 [.agg x.cells,.ptr b 0] M (fun v M'=>v=.tup []∧GV b (addVar acc x) M'):=by
 obtain ⟨xk,xs,xn,xks⟩:=x
 obtain ⟨u,rfl⟩:=hG
 have hl:=Ye acc
 refine Zc Tryz.func169 V (by kernel_rfl) V (Xz V) ?_
 refine Q374 ?_;intro b2
 refine Q241 ?_
 refine Zy 12 (xk=1∧xs∉acc) ?_ _ _ V ?_
 ·skip
  refine Q525 ?_;intro c5 h5
  refine Q5 ?_
  rcases Za h5 with ⟨rfl,g5⟩|⟨rfl,g5⟩
  ·skip
   refine Q331 ?_
   refine Xx V ?_ by5 by3
   simp_all
  skip
  refine Zq 7 V V V V V (op_load_m1 (i:=1) V ta_44 V V V ?_)
  refine Q336 ?_
  refine Zq 10 V V V V V (Ze (xs:=[.tmp 7,.tmp 9]) V V (ContainsS_c acc xs) by1 ?_);intro c10 h10
  refine Q67 ?_;intro c11 h11
  try replace h11:=Yo h11 h10
  refine Q236 ?_
  refine Xx V ?_ by5 by3
  simp_all
 intro c12 h12
 refine Q1 ?_
 rcases Za h12 with ⟨rfl,g12⟩|⟨rfl,g12⟩
 ·refine Q267 ?_
  refine go_end ?_
  rw [addVar_no g12];exact out_none rfl (Xq _ (Xn _)) ⟨rfl,u,rfl⟩
 refine Q278 ?_
 refine Q29 ?_
 refine Q243 ?_
 refine Zb 16 V V V (Zh (xs:=[.tmp 15]) Xd V V V V V V (Xz V) ?_)
 refine Zb 17 V V V (Zw (i:=2) Xd V V V V (.seq _ _) (by simp;omega) ?_)
 intro u17
 refine Ya V V (Zu (i:=1) V ts_44 V V V V V (Xz V) V ?_)
 refine Q3 ?_
 refine go_end ?_
 rw [addVar_yes g12];exact out_none rfl (M':=[.loc b [.own u17 1 (strs (acc++[xs]))],.own 9 1 u17]) (Xq _ (Xr _ (Xv (Xy (strs_snoc _ _)) (Xu _)) (Xn _))) ⟨rfl,u17,rfl⟩
theorem Vars_c (t:Ty) (hmx:t.size≤1000000):OCall Tryz.prog 116 [.agg t.cells] 9 1 (strs t.vars):=by
 have W:=fun (b:Nat) (M:Mem) (hG:GV b [] M)=>walk_c (GV b) (fun k acc=>acc.length+k≤2000000) addVar 169 [] [.ptr b 0] (fun k acc x M h1 h2=>VarsF_c b k acc x M h1 h2) (fun k acc x h=>by have:=addVar_len acc x;omega) t.size t [] 0 M (Nat.le_refl _) (by simp;omega) hG
 obtain ⟨k,s,n,ks⟩:=t
 refine Zc Tryz.func116 V (by kernel_rfl) V (Xz V) ?_
 refine Q374 ?_;intro b1
 refine Q264 ?_
 refine Zb 3 V V V (Yk (cs':=[_]) V tz_44 V V ?_);intro b3
 refine Q241 ?_
 refine c_mem ((MImp.ownNil b3 9 1 _).trans (MImp.perm (by simpa using List.perm_append_comm (l₁:=[_,_]) (l₂:=[_])))) ?_
 refine Q4 ?_
 refine Q49 ?_
 refine Q96 ?_
 refine Zb 6 V V V (op_callm (xs:=[.tmp 4,.tmp 5])  [.loc b1 _] V V V (W b3 _ ⟨.slice none 0 0,V⟩) by1 (fun v6 M6 h6=>?_))
 refine Q3 ?_
 obtain ⟨rfl,u,rfl⟩:=h6
 refine Q448 ?_
 refine Q29 ?_
 refine Q232 ?_
 exact Zf V V (Xt _) by3 ⟨_,V,V⟩
abbrev tyN:Ty:=.mk 3 ⟨#[73,110,116]⟩ 0 []
abbrev tyS:Ty:=.mk 3 ⟨#[83,116,114,105,110,103]⟩ 0 []
abbrev tyB:Ty:=.mk 3 ⟨#[66,111,111,108]⟩ 0 []
abbrev tyU:Ty:=.mk 3 ⟨#[85,110,105,116]⟩ 0 []
abbrev tyA:Ty:=.mk 1 ⟨#[97]⟩ 0 []
abbrev tyR:Ty:=.mk 3 ⟨#[82,101,102]⟩ 0 [tyA]
abbrev tfn (a b:Ty):Ty:=.mk 3 arrow 0 [a,b]
abbrev primRows:List (ByteArray × Ty):=[(⟨#[112,114,105,109,65,100,100]⟩,(tfn tyN (tfn tyN tyN))),(⟨#[112,114,105,109,83,117,98]⟩,(tfn tyN (tfn tyN tyN))),(⟨#[112,114,105,109,77,117,108]⟩,(tfn tyN (tfn tyN tyN))),(⟨#[112,114,105,109,68,105,118]⟩,(tfn tyN (tfn tyN tyN))),(⟨#[112,114,105,109,77,111,100]⟩,(tfn tyN (tfn tyN tyN))),(⟨#[112,114,105,109,69,113]⟩,(tfn tyN (tfn tyN tyB))),(⟨#[112,114,105,109,76,101,115,115]⟩,(tfn tyN (tfn tyN tyB))),(⟨#[112,114,105,109,67,97,116]⟩,(tfn tyS (tfn tyS tyS))),(⟨#[112,114,105,109,83,97,109,101]⟩,(tfn tyS (tfn tyS tyB))),(⟨#[112,114,105,109,66,101,102,111,114,101]⟩,(tfn tyS (tfn tyS tyB))),(⟨#[112,114,105,109,76,101,110]⟩,(tfn tyS tyN)),(⟨#[112,114,105,109,83,104,111,119]⟩,(tfn tyN tyS)),(⟨#[112,114,105,109,80,117,116]⟩,(tfn tyS tyU)),(⟨#[112,114,105,109,71,101,116]⟩,(tfn tyU tyS)),(⟨#[112,114,105,109,78,101,119]⟩,(tfn tyA tyR)),(⟨#[112,114,105,109,82,101,97,100]⟩,(tfn tyR tyA)),(⟨#[112,114,105,109,87,114,105,116,101]⟩,(tfn tyR (tfn tyA tyU)))]
abbrev rowCells (l:List (ByteArray × Ty)):List AV:=(l.map fun r=>.val (.string r.1)::r.2.cells).flatten
theorem two_c (x y:Ty):PCall Tryz.prog 167 [.agg x.cells,.agg y.cells] (.agg (tfn x (tfn x y)).cells):=by
 have H1:=Fun_c x y
 have H2:=Fun_c x (tfn x y)
 obtain ⟨k1,s1,n1,l1⟩:=x
 obtain ⟨k2,s2,n2,l2⟩:=y
 refine Zc Tryz.func167 V (by kernel_rfl) V (Xz V) ?_
 refine Q458 ?_
 refine Q69 ?_
 refine Q21 ?_;intro b4
 refine Q241 ?_
 refine Yp [0,1,2,3,4,5] [5] [[],[],[],[1,2],[0,1,2,3],[0,1,2,3,4]] Xl V ?_
 refine Q103 ?_
 refine Q103 ?_
 refine Q103 ?_
 refine Zm 8 (none) (i:=3) V V V V V (Zd (xs:=[.tmp 6,.tmp 7]) V V (H1) by1 ⟨V,V⟩) ?_
 refine Zm 9 (none) (i:=4) V V V V V (Zd (xs:=[.tmp 5,.tmp 8]) V V (H2) by1 ⟨V,V⟩) ?_
 refine Q131 ?_
 show AGo _ _ _ _ _ _ _
 refine Q303 ?_
 exact Zj (i:=0) V V V Yi V by2 by3 ⟨V,V⟩
theorem rows_c:PCall Tryz.prog 115 [] (.agg (rowCells primRows)):=by
 refine Zc Tryz.func115 V (by kernel_rfl) V (Xz V) ?_
 refine Q237 ?_
 refine Zb 0 V V V (Yk (cs':=[_,_,_,_,_,_,_,_,_,_,_,_,_,_,_,_,_,_,_,_,_,_,_,_,_,_,_,_,_,_,_,_,_,_,_,_,_,_,_,_,_,_,_,_,_,_,_,_,_,_,_,_,_,_,_,_,_,_,_,_,_,_,_,_,_,_,_,_,_,_,_,_,_,_,_,_,_,_,_,_,_,_,_,_,_]) V tz_182 V V ?_);intro b0
 refine Q258 ?_
 refine Zb 8 V V V (Zd (xs:=[.const (.string ⟨#[73,110,116]⟩),.const (.slice none 0 0)]) V V (Con_c ⟨#[73,110,116]⟩ [] (by simp)) by1 ?_)
 refine Zb 9 V V V (Zd (xs:=[.const (.string ⟨#[83,116,114,105,110,103]⟩),.const (.slice none 0 0)]) V V (Con_c ⟨#[83,116,114,105,110,103]⟩ [] (by simp)) by1 ?_)
 refine Zb 10 V V V (Zd (xs:=[.const (.string ⟨#[66,111,111,108]⟩),.const (.slice none 0 0)]) V V (Con_c ⟨#[66,111,111,108]⟩ [] (by simp)) by1 ?_)
 refine Zb 11 V V V (Zd (xs:=[.const (.string ⟨#[85,110,105,116]⟩),.const (.slice none 0 0)]) V V (Con_c ⟨#[85,110,105,116]⟩ [] (by simp)) by1 ?_)
 refine Q21 ?_;intro b1
 refine Q21 ?_;intro b2
 refine Q21 ?_;intro b3
 refine Q21 ?_;intro b4
 refine Ya V V (Zu (cs':=[_,_,_,_]) (i:=3) V ts_24 V V V V V (Xz V) V ?_)
 refine Q75 ?_
 refine Q53 ?_
 refine Q30 ?_
 refine Q258 ?_
 refine Zb 12 V V V (Zp (ns:=[0,1]) (xs:=[.const (.int .i64 1),.const (.string ⟨#[97]⟩)]) V tz_24 V tfl_24 V V V V ?_)
 refine Q21 ?_;intro b5
 refine Q340 ?_
 refine c_le (SLe.refl _) (Xr _ (cs':=tyA.cells) (by repeat' (first|exact Xt _|exact Le.nil _|exact Xu _|refine Xv ?_ ?_)) (Xn _)) ?_
 refine Q4 ?_
 refine Q49 ?_
 refine Zb 14 V V V (Zh (xs:=[.tmp 13]) el_22 V V V V V V (Xz V) (Zb 15 V V V (Zd (xs:=[.const (.string ⟨#[82,101,102]⟩),.tmp 14]) V V (Con_c ⟨#[82,101,102]⟩ [tyA] (by simp)) by1 ?_)))
 refine Q21 ?_;intro b6
 refine Q30 ?_
 refine Q258 ?_
 refine Q238 ?_
 refine Yp [0,1,2,3,4,5,6,7,8,9,10,11,12,13,14,15,16,17,18,19,20,21,22,23,24,25,26,27,28,29,30,31,32,33,34,35,36,37,38,39,40,41,42,43,44,45,46,47,48,49,50,51,52,53,54,55,56,57,58,59,60,61,62,63,64,65,66,67,68,69,70,71,72,73,74,75,76,77,78,79,80,81] [81] [[],[],[],[0,1,2],[0,1,2,3],[],[],[],[0,1,2,3,5,6,7],[0,1,2,3,5,6,7,8],[],[],[],[0,1,2,3,5,6,7,8,10,11,12],[0,1,2,3,5,6,7,8,10,11,12,13],[],[],[],[0,1,2,3,5,6,7,8,10,11,12,13,15,16,17],[0,1,2,3,5,6,7,8,10,11,12,13,15,16,17,18],[],[],[],[0,1,2,3,5,6,7,8,10,11,12,13,15,16,17,18,20,21,22],[0,1,2,3,5,6,7,8,10,11,12,13,15,16,17,18,20,21,22,23],[],[],[],[0,1,2,3,5,6,7,8,10,11,12,13,15,16,17,18,20,21,22,23,25,26,27],[0,1,2,3,5,6,7,8,10,11,12,13,15,16,17,18,20,21,22,23,25,26,27,28],[],[],[],[0,1,2,3,5,6,7,8,10,11,12,13,15,16,17,18,20,21,22,23,25,26,27,28,30,31,32],[0,1,2,3,5,6,7,8,10,11,12,13,15,16,17,18,20,21,22,23,25,26,27,28,30,31,32,33],[],[],[],[0,1,2,3,5,6,7,8,10,11,12,13,15,16,17,18,20,21,22,23,25,26,27,28,30,31,32,33,35,36,37],[0,1,2,3,5,6,7,8,10,11,12,13,15,16,17,18,20,21,22,23,25,26,27,28,30,31,32,33,35,36,37,38],[],[],[],[0,1,2,3,5,6,7,8,10,11,12,13,15,16,17,18,20,21,22,23,25,26,27,28,30,31,32,33,35,36,37,38,40,41,42],[0,1,2,3,5,6,7,8,10,11,12,13,15,16,17,18,20,21,22,23,25,26,27,28,30,31,32,33,35,36,37,38,40,41,42,43],[],[],[],[0,1,2,3,5,6,7,8,10,11,12,13,15,16,17,18,20,21,22,23,25,26,27,28,30,31,32,33,35,36,37,38,40,41,42,43,45,46,47],[0,1,2,3,5,6,7,8,10,11,12,13,15,16,17,18,20,21,22,23,25,26,27,28,30,31,32,33,35,36,37,38,40,41,42,43,45,46,47,48],[],[],[0,1,2,3,5,6,7,8,10,11,12,13,15,16,17,18,20,21,22,23,25,26,27,28,30,31,32,33,35,36,37,38,40,41,42,43,45,46,47,48,50,51],[0,1,2,3,5,6,7,8,10,11,12,13,15,16,17,18,20,21,22,23,25,26,27,28,30,31,32,33,35,36,37,38,40,41,42,43,45,46,47,48,50,51,52],[],[],[0,1,2,3,5,6,7,8,10,11,12,13,15,16,17,18,20,21,22,23,25,26,27,28,30,31,32,33,35,36,37,38,40,41,42,43,45,46,47,48,50,51,52,54,55],[0,1,2,3,5,6,7,8,10,11,12,13,15,16,17,18,20,21,22,23,25,26,27,28,30,31,32,33,35,36,37,38,40,41,42,43,45,46,47,48,50,51,52,54,55,56],[],[],[0,1,2,3,5,6,7,8,10,11,12,13,15,16,17,18,20,21,22,23,25,26,27,28,30,31,32,33,35,36,37,38,40,41,42,43,45,46,47,48,50,51,52,54,55,56,58,59],[0,1,2,3,5,6,7,8,10,11,12,13,15,16,17,18,20,21,22,23,25,26,27,28,30,31,32,33,35,36,37,38,40,41,42,43,45,46,47,48,50,51,52,54,55,56,58,59,60],[],[],[0,1,2,3,5,6,7,8,10,11,12,13,15,16,17,18,20,21,22,23,25,26,27,28,30,31,32,33,35,36,37,38,40,41,42,43,45,46,47,48,50,51,52,54,55,56,58,59,60,62,63],[0,1,2,3,5,6,7,8,10,11,12,13,15,16,17,18,20,21,22,23,25,26,27,28,30,31,32,33,35,36,37,38,40,41,42,43,45,46,47,48,50,51,52,54,55,56,58,59,60,62,63,64],[],[],[0,1,2,3,5,6,7,8,10,11,12,13,15,16,17,18,20,21,22,23,25,26,27,28,30,31,32,33,35,36,37,38,40,41,42,43,45,46,47,48,50,51,52,54,55,56,58,59,60,62,63,64,66,67],[0,1,2,3,5,6,7,8,10,11,12,13,15,16,17,18,20,21,22,23,25,26,27,28,30,31,32,33,35,36,37,38,40,41,42,43,45,46,47,48,50,51,52,54,55,56,58,59,60,62,63,64,66,67,68],[],[],[0,1,2,3,5,6,7,8,10,11,12,13,15,16,17,18,20,21,22,23,25,26,27,28,30,31,32,33,35,36,37,38,40,41,42,43,45,46,47,48,50,51,52,54,55,56,58,59,60,62,63,64,66,67,68,70,71],[0,1,2,3,5,6,7,8,10,11,12,13,15,16,17,18,20,21,22,23,25,26,27,28,30,31,32,33,35,36,37,38,40,41,42,43,45,46,47,48,50,51,52,54,55,56,58,59,60,62,63,64,66,67,68,70,71,72],[],[],[],[0,1,2,3,5,6,7,8,10,11,12,13,15,16,17,18,20,21,22,23,25,26,27,28,30,31,32,33,35,36,37,38,40,41,42,43,45,46,47,48,50,51,52,54,55,56,58,59,60,62,63,64,66,67,68,70,71,72,75,76],[0,1,2,3,5,6,7,8,10,11,12,13,15,16,17,18,20,21,22,23,25,26,27,28,30,31,32,33,35,36,37,38,40,41,42,43,45,46,47,48,50,51,52,54,55,56,58,59,60,62,63,64,66,67,68,70,71,72,74,75,76,77],[0,1,2,3,5,6,7,8,10,11,12,13,15,16,17,18,20,21,22,23,25,26,27,28,30,31,32,33,35,36,37,38,40,41,42,43,45,46,47,48,50,51,52,54,55,56,58,59,60,62,63,64,66,67,68,70,71,72,74,75,76,77,78],[0,1,2,3,4,5,6,7,8,9,10,11,12,13,14,15,16,17,18,19,20,21,22,23,24,25,26,27,28,29,30,31,32,33,34,35,36,37,38,39,40,41,42,43,44,45,46,47,48,49,50,51,52,53,54,55,56,57,58,59,60,61,62,63,64,65,66,67,68,69,70,71,72,73,74,75,76,77,78,79],[0,1,2,3,4,5,6,7,8,9,10,11,12,13,14,15,16,17,18,19,20,21,22,23,24,25,26,27,28,29,30,31,32,33,34,35,36,37,38,39,40,41,42,43,44,45,46,47,48,49,50,51,52,53,54,55,56,57,58,59,60,61,62,63,64,65,66,67,68,69,70,71,72,73,74,75,76,77,78,79,80]] Xl V ?_
 refine Q552 ?_
 refine Zm 19 (none) (i:=3) V V V V V (op_callvpp (xs:=[.tmp 17,.tmp 18]) V V V (two_c tyN tyN) by1 ⟨V,V⟩) ?_
 refine Zm 20 (none) (i:=4) V V V V V (Zp (ns:=[0,1]) (xs:=[.const (.string ⟨#[112,114,105,109,65,100,100]⟩),.tmp 19]) V tz_181 V tfl_181 V V V V ⟨V,V⟩) ?_
 refine Q552 ?_
 refine Zm 24 (none) (i:=8) V V V V V (op_callvpp (xs:=[.tmp 22,.tmp 23]) V V V (two_c tyN tyN) by1 ⟨V,V⟩) ?_
 refine Zm 25 (none) (i:=9) V V V V V (Zp (ns:=[0,1]) (xs:=[.const (.string ⟨#[112,114,105,109,83,117,98]⟩),.tmp 24]) V tz_181 V tfl_181 V V V V ⟨V,V⟩) ?_
 refine Q552 ?_
 refine Zm 29 (none) (i:=13) V V V V V (op_callvpp (xs:=[.tmp 27,.tmp 28]) V V V (two_c tyN tyN) by1 ⟨V,V⟩) ?_
 refine Zm 30 (none) (i:=14) V V V V V (Zp (ns:=[0,1]) (xs:=[.const (.string ⟨#[112,114,105,109,77,117,108]⟩),.tmp 29]) V tz_181 V tfl_181 V V V V ⟨V,V⟩) ?_
 refine Q552 ?_
 refine Zm 34 (none) (i:=18) V V V V V (op_callvpp (xs:=[.tmp 32,.tmp 33]) V V V (two_c tyN tyN) by1 ⟨V,V⟩) ?_
 refine Zm 35 (none) (i:=19) V V V V V (Zp (ns:=[0,1]) (xs:=[.const (.string ⟨#[112,114,105,109,68,105,118]⟩),.tmp 34]) V tz_181 V tfl_181 V V V V ⟨V,V⟩) ?_
 refine Q552 ?_
 refine Zm 39 (none) (i:=23) V V V V V (op_callvpp (xs:=[.tmp 37,.tmp 38]) V V V (two_c tyN tyN) by1 ⟨V,V⟩) ?_
 refine Zm 40 (none) (i:=24) V V V V V (Zp (ns:=[0,1]) (xs:=[.const (.string ⟨#[112,114,105,109,77,111,100]⟩),.tmp 39]) V tz_181 V tfl_181 V V V V ⟨V,V⟩) ?_
 refine Q481 ?_
 refine Q132 ?_
 refine Zm 44 (none) (i:=28) V V V V V (op_callvpp (xs:=[.tmp 42,.tmp 43]) V V V (two_c tyN tyB) by1 ⟨V,V⟩) ?_
 refine Zm 45 (none) (i:=29) V V V V V (Zp (ns:=[0,1]) (xs:=[.const (.string ⟨#[112,114,105,109,69,113]⟩),.tmp 44]) V tz_181 V tfl_181 V V V V ⟨V,V⟩) ?_
 refine Q481 ?_
 refine Q132 ?_
 refine Zm 49 (none) (i:=33) V V V V V (op_callvpp (xs:=[.tmp 47,.tmp 48]) V V V (two_c tyN tyB) by1 ⟨V,V⟩) ?_
 refine Zm 50 (none) (i:=34) V V V V V (Zp (ns:=[0,1]) (xs:=[.const (.string ⟨#[112,114,105,109,76,101,115,115]⟩),.tmp 49]) V tz_181 V tfl_181 V V V V ⟨V,V⟩) ?_
 refine Q24 ?_
 refine Q104 ?_
 refine Q104 ?_
 refine Zm 54 (none) (i:=38) V V V V V (op_callvpp (xs:=[.tmp 52,.tmp 53]) V V V (two_c tyS tyS) by1 ⟨V,V⟩) ?_
 refine Zm 55 (none) (i:=39) V V V V V (Zp (ns:=[0,1]) (xs:=[.const (.string ⟨#[112,114,105,109,67,97,116]⟩),.tmp 54]) V tz_181 V tfl_181 V V V V ⟨V,V⟩) ?_
 refine Q24 ?_
 refine Q104 ?_
 refine Q132 ?_
 refine Zm 59 (none) (i:=43) V V V V V (op_callvpp (xs:=[.tmp 57,.tmp 58]) V V V (two_c tyS tyB) by1 ⟨V,V⟩) ?_
 refine Zm 60 (none) (i:=44) V V V V V (Zp (ns:=[0,1]) (xs:=[.const (.string ⟨#[112,114,105,109,83,97,109,101]⟩),.tmp 59]) V tz_181 V tfl_181 V V V V ⟨V,V⟩) ?_
 refine Q24 ?_
 refine Q104 ?_
 refine Q132 ?_
 refine Zm 64 (none) (i:=48) V V V V V (op_callvpp (xs:=[.tmp 62,.tmp 63]) V V V (two_c tyS tyB) by1 ⟨V,V⟩) ?_
 refine Zm 65 (none) (i:=49) V V V V V (Zp (ns:=[0,1]) (xs:=[.const (.string ⟨#[112,114,105,109,66,101,102,111,114,101]⟩),.tmp 64]) V tz_181 V tfl_181 V V V V ⟨V,V⟩) ?_
 refine Q104 ?_
 refine Q76 ?_
 refine Zm 68 (none) (i:=52) V V V V V (Zd (xs:=[.tmp 66,.tmp 67]) V V (Fun_c tyS tyN) by1 ⟨V,V⟩) ?_
 refine Zm 69 (none) (i:=53) V V V V V (Zp (ns:=[0,1]) (xs:=[.const (.string ⟨#[112,114,105,109,76,101,110]⟩),.tmp 68]) V tz_181 V tfl_181 V V V V ⟨V,V⟩) ?_
 refine Q76 ?_
 refine Q104 ?_
 refine Zm 72 (none) (i:=56) V V V V V (Zd (xs:=[.tmp 70,.tmp 71]) V V (Fun_c tyN tyS) by1 ⟨V,V⟩) ?_
 refine Zm 73 (none) (i:=57) V V V V V (Zp (ns:=[0,1]) (xs:=[.const (.string ⟨#[112,114,105,109,83,104,111,119]⟩),.tmp 72]) V tz_181 V tfl_181 V V V V ⟨V,V⟩) ?_
 refine Q104 ?_
 refine Q116 ?_
 refine Zm 76 (none) (i:=60) V V V V V (Zd (xs:=[.tmp 74,.tmp 75]) V V (Fun_c tyS tyU) by1 ⟨V,V⟩) ?_
 refine Zm 77 (none) (i:=61) V V V V V (Zp (ns:=[0,1]) (xs:=[.const (.string ⟨#[112,114,105,109,80,117,116]⟩),.tmp 76]) V tz_181 V tfl_181 V V V V ⟨V,V⟩) ?_
 refine Q116 ?_
 refine Q104 ?_
 refine Zm 80 (none) (i:=64) V V V V V (Zd (xs:=[.tmp 78,.tmp 79]) V V (Fun_c tyU tyS) by1 ⟨V,V⟩) ?_
 refine Zm 81 (none) (i:=65) V V V V V (Zp (ns:=[0,1]) (xs:=[.const (.string ⟨#[112,114,105,109,71,101,116]⟩),.tmp 80]) V tz_181 V tfl_181 V V V V ⟨V,V⟩) ?_
 refine Q121 ?_
 refine Q113 ?_
 refine Zm 84 (none) (i:=68) V V V V V (Zd (xs:=[.tmp 82,.tmp 83]) V V (Fun_c tyA tyR) by1 ⟨V,V⟩) ?_
 refine Zm 85 (none) (i:=69) V V V V V (Zp (ns:=[0,1]) (xs:=[.const (.string ⟨#[112,114,105,109,78,101,119]⟩),.tmp 84]) V tz_181 V tfl_181 V V V V ⟨V,V⟩) ?_
 refine Q113 ?_
 refine Q121 ?_
 refine Zm 88 (none) (i:=72) V V V V V (Zd (xs:=[.tmp 86,.tmp 87]) V V (Fun_c tyR tyA) by1 ⟨V,V⟩) ?_
 refine Zm 89 (none) (i:=73) V V V V V (Zp (ns:=[0,1]) (xs:=[.const (.string ⟨#[112,114,105,109,82,101,97,100]⟩),.tmp 88]) V tz_181 V tfl_181 V V V V ⟨V,V⟩) ?_
 refine Q113 ?_
 refine Q121 ?_
 refine Q116 ?_
 refine Zm 93 (none) (i:=77) V V V V V (Zd (xs:=[.tmp 91,.tmp 92]) V V (Fun_c tyA tyU) by1 ⟨V,V⟩) ?_
 refine Zm 94 (none) (i:=78) V V V V V (Zd (xs:=[.tmp 90,.tmp 93]) V V (Fun_c tyR (tfn tyA tyU)) by1 ⟨V,V⟩) ?_
 refine Zm 95 (none) (i:=79) V V V V V (Zp (ns:=[0,1]) (xs:=[.const (.string ⟨#[112,114,105,109,87,114,105,116,101]⟩),.tmp 94]) V tz_181 V tfl_181 V V V V ⟨V,V⟩) ?_
 refine Zm 96 (none) (i:=80) V V V V V (op_build_arr (ns:=[0,1,2,3,4,5,6,7,8,9,10,11,12,13,14,15,16]) (xs:=[.tmp 20,.tmp 25,.tmp 30,.tmp 35,.tmp 40,.tmp 45,.tmp 50,.tmp 55,.tmp 60,.tmp 65,.tmp 69,.tmp 73,.tmp 77,.tmp 81,.tmp 85,.tmp 89,.tmp 95]) V tz_182 V tu_182 ts_181 V V V V ⟨V,V⟩) ?_
 refine Yf 6 (i:=81) V V V V V (Zu (i:=0) V ts_182 V V V V V (Xz V) V ⟨_,V,?_⟩)
 show AGo _ _ _ _ _ _ _
 refine Q303 ?_
 exact Zj (i:=6) V V V ta_182 V (Xt _) by3 ⟨V,V⟩
end Go.Proofs.YteepjjgooplljaaGreat
