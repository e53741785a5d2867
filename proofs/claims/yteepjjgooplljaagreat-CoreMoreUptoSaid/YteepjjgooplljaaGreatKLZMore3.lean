/- Parts of a proof: the document's lexer: text; Walks of layer 1: int63.Wrap, Fits, Add, Sub, Mul, Quo, Rem, Cmp and the reference's Mod, Mean, Wrap, Add, Sub, Mul, size, Signed, Quo.; cognateref01.Parse of digits; the document's lexer: one; the document's lexer: one, names and signs; the document's lexer: one, digits; the document's lexer: one, Scan; the document's lexer: Scan; the document's parser: the state and its small steps, as plain functions; Plain: the levels of operators.; Declarations as plain data (printed by wip/gend.py).; the document's parser as plain functions; the document's parser: it goes on, and never comes out of the tokens; the document's parser: it goes on: expressions, declarations; how many tokens there are; texts held against each other, as the kernel can evaluate it; the document's check of declarations, as plain functions; core: which types are right, as a plain function; A logic of trees: parts of a text, one side open; calls that answer a pair of a type and a bool; slices.EqualFunc and tree.same, for lists of types, patterns, expressions, alternatives, binds: alike under a map.; sameness of types, patterns, expressions: tree.SameType, SamePat, Same, sameBind, and the document's; small functions of layers 5 and 8: Has, HasInt, Index, Contains, IsFun, fun, Fun, Con, Clone, kids; core: IndexFunc, ContainsFunc, all of types, binds, alternatives, texts; Args, Answer, All, Vars, Metas of the document; Args of the program; cognatelaw08.count, Small; All, Vars, Metas of the document; Args of the program; smalls; The logic of trees, part 19: calls that turn one piece of the memory; a nil as a slice of the call's own.; the document's declarations: Arity, Class, Method, Inst, names, vars; the document's declarations: Right, Method; what is above a class: it ends; the document's declarations: over, Above; the document's declarations: Above, Bound, binds; declarations that are not too many; the document's declarations: datas; Matching, in plain words.; Matching what was put in: the plain law. -/
import Derived.Test.YteepjjgooplljaaGreatKLZMore2
import Derived.Test.YteepjjgooplljaaGreatProg
import Derived.WalkKit
import Derived.WalkSpells
import Derived.WalkLawsBesides
import Derived.Lib.Hide
set_option maxRecDepth 100000
set_option maxHeartbeats 4000000
namespace Go.Proofs.YteepjjgooplljaaGreat
open Go.RowKit
def zi (l:List Nat):List Int:=l.map fun k:Nat=>(k:Int)
theorem zi_len (l:List Nat):(bts (zi l)).length=l.length:=by simp [bts,zi]
def txR (at_:Nat):Option (List Nat × Nat)→AV
 | none=>.tup [.val (.string ⟨#[]⟩),.val (.int .i64 0),.val (.bool false)]
 | some r=>.tup [.val (.string (strN r.1)),.val (.int .i64 ((at_+1+r.2:Nat):Int)),.val (.bool true)]
theorem tx_end (l:List Nat):txL (34::l)=some ([],1):=by rw [txL.eq_def];rfl
theorem tx_10 (l:List Nat):txL (10::l)=none:=by rw [txL.eq_def];rfl
theorem tx_more {c:Nat} (l:List Nat) (h1:c≠34) (h2:c≠10) (h3:c≠92):txL (c::l)=(txL l).map fun r=>(c::r.1,r.2+1):=by
 rw [txL.eq_def];simp only [if_neg h1,if_neg h2,if_neg h3]
theorem tx_esc0:txL [92]=none:=by rfl
theorem tx_esc (d:Nat) (l:List Nat):txL (92::d::l)=match unesc d with
    | none=>none
    | some x=>(txL l).map fun r=>(x::r.1,r.2+2):=by rw [txL.eq_def];rfl
theorem Xi {A:Option (List Nat × Nat)} {acc:List Nat} {k k' x m:Nat} (h:k'=k+m):(A.map fun r:List Nat × Nat=>(x::r.1,r.2+m)).map (fun r:List Nat × Nat=>(acc++r.1,r.2+k))=A.map fun r:List Nat × Nat=>((acc++[x])++r.1,r.2+k'):=by
 cases A with
 | none=>rfl
 | some r=>simp;omega
theorem escBytes:bytesN ⟨#[110,116,34,92]⟩=[110,116,34,92]:=by decide
theorem text_c (s:ByteArray) (hs:s.size≤60000) (at_:Nat) (ha:at_<s.size):PCall Tryz.prog 189 [.val (.string s),.val (.int .i64 at_)] (txR at_ (txL (rst s (at_+1)))):=by
 have HI:=fun c=>in_c ⟨#[110,116,34,92]⟩ by16 c
 rw [escBytes] at HI
 refine Zc Tryz.func189 U (by kernel_rfl) U (Wc U) ?_
 refine Qe ?_
 refine QcA ?_
 refine Qs ?_
 refine Q1 ?_
 refine ACode.ownNil (t:=7) 5 1 U ?_
 refine QcR ?_
 refine Qab ?_
 apply Yl (rg [(1,50)]) (σ:=Nat × List Nat × Value) (fun zz=>match zz with|(i,acc,u)=>[(7,.own u 1 (bts (zi acc))),(8,.val (.int .i64 i))]) (fun zz=>match zz with|(i,acc,u)=>[.own 5 1 u]) (fun zz=>match zz with|(i,acc,u)=>at_+1≤i∧i≤s.size∧acc.length≤i∧txL (rst s (at_+1))=(txL (rst s i)).map fun r=>(acc++r.1,r.2+(i - (at_+1)))) (fun zz=>match zz with|(i,acc,u)=>s.size - i) ((at_+1,[],.slice none 0 0))
 ·repeat' (first|exact Wf|apply Wd rfl|apply We rfl)
 ·refine ⟨Nat.le_refl _,ha,Nat.zero_le _,?_⟩
  cases txL (rst s (at_+1)) <;> simp
 ·exact (by repeat' (first|exact Xz _|refine Xy U ?_ ?_|exact Xu _|exact Le.own _ _ _|exact Xx _|(refine Wb ?_;rfl)|(refine Le.own_seq ?_;rfl)|(refine Le.seq_eq ?_;rfl)))
 ·exact by4
 rintro ⟨i,acc,u⟩ hI
 try dsimp only [List.cons_append,List.nil_append] at hI ⊢
 obtain ⟨h1,h2,h3,hu⟩:=hI
 have hle:(bts (zi acc)).length≤100000000:=by rw [zi_len];omega
 refine QaA ?_
 refine Qdo ?_;intro c15 h15
 refine Qa ?_
 obtain ⟨rfl,g15⟩|⟨rfl,g15⟩:=Za h15
 ·refine Qa3 ?_
  refine QcB ?_
  refine out_ttt U U U U (Xu _) by4 ⟨?_,U⟩
  rw [hu,rst_nil by17];rfl
 refine Qk ?_
 obtain ⟨b,hb,hr,hlt⟩:=Xh (s:=s) (i:=i) by17
 refine Q8 ?_
 refine QdY ?_
 refine QU ?_
 refine Qz ?_;intro c22 h22
 refine Qa ?_
 obtain ⟨rfl,g22⟩|⟨rfl,g22⟩:=Za h22
 ·refine QaP ?_
  refine Qz ?_;intro c28 h28
  refine Qa ?_
  obtain ⟨rfl,g28⟩|⟨rfl,g28⟩:=Za h28
  ·refine QaP ?_
   refine Qz ?_;intro c30 h30
   refine Qa ?_
   obtain ⟨rfl,g30⟩|⟨rfl,g30⟩:=Za h30
   ·refine QbW ?_
    refine Q8 ?_
    refine Qen ?_
    refine Qeo ?_
    intro u50
    refine QaD ?_
    first
    |(exfalso;clear hu;omega)
    | (have hm:=tx_more (rst s (i+1)) (c:=b.toNat) (by clear hu;omega) (by clear hu;omega) (by clear hu;omega)
       rw [hr,hm,Xi (k':=i+1 - (at_+1)) by17] at hu
       exact ⟨(i+1,acc++[b.toNat],u50),⟨by omega,by omega,by simp;omega,hu⟩,by simp;omega,Xy U (Wb by9) by5,by4⟩)
    | (have hx:unesc d.toNat=some 10:=by rw [show d.toNat=110 by clear hu;omega];rfl
       rw [hx] at hu
       simp only [] at hu
       rw [Xi (k':=i+1+1 - (at_+1)) by17] at hu
       exact ⟨(i+1+1,acc++[10],u50),⟨by omega,by omega,by simp;omega,hu⟩,by simp;omega,Xy U (Wb by9) by5,by4⟩)
    | (have hx:unesc d.toNat=some 9:=by rw [show d.toNat=116 by clear hu;omega];rfl
       rw [hx] at hu
       simp only [] at hu
       rw [Xi (k':=i+1+1 - (at_+1)) by17] at hu
       exact ⟨(i+1+1,acc++[9],u50),⟨by omega,by omega,by simp;omega,hu⟩,by simp;omega,Xy U (Wb by9) by5,by4⟩)
    | (have hx:unesc d.toNat=some d.toNat:=by unfold unesc;rw [if_neg (by clear hu;omega),if_neg (by clear hu;omega),if_pos (by clear hu;omega)]
       rw [hx] at hu
       simp only [] at hu
       rw [Xi (k':=i+1+1 - (at_+1)) by17] at hu
       exact ⟨(i+1+1,acc++[d.toNat],u50),⟨by omega,by omega,by simp;omega,hu⟩,by simp;omega,Xy U (Wb by9) by5,by4⟩)
   refine QaW ?_
   refine Qa6 ?_
   refine QU ?_
   refine Qb ?_
   refine Qco ?_
   refine Qz ?_;intro c36 h36
   refine Qa ?_
   obtain ⟨rfl,g36⟩|⟨rfl,g36⟩:=Za h36
   ·refine Qp ?_
    obtain ⟨d,hd,hrd,hdl⟩:=Xh (s:=s) (i:=i+1) by17
    have hE:=tx_esc d.toNat (rst s (i+1+1))
    have hr2:rst s i=92::d.toNat::rst s (i+1+1):=by rw [hr,hrd,show b.toNat=92 by omega]
    rw [hr2,hE] at hu
    refine Q8 ?_
    refine Zb 39 U U U (Yv (i:=i+1) U tu_9 U U by11 (hd) ?_)
    refine QU ?_
    refine Zb 41 U U U (Zg (xs:=[.const (.string ⟨#[110,116,34,92]⟩),.tmp 40]) U U (HI _) by2 ?_);intro c41 h41
    refine Q5 ?_;intro c42 h42
    try replace h42:=Ym h42 h41
    refine Qa ?_
    obtain ⟨rfl,g42⟩|⟨rfl,g42⟩:=Za h42
    ·refine QbK ?_
     have hmem:d.toNat=110∨d.toNat=116∨d.toNat=34∨d.toNat=92:=by clear hu hE hr2 hrd hd hr hb HI;simp_all;clear h41;omega
     refine Qh ?_
     refine Qz ?_;intro c44 h44
     refine Qa ?_
     obtain ⟨rfl,g44⟩|⟨rfl,g44⟩:=Za h44
     ·refine Qau ?_
      refine Qz ?_;intro c46 h46
      refine Qa ?_
      obtain ⟨rfl,g46⟩|⟨rfl,g46⟩:=Za h46
      ·refine QbW ?_
       refine Q8 ?_
       refine Qen ?_
       refine Qeo ?_
       intro u50
       refine QaD ?_
       first
       |(exfalso;clear hu;omega)
       | (have hm:=tx_more (rst s (i+1)) (c:=b.toNat) (by clear hu;omega) (by clear hu;omega) (by clear hu;omega)
          rw [hr,hm,Xi (k':=i+1 - (at_+1)) by17] at hu
          exact ⟨(i+1,acc++[b.toNat],u50),⟨by omega,by omega,by simp;omega,hu⟩,by simp;omega,Xy U (Wb by9) by5,by4⟩)
       | (have hx:unesc d.toNat=some 10:=by rw [show d.toNat=110 by clear hu;omega];rfl
          rw [hx] at hu
          simp only [] at hu
          rw [Xi (k':=i+1+1 - (at_+1)) by17] at hu
          exact ⟨(i+1+1,acc++[10],u50),⟨by omega,by omega,by simp;omega,hu⟩,by simp;omega,Xy U (Wb by9) by5,by4⟩)
       | (have hx:unesc d.toNat=some 9:=by rw [show d.toNat=116 by clear hu;omega];rfl
          rw [hx] at hu
          simp only [] at hu
          rw [Xi (k':=i+1+1 - (at_+1)) by17] at hu
          exact ⟨(i+1+1,acc++[9],u50),⟨by omega,by omega,by simp;omega,hu⟩,by simp;omega,Xy U (Wb by9) by5,by4⟩)
       | (have hx:unesc d.toNat=some d.toNat:=by unfold unesc;rw [if_neg (by clear hu;omega),if_neg (by clear hu;omega),if_pos (by clear hu;omega)]
          rw [hx] at hu
          simp only [] at hu
          rw [Xi (k':=i+1+1 - (at_+1)) by17] at hu
          exact ⟨(i+1+1,acc++[d.toNat],u50),⟨by omega,by omega,by simp;omega,hu⟩,by simp;omega,Xy U (Wb by9) by5,by4⟩)
      refine QbX ?_
      refine Qj ?_
      refine Q8 ?_
      refine Qen ?_
      refine Qeo ?_
      intro u50
      refine QaD ?_
      first
      |(exfalso;clear hu;omega)
      | (have hm:=tx_more (rst s (i+1)) (c:=b.toNat) (by clear hu;omega) (by clear hu;omega) (by clear hu;omega)
         rw [hr,hm,Xi (k':=i+1 - (at_+1)) by17] at hu
         exact ⟨(i+1,acc++[b.toNat],u50),⟨by omega,by omega,by simp;omega,hu⟩,by simp;omega,Xy U (Wb by9) by5,by4⟩)
      | (have hx:unesc d.toNat=some 10:=by rw [show d.toNat=110 by clear hu;omega];rfl
         rw [hx] at hu
         simp only [] at hu
         rw [Xi (k':=i+1+1 - (at_+1)) by17] at hu
         exact ⟨(i+1+1,acc++[10],u50),⟨by omega,by omega,by simp;omega,hu⟩,by simp;omega,Xy U (Wb by9) by5,by4⟩)
      | (have hx:unesc d.toNat=some 9:=by rw [show d.toNat=116 by clear hu;omega];rfl
         rw [hx] at hu
         simp only [] at hu
         rw [Xi (k':=i+1+1 - (at_+1)) by17] at hu
         exact ⟨(i+1+1,acc++[9],u50),⟨by omega,by omega,by simp;omega,hu⟩,by simp;omega,Xy U (Wb by9) by5,by4⟩)
      | (have hx:unesc d.toNat=some d.toNat:=by unfold unesc;rw [if_neg (by clear hu;omega),if_neg (by clear hu;omega),if_pos (by clear hu;omega)]
         rw [hx] at hu
         simp only [] at hu
         rw [Xi (k':=i+1+1 - (at_+1)) by17] at hu
         exact ⟨(i+1+1,acc++[d.toNat],u50),⟨by omega,by omega,by simp;omega,hu⟩,by simp;omega,Xy U (Wb by9) by5,by4⟩)
     refine QbX ?_
     refine QK ?_
     refine Qz ?_;intro c46 h46
     refine Qa ?_
     obtain ⟨rfl,g46⟩|⟨rfl,g46⟩:=Za h46
     ·refine QbW ?_
      refine Q8 ?_
      refine Qen ?_
      refine Qeo ?_
      intro u50
      refine QaD ?_
      first
      |(exfalso;clear hu;omega)
      | (have hm:=tx_more (rst s (i+1)) (c:=b.toNat) (by clear hu;omega) (by clear hu;omega) (by clear hu;omega)
         rw [hr,hm,Xi (k':=i+1 - (at_+1)) by17] at hu
         exact ⟨(i+1,acc++[b.toNat],u50),⟨by omega,by omega,by simp;omega,hu⟩,by simp;omega,Xy U (Wb by9) by5,by4⟩)
      | (have hx:unesc d.toNat=some 10:=by rw [show d.toNat=110 by clear hu;omega];rfl
         rw [hx] at hu
         simp only [] at hu
         rw [Xi (k':=i+1+1 - (at_+1)) by17] at hu
         exact ⟨(i+1+1,acc++[10],u50),⟨by omega,by omega,by simp;omega,hu⟩,by simp;omega,Xy U (Wb by9) by5,by4⟩)
      | (have hx:unesc d.toNat=some 9:=by rw [show d.toNat=116 by clear hu;omega];rfl
         rw [hx] at hu
         simp only [] at hu
         rw [Xi (k':=i+1+1 - (at_+1)) by17] at hu
         exact ⟨(i+1+1,acc++[9],u50),⟨by omega,by omega,by simp;omega,hu⟩,by simp;omega,Xy U (Wb by9) by5,by4⟩)
      | (have hx:unesc d.toNat=some d.toNat:=by unfold unesc;rw [if_neg (by clear hu;omega),if_neg (by clear hu;omega),if_pos (by clear hu;omega)]
         rw [hx] at hu
         simp only [] at hu
         rw [Xi (k':=i+1+1 - (at_+1)) by17] at hu
         exact ⟨(i+1+1,acc++[d.toNat],u50),⟨by omega,by omega,by simp;omega,hu⟩,by simp;omega,Xy U (Wb by9) by5,by4⟩)
     refine QbX ?_
     refine Qj ?_
     refine Q8 ?_
     refine Qen ?_
     refine Qeo ?_
     intro u50
     refine QaD ?_
     first
     |(exfalso;clear hu;omega)
     | (have hm:=tx_more (rst s (i+1)) (c:=b.toNat) (by clear hu;omega) (by clear hu;omega) (by clear hu;omega)
        rw [hr,hm,Xi (k':=i+1 - (at_+1)) by17] at hu
        exact ⟨(i+1,acc++[b.toNat],u50),⟨by omega,by omega,by simp;omega,hu⟩,by simp;omega,Xy U (Wb by9) by5,by4⟩)
     | (have hx:unesc d.toNat=some 10:=by rw [show d.toNat=110 by clear hu;omega];rfl
        rw [hx] at hu
        simp only [] at hu
        rw [Xi (k':=i+1+1 - (at_+1)) by17] at hu
        exact ⟨(i+1+1,acc++[10],u50),⟨by omega,by omega,by simp;omega,hu⟩,by simp;omega,Xy U (Wb by9) by5,by4⟩)
     | (have hx:unesc d.toNat=some 9:=by rw [show d.toNat=116 by clear hu;omega];rfl
        rw [hx] at hu
        simp only [] at hu
        rw [Xi (k':=i+1+1 - (at_+1)) by17] at hu
        exact ⟨(i+1+1,acc++[9],u50),⟨by omega,by omega,by simp;omega,hu⟩,by simp;omega,Xy U (Wb by9) by5,by4⟩)
     | (have hx:unesc d.toNat=some d.toNat:=by unfold unesc;rw [if_neg (by clear hu;omega),if_neg (by clear hu;omega),if_pos (by clear hu;omega)]
        rw [hx] at hu
        simp only [] at hu
        rw [Xi (k':=i+1+1 - (at_+1)) by17] at hu
        exact ⟨(i+1+1,acc++[d.toNat],u50),⟨by omega,by omega,by simp;omega,hu⟩,by simp;omega,Xy U (Wb by9) by5,by4⟩)
    refine Qq ?_
    refine QcB ?_
    refine out_ttt U U U U (Xu _) by4 ⟨?_,U⟩
    have hn:unesc d.toNat=none:=by unfold unesc;simp_all
    rw [hu,hn];rfl
   refine Qq ?_
   refine QcB ?_
   refine out_ttt U U U U (Xu _) by4 ⟨?_,U⟩
   rw [hu,hr,show b.toNat=92 by omega,rst_nil by17,tx_esc0];rfl
  refine Qq ?_
  refine QcB ?_
  refine out_ttt U U U U (Xu _) by4 ⟨?_,U⟩
  rw [hu,hr,show b.toNat=10 by omega,tx_10];rfl
 refine QaW ?_
 refine Zb 24 U U U (op_bytestra (xs:=zi acc) U tu_253 tu_5 tu_9 U (.own _ 1 _) ?_)
 refine Qb ?_
 refine Qa6 ?_
 refine QcB ?_
 refine out_ttt U U U U (Xu _) by4 ⟨?_,U⟩
 rw [hu,hr,show b.toNat=34 by omega,tx_end]
 simp [txR,strN,zi];omega
theorem ret_int {k:IntKind} {a b:Int} (h:a=b):Ending.returned (.int k a)=.returned (.int k b):=by rw [h]
set_option maxHeartbeats 400000 in
theorem Mod_c (n:Int) (w:World):Calls Tryz.prog 219 #[.int .i64 n] w fun e w'=>e=.returned (.int .u64 (R63 n))∧w=w':=by
 go_enter Tryz.func219,Tryz.ntmps219
 go_wp2
 go_ret
 exact ⟨ret_int (R63_u64 n),U⟩
set_option maxHeartbeats 400000 in
theorem Mean_c (n:Int) (w:World) (h1:0≤n) (h2:n≤9223372036854775807):Calls Tryz.prog 218 #[.int .u64 n] w fun e w'=>e=.returned (.int .i64 (W63 n))∧w=w':=by
 go_enter Tryz.func218,Tryz.ntmps218
 go_wp2
 all_goals go_ret
 all_goals exact ⟨ret_int (by unfold W63;omega),rfl⟩
set_option maxHeartbeats 400000 in
theorem RWrap_c (n:Int) (w:World):Calls Tryz.prog 216 #[.int .i64 n] w fun e w'=>e=.returned (.int .i64 (W63 n))∧w=w':=by
 go_enter Tryz.func216,Tryz.ntmps216
 go_wp2_with (first|(go_at_call 219;refine (Mod_c _ _).mono ?_;rintro e w' ⟨rfl,rfl⟩)|(go_at_call 218;refine (Mean_c _ _ (R63_lo _) (R63_hi _)).mono ?_;rintro e w' ⟨rfl,rfl⟩))
 go_ret
 exact ⟨ret_int (W63_R63 n),U⟩
set_option maxHeartbeats 400000 in
theorem RSub_c (a b:Int) (w:World):Calls Tryz.prog 215 #[.int .i64 a,.int .i64 b] w fun e w'=>e=.returned (.int .i64 (W63 (a - b)))∧w=w':=by
 have a1:=R63_lo a
 have a2:=R63_hi a
 have b1:=R63_lo b
 have b2:=R63_hi b
 go_enter Tryz.func215,Tryz.ntmps215
 go_wp2_with (first|(go_at_call 219;refine (Mod_c _ _).mono ?_;rintro e w' ⟨rfl,rfl⟩)|(go_at_call 218;refine (Mean_c _ _ by17 by17).mono ?_;rintro e w' ⟨rfl,rfl⟩))
 go_ret
 exact ⟨ret_int (W63_congr (by unfold R63;omega)),U⟩
set_option maxHeartbeats 400000 in
theorem Signed_c (u:Int) (neg:Bool) (w:World) (h1:0≤u) (h2:u≤9223372036854775807):Calls Tryz.prog 212 #[.int .u64 u,.bool neg] w fun e w'=>e=.returned (.int .i64 (W63 (sgn u neg)))∧w=w':=by
 cases neg with
 | true =>
  go_enter Tryz.func212,Tryz.ntmps212
  go_wp2_with (go_at_call 215;refine (RSub_c _ _ _).mono ?_;rintro e w' ⟨rfl,rfl⟩)
  go_ret
  exact ⟨ret_int (W63_congr (by simp [sgn];try omega)),U⟩
 | false =>
  go_enter Tryz.func212,Tryz.ntmps212
  go_wp2_with (go_at_call 216;refine (RWrap_c _ _).mono ?_;rintro e w' ⟨rfl,rfl⟩)
  go_ret
  exact ⟨ret_int (W63_congr (by simp [sgn];try omega)),U⟩
theorem u64w (x:Int):IntKind.u64.wrap x=x % 18446744073709551616:=by
 unfold IntKind.wrap
 simp [IntKind.bits,IntKind.signed]
theorem u8w (x:Int):IntKind.u8.wrap x=x % 256:=by
 unfold IntKind.wrap
 simp [IntKind.bits,IntKind.signed]
theorem SignedA_c (u:Int) (neg:Bool) (h1:0≤u) (h2:u≤9223372036854775807):PCall Tryz.prog 212 [.val (.int .u64 u),.val (.bool neg)] (.val (.int .i64 (W63 (sgn u neg)))) :=
 PCall.of_calls (vs:=[.int .u64 u,.bool neg]) (enters_of Tryz.func212 (by kernel_rfl) rfl) (fun w=>(Signed_c u neg w h1 h2).mono (by rintro e w' ⟨rfl,rfl⟩;exact ⟨rfl,Below.refl _ _⟩))
def parR:Option Nat→AV
 | none=>.tup [.val (.int .i64 0),.val (.int .i64 3)]
 | some n=>.tup [.val (.int .i64 n),.val (.int .i64 0)]
theorem parL_none {l:List Nat} (h:valO 0 l=none):parL l=none:=by unfold parL;rw [h]
theorem parL_half {l:List Nat} (h:valO 0 l=some 4611686018427387904):parL l=none:=by unfold parL;rw [h];rfl
theorem parL_some {l:List Nat} {n:Nat} (h:valO 0 l=some n) (hn:n≠4611686018427387904):parL l=some n:=by unfold parL;rw [h];simp only [if_neg hn]
theorem rParse_c (s:ByteArray) (hs:s.size≤60000) (h0:0<s.size) (hd:∀ (i:Nat) (b:UInt8),s[i]?=some b→48≤b.toNat∧b.toNat≤57) (hz:∀ b:UInt8,s[0]?=some b→b.toNat=48→s.size=1):PCall Tryz.prog 192 [.val (.string s)] (parR (parL (rst s 0))):=by
 obtain ⟨z,hz0,_,_⟩:=Xh h0
 have hz1:=hz z hz0
 have hz2:=hd 0 z hz0
 have HS:=SignedA_c
 refine Zc Tryz.func192 U (by kernel_rfl) U (Wc U) ?_
 refine Qe ?_
 refine QJ ?_
 refine QG ?_
 refine Zw 4 (False) ?_ _ _ U ?_
 ·skip
  refine Qb ?_
  refine Qco ?_
  refine Qbo ?_;intro c11 h11
  refine Qb ?_
  obtain ⟨rfl,g11⟩|⟨rfl,g11⟩:=Za h11
  ·skip
   refine Qah ?_
   refine QC ?_
   refine Wa U ?_ by6 by4
   simp_all;done
  skip
  refine Qf ?_
  refine Qgg ?_
  refine Qak ?_;intro c15 h15
  refine QC ?_
  refine Wa U ?_ by6 by4
  simp_all;omega
 intro c4 h4
 refine Qc ?_
 refine QbY ?_
 refine Qa ?_
 obtain ⟨rfl,g4⟩|⟨rfl,g4⟩:=Za h4
 ·refine QbK ?_
  refine Zw 37 (False) ?_ _ _ U ?_
  ·skip
   refine Qai ?_
   refine Qco ?_
   refine Qz ?_;intro c21 h21
   refine Qb ?_
   obtain ⟨rfl,g21⟩|⟨rfl,g21⟩:=Za h21
   ·skip
    refine QaM ?_
    refine Qgg ?_
    refine Qak ?_;intro c26 h26
    refine Qf ?_
    obtain ⟨rfl,g26⟩|⟨rfl,g26⟩:=Za h26
    ·skip
     refine Qx ?_
     refine QaU ?_
     refine QaS ?_
     refine QbO ?_
     refine Qaz ?_
     refine Wa U ?_ by6 by4
     clear HS;first|(simp_all;done)|(simp_all;omega)|grind
    skip
    refine Qf ?_
    refine Qfh ?_
    refine Qf ?_
    refine Qgf ?_
    refine Qcp ?_;intro c32 h32
    refine Qf ?_
    obtain ⟨rfl,g32⟩|⟨rfl,g32⟩:=Za h32
    ·skip
     refine Qf ?_
     refine QbJ ?_
     refine Wa U ?_ by6 by4
     clear HS;first|(simp_all;done)|(simp_all;omega)|grind
    skip
    refine QbO ?_
    refine QbJ ?_
    refine Wa U ?_ by6 by4
    clear HS;first|(simp_all;done)|(simp_all;omega)|grind
   skip
   refine QaK ?_
   refine Qcb ?_
   refine Qcd ?_
   refine Qm ?_
   refine Wa U ?_ by6 by4
   clear HS;first|(simp_all;done)|(simp_all;omega)|grind
  intro c37 h37
  refine Qc ?_
  obtain ⟨rfl,g37⟩|⟨rfl,g37⟩:=Za h37
  ·refine QaP ?_
   refine Qab ?_
   apply Zu (rg [(1,3),(6,1),(9,46)]) (σ:=Nat) (fun zz=>match zz with|i=>[(6,.val (.int .i64 i))]) (fun zz=>match zz with|i=>i≤s.size) (fun zz=>match zz with|i=>s.size - i) (0)
   ·repeat' (first|exact Wf|apply Wd rfl|apply We rfl)
   ·exact Nat.zero_le _
   ·exact by5
   rintro i hI
   try dsimp only [List.cons_append,List.nil_append] at hI ⊢
   refine QaA ?_
   refine Qdo ?_;intro c42 h42
   refine Qa ?_
   obtain ⟨rfl,g42⟩|⟨rfl,g42⟩:=Za h42
   ·refine Qa3 ?_
    refine QU ?_
    refine Qab ?_
    apply Zu (rg [(1,3),(5,67)]) (σ:=Nat × Nat) (fun zz=>match zz with|(j,n)=>[(7,.val (.int .u64 n)),(8,.val (.int .i64 j))]) (fun zz=>match zz with|(j,n)=>j≤s.size∧n≤4611686018427387904∧valO 0 (rst s 0)=valO n (rst s j)) (fun zz=>match zz with|(j,n)=>s.size - j) ((0,0))
    ·repeat' (first|exact Wf|apply Wd rfl|apply We rfl)
    ·exact ⟨Nat.zero_le _,by omega,U⟩
    ·exact by5
    rintro ⟨j,n⟩ hI
    try dsimp only [List.cons_append,List.nil_append] at hI ⊢
    obtain ⟨hj,hn,hu⟩:=hI
    refine QaA ?_
    refine Qdo ?_;intro c59 h59
    refine Qa ?_
    obtain ⟨rfl,g59⟩|⟨rfl,g59⟩:=Za h59
    ·refine Qbs ?_
     refine Zw 77 (n=4611686018427387904) ?_ _ _ U ?_
     ·skip
      refine Qb ?_
      refine Qz ?_;intro c73 h73
      refine Qb ?_
      obtain ⟨rfl,g73⟩|⟨rfl,g73⟩:=Za h73
      ·skip
       refine Qcx ?_
       refine Wa U ?_ by6 by4
       simp_all;omega
      skip
      refine Qf ?_
      refine Qal ?_;intro c76 h76
      try replace h76:=Ym h76 h16
      refine Qm ?_
      refine Wa U ?_ by6 by4
      simp_all;omega
     intro c77 h77
     refine Qc ?_
     obtain ⟨rfl,g77⟩|⟨rfl,g77⟩:=Za h77
     ·refine Qau ?_
      refine Qb ?_
      refine Zb 80 U U U (Zd (xs:=[.tmp 78,.tmp 79]) U U (HS n false by17 by17) by2 ?_)
      refine Qac ?_
      refine Yn U U U (Xu _) by4 ⟨?_,U⟩
      rw [rst_nil (s:=s) (i:=j) by17,valO] at hu
      rw [parL_some hu g77,sgn,W63_id _ (by first|(simp;done)|(simp;omega)) (by first|(simp;done)|(simp;omega))];rfl
     refine QaZ ?_
     refine Yn U U U (Xu _) by4 ⟨?_,U⟩
     rw [rst_nil (s:=s) (i:=j) by17,valO,g77] at hu
     rw [parL_half hu];rfl
    refine Qk ?_
    obtain ⟨b,hb,hr,_⟩:=Xh (s:=s) (i:=j) by17
    have hbd:=hd j b hb
    rw [hr,valO] at hu
    have hw:IntKind.u64.wrap (IntKind.u64.wrap (10 * (n:Int))+IntKind.u64.wrap (IntKind.u8.wrap ((b.toNat:Int) - 48)))=(((10 * n+(b.toNat - 48)) % 18446744073709551616:Nat):Int):=by
     rw [u64w,u64w,u64w,u8w];omega
    refine Qh ?_
    refine Zb 63 U U U (op_mul U U U U ?_)
    refine Qai ?_
    refine QdY ?_
    refine Zb 67 U U U (op_sub U U U U (Zb 68 U U U (op_convert U tu_5 tu_255 U U (Zb 69 U U U (op_add U U U U ?_)))))
    refine QK ?_
    refine Qbo ?_;intro c71 h71
    refine Qa ?_
    obtain ⟨rfl,g71⟩|⟨rfl,g71⟩:=Za h71
    ·refine QL ?_
     rw [hw] at g71
     rw [if_neg by17] at hu
     exact ⟨(j+1,(10 * n+(b.toNat - 48)) % 18446744073709551616),⟨by omega,by omega,hu⟩,by simp;omega,Xy U (Le.inteq hw) by5,by4⟩
    refine QaZ ?_
    refine Yn U U U (Xu _) by4 ⟨?_,U⟩
    rw [hw] at g71
    rw [if_pos by17] at hu
    rw [parL_none hu];rfl
   refine Qk ?_
   obtain ⟨b,hb,_,_⟩:=Xh (s:=s) (i:=i) by17
   have hbd:=hd i b hb
   refine Zw 54 (False) ?_ _ _ U ?_
   ·skip
    refine Qai ?_
    refine QdY ?_
    refine Qg ?_;intro c48 h48
    refine Qb ?_
    obtain ⟨rfl,g48⟩|⟨rfl,g48⟩:=Za h48
    ·skip
     refine QaM ?_
     refine Zo 52 U U U U U (Yv U tu_9 U U U (hb) ?_)
     refine Qcp ?_;intro c53 h53
     refine Qm ?_
     refine Wa U ?_ by6 by4
     simp_all;omega
    skip
    refine QaX ?_
    refine Wa U ?_ by6 by4
    simp_all;omega
   intro c54 h54
   refine Qc ?_
   obtain ⟨rfl,g54⟩|⟨rfl,g54⟩:=Za h54
   ·refine QL ?_
    exact ⟨i+1,(by show i+1≤s.size;omega),by simp;omega,by5,by4⟩
   exact g54.elim
  exact g37.elim
 exact g4.elim
theorem Yg {P:Program} {fn:Func} {R:AV→Mem→Prop} {al:Sl} {M M':Mem} {t1 t2 t T b s i:Nat} {cs:List AV} {v v2 v':AV} (hr:fn.results=#[.cell t T,.tmp t1,.tmp t2]) (h1:al.lookup t1=some v) (h2:al.lookup t2=some v2) (hv:al.lookup t=some (.ptr b 0)) (hm0:M[i]?=some (.loc b cs)) (ht:tyAgg P T=some (some s)) (hs:cs.length=s) (hl:Le (.tup [.agg cs,v,v2]) v') (hm:MLe M M') (h:R v' M'):Out P fn R .ret al M :=
 ⟨[.agg cs,v,v2],v',M',by rw [hr];exact .cons ⟨b,0,i,cs,hv,hm0,.inl ⟨s,ht,by rw [List.drop_zero,← hs,List.take_length],by omega⟩⟩ (.cons h1 (.cons h2 .nil)),hl,hm,h⟩
def Tok.av (t:Tok):List AV:=[.val (.int .i64 t.k),.val (.string t.t),.val (.int .i64 t.n),.val (.int .i64 t.a)]
def oneR (o:Tok × Int × Int):AV:=.tup [.agg o.1.av,.val (.int .i64 o.2.1),.val (.int .i64 o.2.2)]
theorem one_text (s:ByteArray) (hs:s.size≤60000) (at_:Nat) (ha:at_<s.size) (b:UInt8) (hb:s[at_]?=some b) (hq:b.toNat=34):PCall Tryz.prog 159 [.val (.string s),.val (.int .i64 at_)] (oneR (oneL at_ (b.toNat::rst s (at_+1)))):=by
 have HT:=text_c s hs at_ ha
 have hO:oneL at_ (b.toNat::rst s (at_+1))=match txL (rst s (at_+1)) with
     | none=>(tok0 at_,0,103)
     | some x=>(⟨4,strN x.1,0,at_⟩,at_+1+x.2,0):=by (rw [oneL,if_pos hq]) <;>(cases txL (rst s (at_+1)) <;> rfl)
 rw [hO]
 cases hx:txL (rst s (at_+1)) with
 | none =>
  rw [hx] at HT
  simp only [txR] at HT
  refine Qep ?_
  refine Qe ?_
  refine QR ?_;intro b4
  refine QJ ?_
  refine Qbb ?_
  refine QdY ?_
  refine QK ?_
  refine Qeq ?_
  refine QR ?_;intro b8
  refine QcX ?_
  refine Qz ?_;intro c23 h23
  refine Qa ?_
  obtain ⟨rfl,g23⟩|⟨rfl,g23⟩:=Za h23
  ·omega
  refine Qb0 ?_
  refine Zb 27 U U U (Zd (xs:=[.tmp 25,.tmp 26]) U U (HT) by2 ?_)
  refine QcY ?_
  refine QcA ?_
  refine QcZ ?_;intro c32 h32
  try replace h32:=Ym h32 h30
  refine Qa ?_
  obtain ⟨rfl,g32⟩|⟨rfl,g32⟩:=Za h32
  ·simp_all
  refine Qq ?_
  refine QcJ ?_
  refine Qdg ?_
  refine Qac ?_
  first|exact Yg (i:=1) rfl rfl rfl rfl rfl Yi rfl (Xu _) by4 ⟨rfl,rfl⟩|exact Yg (i:=0) rfl rfl rfl rfl rfl Yi rfl (Xu _) by4 ⟨rfl,rfl⟩
 | some r =>
  rw [hx] at HT
  simp only [txR] at HT
  refine Qep ?_
  refine Qe ?_
  refine QR ?_;intro b4
  refine QJ ?_
  refine Qbb ?_
  refine QdY ?_
  refine QK ?_
  refine Qeq ?_
  refine QR ?_;intro b8
  refine QcX ?_
  refine Qz ?_;intro c23 h23
  refine Qa ?_
  obtain ⟨rfl,g23⟩|⟨rfl,g23⟩:=Za h23
  ·omega
  refine Qb0 ?_
  refine Zb 27 U U U (Zd (xs:=[.tmp 25,.tmp 26]) U U (HT) by2 ?_)
  refine QcY ?_
  refine QcA ?_
  refine QcZ ?_;intro c32 h32
  try replace h32:=Ym h32 h30
  refine Qa ?_
  obtain ⟨rfl,g32⟩|⟨rfl,g32⟩:=Za h32
  ·refine QV ?_
   refine Qt ?_
   refine QeI ?_
   refine QB ?_
   refine Qt ?_
   refine Qfi ?_
   refine Qc0 ?_
   first|exact Yg (i:=1) rfl rfl rfl rfl rfl Yi rfl (Xu _) by4 ⟨rfl,rfl⟩|exact Yg (i:=0) rfl rfl rfl rfl rfl Yi rfl (Xu _) by4 ⟨rfl,rfl⟩
  simp_all
def nameO (a:Int) (c k:Nat) (w:ByteArray):Tok × Int × Int:=if 40<k then (⟨0,w,0,a⟩,0,104) else (⟨kindT c w,w,0,a⟩,a+k,0)
theorem oneL_A {a:Int} {c:Nat} {r:List Nat} (h1:c≠34) (h2:¬ digitC c=true) (h3:smallC c=true∨greatC c=true):oneL a (c::r)=nameO a c (run 1 (c::r)) (strN ((c::r).take (run 1 (c::r)))):=by
 rw [oneL,if_neg h1,if_neg h2]
 simp only [if_pos h3]
 rw [if_neg (by rintro ⟨q,_⟩;exact q (h3.elim .inl fun x=>.inr (.inl x)))];rfl
theorem oneL_B {a:Int} {c:Nat} {r:List Nat} (h1:c≠34) (h2:¬ digitC c=true) (h3:¬ (smallC c=true∨greatC c=true)) (h4:signC c=true):oneL a (c::r)=nameO a c (run 3 (c::r)) (strN ((c::r).take (run 3 (c::r)))):=by
 rw [oneL,if_neg h1,if_neg h2]
 simp only [if_neg h3,if_pos h4]
 rw [if_neg (by rintro ⟨q,_⟩;exact q (.inr (.inr h4)))];rfl
theorem oneL_C {a:Int} {c:Nat} {r:List Nat} (h1:c≠34) (h2:¬ digitC c=true) (h3:¬ (smallC c=true∨greatC c=true)) (h4:¬ signC c=true):oneL a (c::r)=if markT (strN ((c::r).take 1))=false then (tok0 a,0,101) else nameO a c 1 (strN ((c::r).take 1)):=by
 rw [oneL,if_neg h1,if_neg h2]
 simp only [if_neg h3,if_neg h4]
 by_cases q:markT (strN ((c::r).take 1))=false
 ·rw [if_pos ⟨by rintro (x|x|x);exact h3 (.inl x);exact h3 (.inr x);exact h4 x,q⟩,if_pos q]
 rw [if_neg (fun x=>q x.2),if_neg q];rfl
theorem run_pos {k c:Nat} {l:List Nat} (h:kindC k c=true):1≤run k (c::l):=by rw [run,if_pos h];omega
theorem one_N (s:ByteArray) (hs:s.size≤60000) (at_:Nat) (ha:at_<s.size) (b:UInt8) (hb:s[at_]?=some b) (h1:b.toNat≠34) (h2:¬ digitC b.toNat=true):PCall Tryz.prog 159 [.val (.string s),.val (.int .i64 at_)] (oneR (oneL at_ (rst s at_))):=by
 obtain ⟨b',hb',hr,_⟩:=Xh ha
 obtain rfl:b'=b:=by rw [hb] at hb';cases hb';rfl
 have HE1:=end_c s hs at_ 1 by17 by17 by17
 have HE3:=end_c s hs at_ 3 by17 by17 by17
 have HD:=digit_c
 have HSm:=small_c
 have HG:=great_c
 have HS:=sign_c
 have HM:=Mark_c
 have HKy:=Key_c
 have hcut:=fun k=>rst_cut s at_ (at_+k)
 simp only [Nat.add_sub_cancel_left] at hcut
 have hA:(smallC b'.toNat=true∨greatC b'.toNat=true)→oneL at_ (rst s at_)=nameO at_ b'.toNat (run 1 (rst s at_)) (s.extract at_ (at_+run 1 (rst s at_)))∧1≤run 1 (rst s at_):=fun hc=>by rw [hcut,hr];exact ⟨oneL_A h1 h2 hc,run_pos (by show nameC _=true;unfold nameC;rcases hc with hc|hc <;> rw [hc] <;> simp)⟩
 have hB:¬ (smallC b'.toNat=true∨greatC b'.toNat=true)→signC b'.toNat=true→oneL at_ (rst s at_)=nameO at_ b'.toNat (run 3 (rst s at_)) (s.extract at_ (at_+run 3 (rst s at_)))∧1≤run 3 (rst s at_):=fun hc hd=>by rw [hcut,hr];exact ⟨oneL_B h1 h2 hc hd,run_pos hd⟩
 have hC:¬ (smallC b'.toNat=true∨greatC b'.toNat=true)→¬ signC b'.toNat=true→oneL at_ (rst s at_)=if markT (s.extract at_ (at_+1))=false then (tok0 at_,0,101) else nameO at_ b'.toNat 1 (s.extract at_ (at_+1)):=fun hc hd=>by rw [hcut,hr];exact oneL_C h1 h2 hc hd
 have hle1:=run_le 1 (rst s at_)
 have hle3:=run_le 3 (rst s at_)
 rw [rst_len] at hle1 hle3
 generalize oneL at_ (rst s at_)=O at *
 generalize run 1 (rst s at_)=k1 at *
 generalize run 3 (rst s at_)=k3 at *
 refine Qep ?_
 refine Qe ?_
 refine QR ?_;intro b4
 refine QJ ?_
 refine Qbb ?_
 refine Qfj ?_
 refine QK ?_
 refine Qeq ?_
 refine QR ?_;intro b8
 refine QcX ?_
 refine Qz ?_;intro c23 h23
 refine Qa ?_
 obtain ⟨rfl,g23⟩|⟨rfl,g23⟩:=Za h23
 ·refine QaP ?_
  refine Zb 40 U U U (Zg (xs:=[.tmp 39]) U U (HD _) by2 ?_);intro c40 h40
  refine Qa ?_
  obtain ⟨rfl,g40⟩|⟨rfl,g40⟩:=Za h40
  ·refine Qau ?_
   refine Qa6 ?_
   refine Q1 ?_
   refine Zw 85 (smallC b'.toNat=true∨greatC b'.toNat=true) ?_ _ _ U ?_
   ·skip
    refine Qb ?_
    refine Zb 81 U U U (Zg (xs:=[.tmp 80]) U U (HSm _) by2 ?_);intro c81 h81
    refine Qb ?_
    obtain ⟨rfl,g81⟩|⟨rfl,g81⟩:=Za h81
    ·skip
     refine Qf ?_
     refine Zo 84 U U U U U (Zg (xs:=[.tmp 83]) U U (HG _) by2 ?_);intro c84 h84
     refine Qm ?_
     refine Wa U ?_ by6 by4
     simp_all;done
    skip
    refine Qcx ?_
    refine Wa U ?_ by6 by4
    simp_all;done
   intro c85 h85
   refine Qc ?_
   apply c_joinkm (rg [(2,2),(5,2),(9,92)]) (σ:=Nat) (fun zz=>match zz with|k=>[(16,.val (.int .i64 (at_+k)))]) (fun zz=>match zz with|k=>1≤k∧at_+k≤s.size∧O=nameO at_ b'.toNat k (s.extract at_ (at_+k)))
   ·repeat' (first|exact Wf|apply Wd rfl|apply We rfl)
   ·skip
    obtain ⟨rfl,g85⟩|⟨rfl,g85⟩:=Za h85
    ·refine QX ?_
     refine Q0 ?_
     refine Zb 90 U U U (Zg (xs:=[.tmp 89]) U U (HS _) by2 ?_);intro c90 h90
     refine Qa ?_
     obtain ⟨rfl,g90⟩|⟨rfl,g90⟩:=Za h90
     ·refine QX ?_
      refine Q0 ?_
      refine Qai ?_
      refine Zb 97 rfl rfl rfl (op_substr rfl tu_9 rfl rfl rfl (i:=at_) (j:=at_+1) rfl by17 by17 by17 ?_)
      refine Zb 98 U U U (Zg (xs:=[.tmp 97]) U U (HM _) by2 ?_);intro c98 h98
      refine Q5 ?_;intro c99 h99
      try replace h99:=Ym h99 h98
      refine Qa ?_
      obtain ⟨rfl,g99⟩|⟨rfl,g99⟩:=Za h99
      ·refine QbL ?_
       first|exact ⟨k1,⟨(hA g85).2,by omega,(hA g85).1⟩,by5,by4⟩|exact ⟨k3,⟨(hB g85 g90).2,by omega,(hB g85 g90).1⟩,by5,by4⟩|exact ⟨1,⟨by omega,by omega,by rw [hC g85 g90,if_neg (by simpa using g99)]⟩,by5,by4⟩
      refine Qq ?_
      refine QcJ ?_
      refine Qdg ?_
      refine QJ ?_
      refine Qj ?_
      refine c_retj ?_
      first|refine Yg (i:=1) U U U U U Yi U (Xu _) by4 ⟨?_,U⟩|refine Yg (i:=0) U U U U U Yi U (Xu _) by4 ⟨?_,U⟩
      rw [hC g85 g90,if_pos (by simpa using g99)];rfl
     refine Q4 ?_
     refine Q8 ?_
     refine Zb 93 U U U (Zd (xs:=[.tmp 91,.tmp 92,.const (.int .i64 3)]) U U (HE3) by2 ?_)
     refine QbE ?_
     first|exact ⟨k1,⟨(hA g85).2,by omega,(hA g85).1⟩,by5,by4⟩|exact ⟨k3,⟨(hB g85 g90).2,by omega,(hB g85 g90).1⟩,by5,by4⟩|exact ⟨1,⟨by omega,by omega,by rw [hC g85 g90,if_neg (by simpa using g99)]⟩,by5,by4⟩
    refine Q4 ?_
    refine Q8 ?_
    refine Zb 88 U U U (Zd (xs:=[.tmp 86,.tmp 87,.const (.int .i64 1)]) U U (HE1) by2 ?_)
    refine QbE ?_
    first|exact ⟨k1,⟨(hA g85).2,by omega,(hA g85).1⟩,by5,by4⟩|exact ⟨k3,⟨(hB g85 g90).2,by omega,(hB g85 g90).1⟩,by5,by4⟩|exact ⟨1,⟨by omega,by omega,by rw [hC g85 g90,if_neg (by simpa using g99)]⟩,by5,by4⟩
   rintro k hI
   try dsimp only [List.cons_append,List.nil_append] at hI ⊢
   obtain ⟨hk1,hk2,hO⟩:=hI
   have hsz:(s.extract at_ (at_+k)).size=k:=by simp [ByteArray.size_extract];omega
   generalize hw:s.extract at_ (at_+k)=w at *
   refine Qc ?_
   refine Q0 ?_
   refine Qai ?_
   refine Zb 104 rfl rfl rfl (op_substr rfl tu_9 rfl rfl rfl (i:=at_) (j:=at_+k) rfl rfl by17 by17 ?_)
   refine Qt ?_
   refine Qfi ?_
   refine Qdr ?_
   rw [hw]
   refine Qi ?_
   refine Qn ?_
   refine Qco ?_
   refine Qbo ?_;intro c109 h109
   refine Qa ?_
   obtain ⟨rfl,g109⟩|⟨rfl,g109⟩:=Za h109
   ·refine QV ?_
    refine Qt ?_
    refine QeI ?_
    refine QaB ?_
    refine Zb 113 U U U (Zg (xs:=[.tmp 112]) U U (HG _) by2 ?_);intro c113 h113
    refine Qa ?_
    obtain ⟨rfl,g113⟩|⟨rfl,g113⟩:=Za h113
    ·refine QaP ?_
     refine Zb 116 U U U (Zg (xs:=[.tmp 115]) U U (HS _) by2 ?_);intro c116 h116
     refine Qa ?_
     obtain ⟨rfl,g116⟩|⟨rfl,g116⟩:=Za h116
     ·refine QaC ?_
      refine Qn ?_
      refine Zb 120 U U U (Zg (xs:=[.tmp 119]) U U (HKy _) by2 ?_);intro c120 h120
      refine Qa ?_
      obtain ⟨rfl,g120⟩|⟨rfl,g120⟩:=Za h120
      ·refine QaC ?_
       refine Qn ?_
       refine Zb 124 U U U (Zg (xs:=[.tmp 123]) U U (HM _) by2 ?_);intro c124 h124
       refine Qa ?_
       obtain ⟨rfl,g124⟩|⟨rfl,g124⟩:=Za h124
       ·refine QV ?_
        refine Qdn ?_
        first|refine Yg (i:=1) U U U U U Yi U (Xu _) by4 ⟨?_,U⟩|refine Yg (i:=0) U U U U U Yi U (Xu _) by4 ⟨?_,U⟩
        rw [hO,nameO,if_neg by12]
        simp [oneR,Tok.av,kindT,g113,g116,g120,g124];done
       refine Qbt ?_
       refine Qc0 ?_
       first|refine Yg (i:=1) U U U U U Yi U (Xu _) by4 ⟨?_,U⟩|refine Yg (i:=0) U U U U U Yi U (Xu _) by4 ⟨?_,U⟩
       rw [hO,nameO,if_neg by12]
       simp [oneR,Tok.av,kindT,g124];done
      refine Qbt ?_
      refine Qc1 ?_
      refine Zb 124 U U U (Zg (xs:=[.tmp 123]) U U (HM _) by2 ?_);intro c124 h124
      refine Qa ?_
      obtain ⟨rfl,g124⟩|⟨rfl,g124⟩:=Za h124
      ·refine QV ?_
       refine Qdn ?_
       first|refine Yg (i:=1) U U U U U Yi U (Xu _) by4 ⟨?_,U⟩|refine Yg (i:=0) U U U U U Yi U (Xu _) by4 ⟨?_,U⟩
       rw [hO,nameO,if_neg by12]
       simp [oneR,Tok.av,kindT,g120,g124];done
      refine Qbt ?_
      refine Qc0 ?_
      first|refine Yg (i:=1) U U U U U Yi U (Xu _) by4 ⟨?_,U⟩|refine Yg (i:=0) U U U U U Yi U (Xu _) by4 ⟨?_,U⟩
      rw [hO,nameO,if_neg by12]
      simp [oneR,Tok.av,kindT,g124];done
     refine Qbt ?_
     refine Qc1 ?_
     refine Zb 120 U U U (Zg (xs:=[.tmp 119]) U U (HKy _) by2 ?_);intro c120 h120
     refine Qa ?_
     obtain ⟨rfl,g120⟩|⟨rfl,g120⟩:=Za h120
     ·refine QaC ?_
      refine Qn ?_
      refine Zb 124 U U U (Zg (xs:=[.tmp 123]) U U (HM _) by2 ?_);intro c124 h124
      refine Qa ?_
      obtain ⟨rfl,g124⟩|⟨rfl,g124⟩:=Za h124
      ·refine QV ?_
       refine Qdn ?_
       first|refine Yg (i:=1) U U U U U Yi U (Xu _) by4 ⟨?_,U⟩|refine Yg (i:=0) U U U U U Yi U (Xu _) by4 ⟨?_,U⟩
       rw [hO,nameO,if_neg by12]
       simp [oneR,Tok.av,kindT,g116,g120,g124];done
      refine Qbt ?_
      refine Qc0 ?_
      first|refine Yg (i:=1) U U U U U Yi U (Xu _) by4 ⟨?_,U⟩|refine Yg (i:=0) U U U U U Yi U (Xu _) by4 ⟨?_,U⟩
      rw [hO,nameO,if_neg by12]
      simp [oneR,Tok.av,kindT,g124];done
     refine Qbt ?_
     refine Qc1 ?_
     refine Zb 124 U U U (Zg (xs:=[.tmp 123]) U U (HM _) by2 ?_);intro c124 h124
     refine Qa ?_
     obtain ⟨rfl,g124⟩|⟨rfl,g124⟩:=Za h124
     ·refine QV ?_
      refine Qdn ?_
      first|refine Yg (i:=1) U U U U U Yi U (Xu _) by4 ⟨?_,U⟩|refine Yg (i:=0) U U U U U Yi U (Xu _) by4 ⟨?_,U⟩
      rw [hO,nameO,if_neg by12]
      simp [oneR,Tok.av,kindT,g120,g124];done
     refine Qbt ?_
     refine Qc0 ?_
     first|refine Yg (i:=1) U U U U U Yi U (Xu _) by4 ⟨?_,U⟩|refine Yg (i:=0) U U U U U Yi U (Xu _) by4 ⟨?_,U⟩
     rw [hO,nameO,if_neg by12]
     simp [oneR,Tok.av,kindT,g124];done
    refine Qbt ?_
    refine QaB ?_
    refine Zb 116 U U U (Zg (xs:=[.tmp 115]) U U (HS _) by2 ?_);intro c116 h116
    refine Qa ?_
    obtain ⟨rfl,g116⟩|⟨rfl,g116⟩:=Za h116
    ·refine QaC ?_
     refine Qn ?_
     refine Zb 120 U U U (Zg (xs:=[.tmp 119]) U U (HKy _) by2 ?_);intro c120 h120
     refine Qa ?_
     obtain ⟨rfl,g120⟩|⟨rfl,g120⟩:=Za h120
     ·refine QaC ?_
      refine Qn ?_
      refine Zb 124 U U U (Zg (xs:=[.tmp 123]) U U (HM _) by2 ?_);intro c124 h124
      refine Qa ?_
      obtain ⟨rfl,g124⟩|⟨rfl,g124⟩:=Za h124
      ·refine QV ?_
       refine Qdn ?_
       first|refine Yg (i:=1) U U U U U Yi U (Xu _) by4 ⟨?_,U⟩|refine Yg (i:=0) U U U U U Yi U (Xu _) by4 ⟨?_,U⟩
       rw [hO,nameO,if_neg by12]
       simp [oneR,Tok.av,kindT,g113,g116,g120,g124];done
      refine Qbt ?_
      refine Qc0 ?_
      first|refine Yg (i:=1) U U U U U Yi U (Xu _) by4 ⟨?_,U⟩|refine Yg (i:=0) U U U U U Yi U (Xu _) by4 ⟨?_,U⟩
      rw [hO,nameO,if_neg by12]
      simp [oneR,Tok.av,kindT,g124];done
     refine Qbt ?_
     refine Qc1 ?_
     refine Zb 124 U U U (Zg (xs:=[.tmp 123]) U U (HM _) by2 ?_);intro c124 h124
     refine Qa ?_
     obtain ⟨rfl,g124⟩|⟨rfl,g124⟩:=Za h124
     ·refine QV ?_
      refine Qdn ?_
      first|refine Yg (i:=1) U U U U U Yi U (Xu _) by4 ⟨?_,U⟩|refine Yg (i:=0) U U U U U Yi U (Xu _) by4 ⟨?_,U⟩
      rw [hO,nameO,if_neg by12]
      simp [oneR,Tok.av,kindT,g120,g124];done
     refine Qbt ?_
     refine Qc0 ?_
     first|refine Yg (i:=1) U U U U U Yi U (Xu _) by4 ⟨?_,U⟩|refine Yg (i:=0) U U U U U Yi U (Xu _) by4 ⟨?_,U⟩
     rw [hO,nameO,if_neg by12]
     simp [oneR,Tok.av,kindT,g124];done
    refine Qbt ?_
    refine Qc1 ?_
    refine Zb 120 U U U (Zg (xs:=[.tmp 119]) U U (HKy _) by2 ?_);intro c120 h120
    refine Qa ?_
    obtain ⟨rfl,g120⟩|⟨rfl,g120⟩:=Za h120
    ·refine QaC ?_
     refine Qn ?_
     refine Zb 124 U U U (Zg (xs:=[.tmp 123]) U U (HM _) by2 ?_);intro c124 h124
     refine Qa ?_
     obtain ⟨rfl,g124⟩|⟨rfl,g124⟩:=Za h124
     ·refine QV ?_
      refine Qdn ?_
      first|refine Yg (i:=1) U U U U U Yi U (Xu _) by4 ⟨?_,U⟩|refine Yg (i:=0) U U U U U Yi U (Xu _) by4 ⟨?_,U⟩
      rw [hO,nameO,if_neg by12]
      simp [oneR,Tok.av,kindT,g116,g120,g124];done
     refine Qbt ?_
     refine Qc0 ?_
     first|refine Yg (i:=1) U U U U U Yi U (Xu _) by4 ⟨?_,U⟩|refine Yg (i:=0) U U U U U Yi U (Xu _) by4 ⟨?_,U⟩
     rw [hO,nameO,if_neg by12]
     simp [oneR,Tok.av,kindT,g124];done
    refine Qbt ?_
    refine Qc1 ?_
    refine Zb 124 U U U (Zg (xs:=[.tmp 123]) U U (HM _) by2 ?_);intro c124 h124
    refine Qa ?_
    obtain ⟨rfl,g124⟩|⟨rfl,g124⟩:=Za h124
    ·refine QV ?_
     refine Qdn ?_
     first|refine Yg (i:=1) U U U U U Yi U (Xu _) by4 ⟨?_,U⟩|refine Yg (i:=0) U U U U U Yi U (Xu _) by4 ⟨?_,U⟩
     rw [hO,nameO,if_neg by12]
     simp [oneR,Tok.av,kindT,g120,g124];done
    refine Qbt ?_
    refine Qc0 ?_
    first|refine Yg (i:=1) U U U U U Yi U (Xu _) by4 ⟨?_,U⟩|refine Yg (i:=0) U U U U U Yi U (Xu _) by4 ⟨?_,U⟩
    rw [hO,nameO,if_neg by12]
    simp [oneR,Tok.av,kindT,g124];done
   refine Qq ?_
   refine QcJ ?_
   refine Qdg ?_
   refine Qac ?_
   first|refine Yg (i:=1) U U U U U Yi U (Xu _) by4 ⟨?_,U⟩|refine Yg (i:=0) U U U U U Yi U (Xu _) by4 ⟨?_,U⟩
   rw [hO,nameO,if_pos by12];rfl
  exact absurd g40 h2
 omega
def mid (s:ByteArray) (f n:Nat):List Nat:=(rst s f).take (n - f)
theorem mid_cons {s:ByteArray} {f n:Nat} {b:Nat} (hf:f<n) (hr:rst s f=b::rst s (f+1)):mid s f n=b::mid s (f+1) n:=by
 unfold mid;rw [hr,show n - f=(n - (f+1))+1 by omega,List.take_succ_cons]
theorem mid_len (s:ByteArray) (f n:Nat) (h:n≤s.size):(mid s f n).length=n - f:=by unfold mid;rw [List.length_take,rst_len];omega
theorem mid_drop (s:ByteArray) (f n z:Nat):(mid s f n).drop z=mid s (f+z) n:=by
 unfold mid;rw [List.drop_take,rst_drop,show n - f - z=n - (f+z) by omega]
theorem run_all (k:Nat):∀ l:List Nat,∀ x∈l.take (run k l),kindC k x=true
 | [],x,hx=>by simp at hx
 | c::l,x,hx=>by
  unfold run at hx
  by_cases q:kindC k c=true
  ·rw [if_pos q,List.take_succ_cons] at hx
   rcases List.mem_cons.1 hx with rfl|hx
   ·exact q
   exact run_all k l x hx
  rw [if_neg q] at hx;simp at hx
theorem zeros_48 {l:List Nat} (h:l≠[]):zeros (48::l)=zeros l+1:=by rw [zeros,if_pos ⟨rfl,h⟩]
theorem zeros_no {c:Nat} {l:List Nat} (h:¬ (c=48∧l≠[])):zeros (c::l)=0:=by rw [zeros,if_neg h]
theorem bytes_ext (s:ByteArray) (f n:Nat):rst (s.extract f n) 0=mid s f n:=by
 unfold rst
 rw [List.drop_zero,rst_cut s f n,bytesN_strN _ (fun x hx=>rst_lt s f x (List.mem_of_mem_take hx))];rfl
theorem parse_mid (s:ByteArray) (hs:s.size≤60000) (f n:Nat) (hn:n≤s.size) (hf:f<n) (hd:∀ x∈mid s f n,48≤x∧x≤57) (hz:∀ l,mid s f n=48::l→l=[]):PCall Tryz.prog 192 [.val (.string (s.extract f n))] (parR (parL (mid s f n))):=by
 have hsz:(s.extract f n).size=n - f:=by simp [ByteArray.size_extract];omega
 have hb:=bytes_ext s f n
 have hmem:∀ (i:Nat) (b:UInt8),(s.extract f n)[i]?=some b→i<(s.extract f n).size∧b.toNat∈mid s f n∧(i=0→∃ l,mid s f n=b.toNat::l∧l.length+1=n - f):=by
  intro i b h
  have hi:i<(s.extract f n).size:=by
   rcases Nat.lt_or_ge i (s.extract f n).size with q|q
   ·exact q
   rw [getElem?_neg (s.extract f n) i (Nat.not_lt.2 q)] at h;cases h
  obtain ⟨b',h1,h2,_⟩:=Xh hi
  rw [h] at h1;cases h1
  refine ⟨hi,?_,?_⟩
  ·have:b.toNat∈rst (s.extract f n) i:=by rw [h2];exact List.mem_cons_self
   rw [← hb];unfold rst;rw [List.drop_zero];exact List.mem_of_mem_drop this
  rintro rfl
  rw [hb] at h2
  refine ⟨_,h2,?_⟩
  have:=mid_len s f n hn
  rw [h2] at this
  simpa using this
 have H:=rParse_c (s.extract f n) by17 by17 (fun i b h=>hd _ (hmem i b h).2.1) (fun b h h48=>by
  obtain ⟨l,hl,hle⟩:=(hmem 0 b h).2.2 rfl
  rw [h48] at hl
  rw [hz l hl] at hle
  simp at hle;omega)
 rw [hb] at H
 exact H
def digO (a:Int) (k:Nat) (z:List Nat):Tok × Int × Int:=match parL z with
 | none=>(tok0 a,0,102)
 | some v=>(⟨3,strN z,v,a⟩,a+k,0)
theorem oneL_D {a:Int} {c:Nat} {r:List Nat} (h1:c≠34) (h2:digitC c=true):oneL a (c::r)=digO a (run 2 (c::r)) (((c::r).take (run 2 (c::r))).drop (zeros ((c::r).take (run 2 (c::r))))):=by
 rw [oneL,if_neg h1,if_pos h2]
 dsimp only [digO]
 cases parL (((c::r).take (run 2 (c::r))).drop (zeros ((c::r).take (run 2 (c::r))))) <;> rfl
theorem zeros_lt:∀ l:List Nat,l≠[]→zeros l<l.length
 | [],h=>absurd rfl h
 | c::l,_=>by
  unfold zeros
  by_cases q:c=48∧l≠[]
  ·rw [if_pos q];have:=zeros_lt l q.2;simp;omega
  rw [if_neg q];simp
theorem zeros_head:∀ l m:List Nat,l.drop (zeros l)=48::m→m=[]
 | [],m,h=>by simp at h
 | c::l,m,h=>by
  unfold zeros at h
  by_cases q:c=48∧l≠[]
  ·rw [if_pos q] at h;exact zeros_head l m (by simpa using h)
  rw [if_neg q] at h
  simp at h
  obtain ⟨rfl,rfl⟩:=h
  exact Classical.byContradiction fun e=>q ⟨U,e⟩
theorem one_digit (s:ByteArray) (hs:s.size≤60000) (at_:Nat) (ha:at_<s.size) (b:UInt8) (hb:s[at_]?=some b) (h2:digitC b.toNat=true):PCall Tryz.prog 159 [.val (.string s),.val (.int .i64 at_)] (oneR (oneL at_ (rst s at_))):=by
 obtain ⟨b',hb',hr,_⟩:=Xh ha
 obtain rfl:b'=b:=by rw [hb] at hb';cases hb';rfl
 have h1:b'.toNat≠34:=by have:=(digitC_iff _).1 h2;omega
 have HE:=end_c s hs at_ 2 by17 by17 by17
 have HD:=digit_c
 have hle:=run_le 2 (rst s at_)
 rw [rst_len] at hle
 have hk1:1≤run 2 (rst s at_):=by rw [hr];exact run_pos h2
 have hall:=run_all 2 (rst s at_)
 have hD:=oneL_D (a:=at_) (r:=rst s (at_+1)) h1 h2
 rw [← hr] at hD
 obtain ⟨n,hn⟩:∃ n,n=at_+run 2 (rst s at_):=⟨_,rfl⟩
 have hm:(rst s at_).take (run 2 (rst s at_))=mid s at_ n:=by unfold mid;rw [hn,show at_+run 2 (rst s at_) - at_=run 2 (rst s at_) by omega]
 have hns:n≤s.size:=by omega
 have hml:=mid_len s at_ n hns
 have hzl:=zeros_lt (mid s at_ n) (fun e=>by rw [e] at hml;simp at hml;omega)
 rw [hm] at hall
 rw [hm,mid_drop] at hD
 have hzh:=zeros_head (mid s at_ n)
 rw [mid_drop] at hzh
 have hk:((run 2 (rst s at_):Nat):Int)=n - at_:=by omega
 rw [← hn] at HE
 obtain ⟨F,hFF⟩:∃ F,at_+zeros (mid s at_ n)=F:=⟨_,rfl⟩
 rw [hFF] at hzh hD
 have hFn:F<n:=by omega
 have HP:=parse_mid s hs F n hns hFn (fun x hx=>by
  have hx2:x∈mid s at_ n:=by
   rw [show mid s F n=(mid s at_ n).drop (zeros (mid s at_ n)) by rw [mid_drop,hFF]] at hx
   exact List.mem_of_mem_drop hx
  have:=hall x hx2
  exact (digitC_iff x).1 this) hzh
 have hO:oneL at_ (rst s at_)=match parL (mid s F n) with
     | none=>(tok0 at_,0,102)
     | some v=>(⟨3,s.extract F n,v,at_⟩,n,0):=by
  rw [hD,digO,show strN (mid s F n)=s.extract F n from (rst_cut s F n).symm]
  cases parL (mid s F n) with
  | none=>rfl
  | some v=>simp only [];congr 2;omega
 clear hD hall hm hk hle hk1
 cases hp:parL (mid s F n) with
 | none =>
  rw [hp] at HP hO
  simp only [parR] at HP hO
  refine Qep ?_
  refine Qe ?_
  refine QR ?_;intro b4
  refine QJ ?_
  refine Qbb ?_
  refine Qfj ?_
  refine QK ?_
  refine Qeq ?_
  refine QR ?_;intro b8
  refine QcX ?_
  refine Qz ?_;intro c23 h23
  refine Qa ?_
  obtain ⟨rfl,g23⟩|⟨rfl,g23⟩:=Za h23
  ·refine QaP ?_
   refine Zb 40 U U U (Zg (xs:=[.tmp 39]) U U (HD _) by2 ?_);intro c40 h40
   refine Qa ?_
   obtain ⟨rfl,g40⟩|⟨rfl,g40⟩:=Za h40
   ·exact absurd h2 g40
   refine Qb0 ?_
   refine Zb 43 U U U (Zd (xs:=[.tmp 41,.tmp 42,.const (.int .i64 2)]) U U (HE) by2 ?_)
   refine QK ?_
   refine Qcc ?_
   apply Zu (rg [(2,2),(9,3),(13,1),(17,40)]) (σ:=Nat) (fun zz=>match zz with|f=>[(13,.val (.int .i64 f))]) (fun zz=>match zz with|f=>at_≤f∧f+1≤n∧zeros (mid s at_ n)=f - at_+zeros (mid s f n)) (fun zz=>match zz with|f=>n - f) (at_)
   ·repeat' (first|exact Wf|apply Wd rfl|apply We rfl)
   ·exact ⟨Nat.le_refl _,by omega,by simp⟩
   ·exact by5
   rintro f hI
   try dsimp only [List.cons_append,List.nil_append] at hI ⊢
   obtain ⟨hf1,hf2,hz⟩:=hI
   refine QaJ ?_
   obtain ⟨d,hd,hrd,hdl⟩:=Xh (s:=s) (i:=f) by17
   have hmc:=mid_cons (n:=n) by17 hrd
   refine Zw 54 (f+1<n∧d.toNat=48) ?_ _ _ U ?_
   ·skip
    refine Qai ?_
    refine Qay ?_
    refine Qg ?_;intro c48 h48
    refine Qb ?_
    obtain ⟨rfl,g48⟩|⟨rfl,g48⟩:=Za h48
    ·skip
     refine QaX ?_
     refine Wa U ?_ by6 by4
     clear HE HD HP hz;first|(simp_all;done)|(simp_all;omega)|grind
    skip
    refine QaM ?_
    refine Zo 52 U U U U U (Yv U tu_9 U U U (hd) ?_)
    refine Qak ?_;intro c53 h53
    refine Qm ?_
    refine Wa U ?_ by6 by4
    clear HE HD HP hz;first|(simp_all;done)|(simp_all;omega)|grind
   intro c54 h54
   refine Qc ?_
   obtain ⟨rfl,g54⟩|⟨rfl,g54⟩:=Za h54
   ·refine Qag ?_
    have hzz:zeros (mid s f n)=0:=by
     rw [hmc]
     refine zeros_no fun q=>g54 ⟨?_,q.1⟩
     rcases Nat.lt_or_ge (f+1) n with q2|q2
     ·exact q2
     exact absurd (by have:=mid_len s (f+1) n hns;exact List.eq_nil_of_length_eq_zero by17) q.2
    have hF:F=f:=by rw [← hFF,hz,hzz];omega
    subst hF
    refine QaO ?_
    refine Qfk ?_
    refine Zb 62 U U U (Zd (xs:=[.tmp 61]) U U (HP) by2 ?_)
    refine Qa0 ?_
    refine QU ?_
    refine QP ?_;intro c66 h66
    refine Qa ?_
    obtain ⟨rfl,g66⟩|⟨rfl,g66⟩:=Za h66
    ·omega
    refine Qq ?_
    refine QcJ ?_
    refine Qdg ?_
    refine Qac ?_
    first|refine Yg (i:=1) U U U U U Yi U (Xu _) by4 ⟨?_,U⟩|refine Yg (i:=0) U U U U U Yi U (Xu _) by4 ⟨?_,U⟩
    rw [hO];rfl
   refine Qbk ?_
   refine QcR ?_
   refine Qbl ?_
   have hne:mid s (f+1) n≠[]:=fun e=>by
    have:=mid_len s (f+1) n hns
    rw [e] at this;simp at this;omega
   rw [hmc,g54.2,zeros_48 hne] at hz
   exact ⟨f+1,⟨by omega,by omega,by omega⟩,by simp;omega,by5,by4⟩
  omega
 | some v =>
  rw [hp] at HP hO
  simp only [parR] at HP hO
  refine Qep ?_
  refine Qe ?_
  refine QR ?_;intro b4
  refine QJ ?_
  refine Qbb ?_
  refine Qfj ?_
  refine QK ?_
  refine Qeq ?_
  refine QR ?_;intro b8
  refine QcX ?_
  refine Qz ?_;intro c23 h23
  refine Qa ?_
  obtain ⟨rfl,g23⟩|⟨rfl,g23⟩:=Za h23
  ·refine QaP ?_
   refine Zb 40 U U U (Zg (xs:=[.tmp 39]) U U (HD _) by2 ?_);intro c40 h40
   refine Qa ?_
   obtain ⟨rfl,g40⟩|⟨rfl,g40⟩:=Za h40
   ·exact absurd h2 g40
   refine Qb0 ?_
   refine Zb 43 U U U (Zd (xs:=[.tmp 41,.tmp 42,.const (.int .i64 2)]) U U (HE) by2 ?_)
   refine QK ?_
   refine Qcc ?_
   apply Zu (rg [(2,2),(9,3),(13,1),(17,40)]) (σ:=Nat) (fun zz=>match zz with|f=>[(13,.val (.int .i64 f))]) (fun zz=>match zz with|f=>at_≤f∧f+1≤n∧zeros (mid s at_ n)=f - at_+zeros (mid s f n)) (fun zz=>match zz with|f=>n - f) (at_)
   ·repeat' (first|exact Wf|apply Wd rfl|apply We rfl)
   ·exact ⟨Nat.le_refl _,by omega,by simp⟩
   ·exact by5
   rintro f hI
   try dsimp only [List.cons_append,List.nil_append] at hI ⊢
   obtain ⟨hf1,hf2,hz⟩:=hI
   refine QaJ ?_
   obtain ⟨d,hd,hrd,hdl⟩:=Xh (s:=s) (i:=f) by17
   have hmc:=mid_cons (n:=n) by17 hrd
   refine Zw 54 (f+1<n∧d.toNat=48) ?_ _ _ U ?_
   ·skip
    refine Qai ?_
    refine Qay ?_
    refine Qg ?_;intro c48 h48
    refine Qb ?_
    obtain ⟨rfl,g48⟩|⟨rfl,g48⟩:=Za h48
    ·skip
     refine QaX ?_
     refine Wa U ?_ by6 by4
     clear HE HD HP hz;first|(simp_all;done)|(simp_all;omega)|grind
    skip
    refine QaM ?_
    refine Zo 52 U U U U U (Yv U tu_9 U U U (hd) ?_)
    refine Qak ?_;intro c53 h53
    refine Qm ?_
    refine Wa U ?_ by6 by4
    clear HE HD HP hz;first|(simp_all;done)|(simp_all;omega)|grind
   intro c54 h54
   refine Qc ?_
   obtain ⟨rfl,g54⟩|⟨rfl,g54⟩:=Za h54
   ·refine Qag ?_
    have hzz:zeros (mid s f n)=0:=by
     rw [hmc]
     refine zeros_no fun q=>g54 ⟨?_,q.1⟩
     rcases Nat.lt_or_ge (f+1) n with q2|q2
     ·exact q2
     exact absurd (by have:=mid_len s (f+1) n hns;exact List.eq_nil_of_length_eq_zero by17) q.2
    have hF:F=f:=by rw [← hFF,hz,hzz];omega
    subst hF
    refine QaO ?_
    refine Qfk ?_
    refine Zb 62 U U U (Zd (xs:=[.tmp 61]) U U (HP) by2 ?_)
    refine Qa0 ?_
    refine QU ?_
    refine QP ?_;intro c66 h66
    refine Qa ?_
    obtain ⟨rfl,g66⟩|⟨rfl,g66⟩:=Za h66
    ·refine QV ?_
     refine Qt ?_
     refine QeI ?_
     refine QB ?_
     refine Qt ?_
     refine Zr U U (Zp (cs':=[_,_,_,_]) (i:=0) U ts_2 U U U U U (Wc U) U ?_)
     refine QB ?_
     refine Qai ?_
     refine Qfk ?_
     refine Qt ?_
     refine Qfi ?_
     refine Qc0 ?_
     first|refine Yg (i:=1) U U U U U Yi U (Xu _) by4 ⟨?_,U⟩|refine Yg (i:=0) U U U U U Yi U (Xu _) by4 ⟨?_,U⟩
     rw [hO];rfl
    omega
   refine Qbk ?_
   refine QcR ?_
   refine Qbl ?_
   have hne:mid s (f+1) n≠[]:=fun e=>by
    have:=mid_len s (f+1) n hns
    rw [e] at this;simp at this;omega
   rw [hmc,g54.2,zeros_48 hne] at hz
   exact ⟨f+1,⟨by omega,by omega,by omega⟩,by simp;omega,by5,by4⟩
  omega
theorem one_c (s:ByteArray) (hs:s.size≤60000) (at_:Nat) (ha:at_<s.size):PCall Tryz.prog 159 [.val (.string s),.val (.int .i64 at_)] (oneR (oneL at_ (rst s at_))):=by
 obtain ⟨b,hb,hr,_⟩:=Xh ha
 by_cases q1:b.toNat=34
 ·rw [hr];exact one_text s hs at_ ha b hb q1
 by_cases q2:digitC b.toNat=true
 ·exact one_digit s hs at_ ha b hb q2
 exact one_N s hs at_ ha b hb q1 q2
theorem txL_le:∀ (l:List Nat) (r:List Nat × Nat),txL l=some r→1≤r.2∧r.2≤l.length
 | [],r,h=>by simp [txL] at h
 | [c],r,h=>by
  rw [txL.eq_def] at h
  simp only [] at h
  split at h
  ·cases h;simp
  split at h
  ·cases h
  split at h
  ·cases h
  simp [txL] at h
 | c::d::l,r,h=>by
  by_cases h1:c=34
  ·subst h1;rw [tx_end] at h;cases h;simp
  by_cases h2:c=10
  ·subst h2;rw [tx_10] at h;cases h
  by_cases h3:c=92
  ·subst h3
   rw [tx_esc] at h
   cases hu:unesc d with
   | none=>rw [hu] at h;cases h
   | some x =>
    rw [hu] at h
    simp only [] at h
    cases ht:txL l with
    | none=>rw [ht] at h;cases h
    | some y =>
     rw [ht] at h;cases h
     have:=txL_le l y ht
     simp;omega
  rw [tx_more _ h1 h2 h3] at h
  cases ht:txL (d::l) with
  | none=>rw [ht] at h;cases h
  | some y =>
   rw [ht] at h;cases h
   have:=txL_le (d::l) y ht
   simp at this ⊢;omega
theorem oneL_le (a:Int) (c:Nat) (r:List Nat) (h:(oneL a (c::r)).2.2=0):a+1≤(oneL a (c::r)).2.1∧(oneL a (c::r)).2.1≤a+(c::r).length:=by
 by_cases h1:c=34
 ·rw [oneL,if_pos h1] at h ⊢
  cases ht:txL r with
  | none=>rw [ht] at h;simp at h
  | some y =>
   have:=txL_le r y ht
   simp;omega
 have hl1:=run_le 1 (c::r)
 have hl2:=run_le 2 (c::r)
 have hl3:=run_le 3 (c::r)
 by_cases h2:digitC c=true
 ·have:=run_pos (k:=2) (c:=c) (l:=r) h2
  rw [oneL_D h1 h2,digO] at h ⊢
  revert h
  cases parL (((c::r).take (run 2 (c::r))).drop (zeros ((c::r).take (run 2 (c::r))))) with
  | none=>intro h;simp at h
  | some v=>intro _;simp only [];omega
 have nm:∀ k w,1≤k→k≤(c::r).length→(nameO a c k w).2.2=0→a+1≤(nameO a c k w).2.1∧(nameO a c k w).2.1≤a+(c::r).length:=by
  intro k w k1 k2 h
  unfold nameO at h ⊢
  by_cases q:40<k
  ·rw [if_pos q] at h;simp at h
  rw [if_neg q];simp only [];omega
 by_cases h3:smallC c=true∨greatC c=true
 ·have hp:=run_pos (k:=1) (c:=c) (l:=r) (by rw [kindC,if_pos rfl,nameC_iff];rcases h3 with q|q;exact .inl q;exact .inr (.inl q))
  rw [oneL_A h1 h2 h3] at h ⊢
  exact nm _ _ hp hl1 h
 by_cases h4:signC c=true
 ·have hp:=run_pos (k:=3) (c:=c) (l:=r) (by rw [kindC,if_neg by16,if_neg by16];exact h4)
  rw [oneL_B h1 h2 h3 h4] at h ⊢
  exact nm _ _ hp hl3 h
 rw [oneL_C h1 h2 h3 h4] at h ⊢
 by_cases q:markT (strN ((c::r).take 1))=false
 ·rw [if_pos q] at h;simp at h
 rw [if_neg q] at h ⊢
 exact nm _ _ (Nat.le_refl _) by18 h
def scanR (o:List Tok × Int × Int):AV:=.tup [.seq 4 (o.1.map Tok.av),.val (.int .i64 o.2.1),.val (.int .i64 o.2.2)]
theorem lexF_nil (f:Nat) (i:Int) (acc:List Tok):lexF f i [] acc=(acc++[tok0 i],0,0):=by cases f <;> rfl
theorem lexF_bad {f:Nat} {i:Int} {c:Nat} {l:List Nat} {acc:List Tok} (h:(oneL i (c::l)).2.2≠0):lexF (f+1) i (c::l) acc=([],(oneL i (c::l)).2.2,i):=by
 rw [lexF];simp only [if_pos h]
theorem lexF_go {f:Nat} {i:Int} {c:Nat} {l:List Nat} {acc:List Tok} (h:(oneL i (c::l)).2.2=0):lexF (f+1) i (c::l) acc=lexF f ((oneL i (c::l)).2.1+ovr false ((c::l).drop ((oneL i (c::l)).2.1 - i).toNat)) (((c::l).drop ((oneL i (c::l)).2.1 - i).toNat).drop (ovr false ((c::l).drop ((oneL i (c::l)).2.1 - i).toNat))) (acc++[(oneL i (c::l)).1]):=by
 rw [lexF];simp only [if_neg (fun q:(oneL i (c::l)).2.2≠0=>q h)]
theorem Scan_long (s:ByteArray) (hs:60000<s.size):PCall Tryz.prog 97 [.val (.string s)] (scanR (scanT s)):=by
 have hO:scanT s=([],3,0):=by rw [scanT,if_pos hs]
 refine Zc Tryz.func97 U (by kernel_rfl) U (Wc U) ?_
 refine Qe ?_
 refine QcA ?_
 refine QU ?_
 refine Qco ?_
 refine Qbo ?_;intro c13 h13
 refine Qa ?_
 obtain ⟨rfl,g13⟩|⟨rfl,g13⟩:=Za h13
 ·omega
 refine Qq ?_
 refine QcB ?_
 exact out_ttt (v':=scanR ([],3,0)) U U U U (Le.tup (Xw (Xx _) (Xv _))) by4 ⟨by rw [hO],U⟩
theorem Scan_short (s:ByteArray) (hs:s.size≤60000):PCall Tryz.prog 97 [.val (.string s)] (scanR (scanT s)):=by
 have HB:=bad_c s hs
 have HO:=over_c s hs 0 (Nat.zero_le _)
 have hol:=ovr_le false (rst s 0)
 rw [rst_len] at hol
 have hO:scanT s=if 0≤badF (s.size+1) 0 (rst s 0) then ([],100,badF (s.size+1) 0 (rst s 0)) else lexF (s.size+1) (ovr false (rst s 0)) (rst s (ovr false (rst s 0))) []:=by
  rw [scanT,if_neg by17,rst_drop,Nat.zero_add]
 rw [Nat.zero_add] at HO
 generalize badF (s.size+1) 0 (rst s 0)=bd at *
 generalize hov:ovr false (rst s 0)=o0 at *
 refine Zc Tryz.func97 U (by kernel_rfl) U (Wc U) ?_
 refine Qe ?_
 refine QcA ?_
 refine QU ?_
 refine Qco ?_
 refine Qbo ?_;intro c13 h13
 refine Qa ?_
 obtain ⟨rfl,g13⟩|⟨rfl,g13⟩:=Za h13
 ·refine Qau ?_
  refine Zb 15 U U U (Zd (xs:=[.tmp 14]) U U (HB) by2 ?_)
  refine QU ?_
  refine QbS ?_;intro c17 h17
  refine Qa ?_
  obtain ⟨rfl,g17⟩|⟨rfl,g17⟩:=Za h17
  ·refine QV ?_
   refine QG ?_
   rw [if_neg by17] at hO
   refine ACode.ownNil (t:=6) 109 4 U ?_
   refine Qh ?_
   refine Zb 20 U U U (Zd (xs:=[.tmp 19,.const (.int .i64 0)]) U U (HO) by2 ?_)
   refine Qcc ?_
   apply Yl (rg [(1,42)]) (σ:=Nat × Nat × List Tok × Value) (fun zz=>match zz with|(i,f,acc,u)=>[(6,.own u 4 (acc.map Tok.av)),(7,.val (.int .i64 i))]) (fun zz=>match zz with|(i,f,acc,u)=>[.own 109 4 u]) (fun zz=>match zz with|(i,f,acc,u)=>i≤s.size∧s.size - i<f∧acc.length≤i∧scanT s=lexF f i (rst s i) acc) (fun zz=>match zz with|(i,f,acc,u)=>s.size - i) ((o0,s.size+1,[],.slice none 0 0))
   ·repeat' (first|exact Wf|apply Wd rfl|apply We rfl)
   ·exact ⟨by omega,by omega,Nat.zero_le _,hO⟩
   ·exact (by repeat' (first|exact Xz _|refine Xy U ?_ ?_|exact Xu _|exact Le.own _ _ _|exact Xx _|(refine Wb ?_;rfl)|(refine Le.own_seq ?_;rfl)|(refine Le.seq_eq ?_;rfl)))
   ·exact by4
   rintro ⟨i,f,acc,u⟩ hI
   try dsimp only [List.cons_append,List.nil_append] at hI ⊢
   obtain ⟨h1,h2,h3,hu⟩:=hI
   have hle:(acc.map Tok.av).length≤100000:=by rw [List.length_map];omega
   refine QaA ?_
   refine Qdo ?_;intro c24 h24
   refine Qa ?_
   obtain ⟨rfl,g24⟩|⟨rfl,g24⟩:=Za h24
   ·refine QcP ?_
    refine Q0 ?_
    refine Qb ?_
    refine Qco ?_
    refine Zb 46 U U U (Zm (ns:=[3]) (xs:=[.tmp 45]) U tz_109 U tfl_109 U U U U (Zb 47 U U U (Zf (xs:=[.tmp 46]) el_105 U U U U U U (Wc U) (Zb 48 U U U (Zv (i:=0) el_105 U U U U (.seq _ _) by7 ?_)))))
    intro u48
    refine QcB ?_
    have hi:s.size=i:=by omega
    refine out_ttt (v':=scanR (acc++[tok0 i],0,0)) U U U U (Le.tup (Xw (Le.own_seq ?_) (Xv _))) by4 ⟨?_,U⟩
    ·simp [Tok.av,tok0,AV.cells,hi];rfl
    rw [hu,rst_nil by17,lexF_nil]
   refine Qdq ?_
   obtain ⟨b,_,hr,_⟩:=Xh (s:=s) (i:=i) by17
   have H1:=one_c s hs i by17
   obtain ⟨f,rfl⟩:∃ f',f=f'+1:=⟨f - 1,by omega⟩
   have hb0:=lexF_bad (f:=f) (i:=i) (c:=b.toNat) (l:=rst s (i+1)) (acc:=acc)
   have hg0:=lexF_go (f:=f) (i:=i) (c:=b.toNat) (l:=rst s (i+1)) (acc:=acc)
   have hl0:=oneL_le i b.toNat (rst s (i+1))
   rw [← hr] at hb0 hg0 hl0
   rw [rst_len] at hl0
   obtain ⟨⟨⟨tk,tt,tn,ta⟩,nx,e⟩,ho⟩:∃ o,oneL i (rst s i)=o:=⟨_,rfl⟩
   rw [ho] at H1 hb0 hg0 hl0
   simp only [oneR,Tok.av] at H1 hb0 hg0 hl0
   refine Q8 ?_
   refine Zb 28 U U U (Zd (xs:=[.tmp 26,.tmp 27]) U U (H1) by2 ?_)
   refine QcY ?_
   refine QR ?_;intro b8
   refine Qaw ?_
   refine QJ ?_
   refine QU ?_
   refine QP ?_;intro c33 h33
   refine Qa ?_
   obtain ⟨rfl,g33⟩|⟨rfl,g33⟩:=Za h33
   ·refine Qp ?_
    have he:e=0:=Classical.not_not.1 g33
    have hl1:=hl0 he
    have hg1:=hg0 he
    obtain ⟨m,rfl⟩:∃ m:Nat,nx=m:=⟨nx.toNat,by omega⟩
    have hol2:=ovr_le false (rst s m)
    rw [rst_len] at hol2
    rw [rst_drop,show i+((m:Int) - i).toNat=m by omega,rst_drop] at hg1
    refine Qh ?_
    refine QcJ ?_
    refine Zb 38 U U U (Zf (xs:=[.tmp 37]) el_105 U U U U U U (Wc U) (Zb 39 U U U (Zv (i:=1) el_105 U U U U (.seq _ _) by7 ?_)))
    intro u39
    refine Qj ?_
    refine Q8 ?_
    refine Zb 42 U U U (Zd (xs:=[.tmp 40,.tmp 41]) U U (over_c s hs m by17) by2 ?_)
    refine Qbl ?_
    refine ⟨(m+ovr false (rst s m),f,acc++[⟨tk,tt,tn,ta⟩],u39),⟨(by show m+ovr false (rst s m)≤s.size;omega),(by show s.size - (m+ovr false (rst s m))<f;omega),by13,(by rw [hu,hg1];rfl)⟩,(by show s.size - (m+ovr false (rst s m))<s.size - i;omega),Xy U (Wb (by simp [Tok.av,AV.cells])) by5,by4⟩
   refine Qb0 ?_
   refine QcB ?_
   exact out_ttt (v':=scanR ([],e,i)) U U U U (Le.tup (Xw (Xx _) (Xv _))) by4 ⟨by rw [hu,hb0 g33],U⟩
  refine QaW ?_
  refine QcB ?_
  exact out_ttt (v':=scanR ([],100,bd)) U U U U (Le.tup (Xw (Xx _) (Xv _))) by4 ⟨by rw [hO,if_pos by17],U⟩
 omega
theorem Scan_c (s:ByteArray):PCall Tryz.prog 97 [.val (.string s)] (scanR (scanT s)):=by
 by_cases q:60000<s.size
 ·exact Scan_long s q
 exact Scan_short s by17
end Go.Proofs.YteepjjgooplljaaGreat
namespace Go.Proofs.YteepjjgooplljaaGreat
structure PS where
 at_:Nat
 lv:Int
 e:Int
 wh:Int
deriving DecidableEq
def nxt (L:List Tok) (p:PS):Tok:=if p.e≠0 then tok0 0 else (L[p.at_]?).getD (tok0 0)
def failP (p:PS) (e wh:Int):PS:=if p.e=0 then { p with e:=e,wh:=wh } else p
def isP (L:List Tok) (p:PS) (s:ByteArray):Bool:=decide (6≤(nxt L p).k∧(nxt L p).t=s)
def stepP (p:PS):PS:={ p with at_:=p.at_+1 }
def takeP (L:List Tok) (p:PS) (kind:Int) (s:ByteArray):Tok × PS :=
 if p.e≠0 then (nxt L p,p)
 else if (kind<6∧(nxt L p).k≠kind)∨(6≤kind∧((nxt L p).k<6∨(nxt L p).t≠s)) then (tok0 0,failP p 110 (nxt L p).a)
 else (nxt L p,stepP p)
def deeperP (L:List Tok) (p:PS):PS:=if 300<p.lv+1 then failP { p with lv:=p.lv+1 } 111 (nxt L { p with lv:=p.lv+1 }).a else { p with lv:=p.lv+1 }
theorem Xn {L:List Tok} {p:PS} (h:(nxt L p).k≠0):p.e=0∧p.at_<L.length:=by
 unfold nxt at h
 by_cases q:p.e≠0
 ·rw [if_pos q] at h;exact absurd rfl h
 rw [if_neg q] at h
 refine ⟨Classical.not_not.1 q,?_⟩
 rcases Nat.lt_or_ge p.at_ L.length with q2|q2
 ·exact q2
 rw [List.getElem?_eq_none q2] at h;exact absurd rfl h
def rowsT:List (List (List UInt8)):=[[[58,61]],[[124,124]],[[38,38]],[[61,61],[47,61],[60],[60,61],[62],[62,61]],[[58,58],[94]],[[43],[45]],[[42],[47],[37]]]
def lvl (op:List UInt8):Nat:=rowsT.findIdx (fun r=>r.contains op)+1
def sideN (l:Nat):Nat:=if l=4 then 0 else if l<6 then 2 else 1
open Go.RowKit
def I64 (x:Int):Prop := -9223372036854775808≤x∧x≤9223372036854775807
theorem I64.of {x:Int} (h:IntKind.i64.min≤x∧x≤IntKind.i64.max):I64 x:=by
 have h1:IntKind.i64.min = -9223372036854775808:=by decide
 have h2:IntKind.i64.max=9223372036854775807:=by decide
 rw [h1,h2] at h;exact h
def Ty.Lim (t:Ty):Prop:=t.kn≤140737488355328
inductive Pr where
 | mk (c:ByteArray) (t:Ty)
def Pr.cells:Pr→List AV
 | .mk c t=>.val (.string c)::t.cells
def Pr.c:Pr→ByteArray|.mk c _=>c
def Pr.t:Pr→Ty|.mk _ t=>t
def Pr.cellss (l:List Pr):List (List AV):=l.map Pr.cells
theorem Pr.cellss_map (l:List Pr):Pr.cellss l=l.map Pr.cells:=rfl
theorem Pr.cellss_len (l:List Pr):(Pr.cellss l).length=l.length:=by simp [Pr.cellss]
theorem Pr.cellss_get {l:List Pr} {i:Nat} {x:Pr} (h:l[i]?=some x):(Pr.cellss l)[i]?=some x.cells:=by simp [Pr.cellss,h]
theorem Pr.cells_len (x:Pr):x.cells.length=5:=by
 obtain ⟨xc,⟨xtk,xts,xtn,xtl⟩⟩:=x
 rfl
def Pr.cellsss (l:List (List Pr)):List (List AV):=l.map fun x=>[.seq 5 (Pr.cellss x)]
def Pr.Lim:Pr→Prop
 | .mk _ t=>(t.Lim)
inductive Cn where
 | mk (s:ByteArray) (ts:List Ty) (p:Int)
def Cn.cells:Cn→List AV
 | .mk s ts p=>.val (.string s)::.seq 4 (Ty.cellss ts)::[.val (.int .i64 p)]
def Cn.s:Cn→ByteArray|.mk s _ _=>s
def Cn.ts:Cn→List Ty|.mk _ ts _=>ts
def Cn.p:Cn→Int|.mk _ _ p=>p
def Cn.cellss (l:List Cn):List (List AV):=l.map Cn.cells
theorem Cn.cellss_map (l:List Cn):Cn.cellss l=l.map Cn.cells:=rfl
theorem Cn.cellss_len (l:List Cn):(Cn.cellss l).length=l.length:=by simp [Cn.cellss]
theorem Cn.cellss_get {l:List Cn} {i:Nat} {x:Cn} (h:l[i]?=some x):(Cn.cellss l)[i]?=some x.cells:=by simp [Cn.cellss,h]
theorem Cn.cells_len (x:Cn):x.cells.length=3:=by
 obtain ⟨xs,xts,xp⟩:=x
 rfl
def Cn.cellsss (l:List (List Cn)):List (List AV):=l.map fun x=>[.seq 3 (Cn.cellss x)]
def Cn.Lim:Cn→Prop
 | .mk _ ts _=>(ts.length≤140737488355328∧∀ x∈ts,x.Lim)
inductive Da where
 | mk (s:ByteArray) (ps:List ByteArray) (cs:List Cn) (dv:List ByteArray) (p:Int)
def Da.cells:Da→List AV
 | .mk s ps cs dv p=>.val (.string s)::.seq 1 (strs ps)::.seq 3 (Cn.cellss cs)::.seq 1 (strs dv)::[.val (.int .i64 p)]
def Da.s:Da→ByteArray|.mk s _ _ _ _=>s
def Da.ps:Da→List ByteArray|.mk _ ps _ _ _=>ps
def Da.cs:Da→List Cn|.mk _ _ cs _ _=>cs
def Da.dv:Da→List ByteArray|.mk _ _ _ dv _=>dv
def Da.p:Da→Int|.mk _ _ _ _ p=>p
def Da.cellss (l:List Da):List (List AV):=l.map Da.cells
theorem Da.cellss_map (l:List Da):Da.cellss l=l.map Da.cells:=rfl
theorem Da.cellss_len (l:List Da):(Da.cellss l).length=l.length:=by simp [Da.cellss]
theorem Da.cellss_get {l:List Da} {i:Nat} {x:Da} (h:l[i]?=some x):(Da.cellss l)[i]?=some x.cells:=by simp [Da.cellss,h]
theorem Da.cells_len (x:Da):x.cells.length=5:=by
 obtain ⟨xs,xps,xcs,xdv,xp⟩:=x
 rfl
def Da.cellsss (l:List (List Da)):List (List AV):=l.map fun x=>[.seq 5 (Da.cellss x)]
def Da.Lim:Da→Prop
 | .mk _ ps cs dv _=>(ps.length≤140737488355328)∧(cs.length≤140737488355328∧∀ x∈cs,x.Lim)∧(dv.length≤140737488355328)
inductive Me where
 | mk (s:ByteArray) (t:Ty) (p:Int)
def Me.cells:Me→List AV
 | .mk s t p=>.val (.string s)::t.cells++([.val (.int .i64 p)])
def Me.s:Me→ByteArray|.mk s _ _=>s
def Me.t:Me→Ty|.mk _ t _=>t
def Me.p:Me→Int|.mk _ _ p=>p
def Me.cellss (l:List Me):List (List AV):=l.map Me.cells
theorem Me.cellss_map (l:List Me):Me.cellss l=l.map Me.cells:=rfl
theorem Me.cellss_len (l:List Me):(Me.cellss l).length=l.length:=by simp [Me.cellss]
theorem Me.cellss_get {l:List Me} {i:Nat} {x:Me} (h:l[i]?=some x):(Me.cellss l)[i]?=some x.cells:=by simp [Me.cellss,h]
theorem Me.cells_len (x:Me):x.cells.length=6:=by
 obtain ⟨xs,⟨xtk,xts,xtn,xtl⟩,xp⟩:=x
 rfl
def Me.cellsss (l:List (List Me)):List (List AV):=l.map fun x=>[.seq 6 (Me.cellss x)]
def Me.Lim:Me→Prop
 | .mk _ t _=>(t.Lim)
inductive Cl where
 | mk (s:ByteArray) (v:ByteArray) (su:List ByteArray) (ms:List Me) (ds:List Bi) (p:Int)
def Cl.cells:Cl→List AV
 | .mk s v su ms ds p=>.val (.string s)::.val (.string v)::.seq 1 (strs su)::.seq 6 (Me.cellss ms)::.seq 13 (Bi.cellss ds)::[.val (.int .i64 p)]
def Cl.s:Cl→ByteArray|.mk s _ _ _ _ _=>s
def Cl.v:Cl→ByteArray|.mk _ v _ _ _ _=>v
def Cl.su:Cl→List ByteArray|.mk _ _ su _ _ _=>su
def Cl.ms:Cl→List Me|.mk _ _ _ ms _ _=>ms
def Cl.ds:Cl→List Bi|.mk _ _ _ _ ds _=>ds
def Cl.p:Cl→Int|.mk _ _ _ _ _ p=>p
def Cl.cellss (l:List Cl):List (List AV):=l.map Cl.cells
theorem Cl.cellss_map (l:List Cl):Cl.cellss l=l.map Cl.cells:=rfl
theorem Cl.cellss_len (l:List Cl):(Cl.cellss l).length=l.length:=by simp [Cl.cellss]
theorem Cl.cellss_get {l:List Cl} {i:Nat} {x:Cl} (h:l[i]?=some x):(Cl.cellss l)[i]?=some x.cells:=by simp [Cl.cellss,h]
theorem Cl.cells_len (x:Cl):x.cells.length=6:=by
 obtain ⟨xs,xv,xsu,xms,xds,xp⟩:=x
 rfl
def Cl.cellsss (l:List (List Cl)):List (List AV):=l.map fun x=>[.seq 6 (Cl.cellss x)]
def Cl.Lim:Cl→Prop
 | .mk _ _ su ms ds _=>(su.length≤140737488355328)∧(ms.length≤140737488355328∧∀ x∈ms,x.Lim)∧(ds.length≤140737488355328∧∀ x∈ds,x.Lim)
inductive In where
 | mk (c:ByteArray) (hd:Ty) (cx:List Pr) (bs:List Bi) (p:Int)
def In.cells:In→List AV
 | .mk c hd cx bs p=>.val (.string c)::hd.cells++(.seq 5 (Pr.cellss cx)::.seq 13 (Bi.cellss bs)::[.val (.int .i64 p)])
def In.c:In→ByteArray|.mk c _ _ _ _=>c
def In.hd:In→Ty|.mk _ hd _ _ _=>hd
def In.cx:In→List Pr|.mk _ _ cx _ _=>cx
def In.bs:In→List Bi|.mk _ _ _ bs _=>bs
def In.p:In→Int|.mk _ _ _ _ p=>p
def In.cellss (l:List In):List (List AV):=l.map In.cells
theorem In.cellss_map (l:List In):In.cellss l=l.map In.cells:=rfl
theorem In.cellss_len (l:List In):(In.cellss l).length=l.length:=by simp [In.cellss]
theorem In.cellss_get {l:List In} {i:Nat} {x:In} (h:l[i]?=some x):(In.cellss l)[i]?=some x.cells:=by simp [In.cellss,h]
theorem In.cells_len (x:In):x.cells.length=8:=by
 obtain ⟨xc,⟨xhdk,xhds,xhdn,xhdl⟩,xcx,xbs,xp⟩:=x
 rfl
def In.cellsss (l:List (List In)):List (List AV):=l.map fun x=>[.seq 8 (In.cellss x)]
def In.Lim:In→Prop
 | .mk _ hd cx bs _=>(hd.Lim)∧(cx.length≤140737488355328∧∀ x∈cx,x.Lim)∧(bs.length≤140737488355328∧∀ x∈bs,x.Lim)
inductive Pg where
 | mk (da:List Da) (cl:List Cl) (ins:List In) (bs:List Bi)
def Pg.cells:Pg→List AV
 | .mk da cl ins bs=>.seq 5 (Da.cellss da)::.seq 6 (Cl.cellss cl)::.seq 8 (In.cellss ins)::[.seq 13 (Bi.cellss bs)]
def Pg.da:Pg→List Da|.mk da _ _ _=>da
def Pg.cl:Pg→List Cl|.mk _ cl _ _=>cl
def Pg.ins:Pg→List In|.mk _ _ ins _=>ins
def Pg.bs:Pg→List Bi|.mk _ _ _ bs=>bs
def Pg.cellss (l:List Pg):List (List AV):=l.map Pg.cells
theorem Pg.cellss_map (l:List Pg):Pg.cellss l=l.map Pg.cells:=rfl
theorem Pg.cellss_len (l:List Pg):(Pg.cellss l).length=l.length:=by simp [Pg.cellss]
theorem Pg.cellss_get {l:List Pg} {i:Nat} {x:Pg} (h:l[i]?=some x):(Pg.cellss l)[i]?=some x.cells:=by simp [Pg.cellss,h]
theorem Pg.cells_len (x:Pg):x.cells.length=4:=by
 obtain ⟨xda,xcl,xins,xbs⟩:=x
 rfl
def Pg.cellsss (l:List (List Pg)):List (List AV):=l.map fun x=>[.seq 4 (Pg.cellss x)]
def Pg.Lim:Pg→Prop
 | .mk da cl ins bs=>(da.length≤140737488355328∧∀ x∈da,x.Lim)∧(cl.length≤140737488355328∧∀ x∈cl,x.Lim)∧(ins.length≤140737488355328∧∀ x∈ins,x.Lim)∧(bs.length≤140737488355328∧∀ x∈bs,x.Lim)
inductive En where
 | mk (da:List Da) (cl:List Cl) (ins:List In)
def En.cells:En→List AV
 | .mk da cl ins=>.seq 5 (Da.cellss da)::.seq 6 (Cl.cellss cl)::[.seq 8 (In.cellss ins)]
def En.da:En→List Da|.mk da _ _=>da
def En.cl:En→List Cl|.mk _ cl _=>cl
def En.ins:En→List In|.mk _ _ ins=>ins
def En.cellss (l:List En):List (List AV):=l.map En.cells
theorem En.cellss_map (l:List En):En.cellss l=l.map En.cells:=rfl
theorem En.cellss_len (l:List En):(En.cellss l).length=l.length:=by simp [En.cellss]
theorem En.cellss_get {l:List En} {i:Nat} {x:En} (h:l[i]?=some x):(En.cellss l)[i]?=some x.cells:=by simp [En.cellss,h]
theorem En.cells_len (x:En):x.cells.length=3:=by
 obtain ⟨xda,xcl,xins⟩:=x
 rfl
def En.cellsss (l:List (List En)):List (List AV):=l.map fun x=>[.seq 3 (En.cellss x)]
def En.Lim:En→Prop
 | .mk da cl ins=>(da.length≤140737488355328∧∀ x∈da,x.Lim)∧(cl.length≤140737488355328∧∀ x∈cl,x.Lim)∧(ins.length≤140737488355328∧∀ x∈ins,x.Lim)
end Go.Proofs.YteepjjgooplljaaGreat
namespace Go.Proofs.YteepjjgooplljaaGreat
abbrev kE:ByteArray:=⟨#[]⟩
abbrev kLP:ByteArray:=⟨#[40]⟩
abbrev kRP:ByteArray:=⟨#[41]⟩
abbrev kComma:ByteArray:=⟨#[44]⟩
abbrev kSemi:ByteArray:=⟨#[59]⟩
abbrev kBack:ByteArray:=⟨#[92]⟩
abbrev kUn:ByteArray:=⟨#[95]⟩
abbrev kEq:ByteArray:=⟨#[61]⟩
abbrev kArrow:ByteArray:=⟨#[45,62]⟩
abbrev kBar:ByteArray:=⟨#[124]⟩
abbrev kColon:ByteArray:=⟨#[58]⟩
abbrev kData:ByteArray:=⟨#[100,97,116,97]⟩
abbrev kClass:ByteArray:=⟨#[99,108,97,115,115]⟩
abbrev kInst:ByteArray:=⟨#[105,110,115,116,97,110,99,101]⟩
abbrev kFrom:ByteArray:=⟨#[102,114,111,109]⟩
abbrev kWhere:ByteArray:=⟨#[119,104,101,114,101]⟩
abbrev kEnd:ByteArray:=⟨#[101,110,100]⟩
abbrev kDeriv:ByteArray:=⟨#[100,101,114,105,118,105,110,103]⟩
abbrev kDef:ByteArray:=⟨#[100,101,102]⟩
abbrev kLet:ByteArray:=⟨#[108,101,116]⟩
abbrev kRec:ByteArray:=⟨#[114,101,99]⟩
abbrev kAnd:ByteArray:=⟨#[97,110,100]⟩
abbrev kIn:ByteArray:=⟨#[105,110]⟩
abbrev kCase:ByteArray:=⟨#[99,97,115,101]⟩
abbrev kOf:ByteArray:=⟨#[111,102]⟩
abbrev kIf:ByteArray:=⟨#[105,102]⟩
abbrev kThen:ByteArray:=⟨#[116,104,101,110]⟩
abbrev kElse:ByteArray:=⟨#[101,108,115,101]⟩
abbrev kUnit:ByteArray:=⟨#[85,110,105,116]⟩
abbrev kAA:ByteArray:=⟨#[38,38]⟩
abbrev kOO:ByteArray:=⟨#[124,124]⟩
def ty0:Ty:=.mk 0 kE 0 []
def pa0:Pa:=.mk 0 kE 0 [] 0
def ex0:Ex:=.mk 0 kE 0 ty0 [] [] [] 0
def decP (p:PS):PS:={ p with lv:=p.lv - 1 }
section
variable (L:List Tok)
def nameP (p:PS):Tok × PS :=
 if isP L p kLP=true then ((takeP L (stepP p) 5 kE).1,(takeP L (takeP L (stepP p) 5 kE).2 7 kRP).2) else takeP L p 1 kE
def uppersL:Nat→PS→List ByteArray→List ByteArray × PS
 | 0,p,acc=>(acc,p)
 | f+1,p,acc=>if isP L p kComma=true then uppersL f (takeP L (stepP p) 2 kE).2 (acc++[(takeP L (stepP p) 2 kE).1.t]) else (acc,p)
def uppersP (p:PS):List ByteArray × PS:=uppersL L (L.length+1) (takeP L p 2 kE).2 [(takeP L p 2 kE).1.t]
def startsP (what:Int) (p:PS):Prop :=
 (nxt L p).k=1∨(nxt L p).k=2∨isP L p kLP=true∨(1≤what∧(nxt L p).k=3)∨(what=1∧isP L p kUn=true)∨(what=2∧((nxt L p).k=4∨isP L p kCase=true))
instance (what:Int) (p:PS):Decidable (startsP L what p):=by unfold startsP;infer_instance
def atypeG (T:PS→Ty × PS) (p:PS):Ty × PS :=
 if (nxt L p).k=2 then (.mk 3 (nxt L p).t 0 [],stepP p)
 else if (nxt L p).k=1 then (.mk 1 (nxt L p).t 0 [],stepP p)
 else if isP L (takeP L p 7 kLP).2 kRP=true then (.mk 3 kUnit 0 [],stepP (takeP L p 7 kLP).2)
 else ((T (takeP L p 7 kLP).2).1,(takeP L (T (takeP L p 7 kLP).2).2 7 kRP).2)
def typesL (T:PS→Ty × PS):Nat→PS→List Ty→List Ty × PS
 | 0,p,acc=>(acc,p)
 | f+1,p,acc=>if startsP L 0 p then typesL T f (atypeG L T p).2 (acc++[(atypeG L T p).1]) else (acc,p)
def typeH (T:PS→Ty × PS) (q:PS):Ty × PS :=
 if (nxt L q).k=2 then (.mk 3 (nxt L q).t 0 (typesL L T (L.length+1) (stepP q) []).1,(typesL L T (L.length+1) (stepP q) []).2)
 else atypeG L T q
def typeR (T:PS→Ty × PS) (x:Ty × PS):Ty × PS :=
 if isP L x.2 kArrow=true then (.mk 3 kArrow 0 [x.1,(T (stepP x.2)).1],decP (T (stepP x.2)).2) else (x.1,decP x.2)
def typeF:Nat→PS→Ty × PS
 | 0,p=>(ty0,p)
 | n+1,p=>if p.e≠0 then (ty0,p) else typeR L (typeF n) (typeH L (typeF n) (deeperP L p))
def typeP (p:PS):Ty × PS:=typeF L 302 p
def apatG (T:PS→Pa × PS) (p:PS):Pa × PS :=
 if (nxt L p).k=2 then (.mk 3 (nxt L p).t 0 [] (nxt L p).a,stepP p)
 else if (nxt L p).k=1 then (.mk 2 (nxt L p).t 0 [] (nxt L p).a,stepP p)
 else if (nxt L p).k=3 then (.mk 4 kE (nxt L p).n [] (nxt L p).a,stepP p)
 else if isP L p kUn=true then (.mk 1 kE 0 [] (nxt L p).a,stepP p)
 else if isP L (takeP L p 7 kLP).2 kRP=true then (.mk 3 kUnit 0 [] (nxt L p).a,stepP (takeP L p 7 kLP).2)
 else ((T (takeP L p 7 kLP).2).1,(takeP L (T (takeP L p 7 kLP).2).2 7 kRP).2)
def patsL (T:PS→Pa × PS):Nat→PS→List Pa→List Pa × PS
 | 0,p,acc=>(acc,p)
 | f+1,p,acc=>if startsP L 1 p then patsL T f (apatG L T p).2 (acc++[(apatG L T p).1]) else (acc,p)
def patF:Nat→PS→Pa × PS
 | 0,p=>(pa0,p)
 | n+1,p=>if p.e≠0 then (pa0,p)
  else if (nxt L (deeperP L p)).k=2 then
   (.mk 3 (nxt L (deeperP L p)).t 0 (patsL L (patF n) (L.length+1) (stepP (deeperP L p)) []).1 (nxt L (deeperP L p)).a,decP (patsL L (patF n) (L.length+1) (stepP (deeperP L p)) []).2)
  else ((apatG L (patF n) (deeperP L p)).1,decP (apatG L (patF n) (deeperP L p)).2)
def patP (p:PS):Pa × PS:=patF L 302 p
end
/- operators -/
def lvT (ops:List Tok) (i:Nat):Nat:=lvl ((ops[i]?).getD (tok0 0)).t.toList
def rootB (ops:List Tok):Nat→Nat→Nat→Nat
 | 0,a,_=>a
 | f+1,a,i=>rootB ops f (if lvT ops i<lvT ops a∨(lvT ops i=lvT ops a∧sideN (lvT ops a)=1) then i else a) (i+1)
def opE (k:Int) (ks:List Ex) (a:Int):Ex:=.mk k kE 0 ty0 ks [] [] a
def namE (k:Int) (s:ByteArray) (a:Int):Ex:=.mk k s 0 ty0 [] [] [] a
def binE (op:Tok) (x y:Ex):Ex :=
 if op.t=kAA then opE 10 [x,y] op.a else if op.t=kOO then opE 11 [x,y] op.a
 else opE 5 [opE 5 [namE 3 op.t op.a,x] op.a,y] op.a
def buildF (l:List Ex) (ops:List Tok):Nat→Nat→Nat→Ex
 | 0,a,_=>(l[a]?).getD ex0
 | d+1,a,b=>if a=b then (l[a]?).getD ex0
  else binE ((ops[rootB ops (b - (a+1)) a (a+1)]?).getD (tok0 0)) (buildF l ops d a (rootB ops (b - (a+1)) a (a+1))) (buildF l ops d (rootB ops (b - (a+1)) a (a+1)+1) b)
def backL (lv:Nat→Nat):Nat→Bool
 | 0=>false
 | i+1=>if 4<lv i then backL lv i else decide (lv i=4)
def clashL (lv:Nat→Nat):Nat→Nat→Int
 | 0,_ => -1
 | f+1,k=>if lv k=4∧backL lv k=true then k else clashL lv f (k+1)
def clashP (ops:List Tok):Int:=clashL (lvT ops) ops.length 0
section
variable (L:List Tok)
def bindG (E:PS→Ex × PS) (p:PS):Bi × PS :=
 (.mk (nameP L p).1.t (E (takeP L (nameP L p).2 7 kEq).2).1 (nameP L p).1.a,(E (takeP L (nameP L p).2 7 kEq).2).2)
def bindsL (E:PS→Ex × PS):Nat→PS→List Bi→List Bi × PS
 | 0,p,acc=>(acc,p)
 | f+1,p,acc=>if isP L p kAnd=true then bindsL E f (bindG L E (stepP p)).2 (acc++[(bindG L E (stepP p)).1]) else (acc,p)
def lambdaG (E:PS→Ex × PS):Nat→PS→Int→Ex × PS
 | 0,p,_=>(ex0,p)
 | f+1,p,a =>
  if (nxt L (takeP L p 1 kE).2).k=1 then
   (.mk 6 (takeP L p 1 kE).1.t 0 ty0 [(lambdaG E f (takeP L p 1 kE).2 (nxt L (takeP L p 1 kE).2).a).1] [] [] a,(lambdaG E f (takeP L p 1 kE).2 (nxt L (takeP L p 1 kE).2).a).2)
  else (.mk 6 (takeP L p 1 kE).1.t 0 ty0 [(E (takeP L (takeP L p 1 kE).2 7 kArrow).2).1] [] [] a,(E (takeP L (takeP L p 1 kE).2 7 kArrow).2).2)
def altG (E:PS→Ex × PS) (p:PS):Al × PS :=
 (.mk (patP L p).1 (E (takeP L (patP L p).2 7 kArrow).2).1,(E (takeP L (patP L p).2 7 kArrow).2).2)
def altsL (E:PS→Ex × PS):Nat→PS→List Al→List Al × PS
 | 0,p,acc=>(acc,p)
 | f+1,p,acc=>if p.e≠0 then (acc,p)
  else if isP L (altG L E p).2 kBar=true then altsL E f (stepP (altG L E p).2) (acc++[(altG L E p).1])
  else (acc++[(altG L E p).1],(altG L E p).2)
def caseG (E:PS→Ex × PS) (a:Int) (p:PS):Ex × PS :=
 let y:=altsL L E (L.length+1) (takeP L (E p).2 6 kOf).2 []
 (.mk 8 kE 0 ty0 [(E p).1] y.1 [] a,(takeP L y.2 6 kEnd).2)
def annG (a:Int) (x:Ex × PS):Ex × PS :=
 if isP L x.2 kColon=true then (.mk 12 kE 0 (typeP L (stepP x.2)).1 [x.1] [] [] a,(takeP L (typeP L (stepP x.2)).2 7 kRP).2)
 else (x.1,(takeP L x.2 7 kRP).2)
def atomG (E:PS→Ex × PS) (p:PS):Ex × PS :=
 if (nxt L p).k=1 then (namE 3 (nxt L p).t (nxt L p).a,stepP p)
 else if (nxt L p).k=2 then (namE 4 (nxt L p).t (nxt L p).a,stepP p)
 else if (nxt L p).k=3 then (.mk 1 kE (nxt L p).n ty0 [] [] [] (nxt L p).a,stepP p)
 else if (nxt L p).k=4 then (namE 2 (nxt L p).t (nxt L p).a,stepP p)
 else if isP L p kCase=true then caseG L E (nxt L p).a (stepP p)
 else if isP L (takeP L p 7 kLP).2 kRP=true then (namE 4 kUnit (nxt L p).a,stepP (takeP L p 7 kLP).2)
 else if (nxt L (takeP L p 7 kLP).2).k=5 then
  (namE 3 (takeP L (takeP L p 7 kLP).2 5 kE).1.t (nxt L p).a,(takeP L (takeP L (takeP L p 7 kLP).2 5 kE).2 7 kRP).2)
 else annG L (nxt L p).a (E (takeP L p 7 kLP).2)
def appsL (E:PS→Ex × PS) (a:Int):Nat→PS→Ex→Ex × PS
 | 0,p,x=>(x,p)
 | f+1,p,x=>if startsP L 2 p then appsL E a f (atomG L E p).2 (opE 5 [x,(atomG L E p).1] a) else (x,p)
def letG (E:PS→Ex × PS) (a n:Int) (p:PS):Ex × PS :=
 let bs:=bindsL L E (L.length+1) (bindG L E p).2 [(bindG L E p).1]
 (.mk 7 kE n ty0 [(E (takeP L bs.2 6 kIn).2).1] [] bs.1 a,(E (takeP L bs.2 6 kIn).2).2)
def ifG (E:PS→Ex × PS) (a:Int) (p:PS):Ex × PS :=
 let y:=E (takeP L (E p).2 6 kThen).2
 let z:=E (takeP L y.2 6 kElse).2
 (opE 9 [(E p).1,y.1,z.1] a,z.2)
def operandG (E:PS→Ex × PS) (p:PS):Ex × PS :=
 if isP L p kBack=true then lambdaG L E (L.length+1) (stepP p) (nxt L p).a
 else if isP L p kLet=true then
  if isP L (stepP p) kRec=true then letG L E (nxt L p).a 1 (stepP (stepP p)) else letG L E (nxt L p).a 0 (stepP p)
 else if isP L p kIf=true then ifG L E (nxt L p).a (stepP p)
 else appsL L E (nxt L p).a (L.length+1) (atomG L E p).2 (atomG L E p).1
def opsL (E:PS→Ex × PS):Nat→PS→List Ex→List Tok→(List Ex × List Tok) × PS
 | 0,p,l,o=>((l,o),p)
 | f+1,p,l,o=>if (nxt L p).k=5 then opsL E f (operandG L E (takeP L p 5 kE).2).2 (l++[(operandG L E (takeP L p 5 kE).2).1]) (o++[(takeP L p 5 kE).1]) else ((l,o),p)
def joinE (y:(List Ex × List Tok) × PS):Ex × PS :=
 if y.2.e≠0 then (ex0,y.2)
 else if 0≤clashP y.1.2 then (ex0,failP y.2 112 ((y.1.2[(clashP y.1.2).toNat]?).getD (tok0 0)).a)
 else (buildF y.1.1 y.1.2 y.1.2.length 0 y.1.2.length,decP y.2)
def expF:Nat→PS→Ex × PS
 | 0,p=>(ex0,p)
 | n+1,p=>if p.e≠0 then (ex0,p)
  else joinE (opsL L (expF n) (L.length+1) (operandG L (expF n) (deeperP L p)).2 [(operandG L (expF n) (deeperP L p)).1] [])
def expP (p:PS):Ex × PS:=expF L 302 p
def bindP (p:PS):Bi × PS:=bindG L (expP L) p
/- declarations -/
def paramsL:Nat→PS→List ByteArray→List ByteArray × PS
 | 0,p,acc=>(acc,p)
 | f+1,p,acc=>if (nxt L p).k=1 then paramsL f (takeP L p 1 kE).2 (acc++[(takeP L p 1 kE).1.t]) else (acc,p)
def conP (p:PS):Cn × PS :=
 let a:=typesL L (typeP L) (L.length+1) (takeP L p 2 kE).2 []
 (.mk (takeP L p 2 kE).1.t a.1 (takeP L p 2 kE).1.a,a.2)
def consL:Nat→PS→List Cn→List Cn × PS
 | 0,p,acc=>(acc,p)
 | f+1,p,acc=>if p.e≠0 then (acc,p)
  else if isP L (conP L p).2 kBar=true then consL f (stepP (conP L p).2) (acc++[(conP L p).1])
  else (acc++[(conP L p).1],(conP L p).2)
def derivP (p:PS):List ByteArray × PS :=
 if isP L p kDeriv=true then ((uppersP L (takeP L (stepP p) 7 kLP).2).1,(takeP L (uppersP L (takeP L (stepP p) 7 kLP).2).2 7 kRP).2) else ([],p)
def dataP (p:PS):Da × PS :=
 let a:=paramsL L (L.length+1) (takeP L p 2 kE).2 []
 let c:=consL L (L.length+1) (takeP L a.2 7 kEq).2 []
 (.mk (takeP L p 2 kE).1.t a.1 c.1 (derivP L c.2).1 (takeP L p 2 kE).1.a,(derivP L c.2).2)
def clsL:Nat→PS→List Me→List Bi→(List Me × List Bi) × PS
 | 0,p,ms,ds=>((ms,ds),p)
 | f+1,p,ms,ds=>if p.e≠0 then ((ms,ds),p)
  else if isP L p kEnd=true then ((ms,ds),stepP p)
  else if isP L p kDef=true then clsL f (takeP L (bindP L (stepP p)).2 7 kSemi).2 ms (ds++[(bindP L (stepP p)).1])
  else clsL f (takeP L (typeP L (takeP L (nameP L p).2 7 kColon).2).2 7 kSemi).2 (ms++[.mk (nameP L p).1.t (typeP L (takeP L (nameP L p).2 7 kColon).2).1 (nameP L p).1.a]) ds
def supersP (p:PS):List ByteArray × PS:=if isP L p kFrom=true then uppersP L (stepP p) else ([],p)
def classP (p:PS):Cl × PS :=
 let s:=supersP L (takeP L (takeP L p 2 kE).2 1 kE).2
 let r:=clsL L (L.length+1) (takeP L s.2 6 kWhere).2 [] []
 (.mk (takeP L p 2 kE).1.t (takeP L (takeP L p 2 kE).2 1 kE).1.t s.1 r.1.1 r.1.2 (takeP L p 2 kE).1.a,r.2)
def predP (p:PS):Pr × PS :=
 (.mk (takeP L p 2 kE).1.t (.mk 1 (takeP L (takeP L p 2 kE).2 1 kE).1.t 0 []),(takeP L (takeP L p 2 kE).2 1 kE).2)
def ctxL:Nat→PS→List Pr→List Pr × PS
 | 0,p,acc=>(acc,p)
 | f+1,p,acc=>if p.e≠0 then (acc,p)
  else if isP L (predP L p).2 kComma=true then ctxL f (stepP (predP L p).2) (acc++[(predP L p).1])
  else (acc++[(predP L p).1],(predP L p).2)
def ctxP (p:PS):List Pr × PS:=if isP L p kFrom=true then ctxL L (L.length+1) (stepP p) [] else ([],p)
def insL:Nat→PS→List Bi→List Bi × PS
 | 0,p,bs=>(bs,p)
 | f+1,p,bs=>if p.e≠0 then (bs,p)
  else if isP L p kEnd=true then (bs,stepP p)
  else insL f (takeP L (bindP L (takeP L p 6 kDef).2).2 7 kSemi).2 (bs++[(bindP L (takeP L p 6 kDef).2).1])
def instP (p:PS):In × PS :=
 let h:=atypeG L (typeP L) (takeP L p 2 kE).2
 let c:=ctxP L h.2
 let b:=insL L (L.length+1) (takeP L c.2 6 kWhere).2 []
 (.mk (takeP L p 2 kE).1.t h.1 c.1 b.1 (takeP L p 2 kE).1.a,b.2)
def declP (p:PS) (x:Pg):Pg × PS :=
 if isP L p kData=true then (.mk (x.da++[(dataP L (stepP p)).1]) x.cl x.ins x.bs,(dataP L (stepP p)).2)
 else if isP L p kClass=true then (.mk x.da (x.cl++[(classP L (stepP p)).1]) x.ins x.bs,(classP L (stepP p)).2)
 else if isP L p kInst=true then (.mk x.da x.cl (x.ins++[(instP L (stepP p)).1]) x.bs,(instP L (stepP p)).2)
 else (.mk x.da x.cl x.ins (x.bs++[(bindP L (takeP L p 6 kDef).2).1]),(bindP L (takeP L p 6 kDef).2).2)
def progL:Nat→PS→Pg→Pg × PS
 | 0,p,x=>(x,p)
 | f+1,p,x=>if p.e≠0∨(nxt L p).k=0 then (x,p)
  else progL f (takeP L (declP L p x).2 7 kSemi).2 (declP L p x).1
end
def pg0:Pg:=.mk [] [] [] []
def beginP (s:List Tok × Int × Int):PS:=if s.2.1≠0 then failP ⟨0,0,0,0⟩ s.2.1 s.2.2 else ⟨0,0,0,0⟩
def progT (src:ByteArray):Pg × Int × Int :=
 let r:=progL (scanT src).1 ((scanT src).1.length+1) (beginP (scanT src)) pg0
 if r.2.e≠0 then (pg0,r.2.e,r.2.wh) else (r.1,0,0)
def POk (L:List Tok) (n:Nat) (p:PS):Prop:=p.at_≤L.length∧0≤p.lv∧p.lv≤301∧(p.e=0→301≤p.lv+n∧p.lv≤300)
def Adv (L:List Tok) (p p':PS):Prop:=p.at_≤p'.at_∧p'.at_≤L.length∧p.lv≤p'.lv∧p'.lv≤301∧(p'.e=0→p.e=0∧p'.lv=p.lv)
section
variable {L:List Tok} {n:Nat} {p p' p'':PS}
theorem Adv.trans (h:Adv L p p') (k:Adv L p' p''):Adv L p p'':=by
 unfold Adv at *;exact ⟨by omega,k.2.1,by omega,k.2.2.2.1,fun e=>⟨(h.2.2.2.2 (k.2.2.2.2 e).1).1,by rw [(k.2.2.2.2 e).2,(h.2.2.2.2 (k.2.2.2.2 e).1).2]⟩⟩
theorem Adv.ok (h:Adv L p p') (k:POk L n p):POk L n p':=by
 unfold Adv POk at *
 refine ⟨h.2.1,by omega,h.2.2.2.1,fun e=>?_⟩
 obtain ⟨e1,e2⟩:=h.2.2.2.2 e
 rw [e2];exact k.2.2.2 e1
theorem POk.refl (k:POk L n p):Adv L p p:=by
 unfold POk at k;exact ⟨Nat.le_refl _,k.1,Int.le_refl _,k.2.2.1,fun e=>⟨e,rfl⟩⟩
theorem POk.up {m:Nat} (k:POk L n p) (h:301≤m):POk L m p:=by
 unfold POk at *;exact ⟨k.1,k.2.1,k.2.2.1,fun e=>⟨by omega,(k.2.2.2 e).2⟩⟩
theorem is_k {s:ByteArray} (h:isP L p s=true):6≤(nxt L p).k∧(nxt L p).t=s:=by unfold isP at h;simpa using h
theorem is_lt {s:ByteArray} (h:isP L p s=true):p.e=0∧p.at_<L.length:=Xn (by have:=(is_k h).1;omega)
theorem Xd (k:POk L n p) (h:p.at_<L.length):Adv L p (stepP p):=by
 unfold POk at k;exact ⟨Nat.le_succ _,h,Int.le_refl _,k.2.2.1,fun e=>⟨e,rfl⟩⟩
theorem Yf {s:ByteArray} (k:POk L n p) (h:isP L p s=true):Adv L p (stepP p):=Xd k (is_lt h).2
theorem fail_ne {e wh:Int} (h:e≠0):(failP p e wh).e≠0:=by
 unfold failP;split
 ·exact h
 assumption
theorem fail_adv {e wh:Int} (k:POk L n p) (h:e≠0):Adv L p (failP p e wh):=by
 have h1:(failP p e wh).at_=p.at_:=by unfold failP;split <;> rfl
 have h2:(failP p e wh).lv=p.lv:=by unfold failP;split <;> rfl
 have h3:=fail_ne (p:=p) (wh:=wh) h
 unfold POk at k
 exact ⟨by omega,by omega,by omega,by omega,fun e=>absurd e h3⟩
theorem Zn {kind:Int} {s:ByteArray} (hk:kind≠0) (k:POk L n p):Adv L p (takeP L p kind s).2:=by
 unfold takeP
 by_cases q:p.e≠0
 ·rw [if_pos q];exact k.refl
 rw [if_neg q]
 by_cases q2:(kind<6∧(nxt L p).k≠kind)∨(6≤kind∧((nxt L p).k<6∨(nxt L p).t≠s))
 ·rw [if_pos q2];exact fail_adv k by16
 rw [if_neg q2];exact Xd k (Xn by17).2
theorem take_is {kind:Int} {s:ByteArray} (h:isP L p s=true) (hk:6≤kind):takeP L p kind s=(nxt L p,stepP p):=by
 obtain ⟨h1,h2⟩:=is_k h
 unfold takeP
 rw [if_neg (by rw [(is_lt h).1];simp),if_neg]
 rintro (q|q)
 ·omega
 rcases q.2 with q|q
 ·omega
 exact q h2
theorem take_k {kind:Int} {s:ByteArray} (h:(nxt L p).k=kind) (h0:kind≠0) (hk:kind<6):takeP L p kind s=(nxt L p,stepP p):=by
 unfold takeP
 rw [if_neg (by rw [(Xn (L:=L) (p:=p) by17).1];simp),if_neg]
 rintro (q|q)
 ·exact q.2 h
 omega
theorem deeper_ok (k:POk L (n+1) p) (he:p.e=0):POk L n (deeperP L p):=by
 unfold POk at *
 obtain ⟨k1,k2,k3,k4⟩:=k
 have k4:=k4 he
 unfold deeperP
 by_cases q:300<p.lv+1
 ·rw [if_pos q]
  have h3:=fail_ne (p:={ p with lv:=p.lv+1 }) (e:=111) (wh:=(nxt L { p with lv:=p.lv+1 }).a) by16
  have h1:∀ e wh,(failP { p with lv:=p.lv+1 } e wh).at_=p.at_:=fun e wh=>by unfold failP;split <;> rfl
  have h2:∀ e wh,(failP { p with lv:=p.lv+1 } e wh).lv=p.lv+1:=fun e wh=>by unfold failP;split <;> rfl
  exact ⟨by rw [h1];exact k1,by rw [h2];omega,by rw [h2];omega,fun e=>absurd e h3⟩
 rw [if_neg q]
 exact ⟨k1,by show 0≤p.lv+1;omega,by show p.lv+1≤301;omega,fun _=>⟨by show 301≤p.lv+1+n;omega,by show p.lv+1≤300;omega⟩⟩
theorem deeper_at:(deeperP L p).at_=p.at_∧(deeperP L p).lv=p.lv+1:=by
 unfold deeperP
 split
 ·exact ⟨by unfold failP;split <;> rfl,by unfold failP;split <;> rfl⟩
 exact ⟨U,U⟩
theorem dec_adv {r:PS} (he:p.e=0) (h:Adv L (deeperP L p) r):Adv L p (decP r):=by
 obtain ⟨d1,d2⟩:=deeper_at (L:=L) (p:=p)
 unfold Adv at *
 obtain ⟨h1,h2,h3,h4,h5⟩:=h
 refine ⟨by show p.at_≤r.at_;omega,h2,by show p.lv≤r.lv - 1;omega,by show r.lv - 1≤301;omega,fun e=>⟨he,?_⟩⟩
 have:=h5 e
 show r.lv - 1=p.lv
 omega
theorem name_adv (k:POk L n p):Adv L p (nameP L p).2:=by
 unfold nameP
 by_cases h:isP L p kLP=true
 ·rw [if_pos h]
  have a1:=Yf k h
  have a2:=Zn (kind:=5) (s:=kE) by16 (a1.ok k)
  exact (a1.trans a2).trans (Zn (kind:=7) by16 ((a1.trans a2).ok k))
 rw [if_neg h];exact Zn by16 k
theorem uppersL_adv:∀ (f:Nat) (p:PS) (acc:List ByteArray),POk L n p→Adv L p (uppersL L f p acc).2
 | 0,p,acc,k=>k.refl
 | f+1,p,acc,k=>by
  unfold uppersL
  by_cases h:isP L p kComma=true
  ·rw [if_pos h]
   have a1:=Yf k h
   have a2:=a1.trans (Zn (kind:=2) (s:=kE) by16 (a1.ok k))
   exact a2.trans (uppersL_adv f _ _ (a2.ok k))
  rw [if_neg h];exact k.refl
theorem uppers_adv (k:POk L n p):Adv L p (uppersP L p).2:=by
 have a1:=Zn (L:=L) (kind:=2) (s:=kE) by16 k
 exact a1.trans (uppersL_adv _ _ _ (a1.ok k))
section types
variable {T:PS→Ty × PS} (HT:∀ p,POk L n p→Adv L p (T p).2)
include HT
theorem atype_adv (k:POk L n p):Adv L p (atypeG L T p).2:=by
 unfold atypeG
 by_cases h:(nxt L p).k=2
 ·rw [if_pos h];exact Xd k (Xn by17).2
 by_cases h1:(nxt L p).k=1
 ·rw [if_neg h,if_pos h1];exact Xd k (Xn by17).2
 rw [if_neg h,if_neg h1]
 have a1:=Zn (L:=L) (kind:=7) (s:=kLP) by16 k
 by_cases h2:isP L (takeP L p 7 kLP).2 kRP=true
 ·rw [if_pos h2];exact a1.trans (Yf (a1.ok k) h2)
 rw [if_neg h2]
 have a2:=a1.trans (HT _ (a1.ok k))
 exact a2.trans (Zn by16 (a2.ok k))
theorem atype_lt (k:POk L n p) (hs:startsP L 0 p):p.at_+1≤(atypeG L T p).2.at_:=by
 unfold atypeG
 by_cases h:(nxt L p).k=2
 ·rw [if_pos h];exact Nat.le_refl _
 by_cases h1:(nxt L p).k=1
 ·rw [if_neg h,if_pos h1];exact Nat.le_refl _
 rw [if_neg h,if_neg h1]
 have hl:isP L p kLP=true:=by
  unfold startsP at hs
  rcases hs with q|q|q|q|q|q
  ·exact absurd q h1
  ·exact absurd q h
  ·exact q
  ·omega
  ·omega
  omega
 have e1:=take_is (kind:=7) hl by16
 rw [e1]
 have a1:=Yf k hl
 by_cases h2:isP L (stepP p) kRP=true
 ·rw [if_pos h2];have:=Yf (a1.ok k) h2;exact Nat.le_succ _
 rw [if_neg h2]
 have a2:=HT _ (a1.ok k)
 have a3:=a2.trans (Zn (kind:=7) (s:=kRP) by16 (a2.ok (a1.ok k)))
 exact a3.1
theorem typesL_adv:∀ (f:Nat) (p:PS) (acc:List Ty),POk L n p→Adv L p (typesL L T f p acc).2
 | 0,p,acc,k=>k.refl
 | f+1,p,acc,k=>by
  unfold typesL
  by_cases h:startsP L 0 p
  ·rw [if_pos h]
   have a1:=atype_adv HT k
   exact a1.trans (typesL_adv f _ _ (a1.ok k))
  rw [if_neg h];exact k.refl
theorem typeH_adv (k:POk L n p):Adv L p (typeH L T p).2:=by
 unfold typeH
 by_cases h:(nxt L p).k=2
 ·rw [if_pos h]
  have a1:=Xd k (Xn (L:=L) (p:=p) by17).2
  exact a1.trans (typesL_adv HT _ _ _ (a1.ok k))
 rw [if_neg h];exact atype_adv HT k
end types
theorem typeF_adv:∀ (n:Nat) (p:PS),POk L n p→Adv L p (typeF L n p).2
 | 0,p,k=>k.refl
 | n+1,p,k=>by
  unfold typeF
  by_cases he:p.e≠0
  ·rw [if_pos he];exact k.refl
  rw [if_neg he]
  have he:p.e=0:=Classical.not_not.1 he
  have kq:=deeper_ok k he
  have HT:=typeF_adv n
  have a1:=typeH_adv HT kq
  unfold typeR
  by_cases h:isP L (typeH L (typeF L n) (deeperP L p)).2 kArrow=true
  ·rw [if_pos h]
   have a2:=a1.trans (Yf (a1.ok kq) h)
   exact dec_adv he (a2.trans (HT _ (a2.ok kq)))
  rw [if_neg h];exact dec_adv he a1
theorem typeP_adv (k:POk L n p):Adv L p (typeP L p).2:=typeF_adv 302 p (k.up by16)
section pats
variable {T:PS→Pa × PS} (HT:∀ p,POk L n p→Adv L p (T p).2)
include HT
theorem apat_adv (k:POk L n p):Adv L p (apatG L T p).2:=by
 unfold apatG
 by_cases h:(nxt L p).k=2
 ·rw [if_pos h];exact Xd k (Xn by17).2
 by_cases h1:(nxt L p).k=1
 ·rw [if_neg h,if_pos h1];exact Xd k (Xn by17).2
 by_cases h3:(nxt L p).k=3
 ·rw [if_neg h,if_neg h1,if_pos h3];exact Xd k (Xn by17).2
 by_cases h4:isP L p kUn=true
 ·rw [if_neg h,if_neg h1,if_neg h3,if_pos h4];exact Yf k h4
 rw [if_neg h,if_neg h1,if_neg h3,if_neg h4]
 have a1:=Zn (L:=L) (kind:=7) (s:=kLP) by16 k
 by_cases h2:isP L (takeP L p 7 kLP).2 kRP=true
 ·rw [if_pos h2];exact a1.trans (Yf (a1.ok k) h2)
 rw [if_neg h2]
 have a2:=a1.trans (HT _ (a1.ok k))
 exact a2.trans (Zn by16 (a2.ok k))
theorem apat_lt (k:POk L n p) (hs:startsP L 1 p):p.at_+1≤(apatG L T p).2.at_:=by
 unfold apatG
 by_cases h:(nxt L p).k=2
 ·rw [if_pos h];exact Nat.le_refl _
 by_cases h1:(nxt L p).k=1
 ·rw [if_neg h,if_pos h1];exact Nat.le_refl _
 by_cases h3:(nxt L p).k=3
 ·rw [if_neg h,if_neg h1,if_pos h3];exact Nat.le_refl _
 by_cases h4:isP L p kUn=true
 ·rw [if_neg h,if_neg h1,if_neg h3,if_pos h4];exact Nat.le_refl _
 rw [if_neg h,if_neg h1,if_neg h3,if_neg h4]
 have hl:isP L p kLP=true:=by
  unfold startsP at hs
  rcases hs with q|q|q|q|q|q
  ·exact absurd q h1
  ·exact absurd q h
  ·exact q
  ·exact absurd q.2 h3
  ·exact absurd q.2 h4
  omega
 have e1:=take_is (kind:=7) hl by16
 rw [e1]
 have a1:=Yf k hl
 by_cases h2:isP L (stepP p) kRP=true
 ·rw [if_pos h2];exact Nat.le_succ _
 rw [if_neg h2]
 have a2:=HT _ (a1.ok k)
 have a3:=a2.trans (Zn (kind:=7) (s:=kRP) by16 (a2.ok (a1.ok k)))
 exact a3.1
theorem patsL_adv:∀ (f:Nat) (p:PS) (acc:List Pa),POk L n p→Adv L p (patsL L T f p acc).2
 | 0,p,acc,k=>k.refl
 | f+1,p,acc,k=>by
  unfold patsL
  by_cases h:startsP L 1 p
  ·rw [if_pos h]
   have a1:=apat_adv HT k
   exact a1.trans (patsL_adv f _ _ (a1.ok k))
  rw [if_neg h];exact k.refl
end pats
theorem patF_adv:∀ (n:Nat) (p:PS),POk L n p→Adv L p (patF L n p).2
 | 0,p,k=>k.refl
 | n+1,p,k=>by
  unfold patF
  by_cases he:p.e≠0
  ·rw [if_pos he];exact k.refl
  rw [if_neg he]
  have he:p.e=0:=Classical.not_not.1 he
  have kq:=deeper_ok k he
  have HT:=patF_adv n
  by_cases h:(nxt L (deeperP L p)).k=2
  ·rw [if_pos h]
   have a1:=Xd kq (Xn (L:=L) (p:=deeperP L p) by17).2
   exact dec_adv he (a1.trans (patsL_adv HT _ _ _ (a1.ok kq)))
  rw [if_neg h];exact dec_adv he (apat_adv HT kq)
theorem patP_adv (k:POk L n p):Adv L p (patP L p).2:=patF_adv 302 p (k.up by16)
end
section
variable {L:List Tok} {n:Nat} {p p' p'':PS}
section exps
variable {E:PS→Ex × PS} (HE:∀ p,POk L n p→Adv L p (E p).2)
include HE
theorem bindG_adv (k:POk L n p):Adv L p (bindG L E p).2:=by
 unfold bindG
 have a1:=name_adv k
 have a2:=a1.trans (Zn (kind:=7) (s:=kEq) by16 (a1.ok k))
 exact a2.trans (HE _ (a2.ok k))
theorem bindsL_adv:∀ (f:Nat) (p:PS) (acc:List Bi),POk L n p→Adv L p (bindsL L E f p acc).2
 | 0,p,acc,k=>k.refl
 | f+1,p,acc,k=>by
  unfold bindsL
  by_cases h:isP L p kAnd=true
  ·rw [if_pos h]
   have a1:=Yf k h
   have a2:=a1.trans (bindG_adv HE (a1.ok k))
   exact a2.trans (bindsL_adv f _ _ (a2.ok k))
  rw [if_neg h];exact k.refl
theorem lambda_adv:∀ (f:Nat) (p:PS) (a:Int),POk L n p→Adv L p (lambdaG L E f p a).2
 | 0,p,a,k=>k.refl
 | f+1,p,a,k=>by
  unfold lambdaG
  have a1:=Zn (L:=L) (kind:=1) (s:=kE) by16 k
  by_cases h:(nxt L (takeP L p 1 kE).2).k=1
  ·rw [if_pos h];exact a1.trans (lambda_adv f _ _ (a1.ok k))
  rw [if_neg h]
  have a2:=a1.trans (Zn (kind:=7) (s:=kArrow) by16 (a1.ok k))
  exact a2.trans (HE _ (a2.ok k))
theorem altG_adv (k:POk L n p):Adv L p (altG L E p).2:=by
 unfold altG
 have a1:=patP_adv k
 have a2:=a1.trans (Zn (kind:=7) (s:=kArrow) by16 (a1.ok k))
 exact a2.trans (HE _ (a2.ok k))
theorem altsL_adv:∀ (f:Nat) (p:PS) (acc:List Al),POk L n p→Adv L p (altsL L E f p acc).2
 | 0,p,acc,k=>k.refl
 | f+1,p,acc,k=>by
  unfold altsL
  by_cases he:p.e≠0
  ·rw [if_pos he];exact k.refl
  rw [if_neg he]
  have a1:=altG_adv HE k
  by_cases h:isP L (altG L E p).2 kBar=true
  ·rw [if_pos h]
   have a2:=a1.trans (Yf (a1.ok k) h)
   exact a2.trans (altsL_adv f _ _ (a2.ok k))
  rw [if_neg h];exact a1
theorem caseG_adv (a:Int) (k:POk L n p):Adv L p (caseG L E a p).2:=by
 have a1:=HE _ k
 have a2:=a1.trans (Zn (kind:=6) (s:=kOf) by16 (a1.ok k))
 have a3:=a2.trans (altsL_adv HE (L.length+1) _ [] (a2.ok k))
 exact a3.trans (Zn (kind:=6) (s:=kEnd) by16 (a3.ok k))
omit HE in
theorem annG_adv {a:Int} {x:Ex × PS} (k:POk L n p) (h:Adv L p x.2):Adv L p (annG L a x).2:=by
 unfold annG
 by_cases h1:isP L x.2 kColon=true
 ·rw [if_pos h1]
  have a1:=h.trans (Yf (h.ok k) h1)
  have a2:=a1.trans (typeP_adv (a1.ok k))
  exact a2.trans (Zn by16 (a2.ok k))
 rw [if_neg h1];exact h.trans (Zn by16 (h.ok k))
theorem atom_adv (k:POk L n p):Adv L p (atomG L E p).2:=by
 unfold atomG
 by_cases h1:(nxt L p).k=1
 ·rw [if_pos h1];exact Xd k (Xn by17).2
 by_cases h2:(nxt L p).k=2
 ·rw [if_neg h1,if_pos h2];exact Xd k (Xn by17).2
 by_cases h3:(nxt L p).k=3
 ·rw [if_neg h1,if_neg h2,if_pos h3];exact Xd k (Xn by17).2
 by_cases h4:(nxt L p).k=4
 ·rw [if_neg h1,if_neg h2,if_neg h3,if_pos h4];exact Xd k (Xn by17).2
 by_cases h5:isP L p kCase=true
 ·rw [if_neg h1,if_neg h2,if_neg h3,if_neg h4,if_pos h5]
  have a1:=Yf k h5
  exact a1.trans (caseG_adv HE _ (a1.ok k))
 rw [if_neg h1,if_neg h2,if_neg h3,if_neg h4,if_neg h5]
 have a1:=Zn (L:=L) (kind:=7) (s:=kLP) by16 k
 by_cases h6:isP L (takeP L p 7 kLP).2 kRP=true
 ·rw [if_pos h6];exact a1.trans (Yf (a1.ok k) h6)
 by_cases h7:(nxt L (takeP L p 7 kLP).2).k=5
 ·rw [if_neg h6,if_pos h7]
  have a2:=a1.trans (Zn (kind:=5) (s:=kE) by16 (a1.ok k))
  exact a2.trans (Zn by16 (a2.ok k))
 rw [if_neg h6,if_neg h7]
 exact annG_adv k (a1.trans (HE _ (a1.ok k)))
theorem atom_lt (k:POk L n p) (hs:startsP L 2 p):p.at_+1≤(atomG L E p).2.at_:=by
 unfold atomG
 by_cases h1:(nxt L p).k=1
 ·rw [if_pos h1];exact Nat.le_refl _
 by_cases h2:(nxt L p).k=2
 ·rw [if_neg h1,if_pos h2];exact Nat.le_refl _
 by_cases h3:(nxt L p).k=3
 ·rw [if_neg h1,if_neg h2,if_pos h3];exact Nat.le_refl _
 by_cases h4:(nxt L p).k=4
 ·rw [if_neg h1,if_neg h2,if_neg h3,if_pos h4];exact Nat.le_refl _
 by_cases h5:isP L p kCase=true
 ·rw [if_neg h1,if_neg h2,if_neg h3,if_neg h4,if_pos h5]
  have a1:=Yf k h5
  exact (caseG_adv HE _ (a1.ok k)).1
 rw [if_neg h1,if_neg h2,if_neg h3,if_neg h4,if_neg h5]
 have hl:isP L p kLP=true:=by
  unfold startsP at hs
  rcases hs with q|q|q|q|q|q
  ·exact absurd q h1
  ·exact absurd q h2
  ·exact q
  ·exact absurd q.2 h3
  ·omega
  rcases q.2 with q|q
  ·exact absurd q h4
  exact absurd q h5
 have e1:=take_is (kind:=7) hl by16
 rw [e1]
 have a1:=Yf k hl
 have k1:=a1.ok k
 by_cases h6:isP L (stepP p) kRP=true
 ·rw [if_pos h6];exact Nat.le_succ _
 by_cases h7:(nxt L (stepP p)).k=5
 ·rw [if_neg h6,if_pos h7]
  have a2:=Zn (L:=L) (kind:=5) (s:=kE) by16 k1
  have a3:=a2.trans (Zn (kind:=7) (s:=kRP) by16 (a2.ok k1))
  exact a3.1
 rw [if_neg h6,if_neg h7]
 exact (annG_adv (a:=(nxt L p).a) k1 (HE _ k1)).1
theorem appsL_adv (a:Int):∀ (f:Nat) (p:PS) (x:Ex),POk L n p→Adv L p (appsL L E a f p x).2
 | 0,p,x,k=>k.refl
 | f+1,p,x,k=>by
  unfold appsL
  by_cases h:startsP L 2 p
  ·rw [if_pos h]
   have a1:=atom_adv HE k
   exact a1.trans (appsL_adv a f _ _ (a1.ok k))
  rw [if_neg h];exact k.refl
theorem letG_adv (a m:Int) (k:POk L n p):Adv L p (letG L E a m p).2:=by
 have a1:=bindG_adv HE k
 have a2:=a1.trans (bindsL_adv HE (L.length+1) _ [(bindG L E p).1] (a1.ok k))
 have a3:=a2.trans (Zn (kind:=6) (s:=kIn) by16 (a2.ok k))
 exact a3.trans (HE _ (a3.ok k))
theorem ifG_adv (a:Int) (k:POk L n p):Adv L p (ifG L E a p).2:=by
 have a1:=HE _ k
 have a2:=a1.trans (Zn (kind:=6) (s:=kThen) by16 (a1.ok k))
 have a3:=a2.trans (HE _ (a2.ok k))
 have a4:=a3.trans (Zn (kind:=6) (s:=kElse) by16 (a3.ok k))
 exact a4.trans (HE _ (a4.ok k))
theorem operand_adv (k:POk L n p):Adv L p (operandG L E p).2:=by
 unfold operandG
 by_cases h1:isP L p kBack=true
 ·rw [if_pos h1]
  have a1:=Yf k h1
  exact a1.trans (lambda_adv HE _ _ _ (a1.ok k))
 by_cases h2:isP L p kLet=true
 ·rw [if_neg h1,if_pos h2]
  have a1:=Yf k h2
  by_cases h3:isP L (stepP p) kRec=true
  ·rw [if_pos h3]
   have a2:=a1.trans (Yf (a1.ok k) h3)
   exact a2.trans (letG_adv HE _ _ (a2.ok k))
  rw [if_neg h3];exact a1.trans (letG_adv HE _ _ (a1.ok k))
 by_cases h3:isP L p kIf=true
 ·rw [if_neg h1,if_neg h2,if_pos h3]
  have a1:=Yf k h3
  exact a1.trans (ifG_adv HE _ (a1.ok k))
 rw [if_neg h1,if_neg h2,if_neg h3]
 have a1:=atom_adv HE k
 exact a1.trans (appsL_adv HE _ _ _ _ (a1.ok k))
theorem opsL_adv:∀ (f:Nat) (p:PS) (l:List Ex) (o:List Tok),POk L n p→Adv L p (opsL L E f p l o).2
 | 0,p,l,o,k=>k.refl
 | f+1,p,l,o,k=>by
  unfold opsL
  by_cases h:(nxt L p).k=5
  ·rw [if_pos h]
   have a1:=Zn (L:=L) (kind:=5) (s:=kE) by16 k
   have a2:=a1.trans (operand_adv HE (a1.ok k))
   exact a2.trans (opsL_adv f _ _ _ (a2.ok k))
  rw [if_neg h];exact k.refl
end exps
theorem join_adv {y:(List Ex × List Tok) × PS} (k:POk L (n+1) p) (he:p.e=0) (h:Adv L (deeperP L p) y.2):Adv L p (joinE y).2:=by
 have kq:=deeper_ok k he
 obtain ⟨d1,d2⟩:=deeper_at (L:=L) (p:=p)
 unfold joinE
 by_cases h1:y.2.e≠0
 ·rw [if_pos h1]
  unfold Adv at *
  exact ⟨by dsimp only;omega,h.2.1,by dsimp only;omega,h.2.2.2.1,fun e=>absurd e h1⟩
 rw [if_neg h1]
 by_cases h2:0≤clashP y.1.2
 ·rw [if_pos h2]
  have a:=h.trans (fail_adv (e:=112) (wh:=((y.1.2[(clashP y.1.2).toNat]?).getD (tok0 0)).a) (h.ok kq) by16)
  have hn:=fail_ne (p:=y.2) (e:=112) (wh:=((y.1.2[(clashP y.1.2).toNat]?).getD (tok0 0)).a) by16
  unfold Adv at *
  exact ⟨by dsimp only;omega,a.2.1,by dsimp only;omega,a.2.2.2.1,fun e=>absurd e hn⟩
 rw [if_neg h2];exact dec_adv he h
theorem expF_adv:∀ (n:Nat) (p:PS),POk L n p→Adv L p (expF L n p).2
 | 0,p,k=>k.refl
 | n+1,p,k=>by
  unfold expF
  by_cases he:p.e≠0
  ·rw [if_pos he];exact k.refl
  rw [if_neg he]
  have he:p.e=0:=Classical.not_not.1 he
  have kq:=deeper_ok k he
  have HE:=expF_adv n
  have a1:=operand_adv HE kq
  exact join_adv k he (a1.trans (opsL_adv HE _ _ _ _ (a1.ok kq)))
theorem expP_adv (k:POk L n p):Adv L p (expP L p).2:=expF_adv 302 p (k.up by16)
theorem expP_adv':∀ p,POk L 302 p→Adv L p (expP L p).2:=fun _ k=>expP_adv k
theorem Xe:∀ p,POk L 302 p→Adv L p (typeP L p).2:=fun _ k=>typeP_adv k
theorem bindP_adv (k:POk L 302 p):Adv L p (bindP L p).2:=bindG_adv expP_adv' k
theorem paramsL_adv:∀ (f:Nat) (p:PS) (acc:List ByteArray),POk L n p→Adv L p (paramsL L f p acc).2
 | 0,p,acc,k=>k.refl
 | f+1,p,acc,k=>by
  unfold paramsL
  by_cases h:(nxt L p).k=1
  ·rw [if_pos h]
   have a1:=Zn (L:=L) (kind:=1) (s:=kE) by16 k
   exact a1.trans (paramsL_adv f _ _ (a1.ok k))
  rw [if_neg h];exact k.refl
theorem con_adv (k:POk L 302 p):Adv L p (conP L p).2:=by
 have a1:=Zn (L:=L) (kind:=2) (s:=kE) by16 k
 exact a1.trans (typesL_adv Xe (L.length+1) _ [] (a1.ok k))
theorem consL_adv:∀ (f:Nat) (p:PS) (acc:List Cn),POk L 302 p→Adv L p (consL L f p acc).2
 | 0,p,acc,k=>k.refl
 | f+1,p,acc,k=>by
  unfold consL
  by_cases he:p.e≠0
  ·rw [if_pos he];exact k.refl
  rw [if_neg he]
  have a1:=con_adv k
  by_cases h:isP L (conP L p).2 kBar=true
  ·rw [if_pos h]
   have a2:=a1.trans (Yf (a1.ok k) h)
   exact a2.trans (consL_adv f _ _ (a2.ok k))
  rw [if_neg h];exact a1
theorem deriv_adv (k:POk L n p):Adv L p (derivP L p).2:=by
 unfold derivP
 by_cases h:isP L p kDeriv=true
 ·rw [if_pos h]
  have a1:=Yf k h
  have a2:=a1.trans (Zn (kind:=7) (s:=kLP) by16 (a1.ok k))
  have a3:=a2.trans (uppers_adv (a2.ok k))
  exact a3.trans (Zn by16 (a3.ok k))
 rw [if_neg h];exact k.refl
theorem data_adv (k:POk L 302 p):Adv L p (dataP L p).2:=by
 have a1:=Zn (L:=L) (kind:=2) (s:=kE) by16 k
 have a2:=a1.trans (paramsL_adv (L.length+1) _ [] (a1.ok k))
 have a3:=a2.trans (Zn (kind:=7) (s:=kEq) by16 (a2.ok k))
 have a4:=a3.trans (consL_adv (L.length+1) _ [] (a3.ok k))
 exact a4.trans (deriv_adv (a4.ok k))
theorem clsL_adv:∀ (f:Nat) (p:PS) (ms:List Me) (ds:List Bi),POk L 302 p→Adv L p (clsL L f p ms ds).2
 | 0,p,ms,ds,k=>k.refl
 | f+1,p,ms,ds,k=>by
  unfold clsL
  by_cases he:p.e≠0
  ·rw [if_pos he];exact k.refl
  rw [if_neg he]
  by_cases h:isP L p kEnd=true
  ·rw [if_pos h];exact Yf k h
  rw [if_neg h]
  by_cases h2:isP L p kDef=true
  ·rw [if_pos h2]
   have a1:=Yf k h2
   have a2:=a1.trans (bindP_adv (a1.ok k))
   have a3:=a2.trans (Zn (kind:=7) (s:=kSemi) by16 (a2.ok k))
   exact a3.trans (clsL_adv f _ _ _ (a3.ok k))
  rw [if_neg h2]
  have a1:=name_adv k
  have a2:=a1.trans (Zn (kind:=7) (s:=kColon) by16 (a1.ok k))
  have a3:=a2.trans (typeP_adv (a2.ok k))
  have a4:=a3.trans (Zn (kind:=7) (s:=kSemi) by16 (a3.ok k))
  exact a4.trans (clsL_adv f _ _ _ (a4.ok k))
theorem supers_adv (k:POk L n p):Adv L p (supersP L p).2:=by
 unfold supersP
 by_cases h:isP L p kFrom=true
 ·rw [if_pos h]
  have a1:=Yf k h
  exact a1.trans (uppers_adv (a1.ok k))
 rw [if_neg h];exact k.refl
theorem class_adv (k:POk L 302 p):Adv L p (classP L p).2:=by
 have a1:=Zn (L:=L) (kind:=2) (s:=kE) by16 k
 have a2:=a1.trans (Zn (kind:=1) (s:=kE) by16 (a1.ok k))
 have a3:=a2.trans (supers_adv (a2.ok k))
 have a4:=a3.trans (Zn (kind:=6) (s:=kWhere) by16 (a3.ok k))
 exact a4.trans (clsL_adv (L.length+1) _ [] [] (a4.ok k))
theorem pred_adv (k:POk L n p):Adv L p (predP L p).2:=by
 have a1:=Zn (L:=L) (kind:=2) (s:=kE) by16 k
 exact a1.trans (Zn (kind:=1) (s:=kE) by16 (a1.ok k))
theorem ctxL_adv:∀ (f:Nat) (p:PS) (acc:List Pr),POk L n p→Adv L p (ctxL L f p acc).2
 | 0,p,acc,k=>k.refl
 | f+1,p,acc,k=>by
  unfold ctxL
  by_cases he:p.e≠0
  ·rw [if_pos he];exact k.refl
  rw [if_neg he]
  have a1:=pred_adv k
  by_cases h:isP L (predP L p).2 kComma=true
  ·rw [if_pos h]
   have a2:=a1.trans (Yf (a1.ok k) h)
   exact a2.trans (ctxL_adv f _ _ (a2.ok k))
  rw [if_neg h];exact a1
theorem ctx_adv (k:POk L n p):Adv L p (ctxP L p).2:=by
 unfold ctxP
 by_cases h:isP L p kFrom=true
 ·rw [if_pos h]
  have a1:=Yf k h
  exact a1.trans (ctxL_adv _ _ _ (a1.ok k))
 rw [if_neg h];exact k.refl
theorem insL_adv:∀ (f:Nat) (p:PS) (bs:List Bi),POk L 302 p→Adv L p (insL L f p bs).2
 | 0,p,bs,k=>k.refl
 | f+1,p,bs,k=>by
  unfold insL
  by_cases he:p.e≠0
  ·rw [if_pos he];exact k.refl
  rw [if_neg he]
  by_cases h:isP L p kEnd=true
  ·rw [if_pos h];exact Yf k h
  rw [if_neg h]
  have a1:=Zn (L:=L) (kind:=6) (s:=kDef) by16 k
  have a2:=a1.trans (bindP_adv (a1.ok k))
  have a3:=a2.trans (Zn (kind:=7) (s:=kSemi) by16 (a2.ok k))
  exact a3.trans (insL_adv f _ _ (a3.ok k))
theorem inst_adv (k:POk L 302 p):Adv L p (instP L p).2:=by
 have a1:=Zn (L:=L) (kind:=2) (s:=kE) by16 k
 have a2:=a1.trans (atype_adv Xe (a1.ok k))
 have a3:=a2.trans (ctx_adv (a2.ok k))
 have a4:=a3.trans (Zn (kind:=6) (s:=kWhere) by16 (a3.ok k))
 exact a4.trans (insL_adv (L.length+1) _ [] (a4.ok k))
theorem decl_adv (x:Pg) (k:POk L 302 p):Adv L p (declP L p x).2:=by
 unfold declP
 by_cases h1:isP L p kData=true
 ·rw [if_pos h1];have a:=Yf k h1;exact a.trans (data_adv (a.ok k))
 by_cases h2:isP L p kClass=true
 ·rw [if_neg h1,if_pos h2];have a:=Yf k h2;exact a.trans (class_adv (a.ok k))
 by_cases h3:isP L p kInst=true
 ·rw [if_neg h1,if_neg h2,if_pos h3];have a:=Yf k h3;exact a.trans (inst_adv (a.ok k))
 rw [if_neg h1,if_neg h2,if_neg h3]
 have a1:=Zn (L:=L) (kind:=6) (s:=kDef) by16 k
 exact a1.trans (bindP_adv (a1.ok k))
end
theorem lexF_len:∀ (f:Nat) (i:Int) (l:List Nat) (acc:List Tok),(lexF f i l acc).1.length≤acc.length+l.length+1
 | 0,i,[],acc=>by rw [lexF_nil];simp
 | 0,i,_::_,acc=>by simp [lexF]
 | f+1,i,[],acc=>by rw [lexF_nil];simp
 | f+1,i,c::l,acc=>by
  by_cases h:(oneL i (c::l)).2.2≠0
  ·rw [lexF_bad h];simp
  have h:=Classical.not_not.1 h
  rw [lexF_go h]
  obtain ⟨h1,h2⟩:=oneL_le i c l h
  have:=lexF_len f ((oneL i (c::l)).2.1+ovr false ((c::l).drop ((oneL i (c::l)).2.1 - i).toNat)) (((c::l).drop ((oneL i (c::l)).2.1 - i).toNat).drop (ovr false ((c::l).drop ((oneL i (c::l)).2.1 - i).toNat))) (acc++[(oneL i (c::l)).1])
  simp only [List.length_append,List.length_drop,List.length_cons,List.length_nil] at this ⊢
  omega
theorem scanT_len (s:ByteArray):(scanT s).1.length≤60001:=by
 unfold scanT
 split
 ·simp
 split
 ·simp
 have h:=lexF_len (s.size+1) (ovr false (rst s 0)) ((rst s 0).drop (ovr false (rst s 0))) []
 rw [List.length_drop,rst_len] at h
 simp only [List.length_nil] at h
 omega
def sameB (a b:ByteArray):Bool:=decide (a=b)
theorem Yt {a b:ByteArray}:sameB a b=true↔a=b:=by unfold sameB;simp
def hasB (l:List ByteArray) (s:ByteArray):Bool:=l.any (sameB s)
theorem hasB_iff {l:List ByteArray} {s:ByteArray}:hasB l s=true↔s∈l:=by
 unfold hasB
 rw [List.any_eq_true]
 constructor
 ·rintro ⟨x,hx,h⟩;rw [Yt.1 h];exact hx
 intro h;exact ⟨s,h,Yt.2 rfl⟩
def findI {α:Type} (p:α→Bool):List α→Nat→Int
 | [],_ => -1
 | x::l,i=>if p x=true then i else findI p l (i+1)
theorem findI_lt {α:Type} (p:α→Bool):∀ (l:List α) (i:Nat),findI p l i<i+l.length
 | [],i=>by simp [findI];omega
 | x::l,i=>by
  rw [findI]
  split
  ·simp;omega
  have:=findI_lt p l (i+1);simp at this ⊢;omega
theorem findI_cases {α:Type} (p:α→Bool):∀ (l:List α) (i:Nat),findI p l i = -1∨(i:Int)≤findI p l i
 | [],i=>.inl rfl
 | x::l,i=>by
  rw [findI]
  split
  ·exact .inr (Int.le_refl _)
  rcases findI_cases p l (i+1) with h|h
  ·exact .inl h
  right;omega
theorem findI_get {α:Type} (p:α→Bool):∀ (l:List α) (i:Nat),0≤findI p l i→∃ x,l[(findI p l i).toNat - i]?=some x∧p x=true∧i≤(findI p l i).toNat
 | [],i,h=>by simp [findI] at h
 | x::l,i,h=>by
  rw [findI] at h ⊢
  split
  ·rename_i hp
   refine ⟨x,?_,hp,by simp⟩
   simp
  rename_i hp
  rw [if_neg hp] at h
  obtain ⟨y,h1,h2,h3⟩:=findI_get p l (i+1) h
  refine ⟨y,?_,h2,by omega⟩
  rw [show (findI p l (i+1)).toNat - i=((findI p l (i+1)).toNat - (i+1))+1 by omega]
  simpa using h1
abbrev kIntT:ByteArray:=⟨#[73,110,116]⟩
abbrev kStrT:ByteArray:=⟨#[83,116,114,105,110,103]⟩
abbrev kRefT:ByteArray:=⟨#[82,101,102]⟩
def baseB (s:ByteArray):Bool:=sameB s kIntT || sameB s kStrT || sameB s kRefT || sameB s kArrow
def arityD (s:ByteArray):List Da→Int
 | [] => -1
 | d::l=>if sameB d.s s=true then d.ps.length else arityD s l
def arityR (v:En) (s:ByteArray):Int :=
 if sameB s kIntT=true∨sameB s kStrT=true then 0 else if sameB s kRefT=true then 1 else if sameB s kArrow=true then 2 else arityD s v.da
def headR0 (v:En) (vars:List ByteArray) (k:Int) (s:ByteArray) (n:Nat):Int :=
 if k=1 then (if hasB vars s=true then 0 else 123)
 else if k=3 then (if arityR v s<0 then 121 else if arityR v s≠n then 122 else 0)
 else 123
mutual
def rightR (v:En) (vars:List ByteArray):Ty→Int
 | .mk k s _ ks=>if headR0 v vars k s ks.length≠0 then headR0 v vars k s ks.length else rightsR v vars ks
def rightsR (v:En) (vars:List ByteArray):List Ty→Int
 | []=>0
 | t::l=>if rightR v vars t≠0 then rightR v vars t else rightsR v vars l
end
def classI (v:En) (s:ByteArray):Int:=findI (fun c=>sameB c.s s) v.cl 0
def instI (v:En) (c s:ByteArray):Int:=findI (fun (x:In)=>sameB x.c c && sameB x.hd.name s) v.ins 0
def methI (s:ByteArray):List Cl→Nat→Int × Int
 | [],_=>(-1,-1)
 | c::l,i=>if 0≤findI (fun (m:Me)=>sameB m.s s) c.ms 0 then (i,findI (fun (m:Me)=>sameB m.s s) c.ms 0) else methI s l (i+1)
/- what is above a class -/
def supersOf (v:En) (s:ByteArray):List ByteArray:=((v.cl[(classI v s).toNat]?).map Cl.su).getD []
def overL (O:ByteArray→List ByteArray→List ByteArray):List ByteArray→List ByteArray→List ByteArray
 | [],met=>met
 | s::l,met=>if hasB met s=true then overL O l met else overL O l (O s (met++[s]))
def overF (v:En):Nat→ByteArray→List ByteArray→List ByteArray
 | 0,_,met=>met
 | n+1,c,met=>if classI v c<0 then met else overL (overF v n) (supersOf v c) met
def allSup (v:En):List ByteArray:=v.cl.flatMap Cl.su
def aboveR (v:En) (c:ByteArray):List ByteArray:=overF v ((allSup v).length+1) c []
/- data -/
abbrev Flt:=Int × Int
def f0:Flt:=(0,0)
def datas1:List ByteArray→List Da→Flt
 | _,[]=>f0
 | pre,d::l=>if baseB d.s=true then (120,d.p) else if hasB pre d.s=true then (120,d.p) else datas1 (pre++[d.s]) l
def dupB:List ByteArray→List ByteArray→Bool
 | _,[]=>false
 | pre,x::l=>if hasB pre x=true then true else dupB (pre++[x]) l
def consR (v:En) (ps:List ByteArray):List Cn→List ByteArray→Flt × List ByteArray
 | [],met=>(f0,met)
 | c::l,met=>if hasB met c.s=true then ((120,c.p),met)
  else if 60<c.ts.length then ((3,c.p),met++[c.s])
  else if rightsR v ps c.ts≠0 then ((rightsR v ps c.ts,c.p),met++[c.s])
  else consR v ps l (met++[c.s])
def datas2 (v:En):List Da→List ByteArray→Flt
 | [],_=>f0
 | d::l,met=>if dupB [] d.ps=true then (120,d.p)
  else if (consR v d.ps d.cs met).1.1≠0 then (consR v d.ps d.cs met).1
  else datas2 v l (consR v d.ps d.cs met).2
def datasR (v:En):Flt:=if (datas1 [] v.da).1≠0 then datas1 [] v.da else datas2 v v.da []
/- binds -/
def bndR (ns:List ByteArray):List ByteArray→List Bi→Flt
 | _,[]=>f0
 | pre,.mk s (.mk k _ _ _ _ _ _ _) p::l=>if hasB ns s=false then (121,p) else if hasB pre s=true then (120,p) else if k≠6 then (130,p) else bndR ns (pre++[s]) l
/- classes -/
def classes1:List ByteArray→List Cl→Flt
 | _,[]=>f0
 | met,c::l=>if hasB met c.s=true then (120,c.p) else classes1 (met++[c.s]) l
def supR (met:List ByteArray):List ByteArray→List ByteArray→Int
 | _,[]=>0
 | pre,s::l=>if hasB met s=false then 121 else if hasB pre s=true then 120 else supR met (pre++[s]) l
def classes2 (met:List ByteArray):List Cl→Flt
 | []=>f0
 | c::l=>if supR met [] c.su≠0 then (supR met [] c.su,c.p) else classes2 met l
def classes3 (v:En):List Cl→Flt
 | []=>f0
 | c::l=>if hasB (aboveR v c.s) c.s=true then (124,c.p) else classes3 v l
mutual
def hasVar:Ty→Bool
 | .mk k _ _ ks=>if k=1 then true else hasVars ks
def hasVars:List Ty→Bool
 | []=>false
 | t::l=>if hasVar t=true then true else hasVars l
end
def methE (v:En) (x:ByteArray) (t:Ty):Int:=if rightR v [x] t=0∧hasVar t=false then 123 else rightR v [x] t
def methR (v:En) (x:ByteArray):List Me→List ByteArray→Flt × List ByteArray
 | [],known=>(f0,known)
 | m::l,known=>if hasB known m.s=true then ((120,m.p),known)
  else if methE v x m.t≠0 then ((methE v x m.t,m.p),known++[m.s])
  else methR v x l (known++[m.s])
def classes4 (v:En):List Cl→List ByteArray→Flt
 | [],_=>f0
 | c::l,known=>if (methR v c.v c.ms known).1.1≠0 then (methR v c.v c.ms known).1
  else if (bndR (c.ms.map Me.s) [] c.ds).1≠0 then bndR (c.ms.map Me.s) [] c.ds
  else classes4 v l (methR v c.v c.ms known).2
def classesR (v:En):Flt :=
 if (classes1 [] v.cl).1≠0 then classes1 [] v.cl
 else if (classes2 (v.cl.map Cl.s) v.cl).1≠0 then classes2 (v.cl.map Cl.s) v.cl
 else if (classes3 v v.cl).1≠0 then classes3 v v.cl
 else classes4 v v.cl []
/- instances -/
def varsR (x:In):List ByteArray:=x.hd.kids.map Ty.name
def headL:List ByteArray→List Ty→Int
 | _,[]=>0
 | pre,t::l=>if t.kind≠1∨0<t.kids.length∨hasB pre t.name=true then 127 else headL (pre++[t.name]) l
def headR (v:En) (x:In):Int :=
 if x.hd.kind≠3∨x.hd.name=kArrow∨arityR v x.hd.name<0 then 127
 else if arityR v x.hd.name≠x.hd.kids.length then 122 else headL [] x.hd.kids
def ctxL0 (v:En) (ns:List ByteArray):List Pr→List Pr→Int
 | _,[]=>0
 | pre,p::l=>if classI v p.c<0 then 121 else if p.t.kind≠1∨hasB ns p.t.name=false then 123
  else if (pre.any fun q=>sameB q.c p.c && sameB q.t.name p.t.name)=true then 120 else ctxL0 v ns (pre++[p]) l
def ctxR (v:En) (x:In):Int:=ctxL0 v (varsR x) [] x.cx
def missB (own:List ByteArray):List ByteArray→Bool
 | []=>false
 | m::l=>if hasB own m=false then true else missB own l
def instR1 (v:En) (i:Nat) (x:In) (c:Cl):Flt :=
 if headR v x≠0 then (headR v x,x.p)
 else if instI v x.c x.hd.name<i then (125,x.p)
 else if ctxR v x≠0 then (ctxR v x,x.p)
 else if (bndR (c.ms.map Me.s) [] x.bs).1≠0 then bndR (c.ms.map Me.s) [] x.bs
 else if missB (x.bs.map Bi.s++c.ds.map Bi.s) (c.ms.map Me.s)=true then (128,x.p) else f0
def instR (v:En) (i:Nat) (x:In):Flt :=
 if classI v x.c<0 then (121,x.p) else match v.cl[(classI v x.c).toNat]? with
  | none=>f0
  | some c=>instR1 v i x c
def insts1 (v:En):Nat→List In→Flt
 | _,[]=>f0
 | i,x::l=>if (instR v i x).1≠0 then instR v i x else insts1 v (i+1) l
def givenR (v:En) (x:In) (c n:ByteArray):Bool:=x.cx.any fun p=>sameB p.t.name n && (sameB p.c c || hasB (aboveR v p.c) c)
def supA (v:En) (x:In) (p:Pr):List Ty→Nat→Bool
 | [],_=>true
 | t::l,j=>if sameB t.name p.t.name=true∧givenR v x p.c (((x.hd.kids[j]?).map Ty.name).getD kE)=false then false else supA v x p l (j+1)
def supB (v:En) (x y:In):List Pr→Bool
 | []=>true
 | p::l=>if supA v x p y.hd.kids 0=false then false else supB v x y l
def supC (v:En) (x:In):List ByteArray→Bool
 | []=>true
 | s::l=>match v.ins[(instI v s x.hd.name).toNat]? with
  | none=>false
  | some y=>if instI v s x.hd.name<0 then false else if supB v x y y.cx=false then false else supC v x l
def supersR (v:En) (x:In):Bool:=supC v x (supersOf v x.c)
def insts2 (v:En):List In→Flt
 | []=>f0
 | x::l=>if supersR v x=false then (126,x.p) else insts2 v l
def binds1 (v:En):List ByteArray→List Bi→Flt
 | _,[]=>f0
 | pre,.mk s _ p::l=>if 0≤(methI s v.cl 0).1∨hasB pre s=true then (120,p) else binds1 v (pre++[s]) l
def envOf (p:Pg):En:=.mk p.da p.cl p.ins
def checkR (p:Pg):Flt :=
 let v:=envOf p
 if (datasR v).1≠0 then datasR v
 else if (classesR v).1≠0 then classesR v
 else if (insts1 v 0 v.ins).1≠0 then insts1 v 0 v.ins
 else if (insts2 v v.ins).1≠0 then insts2 v v.ins
 else binds1 v [] p.bs
abbrev kBr:ByteArray:=⟨#[123]⟩
def isBr (s:ByteArray):Bool:=sameB (s.extract 0 1) kBr
def tailB (s:ByteArray):ByteArray:=s.extract 1 s.size
theorem isBr_size {s:ByteArray} (h:isBr s=true):1≤s.size:=by
 unfold isBr at h
 have:=congrArg ByteArray.size (Yt.1 h)
 rw [ByteArray.size_extract] at this
 have h1:kBr.size=1:=rfl
 omega
def arC (v:En) (s:ByteArray):Int:=if 0≤arityR v s then arityR v s else if isBr s=true∧0≤classI v (tailB s) then 1 else -1
mutual
def rightC (v:En) (vs:List ByteArray):Ty→Bool
 | .mk k s _ ks=>(if k=1 then hasB vs s else if k=3 then decide (arC v s=ks.length) else false) && rightCs v vs ks
def rightCs (v:En) (vs:List ByteArray):List Ty→Bool
 | []=>true
 | t::ts=>rightC v vs t && rightCs v vs ts
end
theorem rightCs_all (v:En) (vs:List ByteArray):∀ l:List Ty,rightCs v vs l=l.all (rightC v vs)
 | []=>rfl
 | t::ts=>by rw [rightCs,List.all_cons,rightCs_all v vs ts]
def findL (s:ByteArray):List Cb→Option Cb
 | []=>none
 | b::l=>match findL s l with
  | some c=>some c
  | none=>if sameB b.s s=true then some b else none
theorem findL_snoc (s:ByteArray) (b:Cb):∀ l:List Cb,findL s (l++[b])=if sameB b.s s=true then some b else findL s l
 | []=>by simp [findL]
 | c::l=>by
  rw [List.cons_append,findL,findL_snoc s b l]
  by_cases h:sameB b.s s=true
  ·rw [if_pos h,if_pos h]
  rw [if_neg h,if_neg h,findL]
open Go.RowKit
section
variable {P:Program} {o:Oper} {al:Sl} {M:Mem} {K:AV→Mem→Prop}
theorem op_substrh {x hi:Operand} {t:TypeId} {s:ByteArray} {k':IntKind} {b:Int} {j:Nat} (ho:o.op=.slice t x none (some hi) none) (ht:P.underlying t=some .string) (hx:al.ev x=some (.val (.string s))) (hhi:al.ev hi=some (.val (.int k' b))) (hb:b=j) (hj:j≤s.size) (q:K (.val (.string (s.extract 0 j))) M):OpT P o al M K :=
 OpT.plain fun n B F Mf ac w hi' hs=>by
  refine ⟨_,_,?_,q,.val _⟩
  subst hb
  have h1:(0:Int)≤(j:Int)∧(j:Int)≤(s.size:Int):=⟨by omega,by omega⟩
  simp [execOp,ho,Yo hs hx,Yo hs hhi,Instr.sliceAt,underlying,ht,Instr.slice,Instr.sliceBounds,Instr.sliceBound,asIntOf,hj]
theorem op_substrl {x lo:Operand} {t:TypeId} {s:ByteArray} {k:IntKind} {a:Int} {i:Nat} (ho:o.op=.slice t x (some lo) none none) (ht:P.underlying t=some .string) (hx:al.ev x=some (.val (.string s))) (hlo:al.ev lo=some (.val (.int k a))) (ha:a=i) (hi:i≤s.size) (q:K (.val (.string (s.extract i s.size))) M):OpT P o al M K :=
 OpT.plain fun n B F Mf ac w hi' hs=>by
  refine ⟨_,_,?_,q,.val _⟩
  subst ha
  have h2:(0:Int)≤(i:Int)∧(i:Int)≤(s.size:Int):=⟨by omega,by omega⟩
  simp [execOp,ho,Yo hs hx,Yo hs hlo,Instr.sliceAt,underlying,ht,Instr.slice,Instr.sliceBounds,Instr.sliceBound,asIntOf,hi]
end
theorem EqF_Ty {β:Type} (f:Ty→β) (g:FuncId) (xs ys:List Ty) (hg:∀ x∈xs,∀ y,BCall Tryz.prog g [.agg x.cells,.agg y.cells] (f x=f y)):BCall Tryz.prog 26 [.seq 4 (Ty.cellss xs),.seq 4 (Ty.cellss ys),.clo (.func g) [] []] (xs.map f=ys.map f):=by
 have hlx:=Ty.cellss_len xs
 have hly:=Ty.cellss_len ys
 refine Zc Tryz.func26 U (by kernel_rfl) U (Wc U) ?_
 refine QN ?_
 refine c_lens (t:=0) U (.seq _ _) (fun hmax=>?_)
 refine QbY ?_
 refine QY ?_;intro n11
 refine Qb ?_
 refine QY ?_;intro n13
 refine QP ?_;intro c14 h14
 refine Qa ?_
 obtain ⟨rfl,g14⟩|⟨rfl,g14⟩:=Za h14
 ·refine QaP ?_
  refine QY ?_;intro n16
  refine Qam ?_
  refine Xk (σ:=Nat) (fun zz=>match zz with|i=>[(0,.seq 4 (Ty.cellss xs)),(1,.seq 4 (Ty.cellss ys)),(2,.clo (.func g) [] []),(15,.seq 4 (Ty.cellss xs)),(16,.val (.int .i64 (Ty.cellss xs).length)),(17,.val (.int .i64 i))]) (fun zz=>match zz with|i=>[]) (fun zz=>match zz with|i=>i≤xs.length∧Upto (xs.map f) (ys.map f) i) (fun zz=>match zz with|i=>xs.length - i) (0) ?_ ?_ ?_ ?_
  ·exact ⟨by omega,Upto.zero _ _⟩
  ·exact by5
  ·exact by4
  rintro i hI
  try dsimp only [List.cons_append,List.nil_append] at hI ⊢
  obtain ⟨hi,hu⟩:=hI
  refine Qan ?_;intro c18 h18
  refine Qy ?_
  obtain ⟨rfl,g18⟩|⟨rfl,g18⟩:=Za h18
  ·refine Qad ?_
   exact Ze U U (Xu _) by4 ⟨⟨_,iff_t (hu.eq by13 by13),U⟩,U⟩
  refine Qk ?_
  obtain ⟨⟨k1,s1,n1,ks1⟩,hx⟩:=Zj (l:=xs) (i:=i) by17
  obtain ⟨⟨k2,s2,n2,ks2⟩,hy⟩:=Zj (l:=ys) (i:=i) by17
  have hcx:=Ty.cellss_get hx
  have hcy:=Ty.cellss_get hy
  refine Qh ?_
  refine Qc2 ?_
  refine QE ?_;intro b8
  refine QJ ?_
  refine QO ?_
  refine QB ?_
  refine Qb ?_
  refine Qc2 ?_
  refine QE ?_;intro b9
  refine QO ?_
  refine QB ?_
  refine Qbp ?_
  refine Q9 ?_
  refine Zb 29 U U U (op_callvb (xs:=[.tmp 27,.tmp 28]) U U U (hg _ (Wg hx) ⟨k2,s2,n2,ks2⟩) by2 ?_);intro c29 h29
  refine Q5 ?_;intro c30 h30
  try replace h30:=Ym h30 h29
  refine Qa ?_
  obtain ⟨rfl,g30⟩|⟨rfl,g30⟩:=Za h30
  ·refine Qbu ?_
   exact ⟨i+1,⟨by omega,upto_map f hu hx hy (Classical.not_not.1 g30)⟩,by simp;omega,by5,by4⟩
  refine QD ?_
  exact Ze U U (Xu _) by4 ⟨⟨_,iff_f (map_ne f hx hy g30),U⟩,U⟩
 refine QD ?_
 exact Ze U U (Xu _) by4 ⟨⟨_,iff_f (map_len_ne f by17),U⟩,U⟩
theorem Eqs_Ty {β:Type} (f:Ty→β) (g:FuncId) (xs ys:List Ty) (hg:∀ x∈xs,∀ y,BCall Tryz.prog g [.agg x.cells,.agg y.cells] (f x=f y)):BCall Tryz.prog 50 [.seq 4 (Ty.cellss xs),.seq 4 (Ty.cellss ys),.clo (.func g) [] []] (xs.map f=ys.map f):=by
 have H:=EqF_Ty f g xs ys hg
 refine Zc Tryz.func50 U (by kernel_rfl) U (Wc U) ?_
 refine Qe ?_
 refine QK ?_
 refine Qai ?_
 refine Zb 10 U U U (Zg (xs:=[.tmp 7,.tmp 8,.tmp 9]) U U (H) by2 ?_);intro c10 h10
 refine Qo ?_
 exact Ze U U (Xu _) by4 ⟨⟨_,h10,U⟩,U⟩
theorem tSameType_c (a:Ty):∀ b:Ty,BCall Tryz.prog 25 [.agg a.cells,.agg b.cells] (a=b):=by
 obtain ⟨k1,s1,n1,ks1⟩:=a
 rintro ⟨k2,s2,n2,ks2⟩
 have H:=Eqs_Ty id 25 ks1 ks2 (fun x hx y=>tSameType_c x y)
 refine Zc Tryz.func25 U (by kernel_rfl) U (Wc U) ?_
 refine Qds ?_
 refine Qdf ?_
 refine QG ?_
 refine Zw 4 (Ty.mk k1 s1 n1 ks1=Ty.mk k2 s2 n2 ks2) ?_ _ _ U ?_
 ·skip
  refine Qd ?_
  refine QaE ?_;intro c9 h9
  refine Qb ?_
  obtain ⟨rfl,g9⟩|⟨rfl,g9⟩:=Za h9
  ·skip
   refine QaK ?_
   refine Qv ?_
   refine QaK ?_
   refine Qv ?_
   refine QaK ?_
   refine QC ?_
   refine Wa U ?_ by6 by4
   simp_all
  skip
  refine QA ?_
  refine QA ?_
  refine Qbf ?_;intro c15 h15
  refine Qv ?_
  obtain ⟨rfl,g15⟩|⟨rfl,g15⟩:=Za h15
  ·skip
   refine QaK ?_
   refine Qv ?_
   refine QaK ?_
   refine QC ?_
   refine Wa U ?_ by6 by4
   simp_all
  skip
  refine QA ?_
  refine QA ?_
  refine Qak ?_;intro c22 h22
  refine Qv ?_
  obtain ⟨rfl,g22⟩|⟨rfl,g22⟩:=Za h22
  ·skip
   refine QaK ?_
   refine QC ?_
   refine Wa U ?_ by6 by4
   simp_all
  skip
  refine QA ?_
  refine QA ?_
  refine Zo 29 U U U U U (Zg (xs:=[.tmp 26,.tmp 28,.func 25]) U U (H) by2 ?_);intro c29 h29
  refine QC ?_
  refine Wa U ?_ by6 by4
  simp_all
 intro c4 h4
 refine QI ?_
 exact Ze U U (Xu _) by4 ⟨⟨_,h4,U⟩,U⟩
termination_by SizeOf.sizeOf a
decreasing_by
 have:=List.sizeOf_lt_of_mem hx
 simp;omega
theorem Has_c (xs:List ByteArray) (x:ByteArray):BCall Tryz.prog 21 [.seq 1 (strs xs),.val (.string x)] (x∈xs):=by
 have hlx:=Ya xs
 refine Zc Tryz.func21 U (by kernel_rfl) U (Wc U) ?_
 refine QN ?_
 refine c_lens (t:=0) U (.seq _ _) (fun hmax=>?_)
 refine Ql ?_
 refine Qae ?_
 refine Xk (σ:=Nat) (fun zz=>match zz with|i=>[(0,.seq 1 (strs xs)),(1,.val (.string x)),(5,.val (.int .i64 i))]) (fun zz=>match zz with|i=>[]) (fun zz=>match zz with|i=>i≤xs.length∧x∉xs.take i) (fun zz=>match zz with|i=>xs.length - i) (0) ?_ ?_ ?_ ?_
 ·exact ⟨by omega,by simp⟩
 ·exact by5
 ·exact by4
 rintro i hI
 try dsimp only [List.cons_append,List.nil_append] at hI ⊢
 obtain ⟨hi,hu⟩:=hI
 refine QcV ?_;intro n8
 refine Qg ?_;intro c9 h9
 refine Qa ?_
 obtain ⟨rfl,g9⟩|⟨rfl,g9⟩:=Za h9
 ·refine Qad ?_
  exact Ze U U (Xu _) by4 ⟨⟨_,iff_f (by rwa [List.take_of_length_le by17] at hu),U⟩,U⟩
 refine Qk ?_
 obtain ⟨y,hy⟩:=Zj (l:=xs) (i:=i) by17
 have hcy:=Xc hy
 refine Q8 ?_
 refine Qfg ?_
 refine QaG ?_
 refine Qb ?_
 refine Qas ?_;intro c17 h17
 refine Qa ?_
 obtain ⟨rfl,g17⟩|⟨rfl,g17⟩:=Za h17
 ·refine QL ?_
  exact ⟨i+1,⟨by omega,not_mem_take hu hy g17⟩,by simp;omega,by5,by4⟩
 refine QD ?_
 exact Ze U U (Xu _) by4 ⟨⟨_,iff_t (by rw [← g17];exact Wg hy),U⟩,U⟩
theorem IndexS_c (xs:List ByteArray) (x:ByteArray):PCall Tryz.prog 119 [.seq 1 (strs xs),.val (.string x)] (.val (.int .i64 (firstAt x xs 0))):=by
 have hlx:=Ya xs
 refine Zc Tryz.func119 U (by kernel_rfl) U (Wc U) ?_
 refine QN ?_
 refine c_lens (t:=0) U (.seq _ _) (fun hmax=>?_)
 refine QbY ?_
 refine QbB ?_;intro n7
 refine Qam ?_
 refine Xk (σ:=Nat) (fun zz=>match zz with|i=>[(0,.seq 1 (strs xs)),(1,.val (.string x)),(7,.val (.int .i64 (strs xs).length)),(8,.val (.int .i64 i))]) (fun zz=>match zz with|i=>[]) (fun zz=>match zz with|i=>i≤xs.length∧x∉xs.take i) (fun zz=>match zz with|i=>xs.length - i) (0) ?_ ?_ ?_ ?_
 ·exact ⟨by omega,by simp⟩
 ·exact by5
 ·exact by4
 rintro i hI
 try dsimp only [List.cons_append,List.nil_append] at hI ⊢
 obtain ⟨hi,hu⟩:=hI
 refine Qan ?_;intro c9 h9
 refine Qy ?_
 obtain ⟨rfl,g9⟩|⟨rfl,g9⟩:=Za h9
 ·refine Qad ?_
  refine Ze U U (Xu _) by4 ⟨?_,U⟩
  rw [← firstAt_drop x xs i hu,List.drop_eq_nil_of_le by17,firstAt]
 refine QaV ?_
 refine Q0 ?_
 refine QG ?_
 obtain ⟨y,hy⟩:=Zj (l:=xs) (i:=i) by17
 have hcy:=Xc hy
 refine QaO ?_
 refine Qfg ?_
 refine QaG ?_
 refine Qas ?_;intro c16 h16
 refine Qa ?_
 obtain ⟨rfl,g16⟩|⟨rfl,g16⟩:=Za h16
 ·refine Qbu ?_
  exact ⟨i+1,⟨by omega,not_mem_take hu hy (fun e=>g16 e.symm)⟩,by simp;omega,by5,by4⟩
 refine QaY ?_
 refine Ze U U (Xu _) by4 ⟨?_,U⟩
 rw [← firstAt_drop x xs i hu,Zz hy,firstAt,if_pos g16]
theorem ContainsS_c (xs:List ByteArray) (x:ByteArray):BCall Tryz.prog 72 [.seq 1 (strs xs),.val (.string x)] (x∈xs):=by
 refine Zc Tryz.func72 U (by kernel_rfl) U (Wc U) ?_
 refine Qe ?_
 refine Qbb ?_
 refine Zb 7 U U U (Zd (xs:=[.tmp 5,.tmp 6]) U U (IndexS_c xs x) by2 ?_)
 refine QbS ?_;intro c8 h8
 refine Qo ?_
 exact Ze U U (Xu _) by4 ⟨⟨_,h8.trans (firstAt_nonneg x xs 0),U⟩,U⟩
theorem fun_c (t:Ty):BCall Tryz.prog 146 [.agg t.cells] t.isFun:=by
 obtain ⟨k,s,n,ks⟩:=t
 have hl:=Ty.cellss_len ks
 refine Zc Tryz.func146 U (by kernel_rfl) U (Wc U) ?_
 refine Qa9 ?_;intro b1
 refine QG ?_
 refine Zw 2 (k=3∧s=arrow∧ks.length=2) ?_ _ _ U ?_
 ·skip
  refine Qn ?_
  refine Qz ?_;intro c5 h5
  refine Qb ?_
  obtain ⟨rfl,g5⟩|⟨rfl,g5⟩:=Za h5
  ·skip
   refine Qb1 ?_
   refine Qc3 ?_
   refine Wa U ?_ by6 by4
   first|(simp_all;omega)|simp_all
  skip
  refine Qaq ?_
  refine Qbf ?_;intro c9 h9
  refine Qv ?_
  obtain ⟨rfl,g9⟩|⟨rfl,g9⟩:=Za h9
  ·skip
   refine Qc3 ?_
   refine Wa U ?_ by6 by4
   first|(simp_all;omega)|simp_all
  skip
  refine Qaq ?_
  refine QbC ?_;intro n14
  refine Qak ?_;intro c15 h15
  refine QC ?_
  refine Wa U ?_ by6 by4
  first|(simp_all;omega)|simp_all
 intro c2 h2
 refine QI ?_
 exact Ze U U (Xu _) by4 ⟨⟨_,h2,U⟩,U⟩
theorem IsFun_c (t:Ty):BCall Tryz.prog 131 [.agg t.cells] t.isFun:=by
 obtain ⟨k,s,n,ks⟩:=t
 have hl:=Ty.cellss_len ks
 refine Zc Tryz.func131 U (by kernel_rfl) U (Wc U) ?_
 refine Qa9 ?_;intro b1
 refine QG ?_
 refine Zw 2 (k=3∧s=arrow∧ks.length=2) ?_ _ _ U ?_
 ·skip
  refine Qn ?_
  refine Qz ?_;intro c5 h5
  refine Qb ?_
  obtain ⟨rfl,g5⟩|⟨rfl,g5⟩:=Za h5
  ·skip
   refine Qb1 ?_
   refine Qc3 ?_
   refine Wa U ?_ by6 by4
   first|(simp_all;omega)|simp_all
  skip
  refine Qaq ?_
  refine Qbf ?_;intro c9 h9
  refine Qv ?_
  obtain ⟨rfl,g9⟩|⟨rfl,g9⟩:=Za h9
  ·skip
   refine Qc3 ?_
   refine Wa U ?_ by6 by4
   first|(simp_all;omega)|simp_all
  skip
  refine Qaq ?_
  refine QbC ?_;intro n14
  refine Qak ?_;intro c15 h15
  refine QC ?_
  refine Wa U ?_ by6 by4
  first|(simp_all;omega)|simp_all
 intro c2 h2
 refine QI ?_
 exact Ze U U (Xu _) by4 ⟨⟨_,h2,U⟩,U⟩
theorem rFun_c (a b:Ty):PCall Tryz.prog 132 [.agg a.cells,.agg b.cells] (.agg (Ty.mk 3 arrow 0 [a,b]).cells):=by
 obtain ⟨k1,s1,n1,ks1⟩:=a
 obtain ⟨k2,s2,n2,ks2⟩:=b
 refine Zc Tryz.func132 U (by kernel_rfl) U (Wc U) ?_
 refine Qa9 ?_;intro b2
 refine QdG ?_;intro b3
 refine QE ?_;intro b4
 refine Qu ?_
 refine Qcq ?_
 refine Qbp ?_
 refine Qgh ?_
 refine Zb 8 U U U (Zm (ns:=[0,1,3]) (xs:=[.const (.int .i64 3),.const (.string ⟨#[45,62]⟩),.tmp 7]) U tz_24 U tfl_24 U U U U ?_)
 refine Qc4 ?_
 exact Zk (i:=0) U U U Zx U by3 by4 ⟨U,U⟩
theorem kids_c (t:Ty) (ks:List Ty):PCall Tryz.prog 95 [.agg t.cells,.seq 4 (Ty.cellss ks)] (.agg (Ty.mk t.kind t.name t.num ks).cells):=by
 obtain ⟨k1,s1,n1,ks1⟩:=t
 refine Zc Tryz.func95 U (by kernel_rfl) U (Wc U) ?_
 refine Qa9 ?_;intro b2
 refine QE ?_;intro b4
 refine Qu ?_
 refine Qao ?_
 refine Qao ?_
 refine Qao ?_
 refine Qb ?_
 refine Zb 12 U U U (Zm (ns:=[0,1,2,3]) (xs:=[.tmp 6,.tmp 8,.tmp 10,.tmp 11]) U tz_24 U tfl_24 U U U U ?_)
 refine Qc4 ?_
 exact Zk (i:=0) U U U Zx U by3 by4 ⟨U,U⟩
theorem CloneT_c (ks:List Ty) (hb:ks.length≤100000000):PCall Tryz.prog 143 [.seq 4 (Ty.cellss ks)] (.seq 4 (Ty.cellss ks)):=by
 have hl:=Ty.cellss_len ks
 refine Zc Tryz.func143 U (by kernel_rfl) U (Wc U) ?_
 refine Qe ?_
 refine QU ?_
 refine Zb 4 U U U (op_isnil U tu_22 U (.seq _ _) ?_)
 intro c4 h4
 refine Qa ?_
 rcases c4 with _|_
 ·refine QV ?_
  refine Zb 5 U U U (Ys (xs:=[]) Xj U U U U U U (Wc U) ?_);intro u5
  refine Qb ?_
  refine Qgi ?_
  intro u7
  refine Qo ?_
  exact Ze U U (Le.own _ _ _) by4 ⟨U,U⟩
 refine QD ?_
 exact Ze U U (by rw [h4 rfl];exact Xx 4) by4 ⟨U,U⟩
theorem Con_c (s:ByteArray) (ks:List Ty) (hb:ks.length≤100000000):PCall Tryz.prog 83 [.val (.string s),.seq 4 (Ty.cellss ks)] (.agg (Ty.mk 3 s 0 ks).cells):=by
 refine Zc Tryz.func83 U (by kernel_rfl) U (Wc U) ?_
 refine Qe ?_
 refine QE ?_;intro b4
 refine QB ?_
 refine Qb ?_
 refine Zb 7 U U U (Zd (xs:=[.tmp 6]) U U (CloneT_c ks hb) by2 ?_)
 refine Zb 8 U U U (Zm (ns:=[0,1,3]) (xs:=[.const (.int .i64 3),.tmp 5,.tmp 7]) U tz_24 U tfl_24 U U U U ?_)
 refine Qc4 ?_
 exact Zk (i:=0) U U U Zx U by3 by4 ⟨U,U⟩
theorem Fun_c (a b:Ty):PCall Tryz.prog 88 [.agg a.cells,.agg b.cells] (.agg (Ty.mk 3 arrow 0 [a,b]).cells):=by
 obtain ⟨k1,s1,n1,ks1⟩:=a
 obtain ⟨k2,s2,n2,ks2⟩:=b
 refine Zc Tryz.func88 U (by kernel_rfl) U (Wc U) ?_
 refine Qa9 ?_;intro b2
 refine QdG ?_;intro b3
 refine QE ?_;intro b4
 refine Qu ?_
 refine Qcq ?_
 refine Qbp ?_
 refine Qgh ?_
 refine Zb 8 U U U (Zd (xs:=[.const (.string ⟨#[45,62]⟩),.tmp 7]) U U (Con_c arrow [.mk k1 s1 n1 ks1,.mk k2 s2 n2 ks2] by18) by2 ?_)
 refine Qc4 ?_
 exact Zk (i:=0) U U U Zx U by3 by4 ⟨U,U⟩
theorem findI_any {α:Type} {p:α→Bool} {l:List α}:0≤findI p l 0↔l.any p=true:=by
 have key:∀ (l:List α) (i:Nat),0≤findI p l i↔l.any p=true:=by
  intro l
  induction l with
  | nil=>intro i;simp [findI]
  | cons x l ih =>
   intro i
   rw [findI,List.any_cons]
   cases h:p x with
   | true=>simp
   | false=>simp [ih]
 exact key l 0
theorem any_not {α:Type} {p:α→Bool} {l:List α}:¬ l.any (fun x => !p x)=true↔l.all p=true:=by
 induction l with
 | nil=>simp
 | cons x l ih =>
  rw [List.any_cons,List.all_cons]
  cases h:p x with
  | true=>simp
  | false=>simp
theorem IxF_Ty (p:Ty→Bool) (g:FuncId) (fs cs:List AV) (l:List Ty) (hg:∀ x∈l,BCall Tryz.prog g (fs++[.agg x.cells]++cs) (p x=true)):PCall Tryz.prog 179 [.seq 4 (Ty.cellss l),.clo (.func g) fs cs] (.val (.int .i64 (findI p l 0))):=by
 have hl:=Ty.cellss_len l
 obtain ⟨r,hr⟩:∃ r,findI p l 0=r:=⟨_,rfl⟩
 rw [hr]
 refine Zc Tryz.func179 U (by kernel_rfl) U (Wc U) ?_
 refine QN ?_
 refine c_lens (t:=0) U (.seq _ _) (fun hmax=>?_)
 refine QbY ?_
 refine QY ?_;intro n7
 refine Qam ?_
 apply Zu (rg [(2,5),(8,11)]) (σ:=Nat) (fun zz=>match zz with|i=>[(8,.val (.int .i64 i))]) (fun zz=>match zz with|i=>i≤l.length∧findI p (l.drop i) i=r) (fun zz=>match zz with|i=>l.length - i) (0)
 ·repeat' (first|exact Wf|apply Wd rfl|apply We rfl)
 ·exact ⟨by omega,hr⟩
 ·exact by5
 rintro i hI
 try dsimp only [List.cons_append,List.nil_append] at hI ⊢
 obtain ⟨hi,hu⟩:=hI
 refine Qan ?_;intro c9 h9
 refine Qy ?_
 obtain ⟨rfl,g9⟩|⟨rfl,g9⟩:=Za h9
 ·refine Qad ?_
  rw [List.drop_eq_nil_of_le by17,findI] at hu;exact Ze rfl rfl (Xu _) by4 ⟨by rw [← hu],rfl⟩
 refine Qk ?_
 obtain ⟨⟨yk,ys,yn,yl⟩,hxy⟩:=Zj (l:=l) (i:=i) by8
 have hcy:=Ty.cellss_get hxy
 have hmy:=Wg hxy
 refine Qh ?_
 refine QG ?_
 rw [Zz hxy,findI] at hu
 have HG:=hg _ hmy
 refine QaO ?_
 refine Zb 14 U U U (Zh U te_22 U (.seq _ _) U U (hcy) ?_)
 refine Q7 ?_
 refine Zb 16 U U U (op_callvb (xs:=[.tmp 15]) U U U (HG) by2 ?_);intro c16 h16
 refine Qa ?_
 obtain ⟨rfl,g16⟩|⟨rfl,g16⟩:=Za h16
 ·refine Qbu ?_
  rw [if_neg g16] at hu;exact ⟨i+1,⟨by omega,hu⟩,by show l.length - (i+1)<l.length - i;omega,by5,by4⟩
 refine QaY ?_
 rw [if_pos g16] at hu;exact Ze rfl rfl (Xu _) by4 ⟨by rw [hu],rfl⟩
theorem CoF_Ty (p:Ty→Bool) (g:FuncId) (fs cs:List AV) (l:List Ty) (hg:∀ x∈l,BCall Tryz.prog g (fs++[.agg x.cells]++cs) (p x=true)):BCall Tryz.prog 138 [.seq 4 (Ty.cellss l),.clo (.func g) fs cs] (l.any p=true):=by
 have H:=IxF_Ty p g fs cs l hg
 have hf:=findI_any (p:=p) (l:=l)
 refine Zc Tryz.func138 U (by kernel_rfl) U (Wc U) ?_
 refine Qe ?_
 refine Qbb ?_
 refine Zb 7 U U U (Zd (xs:=[.tmp 5,.tmp 6]) U U (H) by2 ?_)
 refine QbS ?_;intro c8 h8
 refine Qo ?_
 exact Ze U U (Xu _) by4 ⟨⟨_,h8.trans hf,U⟩,U⟩
theorem all1_Ty (p:Ty→Bool) (g:FuncId) (fs cs:List AV) (x:Ty) (hg:BCall Tryz.prog g (fs++[.agg x.cells]++cs) (p x=true)):BCall Tryz.prog 139 [.agg x.cells,.cptr [.clo (.func g) fs cs]] ((!p x)=true):=by
 have hp:(!p x)=true↔¬ p x=true:=by simp
 generalize ((!p x)=true)=Q at *
 generalize hq:(p x=true)=q at *
 clear hq
 obtain ⟨k, s, n, ks⟩:=x
 refine Zc Tryz.func139 U (by kernel_rfl) U (Wc U) ?_
 refine Qds ?_
 refine Qs ?_
 refine QaG ?_
 refine Q7 ?_
 refine Zb 6 U U U (op_callvb (xs:=[.tmp 5]) U U U (hg) by2 ?_);intro c6 h6
 refine Q5 ?_;intro c7 h7
 try replace h7:=Ym h7 h6
 refine Qo ?_
 exact Ze U U (Xu _) (Xp _) ⟨⟨_,h7.trans hp.symm,U⟩,U⟩
theorem all_Ty (p:Ty→Bool) (g:FuncId) (fs cs:List AV) (l:List Ty) (hg:∀ x∈l,BCall Tryz.prog g (fs++[.agg x.cells]++cs) (p x=true)):BCall Tryz.prog 79 [.seq 4 (Ty.cellss l),.clo (.func g) fs cs] (l.all p=true):=by
 have H:=CoF_Ty (fun x => !p x) 139 [] [.cptr [.clo (.func g) fs cs]] l (fun x hx=>all1_Ty p g fs cs x (hg x hx))
 have hf:=any_not (p:=p) (l:=l)
 refine Zc Tryz.func79 U (by kernel_rfl) U (Wc U) ?_
 refine Qe ?_
 refine Qcr ?_
 refine QK ?_
 refine Qdi ?_
 refine Zb 7 U U U (Zg (xs:=[.tmp 5,.tmp 6]) U U (H) by2 ?_);intro c7 h7
 refine Q5 ?_;intro c8 h8
 try replace h8:=Ym h8 h7
 refine Qo ?_
 exact Ze U U (Xu _) (Xp _) ⟨⟨_,h8.trans hf,U⟩,U⟩
theorem IxF_Cb (p:Cb→Bool) (g:FuncId) (fs cs:List AV) (l:List Cb) (hg:∀ x∈l,BCall Tryz.prog g (fs++[.agg x.cells]++cs) (p x=true)):PCall Tryz.prog 68 [.seq 17 (Cb.cellss l),.clo (.func g) fs cs] (.val (.int .i64 (findI p l 0))):=by
 have hl:=Cb.cellss_len l
 obtain ⟨r,hr⟩:∃ r,findI p l 0=r:=⟨_,rfl⟩
 rw [hr]
 refine Zc Tryz.func68 U (by kernel_rfl) U (Wc U) ?_
 refine QN ?_
 refine c_lens (t:=0) U (.seq _ _) (fun hmax=>?_)
 refine QbY ?_
 refine QcK ?_;intro n7
 refine Qam ?_
 apply Zu (rg [(2,5),(8,11)]) (σ:=Nat) (fun zz=>match zz with|i=>[(8,.val (.int .i64 i))]) (fun zz=>match zz with|i=>i≤l.length∧findI p (l.drop i) i=r) (fun zz=>match zz with|i=>l.length - i) (0)
 ·repeat' (first|exact Wf|apply Wd rfl|apply We rfl)
 ·exact ⟨by omega,hr⟩
 ·exact by5
 rintro i hI
 try dsimp only [List.cons_append,List.nil_append] at hI ⊢
 obtain ⟨hi,hu⟩:=hI
 refine Qan ?_;intro c9 h9
 refine Qy ?_
 obtain ⟨rfl,g9⟩|⟨rfl,g9⟩:=Za h9
 ·refine Qad ?_
  rw [List.drop_eq_nil_of_le by17,findI] at hu;exact Ze rfl rfl (Xu _) by4 ⟨by rw [← hu],rfl⟩
 refine Qk ?_
 obtain ⟨⟨yb,yvs,⟨ywk,yws,ywn,ywl⟩,⟨yk,ys,yn,⟨ytk,yts,ytn,ytl⟩,yus,yks,yal,ybs⟩⟩,hxy⟩:=Zj (l:=l) (i:=i) by8
 have hcy:=Cb.cellss_get hxy
 have hmy:=Wg hxy
 refine Qh ?_
 refine QG ?_
 rw [Zz hxy,findI] at hu
 have HG:=hg _ hmy
 refine QaO ?_
 refine Zb 14 U U U (Zh U te_27 U (.seq _ _) U U (hcy) ?_)
 refine QdJ ?_
 refine Zb 16 U U U (op_callvb (xs:=[.tmp 15]) U U U (HG) by2 ?_);intro c16 h16
 refine Qa ?_
 obtain ⟨rfl,g16⟩|⟨rfl,g16⟩:=Za h16
 ·refine Qbu ?_
  rw [if_neg g16] at hu;exact ⟨i+1,⟨by omega,hu⟩,by show l.length - (i+1)<l.length - i;omega,by5,by4⟩
 refine QaY ?_
 rw [if_pos g16] at hu;exact Ze rfl rfl (Xu _) by4 ⟨by rw [hu],rfl⟩
theorem CoF_Cb (p:Cb→Bool) (g:FuncId) (fs cs:List AV) (l:List Cb) (hg:∀ x∈l,BCall Tryz.prog g (fs++[.agg x.cells]++cs) (p x=true)):BCall Tryz.prog 42 [.seq 17 (Cb.cellss l),.clo (.func g) fs cs] (l.any p=true):=by
 have H:=IxF_Cb p g fs cs l hg
 have hf:=findI_any (p:=p) (l:=l)
 refine Zc Tryz.func42 U (by kernel_rfl) U (Wc U) ?_
 refine Qe ?_
 refine Qbb ?_
 refine Zb 7 U U U (Zd (xs:=[.tmp 5,.tmp 6]) U U (H) by2 ?_)
 refine QbS ?_;intro c8 h8
 refine Qo ?_
 exact Ze U U (Xu _) by4 ⟨⟨_,h8.trans hf,U⟩,U⟩
theorem all1_Cb (p:Cb→Bool) (g:FuncId) (fs cs:List AV) (x:Cb) (hg:BCall Tryz.prog g (fs++[.agg x.cells]++cs) (p x=true)):BCall Tryz.prog 182 [.agg x.cells,.cptr [.clo (.func g) fs cs]] ((!p x)=true):=by
 have hp:(!p x)=true↔¬ p x=true:=by simp
 generalize ((!p x)=true)=Q at *
 generalize hq:(p x=true)=q at *
 clear hq
 obtain ⟨b, vs, ⟨wk, ws, wn, wl⟩, ⟨k, s, n, ⟨tk, ts, tn, tl⟩, us, ks, al, bs⟩⟩:=x
 refine Zc Tryz.func182 U (by kernel_rfl) U (Wc U) ?_
 refine Qe ?_
 refine Qea ?_
 refine Qs ?_
 refine QaG ?_
 refine QdJ ?_
 refine Zb 6 U U U (op_callvb (xs:=[.tmp 5]) U U U (hg) by2 ?_);intro c6 h6
 refine Q5 ?_;intro c7 h7
 try replace h7:=Ym h7 h6
 refine Qo ?_
 exact Ze U U (Xu _) (Xp _) ⟨⟨_,h7.trans hp.symm,U⟩,U⟩
theorem all_Cb (p:Cb→Bool) (g:FuncId) (fs cs:List AV) (l:List Cb) (hg:∀ x∈l,BCall Tryz.prog g (fs++[.agg x.cells]++cs) (p x=true)):BCall Tryz.prog 149 [.seq 17 (Cb.cellss l),.clo (.func g) fs cs] (l.all p=true):=by
 have H:=CoF_Cb (fun x => !p x) 182 [] [.cptr [.clo (.func g) fs cs]] l (fun x hx=>all1_Cb p g fs cs x (hg x hx))
 have hf:=any_not (p:=p) (l:=l)
 refine Zc Tryz.func149 U (by kernel_rfl) U (Wc U) ?_
 refine Qe ?_
 refine Qcr ?_
 refine QK ?_
 refine Qdi ?_
 refine Zb 7 U U U (Zg (xs:=[.tmp 5,.tmp 6]) U U (H) by2 ?_);intro c7 h7
 refine Q5 ?_;intro c8 h8
 try replace h8:=Ym h8 h7
 refine Qo ?_
 exact Ze U U (Xu _) (Xp _) ⟨⟨_,h8.trans hf,U⟩,U⟩
theorem IxF_Ca (p:Ca→Bool) (g:FuncId) (fs cs:List AV) (l:List Ca) (hg:∀ x∈l,BCall Tryz.prog g (fs++[.agg x.cells]++cs) (p x=true)):PCall Tryz.prog 208 [.seq 16 (Ca.cellss l),.clo (.func g) fs cs] (.val (.int .i64 (findI p l 0))):=by
 have hl:=Ca.cellss_len l
 obtain ⟨r,hr⟩:∃ r,findI p l 0=r:=⟨_,rfl⟩
 rw [hr]
 refine Zc Tryz.func208 U (by kernel_rfl) U (Wc U) ?_
 refine QN ?_
 refine c_lens (t:=0) U (.seq _ _) (fun hmax=>?_)
 refine QbY ?_
 refine Qfl ?_;intro n7
 refine Qam ?_
 apply Zu (rg [(2,5),(8,11)]) (σ:=Nat) (fun zz=>match zz with|i=>[(8,.val (.int .i64 i))]) (fun zz=>match zz with|i=>i≤l.length∧findI p (l.drop i) i=r) (fun zz=>match zz with|i=>l.length - i) (0)
 ·repeat' (first|exact Wf|apply Wd rfl|apply We rfl)
 ·exact ⟨by omega,hr⟩
 ·exact by5
 rintro i hI
 try dsimp only [List.cons_append,List.nil_append] at hI ⊢
 obtain ⟨hi,hu⟩:=hI
 refine Qan ?_;intro c9 h9
 refine Qy ?_
 obtain ⟨rfl,g9⟩|⟨rfl,g9⟩:=Za h9
 ·refine Qad ?_
  rw [List.drop_eq_nil_of_le by17,findI] at hu;exact Ze rfl rfl (Xu _) by4 ⟨by rw [← hu],rfl⟩
 refine Qk ?_
 obtain ⟨⟨⟨yqk,yqs,yqn,yql,yqp⟩,⟨yk,ys,yn,⟨ytk,yts,ytn,ytl⟩,yus,yks,yal,ybs⟩⟩,hxy⟩:=Zj (l:=l) (i:=i) by8
 have hcy:=Ca.cellss_get hxy
 have hmy:=Wg hxy
 refine Qh ?_
 refine QG ?_
 rw [Zz hxy,findI] at hu
 have HG:=hg _ hmy
 refine QaO ?_
 refine Zb 14 U U U (Zh U te_26 U (.seq _ _) U U (hcy) ?_)
 refine Qgj ?_
 refine Zb 16 U U U (op_callvb (xs:=[.tmp 15]) U U U (HG) by2 ?_);intro c16 h16
 refine Qa ?_
 obtain ⟨rfl,g16⟩|⟨rfl,g16⟩:=Za h16
 ·refine Qbu ?_
  rw [if_neg g16] at hu;exact ⟨i+1,⟨by omega,hu⟩,by show l.length - (i+1)<l.length - i;omega,by5,by4⟩
 refine QaY ?_
 rw [if_pos g16] at hu;exact Ze rfl rfl (Xu _) by4 ⟨by rw [hu],rfl⟩
theorem CoF_Ca (p:Ca→Bool) (g:FuncId) (fs cs:List AV) (l:List Ca) (hg:∀ x∈l,BCall Tryz.prog g (fs++[.agg x.cells]++cs) (p x=true)):BCall Tryz.prog 183 [.seq 16 (Ca.cellss l),.clo (.func g) fs cs] (l.any p=true):=by
 have H:=IxF_Ca p g fs cs l hg
 have hf:=findI_any (p:=p) (l:=l)
 refine Zc Tryz.func183 U (by kernel_rfl) U (Wc U) ?_
 refine Qe ?_
 refine Qbb ?_
 refine Zb 7 U U U (Zd (xs:=[.tmp 5,.tmp 6]) U U (H) by2 ?_)
 refine QbS ?_;intro c8 h8
 refine Qo ?_
 exact Ze U U (Xu _) by4 ⟨⟨_,h8.trans hf,U⟩,U⟩
theorem all1_Ca (p:Ca→Bool) (g:FuncId) (fs cs:List AV) (x:Ca) (hg:BCall Tryz.prog g (fs++[.agg x.cells]++cs) (p x=true)):BCall Tryz.prog 184 [.agg x.cells,.cptr [.clo (.func g) fs cs]] ((!p x)=true):=by
 have hp:(!p x)=true↔¬ p x=true:=by simp
 generalize ((!p x)=true)=Q at *
 generalize hq:(p x=true)=q at *
 clear hq
 obtain ⟨⟨qk, qs, qn, ql, qp⟩, ⟨k, s, n, ⟨tk, ts, tn, tl⟩, us, ks, al, bs⟩⟩:=x
 refine Zc Tryz.func184 U (by kernel_rfl) U (Wc U) ?_
 refine Qe ?_
 refine Qfm ?_
 refine Qs ?_
 refine QaG ?_
 refine Qgj ?_
 refine Zb 6 U U U (op_callvb (xs:=[.tmp 5]) U U U (hg) by2 ?_);intro c6 h6
 refine Q5 ?_;intro c7 h7
 try replace h7:=Ym h7 h6
 refine Qo ?_
 exact Ze U U (Xu _) (Xp _) ⟨⟨_,h7.trans hp.symm,U⟩,U⟩
theorem all_Ca (p:Ca→Bool) (g:FuncId) (fs cs:List AV) (l:List Ca) (hg:∀ x∈l,BCall Tryz.prog g (fs++[.agg x.cells]++cs) (p x=true)):BCall Tryz.prog 150 [.seq 16 (Ca.cellss l),.clo (.func g) fs cs] (l.all p=true):=by
 have H:=CoF_Ca (fun x => !p x) 184 [] [.cptr [.clo (.func g) fs cs]] l (fun x hx=>all1_Ca p g fs cs x (hg x hx))
 have hf:=any_not (p:=p) (l:=l)
 refine Zc Tryz.func150 U (by kernel_rfl) U (Wc U) ?_
 refine Qe ?_
 refine Qcr ?_
 refine QK ?_
 refine Qdi ?_
 refine Zb 7 U U U (Zg (xs:=[.tmp 5,.tmp 6]) U U (H) by2 ?_);intro c7 h7
 refine Q5 ?_;intro c8 h8
 try replace h8:=Ym h8 h7
 refine Qo ?_
 exact Ze U U (Xu _) (Xp _) ⟨⟨_,h8.trans hf,U⟩,U⟩
theorem rAnswer_c (d:Nat):∀ t:Ty,t.size≤d→PCall Tryz.prog 136 [.agg t.cells] (.agg t.ans.cells):=by
 induction d with
 | zero=>intro t hd;have:=Ty.size_pos t;omega
 | succ d ih =>
  rintro ⟨k,s,n,ks⟩ hd
  refine Zc Tryz.func136 U (by kernel_rfl) U (Wc U) ?_
  refine Qa9 ?_;intro b1
  refine QE ?_;intro b2
  refine Qa8 ?_
  refine Qbp ?_
  refine Zb 4 U U U (Zg (xs:=[.tmp 3]) U U (IsFun_c (.mk k s n ks)) by2 ?_);intro c4 h4
  refine Qa ?_
  obtain ⟨rfl,g4⟩|⟨rfl,g4⟩:=Za h4
  ·refine QV ?_
   refine Qbp ?_
   refine Qc4 ?_
   rw [Ty.ans_not g4]
   exact Zk (i:=0) U U U Zx U by3 by4 ⟨U,U⟩
  refine QM ?_
  obtain ⟨n',a,⟨kb,sb,nb,kks⟩,e⟩:=Ty.fun_kids g4
  cases e
  have H:=ih (.mk kb sb nb kks) (by simp [Ty.size,Ty.sizes] at hd ⊢;omega)
  rw [Ty.ans_fun]
  generalize Ty.ans _=r at H ⊢
  obtain ⟨k',s',n'',ks'⟩:=r
  refine Qdt ?_
  refine QeK ?_
  refine Q7 ?_
  refine Zb 9 U U U (Zd (xs:=[.tmp 8]) U U (H) by2 ?_)
  refine Qc4 ?_
  exact Zk (i:=0) U U U Zx U by3 by4 ⟨U,U⟩
theorem rArgs_c (d:Nat):∀ t:Ty,t.size≤d→t.size≤1000000→OCall Tryz.prog 135 [.agg t.cells] 24 4 (Ty.cellss t.args):=by
 induction d with
 | zero=>intro t hd;have:=Ty.size_pos t;omega
 | succ d ih =>
  rintro ⟨k,s,n,ks⟩ hd hmx
  refine Zc Tryz.func135 U (by kernel_rfl) U (Wc U) ?_
  refine Qa9 ?_;intro b1
  refine Qs ?_
  refine Qbi ?_
  refine Q9 ?_
  refine Zb 5 U U U (Zg (xs:=[.tmp 4]) U U (IsFun_c (.mk k s n ks)) by2 ?_);intro c5 h5
  refine Qa ?_
  obtain ⟨rfl,g5⟩|⟨rfl,g5⟩:=Za h5
  ·refine Qau ?_
   refine Qj ?_
   try refine ACode.ownNil (t:=2) 24 4 rfl ?_
   refine c_ret ?_
   rw [Ty.args_not g5];exact Ze rfl rfl (Xu _) by4 ⟨_,rfl,rfl⟩
  refine QM ?_
  obtain ⟨n',⟨ka,sa,na,kas⟩,⟨kb,sb,nb,kks⟩,e⟩:=Ty.fun_kids g5
  cases e
  refine Qh ?_
  refine Qn ?_
  refine Qfn ?_
  refine Q7 ?_
  refine Zb 11 U U U (Zf (xs:=[.tmp 10]) Xj U U U U U U (Wc U) (Zb 12 U U U (op_append_nil Xj U U U (.seq _ _) by7 ?_)))
  intro u12
  refine Qj ?_
  refine Qh ?_
  refine Qao ?_
  refine QeK ?_
  refine Q7 ?_
  refine Zb 18 U U U (op_callo (xs:=[.tmp 17]) U U (ih (.mk kb sb nb kks) (by simp [Ty.size,Ty.sizes] at hd ⊢;omega) (by simp [Ty.size,Ty.sizes] at hmx ⊢;omega)) by2 ?_);intro u18
  refine Zb 19 U U U (Zv (i:=1) Xj U U U U (.own _ _ _) (by have:=Ty.args_size (.mk kb sb nb kks);simp [Ty.cellss_len,Ty.size,Ty.sizes] at hmx this ⊢;omega) ?_)
  intro u19
  refine QK ?_
  refine Qj ?_
  try refine ACode.ownNil (t:=2) 24 4 rfl ?_
  refine c_ret ?_
  rw [Ty.args_fun];exact Ze rfl rfl (Xu _) by4 ⟨_,rfl,rfl⟩
theorem count_c (d:Nat):∀ (t:Ty) (most:Int),t.size≤d→1≤most→most≤1000000→PCall Tryz.prog 39 [.agg t.cells,.val (.int .i64 most)] (.val (.int .i64 (t.cnt most))):=by
 induction d with
 | zero=>intro t most hd;have:=Ty.size_pos t;omega
 | succ d ih =>
  rintro ⟨k,s,n,ks⟩ most hd h1 h2
  have hl:=Ty.cellss_len ks
  rw [Ty.size] at hd
  refine Zc Tryz.func39 U (by kernel_rfl) U (Wc U) ?_
  refine QN ?_
  refine c_lena (t:=0) (j:=3) U U (.seq _ _) (fun hmax=>?_)
  refine Ql ?_
  refine QdG ?_;intro b2
  refine Qs ?_
  refine Q1 ?_
  refine Zw 20 (k=1∧(0<ks.length∨n≠0)) ?_ _ _ U ?_
  ·skip
   refine Qn ?_
   refine Qz ?_;intro c9 h9
   refine Qb ?_
   obtain ⟨rfl,g9⟩|⟨rfl,g9⟩:=Za h9
   ·skip
    refine QaK ?_
    refine QaS ?_
    refine QaS ?_
    refine QaS ?_
    refine QbO ?_
    refine Qm ?_
    refine Wa U ?_ by6 by4
    simp_all
   skip
   refine Qaq ?_
   refine QbC ?_;intro n13
   refine Qcp ?_;intro c14 h14
   refine Qf ?_
   obtain ⟨rfl,g14⟩|⟨rfl,g14⟩:=Za h14
   ·skip
    refine Qaq ?_
    refine Qax ?_;intro c18 h18
    refine Qaz ?_
    refine Wa U ?_ by6 by4
    simp_all
   skip
   refine Qah ?_
   refine Qaz ?_
   refine Wa U ?_ by6 by4
   simp_all
  intro c20 h20
  refine Qc ?_
  obtain ⟨rfl,g20⟩|⟨rfl,g20⟩:=Za h20
  ·refine QaC ?_
   refine Qab ?_
   refine Xk (σ:=Nat × Int) (fun zz=>match zz with|(i,m)=>[(2,.ptr b2 0),(1,.val (.int .i64 most)),(5,.val (.int .i64 m)),(6,.val (.int .i64 i))]) (fun zz=>match zz with|(i,m)=>[.loc b2 [.val (.int .i64 k),.val (.string s),.val (.int .i64 n),.seq 4 (Ty.cellss ks)]]) (fun zz=>match zz with|(i,m)=>i≤ks.length∧1≤m∧m≤most∧Ty.cnts (ks.drop i) m most=Ty.cnt (.mk k s n ks) most) (fun zz=>match zz with|(i,m)=>ks.length - i) ((0,1)) ?_ ?_ ?_ ?_
   ·exact ⟨by omega,by omega,h1,by rw [List.drop_zero,Ty.cnt_not (by simpa [Ty.kind,Ty.kids,Ty.num,List.length_pos_iff] using g20)];rfl⟩
   ·exact by5
   ·exact by4
   rintro ⟨i,m⟩ hI
   try dsimp only [List.cons_append,List.nil_append] at hI ⊢
   obtain ⟨hi,m1,m2,hc⟩:=hI
   refine QaJ ?_
   refine Zw 31 (i<ks.length∧m<most) ?_ _ _ U ?_
   ·skip
    refine Qb ?_
    refine Qn ?_
    refine QY ?_;intro n25
    refine Qg ?_;intro c26 h26
    refine Qb ?_
    obtain ⟨rfl,g26⟩|⟨rfl,g26⟩:=Za h26
    ·skip
     refine Qc5 ?_
     refine Wa U ?_ by6 by4
     simp_all;done
    skip
    refine QaM ?_
    refine Qbn ?_;intro c30 h30
    refine Qm ?_
    refine Wa U ?_ by6 by4
    simp_all;done
   intro c31 h31
   refine Qc ?_
   obtain ⟨rfl,g31⟩|⟨rfl,g31⟩:=Za h31
   ·refine Qa4 ?_
    refine Ze U U (Xu _) by4 ⟨?_,U⟩
    rw [← hc]
    by_cases e:i<ks.length
    ·obtain ⟨x,hx⟩:=Zj e
     rw [Zz hx,Ty.cnts,if_neg (fun q=>g31 ⟨e,q⟩)]
    rw [List.drop_eq_nil_of_le by17,Ty.cnts]
   refine QaV ?_
   obtain ⟨⟨k',s',n',ks'⟩,hx⟩:=Zj g31.1
   have hcx:=Ty.cellss_get hx
   have hsz:=Ty.size_at hx
   have hb:=Ty.cnt_bd (.mk k' s' n' ks') (most - m) by17
   refine Qh ?_
   refine Qn ?_
   refine Qb ?_
   refine Qc2 ?_
   refine Qai ?_
   refine Qay ?_
   refine Zb 43 U U U (Zd (xs:=[.tmp 39,.tmp 42]) U U (ih (.mk k' s' n' ks') (most - m) by17 by17 by17) by2 ?_)
   refine Qa6 ?_
   refine QaD ?_
   refine ⟨(i+1,m+Ty.cnt (.mk k' s' n' ks') (most - m)),⟨by omega,by omega,by omega,?_⟩,by simp;omega,by5,by4⟩
   rw [← hc,Zz hx,Ty.cnts,if_pos g31.2]
  refine QaY ?_
  exact Ze U U (Xu _) by4 ⟨by rw [Ty.cnt_var (by simpa [Ty.kind,Ty.kids,Ty.num,List.length_pos_iff] using g20)],U⟩
theorem Small_c (t:Ty) (most:Int) (h1:0≤most) (h2:most≤100000):BCall Tryz.prog 15 [.agg t.cells,.val (.int .i64 most)] (t.small most=true):=by
 obtain ⟨k,s,n,ks⟩:=t
 have hb:=Ty.cnt_bd (.mk k s n ks) (most+1) by17
 refine Zc Tryz.func15 U (by kernel_rfl) U (Wc U) ?_
 refine Qa9 ?_;intro b2
 refine Qs ?_
 refine Q9 ?_
 refine Qb ?_
 refine Qa6 ?_
 refine Zb 8 U U U (Zd (xs:=[.tmp 5,.tmp 7]) U U (count_c _ (.mk k s n ks) (most+1) (Nat.le_refl _) by17 by17) by2 ?_)
 refine Qb ?_
 refine Zb 10 U U U (op_leq U U U ?_);intro c10 h10
 refine Qo ?_
 exact Ze U U (Xu _) by4 ⟨⟨_,h10.trans (by simp [Ty.small]),U⟩,U⟩
theorem All_c (d:Nat):∀ t:Ty,t.size≤d→t.size≤1000000→OCall Tryz.prog 165 [.agg t.cells] 24 4 (Ty.cellss t.all):=by
 induction d with
 | zero=>intro t hd;have:=Ty.size_pos t;omega
 | succ d ih =>
  rintro ⟨k,s,n,ks⟩ hd hmx
  have hl:=Ty.cellss_len ks
  have hls:=Ty.len_sizes ks
  rw [Ty.size] at hd hmx
  refine Zc Tryz.func165 U (by kernel_rfl) U (Wc U) ?_
  refine Qa9 ?_;intro b1
  refine Qs ?_
  refine Q9 ?_
  refine Zb 6 U U U (Ys (xs:=[.tmp 5]) Xj U U U U U U (Wc U) ?_);intro u6
  refine Qae ?_
  refine Xk (σ:=Nat × Value) (fun zz=>match zz with|(i,u)=>[(1,.ptr b1 0),(3,.own u 4 (Ty.cellss (.mk k s n ks::Ty.alls (ks.take i)))),(4,.val (.int .i64 i))]) (fun zz=>match zz with|(i,u)=>[.own 24 4 u,.loc b1 [.val (.int .i64 k),.val (.string s),.val (.int .i64 n),.seq 4 (Ty.cellss ks)]]) (fun zz=>match zz with|(i,u)=>i≤ks.length) (fun zz=>match zz with|(i,u)=>ks.length - i) ((0,u6)) ?_ ?_ ?_ ?_
  ·simp
  ·exact by5
  ·exact by4
  rintro ⟨i,u⟩ hI
  try dsimp only [List.cons_append,List.nil_append] at hI ⊢
  refine QS ?_
  refine Qao ?_
  refine QY ?_;intro n10
  refine Qg ?_;intro c11 h11
  refine Qa ?_
  obtain ⟨rfl,g11⟩|⟨rfl,g11⟩:=Za h11
  ·refine Qa4 ?_
   refine Ze U U (Wb ?_) by4 ⟨_,U,U⟩
   rw [List.take_of_length_le by17,Ty.all]
  refine QaV ?_
  obtain ⟨⟨k',s',n',ks'⟩,hx⟩:=Zj (l:=ks) (i:=i) by17
  have hcx:=Ty.cellss_get hx
  have hsz:=Ty.size_at hx
  have hst:=Ty.sizes_take ks i
  have e:Ty.cellss (.mk k s n ks::Ty.alls (ks.take i))++Ty.cellss (Ty.all (.mk k' s' n' ks'))=Ty.cellss (.mk k s n ks::Ty.alls (ks.take (i+1))):=by rw [Ty.alls_take ks hx,← Ty.cellss_app];rfl
  refine Qh ?_
  refine Qao ?_
  refine Qb ?_
  refine Qc2 ?_
  refine Zb 20 U U U (op_callo (xs:=[.tmp 19]) U U (ih (.mk k' s' n' ks') by17 by17) by2 ?_);intro u20
  refine Zb 21 U U U (Zv (i:=1) Xj U U U U (.own _ _ _) (by simp only [Ty.cellss_len,List.length_cons,Ty.all_len,Ty.alls_len];omega) ?_)
  intro u21
  refine QaD ?_
  exact ⟨(i+1,u21),by simp;omega,by simp;omega,(by repeat' (first|exact Xz _|refine Xy U ?_ ?_|exact Xu _|exact Le.own _ _ _|exact Xx _|(refine Wb ?_;exact e)|(refine Le.own_seq ?_;exact e)|(refine Le.seq_eq ?_;exact e))),by4⟩
theorem rVars_c (t:Ty) (hmx:t.size≤1000000):OCall Tryz.prog 108 [.agg t.cells] 9 1 (strs t.vars):=by
 have hA:=All_c t.size t (Nat.le_refl _) hmx
 have hal:=Ty.all_len t
 have hl:=Ty.cellss_len t.all
 unfold Ty.vars
 generalize Ty.all t=A at hA hal hl
 obtain ⟨k,s,n,ks⟩:=t
 refine Zc Tryz.func108 U (by kernel_rfl) U (Wc U) ?_
 refine Qa9 ?_;intro b1
 refine Qs ?_
 refine Q9 ?_
 refine Zb 7 U U U (op_callo (xs:=[.tmp 6]) U U (hA) by2 ?_);intro u7
 refine Qs ?_
 refine Qae ?_
 refine ACode.ownNil (t:=4) 9 1 U ?_
 refine Xk (σ:=Nat × Value) (fun zz=>match zz with|(i,u)=>[(3,.seq 4 (Ty.cellss A)),(4,.own u 1 (strs ((A.take i).foldl addVar []))),(5,.val (.int .i64 i))]) (fun zz=>match zz with|(i,u)=>[.own 9 1 u]) (fun zz=>match zz with|(i,u)=>i≤A.length) (fun zz=>match zz with|(i,u)=>A.length - i) ((0,.slice none 0 0)) ?_ ?_ ?_ ?_
 ·simp
 ·exact by5
 ·exact by4
 rintro ⟨i,u⟩ hI
 try dsimp only [List.cons_append,List.nil_append] at hI ⊢
 refine QaA ?_
 refine QY ?_;intro n10
 refine Qg ?_;intro c11 h11
 refine Qa ?_
 obtain ⟨rfl,g11⟩|⟨rfl,g11⟩:=Za h11
 ·refine Qa4 ?_
  refine Ze U U (Wb ?_) by4 ⟨_,U,U⟩
  rw [List.take_of_length_le by17]
 refine Qk ?_
 obtain ⟨⟨xk,xs,xn,xks⟩,hx⟩:=Zj (l:=A) (i:=i) by17
 have hcx:=Ty.cellss_get hx
 have hfl:=foldVar_len (A.take i) []
 have hts:(A.take (i+1)).foldl addVar []=addVar ((A.take i).foldl addVar []) (.mk xk xs xn xks):=by rw [Yd hx,List.foldl_append];rfl
 refine Zw 29 (xk=1∧xs∉(A.take i).foldl addVar []) ?_ _ _ U ?_
 ·skip
  refine Qai ?_
  refine Qff ?_
  refine QaE ?_;intro c19 h19
  refine Qb ?_
  obtain ⟨rfl,g19⟩|⟨rfl,g19⟩:=Za h19
  ·skip
   refine Qx ?_
   refine QaX ?_
   refine Wa U ?_ by6 by4
   simp_all
  skip
  refine QaM ?_
  refine Qf ?_
  refine Zo 24 U U U U U (Zh U te_22 U (.seq _ _) U U by14 ?_)
  refine QA ?_
  refine Zo 27 U U U U U (Zg (xs:=[.tmp 21,.tmp 26]) U U (Has_c ((A.take i).foldl addVar []) xs) by2 ?_);intro c27 h27
  refine Qal ?_;intro c28 h28
  try replace h28:=Ym h28 h27
  refine Qm ?_
  refine Wa U ?_ by6 by4
  simp_all
 intro c29 h29
 refine Qc ?_
 obtain ⟨rfl,g29⟩|⟨rfl,g29⟩:=Za h29
 ·refine QL ?_
  first|exact ⟨(i+1,u37),by simp;omega,by simp;omega,(by repeat' (first|exact Xz _|refine Xy rfl ?_ ?_|exact Xu _|exact Le.own _ _ _|exact Xx _|(refine Wb ?_;(rw [hts,addVar_yes g29];exact strs_snoc _ _))|(refine Le.own_seq ?_;(rw [hts,addVar_yes g29];exact strs_snoc _ _))|(refine Le.seq_eq ?_;(rw [hts,addVar_yes g29];exact strs_snoc _ _)))),by4⟩|exact ⟨(i+1,u),by simp;omega,by simp;omega,(by repeat' (first|exact Xz _|refine Xy rfl ?_ ?_|exact Xu _|exact Le.own _ _ _|exact Xx _|(refine Wb ?_;(rw [hts,addVar_no g29]))|(refine Le.own_seq ?_;(rw [hts,addVar_no g29]))|(refine Le.seq_eq ?_;(rw [hts,addVar_no g29])))),by4⟩
 refine Q4 ?_
 refine QaO ?_
 refine Qff ?_
 refine Qd ?_
 refine Zb 36 U U U (Zf (xs:=[.tmp 35]) Yy U U U U U U (Wc U) ?_)
 refine Zb 37 U U U (Zv (i:=0) Yy U U U U (.seq _ _) (by simp [Ya] at hfl ⊢;omega) ?_)
 intro u37
 refine QaD ?_
 first|exact ⟨(i+1,u37),by simp;omega,by simp;omega,(by repeat' (first|exact Xz _|refine Xy rfl ?_ ?_|exact Xu _|exact Le.own _ _ _|exact Xx _|(refine Wb ?_;(rw [hts,addVar_yes g29];exact strs_snoc _ _))|(refine Le.own_seq ?_;(rw [hts,addVar_yes g29];exact strs_snoc _ _))|(refine Le.seq_eq ?_;(rw [hts,addVar_yes g29];exact strs_snoc _ _)))),by4⟩|exact ⟨(i+1,u),by simp;omega,by simp;omega,(by repeat' (first|exact Xz _|refine Xy rfl ?_ ?_|exact Xu _|exact Le.own _ _ _|exact Xx _|(refine Wb ?_;(rw [hts,addVar_no g29]))|(refine Le.own_seq ?_;(rw [hts,addVar_no g29]))|(refine Le.seq_eq ?_;(rw [hts,addVar_no g29])))),by4⟩
theorem Args_c (t:Ty) (hmx:t.size≤1000000):PCall Tryz.prog 85 [.agg t.cells] (.tup [.seq 4 (Ty.cellss t.args),.agg t.ans.cells]):=by
 have has:=Ty.args_size t
 obtain ⟨k,s,n,ks⟩:=t
 refine Zc Tryz.func85 U (by kernel_rfl) U (Wc U) ?_
 refine Qa9 ?_;intro b1
 refine QJ ?_
 refine QE ?_;intro b3
 refine Qu ?_
 refine Qcc ?_
 refine ACode.ownNil (t:=4) 24 4 U ?_
 refine Xk (σ:=Ty × List Ty × Value) (fun zz=>match zz with|(c,dn,u)=>[(1,.ptr b1 0),(3,.ptr b3 0),(4,.own u 4 (Ty.cellss dn))]) (fun zz=>match zz with|(c,dn,u)=>[.own 24 4 u,.loc b3 [.val (.int .i64 0),.val (.string ⟨#[]⟩),.val (.int .i64 0),.val (.slice none 0 0)],.loc b1 c.cells]) (fun zz=>match zz with|(c,dn,u)=>dn++c.args=Ty.args (.mk k s n ks)∧c.ans=Ty.ans (.mk k s n ks)) (fun zz=>match zz with|(c,dn,u)=>c.size) ((.mk k s n ks,[],.slice none 0 0)) ?_ ?_ ?_ ?_
 ·exact ⟨U,U⟩
 ·exact by5
 ·exact by4
 rintro ⟨⟨ck,cs,cn,cks⟩,dn,u⟩ hI
 try dsimp only [List.cons_append,List.nil_append] at hI ⊢
 obtain ⟨ha,hb⟩:=hI
 refine Q2 ?_
 refine Ql ?_
 refine Qcq ?_
 refine Zb 6 U U U (Zg (xs:=[.tmp 5]) U U (fun_c (.mk ck cs cn cks)) by2 ?_);intro c6 h6
 refine Qa ?_
 obtain ⟨rfl,g6⟩|⟨rfl,g6⟩:=Za h6
 ·refine Qag ?_
  rw [Ty.args_not g6] at ha
  rw [Ty.ans_not g6] at hb
  refine Yh [0,1,2,3] [3] [[],[],[0],[0,1,2]] Yx U ?_
  refine Qw ?_
  refine Qer ?_
  refine QZ ?_
  refine QcL ?_
  show AGo _ _ _ _ _ _ _
  refine QI ?_
  rw [← ha,← hb]
  exact out_tc (i:=1) U U U U Zx U (by repeat' (first|exact Xu _|exact Le.own _ _ _|exact Xx _|refine Le.agg ?_|refine Le.tup ?_|exact Xv _|refine Xw ?_ ?_|(refine Wb ?_;simp)|(refine Le.own_seq ?_;simp)|(refine Le.seq_eq ?_;simp))) by4 ⟨U,U⟩
 refine Qdq ?_
 obtain ⟨n',⟨ka,sa,na,kas⟩,⟨kb,sb,nb,kks⟩,e⟩:=Ty.fun_kids g6
 cases e
 rw [Ty.args_fun] at ha
 rw [Ty.ans_fun] at hb
 have hln:=congrArg List.length ha
 simp only [List.length_append,List.length_cons] at hln
 refine Qh ?_
 refine Qb2 ?_
 refine Qfn ?_
 refine Q7 ?_
 refine Qgk ?_
 refine Qgl ?_
 intro u13
 refine Qj ?_
 refine Qi ?_
 refine Qb2 ?_
 refine QeK ?_
 refine Q7 ?_
 refine QdH ?_
 refine Qbc ?_
 exact ⟨(.mk kb sb nb kks,dn++[.mk ka sa na kas],u13),⟨by rw [← ha];simp,hb⟩,by simp [Ty.size,Ty.sizes];omega,(by repeat' (first|exact Xz _|refine Xy U ?_ ?_|exact Xu _|exact Le.own _ _ _|exact Xx _|(refine Wb ?_;(rw [Ty.cellss_app];rfl))|(refine Le.own_seq ?_;(rw [Ty.cellss_app];rfl))|(refine Le.seq_eq ?_;(rw [Ty.cellss_app];rfl)))),by4⟩
abbrev MCall (P:Program) (f:FuncId) (vs:List AV) (r:Res) (v:AV) (r':Res):Prop:=ACall P f vs [r] (fun u M'=>u=v∧M'=[r'])
abbrev MayCall (P:Program) (f:FuncId) (vs:List AV) (r:Res) (p:Prop) (r':Res):Prop:=ACall P f vs [r] (fun u M'=>(p∧u=.val (.bool true)∧M'=[r'])∨(¬ p∧u=.val (.bool false)∧M'=[r]))
section
variable {P:Program} {al:Sl} {M:Mem} {K:AV→Mem→Prop} {o:Oper}
theorem set_perm {M:Mem} {i:Nat} {r r':Res} (h:M[i]?=some r):(r'::M.eraseIdx i).Perm (M.set i r'):=by
 have hi:i<M.length:=get_lt h
 have:=perm_at (M:=M.set i r') (i:=i) (r:=r') (by simp [hi])
 rw [List.eraseIdx_set_eq] at this
 exact this.symm
theorem pick_one {M:Mem} {i:Nat} {r:Res} (h:M[i]?=some r):pick [i] M=some ([r],M.eraseIdx i):=by
 simp [pick,h]
theorem OpT.permd {K0:AV→Mem→Prop} (h:OpT P o al M K0) (q:∀ v M',K0 v M'→∃ M2,M'.Perm M2∧K v M2):OpT P o al M K:=by
 intro n B F Mf a w hi hs ro
 refine Oper.wpIn_mono ?_ (h n B F Mf a w hi hs ro)
 rintro a' w' ⟨u,v,M',F',h1,h2,h3,h4,h5,h6⟩
 obtain ⟨M2,hp,hk⟩:=q v M' h2
 exact ⟨u,v,M2,F',h1,hk,h3,h4,h5.perm (hp.append_right Mf),h6⟩
theorem Zl {f:FuncId} {xs:List Operand} {ts:Array TypeId} {vs vs':List AV} (i:Nat) {r r':Res} {v:AV} (ho:o.op=.call { callee:=.value (.func f),args:=xs.toArray,argTypes:=ts }) (hx:xs.mapM al.ev=some vs) (hm:M[i]?=some r) (hc:MCall P f vs' r v r') (hl:Les vs vs') (q:K v (M.set i r')):OpT P o al M K:=by
 refine OpT.permd (op_callat (K:=fun u M'=>u=v∧M'=r'::M.eraseIdx i) [i] ho hx (pick_one hm) hc hl ?_) ?_
 ·rintro u M' ⟨rfl,rfl⟩;exact ⟨rfl,rfl⟩
 rintro u M' ⟨rfl,rfl⟩;exact ⟨_,set_perm hm,q⟩
theorem op_mayc {f:FuncId} {xs:List Operand} {ts:Array TypeId} {vs vs':List AV} (i:Nat) {r r':Res} {p:Prop} (ho:o.op=.call { callee:=.value (.func f),args:=xs.toArray,argTypes:=ts }) (hx:xs.mapM al.ev=some vs) (hm:M[i]?=some r) (hc:MayCall P f vs' r p r') (hl:Les vs vs') (qt:p→K (.val (.bool true)) (M.set i r')) (qf:¬ p→K (.val (.bool false)) M):OpT P o al M K:=by
 refine OpT.permd (op_callat (K:=fun u M'=>(p∧u=.val (.bool true)∧M'=r'::M.eraseIdx i)∨(¬ p∧u=.val (.bool false)∧M'=r::M.eraseIdx i)) [i] ho hx (pick_one hm) hc hl ?_) ?_
 ·rintro u M' (⟨h,rfl,rfl⟩|⟨h,rfl,rfl⟩)
  ·exact .inl ⟨h,U,U⟩
  exact .inr ⟨h,U,U⟩
 rintro u M' (⟨h,rfl,rfl⟩|⟨h,rfl,rfl⟩)
 ·exact ⟨_,set_perm hm,qt h⟩
 exact ⟨_,(perm_at hm).symm,qf h⟩
theorem Le.nilOwn (m:Nat):Le (.val (.slice none 0 0)) (.own (.slice none 0 0) m []):=fun F u h=>by
 cases h;exact .own _ (.seq0 m none 0 (fun _=>rfl))
theorem Yp {ro:Option Nat} {n:Nat} {ks:List Kont} {Q:Exit→Sl→Mem→Prop} {c:Code} (e:TypeId) (m:Nat) (h:ACode ro P n c (after ro P n ks Q) al (M++[.own e m (.slice none 0 0)])):ACode ro P n c (after ro P n ks Q) al M:=fun B F Mf a w hi hs=>by
 refine h B F Mf a w ?_ hs
 refine (hi.ownNil e m).perm ?_
 have:(Res.own e m (.slice none 0 0)::(M++Mf)).Perm (M++Res.own e m (.slice none 0 0)::Mf):=List.perm_middle.symm
 simpa using this
def tyField (P:Program) (t:TypeId) (f:Nat):Option (TypeId × Nat) :=
 match P.underlying t with
 | some (.struct fs)=>match fs[f]? with
  | some g=>some (g.type,g.offset)
  | none=>none
 | _=>none
theorem op_field1 {x:Operand} {t ft:TypeId} {f fo:Nat} {cs:List AV} {v:AV} (ho:o.op=.field t x f) (ht:tyField P t f=some (ft,fo)) (ha:tyAgg P ft=some none) (hx:al.ev x=some (.agg cs)) (hc:cs[fo]?=some v) (q:K v M):OpT P o al M K :=
 OpT.plain fun n B F Mf ac w hi hs=>by
  have h:=hs.ev hx
  generalize hu:ac.eval x=u at h
  cases h with
  | agg h h1 =>
   rename_i vs
   obtain ⟨y,h2,h3⟩:=h.get hc
   refine ⟨y,_,?_,q,h3⟩
   unfold tyField at ht
   split at ht <;> first|(simp at ht;done)|skip
   rename_i fs hfs
   split at ht <;> first|(simp at ht;done)|skip
   rename_i g hg
   simp only [Option.some.injEq,Prod.mk.injEq] at ht
   obtain ⟨rfl,rfl⟩:=ht
   obtain ⟨a1,a2⟩:=tyAgg_none ha w
   simp [execOp,ho,hu,Instr.field,underlying,hfs,hg,part,asAgg,a1,h2]
end
theorem sameB_no {a b:ByteArray}:¬ a=b→sameB a b=false:=fun h=>by
 cases q:sameB a b with
 | false=>rfl
 | true=>exact absurd (Yt.1 q) h
theorem sameB_yes {a b:ByteArray} (h:a=b):sameB a b=true:=Yt.2 h
theorem Class_c (v:En) (s:ByteArray):PCall Tryz.prog 47 [.agg v.cells,.val (.string s)] (.val (.int .i64 (classI v s))):=by
 obtain ⟨da,cl,ins⟩:=v
 have hl:=Cl.cellss_len cl
 have hC:classI (.mk da cl ins) s=findI (fun c=>sameB c.s s) (cl.drop 0) 0:=rfl
 generalize classI (.mk da cl ins) s=r at *
 simp only [En.cells]
 refine Zc Tryz.func47 U (by kernel_rfl) U (Wc U) ?_
 refine QN ?_
 refine c_lena (t:=0) (j:=1) U U (.seq _ _) (fun hmax=>?_)
 refine Ql ?_
 refine Qde ?_
 refine Qae ?_
 apply Zu (rg [(0,1),(3,19)]) (σ:=Nat) (fun zz=>match zz with|i=>[(5,.val (.int .i64 i))]) (fun zz=>match zz with|i=>i≤cl.length∧r=findI (fun c=>sameB c.s s) (cl.drop i) i) (fun zz=>match zz with|i=>cl.length - i) (0)
 ·repeat' (first|exact Wf|apply Wd rfl|apply We rfl)
 ·exact ⟨Nat.zero_le _,hC⟩
 ·exact by5
 rintro i hI
 try dsimp only [List.cons_append,List.nil_append] at hI ⊢
 obtain ⟨h1,hu⟩:=hI
 refine Qav ?_
 refine QdZ ?_;intro n9
 refine Qg ?_;intro c10 h10
 refine Qa ?_
 obtain ⟨rfl,g10⟩|⟨rfl,g10⟩:=Za h10
 ·refine Qad ?_
  rw [Wh by17,findI] at hu;exact Ze rfl rfl (Xu _) by4 ⟨by rw [hu],rfl⟩
 refine Qk ?_
 obtain ⟨⟨xs,xv,xsu,xms,xds,xp⟩,hxx⟩:=Zj (l:=cl) (i:=i) by8
 have hcx:=Cl.cellss_get hxx
 have hmx:=Wg hxx
 rw [Zz hxx,findI] at hu
 have hu:r=if sameB xs s=true then (i:Int) else findI (fun c=>sameB c.s s) (cl.drop (i+1)) (i+1):=hu
 refine Qa5 ?_
 refine QdK ?_
 refine QT ?_
 refine Qas ?_;intro c20 h20
 refine Qa ?_
 obtain ⟨rfl,g20⟩|⟨rfl,g20⟩:=Za h20
 ·refine QL ?_
  rw [if_neg (by rw [sameB_no g20];simp)] at hu;exact ⟨i+1,⟨by omega,hu⟩,by show cl.length - (i+1)<cl.length - i;omega,by5,by4⟩
 refine QaY ?_
 rw [if_pos (sameB_yes g20)] at hu;exact Ze rfl rfl (Xu _) by4 ⟨by rw [hu],rfl⟩
theorem Inst_c (v:En) (c s:ByteArray):PCall Tryz.prog 111 [.agg v.cells,.val (.string c),.val (.string s)] (.val (.int .i64 (instI v c s))):=by
 obtain ⟨da,cl,ins⟩:=v
 have hl:=In.cellss_len ins
 have hC:instI (.mk da cl ins) c s=findI (fun (x:In)=>sameB x.c c && sameB x.hd.name s) (ins.drop 0) 0:=rfl
 generalize instI (.mk da cl ins) c s=r at *
 simp only [En.cells]
 refine Zc Tryz.func111 U (by kernel_rfl) U (Wc U) ?_
 refine QN ?_
 refine c_lena (t:=0) (j:=2) U U (.seq _ _) (fun hmax=>?_)
 refine Ql ?_
 refine Qde ?_
 refine Qae ?_
 apply Zu (rg [(0,1),(4,31)]) (σ:=Nat) (fun zz=>match zz with|i=>[(7,.val (.int .i64 i))]) (fun zz=>match zz with|i=>i≤ins.length∧r=findI (fun (x:In)=>sameB x.c c && sameB x.hd.name s) (ins.drop i) i) (fun zz=>match zz with|i=>ins.length - i) (0)
 ·repeat' (first|exact Wf|apply Wd rfl|apply We rfl)
 ·exact ⟨Nat.zero_le _,hC⟩
 ·exact by5
 rintro i hI
 try dsimp only [List.cons_append,List.nil_append] at hI ⊢
 obtain ⟨h1,hu⟩:=hI
 refine Qav ?_
 refine Qfo ?_;intro n11
 refine Qg ?_;intro c12 h12
 refine Qa ?_
 obtain ⟨rfl,g12⟩|⟨rfl,g12⟩:=Za h12
 ·refine Qad ?_
  rw [Wh by17,findI] at hu;exact Ze rfl rfl (Xu _) by4 ⟨by rw [hu],rfl⟩
 refine Qk ?_
 obtain ⟨⟨xc,⟨xhdk,xhds,xhdn,xhdl⟩,xcx,xbs,xp⟩,hxx⟩:=Zj (l:=ins) (i:=i) by8
 have hcx:=In.cellss_get hxx
 have hmx:=Wg hxx
 rw [Zz hxx,findI] at hu
 have hu:r=if (sameB xc c && sameB xhds s)=true then (i:Int) else findI (fun (x:In)=>sameB x.c c && sameB x.hd.name s) (ins.drop (i+1)) (i+1):=hu
 simp only [Bool.and_eq_true,Yt] at hu
 simp only [In.cells,Ty.cells,List.cons_append,List.nil_append] at hcx
 refine Zw 33 (xc=c∧xhds=s) ?_ _ _ U ?_
 ·skip
  refine QT ?_
  refine Zb 18 U U U (Zh U te_39 U (.seq _ _) U U (hcx) ?_)
  refine QT ?_
  refine Qas ?_;intro c22 h22
  refine Qb ?_
  obtain ⟨rfl,g22⟩|⟨rfl,g22⟩:=Za h22
  ·skip
   refine Qx ?_
   refine QaH ?_
   refine Wa U ?_ by6 by4
   simp_all;done
  skip
  refine Qdu ?_
  refine Zo 27 U U U U U (Zh U te_39 U (.seq _ _) U U (hcx) ?_)
  refine QaI ?_
  refine Qdu ?_
  refine Qbf ?_;intro c32 h32
  refine Qm ?_
  refine Wa U ?_ by6 by4
  simp_all;done
 intro c33 h33
 refine Qc ?_
 obtain ⟨rfl,g33⟩|⟨rfl,g33⟩:=Za h33
 ·refine QL ?_
  rw [if_neg g33] at hu;exact ⟨i+1,⟨by omega,hu⟩,by show ins.length - (i+1)<ins.length - i;omega,by5,by4⟩
 refine QaY ?_
 rw [if_pos g33] at hu;exact Ze rfl rfl (Xu _) by4 ⟨by rw [hu],rfl⟩
theorem Arity_c (v:En) (s:ByteArray):PCall Tryz.prog 46 [.agg v.cells,.val (.string s)] (.val (.int .i64 (arityR v s))):=by
 obtain ⟨da,cl,ins⟩:=v
 have hl:=Da.cellss_len da
 obtain ⟨r,hr⟩:∃ r,arityR (.mk da cl ins) s=r:=⟨_,rfl⟩
 rw [hr]
 unfold arityR at hr
 simp only [Yt,En.da] at hr
 simp only [En.cells]
 refine Zc Tryz.func46 U (by kernel_rfl) U (Wc U) ?_
 refine QN ?_
 refine c_lena (t:=0) (j:=0) U U (.seq _ _) (fun hmax=>?_)
 refine Ql ?_
 refine Qde ?_
 refine Q1 ?_
 refine Zw 11 (s=kIntT∨s=kStrT) ?_ _ _ U ?_
 ·skip
  refine Qb ?_
  refine Qas ?_;intro c7 h7
  refine Qb ?_
  obtain ⟨rfl,g7⟩|⟨rfl,g7⟩:=Za h7
  ·skip
   refine Qf ?_
   refine Qbf ?_;intro c10 h10
   refine Qm ?_
   refine Wa U ?_ by6 by4
   simp_all;done
  skip
  refine Qcx ?_
  refine Wa U ?_ by6 by4
  simp_all;done
 intro c11 h11
 refine Qc ?_
 obtain ⟨rfl,g11⟩|⟨rfl,g11⟩:=Za h11
 ·refine QaP ?_
  refine Qas ?_;intro c13 h13
  refine Qa ?_
  obtain ⟨rfl,g13⟩|⟨rfl,g13⟩:=Za h13
  ·refine QaP ?_
   refine Qas ?_;intro c15 h15
   refine Qa ?_
   obtain ⟨rfl,g15⟩|⟨rfl,g15⟩:=Za h15
   ·refine QaC ?_
    refine Qab ?_
    apply Zu (rg [(0,1),(3,35)]) (σ:=Nat) (fun zz=>match zz with|i=>[(5,.val (.int .i64 i))]) (fun zz=>match zz with|i=>i≤da.length∧arityD s (da.drop i)=r) (fun zz=>match zz with|i=>da.length - i) (0)
    ·repeat' (first|exact Wf|apply Wd rfl|apply We rfl)
    ·rw [if_neg g11,if_neg g13,if_neg g15] at hr;exact ⟨Nat.zero_le _,hr⟩
    ·exact by5
    rintro i hI
    try dsimp only [List.cons_append,List.nil_append] at hI ⊢
    obtain ⟨h1,hu⟩:=hI
    refine Qav ?_
    refine Qeb ?_;intro n19
    refine Qg ?_;intro c20 h20
    refine Qa ?_
    obtain ⟨rfl,g20⟩|⟨rfl,g20⟩:=Za h20
    ·refine Qad ?_
     rw [Wh by17,arityD] at hu;exact Ze rfl rfl (Xu _) by4 ⟨by rw [hu],rfl⟩
    refine Qk ?_
    obtain ⟨⟨xs,xps,xcs,xdv,xp⟩,hxx⟩:=Zj (l:=da) (i:=i) by8
    have hcx:=Da.cellss_get hxx
    have hmx:=Wg hxx
    rw [Zz hxx,arityD] at hu
    simp only [Da.s,Da.ps,Yt] at hu
    refine Qa5 ?_
    refine QeL ?_
    refine QT ?_
    refine Qas ?_;intro c30 h30
    refine Qa ?_
    obtain ⟨rfl,g30⟩|⟨rfl,g30⟩:=Za h30
    ·refine QL ?_
     rw [if_neg g30] at hu;exact ⟨i+1,⟨by omega,hu⟩,by show da.length - (i+1)<da.length - i;omega,by5,by4⟩
    refine Qq ?_
    refine QT ?_
    refine QeL ?_
    refine Qd ?_
    refine QbB ?_;intro n37
    refine Qo ?_
    rw [if_pos g30] at hu;exact Ze rfl rfl (Le.inteq (by rw [← hu,Ya])) by4 ⟨rfl,rfl⟩
   refine QD ?_
   rw [if_neg g11,if_neg g13,if_pos g15] at hr;exact Ze rfl rfl (Xu _) by4 ⟨by rw [hr],rfl⟩
  refine QD ?_
  rw [if_neg g11,if_pos g13] at hr;exact Ze rfl rfl (Xu _) by4 ⟨by rw [hr],rfl⟩
 refine QD ?_
 rw [if_pos g11] at hr;exact Ze rfl rfl (Xu _) by4 ⟨by rw [hr],rfl⟩
theorem names_c (c:Cl) (hb:c.ms.length≤1000000):OCall Tryz.prog 113 [.agg c.cells] 9 1 (strs (c.ms.map Me.s)):=by
 obtain ⟨cs,cv,csu,cms,cds,cp⟩:=c
 have hl:=Me.cellss_len cms
 simp only [Cl.ms] at hb ⊢
 simp only [Cl.cells]
 refine Zc Tryz.func113 U (by kernel_rfl) U (Wc U) ?_
 refine Qbj ?_
 refine Qs ?_
 refine Qae ?_
 refine Qcs ?_
 apply Yl (rg [(0,1),(3,18)]) (σ:=Nat × List ByteArray × Value) (fun zz=>match zz with|(i,acc,u)=>[(3,.own u 1 (strs acc)),(4,.val (.int .i64 i))]) (fun zz=>match zz with|(i,acc,u)=>[.own 9 1 u]) (fun zz=>match zz with|(i,acc,u)=>i≤cms.length∧acc=(cms.take i).map Me.s) (fun zz=>match zz with|(i,acc,u)=>cms.length - i) ((0,[],.slice none 0 0))
 ·repeat' (first|exact Wf|apply Wd rfl|apply We rfl)
 ·exact ⟨Nat.zero_le _,U⟩
 ·exact Xy U (Le.nilOwn 1) (Xy U (Xu _) (Xz _))
 ·exact by4
 rintro ⟨i,acc,u⟩ hI
 try dsimp only [List.cons_append,List.nil_append] at hI ⊢
 obtain ⟨hi,ha⟩:=hI
 have hle:(strs acc).length≤1000000:=by rw [Ya,ha,List.length_map,List.length_take];omega
 refine Qav ?_
 refine Qes ?_;intro n8
 refine Qg ?_;intro c9 h9
 refine Qa ?_
 obtain ⟨rfl,g9⟩|⟨rfl,g9⟩:=Za h9
 ·refine Qa4 ?_
  exact Ze U U (Wb (by rw [ha,List.take_of_length_le by17])) (Xo _) ⟨u,U,U⟩
 refine QaV ?_
 obtain ⟨⟨xs,⟨xtk,xts,xtn,xtl⟩,xp⟩,hxx⟩:=Zj (l:=cms) (i:=i) by8
 have hcx:=Me.cellss_get hxx
 have hmx:=Wg hxx
 simp only [Me.cells,Ty.cells,List.cons_append,List.nil_append] at hcx
 have hsn:=Yd hxx
 refine Qh ?_
 refine QT ?_
 refine Zb 16 U U U (Zh U te_116 U (.seq _ _) U U (hcx) ?_)
 refine Qd ?_
 refine Zb 19 U U U (Zf (xs:=[.tmp 18]) Yy U U U U U U (Wc U) ?_)
 refine QdL ?_
 intro u20
 refine QaD ?_
 exact ⟨(i+1,(cms.take (i+1)).map Me.s,u20),⟨(by show i+1≤cms.length;omega),U⟩,by show cms.length - (i+1)<cms.length - i;omega,Xy U (Wb (by rw [hsn,List.map_append,Xm,ha];rfl)) by5,by4⟩
theorem vars_c (x:In) (hb:x.hd.kids.length≤1000000):OCall Tryz.prog 166 [.agg x.cells] 9 1 (strs (varsR x)):=by
 obtain ⟨xc,⟨hk,hs,hn,hl⟩,xcx,xbs,xp⟩:=x
 have hll:=Ty.cellss_len hl
 simp only [In.hd,Ty.kids,varsR] at hb ⊢
 simp only [In.cells,Ty.cells,List.cons_append,List.nil_append]
 refine Zc Tryz.func166 U (by kernel_rfl) U (Wc U) ?_
 refine Qe ?_
 refine Qet ?_
 refine Qs ?_
 refine Qae ?_
 refine Qcs ?_
 apply Yl (rg [(0,1),(3,20)]) (σ:=Nat × List ByteArray × Value) (fun zz=>match zz with|(i,acc,u)=>[(3,.own u 1 (strs acc)),(4,.val (.int .i64 i))]) (fun zz=>match zz with|(i,acc,u)=>[.own 9 1 u]) (fun zz=>match zz with|(i,acc,u)=>i≤hl.length∧acc=(hl.take i).map Ty.name) (fun zz=>match zz with|(i,acc,u)=>hl.length - i) ((0,[],.slice none 0 0))
 ·repeat' (first|exact Wf|apply Wd rfl|apply We rfl)
 ·exact ⟨Nat.zero_le _,U⟩
 ·exact Xy U (Le.nilOwn 1) (Xy U (Xu _) (Xz _))
 ·exact by4
 rintro ⟨i,acc,u⟩ hI
 try dsimp only [List.cons_append,List.nil_append] at hI ⊢
 obtain ⟨hi,ha⟩:=hI
 have hle:(strs acc).length≤1000000:=by rw [Ya,ha,List.length_map,List.length_take];omega
 refine QS ?_
 refine QaR ?_
 refine Qd ?_
 refine QY ?_;intro n9
 refine Qg ?_;intro c10 h10
 refine Qa ?_
 obtain ⟨rfl,g10⟩|⟨rfl,g10⟩:=Za h10
 ·refine Qa4 ?_
  exact Ze U U (Wb (by rw [ha,List.take_of_length_le by17])) (Xo _) ⟨u,U,U⟩
 refine QaV ?_
 obtain ⟨⟨xk,xs,xn,xl⟩,hxx⟩:=Zj (l:=hl) (i:=i) by8
 have hcx:=Ty.cellss_get hxx
 have hmx:=Wg hxx
 simp only [Ty.cells] at hcx
 have hsn:=Yd hxx
 refine Qh ?_
 refine QaR ?_
 refine QT ?_
 refine Zb 18 U U U (Zh U te_22 U (.seq _ _) U U (hcx) ?_)
 refine Qd ?_
 refine Zb 21 U U U (Zf (xs:=[.tmp 20]) Yy U U U U U U (Wc U) ?_)
 refine QdL ?_
 intro u22
 refine QaD ?_
 exact ⟨(i+1,(hl.take (i+1)).map Ty.name,u22),⟨(by show i+1≤hl.length;omega),U⟩,by show hl.length - (i+1)<hl.length - i;omega,Xy U (Wb (by rw [hsn,List.map_append,Xm,ha];rfl)) by5,by4⟩
theorem hasB_no {l:List ByteArray} {s:ByteArray} (h:¬ s∈l):hasB l s=false:=by
 cases q:hasB l s with
 | false=>rfl
 | true=>exact absurd (hasB_iff.1 q) h
theorem Right_c (v:En) (vars:List ByteArray):∀ (d:Nat) (t:Ty),t.size≤d→PCall Tryz.prog 106 [.agg v.cells,.seq 1 (strs vars),.agg t.cells] (.val (.int .i64 (rightR v vars t)))
 | 0,t,h=>by have:=t.size_pos;omega
 | d+1,.mk k s n ks,h=>by
  have HA:=Arity_c v s
  have hl:=Ty.cellss_len ks
  have ih:∀ t∈ks,PCall Tryz.prog 106 [.agg v.cells,.seq 1 (strs vars),.agg t.cells] (.val (.int .i64 (rightR v vars t))):=fun t ht=>Right_c v vars d t (by have:=Ty.size_mem ht;rw [Ty.size] at h;omega)
  obtain ⟨r,hr⟩:∃ r,rightR v vars (.mk k s n ks)=r:=⟨_,rfl⟩
  rw [hr]
  rw [rightR] at hr
  obtain ⟨e,he⟩:∃ e,headR0 v vars k s ks.length=e:=⟨_,rfl⟩
  rw [he] at hr
  unfold headR0 at he
  generalize arityR v s=ar at *
  obtain ⟨da,cl,ins⟩:=v
  simp only [En.cells,Ty.cells] at HA ih ⊢
  refine Zc Tryz.func106 U (by kernel_rfl) U (Wc U) ?_
  refine QN ?_
  refine c_lena (t:=2) (j:=3) U U (.seq _ _) (fun hmax=>?_)
  refine Ql ?_
  refine Qde ?_
  refine Qdf ?_
  refine Qbi ?_
  refine QaE ?_;intro c12 h12
  refine Qa ?_
  apply c_joinkm (rg [(0,1),(2,1),(4,1),(6,2),(10,22)]) (σ:=Unit) (fun zz=>match zz with|z=>[]) (fun zz=>match zz with|z=>e=0)
  ·repeat' (first|exact Wf|apply Wd rfl|apply We rfl)
  ·skip
   obtain ⟨rfl,g12⟩|⟨rfl,g12⟩:=Za h12
   ·refine QX ?_
    refine Ql ?_
    refine QaE ?_;intro c20 h20
    refine Qa ?_
    obtain ⟨rfl,g20⟩|⟨rfl,g20⟩:=Za h20
    ·refine QX ?_
     refine Ql ?_
     refine Qj ?_
     refine c_retj ?_
     rw [if_neg g12,if_neg g20] at he;rw [if_pos by17] at hr;exact Ze rfl rfl (Xu _) by4 ⟨by rw [← hr,← he],rfl⟩
    refine Qq ?_
    refine Qbe ?_
    refine Qd ?_
    refine Zb 24 U U U (Zd (xs:=[.tmp 21,.tmp 23]) U U (HA) by2 ?_)
    refine QU ?_
    refine Qg ?_;intro c26 h26
    refine Qa ?_
    obtain ⟨rfl,g26⟩|⟨rfl,g26⟩:=Za h26
    ·refine Qau ?_
     refine Qd ?_
     refine QY ?_;intro n30
     refine QP ?_;intro c31 h31
     refine Qa ?_
     obtain ⟨rfl,g31⟩|⟨rfl,g31⟩:=Za h31
     ·refine QbL ?_
      first
      |(rw [if_pos g12,if_pos (hasB_iff.2 (Classical.not_not.1 g17))] at he;exact ⟨(),he.symm,by5,by4⟩)
      |(rw [if_neg g12,if_pos g20,if_neg g26,if_neg by17] at he;exact ⟨(),he.symm,by5,by4⟩)
     refine Qq ?_
     refine Qj ?_
     refine c_retj ?_
     rw [if_neg g12,if_pos g20,if_neg g26,if_pos by17] at he;rw [if_pos by17] at hr;exact Ze rfl rfl (Xu _) by4 ⟨by rw [← hr,← he],rfl⟩
    refine Qq ?_
    refine Qj ?_
    refine c_retj ?_
    rw [if_neg g12,if_pos g20,if_pos g26] at he;rw [if_pos by17] at hr;exact Ze rfl rfl (Xu _) by4 ⟨by rw [← hr,← he],rfl⟩
   refine QaW ?_
   refine Qd ?_
   refine Zb 16 U U U (Zg (xs:=[.tmp 13,.tmp 15]) U U (Has_c vars s) by2 ?_);intro c16 h16
   refine Q5 ?_;intro c17 h17
   try replace h17:=Ym h17 h16
   refine Qa ?_
   obtain ⟨rfl,g17⟩|⟨rfl,g17⟩:=Za h17
   ·refine QbL ?_
    first
    |(rw [if_pos g12,if_pos (hasB_iff.2 (Classical.not_not.1 g17))] at he;exact ⟨(),he.symm,by5,by4⟩)
    |(rw [if_neg g12,if_pos g20,if_neg g26,if_neg by17] at he;exact ⟨(),he.symm,by5,by4⟩)
   refine Qq ?_
   refine Qj ?_
   refine c_retj ?_
   rw [if_pos g12,if_neg (by rw [hasB_iff];exact g17)] at he;rw [if_pos by17] at hr;exact Ze rfl rfl (Xu _) by4 ⟨by rw [← hr,← he],rfl⟩
  rintro z hI
  try dsimp only [List.cons_append,List.nil_append] at hI ⊢
  refine Qbd ?_
  refine Ql ?_
  refine Qab ?_
  apply Zu (rg [(0,1),(2,1),(4,1),(6,44)]) (σ:=Nat) (fun zz=>match zz with|i=>[(8,.val (.int .i64 i))]) (fun zz=>match zz with|i=>i≤ks.length∧rightsR (.mk da cl ins) vars (ks.drop i)=r) (fun zz=>match zz with|i=>ks.length - i) (0)
  ·repeat' (first|exact Wf|apply Wd rfl|apply We rfl)
  ·rw [if_neg by17] at hr;exact ⟨Nat.zero_le _,hr⟩
  ·exact by5
  rintro i hI
  try dsimp only [List.cons_append,List.nil_append] at hI ⊢
  obtain ⟨h1,hu⟩:=hI
  refine Qav ?_
  refine QY ?_;intro n35
  refine Qg ?_;intro c36 h36
  refine Qa ?_
  obtain ⟨rfl,g36⟩|⟨rfl,g36⟩:=Za h36
  ·refine Qad ?_
   rw [Wh by17,rightsR] at hu;exact Ze rfl rfl (Xu _) by4 ⟨by rw [← hu],rfl⟩
  refine Qk ?_
  obtain ⟨⟨xk,xs,xn,xl⟩,hx⟩:=Zj (l:=ks) (i:=i) by17
  have hcx:=Ty.cellss_get hx
  have H:=ih _ (Wg hx)
  rw [Zz hx,rightsR] at hu
  simp only [Ty.cells] at hcx H
  refine Q6 ?_
  refine Qct ?_
  refine QF ?_
  refine QaF ?_
  refine Zq 44 U U (Zh U te_22 U (.seq _ _) U U (hcx) ⟨U,U⟩) ?_
  refine Qb5 ?_
  refine Zq 46 U U (Zd (xs:=[.tmp 39,.tmp 40,.tmp 45]) U U (H) by2 ⟨U,U⟩) ?_
  refine Qcn ?_
  show AGo _ _ _ _ _ _ _
  refine Qc ?_
  refine Q0 ?_
  refine QP ?_;intro c48 h48
  refine Qa ?_
  obtain ⟨rfl,g48⟩|⟨rfl,g48⟩:=Za h48
  ·refine QL ?_
   rw [if_neg g48] at hu;exact ⟨i+1,⟨by omega,hu⟩,by show ks.length - (i+1)<ks.length - i;omega,by5,by4⟩
  refine QaY ?_
  rw [if_pos g48] at hu;exact Ze rfl rfl (Xu _) by4 ⟨by rw [hu],rfl⟩
theorem Method_c (v:En) (s:ByteArray):PCall Tryz.prog 65 [.agg v.cells,.val (.string s)] (.tup [.val (.int .i64 (methI s v.cl 0).1),.val (.int .i64 (methI s v.cl 0).2)]):=by
 obtain ⟨da,cl,ins⟩:=v
 have hl:=Cl.cellss_len cl
 obtain ⟨r,hr⟩:∃ r,methI s cl 0=r:=⟨_,rfl⟩
 have hC:methI s (cl.drop 0) 0=r:=hr
 simp only [En.cells,En.cl]
 rw [hr]
 refine Zc Tryz.func65 U (by kernel_rfl) U (Wc U) ?_
 refine QN ?_
 refine c_lena (t:=0) (j:=1) U U (.seq _ _) (fun hmax=>?_)
 refine Ql ?_
 refine Qde ?_
 refine QJ ?_
 refine Qae ?_
 apply Zu (rg [(0,1),(3,37)]) (σ:=Nat) (fun zz=>match zz with|i=>[(6,.val (.int .i64 i))]) (fun zz=>match zz with|i=>i≤cl.length∧methI s (cl.drop i) i=r) (fun zz=>match zz with|i=>cl.length - i) (0)
 ·repeat' (first|exact Wf|apply Wd rfl|apply We rfl)
 ·exact ⟨Nat.zero_le _,hC⟩
 ·exact by5
 rintro i hI
 try dsimp only [List.cons_append,List.nil_append] at hI ⊢
 obtain ⟨h1,hu⟩:=hI
 refine Qav ?_
 refine QdZ ?_;intro n11
 refine Qg ?_;intro c12 h12
 refine Qa ?_
 obtain ⟨rfl,g12⟩|⟨rfl,g12⟩:=Za h12
 ·refine Qa3 ?_
  refine Qac ?_
  rw [Wh by17,methI] at hu;subst hu;exact Yn rfl rfl rfl (Xu _) by4 ⟨rfl,rfl⟩
 refine Qk ?_
 obtain ⟨⟨xs,xv,xsu,xms,xds,xp⟩,hxx⟩:=Zj (l:=cl) (i:=i) by8
 have hcx:=Cl.cellss_get hxx
 have hmx:=Wg hxx
 rw [Zz hxx,methI] at hu
 have hml:=Me.cellss_len xms
 obtain ⟨f,hf⟩:∃ f,findI (fun (m:Me)=>sameB m.s s) xms 0=f:=⟨_,rfl⟩
 have hu:(if 0≤f then ((i:Int),f) else methI s (cl.drop (i+1)) (i+1))=r:=by rw [← hf];exact hu
 refine QaN ?_
 apply Zu (rg [(0,1),(3,3),(7,1),(15,25)]) (σ:=Nat) (fun zz=>match zz with|j=>[(7,.val (.int .i64 j))]) (fun zz=>match zz with|j=>j≤xms.length∧findI (fun (m:Me)=>sameB m.s s) (xms.drop j) j=f) (fun zz=>match zz with|j=>xms.length - j) (0)
 ·repeat' (first|exact Wf|apply Wd rfl|apply We rfl)
 ·exact ⟨Nat.zero_le _,hf⟩
 ·exact by5
 rintro j hI
 try dsimp only [List.cons_append,List.nil_append] at hI ⊢
 obtain ⟨h2,hv⟩:=hI
 refine QS ?_
 refine QT ?_
 refine QdK ?_
 refine Qd ?_
 refine Qes ?_;intro n22
 refine Qg ?_;intro c23 h23
 refine Qa ?_
 obtain ⟨rfl,g23⟩|⟨rfl,g23⟩:=Za h23
 ·refine Qdv ?_
  rw [Wh by17,findI] at hv;rw [if_neg by17] at hu;exact ⟨i+1,⟨by omega,hu⟩,by show cl.length - (i+1)<cl.length - i;omega,by5,by4⟩
 refine Qk ?_
 obtain ⟨⟨ys,⟨ytk,yts,ytn,ytl⟩,yp⟩,hxy⟩:=Zj (l:=xms) (i:=j) by8
 have hcy:=Me.cellss_get hxy
 have hmy:=Wg hxy
 refine c_lens (t:=21) U (.seq _ _) (fun hmx=>?_)
 rw [Zz hxy,findI] at hv
 have hv:(if sameB ys s=true then (j:Int) else findI (fun (m:Me)=>sameB m.s s) (xms.drop (j+1)) (j+1))=f:=hv
 simp only [Me.cells,Ty.cells,List.cons_append,List.nil_append] at hcy
 refine Qa5 ?_
 refine Zb 29 U U U (Zh U te_38 U (.seq _ _) U U (by first|exact hcx|exact hcy) ?_)
 refine QT ?_
 refine Zb 33 U U U (Zh U te_116 U (.seq _ _) U U (by first|exact hcx|exact hcy) ?_)
 refine QT ?_
 refine Qas ?_;intro c37 h37
 refine Qa ?_
 obtain ⟨rfl,g37⟩|⟨rfl,g37⟩:=Za h37
 ·refine QL ?_
  rw [if_neg (by rw [sameB_no g37];simp)] at hv;exact ⟨j+1,⟨by omega,hv⟩,by show xms.length - (j+1)<xms.length - j;omega,by5,by4⟩
 refine Qb0 ?_
 refine Qac ?_
 rw [if_pos (sameB_yes g37)] at hv;rw [if_pos by17,← hv] at hu;subst hu;exact Yn rfl rfl rfl (Xu _) by4 ⟨rfl,rfl⟩
end Go.Proofs.YteepjjgooplljaaGreat
namespace Go.Proofs.YteepjjgooplljaaGreat
def lack (l met:List ByteArray):Nat:=(l.filter fun s => !hasB met s).length
theorem hasB_app (a b:List ByteArray) (s:ByteArray):hasB (a++b) s=(hasB a s || hasB b s):=by unfold hasB;rw [List.any_append]
theorem lack_le (l:List ByteArray) (met:List ByteArray) (s:ByteArray):lack l (met++[s])≤lack l met:=by
 unfold lack
 induction l with
 | nil=>simp
 | cons x l ih =>
  simp only [List.filter_cons,hasB_app,Bool.not_or]
  cases h:hasB met x with
  | true=>simpa [h] using (by simpa [hasB_app] using ih)
  | false =>
   simp only [hasB_app,Bool.not_or] at ih
   cases h2:hasB [s] x <;> simp <;> omega
theorem lack_lt {l:List ByteArray} {met:List ByteArray} {s:ByteArray} (hs:s∈l) (hm:¬ hasB met s=true):lack l (met++[s])+1≤lack l met:=by
 induction l with
 | nil=>simp at hs
 | cons x l ih =>
  have hle:=lack_le l met s
  unfold lack at *
  simp only [List.filter_cons,hasB_app,Bool.not_or] at *
  by_cases e:s=x
  ·subst e
   have h1:hasB met s=false:=by simpa using hm
   have h2:hasB [s] s=true:=hasB_iff.2 by18
   simp only [h1,h2,Bool.not_true,Bool.not_false,Bool.and_false]
   simp
   omega
  have hs':s∈l:=by
   rcases List.mem_cons.1 hs with q|q
   ·exact absurd q e
   exact q
  have:=ih hs'
  cases h:hasB met x with
  | true=>simpa [h] using this
  | false=>cases h2:hasB [s] x <;> simp <;> omega
def Grow (l met met':List ByteArray):Prop:=met'.length+lack l met'≤met.length+lack l met∧lack l met'≤lack l met∧∀ s∈met,s∈met'
theorem Grow.refl (l met:List ByteArray):Grow l met met:=⟨Nat.le_refl _,Nat.le_refl _,fun _ h=>h⟩
theorem Grow.trans {l a b c:List ByteArray} (h:Grow l a b) (k:Grow l b c):Grow l a c:=⟨Nat.le_trans k.1 h.1,Nat.le_trans k.2.1 h.2.1,fun s hs=>k.2.2 s (h.2.2 s hs)⟩
theorem Grow.add {l met:List ByteArray} {s:ByteArray} (hs:s∈l) (hm:¬ hasB met s=true):Grow l met (met++[s]):=by
 have:=lack_lt hs hm
 exact ⟨by simp;omega,by omega,fun x hx=>by simp [hx]⟩
theorem overL_grow {l:List ByteArray} {O:ByteArray→List ByteArray→List ByteArray} (HO:∀ s met,Grow l met (O s met)):∀ (ss met:List ByteArray),(∀ s∈ss,s∈l)→Grow l met (overL O ss met)
 | [],met,_=>Grow.refl _ _
 | s::ss,met,h=>by
  unfold overL
  by_cases hm:hasB met s=true
  ·rw [if_pos hm];exact overL_grow HO ss met (fun x hx=>h x (by simp [hx]))
  rw [if_neg hm]
  exact ((Grow.add (h s by18) hm).trans (HO s _)).trans (overL_grow HO ss _ (fun x hx=>h x (by simp [hx])))
theorem supersOf_sub (v:En) (c:ByteArray):∀ s∈supersOf v c,s∈allSup v:=by
 intro s hs
 unfold supersOf at hs
 cases h:v.cl[(classI v c).toNat]? with
 | none=>rw [h] at hs;simp at hs
 | some x =>
  rw [h] at hs
  simp only [Option.map_some,Option.getD_some] at hs
  exact List.mem_flatMap.2 ⟨x,Wg h,hs⟩
theorem overF_grow (v:En):∀ (n:Nat) (c:ByteArray) (met:List ByteArray),Grow (allSup v) met (overF v n c met)
 | 0,c,met=>Grow.refl _ _
 | n+1,c,met=>by
  unfold overF
  split
  ·exact Grow.refl _ _
  exact overL_grow (overF_grow v n) _ _ (supersOf_sub v c)
theorem lack_nil (l:List ByteArray):lack l []=l.length:=by simp [lack,hasB]
open Go.RowKit
theorem overL_go {O:ByteArray→List ByteArray→List ByteArray} {s:ByteArray} {l met:List ByteArray} (h:¬ s∈met):overL O (s::l) met=overL O l (O s (met++[s])):=by rw [overL,if_neg (by rw [hasB_no h];simp)]
theorem overL_skip {O:ByteArray→List ByteArray→List ByteArray} {s:ByteArray} {l met:List ByteArray} (h:s∈met):overL O (s::l) met=overL O l met:=by rw [overL,if_pos (hasB_iff.2 h)]
theorem over11_c (v:En) (hS:(allSup v).length≤10000000000):∀ (n:Nat) (c:ByteArray) (met:List ByteArray) (u:Value),lack (allSup v) met<n→met.length+lack (allSup v) met≤(allSup v).length →
    ACall Tryz.prog 164 [.agg v.cells,.val (.string c),.own u 1 (strs met)] [.own 9 1 u] (fun r M'=>∃ u',r=.own u' 1 (strs (overF v n c met))∧M'=[.own 9 1 u'])
 | 0,c,met,u,h1,h2=>by omega
 | n+1,c,met,u,h1,h2=>by
  have IH:=fun s m u a b=>over11_c v hS n s m u a b
  have HC:=Class_c v c
  have hsub:=supersOf_sub v c
  have hcc:=findI_cases (fun (x:Cl)=>sameB x.s c) v.cl 0
  have hcl:=findI_lt (fun (x:Cl)=>sameB x.s c) v.cl 0
  obtain ⟨r,hr⟩:∃ r,overF v (n+1) c met=r:=⟨_,rfl⟩
  rw [hr]
  rw [overF] at hr
  obtain ⟨ss,hss⟩:∃ l,supersOf v c=l:=⟨_,rfl⟩
  rw [hss] at hr hsub
  unfold supersOf at hss
  have hci:classI v c=findI (fun (x:Cl)=>sameB x.s c) v.cl 0:=rfl
  rw [← hci] at hcc hcl
  clear hci
  generalize classI v c=ci at *
  obtain ⟨da,cl,ins⟩:=v
  have hl:=Cl.cellss_len cl
  have hsl:=Ya ss
  simp only [En.cells,En.cl] at HC hss hcl IH ⊢
  generalize hAll:allSup (En.mk da cl ins)=all at *
  refine Zc Tryz.func164 U (by kernel_rfl) U (Wc U) ?_
  refine Qar ?_
  refine Qdw ?_
  refine Qb ?_
  refine Zb 12 U U U (Zd (xs:=[.tmp 10,.tmp 11]) U U (HC) by2 ?_)
  refine QU ?_
  refine Qg ?_;intro c14 h14
  refine Qa ?_
  obtain ⟨rfl,g14⟩|⟨rfl,g14⟩:=Za h14
  ·refine Qp ?_
   rw [if_neg g14] at hr
   obtain ⟨x,hx⟩:=Zj (l:=cl) (i:=ci.toNat) by17
   rw [hx] at hss
   have hcx:=Cl.cellss_get hx
   obtain ⟨xs,xv,xsu,xms,xds,xp⟩:=x
   obtain rfl:xsu=ss:=hss
   refine Qa5 ?_
   refine Zb 19 U U U (Zh (i:=ci.toNat) U te_38 U (.seq _ _) U by11 (hcx) ?_)
   refine Qd ?_
   refine Qae ?_
   apply Yl (rg [(0,3),(4,2),(7,1),(9,39)]) (σ:=Nat × List ByteArray × Value) (fun zz=>match zz with|(i,m,w)=>[(2,.own w 1 (strs m)),(9,.val (.int .i64 i))]) (fun zz=>match zz with|(i,m,w)=>[.own 9 1 w]) (fun zz=>match zz with|(i,m,w)=>i≤xsu.length∧overL (overF (En.mk da cl ins) n) (xsu.drop i) m=r∧lack all m<n+1∧m.length+lack all m≤all.length) (fun zz=>match zz with|(i,m,w)=>xsu.length - i) ((0,met,u))
   ·repeat' (first|exact Wf|apply Wd rfl|apply We rfl)
   ·exact ⟨Nat.zero_le _,hr,h1,h2⟩
   ·exact by5
   ·exact by4
   rintro ⟨i,m,w⟩ hI
   try dsimp only [List.cons_append,List.nil_append] at hI ⊢
   obtain ⟨i1,hu,i3,i4⟩:=hI
   have hle:(strs m).length≤10000000000:=by rw [Ya];omega
   refine c_lens (t:=8) U (.seq _ _) (fun hmx=>?_)
   refine QcV ?_;intro n24
   refine Qg ?_;intro c25 h25
   refine Qa ?_
   obtain ⟨rfl,g25⟩|⟨rfl,g25⟩:=Za h25
   ·refine Qa4 ?_
    rw [Wh by17,overL] at hu;subst hu;exact Ze rfl rfl (Xu _) (Xo _) ⟨w,rfl,rfl⟩
   refine Qk ?_
   obtain ⟨s,hxs⟩:=Zj (l:=xsu) (i:=i) by8
   have hcs:=Xc hxs
   have hms:=Wg hxs
   rw [Zz hxs] at hu
   refine QaO ?_
   refine Qfp ?_
   refine QaG ?_
   refine Zb 33 U U U (Zg (xs:=[.tmp 28,.tmp 32]) U U (Has_c m s) by2 ?_);intro c33 h33
   refine Q5 ?_;intro c34 h34
   try replace h34:=Ym h34 h33
   refine Qa ?_
   obtain ⟨rfl,g34⟩|⟨rfl,g34⟩:=Za h34
   ·refine QL ?_
    first
    |(rw [overL_skip (Classical.not_not.1 g34)] at hu;exact ⟨(i+1,m,w),⟨(by show i+1≤xsu.length;omega),hu,i3,i4⟩,by show xsu.length - (i+1)<xsu.length - i;omega,by5,by4⟩)
    | exact ⟨(i+1,overF (En.mk da cl ins) n s (m++[s]),u47),⟨(by show i+1≤xsu.length;omega),hu,by have:=hgr.2.1;show lack all (overF (En.mk da cl ins) n s (m++[s]))<n+1;omega,by have:=hgr.1;simp only [List.length_append,List.length_singleton] at this;show (overF (En.mk da cl ins) n s (m++[s])).length+lack all (overF (En.mk da cl ins) n s (m++[s]))≤all.length;omega⟩,by show xsu.length - (i+1)<xsu.length - i;omega,by5,by4⟩
   refine Q4 ?_
   rw [overL_go g34] at hu
   have hlk:=lack_lt (hsub s hms) (by rw [hasB_no g34];simp)
   have hgr:=overF_grow (En.mk da cl ins) n s (m++[s])
   rw [hAll] at hgr
   have HO:∀ u,ACall Tryz.prog 164 [.agg [.seq 5 (Da.cellss da),.seq 6 (Cl.cellss cl),.seq 8 (In.cellss ins)],.val (.string s),.own u 1 (strs m++[[.val (.string s)]])] [.own 9 1 u] (fun r M'=>∃ u',r=.own u' 1 (strs (overF (En.mk da cl ins) n s (m++[s])))∧M'=[.own 9 1 u']):=fun u=>by
    rw [strs_snoc]
    exact IH s (m++[s]) u by17 by13
   refine Yh [0,1,2,3,4,5,6,7,8,9,10,11,12,13] [11,12] [[],[],[],[1,2],[1,2,3],[],[],[],[6,7],[6,7,8],[6,7,8,9],[5,6,7,8,9,10],[0,1,2,3,4,5,6,7,8,9,10,11],[0,1,2,3,4,5,6,7,8,9,10,11,12]] Yx U ?_
   refine Qeu ?_
   refine QbM ?_
   refine Qfq ?_
   refine Qel ?_
   refine QbM ?_
   refine Qw ?_
   refine Qfq ?_
   refine Qel ?_
   refine Zi 45 (none) (i:=10) U U U U U (Zf (xs:=[.tmp 44]) Yy U U U U U U (Wc U) ⟨U,U⟩) ?_
   refine Yc 0 (i:=11) U U U U U (Zv (i:=0) Yy U U U U (.seq _ _) by7 (fun u46=>⟨_,U,?_⟩))
   refine EOps.wh (i:=12) U U U U (op_callat [0] (xs:=[.tmp 35,.tmp 39,.tmp 46])  U U U (HO u46) by2 ?_)
   rintro v47 M47 ⟨u47,rfl,rfl⟩
   refine QZ ?_
   show AGo _ _ _ _ _ _ _
   refine QcS ?_
   first
   |(rw [overL_skip (Classical.not_not.1 g34)] at hu;exact ⟨(i+1,m,w),⟨(by show i+1≤xsu.length;omega),hu,i3,i4⟩,by show xsu.length - (i+1)<xsu.length - i;omega,by5,by4⟩)
   | exact ⟨(i+1,overF (En.mk da cl ins) n s (m++[s]),u47),⟨(by show i+1≤xsu.length;omega),hu,by have:=hgr.2.1;show lack all (overF (En.mk da cl ins) n s (m++[s]))<n+1;omega,by have:=hgr.1;simp only [List.length_append,List.length_singleton] at this;show (overF (En.mk da cl ins) n s (m++[s])).length+lack all (overF (En.mk da cl ins) n s (m++[s]))≤all.length;omega⟩,by show xsu.length - (i+1)<xsu.length - i;omega,by5,by4⟩
  refine QaY ?_
  rw [if_pos g14] at hr;subst hr;exact Ze rfl rfl (Xu _) (Xo _) ⟨u,rfl,rfl⟩
theorem Above_c (v:En) (hS:(allSup v).length≤10000000000) (c:ByteArray):OCall Tryz.prog 107 [.agg v.cells,.val (.string c)] 9 1 (strs (aboveR v c)):=by
 have H0:=over11_c v hS ((allSup v).length+1) c [] (.slice none 0 0) (by rw [lack_nil];omega) (by rw [lack_nil];simp)
 have H:=H0.args (Xw (Xu _) (Xw (Xu _) (Xw (Le.nilOwn 1) (Xv _))))
 clear H0
 obtain ⟨da,cl,ins⟩:=v
 have he:overF (En.mk da cl ins) ((allSup (En.mk da cl ins)).length+1) c []=aboveR (En.mk da cl ins) c:=rfl
 rw [he] at H
 simp only [En.cells] at H ⊢
 refine Zc Tryz.func107 U (by kernel_rfl) U (Wc U) ?_
 refine Qar ?_
 refine QG ?_
 refine Qcs ?_
 refine Qi ?_
 refine Qbe ?_
 refine Qb ?_
 refine Zb 7 U U U (op_callat [0] (xs:=[.tmp 5,.tmp 6,.const (.slice none 0 0)])  U U U H (Xv _) ?_)
 rintro v7 M7 ⟨u7,rfl,rfl⟩
 refine Qo ?_
 exact Ze U U (Xu _) (Xo _) ⟨u7,U,U⟩
theorem Bnd_c (l:List Bi) (hb:l.length≤1000000):OCall Tryz.prog 66 [.seq 13 (Bi.cellss l)] 9 1 (strs (l.map Bi.s)):=by
 have hl:=Bi.cellss_len l
 refine Zc Tryz.func66 U (by kernel_rfl) U (Wc U) ?_
 refine Qe ?_
 refine Qs ?_
 refine Qae ?_
 refine Qcs ?_
 apply Yl (rg [(1,1),(3,16)]) (σ:=Nat × List ByteArray × Value) (fun zz=>match zz with|(i,acc,u)=>[(3,.own u 1 (strs acc)),(4,.val (.int .i64 i))]) (fun zz=>match zz with|(i,acc,u)=>[.own 9 1 u]) (fun zz=>match zz with|(i,acc,u)=>i≤l.length∧acc=(l.take i).map Bi.s) (fun zz=>match zz with|(i,acc,u)=>l.length - i) ((0,[],.slice none 0 0))
 ·repeat' (first|exact Wf|apply Wd rfl|apply We rfl)
 ·exact ⟨Nat.zero_le _,U⟩
 ·exact Xy U (Le.nilOwn 1) (Xy U (Xu _) (Xz _))
 ·exact by4
 rintro ⟨i,acc,u⟩ hI
 try dsimp only [List.cons_append,List.nil_append] at hI ⊢
 obtain ⟨hi,ha⟩:=hI
 have hle:(strs acc).length≤1000000:=by rw [Ya,ha,List.length_map,List.length_take];omega
 refine QaA ?_
 refine Qfr ?_;intro n7
 refine Qg ?_;intro c8 h8
 refine Qa ?_
 obtain ⟨rfl,g8⟩|⟨rfl,g8⟩:=Za h8
 ·refine Qa4 ?_
  exact Ze U U (Wb (by rw [ha,List.take_of_length_le by17])) (Xo _) ⟨u,U,U⟩
 refine QaV ?_
 obtain ⟨⟨xs,⟨yk,ys,yn,⟨ytk,yts,ytn,ytl⟩,yks,yal,ybs,yp⟩,xp⟩,hxx⟩:=Zj (l:=l) (i:=i) by17
 have hcx:=Bi.cellss_get hxx
 simp only [Bi.cells,Ex.cells,Ty.cells,List.cons_append,List.nil_append] at hcx
 have hsn:=Yd hxx
 refine QaO ?_
 refine Qec ?_
 refine Qd ?_
 refine Zb 17 U U U (Zf (xs:=[.tmp 16]) Yy U U U U U U (Wc U) ?_)
 refine QdL ?_
 intro u18
 refine QaD ?_
 exact ⟨(i+1,(l.take (i+1)).map Bi.s,u18),⟨(by show i+1≤l.length;omega),U⟩,by show l.length - (i+1)<l.length - i;omega,Xy U (Wb (by rw [hsn,List.map_append,Xm,ha];rfl)) by5,by4⟩
def faultA (f:Flt):AV:=.agg [.val (.int .i64 f.1),.val (.int .i64 f.2)]
theorem Bi.cellss_take (l:List Bi) (i:Nat):(Bi.cellss l).take i=Bi.cellss (l.take i):=by rw [Bi.cellss_map,Bi.cellss_map,List.map_take]
theorem strs_take (l:List ByteArray) (i:Nat):(strs l).take i=strs (l.take i):=by unfold strs;rw [List.map_take]
theorem binds_c (l:List Bi) (c:Cl) (hb:l.length≤1000000) (hc:c.ms.length≤1000000):PCall Tryz.prog 109 [.seq 13 (Bi.cellss l),.agg c.cells] (faultA (bndR (c.ms.map Me.s) [] l)):=by
 have HN:=(names_c c hc).pure
 have hl:=Bi.cellss_len l
 obtain ⟨ns,hns⟩:∃ ns,c.ms.map Me.s=ns:=⟨_,rfl⟩
 rw [hns] at HN ⊢
 obtain ⟨r,hr⟩:∃ r,bndR ns [] l=r:=⟨_,rfl⟩
 rw [hr]
 obtain ⟨cs,cv,csu,cms,cds,cp⟩:=c
 simp only [Cl.cells] at HN ⊢
 refine Zc Tryz.func109 U (by kernel_rfl) U (Wc U) ?_
 refine Qbj ?_
 refine Qd0 ?_;intro b4
 refine Qa8 ?_
 refine Qab ?_
 apply Zu (rg [(1,2),(5,51)]) (σ:=Nat) (fun zz=>match zz with|i=>[(5,.val (.int .i64 i))]) (fun zz=>match zz with|i=>i≤l.length∧bndR ns ((l.take i).map Bi.s) (l.drop i)=r) (fun zz=>match zz with|i=>l.length - i) (0)
 ·repeat' (first|exact Wf|apply Wd rfl|apply We rfl)
 ·exact ⟨Nat.zero_le _,hr⟩
 ·exact by5
 rintro i hI
 try dsimp only [List.cons_append,List.nil_append] at hI ⊢
 obtain ⟨h1,hu⟩:=hI
 refine QaA ?_
 refine Qfr ?_;intro n8
 refine Qg ?_;intro c9 h9
 refine Qa ?_
 obtain ⟨rfl,g9⟩|⟨rfl,g9⟩:=Za h9
 ·refine Qa3 ?_
  refine Qev ?_
  refine Qb6 ?_
  refine Qr ?_
  rw [Wh by17,bndR] at hu;subst hu;exact Zk (i:=0) rfl rfl rfl Xf rfl (Xu _) (Xp _) ⟨rfl,rfl⟩
 refine Qk ?_
 refine Q2 ?_
 obtain ⟨⟨xs,⟨yk,ys,yn,⟨ytk,yts,ytn,ytl⟩,yks,yal,ybs,yp⟩,xp⟩,hxx⟩:=Zj (l:=l) (i:=i) by17
 have hcx:=Bi.cellss_get hxx
 simp only [Bi.cells,Ex.cells,Ty.cells,List.cons_append,List.nil_append] at hcx
 rw [Zz hxx,bndR] at hu
 have hsn:=Yd hxx
 have HB:=(Bnd_c (l.take i) (by rw [List.length_take];omega)).pure
 rw [← Bi.cellss_take] at HB
 refine Q6 ?_
 refine Zq 12 U U (Zt (cs':=[_,_,_,_,_,_]) U ta_118 U U U ⟨U,U⟩) ?_
 refine Zq 13 U U (Zd (xs:=[.tmp 12]) U U (HN) by2 ⟨U,U⟩) ?_
 refine QbZ ?_
 refine Qfs ?_
 refine Q3 ?_
 refine Yj 19 U U (fun _ q=>Zg (xs:=[.tmp 13,.tmp 18]) U U (Has_c ns xs) by2 q) ?_;intro c19 h19
 refine Yj 20 U U (fun _ q=>Yz U U q) ?_;intro c20 h20
 try replace h20:=Ym h20 h19
 show AGo _ _ _ _ _ _ _
 refine Qc ?_
 obtain ⟨rfl,g20⟩|⟨rfl,g20⟩:=Za h20
 ·refine QbK ?_
  rw [if_neg (by rw [hasB_iff.2 (Classical.not_not.1 g20)];simp)] at hu
  refine Q6 ?_
  refine QbZ ?_
  refine Zq 29 U U (op_cuth U te_79 U (.seq _ _) U U by17 ⟨U,U⟩) ?_
  refine Zq 30 U U (Zd (xs:=[.tmp 29]) U U (HB) by2 ⟨U,U⟩) ?_
  refine QbZ ?_
  refine Qfs ?_
  refine Q3 ?_
  refine Yj 36 U U (fun _ q=>Zg (xs:=[.tmp 30,.tmp 35]) U U (Has_c ((l.take i).map Bi.s) xs) by2 q) ?_;intro c36 h36
  show AGo _ _ _ _ _ _ _
  refine Qc ?_
  obtain ⟨rfl,g36⟩|⟨rfl,g36⟩:=Za h36
  ·refine Qp ?_
   rw [if_neg (by rw [hasB_no g36];simp)] at hu
   refine Q8 ?_
   refine Qec ?_
   refine QaR ?_
   refine Qd ?_
   refine QP ?_;intro c49 h49
   refine Qa ?_
   obtain ⟨rfl,g49⟩|⟨rfl,g49⟩:=Za h49
   ·refine QL ?_
    rw [if_neg g49] at hu;exact ⟨i+1,⟨by omega,by rw [hsn,List.map_append];exact hu⟩,by show l.length - (i+1)<l.length - i;omega,by5,by4⟩
   refine Qb0 ?_
   refine Qec ?_
   refine Qd ?_
   refine Zb 55 U U U (Zm (ns:=[0,1]) (xs:=[.const (.int .i64 130),.tmp 54]) U tz_85 U tfl_85 U U U U ?_)
   refine Qb6 ?_
   refine Qr ?_
   rw [if_pos g49] at hu;subst hu;exact Zk (i:=0) rfl rfl rfl Xf rfl (Xu _) (Xp _) ⟨rfl,rfl⟩
  refine Qb0 ?_
  refine Qec ?_
  refine Qd ?_
  refine Zb 42 U U U (Zm (ns:=[0,1]) (xs:=[.const (.int .i64 120),.tmp 41]) U tz_85 U tfl_85 U U U U ?_)
  refine Qb6 ?_
  refine Qr ?_
  rw [if_pos (hasB_iff.2 g36)] at hu;subst hu;exact Zk (i:=0) rfl rfl rfl Xf rfl (Xu _) (Xp _) ⟨rfl,rfl⟩
 refine Qb0 ?_
 refine Qec ?_
 refine Qd ?_
 refine Zb 26 U U U (Zm (ns:=[0,1]) (xs:=[.const (.int .i64 121),.tmp 25]) U tz_85 U tfl_85 U U U U ?_)
 refine Qb6 ?_
 refine Qr ?_
 rw [if_pos (hasB_no g20)] at hu;subst hu;exact Zk (i:=0) rfl rfl rfl Xf rfl (Xu _) (Xp _) ⟨rfl,rfl⟩
end Go.Proofs.YteepjjgooplljaaGreat
namespace Go.Proofs.YteepjjgooplljaaGreat
structure EnB (v:En):Prop where
 da:v.da.length≤100000
 dps:∀ d∈v.da,d.ps.length≤100000∧d.cs.length≤100000
 cl:v.cl.length≤100000
 cls:∀ c∈v.cl,c.su.length≤100000∧c.ms.length≤100000∧c.ds.length≤100000∧∀ m∈c.ms,m.t.size≤1000000
 ins:v.ins.length≤100000
 inss:∀ x∈v.ins,x.cx.length≤100000∧x.bs.length≤100000∧x.hd.kids.length≤200000
theorem flatMap_len {α β:Type} (f:α→List β) (n:Nat):∀ l:List α,(∀ x∈l,(f x).length≤n)→(l.flatMap f).length≤l.length * n
 | [],_=>by simp
 | x::l,h=>by
  have h1:=h x by18
  have h2:=flatMap_len f n l (fun y hy=>h y (by simp [hy]))
  rw [List.flatMap_cons,List.length_append,List.length_cons,Nat.add_mul]
  omega
theorem EnB.sup {v:En} (h:EnB v):(allSup v).length≤10000000000:=by
 have:=flatMap_len Cl.su 100000 v.cl (fun c hc=>(h.cls c hc).1)
 have h2:=h.cl
 unfold allSup
 omega
open Go.RowKit
theorem datas_c (v:En) (hv:EnB v):PCall Tryz.prog 61 [.agg v.cells] (faultA (datasR v)):=by
 have HR:=fun vars t=>Right_c v vars _ t (Nat.le_refl _)
 obtain ⟨r,hr⟩:∃ r,datasR v=r:=⟨_,rfl⟩
 rw [hr]
 unfold datasR at hr
 obtain ⟨hda,hdp,_,_,_,_⟩:=hv
 obtain ⟨da,cl,ins⟩:=v
 have hl:=Da.cellss_len da
 simp only [En.da] at hda hdp
 have hr:(if (datas1 [] da).1≠0 then datas1 [] da else datas2 (En.mk da cl ins) da [])=r:=hr
 obtain ⟨r1,hr1⟩:∃ r,datas1 [] da=r:=⟨_,rfl⟩
 rw [hr1] at hr
 simp only [En.cells] at HR ⊢
 refine Zc Tryz.func61 U (by kernel_rfl) U (Wc U) ?_
 refine Qar ?_
 refine Qd0 ?_;intro b2
 refine Qa8 ?_
 refine Qab ?_
 apply Zu (rg [(0,1),(3,3),(14,50)]) (σ:=Nat) (fun zz=>match zz with|i=>[(3,.val (.int .i64 i))]) (fun zz=>match zz with|i=>i≤da.length∧datas1 ((da.take i).map Da.s) (da.drop i)=r1) (fun zz=>match zz with|i=>da.length - i) (0)
 ·repeat' (first|exact Wf|apply Wd rfl|apply We rfl)
 ·exact ⟨Nat.zero_le _,hr1⟩
 ·exact by5
 rintro i hI
 try dsimp only [List.cons_append,List.nil_append] at hI ⊢
 obtain ⟨h1,hu⟩:=hI
 refine Qav ?_
 refine Qeb ?_;intro n17
 refine Qg ?_;intro c18 h18
 refine Qa ?_
 obtain ⟨rfl,g18⟩|⟨rfl,g18⟩:=Za h18
 ·refine Qag ?_
  rw [Wh by17,datas1] at hu
  rw [← hu,if_neg (by simp [f0])] at hr
  refine Qi ?_
  refine Qae ?_
  refine c_le (al':=[(1,.cptr [.seq 5 (Da.cellss da),.seq 6 (Cl.cellss cl),.seq 8 (In.cellss ins)]),(2,.ptr b2 0),(6,.val (.slice none 0 0)),(7,.val (.int .i64 0))]) by5 (Xo _) ?_
  refine Qcs ?_
  apply Yl (rg [(0,1),(3,146)]) (σ:=Nat × List ByteArray × Value) (fun zz=>match zz with|(i,met,w)=>[(6,.own w 1 (strs met)),(7,.val (.int .i64 i))]) (fun zz=>match zz with|(i,met,w)=>[.loc b2 [.val (.int .i64 0),.val (.int .i64 0)],.own 9 1 w]) (fun zz=>match zz with|(i,met,w)=>i≤da.length∧datas2 (En.mk da cl ins) (da.drop i) met=r∧met.length≤100000 * i) (fun zz=>match zz with|(i,met,w)=>da.length - i) ((0,[],.slice none 0 0))
  ·repeat' (first|exact Wf|apply Wd rfl|apply We rfl)
  ·exact ⟨Nat.zero_le _,hr,by simp⟩
  ·exact Xy U (Le.nilOwn 1) (Xy U (Xu _) (Xz _))
  ·exact (Xt U)
  rintro ⟨i,met,w⟩ hI
  try dsimp only [List.cons_append,List.nil_append] at hI ⊢
  obtain ⟨i1,hw,i3⟩:=hI
  refine Qav ?_
  refine Qeb ?_;intro n67
  refine Qg ?_;intro c68 h68
  refine Qa ?_
  obtain ⟨rfl,g68⟩|⟨rfl,g68⟩:=Za h68
  ·refine Qa3 ?_
   refine Qev ?_
   refine Qb6 ?_
   refine Qr ?_
   rw [Wh by17,datas2] at hw;subst hw;exact Zk (i:=0) rfl rfl rfl Xf rfl (Xu _) (Xp _) ⟨rfl,rfl⟩
  refine Qk ?_
  obtain ⟨⟨xs,xps,xcs,xdv,xp⟩,hxx⟩:=Zj (l:=da) (i:=i) by8
  have hcx:=Da.cellss_get hxx
  have hmx:=Wg hxx
  rw [Zz hxx,datas2] at hw
  obtain ⟨hp1,hp2⟩:=hdp _ hmx
  have hw:(if dupB [] xps=true then (120,xp) else if (consR (En.mk da cl ins) xps xcs met).1.1≠0 then (consR (En.mk da cl ins) xps xcs met).1 else datas2 (En.mk da cl ins) (da.drop (i+1)) (consR (En.mk da cl ins) xps xcs met).2)=r:=hw
  simp only [Da.ps,Da.cs] at hp1 hp2
  have hlp:=Ya xps
  have hlc:=Cn.cellss_len xcs
  obtain ⟨dup,hdup⟩:∃ b,dupB [] xps=b:=⟨_,rfl⟩
  rw [hdup] at hw
  obtain ⟨⟨cf,cm⟩,hcr⟩:∃ b,consR (En.mk da cl ins) xps xcs met=b:=⟨_,rfl⟩
  rw [hcr] at hw
  simp only [] at hw
  refine Qa5 ?_
  refine QeL ?_
  refine Qed ?_
  refine Qd1 ?_;intro b8
  refine Qee ?_
  refine Qa8 ?_
  refine Qab ?_
  apply Zu (rg [(0,1),(3,3),(9,1),(14,50),(76,20)]) (σ:=Nat) (fun zz=>match zz with|k=>[(9,.val (.int .i64 k))]) (fun zz=>match zz with|k=>k≤xps.length∧dupB (xps.take k) (xps.drop k)=dup) (fun zz=>match zz with|k=>xps.length - k) (0)
  ·repeat' (first|exact Wf|apply Wd rfl|apply We rfl)
  ·exact ⟨Nat.zero_le _,hdup⟩
  ·exact by5
  rintro k hI
  try dsimp only [List.cons_append,List.nil_append] at hI ⊢
  obtain ⟨k1,hk⟩:=hI
  refine QS ?_
  refine Qn ?_
  refine QbB ?_;intro n79
  refine Qg ?_;intro c80 h80
  refine Qa ?_
  obtain ⟨rfl,g80⟩|⟨rfl,g80⟩:=Za h80
  ·refine Qag ?_
   rw [Wh by17,dupB] at hk
   rw [if_neg (by rw [← hk];simp)] at hw
   refine QaN ?_
   refine c_le (al':=[(1,.cptr [.seq 5 (Da.cellss da),.seq 6 (Cl.cellss cl),.seq 8 (In.cellss ins)]),(2,.ptr b2 0),(6,.own w 1 (strs met)),(7,.val (.int .i64 i)),(8,.ptr b8 0),(10,.val (.int .i64 0))]) by5 (Xo _) ?_
   apply Yl (rg [(0,1),(3,4),(10,54),(96,53)]) (σ:=Nat × List ByteArray × Value) (fun zz=>match zz with|(j,m,w2)=>[(6,.own w2 1 (strs m)),(10,.val (.int .i64 j))]) (fun zz=>match zz with|(j,m,w2)=>[.loc b8 [.val (.string xs),.seq 1 (strs xps),.seq 3 (Cn.cellss xcs),.seq 1 (strs xdv),.val (.int .i64 xp)],.loc b2 [.val (.int .i64 0),.val (.int .i64 0)],.own 9 1 w2]) (fun zz=>match zz with|(j,m,w2)=>j≤xcs.length∧consR (En.mk da cl ins) xps (xcs.drop j) m=(cf,cm)∧m.length≤100000 * i+j) (fun zz=>match zz with|(j,m,w2)=>xcs.length - j) ((0,met,w))
   ·repeat' (first|exact Wf|apply Wd rfl|apply We rfl)
   ·exact ⟨Nat.zero_le _,hcr,by show met.length≤100000 * i+0;omega⟩
   ·exact by5
   ·exact (Xt U)
   rintro ⟨j,m,w2⟩ hI
   try dsimp only [List.cons_append,List.nil_append] at hI ⊢
   obtain ⟨j1,hj,j3⟩:=hI
   have hle:(strs m).length≤20000000000:=by rw [Ya];omega
   refine QS ?_
   refine Qn ?_
   refine Qft ?_;intro n99
   refine Qg ?_;intro c100 h100
   refine Qa ?_
   obtain ⟨rfl,g100⟩|⟨rfl,g100⟩:=Za h100
   ·refine Qdv ?_
    rw [Wh by17,consR] at hj
    cases hj
    rw [if_neg (by simp [f0])] at hw
    exact ⟨(i+1,cm,w2),⟨by show i+1≤da.length;omega,hw,by show cm.length≤100000 * (i+1);omega⟩,by show da.length - (i+1)<da.length - i;omega,by5,(Xr _ (Xt U))⟩
   refine Qk ?_
   obtain ⟨⟨ys,yts,yp⟩,hxy⟩:=Zj (l:=xcs) (i:=j) by8
   have hcy:=Cn.cellss_get hxy
   have hmy:=Wg hxy
   rw [Zz hxy,consR] at hj
   have hj:(if hasB m ys=true then (((120:Int),yp),m) else if 60<yts.length then ((3,yp),m++[ys]) else if rightsR (En.mk da cl ins) xps yts≠0 then ((rightsR (En.mk da cl ins) xps yts,yp),m++[ys]) else consR (En.mk da cl ins) xps (xcs.drop (j+1)) (m++[ys]))=(cf,cm):=hj
   have hlt:=Ty.cellss_len yts
   refine Qi ?_
   refine Qn ?_
   refine Qb ?_
   refine Zb 106 U U U (Zh U te_112 U (.seq _ _) U U (hcy) (Zb 107 U U U (Zt (cs':=[_,_,_]) U ta_163 U U U (Zb 11 U U U (Yb (cs':=[_,_,_]) U tz_163 U U ?_)))));intro b11
   refine Qgm ?_
   refine QaB ?_
   refine Qn ?_
   refine Zb 111 U U U (Zg (xs:=[.tmp 108,.tmp 110]) U U (Has_c m ys) by2 ?_);intro c111 h111
   refine Qa ?_
   obtain ⟨rfl,g111⟩|⟨rfl,g111⟩:=Za h111
   ·refine Qp ?_
    rw [if_neg (by rw [hasB_no g111];simp)] at hj
    refine Qh ?_
    refine Qn ?_
    refine Zb 118 U U U (Zf (xs:=[.tmp 117]) Yy U U U U U U (Wc U) ?_)
    refine Qgn ?_
    intro u119
    refine Qbi ?_
    refine Qn ?_
    refine QY ?_;intro n122
    refine Qbo ?_;intro c123 h123
    refine Qa ?_
    obtain ⟨rfl,g123⟩|⟨rfl,g123⟩:=Za h123
    ·refine Qp ?_
     rw [if_neg by17] at hj
     obtain ⟨e,he⟩:∃ e,rightsR (En.mk da cl ins) xps yts=e:=⟨_,rfl⟩
     rw [he] at hj
     refine QaN ?_
     refine c_le (al':=[(1,.cptr [.seq 5 (Da.cellss da),.seq 6 (Cl.cellss cl),.seq 8 (In.cellss ins)]),(2,.ptr b2 0),(6,.own u119 1 (strs (m++[ys]))),(7,.val (.int .i64 i)),(8,.ptr b8 0),(10,.val (.int .i64 j)),(11,.ptr b11 0),(12,.val (.int .i64 0))]) (Xy U (Xu _) (Xy U (Xu _) (Xy U (Wb (by rw [Xm];rfl)) by5))) (Xo _) ?_
     apply Zu (rg [(0,1),(3,3),(12,52),(127,22)]) (σ:=Nat) (fun zz=>match zz with|n=>[(12,.val (.int .i64 n))]) (fun zz=>match zz with|n=>n≤yts.length∧rightsR (En.mk da cl ins) xps (yts.drop n)=e) (fun zz=>match zz with|n=>yts.length - n) (0)
     ·repeat' (first|exact Wf|apply Wd rfl|apply We rfl)
     ·exact ⟨Nat.zero_le _,he⟩
     ·exact by5
     rintro n hI
     try dsimp only [List.cons_append,List.nil_append] at hI ⊢
     obtain ⟨n1,hn⟩:=hI
     refine QS ?_
     refine Qn ?_
     refine QY ?_;intro n130
     refine Qg ?_;intro c131 h131
     refine Qa ?_
     obtain ⟨rfl,g131⟩|⟨rfl,g131⟩:=Za h131
     ·refine Qdv ?_
      rw [Wh by17,rightsR] at hn
      rw [if_neg by17] at hj
      exact ⟨(j+1,m++[ys],u119),⟨by show j+1≤xcs.length;omega,hj,by show (m++[ys]).length≤100000 * i+(j+1);simp;omega⟩,by show xcs.length - (j+1)<xcs.length - j;omega,Xy U (Xu _) by5,(Xr _ (Xt U))⟩
     refine Qk ?_
     obtain ⟨⟨zk,zs,zn,zl⟩,hz⟩:=Zj (l:=yts) (i:=n) by17
     have hcz:=Ty.cellss_get hz
     have H:=HR xps (.mk zk zs zn zl)
     rw [Zz hz,rightsR] at hn
     simp only [Ty.cells] at hcz H
     refine Q6 ?_
     refine Qct ?_
     refine QbR ?_
     refine QdM ?_
     refine Qbv ?_
     refine QF ?_
     refine Zq 140 U U (Zh U te_22 U (.seq _ _) U U (hcz) ⟨U,U⟩) ?_
     refine Qb5 ?_
     refine Zq 142 U U (Zd (xs:=[.tmp 134,.tmp 136,.tmp 141]) U U (H) by2 ⟨U,U⟩) ?_
     refine Qcn ?_
     show AGo _ _ _ _ _ _ _
     refine Qc ?_
     refine Q0 ?_
     refine QP ?_;intro c144 h144
     refine Qa ?_
     obtain ⟨rfl,g144⟩|⟨rfl,g144⟩:=Za h144
     ·refine QL ?_
      rw [if_neg g144] at hn;exact ⟨n+1,⟨by omega,hn⟩,by show yts.length - (n+1)<yts.length - n;omega,by5,by4⟩
     refine QaW ?_
     refine Qn ?_
     refine Zb 148 U U U (Zm (ns:=[0,1]) (xs:=[.tmp 145,.tmp 147]) U tz_85 U tfl_85 U U U U ?_)
     refine Qcf ?_
     rw [if_pos g144] at hn;subst hn;rw [if_pos g144] at hj;cases hj;rw [if_pos g144] at hw;subst hw;exact Zk (i:=2) rfl rfl rfl Xf rfl (Xu _) (Xp _) ⟨rfl,rfl⟩
    refine Qcg ?_
    refine Zb 126 U U U (Zm (ns:=[0,1]) (xs:=[.const (.int .i64 3),.tmp 125]) U tz_85 U tfl_85 U U U U ?_)
    refine Qcf ?_
    rw [if_pos by17] at hj;cases hj;rw [if_pos by18] at hw;subst hw;exact Zk (i:=2) rfl rfl rfl Xf rfl (Xu _) (Xp _) ⟨rfl,rfl⟩
   refine Qcg ?_
   refine Zb 114 U U U (Zm (ns:=[0,1]) (xs:=[.const (.int .i64 120),.tmp 113]) U tz_85 U tfl_85 U U U U ?_)
   refine Qcf ?_
   rw [if_pos (hasB_iff.2 g111)] at hj;cases hj;rw [if_pos by18] at hw;subst hw;exact Zk (i:=2) rfl rfl rfl Xf rfl (Xu _) (Xp _) ⟨rfl,rfl⟩
  refine Qk ?_
  obtain ⟨s,hxs⟩:=Zj (l:=xps) (i:=k) by8
  have hcs:=Xc hxs
  have hms:=Wg hxs
  rw [Zz hxs,dupB] at hk
  have hss:=Yd hxs
  have HH:=Has_c (xps.take k) s
  rw [← strs_take] at HH
  refine Q6 ?_
  refine Qbv ?_
  refine QF ?_
  refine Qgo ?_
  refine Qbv ?_
  refine QF ?_
  refine Qfu ?_
  refine QdV ?_
  refine Yj 92 U U (fun _ q=>Zg (xs:=[.tmp 86,.tmp 91]) U U (HH) by2 q) ?_;intro c92 h92
  show AGo _ _ _ _ _ _ _
  refine Qc ?_
  obtain ⟨rfl,g92⟩|⟨rfl,g92⟩:=Za h92
  ·refine QL ?_
   rw [if_neg (by rw [hasB_no g92];simp)] at hk;exact ⟨k+1,⟨by omega,by rw [hss];exact hk⟩,by show xps.length - (k+1)<xps.length - k;omega,by5,by4⟩
  refine Qcg ?_
  refine Zb 95 U U U (Zm (ns:=[0,1]) (xs:=[.const (.int .i64 120),.tmp 94]) U tz_85 U tfl_85 U U U U ?_)
  refine Qch ?_
  rw [if_pos (hasB_iff.2 g92)] at hk;rw [if_pos hk.symm] at hw;subst hw;exact Zk (i:=1) rfl rfl rfl Xf rfl (Xu _) (Xp _) ⟨rfl,rfl⟩
 refine Qk ?_
 obtain ⟨⟨xs,xps,xcs,xdv,xp⟩,hxx⟩:=Zj (l:=da) (i:=i) by8
 have hcx:=Da.cellss_get hxx
 have hmx:=Wg hxx
 rw [Zz hxx,datas1] at hu
 have hsn:=Yd hxx
 have hu:(if baseB xs=true then (120,xp) else if hasB ((da.take i).map Da.s) xs=true then (120,xp) else datas1 ((da.take i).map Da.s++[xs]) (da.drop (i+1)))=r1:=hu
 refine Qa5 ?_
 refine QeL ?_
 refine Qed ?_
 refine Qd1 ?_;intro b4
 refine Qee ?_
 refine Qdr ?_
 refine Zw 43 (xs=kIntT∨xs=kStrT∨xs=kRefT∨xs=kArrow) ?_ _ _ U ?_
 ·skip
  refine Qn ?_
  refine Qas ?_;intro c28 h28
  refine Qb ?_
  obtain ⟨rfl,g28⟩|⟨rfl,g28⟩:=Za h28
  ·skip
   refine Qaq ?_
   refine Qbf ?_;intro c32 h32
   refine Qv ?_
   obtain ⟨rfl,g32⟩|⟨rfl,g32⟩:=Za h32
   ·skip
    refine Qaq ?_
    refine Qbf ?_;intro c37 h37
    refine Qv ?_
    obtain ⟨rfl,g37⟩|⟨rfl,g37⟩:=Za h37
    ·skip
     refine Qaq ?_
     refine Qbf ?_;intro c42 h42
     refine Qm ?_
     refine Wa U ?_ by6 by4
     simp_all;done
    skip
    refine Qc5 ?_
    refine Wa U ?_ by6 by4
    simp_all;done
   skip
   refine Qb1 ?_
   refine Qc5 ?_
   refine Wa U ?_ by6 by4
   simp_all;done
  skip
  refine Qb1 ?_
  refine Qb1 ?_
  refine Qc5 ?_
  refine Wa U ?_ by6 by4
  simp_all;done
 intro c43 h43
 refine Qc ?_
 obtain ⟨rfl,g43⟩|⟨rfl,g43⟩:=Za h43
 ·refine Qp ?_
  rw [if_neg (by unfold baseB;simp only [Bool.or_eq_true,Yt];simpa [or_assoc] using g43)] at hu
  refine QaN ?_
  apply Zu (rg [(0,1),(5,1),(47,17)]) (σ:=Nat) (fun zz=>match zz with|j=>[(5,.val (.int .i64 j))]) (fun zz=>match zz with|j=>j≤i∧¬ xs∈(da.take j).map Da.s) (fun zz=>match zz with|j=>i - j) (0)
  ·repeat' (first|exact Wf|apply Wd rfl|apply We rfl)
  ·exact ⟨Nat.zero_le _,by simp⟩
  ·exact by5
  rintro j hI
  try dsimp only [List.cons_append,List.nil_append] at hI ⊢
  obtain ⟨h2,hn⟩:=hI
  refine QaA ?_
  refine Qg ?_;intro c49 h49
  refine Qa ?_
  obtain ⟨rfl,g49⟩|⟨rfl,g49⟩:=Za h49
  ·refine Qdv ?_
   obtain rfl:j=i:=by omega
   rw [if_neg (by rw [hasB_no hn];simp)] at hu
   exact ⟨j+1,⟨by omega,by rw [hsn,List.map_append];exact hu⟩,by show da.length - (j+1)<da.length - j;omega,by5,by4⟩
  refine Qk ?_
  obtain ⟨⟨ys,yps,ycs,ydv,yp⟩,hxy⟩:=Zj (l:=da) (i:=j) by8
  have hcy:=Da.cellss_get hxy
  have hmy:=Wg hxy
  have hsy:=Yd hxy
  refine Q6 ?_
  refine QaF ?_
  refine Zq 55 U U (Zh U te_37 U (.seq _ _) U U (hcy) ⟨U,U⟩) ?_
  refine Q3 ?_
  refine Qbv ?_
  refine Yj 60 U U (fun _ q=>op_seql U U U q) ?_;intro c60 h60
  show AGo _ _ _ _ _ _ _
  refine Qc ?_
  obtain ⟨rfl,g60⟩|⟨rfl,g60⟩:=Za h60
  ·refine QL ?_
   exact ⟨j+1,⟨by omega,by rw [hsy,List.map_append,List.mem_append];simp only [List.map_cons,List.map_nil,List.mem_singleton];exact fun q=>q.elim hn (fun e=>g60 e.symm)⟩,by show i - (j+1)<i - j;omega,by5,by4⟩
  refine Qcg ?_
  refine Zb 63 U U U (Zm (ns:=[0,1]) (xs:=[.const (.int .i64 120),.tmp 62]) U tz_85 U tfl_85 U U U U ?_)
  refine Qch ?_
  have htk:(da.take i)[j]?=some (Da.mk ys yps ycs ydv yp):=by rw [List.getElem?_take_of_lt by17];exact hxy
  rw [if_pos (hasB_iff.2 (List.mem_map.2 ⟨_,Wg htk,g60⟩))] at hu;rw [← hu,if_pos by18] at hr;subst hr;exact Zk (i:=1) rfl rfl rfl Xf rfl (Xu _) (Xp _) ⟨rfl,rfl⟩
 refine Qcg ?_
 refine Zb 46 U U U (Zm (ns:=[0,1]) (xs:=[.const (.int .i64 120),.tmp 45]) U tz_85 U tfl_85 U U U U ?_)
 refine Qch ?_
 rw [if_pos (by unfold baseB;simp only [Bool.or_eq_true,Yt];simpa [or_assoc] using g43)] at hu;rw [← hu,if_pos by18] at hr;subst hr;exact Zk (i:=1) rfl rfl rfl Xf rfl (Xu _) (Xp _) ⟨rfl,rfl⟩
end Go.Proofs.YteepjjgooplljaaGreat
namespace Go.Proofs.YteepjjgooplljaaGreat
noncomputable instance:DecidableEq Ty:=fun a b=>Classical.propDecidable (a=b)
abbrev MSt:=List ByteArray × List Ty
mutual
noncomputable def mt:MSt→Ty→Ty→Option MSt
 | st,.mk k s n ks,b=>if k=1 then
       if 0≤firstAt s st.1 0 then (if st.2[(firstAt s st.1 0).toNat]?=some b then some st else none)
       else some (st.1++[s],st.2++[b])
     else if k=b.kind∧s=b.name∧n=b.num then mts st ks b.kids else none
noncomputable def mts:MSt→List Ty→List Ty→Option MSt
 | st,[],ys=>if ys=[] then some st else none
 | _,_::_,[]=>none
 | st,x::xs,y::ys=>match mt st x y with
  | some a=>mts a xs ys
  | none=>none
end
theorem mem_addVar (s:ByteArray) (acc:List ByteArray) (x:Ty):s∈addVar acc x↔s∈acc∨(x.kind=1∧x.name=s):=by
 unfold addVar
 by_cases h:x.kind=1∧x.name∉acc
 ·rw [if_pos h,List.mem_append]
  constructor
  ·rintro (q|q)
   ·exact Or.inl q
   exact Or.inr ⟨h.1,(List.mem_singleton.1 q).symm⟩
  rintro (q|q)
  ·exact Or.inl q
  exact Or.inr (List.mem_singleton.2 q.2.symm)
 rw [if_neg h]
 constructor
 ·exact Or.inl
 rintro (q|q)
 ·exact q
 by_cases hm:x.name∈acc
 ·rw [q.2] at hm;exact hm
 exact absurd ⟨q.1,hm⟩ h
theorem mem_foldVar (s:ByteArray):∀ (l:List Ty) (acc:List ByteArray),s∈l.foldl addVar acc↔s∈acc∨∃ x∈l,x.kind=1∧x.name=s
 | [],acc=>by simp
 | x::l,acc=>by
  rw [List.foldl_cons,mem_foldVar s l,mem_addVar]
  simp only [List.mem_cons,exists_eq_or_imp]
  exact or_assoc
mutual
theorem Ty.VarOk.all:∀ t:Ty,t.VarOk→∀ x∈t.all,x.VarOk
 | .mk k s n ks,h,x,hx=>by
  rw [Ty.all] at hx
  rcases List.mem_cons.1 hx with rfl|hx
  ·exact h
  obtain ⟨_,_,_,_,_,hk⟩:=h
  exact Ty.VarOk.alls ks hk x hx
theorem Ty.VarOk.alls:∀ ts:List Ty,(∀ t∈ts,t.VarOk)→∀ x∈Ty.alls ts,x.VarOk
 | [],_,x,hx=>by rw [Ty.alls] at hx;simp at hx
 | t::ts,h,x,hx=>by
  rw [Ty.alls] at hx
  rcases List.mem_append.1 hx with hx|hx
  ·exact Ty.VarOk.all t (h t by18) x hx
  exact Ty.VarOk.alls ts (fun y hy=>h y (by simp [hy])) x hx
end
end Go.Proofs.YteepjjgooplljaaGreat
