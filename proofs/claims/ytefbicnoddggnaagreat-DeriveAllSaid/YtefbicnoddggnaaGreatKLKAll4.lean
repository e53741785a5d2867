/- Parts of a proof: the document's parser: apat, pat; fix.Level; cognateref04.Level; the document's operators: Level, Side, Clash; the document's parser: Build; derive: makers of expressions; the document's parser: bind, lambda; the document's parser: atom; the document's parser: atom, in brackets; the document's parser: operand; the document's parser: Exp; the document's parser: data; The logic of trees, part 20: regions whose order is drawn, and in which a new variable is made at no told place: it may be made at any time.; the document's parser: class; the document's parser: instance; derive: patterns, pairs, the order of arguments; derive: the order of arguments; Eq's alternatives of one constructor; derive: one constructor's alternatives of Eq, Ord and Show -/
import Derived.Test.YtefbicnoddggnaaGreatKLKAll3
set_option maxRecDepth 100000
set_option maxHeartbeats 4000000
namespace Go.Proofs.YtefbicnoddggnaaGreat
open Go.RowKit
theorem patsL_go {L:List Tok} {T:PS→Pa × PS} {f:Nat} {p:PS} {acc:List Pa} (h:startsP L 1 p):patsL L T (f+1) p acc=patsL L T f (apatG L T p).2 (acc++[(apatG L T p).1]):=by rw [patsL,if_pos h]
theorem patsL_end {L:List Tok} {T:PS→Pa × PS} {f:Nat} {p:PS} {acc:List Pa} (h:¬ startsP L 1 p):patsL L T f p acc=(acc,p):=by
 cases f with
 | zero=>rfl
 | succ f=>rw [patsL,if_neg h]
theorem Pa.cellss_app' (a b:List Pa):Pa.cellss (a++b)=Pa.cellss a++Pa.cellss b:=by simp [Pa.cellss_map]
abbrev zPa:List AV:=[.val (.int .i64 0),.val (.string kE),.val (.int .i64 0),.val (.slice none 0 0),.val (.int .i64 0)]
def PaC (b:Nat) (L:List Tok) (n:Nat) (T:PS→Pa × PS):Prop:=∀ q,POk L n q→MCall Tryz.prog 106 [.ptr b 0] (.loc b (psC L q)) (.agg (T q).1.cells) (.loc b (psC L (T q).2))
theorem apat_c (b:Nat) (L:List Tok) (hL:L.length≤100000) (n:Nat) (T:PS→Pa × PS) (HT:PaC b L n T) (HA:∀ q,POk L n q→Adv L q (T q).2) (p:PS) (k:POk L n p):MCall Tryz.prog 111 [.ptr b 0] (.loc b (psC L p)) (.agg (apatG L T p).1.cells) (.loc b (psC L (apatG L T p).2)):=by
 have HN:=next_c b L p
 have HI:=is_p b L p kUn
 have hp:=k.1
 have a1:=Zj (L:=L) (kind:=7) (s:=kLP) by17 k
 have k1:=a1.ok k
 have hkt:(nxt L p).k≠0→p.at_<L.length:=fun e=>(nxt_in e).2
 have hki:isP L p kUn=true→p.at_<L.length:=fun e=>(is_lt e).2
 obtain ⟨t,ht⟩:∃ t,nxt L p=t:=⟨_,rfl⟩
 obtain ⟨r,hr⟩:∃ r,apatG L T p=r:=⟨_,rfl⟩
 have hr0:=hr
 unfold apatG at hr
 rw [ht] at HN hr hkt
 rw [hr0]
 obtain ⟨tk,tt,tn,ta⟩:=t
 simp only [Tok.av] at HN hr hkt
 refine Qe0 ?_
 refine Qn ?_
 refine QaV ?_;intro b2
 refine Qt ?_
 refine Zb 6 Y Y Y (Yi (xs:=[.tmp 5]) [1] Y Y Y (HN) by3 ?_)
 refine Qz ?_;intro b3
 refine Q6 ?_
 refine Qbq ?_
 refine Qe1 ?_
 refine QaV ?_;intro b4
 refine QbI ?_
 refine Qv ?_
 apply c_joink (rg [(1,1),(5,33),(50,1),(59,1)]) (σ:=Int × ByteArray × Int) (fun zz=>match zz with|(kk,ss,nn)=>[]) (fun zz=>match zz with|(kk,ss,nn)=>[.loc b4 [.val (.int .i64 kk),.val (.string ss),.val (.int .i64 nn),.val (.slice none 0 0),.val (.int .i64 ta)],.loc b3 (Tok.mk tk tt tn ta).av,.loc b2 zPa,.loc b (psC L p)]) (fun zz=>match zz with|(kk,ss,nn)=>(0<kk∧(Pa.mk kk ss nn [] ta,stepP p)=r∧p.at_<L.length)∨(kk=0∧(if isP L (takeP L p 7 kLP).2 kRP=true then (Pa.mk 3 kUnit 0 [] ta,stepP (takeP L p 7 kLP).2) else ((T (takeP L p 7 kLP).2).1,(takeP L (T (takeP L p 7 kLP).2).2 7 kRP).2))=r))
 ·repeat' (first|exact Xp|apply Xn rfl|apply Xo rfl)
 ·skip
  refine Qam ?_
  refine QaY ?_
  refine Qj ?_;intro c13 h13
  refine Qf ?_
  obtain ⟨rfl,g13⟩|⟨rfl,g13⟩:=Za h13
  ·refine QbE ?_;intro c21 h21
   refine Qf ?_
   obtain ⟨rfl,g21⟩|⟨rfl,g21⟩:=Za h21
   ·refine QbE ?_;intro c29 h29
    refine Qf ?_
    obtain ⟨rfl,g29⟩|⟨rfl,g29⟩:=Za h29
    ·refine QH ?_
     refine QJ ?_
     refine Zb 36 Y Y Y (op_callkb (xs:=[.tmp 35,.const (.string ⟨#[95]⟩)]) [3] Y Y Y (HI) by3 ?_);intro c36 h36
     refine Qf ?_
     obtain ⟨rfl,g36⟩|⟨rfl,g36⟩:=Za h36
     ·refine Qau ?_
      refine Qbn ?_
      first
      |(rw [if_pos g13] at hr;exact ⟨(3,tt,0),.inl ⟨by decide,hr,hkt by18⟩,by6,Xf rfl⟩)
      |(rw [if_neg g13,if_pos g21] at hr;exact ⟨(2,tt,0),.inl ⟨by decide,hr,hkt by18⟩,by6,Xf rfl⟩)
      |(rw [if_neg g13,if_neg g21,if_pos g29] at hr;exact ⟨(4,kE,tn),.inl ⟨by decide,hr,hkt by18⟩,by6,Xf rfl⟩)
      |(rw [if_neg g13,if_neg g21,if_neg g29,if_pos g36] at hr;exact ⟨(1,kE,0),.inl ⟨by decide,hr,hki g36⟩,by6,Xf rfl⟩)
      |(rw [if_neg g13,if_neg g21,if_neg g29,if_neg g36] at hr;exact ⟨(0,kE,0),.inr ⟨rfl,hr⟩,by6,Xf rfl⟩)
     refine Qh ?_
     refine QaX ?_
     refine Qdk ?_
     refine Qa1 ?_
     first
     |(rw [if_pos g13] at hr;exact ⟨(3,tt,0),.inl ⟨by decide,hr,hkt by18⟩,by6,Xf rfl⟩)
     |(rw [if_neg g13,if_pos g21] at hr;exact ⟨(2,tt,0),.inl ⟨by decide,hr,hkt by18⟩,by6,Xf rfl⟩)
     |(rw [if_neg g13,if_neg g21,if_pos g29] at hr;exact ⟨(4,kE,tn),.inl ⟨by decide,hr,hkt by18⟩,by6,Xf rfl⟩)
     |(rw [if_neg g13,if_neg g21,if_neg g29,if_pos g36] at hr;exact ⟨(1,kE,0),.inl ⟨by decide,hr,hki g36⟩,by6,Xf rfl⟩)
     |(rw [if_neg g13,if_neg g21,if_neg g29,if_neg g36] at hr;exact ⟨(0,kE,0),.inr ⟨rfl,hr⟩,by6,Xf rfl⟩)
    refine Qh ?_
    refine Qat ?_
    refine Qdk ?_
    refine Qcz ?_
    refine Qu ?_
    refine Zp Y Y (Zi (cs':=[_,_,_,_,_]) (i:=0) Y ts_2 Y Y Y Y Y (Xm Y) Y ?_)
    refine Qa1 ?_
    first
    |(rw [if_pos g13] at hr;exact ⟨(3,tt,0),.inl ⟨by decide,hr,hkt by18⟩,by6,Xf rfl⟩)
    |(rw [if_neg g13,if_pos g21] at hr;exact ⟨(2,tt,0),.inl ⟨by decide,hr,hkt by18⟩,by6,Xf rfl⟩)
    |(rw [if_neg g13,if_neg g21,if_pos g29] at hr;exact ⟨(4,kE,tn),.inl ⟨by decide,hr,hkt by18⟩,by6,Xf rfl⟩)
    |(rw [if_neg g13,if_neg g21,if_neg g29,if_pos g36] at hr;exact ⟨(1,kE,0),.inl ⟨by decide,hr,hki g36⟩,by6,Xf rfl⟩)
    |(rw [if_neg g13,if_neg g21,if_neg g29,if_neg g36] at hr;exact ⟨(0,kE,0),.inr ⟨rfl,hr⟩,by6,Xf rfl⟩)
   refine Qh ?_
   refine Qat ?_
   refine Qdk ?_
   refine Qcz ?_
   refine Qu ?_
   refine Qeb ?_
   refine Qa1 ?_
   first
   |(rw [if_pos g13] at hr;exact ⟨(3,tt,0),.inl ⟨by decide,hr,hkt by18⟩,by6,Xf rfl⟩)
   |(rw [if_neg g13,if_pos g21] at hr;exact ⟨(2,tt,0),.inl ⟨by decide,hr,hkt by18⟩,by6,Xf rfl⟩)
   |(rw [if_neg g13,if_neg g21,if_pos g29] at hr;exact ⟨(4,kE,tn),.inl ⟨by decide,hr,hkt by18⟩,by6,Xf rfl⟩)
   |(rw [if_neg g13,if_neg g21,if_neg g29,if_pos g36] at hr;exact ⟨(1,kE,0),.inl ⟨by decide,hr,hki g36⟩,by6,Xf rfl⟩)
   |(rw [if_neg g13,if_neg g21,if_neg g29,if_neg g36] at hr;exact ⟨(0,kE,0),.inr ⟨rfl,hr⟩,by6,Xf rfl⟩)
  refine Qh ?_
  refine Qat ?_
  refine Qdk ?_
  refine Qcz ?_
  refine Qu ?_
  refine Qeb ?_
  refine Qa1 ?_
  first
  |(rw [if_pos g13] at hr;exact ⟨(3,tt,0),.inl ⟨by decide,hr,hkt by18⟩,by6,Xf rfl⟩)
  |(rw [if_neg g13,if_pos g21] at hr;exact ⟨(2,tt,0),.inl ⟨by decide,hr,hkt by18⟩,by6,Xf rfl⟩)
  |(rw [if_neg g13,if_neg g21,if_pos g29] at hr;exact ⟨(4,kE,tn),.inl ⟨by decide,hr,hkt by18⟩,by6,Xf rfl⟩)
  |(rw [if_neg g13,if_neg g21,if_neg g29,if_pos g36] at hr;exact ⟨(1,kE,0),.inl ⟨by decide,hr,hki g36⟩,by6,Xf rfl⟩)
  |(rw [if_neg g13,if_neg g21,if_neg g29,if_neg g36] at hr;exact ⟨(0,kE,0),.inr ⟨rfl,hr⟩,by6,Xf rfl⟩)
 rintro ⟨kk,ss,nn⟩ hI
 try dsimp only [List.cons_append,List.nil_append] at hI ⊢
 refine QaS ?_
 refine Qbo ?_
 refine Q0 ?_;intro c40 h40
 refine Qa ?_
 obtain ⟨rfl,g40⟩|⟨rfl,g40⟩:=Za h40
 ·refine Q7 ?_
  obtain ⟨_,h2⟩:=hI.resolve_left (fun q=>by omega)
  refine Qe ?_
  refine Zb 50 Y Y Y (Zf (xs:=[.tmp 49,.const (.int .i64 7),.const (.string ⟨#[40]⟩)]) (i:=3) Y Y Y (take_c b L hL p k.1 7 kLP) by3 ?_)
  refine Q2 ?_
  refine Zb 52 Y Y Y (op_mayc (xs:=[.tmp 51,.const (.string ⟨#[41]⟩)]) (i:=3) Y Y Y (may_c b L hL (takeP L p 7 kLP).2 kRP) by3 ?_ ?_)
  ·intro g52
   refine Qb1 ?_
   refine QaY ?_
   refine Zb 55 Y Y Y (Zk (ns:=[0,1,4]) (xs:=[.const (.int .i64 3),.const (.string ⟨#[85,110,105,116]⟩),.tmp 54]) Y tz_63 Y tfl_63 Y Y Y Y ?_)
   refine QdK ?_
   refine Ql ?_
   rw [if_pos g52] at h2;subst h2;exact Zn (i:=2) rfl rfl rfl ta_63 rfl by4 (Xd _ (Xd _ (Xd _ (Xf rfl)))) ⟨rfl,rfl⟩
  intro g52
  refine Qa ?_
  refine Q7 ?_
  have HT1:=HT _ k1
  have k2:=(HA _ k1).ok k1
  rw [if_neg g52] at h2
  obtain ⟨⟨⟨xk,xs,xn,xl,xp⟩,p3⟩,hx⟩:∃ r,T (takeP L p 7 kLP).2=r:=⟨_,rfl⟩
  rw [hx] at HT1 h2 k2
  simp only [Pa.cells] at HT1
  refine Qe ?_
  refine Zb 57 Y Y Y (Zf (xs:=[.tmp 56]) (i:=3) Y Y Y (HT1) by3 ?_)
  refine QbI ?_
  refine Qt ?_
  refine Zb 59 Y Y Y (Zf (xs:=[.tmp 58,.const (.int .i64 7),.const (.string ⟨#[41]⟩)]) (i:=3) Y Y Y (take_c b L hL _ k2.1 7 kRP) by3 ?_)
  refine QA ?_
  refine Qbz ?_
  refine QdK ?_
  refine Ql ?_
  subst h2;exact Zn (i:=2) rfl rfl rfl ta_63 rfl (Xg _) (Xd _ (Xd _ (Xd _ (Xf rfl)))) ⟨rfl,rfl⟩
 refine QaG ?_
 obtain ⟨_,h2,h3⟩:=hI.resolve_right (fun q=>by omega)
 refine Qe ?_
 refine Qah ?_
 refine Qb9 ?_
 refine Qcx ?_
 refine Qc6 ?_
 refine QA ?_
 refine Qbz ?_
 refine QdK ?_
 refine Ql ?_
 subst h2;exact Zn (i:=2) rfl rfl rfl ta_63 rfl (Le.agg (Xi (Xg _) (Xi (Xg _) (Xi (Xg _) (Xi (Le.nil _) (Xh _)))))) (Xd _ (Xd _ (Xd _ (Xf rfl)))) ⟨rfl,rfl⟩
theorem pat_err (b:Nat) (L:List Tok) (p:PS) (he:p.e≠0):MCall Tryz.prog 106 [.ptr b 0] (.loc b (psC L p)) (.agg pa0.cells) (.loc b (psC L p)):=by
 refine Qec ?_
 refine Qn ?_
 refine QaV ?_;intro b2
 refine Q2 ?_
 refine Qcy ?_;intro c9 h9
 refine Qa ?_
 obtain ⟨rfl,g9⟩|⟨rfl,g9⟩:=Za h9
 ·exact absurd he g9
 refine Qag ?_
 refine Zb 10 Y Y Y (Zk (ns:=[]) (xs:=[]) Y tz_63 Y tfl_63 Y Y Y Y ?_)
 refine QbI ?_
 refine Ql ?_
 exact Zn (i:=0) Y Y Y ta_63 Y by4 (Xd _ (MLe.refl _)) ⟨Y,Y⟩
theorem apat_con (b:Nat) (L:List Tok) (hL:L.length≤100000) (n:Nat) (p:PS) (k:POk L n p) (h2:(nxt L p).k=2):MCall Tryz.prog 111 [.ptr b 0] (.loc b (psC L p)) (.agg [.val (.int .i64 3),.val (.string (nxt L p).t),.val (.int .i64 0),.val (.slice none 0 0),.val (.int .i64 (nxt L p).a)]) (.loc b (psC L (stepP p))):=by
 have HN:=next_c b L p
 have hp:=k.1
 have hlt:p.at_<L.length:=(nxt_in by18).2
 obtain ⟨t,ht⟩:∃ t,nxt L p=t:=⟨_,rfl⟩
 rw [ht] at HN h2 ⊢
 obtain ⟨tk,tt,tn,ta⟩:=t
 simp only [Tok.av] at HN h2 ⊢
 refine Qe0 ?_
 refine Qn ?_
 refine QaV ?_;intro b2
 refine Qt ?_
 refine Zb 6 Y Y Y (Yi (xs:=[.tmp 5]) [1] Y Y Y (HN) by3 ?_)
 refine Qz ?_;intro b3
 refine Q6 ?_
 refine Qbq ?_
 refine Qe1 ?_
 refine QaV ?_;intro b4
 refine QbI ?_
 refine Qbh ?_
 refine QaY ?_
 refine Qj ?_;intro c13 h13
 refine Qf ?_
 obtain ⟨rfl,g13⟩|⟨rfl,g13⟩:=Za h13
 ·exact absurd h2 g13
 refine Qh ?_
 refine Qat ?_
 refine Qdk ?_
 refine Qcz ?_
 refine Qu ?_
 refine Qeb ?_
 refine Qac ?_
 refine Qbm ?_
 refine QG ?_
 refine Qbo ?_
 refine Q0 ?_;intro c40 h40
 refine Qa ?_
 obtain ⟨rfl,g40⟩|⟨rfl,g40⟩:=Za h40
 ·exact absurd g40 by17
 refine QaP ?_
 refine Qah ?_
 refine Qb9 ?_
 refine Qcx ?_
 refine Qc6 ?_
 refine QA ?_
 refine Qbz ?_
 refine QdK ?_
 refine Ql ?_
 exact Zn (i:=2) Y Y Y ta_63 Y (Xg _) (Xd _ (Xd _ (Xd _ (Xf Y)))) ⟨Y,Y⟩
theorem pat_non (b:Nat) (L:List Tok) (hL:L.length≤100000) (n:Nat) (T:PS→Pa × PS) (HT:PaC b L n T) (HA:∀ q,POk L n q→Adv L q (T q).2) (p:PS) (k:POk L (n+1) p) (he:p.e=0) (hk:¬ (nxt L (deeperP L p)).k=2) :
    MCall Tryz.prog 106 [.ptr b 0] (.loc b (psC L p)) (.agg (apatG L T (deeperP L p)).1.cells) (.loc b (psC L (decP (apatG L T (deeperP L p)).2))):=by
 have kq:=deeper_ok k he
 have HN:=next_c b L (deeperP L p)
 have HAT:=apat_c b L hL n T HT HA (deeperP L p) kq
 have kt:=(apat_adv HA kq).ok kq
 obtain ⟨t,ht⟩:∃ t,nxt L (deeperP L p)=t:=⟨_,rfl⟩
 rw [ht] at HN hk
 obtain ⟨tk,tt,tn,ta⟩:=t
 obtain ⟨⟨⟨xk,xs,xn,xl,xp⟩,q1⟩,hx⟩:∃ r,apatG L T (deeperP L p)=r:=⟨_,rfl⟩
 rw [hx] at HAT kt ⊢
 simp only [Tok.av,Pa.cells] at HN HAT hk ⊢
 simp only [] at kt
 have hb1:=kt.2.1
 have hb2:=kt.2.2.1
 refine Qec ?_
 refine Qn ?_
 refine QaV ?_;intro b2
 refine Q2 ?_
 refine Qcy ?_;intro c9 h9
 refine Qa ?_
 obtain ⟨rfl,g9⟩|⟨rfl,g9⟩:=Za h9
 ·refine QY ?_
  refine Zb 12 Y Y Y (Zf (xs:=[.tmp 11]) (i:=1) Y Y Y (deeper_c b L p k.2.1 (by have:=k.2.2.1;omega)) by3 ?_)
  refine Qt ?_
  refine Zb 14 Y Y Y (Yi (xs:=[.tmp 13]) [1] Y Y Y (HN) by3 ?_)
  refine QcT ?_
  refine Qj ?_;intro c16 h16
  refine Qaw ?_
  obtain rfl:c16=false:=by
   cases c16 with
   | false=>rfl
   | true=>exact absurd (h16.1 rfl) hk
  refine Qe ?_
  refine Zb 18 Y Y Y (Zf (xs:=[.tmp 17]) (i:=1) Y Y Y (HAT) by3 ?_)
  refine QaV ?_;intro b4
  refine QbI ?_
  refine Qbh ?_
  apply Zy (rg [(1,1),(5,26)]) (σ:=Unit) (fun zz=>match zz with|z=>[]) (fun zz=>match zz with|z=>True) (fun zz=>match zz with|z=>0) (())
  ·repeat' (first|exact Xp|apply Xn rfl|apply Xo rfl)
  ·exact trivial
  ·exact by6
  rintro z hI
  try dsimp only [List.cons_append,List.nil_append] at hI ⊢
  refine Qal ?_
  refine Qad ?_
  refine QcA ?_
  refine Qcn ?_
  refine QbZ ?_
  refine QT ?_
  refine Qah ?_
  refine Qc5 ?_
  refine QA ?_
  refine Qbz ?_
  refine QdL ?_
  refine Ql ?_
  exact Zn (i:=1) Y Y Y ta_63 Y (Xg _) (Xd _ (Xd _ (Xf Y))) ⟨Y,Y⟩
 exact absurd he g9
theorem pat_con (b:Nat) (L:List Tok) (hL:L.length≤100000) (n:Nat) (T:PS→Pa × PS) (HT:PaC b L n T) (HA:∀ q,POk L n q→Adv L q (T q).2) (p:PS) (k:POk L (n+1) p) (he:p.e=0) (hk:(nxt L (deeperP L p)).k=2) (r:List Pa × PS) (hr:patsL L T (L.length+1) (stepP (deeperP L p)) []=r) :
    MCall Tryz.prog 106 [.ptr b 0] (.loc b (psC L p)) (.agg (Pa.mk 3 (nxt L (deeperP L p)).t 0 r.1 (nxt L (deeperP L p)).a).cells) (.loc b (psC L (decP r.2))):=by
 have kq:=deeper_ok k he
 have HN:=next_c b L (deeperP L p)
 have HAT:=apat_con b L hL n (deeperP L p) kq hk
 have hlt:(deeperP L p).at_<L.length:=(nxt_in by18).2
 have ks:=(Yv kq hlt).ok kq
 obtain ⟨t,ht⟩:∃ t,nxt L (deeperP L p)=t:=⟨_,rfl⟩
 rw [ht] at HN hk HAT ⊢
 obtain ⟨tk,tt,tn,ta⟩:=t
 simp only [Tok.av] at HN HAT hk ⊢
 refine Qec ?_
 refine Qn ?_
 refine QaV ?_;intro b2
 refine Q2 ?_
 refine Qcy ?_;intro c9 h9
 refine Qa ?_
 obtain ⟨rfl,g9⟩|⟨rfl,g9⟩:=Za h9
 ·refine QY ?_
  refine Zb 12 Y Y Y (Zf (xs:=[.tmp 11]) (i:=1) Y Y Y (deeper_c b L p k.2.1 (by have:=k.2.2.1;omega)) by3 ?_)
  refine Qt ?_
  refine Zb 14 Y Y Y (Yi (xs:=[.tmp 13]) [1] Y Y Y (HN) by3 ?_)
  refine QcT ?_
  refine Qj ?_;intro c16 h16
  refine Qaw ?_
  obtain rfl:c16=true:=h16.2 hk
  refine Qe ?_
  refine Zb 18 Y Y Y (Zf (xs:=[.tmp 17]) (i:=1) Y Y Y (HAT) by3 ?_)
  refine QaV ?_;intro b4
  refine QbI ?_
  refine Qbh ?_
  refine Yb 63 5 ?_
  apply Ye (rg [(1,1),(5,26)]) (σ:=PS × Nat × List Pa × Value) (fun zz=>match zz with|(q,f,acc,u)=>[]) (fun zz=>match zz with|(q,f,acc,u)=>[.loc b4 [.val (.int .i64 3),.val (.string tt),.val (.int .i64 0),.own u 5 (Pa.cellss acc),.val (.int .i64 ta)],.loc b2 zPa,.loc b (psC L q),.own 63 5 u]) (fun zz=>match zz with|(q,f,acc,u)=>POk L n q∧L.length - q.at_<f∧acc.length≤q.at_∧patsL L T f q acc=r) (fun zz=>match zz with|(q,f,acc,u)=>f) ((stepP (deeperP L p),L.length+1,[],.slice none 0 0))
  ·repeat' (first|exact Xp|apply Xn rfl|apply Xo rfl)
  ·exact ⟨ks,by omega,Nat.zero_le _,hr⟩
  ·exact by6
  ·exact (Xe _ (Xi (Xg _) (Xi (Xg _) (Xi (Xg _) (Xi (Le.nilOwn 5) (Xh _))))) (Xc _ (Xf Y)))
  rintro ⟨q,f,acc,u⟩ hI
  try dsimp only [List.cons_append,List.nil_append] at hI ⊢
  obtain ⟨h1,h2,h3,hu⟩:=hI
  have hq1:=h1.1
  have hb1:=h1.2.1
  have hb2:=h1.2.2.1
  have hle:(Pa.cellss acc).length≤200000:=by rw [Pa.cellss_len];omega
  refine Qal ?_
  refine Qd ?_
  refine Zm 22 Y Y Y Y Y (op_callkb (xs:=[.tmp 21,.const (.int .i64 1)]) [2] Y Y Y (starts_c b L q 1) by3 ?_);intro c22 h22
  refine QcA ?_
  obtain ⟨rfl,g22⟩|⟨rfl,g22⟩:=Za h22
  ·refine Qcn ?_
   refine QbZ ?_
   refine QT ?_
   refine Qah ?_
   refine Qc5 ?_
   refine QA ?_
   refine Qbz ?_
   refine QdL ?_
   refine Ql ?_
   rw [patsL_end g22] at hu;subst hu;exact Zn (i:=1) rfl rfl rfl ta_63 rfl (Le.agg (Xi (Xg _) (Xi (Xg _) (Xi (Xg _) (Xi (Le.own _ _ _) (Xh _)))))) (Xd _ (Xd _ (Xc _ (Xb _)))) ⟨rfl,rfl⟩
  refine Qab ?_
  obtain ⟨f,rfl⟩:∃ f',f=f'+1:=⟨f - 1,by omega⟩
  rw [patsL_go g22] at hu
  have b1:=apat_lt HA h1 g22
  have b2:=apat_adv HA h1
  have l2:=b2.ok h1
  have HA2:=apat_c b L hL n T HT HA q h1
  obtain ⟨⟨⟨yk,ys,yn,yl,yp⟩,q2⟩,e2⟩:∃ r,apatG L T q=r:=⟨_,rfl⟩
  rw [e2] at HA2 hu l2 b1
  simp only [Pa.cells] at HA2
  simp only [] at b1 l2
  have l3:=l2.1
  refine Qby ?_
  refine Zs 2 (i:=3) Y Y Y Y Y (Zf (xs:=[.tmp 26]) (i:=0) Y Y Y (HA2) by3 ⟨_,Y,?_⟩)
  refine Zh 28 (none) (i:=4) Y Y Y Y Y (Zd (xs:=[.tmp 27]) el_61 Y Y Y Y Y Y (Xm Y) ⟨Y,Y⟩) ?_
  refine Zs 3 (i:=5) Y Y Y Y Y (Zr (i:=0) el_61 Y Y Y Y (.seq _ _) by8 (fun u29=>⟨_,Y,?_⟩))
  refine QB ?_
  refine Qe2 ?_
  show AGo _ _ _ _ _ _ _
  refine Qbn ?_
  refine ⟨(q2,f,acc++[Pa.mk yk ys yn yl yp],u29),⟨l2,(by show L.length - q2.at_<f;omega),(by show (acc++[Pa.mk yk ys yn yl yp]).length≤q2.at_;rw [List.length_append];simp;omega),hu⟩,Nat.lt_succ_self f,by6,(Xe _ (Xi (Xg _) (Xi (Xg _) (Xi (Xg _) (Xi (Xl (by rw [Pa.cellss_app'];rfl)) (Xh _))))) (Xc _ (Xf Y)))⟩
 exact absurd he g9
theorem pat_c (b:Nat) (L:List Tok) (hL:L.length≤100000):∀ n,PaC b L n (patF L n)
 | 0,p,k=>pat_err b L p (fun e=>by have:=k.2.2.2 e;omega)
 | n+1,p,k=>by
  by_cases he:p.e=0
  ·rw [patF,if_neg (by rw [he];simp)]
   by_cases hk:(nxt L (deeperP L p)).k=2
   ·rw [if_pos hk];exact pat_con b L hL n (patF L n) (pat_c b L hL n) (patF_adv n) p k he hk _ rfl
   rw [if_neg hk];exact pat_non b L hL n (patF L n) (pat_c b L hL n) (patF_adv n) p k he hk
  rw [patF,if_pos he];exact pat_err b L p he
theorem patP_c (b:Nat) (L:List Tok) (hL:L.length≤100000) (n:Nat) (p:PS) (k:POk L n p):MCall Tryz.prog 106 [.ptr b 0] (.loc b (psC L p)) (.agg (patP L p).1.cells) (.loc b (psC L (patP L p).2)):=pat_c b L hL 302 p (k.up by17)
end Go.Proofs.YtefbicnoddggnaaGreat
namespace Go.Proofs.YtefbicnoddggnaaGreat
open Go.RowKit
def rowT (i:Nat):List (List UInt8):=rowsT.getD i []
structure TblAt (w:World) (B:Nat):Prop where
 row:∀ i,i<7→w.cell? ⟨B+7,i,none⟩=some (.slice (some ⟨B+i,0,none⟩) (rowT i).length (rowT i).length)
 str:∀ i,i<7→∀ k,k<(rowT i).length→w.cell? ⟨B+i,k,none⟩=some (.string ⟨((rowT i).getD k []).toArray⟩)
theorem seven {i:Nat} (h:i<7):i=0∨i=1∨i=2∨i=3∨i=4∨i=5∨i=6:=by omega
theorem rowlen (i:Nat) (h:i<7):(rowT i).length≤6:=by
 rcases seven h with rfl|rfl|rfl|rfl|rfl|rfl|rfl <;> decide
def missTo (op:List UInt8) (i:Nat):Prop:=∀ j,j<7→j<i→(rowT j).contains op=false
theorem rowT_get {j:Nat} (h:j<rowsT.length):rowsT[j]=rowT j:=by simp [rowT,List.getD,h]
theorem lvl_at {op:List UInt8} {i:Nat} (hi:i<7) (hm:missTo op i) (hc:(rowT i).contains op=true):lvl op=i+1:=by
 unfold lvl
 congr 1
 have hi':i<rowsT.length:=hi
 rw [List.findIdx_eq hi']
 refine ⟨by rw [rowT_get hi'];exact hc,fun j hj=>?_⟩
 have hj':j<rowsT.length:=by omega
 rw [rowT_get hj']
 exact hm j hj' hj
theorem lvl_8 {op:List UInt8} (hm:missTo op 7):lvl op=8:=by
 unfold lvl
 have:rowsT.findIdx (fun r=>r.contains op)=rowsT.length:=by
  rw [List.findIdx_eq_length]
  intro r hr
  obtain ⟨j,hj,rfl⟩:=List.getElem_of_mem hr
  rw [rowT_get hj]
  exact hm j hj hj
 rw [this];rfl
theorem miss_row {op:List UInt8} {i:Nat} (h:∀ k,k<(rowT i).length→(rowT i).getD k []≠op):(rowT i).contains op=false:=by
 rw [List.contains_eq_mem,decide_eq_false_iff_not]
 intro hm
 obtain ⟨k,hk,e⟩:=List.getElem_of_mem hm
 exact h k hk (by simp [List.getD,hk,e])
theorem hit_row {op:List UInt8} {i k:Nat} (hk:k<(rowT i).length) (h:(rowT i).getD k []=op):(rowT i).contains op=true:=by
 rw [List.contains_eq_mem,decide_eq_true_eq]
 have:(rowT i)[k]=op:=by simpa [List.getD,hk] using h
 rw [← this];exact List.getElem_mem hk
theorem rLevel_c (s:ByteArray) (w:World):Calls Tryz.prog 96 #[.string s] w fun e w'=>e=.returned (.int .i64 (lvl s.toList:Nat))∧Below w.heap.size w w':=by
 go_enter Tryz.func96,Tryz.ntmps96
 go_wp2
 go_loopw [4,5] (fun vi _ wr=>∃ i:Nat,i≤7∧vi=.int .i64 i∧missTo s.toList i∧TblAt wr w.heap.size∧Below w.heap.size w wr) (fun vi _ _=>7 - (intOf vi).toNat)
 case atStart =>
  refine ⟨0,by omega,Y,fun j h hj=>by omega,⟨?_,?_⟩,?_⟩
  ·intro i h
   rw [World.cell?_alloc_at _ _ _ _ (by simp only [World.size_alloc])]
   rcases seven h with rfl|rfl|rfl|rfl|rfl|rfl|rfl <;> rfl
  ·intro i h k hk
   rcases seven h with rfl|rfl|rfl|rfl|rfl|rfl|rfl
   all_goals
    have hk6:k=0∨k=1∨k=2∨k=3∨k=4∨k=5:=by have:=rowlen _ h;omega
    rcases hk6 with rfl|rfl|rfl|rfl|rfl|rfl
    all_goals first|(exact absurd hk by17)|skip
    all_goals
     repeat (rw [World.cell?_alloc_past _ _ _ (by simp only [World.size_alloc];omega)])
     rw [World.cell?_alloc_at _ _ _ _ (by first|rfl|(simp only [World.size_alloc];done)|(simp only [World.size_alloc];omega))]
     rfl
  exact (((((((((Below.refl _ _).alloc (Nat.le_refl _) _).alloc by19 _).alloc by15 _).alloc by15 _).alloc by15 _).alloc by15 _).alloc by15 _).alloc by15 _)
 case round =>
  obtain ⟨i,hi,rfl,hm,hT,hbel⟩:=hrel
  by_cases hi7:i<7
  ·have hr:=hT.row i hi7
   have hl:=rowlen i hi7
   obtain ⟨n,hn⟩:∃ n,n=(rowT i).length:=⟨_,rfl⟩
   rw [← hn] at hr hl
   have HN:=Lib.hid hn
   have HM:=Lib.hid hm
   clear hn hm
   have d1:decide ((i:Int)<7)=true:=by simp;omega
   go_wp2
   go_loop [5] (fun vk=>∃ k:Nat,k≤n∧vk=.int .i64 k∧∀ j,j<k→(rowT i).getD j []≠s.toList) (fun vk=>n - (intOf vk).toNat)
   case atStart=>exact ⟨0,by omega,rfl,fun j hj=>by omega⟩
   case round =>
    obtain ⟨k,hk,rfl,hmk⟩:=hrel
    have HMK:=Lib.hid hmk
    clear hmk
    by_cases hkn:k<n
    ·have cs:=hT.str i hi7 k (by rw [← HN.out];exact hkn)
     obtain ⟨sk,hsk⟩:∃ sk:ByteArray,sk=⟨((rowT i).getD k []).toArray⟩:=⟨_,rfl⟩
     have es:sk.toList=(rowT i).getD k []:=by rw [ByteArray.toList_eq,hsk]
     rw [← hsk] at cs
     clear hsk
     have HES:=Lib.hid es
     clear es
     by_cases heq:(sk.toList == s.toList)=true
     ·go_wp2
      go_ret
      have h1:(rowT i).getD k []=s.toList:=by rw [← HES.out];simpa using heq
      exact ⟨by rw [lvl_at hi7 HM.out (hit_row (by rw [← HN.out];exact hkn) h1)];rfl,hbel⟩
     have heq':(sk.toList == s.toList)=false:=by simpa using heq
     clear heq
     go_wp2
     go_round
     case rel=>exact ⟨k+1,by omega,by go_num,fun j hj=>by
      by_cases e:j=k
      ·subst e;rw [← HES.out];exact beq_eq_false_iff_ne.1 heq'
      exact HMK.out j by18⟩
     case measure=>simp [intOf];omega
    go_wp2
    go_roundw
    case rel=>exact ⟨i+1,by omega,by go_num,fun j h hj=>by
     by_cases e:j=i
     ·subst e;exact miss_row (fun k' hk'=>HMK.out k' (by have:=HN.out;omega))
     exact HM.out j h by18,hT,hbel⟩
    case measure=>simp [intOf];omega
  have he:i=7:=by omega
  subst he
  go_wp2
  go_ret
  exact ⟨by rw [lvl_8 hm];rfl,hbel⟩
theorem Level_p (s:ByteArray):PCall Tryz.prog 96 [.val (.string s)] (.val (.int .i64 (lvl s.toList:Nat))) :=
 PCall.of_calls (vs:=[.string s]) (enters_of Tryz.func96 (by kernel_rfl) rfl) (fun w=>rLevel_c s w)
theorem Level_at (ops:List Tok) (i:Nat):PCall Tryz.prog 96 [.val (.string ((ops[i]?).getD (tok0 0)).t)] (.val (.int .i64 (lvT ops i:Nat))):=Level_p _
theorem strs_at {ops:List Tok} {i:Nat} (h:i<ops.length):(strs (ops.map Tok.t))[i]?=some [.val (.string ((ops[i]?).getD (tok0 0)).t)]:=by
 simp [strs,List.getElem?_eq_getElem h]
theorem sideN_8 (l:Nat):((sideN l:Nat):Int)=if (l:Int)=4 then 0 else if (l:Int)<6 then 2 else 1:=by
 unfold sideN
 repeat' split
 all_goals first|rfl|omega
theorem back_eq {lv:Nat→Nat} {j:Nat} (h:¬ (0<j∧4<lv (j - 1))):backL lv j=true↔(0<j∧lv (j - 1)=4):=by
 cases j with
 | zero=>simp [backL]
 | succ j =>
  simp only [Nat.add_sub_cancel] at h ⊢
  rw [backL,if_neg (fun q=>h ⟨Nat.succ_pos j,q⟩)]
  simp
theorem Side_p (l:Nat):PCall Tryz.prog 97 [.val (.int .i64 (l:Nat))] (.val (.int .i64 (sideN l:Nat))):=by
 rw [sideN_8]
 refine Zc Tryz.func97 Y (by kernel_rfl) Y (Xm Y) ?_
 refine Qa7 ?_
 refine Qw ?_
 refine Qj ?_;intro c4 h4
 refine Qa ?_
 obtain ⟨rfl,g4⟩|⟨rfl,g4⟩:=Za h4
 ·refine QaB ?_
  refine Qk ?_;intro c6 h6
  refine Qa ?_
  obtain ⟨rfl,g6⟩|⟨rfl,g6⟩:=Za h6
  ·refine QN ?_
   refine QK ?_
   exact c_ret (Zg Y Y (Xg _) by5 ⟨by rw [if_neg g4,if_neg g6],Y⟩)
  refine Qr ?_
  exact Zg Y Y (Xg _) by5 ⟨by rw [if_neg g4,if_pos g6],Y⟩
 refine Qr ?_
 exact Zg Y Y (Xg _) by5 ⟨by rw [if_pos g4],Y⟩
theorem Clash_p (ops:List Tok) (h:ops.length≤200000):PCall Tryz.prog 73 [.seq 1 (strs (ops.map Tok.t))] (.val (.int .i64 (clashP ops))):=by
 have hl:(strs (ops.map Tok.t)).length=ops.length:=by simp [strs]
 have hC:clashP ops=clashL (lvT ops) (ops.length - 0) 0:=rfl
 generalize clashP ops=r at *
 refine Zc Tryz.func73 Y (by kernel_rfl) Y (Xm Y) ?_
 refine Qbc ?_
 refine Q3 ?_
 apply Zy (rg [(1,41)]) (σ:=Nat) (fun zz=>match zz with|k=>[(3,.val (.int .i64 k))]) (fun zz=>match zz with|k=>k≤ops.length∧r=clashL (lvT ops) (ops.length - k) k) (fun zz=>match zz with|k=>ops.length - k) (0)
 ·repeat' (first|exact Xp|apply Xn rfl|apply Xo rfl)
 ·exact ⟨Nat.zero_le _,hC⟩
 ·exact by6
 rintro k hI
 try dsimp only [List.cons_append,List.nil_append] at hI ⊢
 obtain ⟨h1,hu⟩:=hI
 refine Qal ?_
 refine Qa4 ?_;intro n7
 refine Qk ?_;intro c8 h8
 refine Qa ?_
 obtain ⟨rfl,g8⟩|⟨rfl,g8⟩:=Za h8
 ·refine QaM ?_
  rw [show ops.length - k=0 by omega,clashL] at hu;exact Zg rfl rfl (Xg _) by5 ⟨by rw [hu],rfl⟩
 refine Qae ?_
 refine QL ?_
 obtain ⟨d,hd⟩:∃ d,ops.length - k=d+1:=⟨ops.length - k - 1,by omega⟩
 rw [hd,clashL] at hu
 have hd2:d=ops.length - (k+1):=by omega
 rw [hd2] at hu
 refine QF ?_
 refine Zb 13 Y Y Y (Zq Y te_31 Y (.seq _ _) Y Y (strs_at (ops:=ops) (i:=k) by18) ?_)
 refine QbG ?_
 refine Zb 15 Y Y Y (Ze (xs:=[.tmp 14]) Y Y (Level_at ops k) by3 ?_)
 refine Qao ?_;intro c16 h16
 refine Qa ?_
 obtain ⟨rfl,g16⟩|⟨rfl,g16⟩:=Za h16
 ·refine QY ?_
  refine QT ?_
  refine Qf ?_
  refine Qa6 ?_
  apply Zy (rg [(1,1),(4,1),(19,12)]) (σ:=Nat) (fun zz=>match zz with|j=>[(4,.val (.int .i64 ((j:Int) - 1)))]) (fun zz=>match zz with|j=>j≤k∧backL (lvT ops) k=backL (lvT ops) j) (fun zz=>match zz with|j=>j) (k)
  ·repeat' (first|exact Xp|apply Xn rfl|apply Xo rfl)
  ·exact ⟨Nat.le_refl _,Y⟩
  ·exact by6
  rintro j hI
  try dsimp only [List.cons_append,List.nil_append] at hI ⊢
  obtain ⟨h2,hb⟩:=hI
  refine QL ?_
  refine Zx 28 (0<j∧4<lvT ops (j - 1)) ?_ _ _ Y ?_
  ·skip
   refine Qco ?_;intro c20 h20
   refine Qb ?_
   obtain ⟨rfl,g20⟩|⟨rfl,g20⟩:=Za h20
   ·skip
    refine Qm ?_
    refine Qai ?_
    refine Xk Y ?_ by7 by5
    first|(simp_all;done)|(simp_all;omega)|grind
   skip
   refine Qch ?_
   refine Qe3 ?_
   refine QdV ?_
   refine Zm 26 Y Y Y Y Y (Ze (xs:=[.tmp 25]) Y Y (Level_at ops (j - 1)) by3 ?_)
   refine QcJ ?_;intro c27 h27
   refine Qg ?_
   refine Xk Y ?_ by7 by5
   first|(simp_all;done)|(simp_all;omega)|grind
  intro c28 h28
  refine Qc ?_
  obtain ⟨rfl,g28⟩|⟨rfl,g28⟩:=Za h28
  ·refine QE ?_
   refine Zx 40 (0<j∧lvT ops (j - 1)=4) ?_ _ _ Y ?_
   ·skip
    refine Qco ?_;intro c32 h32
    refine Qb ?_
    obtain ⟨rfl,g32⟩|⟨rfl,g32⟩:=Za h32
    ·skip
     refine Qm ?_
     refine Qai ?_
     refine Xk Y ?_ by7 by5
     first|(simp_all;done)|(simp_all;omega)|grind
    skip
    refine Qch ?_
    refine Qe3 ?_
    refine QdV ?_
    refine Zm 38 Y Y Y Y Y (Ze (xs:=[.tmp 37]) Y Y (Level_at ops (j - 1)) by3 ?_)
    refine Qan ?_;intro c39 h39
    refine Qg ?_
    refine Xk Y ?_ by7 by5
    first|(simp_all;done)|(simp_all;omega)|grind
   intro c40 h40
   refine Qc ?_
   obtain ⟨rfl,g40⟩|⟨rfl,g40⟩:=Za h40
   ·refine Q8 ?_
    have hu2:r=clashL (lvT ops) (ops.length - (k+1)) (k+1):=by
     first
      |(rw [if_neg (fun q=>g40 ((back_eq g28).1 (by rw [← hb];exact q.2)))] at hu;exact hu)
      |(rw [if_neg (fun q=>g16 by18)] at hu;exact hu)
    exact ⟨k+1,⟨by omega,hu2⟩,by show ops.length - (k+1)<ops.length - k;omega,Xj Y (Le.inteq by18) by6,by5⟩
   refine QaP ?_
   refine Qs ?_
   rw [if_pos ⟨by omega,by rw [hb];exact (back_eq g28).2 g40⟩] at hu;exact Zg rfl rfl (Xg _) by5 ⟨by rw [hu],rfl⟩
  refine Qab ?_
  obtain ⟨j,rfl⟩:∃ j',j=j'+1:=⟨j - 1,by omega⟩
  simp only [Nat.add_sub_cancel] at g28
  rw [backL,if_pos g28.2] at hb
  refine Qe ?_
  refine QT ?_
  refine QaF ?_
  exact ⟨j,⟨by omega,hb⟩,Nat.lt_succ_self j,Xj Y (Le.inteq by18) by6,by5⟩
 refine Qh ?_
 refine c_exit (x_code (x_here ?_))
 refine Qc ?_
 refine QbN ?_
 refine Qap ?_
 have hu2:r=clashL (lvT ops) (ops.length - (k+1)) (k+1):=by
  first
   |(rw [if_neg (fun q=>g40 ((back_eq g28).1 (by rw [← hb];exact q.2)))] at hu;exact hu)
   |(rw [if_neg (fun q=>g16 by18)] at hu;exact hu)
 exact ⟨k+1,⟨by omega,hu2⟩,by show ops.length - (k+1)<ops.length - k;omega,Xj Y (Le.inteq by18) by6,by5⟩
abbrev zEx:List AV:=[.val (.int .i64 0),.val (.string kE),.val (.int .i64 0),.val (.int .i64 0),.val (.string kE),.val (.int .i64 0),.val (.slice none 0 0),.val (.slice none 0 0),.val (.slice none 0 0),.val (.slice none 0 0),.val (.int .i64 0)]
theorem rootB_in (ops:List Tok):∀ (f a i lo:Nat),lo≤a→a<i→lo≤rootB ops f a i∧rootB ops f a i<i+f
 | 0,a,i,lo,h1,h2=>⟨h1,h2⟩
 | f+1,a,i,lo,h1,h2=>by
  unfold rootB
  split
  ·have:=rootB_in ops f i (i+1) lo by18 (Nat.lt_succ_self i);omega
  have:=rootB_in ops f a (i+1) lo h1 by18;omega
theorem toks_at {ops:List Tok} {i:Nat} (h:i<ops.length):(ops.map Tok.av)[i]?=some ((ops[i]?).getD (tok0 0)).av:=by
 simp [List.getElem?_eq_getElem h]
theorem exs_at {l:List Ex} {i:Nat} (h:i<l.length):(Ex.cellss l)[i]?=some ((l[i]?).getD ex0).cells:=by
 rw [Ex.cellss_map];simp [List.getElem?_eq_getElem h]
theorem Build_one (l:List Ex) (ops:List Tok) (hl:l.length=ops.length+1) (a:Nat) (ha:a≤ops.length):PCall Tryz.prog 74 [.seq 11 (Ex.cellss l),.seq 4 (ops.map Tok.av),.val (.int .i64 a),.val (.int .i64 a)] (.agg ((l[a]?).getD ex0).cells):=by
 have hx:=exs_at (l:=l) (i:=a) by18
 obtain ⟨⟨xk,xs,xn,⟨xtk,xts,xtn,xtl⟩,xks,xal,xbs,xp⟩,e⟩:∃ x,(l[a]?).getD ex0=x:=⟨_,rfl⟩
 rw [e] at hx ⊢
 refine Zc Tryz.func74 Y (by kernel_rfl) Y (Xm Y) ?_
 refine Qbr ?_;intro b8
 refine Q2 ?_
 refine QbV ?_;intro c19 h19
 refine Qa ?_
 obtain ⟨rfl,g19⟩|⟨rfl,g19⟩:=Za h19
 ·exact absurd Y g19
 refine Qh ?_
 refine QP ?_
 refine Zb 22 Y Y Y (Zq Y te_55 Y (.seq _ _) Y Y (hx) ?_)
 refine Qbs ?_
 refine QcB ?_
 exact Zn (i:=0) Y Y Y Yf Y (Xg _) by5 ⟨Y,Y⟩
theorem Build_two (l:List Ex) (ops:List Tok) (hL:ops.length≤200000) (a b d:Nat) (hab:a<b) (hb:b≤ops.length) (hd:b - a≤d+1)
    (IH:∀ a b,a≤b→b≤ops.length→b - a≤d→PCall Tryz.prog 74 [.seq 11 (Ex.cellss l),.seq 4 (ops.map Tok.av),.val (.int .i64 a),.val (.int .i64 b)] (.agg (buildF l ops d a b).cells)) :
    PCall Tryz.prog 74 [.seq 11 (Ex.cellss l),.seq 4 (ops.map Tok.av),.val (.int .i64 a),.val (.int .i64 b)] (.agg (buildF l ops (d+1) a b).cells):=by
 rw [buildF,if_neg by18]
 obtain ⟨r,hr⟩:∃ r,rootB ops (b - (a+1)) a (a+1)=r:=⟨_,rfl⟩
 have hin:=rootB_in ops (b - (a+1)) a (a+1) a (Nat.le_refl _) (Nat.lt_succ_self a)
 rw [hr] at hin ⊢
 have H1:=IH a r hin.1 by18 by18
 have H2:=IH (r+1) b by18 hb by18
 have hop:=toks_at (ops:=ops) (i:=r) by18
 obtain ⟨⟨xk,xs,xn,⟨xtk,xts,xtn,xtl⟩,xks,xal,xbs,xp⟩,e1⟩:∃ x,buildF l ops d a r=x:=⟨_,rfl⟩
 obtain ⟨⟨yk,ys,yn,⟨ytk,yts,ytn,ytl⟩,yks,yal,ybs,yp⟩,e2⟩:∃ x,buildF l ops d (r+1) b=x:=⟨_,rfl⟩
 obtain ⟨⟨ok,ot,on,oa⟩,e3⟩:∃ x,(ops[r]?).getD (tok0 0)=x:=⟨_,rfl⟩
 rw [e1] at H1 ⊢
 rw [e2] at H2 ⊢
 rw [e3] at hop ⊢
 simp only [Ex.cells,Ty.cells,List.cons_append,List.nil_append,Tok.av] at H1 H2 hop
 clear IH
 obtain ⟨z,hz⟩:∃ z,binE (Tok.mk ok ot on oa) (Ex.mk xk xs xn (Ty.mk xtk xts xtn xtl) xks xal xbs xp) (Ex.mk yk ys yn (Ty.mk ytk yts ytn ytl) yks yal ybs yp)=z:=⟨_,rfl⟩
 rw [hz]
 unfold binE at hz
 simp only [] at hz
 refine Zc Tryz.func74 Y (by kernel_rfl) Y (Xm Y) ?_
 refine Qbr ?_;intro b8
 refine Q2 ?_
 refine QbV ?_;intro c19 h19
 refine Qa ?_
 obtain ⟨rfl,g19⟩|⟨rfl,g19⟩:=Za h19
 ·refine QY ?_
  refine Qcs ?_
  refine QaI ?_
  refine Qf ?_
  refine Qam ?_
  apply Zy (rg [(4,4),(9,4),(17,41)]) (σ:=Nat × Nat) (fun zz=>match zz with|(t,i)=>[(9,.val (.int .i64 t)),(10,.val (.int .i64 i))]) (fun zz=>match zz with|(t,i)=>a≤t∧t<i∧i≤b∧rootB ops (b - i) t i=r) (fun zz=>match zz with|(t,i)=>b - i) ((a,a+1))
  ·repeat' (first|exact Xp|apply Xn rfl|apply Xo rfl)
  ·exact ⟨Nat.le_refl _,Nat.lt_succ_self a,hab,hr⟩
  ·exact by6
  rintro ⟨t,i⟩ hI
  try dsimp only [List.cons_append,List.nil_append] at hI ⊢
  obtain ⟨h1,h2,h3,hu⟩:=hI
  refine Qal ?_
  refine Qk ?_;intro c29 h29
  refine Qa ?_
  obtain ⟨rfl,g29⟩|⟨rfl,g29⟩:=Za h29
  ·refine QE ?_
   rw [show b - i=0 by omega,rootB] at hu
   subst hu
   refine QF ?_
   refine QaA ?_
   refine Zb 62 Y Y Y (Ze (xs:=[.tmp 58,.tmp 59,.tmp 60,.tmp 61]) Y Y (H1) by3 ?_)
   refine QI ?_;intro b13
   refine QS ?_
   refine Qt ?_
   refine QaA ?_
   refine QaI ?_
   refine Qb ?_
   refine Zb 68 Y Y Y (Ze (xs:=[.tmp 63,.tmp 64,.tmp 66,.tmp 67]) Y Y (H2) by3 ?_)
   refine QI ?_;intro b14
   refine QS ?_
   refine Qt ?_
   refine Qb ?_
   refine Zb 71 Y Y Y (Zq Y te_68 Y (.seq _ _) Y Y (hop) (Zb 72 Y Y Y (Zz (cs':=[_,_,_,_]) Y Yd Y Y Y ?_)))
   refine Qz ?_;intro b15
   refine Q6 ?_
   refine QbD ?_
   refine Qas ?_;intro c75 h75
   refine Qa ?_
   obtain ⟨rfl,g75⟩|⟨rfl,g75⟩:=Za h75
   ·refine Qcv ?_
    refine Qas ?_;intro c84 h84
    refine Qa ?_
    obtain ⟨rfl,g84⟩|⟨rfl,g84⟩:=Za h84
    ·refine QN ?_
     refine Qbo ?_
     refine Qar ?_
     refine Zb 95 Y Y Y (Zk (ns:=[0,1,7]) (xs:=[.const (.int .i64 3),.tmp 92,.tmp 94]) Y tz_58 Y tfl_58 Y Y Y Y ?_)
     refine QI ?_;intro b16
     refine QS ?_
     refine QA ?_
     refine Qak ?_
     refine Zb 97 Y Y Y (Zv (cs':=[_,_,_,_,_,_,_,_,_,_,_]) (i:=3) Y Yf Y Y Y Y (Zb 98 Y Y Y (Zd (xs:=[.tmp 96,.tmp 97]) Xa Y Y Y Y Y Y (Xm Y) ?_)))
     refine Qu ?_
     refine Qbj ?_
     refine Zb 101 Y Y Y (Zk (ns:=[0,4,7]) (xs:=[.const (.int .i64 5),.tmp 98,.tmp 100]) Y tz_58 Y tfl_58 Y Y Y Y ?_)
     refine QS ?_
     refine QA ?_
     refine Qak ?_
     refine QdM ?_
     refine Zb 104 Y Y Y (Zd (xs:=[.tmp 102,.tmp 103]) Xa Y Y Y Y Y Y (Xm Y) ?_)
     refine Qu ?_
     refine Qbj ?_
     refine Zb 107 Y Y Y (Zk (ns:=[0,4,7]) (xs:=[.const (.int .i64 5),.tmp 104,.tmp 106]) Y tz_58 Y tfl_58 Y Y Y Y ?_)
     refine Qe4 ?_
     refine Ql ?_
     rw [if_neg g75,if_neg g84] at hz;subst hz;exact Zn (i:=4) rfl rfl rfl Yf rfl by2 by5 ⟨rfl,rfl⟩
    refine Qag ?_
    refine QdM ?_
    refine Qc7 ?_
    refine Zb 87 Y Y Y (Zd (xs:=[.tmp 85,.tmp 86]) Xa Y Y Y Y Y Y (Xm Y) ?_)
    refine Qar ?_
    refine Zb 90 Y Y Y (Zk (ns:=[0,4,7]) (xs:=[.const (.int .i64 11),.tmp 87,.tmp 89]) Y tz_58 Y tfl_58 Y Y Y Y ?_)
    refine Qdl ?_
    refine Ql ?_
    rw [if_neg g75,if_pos g84] at hz;subst hz;exact Zn (i:=3) rfl rfl rfl Yf rfl by2 by5 ⟨rfl,rfl⟩
   refine Qag ?_
   refine QdM ?_
   refine Qc7 ?_
   refine Zb 78 Y Y Y (Zd (xs:=[.tmp 76,.tmp 77]) Xa Y Y Y Y Y Y (Xm Y) ?_)
   refine Qar ?_
   refine Zb 81 Y Y Y (Zk (ns:=[0,4,7]) (xs:=[.const (.int .i64 10),.tmp 78,.tmp 80]) Y tz_58 Y tfl_58 Y Y Y Y ?_)
   refine Qdl ?_
   refine Ql ?_
   rw [if_pos g75] at hz;subst hz;exact Zn (i:=3) rfl rfl rfl Yf rfl by2 by5 ⟨rfl,rfl⟩
  refine Qae ?_
  refine QP ?_
  refine Zb 34 Y Y Y (Zq Y te_68 Y (.seq _ _) Y Y (toks_at (ops:=ops) (i:=t) by18) ?_)
  refine Qy ?_
  refine Zb 37 Y Y Y (Ze (xs:=[.tmp 36]) Y Y (Level_at ops t) by3 ?_)
  refine Qf ?_
  refine QP ?_
  refine Zb 40 Y Y Y (Zq Y te_68 Y (.seq _ _) Y Y (toks_at (ops:=ops) (i:=i) by18) ?_)
  refine Qy ?_
  refine Zb 43 Y Y Y (Ze (xs:=[.tmp 42]) Y Y (Level_at ops i) by3 ?_)
  refine Qaw ?_
  refine Zx 56 (lvT ops i<lvT ops t∨(lvT ops i=lvT ops t∧sideN (lvT ops t)=1)) ?_ _ _ Y ?_
  ·skip
   refine QaA ?_
   refine Qk ?_;intro c46 h46
   refine Qb ?_
   obtain ⟨rfl,g46⟩|⟨rfl,g46⟩:=Za h46
   ·skip
    refine Qd ?_
    refine QU ?_;intro c50 h50
    refine Qd ?_
    obtain ⟨rfl,g50⟩|⟨rfl,g50⟩:=Za h50
    ·skip
     refine QaL ?_
     refine QV ?_
     refine Qg ?_
     refine Xk Y ?_ by7 by5
     clear H1 H2;first|(simp_all;done)|(simp_all;omega)|grind
    skip
    refine Qd ?_
    refine Zm 53 Y Y Y Y Y (Ze (xs:=[.tmp 52]) Y Y (Side_p (lvT ops t)) by3 ?_)
    refine Qan ?_;intro c54 h54
    refine QV ?_
    refine Qg ?_
    refine Xk Y ?_ by7 by5
    clear H1 H2;first|(simp_all;done)|(simp_all;omega)|grind
   skip
   refine Qm ?_
   refine QaW ?_
   refine QcY ?_
   refine QZ ?_
   refine Qg ?_
   refine Xk Y ?_ by7 by5
   clear H1 H2;first|(simp_all;done)|(simp_all;omega)|grind
  intro c56 h56
  refine Qc ?_
  obtain ⟨rfl,g56⟩|⟨rfl,g56⟩:=Za h56
  ·refine Qau ?_
   refine Qbm ?_
   obtain ⟨f,hf⟩:∃ f,b - i=f+1:=⟨b - i - 1,by omega⟩
   rw [hf,rootB] at hu
   have hf2:f=b - (i+1):=by omega
   rw [hf2] at hu
   refine QbN ?_
   refine Qap ?_
   first
   |(rw [if_pos g56] at hu;exact ⟨(i,i+1),⟨by show a≤i;omega,Nat.lt_succ_self i,by show i+1≤b;omega,hu⟩,by show b - (i+1)<b - i;omega,Xj rfl (Xg _) (Xj rfl (Le.inteq by18) by6),by5⟩)
   |(rw [if_neg g56] at hu;exact ⟨(t,i+1),⟨h1,by show t<i+1;omega,by show i+1≤b;omega,hu⟩,by show b - (i+1)<b - i;omega,Xj rfl (Xg _) (Xj rfl (Le.inteq by18) by6),by5⟩)
  refine Qbb ?_
  refine Qce ?_
  refine Qbm ?_
  obtain ⟨f,hf⟩:∃ f,b - i=f+1:=⟨b - i - 1,by omega⟩
  rw [hf,rootB] at hu
  have hf2:f=b - (i+1):=by omega
  rw [hf2] at hu
  refine QbN ?_
  refine Qap ?_
  first
  |(rw [if_pos g56] at hu;exact ⟨(i,i+1),⟨by show a≤i;omega,Nat.lt_succ_self i,by show i+1≤b;omega,hu⟩,by show b - (i+1)<b - i;omega,Xj rfl (Xg _) (Xj rfl (Le.inteq by18) by6),by5⟩)
  |(rw [if_neg g56] at hu;exact ⟨(t,i+1),⟨h1,by show t<i+1;omega,by show i+1≤b;omega,hu⟩,by show b - (i+1)<b - i;omega,Xj rfl (Xg _) (Xj rfl (Le.inteq by18) by6),by5⟩)
 omega
theorem Build_c (l:List Ex) (ops:List Tok) (hl:l.length=ops.length+1) (hL:ops.length≤200000):∀ (d a b:Nat),a≤b→b≤ops.length→b - a≤d→PCall Tryz.prog 74 [.seq 11 (Ex.cellss l),.seq 4 (ops.map Tok.av),.val (.int .i64 a),.val (.int .i64 b)] (.agg (buildF l ops d a b).cells)
 | 0,a,b,h1,h2,h3=>by
  obtain rfl:a=b:=by omega
  exact Build_one l ops hl a h2
 | d+1,a,b,h1,h2,h3=>by
  by_cases h:a=b
  ·subst h
   rw [buildF,if_pos rfl]
   exact Build_one l ops hl a h2
  exact Build_two l ops hL a b d by18 h2 h3 (Build_c l ops hl hL d)
def mkC (d:Da) (a:Int):List AV:=d.cells++[.val (.int .i64 a)]
def apE (a:Int):Ex→List Ex→Ex
 | x,[]=>x
 | x,y::l=>apE a (opE 5 [x,y] a) l
def lamE (a:Int):List ByteArray→Ex→Ex
 | [],b=>b
 | n::l,b=>.mk 6 n 0 ty0 [lamE a l b] [] [] a
theorem lamE_snoc (a:Int) (n:ByteArray) (b:Ex):∀ l:List ByteArray,lamE a (l++[n]) b=lamE a l (.mk 6 n 0 ty0 [b] [] [] a)
 | []=>rfl
 | m::l=>by show Ex.mk 6 m 0 ty0 [lamE a (l++[n]) b] [] [] a=_;rw [lamE_snoc a n b l];rfl
theorem num_len (i:Nat):(num i).size≤21:=txt_size _
theorem m_name_c (d:Da) (a:Int) (s:ByteArray):PCall Tryz.prog 61 [.agg (mkC d a),.val (.string s)] (.agg (namE 3 s a).cells):=by
 obtain ⟨ds,dps,dcs,ddv,dp⟩:=d
 unfold mkC
 simp only [Da.cells,List.cons_append,List.nil_append]
 refine Zc Tryz.func61 Y (by kernel_rfl) Y (Xm Y) ?_
 refine QcC ?_;intro b4
 refine Qt ?_
 refine Qy ?_
 refine Zb 8 Y Y Y (Zk (ns:=[0,1,7]) (xs:=[.const (.int .i64 3),.tmp 5,.tmp 7]) Y tz_58 Y tfl_58 Y Y Y Y ?_)
 refine QcB ?_
 exact Zn (i:=0) Y Y Y Yf Y by4 (Xb _) ⟨Y,Y⟩
theorem m_con_c (d:Da) (a:Int) (s:ByteArray):PCall Tryz.prog 62 [.agg (mkC d a),.val (.string s)] (.agg (namE 4 s a).cells):=by
 obtain ⟨ds,dps,dcs,ddv,dp⟩:=d
 unfold mkC
 simp only [Da.cells,List.cons_append,List.nil_append]
 refine Zc Tryz.func62 Y (by kernel_rfl) Y (Xm Y) ?_
 refine QcC ?_;intro b4
 refine Qt ?_
 refine Qy ?_
 refine Zb 8 Y Y Y (Zk (ns:=[0,1,7]) (xs:=[.const (.int .i64 4),.tmp 5,.tmp 7]) Y tz_58 Y tfl_58 Y Y Y Y ?_)
 refine QcB ?_
 exact Zn (i:=0) Y Y Y Yf Y by4 (Xb _) ⟨Y,Y⟩
theorem m_text_c (d:Da) (a:Int) (s:ByteArray):PCall Tryz.prog 65 [.agg (mkC d a),.val (.string s)] (.agg (namE 2 s a).cells):=by
 obtain ⟨ds,dps,dcs,ddv,dp⟩:=d
 unfold mkC
 simp only [Da.cells,List.cons_append,List.nil_append]
 refine Zc Tryz.func65 Y (by kernel_rfl) Y (Xm Y) ?_
 refine QcC ?_;intro b4
 refine Qt ?_
 refine Qy ?_
 refine Zb 8 Y Y Y (Zk (ns:=[0,1,7]) (xs:=[.const (.int .i64 2),.tmp 5,.tmp 7]) Y tz_58 Y tfl_58 Y Y Y Y ?_)
 refine QcB ?_
 exact Zn (i:=0) Y Y Y Yf Y by4 (Xb _) ⟨Y,Y⟩
theorem m_arg_c (of:ByteArray) (ho:of.size≤1000) (i:Nat) (hi:i≤1000000000):PCall Tryz.prog 67 [.val (.string of),.val (.int .i64 i)] (.val (.string (of++num i))):=by
 have H:=TextA_c ((i:Int)+1)
 have hz:=num_len i
 have e:txt (W63 ((i:Int)+1))=num i:=rfl
 rw [e] at H
 generalize num i=m at *
 refine Zc Tryz.func67 Y (by kernel_rfl) Y (Xm Y) ?_
 refine Qa7 ?_
 refine QP ?_
 refine QaI ?_
 refine Zb 8 Y Y Y (Ze (xs:=[.tmp 7]) Y Y (H) by3 ?_)
 refine Qc8 ?_
 refine Qs ?_
 exact Zg Y Y (Xg _) (Xb _) ⟨Y,Y⟩
theorem m_apply_c (d:Da) (a:Int) (f:ByteArray) (l:List Ex):PCall Tryz.prog 66 [.agg (mkC d a),.val (.string f),.seq 11 (Ex.cellss l)] (.agg (apE a (namE 3 f a) l).cells):=by
 have HN:=m_name_c d a f
 have hl:=Ex.cellss_len l
 obtain ⟨ds,dps,dcs,ddv,dp⟩:=d
 unfold mkC at *
 simp only [Da.cells,List.cons_append,List.nil_append] at *
 obtain ⟨r,hr⟩:∃ r,apE a (namE 3 f a) l=r:=⟨_,rfl⟩
 rw [hr]
 refine Zc Tryz.func66 Y (by kernel_rfl) Y (Xm Y) ?_
 refine QcC ?_;intro b6
 refine QA ?_
 refine QcK ?_
 refine Qb ?_
 refine Zb 12 Y Y Y (Ze (xs:=[.tmp 10,.tmp 11]) Y Y (HN) by3 ?_)
 refine QI ?_;intro b7
 refine QS ?_
 refine Q2 ?_
 refine Qd2 ?_;intro n14
 refine QaN ?_
 apply Ye (rg [(0,3),(4,2),(8,5),(15,11)]) (σ:=Nat × Ex) (fun zz=>match zz with|(i,x)=>[(15,.val (.int .i64 i))]) (fun zz=>match zz with|(i,x)=>[.loc b7 x.cells,.loc b6 zEx]) (fun zz=>match zz with|(i,x)=>i≤l.length∧apE a x (l.drop i)=r) (fun zz=>match zz with|(i,x)=>l.length - i) ((0,namE 3 f a))
 ·repeat' (first|exact Xp|apply Xn rfl|apply Xo rfl)
 ·exact ⟨Nat.zero_le _,hr⟩
 ·exact by6
 ·exact by5
 rintro ⟨i,⟨xk,xs,xn,⟨xtk,xts,xtn,xtl⟩,xks,xal,xbs,xp⟩⟩ hI
 try dsimp only [List.cons_append,List.nil_append] at hI ⊢
 obtain ⟨hi,hA⟩:=hI
 refine QaO ?_;intro c16 h16
 refine Qv ?_
 obtain ⟨rfl,g16⟩|⟨rfl,g16⟩:=Za h16
 ·refine QE ?_
  rw [Xr by18] at hA
  replace hA:Ex.mk xk xs xn ⟨xtk,xts,xtn,xtl⟩ xks xal xbs xp=r:=hA
  subst hA
  refine Qi ?_
  refine Qak ?_
  refine QbJ ?_
  refine Ql ?_
  exact Zn (i:=1) Y Y Y Yf Y by4 (Xb _) ⟨Y,Y⟩
 refine Qx ?_
 obtain ⟨⟨qk,qs,qn,⟨qtk,qts,qtn,qtl⟩,qks,qal,qbs,qp⟩,hxq⟩:=Zo (l:=l) (i:=i) by9
 have hcq:=Ex.cellss_get hxq
 have hmq:=Xq hxq
 refine Qi ?_
 refine Zb 17 Y Y Y (Zq Y te_55 Y (.seq _ _) Y Y (hcq) ?_)
 refine Qbs ?_
 refine QI ?_;intro b9
 refine QS ?_
 refine Qa ?_
 refine Qi ?_
 refine Qc7 ?_
 refine Qak ?_
 refine Zb 21 Y Y Y (Zd (xs:=[.tmp 19,.tmp 20]) Xa Y Y Y Y Y Y (Xm Y) ?_)
 refine Qy ?_
 refine Zb 24 Y Y Y (Zk (ns:=[0,4,7]) (xs:=[.const (.int .i64 5),.tmp 21,.tmp 23]) Y tz_58 Y tfl_58 Y Y Y Y ?_)
 refine QbJ ?_
 refine Qac ?_
 refine Qax ?_
 rw [drop_at hxq] at hA
 exact ⟨(i+1,opE 5 [.mk xk xs xn ⟨xtk,xts,xtn,xtl⟩ xks xal xbs xp,.mk qk qs qn ⟨qtk,qts,qtn,qtl⟩ qks qal qbs qp] a),⟨by show i+1≤l.length;omega,hA⟩,by show l.length - (i+1)<l.length - i;omega,by6,by0⟩
theorem m_lambda_c (d:Da) (a:Int) (b:Ex) (l:List ByteArray):PCall Tryz.prog 31 [.agg (mkC d a),.agg b.cells,.seq 1 (strs l)] (.agg (lamE a l b).cells):=by
 have hl:=Yz l
 obtain ⟨ds,dps,dcs,ddv,dp⟩:=d
 unfold mkC at *
 simp only [Da.cells,List.cons_append,List.nil_append] at *
 obtain ⟨r,hr⟩:∃ r,lamE a l b=r:=⟨_,rfl⟩
 rw [hr]
 obtain ⟨bk,bs,bn,⟨btk,bts,btn,btl⟩,bks,bal,bbs,bp⟩:=b
 refine Zc Tryz.func31 Y (by kernel_rfl) Y (Xm Y) ?_
 refine Q5 ?_
 refine c_lens (t:=2) Y (.seq _ _) (fun hmax=>?_)
 refine Qo ?_
 refine Qb8 ?_
 refine Zb 4 Y Y Y (op_boxe (cs':=[_,_,_,_,_,_,_,_,_,_,_]) Y Y Y Y ?_);intro b4
 refine QI ?_;intro b6
 refine Q2 ?_
 refine Qa4 ?_;intro n9
 refine QT ?_
 refine Qf ?_
 refine Qam ?_
 apply Ye (rg [(0,2),(5,1),(7,17)]) (σ:=Nat × Ex) (fun zz=>match zz with|(i,x)=>[(7,.val (.int .i64 ((i:Int) - 1)))]) (fun zz=>match zz with|(i,x)=>[.loc b6 zEx,.loc b4 x.cells]) (fun zz=>match zz with|(i,x)=>i≤l.length∧lamE a (l.take i) x=r) (fun zz=>match zz with|(i,x)=>i) ((l.length,⟨bk,bs,bn,⟨btk,bts,btn,btl⟩,bks,bal,bbs,bp⟩))
 ·repeat' (first|exact Xp|apply Xn rfl|apply Xo rfl)
 ·exact ⟨Nat.le_refl _,by rw [List.take_length];exact hr⟩
 ·exact Xj Y (Le.ieq by18) by6
 ·exact by5
 rintro ⟨i,⟨xk,xs,xn,⟨xtk,xts,xtn,xtl⟩,xks,xal,xbs,xp⟩⟩ hI
 try dsimp only [List.cons_append,List.nil_append] at hI ⊢
 obtain ⟨hi,hA⟩:=hI
 refine Qw ?_
 refine QcG ?_;intro c12 h12
 refine Qa ?_
 obtain ⟨rfl,g12⟩|⟨rfl,g12⟩:=Za h12
 ·refine QE ?_
  obtain rfl:i=0:=by omega
  rw [List.take_zero] at hA
  replace hA:Ex.mk xk xs xn ⟨xtk,xts,xtn,xtl⟩ xks xal xbs xp=r:=hA
  subst hA
  refine Qi ?_
  refine Qc7 ?_
  refine QcB ?_
  exact Zn (i:=0) Y Y Y Yf Y by4 (Xb _) ⟨Y,Y⟩
 refine Qae ?_
 obtain ⟨i,rfl⟩:∃ j,i=j+1:=⟨i - 1,by omega⟩
 rw [show (((i+1:Nat):Int) - 1)=(i:Int) by omega]
 obtain ⟨q,hq⟩:=Zo (l:=l) (i:=i) by18
 have hcq:=strs_get hq
 rw [Yg hq,lamE_snoc] at hA
 refine Ya [0,1,2,3,4,5,6,7,8,9] [9] [[],[],[0,1],[0,1,2],[],[4],[],[6],[0,1,2,3,4,5,6,7],[0,1,2,3,4,5,6,7,8]] tmix Y ?_
 refine Qp ?_
 refine Qp ?_
 refine Zh 17 (none) (i:=2) Y Y Y Y Y (Zq Y te_31 Y (.seq _ _) Y Y (hcq) ⟨Y,Y⟩) ?_
 refine QdX ?_
 refine Zh 19 (some 1) (i:=4) Y Y Y Y Y (Zv (cs':=[_,_,_,_,_,_,_,_,_,_,_]) (i:=0) Y Yf Y Y Y Y ⟨Y,Y⟩) ?_
 refine Zh 20 (none) (i:=5) Y Y Y Y Y (Zd (xs:=[.tmp 19]) Xa Y Y Y Y Y Y (Xm Y) ⟨Y,Y⟩) ?_
 refine QaH ?_
 refine Zh 23 (none) (i:=8) Y Y Y Y Y (Zk (ns:=[0,1,4,7]) (xs:=[.const (.int .i64 6),.tmp 18,.tmp 20,.tmp 22]) Y tz_58 Y tfl_58 Y Y Y Y ⟨Y,Y⟩) ?_
 refine Zs 1 (i:=9) Y Y Y Y Y (Zi (cs':=[_,_,_,_,_,_,_,_,_,_,_]) (i:=0) Y ts_58 Y Y Y Y Y (Xm Y) Y ⟨_,Y,?_⟩)
 show AGo _ _ _ _ _ _ _
 refine Qbm ?_
 refine Qe ?_
 refine QT ?_
 refine Qap ?_
 exact ⟨(i,.mk 6 q 0 ty0 [.mk xk xs xn ⟨xtk,xts,xtn,xtl⟩ xks xal xbs xp] [] [] a),⟨by omega,hA⟩,by show i<i+1;omega,by6,by0⟩
theorem m_cases_c (d:Da) (a:Int) (x:Ex) (l:List Al):PCall Tryz.prog 60 [.agg (mkC d a),.agg x.cells,.seq 16 (Al.cellss l)] (.agg (Ex.mk 8 kE 0 ty0 [x] l [] a).cells):=by
 obtain ⟨ds,dps,dcs,ddv,dp⟩:=d
 unfold mkC at *
 simp only [Da.cells,List.cons_append,List.nil_append] at *
 obtain ⟨xk,xs,xn,⟨xtk,xts,xtn,xtl⟩,xks,xal,xbs,xp⟩:=x
 refine Zc Tryz.func60 Y (by kernel_rfl) Y (Xm Y) ?_
 refine Qn ?_
 refine Qb8 ?_
 refine Qc1 ?_
 refine QI ?_;intro b6
 refine QA ?_
 refine Qbs ?_
 refine Zb 8 Y Y Y (Zd (xs:=[.tmp 7]) Xa Y Y Y Y Y Y (Xm Y) ?_)
 refine Qb ?_
 refine Qy ?_
 refine Zb 12 Y Y Y (Zk (ns:=[0,4,5,7]) (xs:=[.const (.int .i64 8),.tmp 8,.tmp 9,.tmp 11]) Y tz_58 Y tfl_58 Y Y Y Y ?_)
 refine QcB ?_
 exact Zn (i:=0) Y Y Y Yf Y by4 (Xb _) ⟨Y,Y⟩
def ExC (b:Nat) (L:List Tok) (n:Nat) (E:PS→Ex × PS):Prop:=∀ q,POk L n q→MCall Tryz.prog 44 [.ptr b 0] (.loc b (psC L q)) (.agg (E q).1.cells) (.loc b (psC L (E q).2))
theorem take_prog {L:List Tok} {p:PS} {kind:Int} {s:ByteArray} (hk:kind≠0) (h:(takeP L p kind s).2.e=0):takeP L p kind s=(nxt L p,stepP p)∧p.e=0∧p.at_<L.length:=by
 unfold takeP at h ⊢
 by_cases q:p.e≠0
 ·rw [if_pos q] at h;exact absurd h q
 rw [if_neg q] at h ⊢
 by_cases q2:(kind<6∧(nxt L p).k≠kind)∨(6≤kind∧((nxt L p).k<6∨(nxt L p).t≠s))
 ·rw [if_pos q2] at h;exact absurd h (fail_ne by17)
 rw [if_neg q2];exact ⟨rfl,nxt_in by18⟩
theorem nxt_ok {L:List Tok} {p:PS} (h:(nxt L p).k≠0):p.e=0:=(nxt_in h).1
theorem bind_c (b:Nat) (L:List Tok) (hL:L.length≤100000) (n:Nat) (E:PS→Ex × PS) (HE:ExC b L n E) (p:PS) (k:POk L n p):MCall Tryz.prog 19 [.ptr b 0] (.loc b (psC L p)) (.agg (bindG L E p).1.cells) (.loc b (psC L (bindG L E p).2)):=by
 have H1:=pName_c b L hL n p k
 have k1:=(name_adv k).ok k
 have H2:=take_c b L hL _ k1.1 7 kEq
 have k2:=(Zj (kind:=7) (s:=kEq) by17 k1).ok k1
 have H3:=HE _ k2
 obtain ⟨r,hr⟩:∃ r,bindG L E p=r:=⟨_,rfl⟩
 rw [hr]
 unfold bindG at hr
 obtain ⟨⟨⟨tk,tt,tn,ta⟩,p1⟩,e1⟩:∃ r,nameP L p=r:=⟨_,rfl⟩
 rw [e1] at H1 H2 H3 hr
 obtain ⟨⟨u2,p2⟩,e2⟩:∃ r,takeP L p1 7 kEq=r:=⟨_,rfl⟩
 simp only [] at H2 H3 hr
 rw [e2] at H2 H3 hr
 simp only [] at H2 H3 hr
 obtain ⟨⟨⟨xk,xs,xn,⟨xtk,xts,xtn,xtl⟩,xks,xal,xbs,xp⟩,p3⟩,e3⟩:∃ r,E p2=r:=⟨_,rfl⟩
 rw [e3] at H3 hr
 simp only [Ex.cells,Ty.cells,List.cons_append,List.nil_append,Tok.av] at H1 H3 hr
 subst hr
 refine Zc Tryz.func19 Y (by kernel_rfl) Y (Xm Y) ?_
 refine Qn ?_
 refine Qe5 ?_;intro b2
 refine Qt ?_
 refine Zb 5 Y Y Y (Zf (xs:=[.tmp 4]) (i:=1) Y Y Y (H1) by3 ?_)
 refine Qz ?_;intro b3
 refine Q6 ?_
 refine Qt ?_
 refine Zb 7 Y Y Y (Zf (xs:=[.tmp 6,.const (.int .i64 7),.const (.string ⟨#[61]⟩)]) (i:=2) Y Y Y (H2) by3 ?_)
 refine Qv ?_
 refine Ya [0,1,2,4,5,3,6,7] [3,7] [[],[0],[],[2],[],[4],[0,1,2,3,4,5],[0,1,2,3,4,5,6]] tmix Y ?_
 refine QbO ?_
 refine Qp ?_
 refine QbO ?_
 refine Zs 2 (i:=3) Y Y Y Y Y (Zf (xs:=[.tmp 10]) (i:=0) Y Y Y (H3) by3 ⟨_,Y,?_⟩)
 refine Zh 14 (none) (i:=6) Y Y Y Y Y (Zk (ns:=[0,1,2]) (xs:=[.tmp 9,.tmp 11,.tmp 13]) Y tz_60 Y tfl_60 Y Y Y Y ⟨Y,Y⟩) ?_
 refine Zs 1 (i:=7) Y Y Y Y Y (Zi (cs':=[_,_,_,_,_,_,_,_,_,_,_,_,_]) (i:=0) Y ts_60 Y Y Y Y Y (Xm Y) Y ⟨_,Y,?_⟩)
 show AGo _ _ _ _ _ _ _
 refine QX ?_
 exact Zn (i:=1) Y Y Y ta_60 Y (Xg _) (Xd _ (Xd _ (Xf Y))) ⟨Y,Y⟩
theorem lambda_c (b:Nat) (L:List Tok) (hL:L.length≤100000) (n:Nat) (E:PS→Ex × PS) (HE:ExC b L n E):∀ (f:Nat) (p:PS) (a:Int),POk L n p→L.length - p.at_<f→MCall Tryz.prog 94 [.ptr b 0,.val (.int .i64 a)] (.loc b (psC L p)) (.agg (lambdaG L E f p a).1.cells) (.loc b (psC L (lambdaG L E f p a).2))
 | 0,p,a,k,h=>by omega
 | f+1,p,a,k,h=>by
  have H1:=take_c b L hL _ k.1 1 kE
  have k1:=(Zj (kind:=1) (s:=kE) by17 k).ok k
  have hp1:=take_prog (L:=L) (p:=p) (kind:=1) (s:=kE) by17
  obtain ⟨r,hr⟩:∃ r,lambdaG L E (f+1) p a=r:=⟨_,rfl⟩
  rw [hr]
  rw [lambdaG] at hr
  obtain ⟨⟨⟨tk,tt,tn,ta⟩,p1⟩,e1⟩:∃ r,takeP L p 1 kE=r:=⟨_,rfl⟩
  rw [e1] at H1 k1 hr hp1
  simp only [Tok.av] at H1 k1 hr hp1
  have HN:=next_c b L p1
  obtain ⟨⟨qk,qt,qn,qa⟩,e4⟩:∃ r,nxt L p1=r:=⟨_,rfl⟩
  have hn1:=nxt_ok (L:=L) (p:=p1)
  rw [e4] at HN hr hn1
  simp only [Tok.av] at HN hr hn1
  have H2:=take_c b L hL p1 k1.1 7 kArrow
  have k2:=(Zj (kind:=7) (s:=kArrow) by17 k1).ok k1
  have H3:=HE _ k2
  have IH:qk=1→MCall Tryz.prog 94 [.ptr b 0,.val (.int .i64 qa)] (.loc b (psC L p1)) (.agg (lambdaG L E f p1 qa).1.cells) (.loc b (psC L (lambdaG L E f p1 qa).2)):=fun q=>by
   have h1:=hp1 (hn1 by18)
   have h2:p1=stepP p:=by have:=h1.1;simp only [Prod.mk.injEq] at this;exact this.2
   refine lambda_c b L hL n E HE f p1 qa k1 ?_
   have h3:=h1.2.2
   rw [h2]
   show L.length - (p.at_+1)<f
   omega
  obtain ⟨⟨⟨yk,ys,yn,⟨ytk,yts,ytn,ytl⟩,yks,yal,ybs,yp⟩,p4⟩,e5⟩:∃ r,lambdaG L E f p1 qa=r:=⟨_,rfl⟩
  rw [e5] at IH hr
  obtain ⟨⟨⟨xk,xs,xn,⟨xtk,xts,xtn,xtl⟩,xks,xal,xbs,xp⟩,p3⟩,e3⟩:∃ r,E (takeP L p1 7 kArrow).2=r:=⟨_,rfl⟩
  rw [e3] at H3 hr
  simp only [Ex.cells,Ty.cells,List.cons_append,List.nil_append] at IH H3 hr
  clear hp1 hn1
  refine Zc Tryz.func94 Y (by kernel_rfl) Y (Xm Y) ?_
  refine Qbr ?_;intro b4
  refine Qt ?_
  refine Zb 8 Y Y Y (Zf (xs:=[.tmp 7,.const (.int .i64 1),.const (.string ⟨#[]⟩)]) (i:=1) Y Y Y (H1) by3 ?_)
  refine Qz ?_;intro b5
  refine Q6 ?_
  refine Qbq ?_
  refine Qb ?_
  refine Zb 12 Y Y Y (Zk (ns:=[0,1,7]) (xs:=[.const (.int .i64 6),.tmp 10,.tmp 11]) Y tz_58 Y tfl_58 Y Y Y Y ?_)
  refine QI ?_;intro b6
  refine QS ?_
  refine Q2 ?_
  refine Zb 14 Y Y Y (Yi (xs:=[.tmp 13]) [3] Y Y Y (HN) by3 ?_)
  refine QcT ?_
  refine Qj ?_;intro c16 h16
  refine Qa ?_
  obtain ⟨rfl,g16⟩|⟨rfl,g16⟩:=Za h16
  ·refine QY ?_
   refine Zb 29 Y Y Y (Zf (xs:=[.tmp 28,.const (.int .i64 7),.const (.string ⟨#[45,62]⟩)]) (i:=3) Y Y Y (H2) by3 ?_)
   refine Qv ?_
   refine Qby ?_
   refine Zs 3 (i:=3) Y Y Y Y Y (Zf (xs:=[.tmp 32]) (i:=0) Y Y Y (H3) by3 ⟨_,Y,?_⟩)
   refine Zh 34 (none) (i:=4) Y Y Y Y Y (Zd (xs:=[.tmp 33]) Xa Y Y Y Y Y Y (Xm Y) ⟨Y,Y⟩) ?_
   refine EOps.nw (i:=5) Y Y Y (op_append_nil Xa Y Y Y (.seq _ _) by8 (fun u35=>⟨_,Y,?_⟩))
   refine QB ?_
   refine Qdm ?_
   show AGo _ _ _ _ _ _ _
   refine Qc ?_
   refine Qo ?_
   refine Qak ?_
   refine Qca ?_
   refine Ql ?_
   rw [if_neg g16] at hr;subst hr;exact Zn (i:=2) rfl rfl rfl Yf rfl by2 (Xd _ (Xd _ (Xd _ (Xc _ (Xb _))))) ⟨rfl,rfl⟩
  refine QaG ?_
  refine Ya [0,1,2,3,4,5,6,7,8,9,10] [6,8,10] [[],[0],[],[],[3],[3,4],[2,3,4,5],[2,3,4,5,6],[0,1,2,3,4,5,6,7],[0,1,2,3,4,5,6,7,8],[0,1,2,3,4,5,6,7,8,9]] tmix Y ?_
  refine QbO ?_
  refine Qp ?_
  refine Qp ?_
  refine Zh 21 (some 3) (i:=4) Y Y Y Y Y (Yi (xs:=[.tmp 20]) [0] Y Y Y (HN) by3 ⟨Y,Y⟩) ?_
  refine Zh 22 (none) (i:=5) Y Y Y Y Y (op_field1 (ft:=3) (fo:=3) Y (by kernel_rfl) ta_3 Y Y ⟨Y,Y⟩) ?_
  refine Zs 3 (i:=6) Y Y Y Y Y (Zf (xs:=[.tmp 19,.tmp 22]) (i:=0) Y Y Y (IH g16) by3 ⟨_,Y,?_⟩)
  refine Zh 24 (none) (i:=7) Y Y Y Y Y (Zd (xs:=[.tmp 23]) Xa Y Y Y Y Y Y (Xm Y) ⟨Y,Y⟩) ?_
  refine EOps.nw (i:=8) Y Y Y (op_append_nil Xa Y Y Y (.seq _ _) by8 (fun u25=>⟨_,Y,?_⟩))
  refine QB ?_
  refine Qdm ?_
  show AGo _ _ _ _ _ _ _
  refine Qc ?_
  refine Qo ?_
  refine Qak ?_
  refine Qca ?_
  refine Ql ?_
  rw [if_pos g16] at hr;subst hr;exact Zn (i:=2) rfl rfl rfl Yf rfl by2 (Xd _ (Xd _ (Xd _ (Xc _ (Xb _))))) ⟨rfl,rfl⟩
theorem atom_lit (b:Nat) (L:List Tok) (hL:L.length≤100000) (n:Nat) (E:PS→Ex × PS) (p:PS) (k:POk L n p) (h:(nxt L p).k=1∨(nxt L p).k=2∨(nxt L p).k=3∨(nxt L p).k=4):MCall Tryz.prog 95 [.ptr b 0] (.loc b (psC L p)) (.agg (atomG L E p).1.cells) (.loc b (psC L (atomG L E p).2)):=by
 have HN:=next_c b L p
 have hp:=k.1
 have hlt:p.at_<L.length:=(nxt_in by18).2
 obtain ⟨r,hr⟩:∃ r,atomG L E p=r:=⟨_,rfl⟩
 rw [hr]
 unfold atomG at hr
 obtain ⟨⟨tk,tt,tn,ta⟩,ht⟩:∃ t,nxt L p=t:=⟨_,rfl⟩
 rw [ht] at HN hr h
 simp only [Tok.av] at HN hr h
 refine Qed ?_
 refine Qbr ?_;intro b2
 refine Qt ?_
 refine Zb 10 Y Y Y (Yi (xs:=[.tmp 9]) [1] Y Y Y (HN) by3 ?_)
 refine Qz ?_;intro b3
 refine Q6 ?_
 refine Qbq ?_
 refine Qee ?_
 refine QI ?_;intro b4
 refine QS ?_
 refine Qv ?_
 apply c_joink (rg [(1,1),(9,37),(68,1),(81,1),(94,1),(97,1),(110,1),(128,1)]) (σ:=Int × ByteArray × Int) (fun zz=>match zz with|(kk,ss,nn)=>[]) (fun zz=>match zz with|(kk,ss,nn)=>[.loc b4 [.val (.int .i64 kk),.val (.string ss),.val (.int .i64 nn),.val (.int .i64 0),.val (.string kE),.val (.int .i64 0),.val (.slice none 0 0),.val (.slice none 0 0),.val (.slice none 0 0),.val (.slice none 0 0),.val (.int .i64 ta)],.loc b3 (Tok.mk tk tt tn ta).av,.loc b2 zEx,.loc b (psC L p)]) (fun zz=>match zz with|(kk,ss,nn)=>0<kk∧(Ex.mk kk ss nn ty0 [] [] [] ta,stepP p)=r)
 ·repeat' (first|exact Xp|apply Xn rfl|apply Xo rfl)
 ·skip
  refine Qam ?_
  refine QaY ?_
  refine Qj ?_;intro c17 h17
  refine Qf ?_
  obtain ⟨rfl,g17⟩|⟨rfl,g17⟩:=Za h17
  ·refine QbE ?_;intro c25 h25
   refine Qf ?_
   obtain ⟨rfl,g25⟩|⟨rfl,g25⟩:=Za h25
   ·refine QbE ?_;intro c33 h33
    refine Qf ?_
    obtain ⟨rfl,g33⟩|⟨rfl,g33⟩:=Za h33
    ·refine QbE ?_;intro c41 h41
     refine Qf ?_
     obtain ⟨rfl,g41⟩|⟨rfl,g41⟩:=Za h41
     ·omega
     refine Qh ?_
     refine Qat ?_
     refine Qdn ?_
     refine Qcz ?_
     refine Qu ?_
     refine Qef ?_
     refine Qa1 ?_
     first
     |(rw [if_pos g17] at hr;exact ⟨(3,tt,0),⟨by decide,hr⟩,by6,Xf rfl⟩)
     |(rw [if_neg g17,if_pos g25] at hr;exact ⟨(4,tt,0),⟨by decide,hr⟩,by6,Xf rfl⟩)
     |(rw [if_neg g17,if_neg g25,if_pos g33] at hr;exact ⟨(1,kE,tn),⟨by decide,hr⟩,by6,Xf rfl⟩)
     |(rw [if_neg g17,if_neg g25,if_neg g33,if_pos g41] at hr;exact ⟨(2,tt,0),⟨by decide,hr⟩,by6,Xf rfl⟩)
    refine Qh ?_
    refine Qat ?_
    refine Qdn ?_
    refine Qcz ?_
    refine Qu ?_
    refine Qe6 ?_
    refine Qa1 ?_
    first
    |(rw [if_pos g17] at hr;exact ⟨(3,tt,0),⟨by decide,hr⟩,by6,Xf rfl⟩)
    |(rw [if_neg g17,if_pos g25] at hr;exact ⟨(4,tt,0),⟨by decide,hr⟩,by6,Xf rfl⟩)
    |(rw [if_neg g17,if_neg g25,if_pos g33] at hr;exact ⟨(1,kE,tn),⟨by decide,hr⟩,by6,Xf rfl⟩)
    |(rw [if_neg g17,if_neg g25,if_neg g33,if_pos g41] at hr;exact ⟨(2,tt,0),⟨by decide,hr⟩,by6,Xf rfl⟩)
   refine Qh ?_
   refine Qat ?_
   refine Qdn ?_
   refine Qcz ?_
   refine Qu ?_
   refine Qef ?_
   refine Qa1 ?_
   first
   |(rw [if_pos g17] at hr;exact ⟨(3,tt,0),⟨by decide,hr⟩,by6,Xf rfl⟩)
   |(rw [if_neg g17,if_pos g25] at hr;exact ⟨(4,tt,0),⟨by decide,hr⟩,by6,Xf rfl⟩)
   |(rw [if_neg g17,if_neg g25,if_pos g33] at hr;exact ⟨(1,kE,tn),⟨by decide,hr⟩,by6,Xf rfl⟩)
   |(rw [if_neg g17,if_neg g25,if_neg g33,if_pos g41] at hr;exact ⟨(2,tt,0),⟨by decide,hr⟩,by6,Xf rfl⟩)
  refine Qh ?_
  refine Qat ?_
  refine Qdn ?_
  refine Qcz ?_
  refine Qu ?_
  refine Qef ?_
  refine Qa1 ?_
  first
  |(rw [if_pos g17] at hr;exact ⟨(3,tt,0),⟨by decide,hr⟩,by6,Xf rfl⟩)
  |(rw [if_neg g17,if_pos g25] at hr;exact ⟨(4,tt,0),⟨by decide,hr⟩,by6,Xf rfl⟩)
  |(rw [if_neg g17,if_neg g25,if_pos g33] at hr;exact ⟨(1,kE,tn),⟨by decide,hr⟩,by6,Xf rfl⟩)
  |(rw [if_neg g17,if_neg g25,if_neg g33,if_pos g41] at hr;exact ⟨(2,tt,0),⟨by decide,hr⟩,by6,Xf rfl⟩)
 rintro ⟨kk,ss,nn⟩ hI
 try dsimp only [List.cons_append,List.nil_append] at hI ⊢
 refine QaS ?_
 refine Qbo ?_
 refine Q0 ?_;intro c48 h48
 refine Qa ?_
 obtain ⟨rfl,g48⟩|⟨rfl,g48⟩:=Za h48
 ·omega
 refine QaP ?_
 refine Qah ?_
 refine Qb9 ?_
 refine Qcx ?_
 refine Qc6 ?_
 refine QA ?_
 refine Qak ?_
 refine Qca ?_
 refine Ql ?_
 have h2:=hI.2;subst h2;exact Zn (i:=2) rfl rfl rfl Yf rfl by2 (Xd _ (Xd _ (Xd _ (Xf rfl)))) ⟨rfl,rfl⟩
theorem may_yes {b:Nat} {L:List Tok} (hL:L.length≤100000) {p:PS} {s:ByteArray} (h:isP L p s=true):MCall Tryz.prog 14 [.ptr b 0,.val (.string s)] (.loc b (psC L p)) (.val (.bool true)) (.loc b (psC L (stepP p))) :=
 (may_c b L hL p s).mono (by
  rintro v M' (⟨_,rfl,rfl⟩|⟨q,_,_⟩)
  ·exact ⟨Y,Y⟩
  exact absurd h q)
theorem may_no {b:Nat} {L:List Tok} (hL:L.length≤100000) {p:PS} {s:ByteArray} (h:¬ isP L p s=true):MCall Tryz.prog 14 [.ptr b 0,.val (.string s)] (.loc b (psC L p)) (.val (.bool false)) (.loc b (psC L p)) :=
 (may_c b L hL p s).mono (by
  rintro v M' (⟨q,_,_⟩|⟨_,rfl,rfl⟩)
  ·exact absurd q h
  exact ⟨Y,Y⟩)
theorem altsL_err {L:List Tok} {E:PS→Ex × PS} {f:Nat} {p:PS} {acc:List Al} (h:p.e≠0):altsL L E f p acc=(acc,p):=by
 cases f with
 | zero=>rfl
 | succ f=>rw [altsL,if_pos h]
theorem Al.cellss_app' (a b:List Al):Al.cellss (a++b)=Al.cellss a++Al.cellss b:=by simp [Al.cellss_map]
theorem Ex.cellss_app' (a b:List Ex):Ex.cellss (a++b)=Ex.cellss a++Ex.cellss b:=by simp [Ex.cellss_map]
theorem Bi.cellss_app' (a b:List Bi):Bi.cellss (a++b)=Bi.cellss a++Bi.cellss b:=by simp [Bi.cellss_map]
theorem atom_case (b:Nat) (L:List Tok) (hL:L.length≤100000) (n:Nat) (E:PS→Ex × PS) (HE:ExC b L n E) (HA:∀ q,POk L n q→Adv L q (E q).2) (p:PS) (k:POk L n p) (h1:(nxt L p).k≠1) (h2:(nxt L p).k≠2) (h3:(nxt L p).k≠3) (h4:(nxt L p).k≠4) (hc:isP L p kCase=true):MCall Tryz.prog 95 [.ptr b 0] (.loc b (psC L p)) (.agg (caseG L E (nxt L p).a (stepP p)).1.cells) (.loc b (psC L (caseG L E (nxt L p).a (stepP p)).2)):=by
 have HN:=next_c b L p
 have k1:=(Zw k hc).ok k
 have H1:=HE _ k1
 have k2:=(HA _ k1).ok k1
 have H2:=take_c b L hL _ k2.1 6 kOf
 have k3:=(Zj (kind:=6) (s:=kOf) by17 k2).ok k2
 have k4:=(altsL_adv HA (L.length+1) _ [] k3).ok k3
 have H4:=take_c b L hL _ k4.1 6 kEnd
 obtain ⟨r,hr⟩:∃ r,caseG L E (nxt L p).a (stepP p)=r:=⟨_,rfl⟩
 rw [hr]
 unfold caseG at hr
 simp only [] at hr
 obtain ⟨⟨tk,tt,tn,ta⟩,ht⟩:∃ t,nxt L p=t:=⟨_,rfl⟩
 rw [ht] at HN hr h1 h2 h3 h4
 simp only [Tok.av] at HN hr h1 h2 h3 h4
 obtain ⟨⟨⟨xk,xs,xn,⟨xtk,xts,xtn,xtl⟩,xks,xal,xbs,xp⟩,p2⟩,e2⟩:∃ r,E (stepP p)=r:=⟨_,rfl⟩
 rw [e2] at H1 H2 H4 hr k3
 obtain ⟨⟨u3,p3⟩,e3⟩:∃ r,takeP L p2 6 kOf=r:=⟨_,rfl⟩
 simp only [] at H2 H4 hr k3
 rw [e3] at H2 H4 hr k3
 simp only [] at H2 H4 hr k3
 obtain ⟨⟨yl,p4⟩,e4⟩:∃ r,altsL L E (L.length+1) p3 []=r:=⟨_,rfl⟩
 rw [e4] at H4 hr
 simp only [Ex.cells,Ty.cells,List.cons_append,List.nil_append] at H1 H4 hr
 refine Qed ?_
 refine Qbr ?_;intro b2
 refine Qt ?_
 refine Zb 10 Y Y Y (Yi (xs:=[.tmp 9]) [1] Y Y Y (HN) by3 ?_)
 refine Qz ?_;intro b3
 refine Q6 ?_
 refine Qbq ?_
 refine Qee ?_
 refine QI ?_;intro b4
 refine QS ?_
 refine Qbh ?_
 refine QaY ?_
 refine Qj ?_;intro c17 h17
 refine Qf ?_
 obtain ⟨rfl,g17⟩|⟨rfl,g17⟩:=Za h17
 ·refine QbE ?_;intro c25 h25
  refine Qf ?_
  obtain ⟨rfl,g25⟩|⟨rfl,g25⟩:=Za h25
  ·refine QbE ?_;intro c33 h33
   refine Qf ?_
   obtain ⟨rfl,g33⟩|⟨rfl,g33⟩:=Za h33
   ·refine QbE ?_;intro c41 h41
    refine Qf ?_
    obtain ⟨rfl,g41⟩|⟨rfl,g41⟩:=Za h41
    ·refine Qau ?_
     refine Qbm ?_
     refine QG ?_
     refine Qbo ?_
     refine Q0 ?_;intro c48 h48
     refine Qa ?_
     obtain ⟨rfl,g48⟩|⟨rfl,g48⟩:=Za h48
     ·refine QaB ?_
      refine Zb 58 Y Y Y (Zf (xs:=[.tmp 57,.const (.string ⟨#[99,97,115,101]⟩)]) (i:=3) Y Y Y (may_yes hL hc) by3 ?_)
      refine Qb1 ?_
      refine Qat ?_
      refine Qdn ?_
      refine Qv ?_
      refine Qby ?_
      refine Zs 3 (i:=3) Y Y Y Y Y (Zf (xs:=[.tmp 62]) (i:=0) Y Y Y (H1) by3 ⟨_,Y,?_⟩)
      refine Zh 64 (none) (i:=4) Y Y Y Y Y (Zd (xs:=[.tmp 63]) Xa Y Y Y Y Y Y (Xm Y) ⟨Y,Y⟩) ?_
      refine EOps.nw (i:=5) Y Y Y (op_append_nil Xa Y Y Y (.seq _ _) by8 (fun u65=>⟨_,Y,?_⟩))
      refine QB ?_
      refine Qdm ?_
      show AGo _ _ _ _ _ _ _
      refine Qc ?_
      refine QJ ?_
      refine Zb 68 Y Y Y (Zf (xs:=[.tmp 67,.const (.int .i64 6),.const (.string ⟨#[111,102]⟩)]) (i:=3) Y Y Y (H2) by3 ?_)
      refine Qa ?_
      refine QK ?_
      refine Qa6 ?_
      refine Yb 65 16 ?_
      apply Ye (rg [(1,1),(5,2),(9,49),(59,34),(94,1),(97,1),(110,1),(128,1)]) (σ:=PS × Nat × List Al × Value × Bool) (fun zz=>match zz with|(q,f,acc,u,mo)=>[(5,.val (.bool mo))]) (fun zz=>match zz with|(q,f,acc,u,mo)=>[.loc b4 [.val (.int .i64 8),.val (.string kE),.val (.int .i64 0),.val (.int .i64 0),.val (.string kE),.val (.int .i64 0),.val (.slice none 0 0),.seq 11 (Ex.cellss [Ex.mk xk xs xn (Ty.mk xtk xts xtn xtl) xks xal xbs xp]),.own u 16 (Al.cellss acc),.val (.slice none 0 0),.val (.int .i64 ta)],.loc b3 (Tok.mk tk tt tn ta).av,.loc b2 zEx,.loc b (psC L q),.own 65 16 u]) (fun zz=>match zz with|(q,f,acc,u,mo)=>POk L n q∧L.length - q.at_<f∧(mo=true→acc.length≤q.at_)∧(if mo=true then altsL L E f q acc else (acc,q))=(yl,p4)) (fun zz=>match zz with|(q,f,acc,u,mo)=>2 * f+(if mo=true then 1 else 0)) ((p3,L.length+1,[],.slice none 0 0,true))
      ·repeat' (first|exact Xp|apply Xn rfl|apply Xo rfl)
      ·exact ⟨k3,by omega,fun _=>Nat.zero_le _,e4⟩
      ·exact by6
      ·exact (Xe _ (Xi (Xg _) (Xi (Xg _) (Xi (Xg _) (Xi (Xg _) (Xi (Xg _) (Xi (Xg _) (Xi (Xg _) (Xi (Le.own_seq Y) (Xi (Le.nilOwn 16) (Xh _)))))))))) (Xc _ (Xc _ (Xc _ (Xd _ (MLe.refl _))))))
      rintro ⟨q,f,acc,u,mo⟩ hI
      try dsimp only [List.cons_append,List.nil_append] at hI ⊢
      obtain ⟨i1,i2,i3,hu⟩:=hI
      have hq1:=i1.1
      refine QL ?_
      refine Zx 76 (mo=true∧q.e=0) ?_ _ _ Y ?_
      ·skip
       refine QaA ?_
       have h70:(mo=true↔mo=true):=Iff.rfl
       obtain ⟨rfl,g70⟩|⟨rfl,g70⟩:=Za h70
       ·skip
        refine Qa9 ?_
        refine Qg ?_
        refine Xk Y ?_ by7 by5
        simp_all;done
       skip
       refine Qd ?_
       refine Qeg ?_
       refine Qb4 ?_
       refine Zm 74 Y Y Y Y Y (Yn (i:=3) Y ta_3 Y Y Y ?_)
       refine Qan ?_;intro c75 h75
       refine Qg ?_
       refine Xk Y ?_ by7 by5
       simp_all;done
      intro c76 h76
      refine Qc ?_
      obtain ⟨rfl,g76⟩|⟨rfl,g76⟩:=Za h76
      ·refine QE ?_
       have hu2:(acc,q)=(yl,p4):=by
        cases mo with
        | false=>exact hu
        | true=>rw [if_pos rfl,altsL_err (fun e=>g76 ⟨rfl,e⟩)] at hu;exact hu
       simp only [Prod.mk.injEq] at hu2
       obtain ⟨rfl,rfl⟩:=hu2
       refine Qe ?_
       refine Zb 94 Y Y Y (Zf (xs:=[.tmp 93,.const (.int .i64 6),.const (.string ⟨#[101,110,100]⟩)]) (i:=3) Y Y Y (H4) by3 ?_)
       refine QA ?_
       refine Qak ?_
       refine Qca ?_
       refine Ql ?_
       subst hr;exact Zn (i:=2) rfl rfl rfl Yf rfl by2 (Xd _ (Xd _ (Xd _ (Xc _ (Xb _))))) ⟨rfl,rfl⟩
      refine Qab ?_
      refine QG ?_
      obtain ⟨rfl,hq0⟩:=g76
      have i3:=i3 rfl
      have hle:(Al.cellss acc).length≤200000:=by rw [Al.cellss_len];omega
      rw [if_pos rfl] at hu
      obtain ⟨f,rfl⟩:∃ f',f=f'+1:=⟨f - 1,by omega⟩
      rw [altsL,if_neg (by rw [hq0];simp)] at hu
      have HP:=patP_c b L hL n q i1
      have l1:=(patP_adv i1).ok i1
      have b1:=(patP_adv i1).1
      have HQ:=take_c b L hL _ l1.1 7 kArrow
      have l2:=(Zj (kind:=7) (s:=kArrow) by17 l1).ok l1
      have b2:=(Zj (kind:=7) (s:=kArrow) by17 l1).1
      have HR:=HE _ l2
      have l3:=(HA _ l2).ok l2
      have b3:=(HA _ l2).1
      obtain ⟨z,hz⟩:∃ z,altG L E q=z:=⟨_,rfl⟩
      rw [hz] at hu
      unfold altG at hz
      obtain ⟨⟨⟨vk,vs,vn,vl,vp⟩,q1⟩,f1⟩:∃ r,patP L q=r:=⟨_,rfl⟩
      rw [f1] at HP HQ HR hz l2 l3 b1 b2 b3
      obtain ⟨⟨u5,q2⟩,f2⟩:∃ r,takeP L q1 7 kArrow=r:=⟨_,rfl⟩
      simp only [] at HQ HR hz l2 l3 b1 b2 b3
      rw [f2] at HQ HR hz l2 l3 b2 b3
      simp only [] at HQ HR hz l2 l3 b1 b2 b3
      obtain ⟨⟨⟨wk,ws,wn,⟨wtk,wts,wtn,wtl⟩,wks,wal,wbs,wp⟩,q3⟩,f3⟩:∃ r,E q2=r:=⟨_,rfl⟩
      rw [f3] at HR hz l3 b3
      simp only [Pa.cells,Ex.cells,Ty.cells,List.cons_append,List.nil_append] at HP HR hz l3 b3
      subst hz
      simp only [] at hu
      have l3a:=l3.1
      refine Qe ?_
      refine Zb 78 Y Y Y (Zf (xs:=[.tmp 77]) (i:=3) Y Y Y (HP) by3 ?_)
      refine Zb 79 Y Y Y (Zk (ns:=[0]) (xs:=[.tmp 78]) Y tz_65 Y tfl_65 Y Y Y Y ?_)
      refine Qe7 ?_;intro b6
      refine Qe8 ?_
      refine Qt ?_
      refine Zb 81 Y Y Y (Zf (xs:=[.tmp 80,.const (.int .i64 7),.const (.string ⟨#[45,62]⟩)]) (i:=4) Y Y Y (HQ) by3 ?_)
      refine Qt ?_
      refine Zb 83 Y Y Y (Zf (xs:=[.tmp 82]) (i:=4) Y Y Y (HR) by3 ?_)
      refine Qu ?_
      refine Zp Y Y (Zi (cs':=[_,_,_,_,_,_,_,_,_,_,_,_,_,_,_,_]) (i:=0) Y ts_58 Y Y Y Y Y (Xm Y) Y ?_)
      refine Qa ?_
      refine QaY ?_
      refine Zb 87 Y Y Y (Zv (cs':=[_,_,_,_,_,_,_,_,_,_,_,_,_,_,_,_]) (i:=0) Y ta_65 Y Y Y Y (Zb 88 Y Y Y (Zd (xs:=[.tmp 87]) el_56 Y Y Y Y Y Y (Xm Y) (Zb 89 Y Y Y (Zr (i:=5) el_56 Y Y Y Y (.seq _ _) by8 ?_)))))
      intro u89
      refine Qu ?_
      refine Zp Y Y (Zi (cs':=[_,_,_,_,_,_,_,_,_,_,_]) (i:=1) Y ts_56 Y Y Y Y Y (Xm Y) Y ?_)
      refine Qa ?_
      refine Qe ?_
      refine Zb 92 Y Y Y (op_mayc (xs:=[.tmp 91,.const (.string ⟨#[124]⟩)]) (i:=4) Y Y Y (may_c b L hL q3 kBar) by3 ?_ ?_)
      ·intro g92
       refine QaF ?_
       first
       |(rw [if_pos g92] at hu;have l4:=(Zw l3 g92).ok l3;have l5:=(is_lt g92).2;exact ⟨(stepP q3,f,acc++[Al.mk (Pa.mk vk vs vn vl vp) (Ex.mk wk ws wn (Ty.mk wtk wts wtn wtl) wks wal wbs wp)],u89,true),⟨l4,(by show L.length - (q3.at_+1)<f;omega),(fun _=>by show (acc++_).length≤q3.at_+1;rw [List.length_append];simp;omega),hu⟩,(by show 2 * f+1<2 * (f+1)+1;omega),Xj rfl (Xg _) by6,(Xd _ (Xe _ (Xi (Xg _) (Xi (Xg _) (Xi (Xg _) (Xi (Xg _) (Xi (Xg _) (Xi (Xg _) (Xi (Xg _) (Xi (Xg _) (Xi (Xl (by rw [Al.cellss_app'];rfl)) (Xh _)))))))))) (Xc _ (Xc _ (Xf rfl)))))⟩)
       |(rw [if_neg g92] at hu;exact ⟨(q3,f+1,acc++[Al.mk (Pa.mk vk vs vn vl vp) (Ex.mk wk ws wn (Ty.mk wtk wts wtn wtl) wks wal wbs wp)],u89,false),⟨l3,(by show L.length - q3.at_<f+1;omega),(fun h=>by cases h),hu⟩,(by show 2 * (f+1)+0<2 * (f+1)+1;omega),Xj rfl (Xg _) by6,(Xd _ (Xe _ (Xi (Xg _) (Xi (Xg _) (Xi (Xg _) (Xi (Xg _) (Xi (Xg _) (Xi (Xg _) (Xi (Xg _) (Xi (Xg _) (Xi (Xl (by rw [Al.cellss_app'];rfl)) (Xh _)))))))))) (Xc _ (Xc _ (Xf rfl)))))⟩)
      intro g92
      refine QaF ?_
      first
      |(rw [if_pos g92] at hu;have l4:=(Zw l3 g92).ok l3;have l5:=(is_lt g92).2;exact ⟨(stepP q3,f,acc++[Al.mk (Pa.mk vk vs vn vl vp) (Ex.mk wk ws wn (Ty.mk wtk wts wtn wtl) wks wal wbs wp)],u89,true),⟨l4,(by show L.length - (q3.at_+1)<f;omega),(fun _=>by show (acc++_).length≤q3.at_+1;rw [List.length_append];simp;omega),hu⟩,(by show 2 * f+1<2 * (f+1)+1;omega),Xj rfl (Xg _) by6,(Xd _ (Xe _ (Xi (Xg _) (Xi (Xg _) (Xi (Xg _) (Xi (Xg _) (Xi (Xg _) (Xi (Xg _) (Xi (Xg _) (Xi (Xg _) (Xi (Xl (by rw [Al.cellss_app'];rfl)) (Xh _)))))))))) (Xc _ (Xc _ (Xf rfl)))))⟩)
      |(rw [if_neg g92] at hu;exact ⟨(q3,f+1,acc++[Al.mk (Pa.mk vk vs vn vl vp) (Ex.mk wk ws wn (Ty.mk wtk wts wtn wtl) wks wal wbs wp)],u89,false),⟨l3,(by show L.length - q3.at_<f+1;omega),(fun h=>by cases h),hu⟩,(by show 2 * (f+1)+0<2 * (f+1)+1;omega),Xj rfl (Xg _) by6,(Xd _ (Xe _ (Xi (Xg _) (Xi (Xg _) (Xi (Xg _) (Xi (Xg _) (Xi (Xg _) (Xi (Xg _) (Xi (Xg _) (Xi (Xg _) (Xi (Xl (by rw [Al.cellss_app'];rfl)) (Xh _)))))))))) (Xc _ (Xc _ (Xf rfl)))))⟩)
     exact absurd g48 by17
    exact absurd g41 h4
   exact absurd g33 h3
  exact absurd g25 h2
 exact absurd g17 h1
theorem atom_par (b:Nat) (L:List Tok) (hL:L.length≤100000) (n:Nat) (E:PS→Ex × PS) (HE:ExC b L n E) (HA:∀ q,POk L n q→Adv L q (E q).2) (p:PS) (k:POk L n p) (h1:(nxt L p).k≠1) (h2:(nxt L p).k≠2) (h3:(nxt L p).k≠3) (h4:(nxt L p).k≠4) (hc:¬ isP L p kCase=true) (r:Ex × PS)
    (hr:(if isP L (takeP L p 7 kLP).2 kRP=true then (namE 4 kUnit (nxt L p).a,stepP (takeP L p 7 kLP).2)
     else if (nxt L (takeP L p 7 kLP).2).k=5 then (namE 3 (takeP L (takeP L p 7 kLP).2 5 kE).1.t (nxt L p).a,(takeP L (takeP L (takeP L p 7 kLP).2 5 kE).2 7 kRP).2)
     else annG L (nxt L p).a (E (takeP L p 7 kLP).2))=r):MCall Tryz.prog 95 [.ptr b 0] (.loc b (psC L p)) (.agg r.1.cells) (.loc b (psC L r.2)):=by
 have HN:=next_c b L p
 have H1:=take_c b L hL p k.1 7 kLP
 have k1:=(Zj (kind:=7) (s:=kLP) by17 k).ok k
 obtain ⟨⟨tk,tt,tn,ta⟩,ht⟩:∃ t,nxt L p=t:=⟨_,rfl⟩
 rw [ht] at HN hr h1 h2 h3 h4
 simp only [Tok.av] at HN hr h1 h2 h3 h4
 obtain ⟨⟨u1,p1⟩,e1⟩:∃ r,takeP L p 7 kLP=r:=⟨_,rfl⟩
 rw [e1] at H1 hr k1
 simp only [] at H1 hr k1
 have HN1:=next_c b L p1
 obtain ⟨⟨qk,qt,qn,qa⟩,ht1⟩:∃ t,nxt L p1=t:=⟨_,rfl⟩
 rw [ht1] at HN1 hr
 have H5:=take_c b L hL p1 k1.1 5 kE
 have k5:=(Zj (kind:=5) (s:=kE) by17 k1).ok k1
 have HX:=HE p1 k1
 have kx:=(HA p1 k1).ok k1
 obtain ⟨⟨⟨ok,ot,on,oa⟩,p5⟩,e5⟩:∃ r,takeP L p1 5 kE=r:=⟨_,rfl⟩
 rw [e5] at H5 k5 hr
 obtain ⟨⟨⟨xk,xs,xn,⟨xtk,xts,xtn,xtl⟩,xks,xal,xbs,xp⟩,p2⟩,e2⟩:∃ r,E p1=r:=⟨_,rfl⟩
 rw [e2] at HX kx hr
 unfold annG at hr
 simp only [Tok.av,Ex.cells,Ty.cells,List.cons_append,List.nil_append] at HN1 H5 k5 hr HX kx
 refine Qed ?_
 refine Qbr ?_;intro b2
 refine Qt ?_
 refine Zb 10 Y Y Y (Yi (xs:=[.tmp 9]) [1] Y Y Y (HN) by3 ?_)
 refine Qz ?_;intro b3
 refine Q6 ?_
 refine Qbq ?_
 refine Qee ?_
 refine QI ?_;intro b4
 refine QS ?_
 refine Qbh ?_
 refine QaY ?_
 refine Qj ?_;intro c17 h17
 refine Qf ?_
 obtain ⟨rfl,g17⟩|⟨rfl,g17⟩:=Za h17
 ·refine QbE ?_;intro c25 h25
  refine Qf ?_
  obtain ⟨rfl,g25⟩|⟨rfl,g25⟩:=Za h25
  ·refine QbE ?_;intro c33 h33
   refine Qf ?_
   obtain ⟨rfl,g33⟩|⟨rfl,g33⟩:=Za h33
   ·refine QbE ?_;intro c41 h41
    refine Qf ?_
    obtain ⟨rfl,g41⟩|⟨rfl,g41⟩:=Za h41
    ·refine Qau ?_
     refine Qbm ?_
     refine QG ?_
     refine Qbo ?_
     refine Q0 ?_;intro c48 h48
     refine Qa ?_
     obtain ⟨rfl,g48⟩|⟨rfl,g48⟩:=Za h48
     ·refine QaB ?_
      refine Zb 58 Y Y Y (Zf (xs:=[.tmp 57,.const (.string ⟨#[99,97,115,101]⟩)]) (i:=3) Y Y Y (may_no hL hc) by3 ?_)
      refine Qa ?_
      refine QY ?_
      refine Zb 97 Y Y Y (Zf (xs:=[.tmp 96,.const (.int .i64 7),.const (.string ⟨#[40]⟩)]) (i:=3) Y Y Y (H1) by3 ?_)
      refine Q2 ?_
      refine Zb 99 Y Y Y (op_mayc (xs:=[.tmp 98,.const (.string ⟨#[41]⟩)]) (i:=3) Y Y Y (may_c b L hL p1 kRP) by3 ?_ ?_)
      ·intro g99
       refine Qb1 ?_
       refine QaY ?_
       refine Zb 102 Y Y Y (Zk (ns:=[0,1,7]) (xs:=[.const (.int .i64 4),.const (.string ⟨#[85,110,105,116]⟩),.tmp 101]) Y tz_58 Y tfl_58 Y Y Y Y ?_)
       refine Qca ?_
       refine Ql ?_
       rw [if_pos g99] at hr;subst hr;exact Zn (i:=2) rfl rfl rfl Yf rfl by2 (Xd _ (Xd _ (Xd _ (Xf rfl)))) ⟨rfl,rfl⟩
      intro g99
      refine Qa ?_
      refine QaB ?_
      refine Zb 104 Y Y Y (Yi (xs:=[.tmp 103]) [3] Y Y Y (HN1) by3 ?_)
      refine QcT ?_
      refine Qj ?_;intro c106 h106
      refine Qa ?_
      obtain ⟨rfl,g106⟩|⟨rfl,g106⟩:=Za h106
      ·refine QY ?_
       refine Zb 117 Y Y Y (Zf (xs:=[.tmp 116]) (i:=3) Y Y Y (HX) by3 ?_)
       refine QI ?_;intro b8
       refine QS ?_
       refine Qa ?_
       refine QL ?_
       rw [if_neg g99,if_neg g106] at hr
       refine Qe ?_
       refine Zb 119 Y Y Y (op_mayc (xs:=[.tmp 118,.const (.string ⟨#[58]⟩)]) (i:=4) Y Y Y (may_c b L hL p2 kColon) by3 ?_ ?_)
       ·intro g119
        refine Qb1 ?_
        have ka:=(Zw kx g119).ok kx
        have HT:=typeP_c b L hL n _ ka
        have k8:=(typeP_adv ka).ok ka
        have H8:=take_c b L hL _ k8.1 7 kRP
        rw [if_pos g119] at hr
        obtain ⟨⟨⟨wk,ws,wn,wl⟩,p3⟩,e3⟩:∃ r,typeP L (stepP p2)=r:=⟨_,rfl⟩
        rw [e3] at HT H8 hr
        simp only [Ty.cells] at HT H8 hr
        refine Ya [0,2,3,4,5,1,6,7] [1,7] [[],[0],[],[2],[],[4],[0,1,2,3,4,5],[0,1,2,3,4,5,6]] tmix Y ?_
        refine Qp ?_
        refine Qc9 ?_
        refine Zh 123 (none) (i:=3) Y Y Y Y Y (Zd (xs:=[.tmp 122]) Xa Y Y Y Y Y Y (Xm Y) ⟨Y,Y⟩) ?_
        refine QB ?_
        refine Zh 125 (some 2) (i:=5) Y Y Y Y Y (Yn (i:=0) Y ta_3 Y Y Y ⟨Y,Y⟩) ?_
        refine Zs 4 (i:=1) Y Y Y Y Y (Zf (xs:=[.tmp 120]) (i:=0) Y Y Y (HT) by3 ⟨_,Y,?_⟩)
        refine Zh 126 (none) (i:=6) Y Y Y Y Y (Zk (ns:=[0,3,4,7]) (xs:=[.const (.int .i64 12),.tmp 121,.tmp 123,.tmp 125]) Y tz_58 Y tfl_58 Y Y Y Y ⟨Y,Y⟩) ?_
        refine QcL ?_
        show AGo _ _ _ _ _ _ _
        refine QaS ?_
        first|have H9:=H8|have H9:=take_c b L hL p2 kx.1 7 kRP
        refine Qe ?_
        refine Zb 128 Y Y Y (Zf (xs:=[.tmp 127,.const (.int .i64 7),.const (.string ⟨#[41]⟩)]) (i:=4) Y Y Y (H9) by3 ?_)
        refine QA ?_
        refine Qak ?_
        refine Qdl ?_
        refine Ql ?_
        subst hr;exact Zn (i:=3) rfl rfl rfl Yf rfl by2 (Xd _ (Xd _ (Xd _ (Xd _ (Xf rfl))))) ⟨rfl,rfl⟩
       intro g119
       refine Qa ?_
       refine Q7 ?_
       first|have H9:=H8|have H9:=take_c b L hL p2 kx.1 7 kRP
       refine Qe ?_
       refine Zb 128 Y Y Y (Zf (xs:=[.tmp 127,.const (.int .i64 7),.const (.string ⟨#[41]⟩)]) (i:=4) Y Y Y (H9) by3 ?_)
       refine QA ?_
       refine Qak ?_
       refine Qdl ?_
       refine Ql ?_
       rw [if_neg g119] at hr;subst hr;exact Zn (i:=3) rfl rfl rfl Yf rfl by2 (Xd _ (Xd _ (Xd _ (Xd _ (Xf rfl))))) ⟨rfl,rfl⟩
      refine QaP ?_
      refine Zb 108 Y Y Y (Zf (xs:=[.tmp 107,.const (.int .i64 5),.const (.string ⟨#[]⟩)]) (i:=3) Y Y Y (H5) by3 ?_)
      refine Qz ?_;intro b7
      refine Q6 ?_
      refine Qt ?_
      refine Zb 110 Y Y Y (Zf (xs:=[.tmp 109,.const (.int .i64 7),.const (.string ⟨#[41]⟩)]) (i:=4) Y Y Y (take_c b L hL p5 k5.1 7 kRP) by3 ?_)
      refine Qbq ?_
      refine Qu ?_
      refine QcF ?_
      refine Zb 115 Y Y Y (Zk (ns:=[0,1,7]) (xs:=[.const (.int .i64 3),.tmp 112,.tmp 114]) Y tz_58 Y tfl_58 Y Y Y Y ?_)
      refine Qdl ?_
      refine Ql ?_
      rw [if_neg g99,if_pos g106] at hr;subst hr;exact Zn (i:=3) rfl rfl rfl Yf rfl by2 (Xd _ (Xd _ (Xd _ (Xd _ (Xf rfl))))) ⟨rfl,rfl⟩
     exact absurd g48 by17
    exact absurd g41 h4
   exact absurd g33 h3
  exact absurd g25 h2
 exact absurd g17 h1
theorem atom_c (b:Nat) (L:List Tok) (hL:L.length≤100000) (n:Nat) (E:PS→Ex × PS) (HE:ExC b L n E) (HA:∀ q,POk L n q→Adv L q (E q).2) (p:PS) (k:POk L n p):MCall Tryz.prog 95 [.ptr b 0] (.loc b (psC L p)) (.agg (atomG L E p).1.cells) (.loc b (psC L (atomG L E p).2)):=by
 by_cases h1:(nxt L p).k=1
 ·exact atom_lit b L hL n E p k (.inl h1)
 by_cases h2:(nxt L p).k=2
 ·exact atom_lit b L hL n E p k (.inr (.inl h2))
 by_cases h3:(nxt L p).k=3
 ·exact atom_lit b L hL n E p k (.inr (.inr (.inl h3)))
 by_cases h4:(nxt L p).k=4
 ·exact atom_lit b L hL n E p k (.inr (.inr (.inr h4)))
 by_cases h5:isP L p kCase=true
 ·rw [atomG,if_neg h1,if_neg h2,if_neg h3,if_neg h4,if_pos h5];exact atom_case b L hL n E HE HA p k h1 h2 h3 h4 h5
 exact atom_par b L hL n E HE HA p k h1 h2 h3 h4 h5 _ (by rw [atomG,if_neg h1,if_neg h2,if_neg h3,if_neg h4,if_neg h5])
theorem may_eq {b:Nat} {L:List Tok} (hL:L.length≤100000) {p:PS} {s:ByteArray} {c:Bool} (h:isP L p s=c):MCall Tryz.prog 14 [.ptr b 0,.val (.string s)] (.loc b (psC L p)) (.val (.bool c)) (.loc b (psC L (if c=true then stepP p else p))):=by
 cases c with
 | true=>exact may_yes hL h
 | false=>exact may_no hL (by rw [h];simp)
theorem operand_lam (b:Nat) (L:List Tok) (hL:L.length≤100000) (n:Nat) (E:PS→Ex × PS) (HE:ExC b L n E) (p:PS) (k:POk L n p) (h1:isP L p kBack=true):MCall Tryz.prog 72 [.ptr b 0] (.loc b (psC L p)) (.agg (lambdaG L E (L.length+1) (stepP p) (nxt L p).a).1.cells) (.loc b (psC L (lambdaG L E (L.length+1) (stepP p) (nxt L p).a).2)):=by
 have HN:=next_c b L p
 have HL:=lambda_c b L hL n E HE (L.length+1) (stepP p) (nxt L p).a ((Zw k h1).ok k) by18
 obtain ⟨⟨tk,tt,tn,ta⟩,ht⟩:∃ t,nxt L p=t:=⟨_,rfl⟩
 rw [ht] at HN HL ⊢
 simp only [Tok.av] at HN HL ⊢
 obtain ⟨⟨⟨xk,xs,xn,⟨xtk,xts,xtn,xtl⟩,xks,xal,xbs,xp⟩,p3⟩,e3⟩:∃ r,lambdaG L E (L.length+1) (stepP p) ta=r:=⟨_,rfl⟩
 rw [e3] at HL ⊢
 simp only [Ex.cells,Ty.cells,List.cons_append,List.nil_append] at HL ⊢
 refine QdN ?_
 refine Qbr ?_;intro b2
 refine Qt ?_
 refine Zb 10 Y Y Y (Yi (xs:=[.tmp 9]) [1] Y Y Y (HN) by3 ?_)
 refine Qz ?_;intro b3
 refine QbX ?_
 refine Zb 12 Y Y Y (Zf (xs:=[.tmp 11,.const (.string ⟨#[92]⟩)]) (i:=2) Y Y Y (may_yes hL h1) by3 ?_)
 refine Qa ?_
 refine QaP ?_
 refine Qar ?_
 refine Zb 16 Y Y Y (Zf (xs:=[.tmp 13,.tmp 15]) (i:=2) Y Y Y (HL) by3 ?_)
 refine QbJ ?_
 refine Ql ?_
 exact Zn (i:=1) Y Y Y Yf Y (Xg _) (Xd _ (Xd _ (Xf Y))) ⟨Y,Y⟩
theorem bindsL_go {L:List Tok} {E:PS→Ex × PS} {f:Nat} {p:PS} {acc:List Bi} (h:isP L p kAnd=true):bindsL L E (f+1) p acc=bindsL L E f (bindG L E (stepP p)).2 (acc++[(bindG L E (stepP p)).1]):=by rw [bindsL,if_pos h]
theorem bindsL_end {L:List Tok} {E:PS→Ex × PS} {f:Nat} {p:PS} {acc:List Bi} (h:¬ isP L p kAnd=true):bindsL L E f p acc=(acc,p):=by
 cases f with
 | zero=>rfl
 | succ f=>rw [bindsL,if_neg h]
theorem operand_let (b:Nat) (L:List Tok) (hL:L.length≤100000) (n:Nat) (E:PS→Ex × PS) (HE:ExC b L n E) (HA:∀ q,POk L n q→Adv L q (E q).2) (p:PS) (k:POk L n p) (h1:¬ isP L p kBack=true) (h2:isP L p kLet=true) (c23:Bool) (h3:isP L (stepP p) kRec=c23) (r:Ex × PS) (hr:letG L E (nxt L p).a (if c23=true then 1 else 0) (if c23=true then stepP (stepP p) else stepP p)=r):MCall Tryz.prog 72 [.ptr b 0] (.loc b (psC L p)) (.agg r.1.cells) (.loc b (psC L r.2)):=by
 have HN:=next_c b L p
 have k1:=(Zw k h2).ok k
 have HM:=may_eq (b:=b) hL h3
 have kq:POk L n (if c23=true then stepP (stepP p) else stepP p):=by
  cases c23 with
  | true=>exact (Zw k1 h3).ok k1
  | false=>exact k1
 obtain ⟨⟨tk,tt,tn,ta⟩,ht⟩:∃ t,nxt L p=t:=⟨_,rfl⟩
 rw [ht] at HN hr
 simp only [Tok.av] at HN hr
 obtain ⟨p2,hp2⟩:∃ q,(if c23=true then stepP (stepP p) else stepP p)=q:=⟨_,rfl⟩
 rw [hp2] at HM hr kq
 unfold letG at hr
 simp only [] at hr
 have HB:=bind_c b L hL n E HE p2 kq
 have k3:=(bindG_adv HA kq).ok kq
 obtain ⟨⟨⟨bn,⟨xk,xs,xn,⟨xtk,xts,xtn,xtl⟩,xks,xal,xbs,xp⟩,bp⟩,p3⟩,e3⟩:∃ r,bindG L E p2=r:=⟨_,rfl⟩
 rw [e3] at HB hr k3
 have k4:=(bindsL_adv HA (L.length+1) p3 [Bi.mk bn (Ex.mk xk xs xn (Ty.mk xtk xts xtn xtl) xks xal xbs xp) bp] k3).ok k3
 obtain ⟨⟨bl,p4⟩,e4⟩:∃ r,bindsL L E (L.length+1) p3 [Bi.mk bn (Ex.mk xk xs xn (Ty.mk xtk xts xtn xtl) xks xal xbs xp) bp]=r:=⟨_,rfl⟩
 simp only [] at hr k3
 rw [e4] at hr k4
 simp only [] at hr k4
 have H4:=take_c b L hL p4 k4.1 6 kIn
 have k5:=(Zj (kind:=6) (s:=kIn) by17 k4).ok k4
 obtain ⟨⟨u5,p5⟩,e5⟩:∃ r,takeP L p4 6 kIn=r:=⟨_,rfl⟩
 rw [e5] at hr k5 H4
 simp only [] at hr k5 H4
 have HX:=HE p5 k5
 obtain ⟨⟨⟨yk,ys,yn,⟨ytk,yts,ytn,ytl⟩,yks,yal,ybs,yp⟩,p6⟩,e6⟩:∃ r,E p5=r:=⟨_,rfl⟩
 rw [e6] at HX hr
 simp only [Bi.cells,Ex.cells,Ty.cells,List.cons_append,List.nil_append] at HB HX hr
 refine QdN ?_
 refine Qbr ?_;intro b2
 refine Qt ?_
 refine Zb 10 Y Y Y (Yi (xs:=[.tmp 9]) [1] Y Y Y (HN) by3 ?_)
 refine Qz ?_;intro b3
 refine QbX ?_
 refine Zb 12 Y Y Y (Zf (xs:=[.tmp 11,.const (.string ⟨#[92]⟩)]) (i:=2) Y Y Y (may_no hL h1) by3 ?_)
 refine Qa ?_
 refine QaB ?_
 refine Zb 18 Y Y Y (Zf (xs:=[.tmp 17,.const (.string ⟨#[108,101,116]⟩)]) (i:=2) Y Y Y (may_yes hL h2) by3 ?_)
 refine Qb1 ?_
 refine Qbo ?_
 refine Zb 21 Y Y Y (Zk (ns:=[0,7]) (xs:=[.const (.int .i64 7),.tmp 20]) Y tz_58 Y tfl_58 Y Y Y Y ?_)
 refine QI ?_;intro b4
 refine QS ?_
 refine Q2 ?_
 refine Zb 23 Y Y Y (Zf (xs:=[.tmp 22,.const (.string ⟨#[114,101,99]⟩)]) (i:=3) Y Y Y (HM) by3 ?_)
 refine Qa ?_
 apply c_joink (rg [(1,1),(9,16),(42,1),(56,1),(60,1)]) (σ:=Unit) (fun zz=>match zz with|z=>[]) (fun zz=>match zz with|z=>[.loc b4 [.val (.int .i64 7),.val (.string kE),.val (.int .i64 (if c23=true then 1 else 0)),.val (.int .i64 0),.val (.string kE),.val (.int .i64 0),.val (.slice none 0 0),.val (.slice none 0 0),.val (.slice none 0 0),.val (.slice none 0 0),.val (.int .i64 ta)],.loc b3 (Tok.mk tk tt tn ta).av,.loc b2 zEx,.loc b (psC L p2)]) (fun zz=>match zz with|z=>True)
 ·repeat' (first|exact Xp|apply Xn rfl|apply Xo rfl)
 ·skip
  rcases c23 with _|_
  ·refine Qbx ?_
   exact ⟨(),trivial,by6,Xf Y⟩
  refine Qh ?_
  refine QaX ?_
  refine Qe6 ?_
  refine Qac ?_
  refine go_lp ?_
  exact ⟨(),trivial,by6,Xf Y⟩
 rintro z hI
 try dsimp only [List.cons_append,List.nil_append] at hI ⊢
 refine QaS ?_
 refine Qby ?_
 refine Zs 3 (i:=3) Y Y Y Y Y (Zf (xs:=[.tmp 27]) (i:=0) Y Y Y (HB) by3 ⟨_,Y,?_⟩)
 refine Zh 29 (none) (i:=4) Y Y Y Y Y (Zd (xs:=[.tmp 28]) el_26 Y Y Y Y Y Y (Xm Y) ⟨Y,Y⟩) ?_
 refine EOps.nw (i:=5) Y Y Y (op_append_nil el_26 Y Y Y (.seq _ _) by8 (fun u30=>⟨_,Y,?_⟩))
 refine QB ?_
 refine Qe9 ?_
 show AGo _ _ _ _ _ _ _
 refine Qc ?_
 refine Qa6 ?_
 apply Ye (rg [(1,1),(9,32),(42,1),(56,1),(60,1)]) (σ:=PS × Nat × List Bi × Value) (fun zz=>match zz with|(q,f,acc,u)=>[]) (fun zz=>match zz with|(q,f,acc,u)=>[.loc b4 [.val (.int .i64 7),.val (.string kE),.val (.int .i64 (if c23=true then 1 else 0)),.val (.int .i64 0),.val (.string kE),.val (.int .i64 0),.val (.slice none 0 0),.val (.slice none 0 0),.val (.slice none 0 0),.own u 13 (Bi.cellss acc),.val (.int .i64 ta)],.loc b3 (Tok.mk tk tt tn ta).av,.loc b2 zEx,.loc b (psC L q),.own 60 13 u]) (fun zz=>match zz with|(q,f,acc,u)=>POk L n q∧L.length - q.at_<f∧acc.length≤q.at_+1∧bindsL L E f q acc=(bl,p4)) (fun zz=>match zz with|(q,f,acc,u)=>f) ((p3,L.length+1,[Bi.mk bn (Ex.mk xk xs xn (Ty.mk xtk xts xtn xtl) xks xal xbs xp) bp],u30))
 ·repeat' (first|exact Xp|apply Xn rfl|apply Xo rfl)
 ·exact ⟨k3,by omega,by simp,e4⟩
 ·exact by6
 ·exact (Xf Y)
 rintro ⟨q,f,acc,u⟩ hI
 try dsimp only [List.cons_append,List.nil_append] at hI ⊢
 obtain ⟨i1,i2,i3,hu⟩:=hI
 have hq1:=i1.1
 have hle:(Bi.cellss acc).length≤200000:=by rw [Bi.cellss_len];omega
 refine Qw ?_
 refine Zb 33 Y Y Y (op_mayc (xs:=[.tmp 32,.const (.string ⟨#[97,110,100]⟩)]) (i:=3) Y Y Y (may_c b L hL q kAnd) by3 ?_ ?_)
 ·intro g33
  refine Qa ?_
  refine Qab ?_
  obtain ⟨f,rfl⟩:∃ f',f=f'+1:=⟨f - 1,by omega⟩
  rw [bindsL_go g33] at hu
  have l1:=(Zw i1 g33).ok i1
  have l2:=(bindG_adv HA l1).ok l1
  have b2':(stepP q).at_≤_:=(bindG_adv HA l1).1
  have b4':(stepP q).at_=q.at_+1:=rfl
  have b5':=(is_lt g33).2
  have HB2:=bind_c b L hL n E HE _ l1
  obtain ⟨⟨⟨cn,⟨wk,ws,wn,⟨wtk,wts,wtn,wtl⟩,wks,wal,wbs,wp⟩,cp⟩,q2⟩,f2⟩:∃ r,bindG L E (stepP q)=r:=⟨_,rfl⟩
  rw [f2] at HB2 hu l2 b2'
  simp only [Bi.cells,Ex.cells,Ty.cells,List.cons_append,List.nil_append] at HB2 hu l2 b2'
  have l3:=l2.1
  refine Qby ?_
  refine Zs 3 (i:=3) Y Y Y Y Y (Zf (xs:=[.tmp 36]) (i:=0) Y Y Y (HB2) by3 ⟨_,Y,?_⟩)
  refine Zh 38 (none) (i:=4) Y Y Y Y Y (Zd (xs:=[.tmp 37]) el_26 Y Y Y Y Y Y (Xm Y) ⟨Y,Y⟩) ?_
  refine Zs 4 (i:=5) Y Y Y Y Y (Zr (i:=0) el_26 Y Y Y Y (.seq _ _) by8 (fun u39=>⟨_,Y,?_⟩))
  refine QB ?_
  refine Qe9 ?_
  show AGo _ _ _ _ _ _ _
  refine Qbn ?_
  refine ⟨(q2,f,acc++[Bi.mk cn (Ex.mk wk ws wn (Ty.mk wtk wts wtn wtl) wks wal wbs wp) cp],u39),⟨l2,(by show L.length - q2.at_<f;omega),(by show (acc++[Bi.mk cn (Ex.mk wk ws wn (Ty.mk wtk wts wtn wtl) wks wal wbs wp) cp]).length≤q2.at_+1;rw [List.length_append];simp;omega),hu⟩,Nat.lt_succ_self f,by6,(Xe _ (Xi (Xg _) (Xi (Xg _) (Xi (Xg _) (Xi (Xg _) (Xi (Xg _) (Xi (Xg _) (Xi (Xg _) (Xi (Xg _) (Xi (Xg _) (Xi (Xl by11) (Xh _))))))))))) (Xc _ (Xc _ (Xf Y))))⟩
 intro g33
 refine Qa ?_
 refine QE ?_
 rw [bindsL_end g33] at hu
 simp only [Prod.mk.injEq] at hu
 obtain ⟨rfl,rfl⟩:=hu
 refine Qe ?_
 refine Zb 42 Y Y Y (Zf (xs:=[.tmp 41,.const (.int .i64 6),.const (.string ⟨#[105,110]⟩)]) (i:=3) Y Y Y (H4) by3 ?_)
 refine Qv ?_
 refine Qby ?_
 refine Zs 3 (i:=3) Y Y Y Y Y (Zf (xs:=[.tmp 45]) (i:=0) Y Y Y (HX) by3 ⟨_,Y,?_⟩)
 refine Zh 47 (none) (i:=4) Y Y Y Y Y (Zd (xs:=[.tmp 46]) Xa Y Y Y Y Y Y (Xm Y) ⟨Y,Y⟩) ?_
 refine EOps.nw (i:=5) Y Y Y (op_append_nil Xa Y Y Y (.seq _ _) by8 (fun u48=>⟨_,Y,?_⟩))
 refine QB ?_
 refine Qdm ?_
 show AGo _ _ _ _ _ _ _
 refine Qc ?_
 refine Qo ?_
 refine Qak ?_
 refine Qca ?_
 refine Ql ?_
 subst hr;exact Zn (i:=2) rfl rfl rfl Yf rfl by2 (Xd _ (Xd _ (Xd _ (Xc _ (Xb _))))) ⟨rfl,rfl⟩
theorem operand_if (b:Nat) (L:List Tok) (hL:L.length≤100000) (n:Nat) (E:PS→Ex × PS) (HE:ExC b L n E) (HA:∀ q,POk L n q→Adv L q (E q).2) (p:PS) (k:POk L n p) (h1:¬ isP L p kBack=true) (h2:¬ isP L p kLet=true) (h3:isP L p kIf=true):MCall Tryz.prog 72 [.ptr b 0] (.loc b (psC L p)) (.agg (ifG L E (nxt L p).a (stepP p)).1.cells) (.loc b (psC L (ifG L E (nxt L p).a (stepP p)).2)):=by
 have HN:=next_c b L p
 obtain ⟨r,hr⟩:∃ r,ifG L E (nxt L p).a (stepP p)=r:=⟨_,rfl⟩
 rw [hr]
 unfold ifG at hr
 simp only [] at hr
 obtain ⟨⟨tk,tt,tn,ta⟩,ht⟩:∃ t,nxt L p=t:=⟨_,rfl⟩
 rw [ht] at HN hr
 simp only [Tok.av] at HN hr
 have k1:=(Zw k h3).ok k
 have H1:=HE _ k1
 have k2:=(HA _ k1).ok k1
 obtain ⟨⟨⟨xk,xs,xn,⟨xtk,xts,xtn,xtl⟩,xks,xal,xbs,xp⟩,p2⟩,e2⟩:∃ r,E (stepP p)=r:=⟨_,rfl⟩
 rw [e2] at H1 k2 hr
 simp only [] at k2 hr
 have H2:=take_c b L hL p2 k2.1 6 kThen
 have k3:=(Zj (kind:=6) (s:=kThen) by17 k2).ok k2
 obtain ⟨⟨u3,p3⟩,e3⟩:∃ r,takeP L p2 6 kThen=r:=⟨_,rfl⟩
 rw [e3] at H2 k3 hr
 simp only [] at H2 k3 hr
 have H3:=HE _ k3
 have k4:=(HA _ k3).ok k3
 obtain ⟨⟨⟨yk,ys,yn,⟨ytk,yts,ytn,ytl⟩,yks,yal,ybs,yp⟩,p4⟩,e4⟩:∃ r,E p3=r:=⟨_,rfl⟩
 rw [e4] at H3 k4 hr
 simp only [] at k4 hr
 have H4:=take_c b L hL p4 k4.1 6 kElse
 have k5:=(Zj (kind:=6) (s:=kElse) by17 k4).ok k4
 obtain ⟨⟨u5,p5⟩,e5⟩:∃ r,takeP L p4 6 kElse=r:=⟨_,rfl⟩
 rw [e5] at H4 k5 hr
 simp only [] at H4 k5 hr
 have H5:=HE _ k5
 obtain ⟨⟨⟨zk,zs,zn,⟨ztk,zts,ztn,ztl⟩,zks,zal,zbs,zp⟩,p6⟩,e6⟩:∃ r,E p5=r:=⟨_,rfl⟩
 rw [e6] at H5 hr
 simp only [Ex.cells,Ty.cells,List.cons_append,List.nil_append] at H1 H3 H5 hr
 refine QdN ?_
 refine Qbr ?_;intro b2
 refine Qt ?_
 refine Zb 10 Y Y Y (Yi (xs:=[.tmp 9]) [1] Y Y Y (HN) by3 ?_)
 refine Qz ?_;intro b3
 refine QbX ?_
 refine Zb 12 Y Y Y (Zf (xs:=[.tmp 11,.const (.string ⟨#[92]⟩)]) (i:=2) Y Y Y (may_no hL h1) by3 ?_)
 refine Qa ?_
 refine QaB ?_
 refine Zb 18 Y Y Y (Zf (xs:=[.tmp 17,.const (.string ⟨#[108,101,116]⟩)]) (i:=2) Y Y Y (may_no hL h2) by3 ?_)
 refine Qa ?_
 refine QaB ?_
 refine Zb 52 Y Y Y (Zf (xs:=[.tmp 51,.const (.string ⟨#[105,102]⟩)]) (i:=2) Y Y Y (may_yes hL h3) by3 ?_)
 refine Qa ?_
 refine QaP ?_
 refine Zb 54 Y Y Y (Zf (xs:=[.tmp 53]) (i:=2) Y Y Y (H1) by3 ?_)
 refine QI ?_;intro b5
 refine QS ?_
 refine Qt ?_
 refine Zb 56 Y Y Y (Zf (xs:=[.tmp 55,.const (.int .i64 6),.const (.string ⟨#[116,104,101,110]⟩)]) (i:=3) Y Y Y (H2) by3 ?_)
 refine Qt ?_
 refine Zb 58 Y Y Y (Zf (xs:=[.tmp 57]) (i:=3) Y Y Y (H3) by3 ?_)
 refine QI ?_;intro b6
 refine QS ?_
 refine Qt ?_
 refine Zb 60 Y Y Y (Zf (xs:=[.tmp 59,.const (.int .i64 6),.const (.string ⟨#[101,108,115,101]⟩)]) (i:=4) Y Y Y (H4) by3 ?_)
 refine Qt ?_
 refine Zb 62 Y Y Y (Zf (xs:=[.tmp 61]) (i:=4) Y Y Y (H5) by3 ?_)
 refine QI ?_;intro b7
 refine QS ?_
 refine QA ?_
 refine QdM ?_
 refine Qc7 ?_
 refine Qak ?_
 refine Zb 66 Y Y Y (Zd (xs:=[.tmp 63,.tmp 64,.tmp 65]) Xa Y Y Y Y Y Y (Xm Y) ?_)
 refine Qu ?_
 refine Qb9 ?_
 refine Zb 69 Y Y Y (Zk (ns:=[0,4,7]) (xs:=[.const (.int .i64 9),.tmp 66,.tmp 68]) Y tz_58 Y tfl_58 Y Y Y Y ?_)
 refine Qe4 ?_
 refine Ql ?_
 subst hr;exact Zn (i:=4) rfl rfl rfl Yf rfl by2 (Xd _ (Xd _ (Xd _ (Xd _ (Xd _ (Xf rfl)))))) ⟨rfl,rfl⟩
theorem appsL_go {L:List Tok} {E:PS→Ex × PS} {a:Int} {f:Nat} {p:PS} {x:Ex} (h:startsP L 2 p):appsL L E a (f+1) p x=appsL L E a f (atomG L E p).2 (opE 5 [x,(atomG L E p).1] a):=by rw [appsL,if_pos h]
theorem appsL_end {L:List Tok} {E:PS→Ex × PS} {a:Int} {f:Nat} {p:PS} {x:Ex} (h:¬ startsP L 2 p):appsL L E a f p x=(x,p):=by
 cases f with
 | zero=>rfl
 | succ f=>rw [appsL,if_neg h]
theorem operand_app (b:Nat) (L:List Tok) (hL:L.length≤100000) (n:Nat) (E:PS→Ex × PS) (HE:ExC b L n E) (HA:∀ q,POk L n q→Adv L q (E q).2) (p:PS) (k:POk L n p) (h1:¬ isP L p kBack=true) (h2:¬ isP L p kLet=true) (h3:¬ isP L p kIf=true) (r:Ex × PS) (hr:appsL L E (nxt L p).a (L.length+1) (atomG L E p).2 (atomG L E p).1=r):MCall Tryz.prog 72 [.ptr b 0] (.loc b (psC L p)) (.agg r.1.cells) (.loc b (psC L r.2)):=by
 have HN:=next_c b L p
 obtain ⟨⟨tk,tt,tn,ta⟩,ht⟩:∃ t,nxt L p=t:=⟨_,rfl⟩
 rw [ht] at HN hr
 simp only [Tok.av] at HN hr
 have H1:=atom_c b L hL n E HE HA p k
 have k2:=(atom_adv HA k).ok k
 obtain ⟨⟨⟨zk,zs,zn,⟨ztk,zts,ztn,ztl⟩,zks,zal,zbs,zp⟩,p2⟩,e2⟩:∃ r,atomG L E p=r:=⟨_,rfl⟩
 rw [e2] at H1 k2 hr
 simp only [Ex.cells,Ty.cells,List.cons_append,List.nil_append] at H1 k2 hr
 refine QdN ?_
 refine Qbr ?_;intro b2
 refine Qt ?_
 refine Zb 10 Y Y Y (Yi (xs:=[.tmp 9]) [1] Y Y Y (HN) by3 ?_)
 refine Qz ?_;intro b3
 refine QbX ?_
 refine Zb 12 Y Y Y (Zf (xs:=[.tmp 11,.const (.string ⟨#[92]⟩)]) (i:=2) Y Y Y (may_no hL h1) by3 ?_)
 refine Qa ?_
 refine QaB ?_
 refine Zb 18 Y Y Y (Zf (xs:=[.tmp 17,.const (.string ⟨#[108,101,116]⟩)]) (i:=2) Y Y Y (may_no hL h2) by3 ?_)
 refine Qa ?_
 refine QaB ?_
 refine Zb 52 Y Y Y (Zf (xs:=[.tmp 51,.const (.string ⟨#[105,102]⟩)]) (i:=2) Y Y Y (may_no hL h3) by3 ?_)
 refine Qa ?_
 refine QY ?_
 refine Zb 71 Y Y Y (Zf (xs:=[.tmp 70]) (i:=2) Y Y Y (H1) by3 ?_)
 refine QI ?_;intro b8
 refine QS ?_
 refine Qbh ?_
 apply Ye (rg [(1,1),(4,4),(9,49),(59,22)]) (σ:=PS × Nat × Ex) (fun zz=>match zz with|(q,f,Ex.mk xk xs xn (Ty.mk xtk xts xtn xtl) xks xal xbs xp)=>[]) (fun zz=>match zz with|(q,f,Ex.mk xk xs xn (Ty.mk xtk xts xtn xtl) xks xal xbs xp)=>[.loc b8 [.val (.int .i64 xk),.val (.string xs),.val (.int .i64 xn),.val (.int .i64 xtk),.val (.string xts),.val (.int .i64 xtn),.seq 4 (Ty.cellss xtl),.seq 11 (Ex.cellss xks),.seq 16 (Al.cellss xal),.seq 13 (Bi.cellss xbs),.val (.int .i64 xp)],.loc b3 (Tok.mk tk tt tn ta).av,.loc b2 zEx,.loc b (psC L q)]) (fun zz=>match zz with|(q,f,Ex.mk xk xs xn (Ty.mk xtk xts xtn xtl) xks xal xbs xp)=>POk L n q∧L.length - q.at_<f∧appsL L E ta f q (Ex.mk xk xs xn (Ty.mk xtk xts xtn xtl) xks xal xbs xp)=r) (fun zz=>match zz with|(q,f,Ex.mk xk xs xn (Ty.mk xtk xts xtn xtl) xks xal xbs xp)=>f) ((p2,L.length+1,Ex.mk zk zs zn (Ty.mk ztk zts ztn ztl) zks zal zbs zp))
 ·repeat' (first|exact Xp|apply Xn rfl|apply Xo rfl)
 ·exact ⟨k2,by omega,hr⟩
 ·exact by6
 ·exact (Xf Y)
 rintro ⟨q,f,⟨xk,xs,xn,⟨xtk,xts,xtn,xtl⟩,xks,xal,xbs,xp⟩⟩ hI
 try dsimp only [List.cons_append,List.nil_append] at hI ⊢
 obtain ⟨i1,i2,hu⟩:=hI
 have hq1:=i1.1
 refine Qw ?_
 refine Zb 73 Y Y Y (op_callkb (xs:=[.tmp 72,.const (.int .i64 2)]) [3] Y Y Y (starts_c b L q 2) by3 ?_);intro c73 h73
 refine Qa ?_
 obtain ⟨rfl,g73⟩|⟨rfl,g73⟩:=Za h73
 ·refine QaE ?_
  refine Qo ?_
  refine Qak ?_
  refine Qca ?_
  refine Ql ?_
  rw [appsL_end g73] at hu;subst hu;exact Zn (i:=2) rfl rfl rfl Yf rfl (Xg _) (Xd _ (Xd _ (Xd _ (Xf rfl)))) ⟨rfl,rfl⟩
 refine Qab ?_
 obtain ⟨f,rfl⟩:∃ f',f=f'+1:=⟨f - 1,by omega⟩
 rw [appsL_go g73] at hu
 have b1:=atom_lt HA i1 g73
 have l2:=(atom_adv HA i1).ok i1
 have HA2:=atom_c b L hL n E HE HA q i1
 obtain ⟨⟨⟨wk,ws,wn,⟨wtk,wts,wtn,wtl⟩,wks,wal,wbs,wp⟩,q2⟩,f2⟩:∃ r,atomG L E q=r:=⟨_,rfl⟩
 rw [f2] at HA2 hu l2 b1
 simp only [Ex.cells,Ty.cells,List.cons_append,List.nil_append] at HA2 hu l2 b1
 have l3:=l2.1
 refine Ya [0,1,4,5,2,3,6,7] [2,7] [[],[],[1],[0,1,2],[],[4],[0,1,2,3,4,5],[0,1,2,3,4,5,6]] tmix Y ?_
 refine Qc9 ?_
 refine Qp ?_
 refine Qcw ?_
 refine Zs 3 (i:=2) Y Y Y Y Y (Zf (xs:=[.tmp 75]) (i:=0) Y Y Y (HA2) by3 ⟨_,Y,?_⟩)
 refine Zh 77 (none) (i:=3) Y Y Y Y Y (Zd (xs:=[.tmp 74,.tmp 76]) Xa Y Y Y Y Y Y (Xm Y) ⟨Y,Y⟩) ?_
 refine Zh 80 (none) (i:=6) Y Y Y Y Y (Zk (ns:=[0,4,7]) (xs:=[.const (.int .i64 5),.tmp 77,.tmp 79]) Y tz_58 Y tfl_58 Y Y Y Y ⟨Y,Y⟩) ?_
 refine QcL ?_
 show AGo _ _ _ _ _ _ _
 refine Qbn ?_
 refine ⟨(q2,f,Ex.mk 5 kE 0 (Ty.mk 0 kE 0 []) [Ex.mk xk xs xn (Ty.mk xtk xts xtn xtl) xks xal xbs xp,Ex.mk wk ws wn (Ty.mk wtk wts wtn wtl) wks wal wbs wp] [] [] ta),⟨l2,(by show L.length - q2.at_<f;omega),hu⟩,Nat.lt_succ_self f,by6,(Xe _ by2 (Xc _ (Xc _ (Xf Y))))⟩
theorem operand_c (b:Nat) (L:List Tok) (hL:L.length≤100000) (n:Nat) (E:PS→Ex × PS) (HE:ExC b L n E) (HA:∀ q,POk L n q→Adv L q (E q).2) (p:PS) (k:POk L n p):MCall Tryz.prog 72 [.ptr b 0] (.loc b (psC L p)) (.agg (operandG L E p).1.cells) (.loc b (psC L (operandG L E p).2)):=by
 unfold operandG
 by_cases h1:isP L p kBack=true
 ·rw [if_pos h1];exact operand_lam b L hL n E HE p k h1
 by_cases h2:isP L p kLet=true
 ·rw [if_neg h1,if_pos h2]
  by_cases h3:isP L (stepP p) kRec=true
  ·rw [if_pos h3];exact operand_let b L hL n E HE HA p k h1 h2 true h3 _ rfl
  rw [if_neg h3];exact operand_let b L hL n E HE HA p k h1 h2 false (by simpa using h3) _ rfl
 by_cases h3:isP L p kIf=true
 ·rw [if_neg h1,if_neg h2,if_pos h3];exact operand_if b L hL n E HE HA p k h1 h2 h3
 rw [if_neg h1,if_neg h2,if_neg h3];exact operand_app b L hL n E HE HA p k h1 h2 h3 _ rfl
theorem Exp_err (b:Nat) (L:List Tok) (p:PS) (he:p.e≠0):MCall Tryz.prog 44 [.ptr b 0] (.loc b (psC L p)) (.agg ex0.cells) (.loc b (psC L p)):=by
 refine Zc Tryz.func44 Y (by kernel_rfl) Y (Xm Y) ?_
 refine Qbr ?_;intro b2
 refine Q2 ?_
 refine Qcy ?_;intro c12 h12
 refine Qa ?_
 obtain ⟨rfl,g12⟩|⟨rfl,g12⟩:=Za h12
 ·exact absurd he g12
 refine Qag ?_
 refine Qeh ?_
 refine QcB ?_
 exact Zn (i:=0) Y Y Y Yf Y by2 (Xd _ (MLe.refl _)) ⟨Y,Y⟩
theorem clash_in (lv:Nat→Nat):∀ f k,clashL lv f k = -1∨((k:Int)≤clashL lv f k∧clashL lv f k<k+f)
 | 0,k=>.inl rfl
 | f+1,k=>by
  unfold clashL
  split
  ·right;omega
  rcases clash_in lv f (k+1) with h|h
  ·exact .inl h
  right;omega
theorem clashP_lt {ops:List Tok} (h:0≤clashP ops):(clashP ops).toNat<ops.length:=by
 rcases clash_in (lvT ops) ops.length 0 with q|q <;> unfold clashP at * <;> omega
theorem opsL_go {L:List Tok} {E:PS→Ex × PS} {f:Nat} {p:PS} {l:List Ex} {o:List Tok} (h:(nxt L p).k=5):opsL L E (f+1) p l o=opsL L E f (operandG L E (takeP L p 5 kE).2).2 (l++[(operandG L E (takeP L p 5 kE).2).1]) (o++[(takeP L p 5 kE).1]):=by rw [opsL,if_pos h]
theorem opsL_end {L:List Tok} {E:PS→Ex × PS} {f:Nat} {p:PS} {l:List Ex} {o:List Tok} (h:¬ (nxt L p).k=5):opsL L E f p l o=((l,o),p):=by
 cases f with
 | zero=>rfl
 | succ f=>rw [opsL,if_neg h]
theorem Exp_ok (b:Nat) (L:List Tok) (hL:L.length≤100000) (n:Nat) (E:PS→Ex × PS) (HE:ExC b L n E) (HA:∀ q,POk L n q→Adv L q (E q).2) (p:PS) (k:POk L (n+1) p) (he:p.e=0) (r:Ex × PS) (hr:joinE (opsL L E (L.length+1) (operandG L E (deeperP L p)).2 [(operandG L E (deeperP L p)).1] [])=r):MCall Tryz.prog 44 [.ptr b 0] (.loc b (psC L p)) (.agg r.1.cells) (.loc b (psC L r.2)):=by
 have kq:=deeper_ok k he
 have H1:=operand_c b L hL n E HE HA _ kq
 have k2:=(operand_adv HA kq).ok kq
 obtain ⟨⟨⟨zk,zs,zn,⟨ztk,zts,ztn,ztl⟩,zks,zal,zbs,zp⟩,p2⟩,e2⟩:∃ r,operandG L E (deeperP L p)=r:=⟨_,rfl⟩
 rw [e2] at H1 k2 hr
 simp only [] at k2 hr
 obtain ⟨⟨⟨yl,yo⟩,p4⟩,e4⟩:∃ r,opsL L E (L.length+1) p2 [Ex.mk zk zs zn (Ty.mk ztk zts ztn ztl) zks zal zbs zp] []=r:=⟨_,rfl⟩
 rw [e4] at hr
 unfold joinE at hr
 simp only [Ex.cells,Ty.cells,List.cons_append,List.nil_append] at H1 hr
 refine Zc Tryz.func44 Y (by kernel_rfl) Y (Xm Y) ?_
 refine Qbr ?_;intro b2
 refine Q2 ?_
 refine Qcy ?_;intro c12 h12
 refine Qa ?_
 obtain ⟨rfl,g12⟩|⟨rfl,g12⟩:=Za h12
 ·refine QY ?_
  refine Zb 15 Y Y Y (Zf (xs:=[.tmp 14]) (i:=1) Y Y Y (deeper_c b L p k.2.1 (by have:=k.2.2.1;omega)) by3 ?_)
  refine Qt ?_
  refine Zb 17 Y Y Y (Zf (xs:=[.tmp 16]) (i:=1) Y Y Y (H1) by3 ?_)
  refine Zb 18 Y Y Y (Yy (xs:=[.tmp 17]) Xa Y Y Y Y Y Y (Xm Y) ?_);intro u18
  refine Qf ?_
  refine QK ?_
  refine QK ?_
  refine Qa6 ?_
  refine Yb 72 4 (Yb 9 1 ?_)
  apply Ye (rg [(1,1),(3,4),(8,31),(55,1)]) (σ:=PS × Nat × List Ex × List Tok × Value × Value × Value) (fun zz=>match zz with|(q,f,l,ops,u,v,w)=>[(3,.own u 11 (Ex.cellss l)),(4,.own v 4 (ops.map Tok.av)),(5,.own w 1 (strs (ops.map Tok.t)))]) (fun zz=>match zz with|(q,f,l,ops,u,v,w)=>[.own 58 11 u,.loc b2 zEx,.loc b (psC L q),.own 72 4 v,.own 9 1 w]) (fun zz=>match zz with|(q,f,l,ops,u,v,w)=>POk L n q∧L.length - q.at_<f∧l.length=ops.length+1∧ops.length≤q.at_∧opsL L E f q l ops=((yl,yo),p4)) (fun zz=>match zz with|(q,f,l,ops,u,v,w)=>f) ((p2,L.length+1,[Ex.mk zk zs zn (Ty.mk ztk zts ztn ztl) zks zal zbs zp],[],u18,.slice none 0 0,.slice none 0 0))
  ·repeat' (first|exact Xp|apply Xn rfl|apply Xo rfl)
  ·exact ⟨k2,by omega,Y,Nat.zero_le _,e4⟩
  ·exact Xj Y (Xg _) (Xj Y (Le.nilOwn 4) (Xj Y (Le.nilOwn 1) (SLe.nil _)))
  ·exact (Xf Y)
  rintro ⟨q,f,l,ops,u,v,w⟩ hI
  try dsimp only [List.cons_append,List.nil_append] at hI ⊢
  obtain ⟨i1,i2,i3,i4,hu⟩:=hI
  have hq1:=i1.1
  have hb1:=i1.2.1
  have hb2:=i1.2.2.1
  have hl1:(Ex.cellss l).length≤200000:=by rw [Ex.cellss_len];omega
  have hl2:(ops.map Tok.av).length≤200000:=by rw [List.length_map];omega
  have hl3:(strs (ops.map Tok.t)).length≤200000:=by rw [Yz,List.length_map];omega
  have HN:=next_c b L q
  have hkn:(nxt L q).k=5→q.at_<L.length:=fun e=>(nxt_in by18).2
  have hgo:=fun f=>opsL_go (L:=L) (E:=E) (f:=f) (p:=q) (l:=l) (o:=ops)
  have hend:=opsL_end (L:=L) (E:=E) (f:=f) (p:=q) (l:=l) (o:=ops)
  have htk:=fun h:(nxt L q).k=5=>take_k (s:=kE) h by17 by17
  obtain ⟨⟨qk,qt,qn,qa⟩,hqt⟩:∃ t,nxt L q=t:=⟨_,rfl⟩
  rw [hqt] at HN hkn hgo hend htk
  simp only [Tok.av] at HN hkn hgo hend htk
  refine Qw ?_
  refine Zb 20 Y Y Y (Yi (xs:=[.tmp 19]) [2] Y Y Y (HN) by3 ?_)
  refine QcT ?_
  refine Qj ?_;intro c22 h22
  refine Qa ?_
  obtain ⟨rfl,g22⟩|⟨rfl,g22⟩:=Za h22
  ·refine Qbp ?_
   rw [hend g22] at hu
   simp only [Prod.mk.injEq] at hu
   obtain ⟨⟨rfl,rfl⟩,rfl⟩:=hu
   refine Qe ?_
   refine QbZ ?_
   refine Qao ?_;intro c43 h43
   refine Qa ?_
   obtain ⟨rfl,g43⟩|⟨rfl,g43⟩:=Za h43
   ·refine QY ?_
    refine Zb 46 Y Y Y (Ze (xs:=[.tmp 45]) Y Y (Clash_p ops by18) by3 ?_)
    refine Qcs ?_
    refine QcG ?_;intro c48 h48
    refine Qa ?_
    obtain ⟨rfl,g48⟩|⟨rfl,g48⟩:=Za h48
    ·refine QY ?_
     refine QbZ ?_
     refine QT ?_
     refine Qah ?_
     refine Qc5 ?_
     refine Qv ?_
     have HB:=Build_c l ops i3 by18 ops.length 0 ops.length (Nat.zero_le _) (Nat.le_refl _) by18
     rw [if_neg g43,if_neg g48] at hr
     obtain ⟨⟨wk,ws,wn,⟨wtk,wts,wtn,wtl⟩,wks,wal,wbs,wp⟩,f2⟩:∃ r,buildF l ops ops.length 0 ops.length=r:=⟨_,rfl⟩
     rw [f2] at HB hr
     simp only [Ex.cells,Ty.cells,List.cons_append,List.nil_append] at HB
     have hlen:(ops.map Tok.av).length=ops.length:=List.length_map _
     rw [show ((ops.length:Nat):Int)=(((ops.map Tok.av).length:Nat):Int) by rw [hlen]] at HB
     refine QF ?_
     refine Qb ?_
     refine Zb 67 Y Y Y (Yk Y tu_68 Y (.own _ _ _) (fun n67=>?_))
     refine Zb 68 Y Y Y (Ze (xs:=[.tmp 64,.tmp 65,.const (.int .i64 0),.tmp 67]) Y Y (HB) by3 ?_)
     refine QbJ ?_
     refine Ql ?_
     subst hr;exact Zn (i:=1) rfl rfl rfl Yf rfl by2 (Xd _ (Xd _ (Xc _ (Xb _)))) ⟨rfl,rfl⟩
    refine QaG ?_
    have hcl:=clashP_lt g48
    refine QF ?_
    refine Qb ?_
    refine Zb 52 Y Y Y (Zq (i:=(clashP ops).toNat) Y te_68 Y (.own _ _ _) Y by12 (toks_at hcl) ?_)
    refine Qy ?_
    refine Zb 55 Y Y Y (Zf (xs:=[.tmp 49,.const (.int .i64 112),.tmp 54]) (i:=2) Y Y Y (fail_c b L q 112 _) by3 ?_)
    refine QA ?_
    refine Qeh ?_
    refine QbJ ?_
    refine Ql ?_
    rw [if_neg g43,if_pos g48] at hr;subst hr;exact Zn (i:=1) rfl rfl rfl Yf rfl by2 (Xd _ (Xd _ (Xc _ (Xb _)))) ⟨rfl,rfl⟩
   refine Qag ?_
   refine Qeh ?_
   refine QbJ ?_
   refine Ql ?_
   rw [if_pos g43] at hr;subst hr;exact Zn (i:=1) rfl rfl rfl Yf rfl by2 (Xd _ (Xd _ (Xc _ (Xb _)))) ⟨rfl,rfl⟩
  refine Qab ?_
  refine QG ?_
  obtain ⟨f,rfl⟩:∃ f',f=f'+1:=⟨f - 1,by omega⟩
  have hlt:=hkn g22
  rw [hgo f g22,htk g22] at hu
  have HT:=take_c b L hL q hq1 5 kE
  rw [htk g22] at HT
  have l1:=(Yv i1 hlt).ok i1
  have HO:=operand_c b L hL n E HE HA _ l1
  have l2:=(operand_adv HA l1).ok l1
  have b1:(stepP q).at_≤_:=(operand_adv HA l1).1
  have b2':(stepP q).at_=q.at_+1:=rfl
  obtain ⟨⟨⟨wk,ws,wn,⟨wtk,wts,wtn,wtl⟩,wks,wal,wbs,wp⟩,q2⟩,f2⟩:∃ r,operandG L E (stepP q)=r:=⟨_,rfl⟩
  simp only [] at hu
  rw [f2] at HO l2 b1 hu
  simp only [Tok.av,Ex.cells,Ty.cells,List.cons_append,List.nil_append] at HT HO l2 b1 hu
  have l3:=l2.1
  refine Qe ?_
  refine Zb 24 Y Y Y (Zf (xs:=[.tmp 23,.const (.int .i64 5),.const (.string ⟨#[]⟩)]) (i:=2) Y Y Y (HT) by3 ?_)
  refine Qz ?_;intro b6
  refine Q6 ?_
  refine Qt ?_
  refine QbH ?_
  refine Zb 27 Y Y Y (Zd (xs:=[.tmp 26]) el_68 Y Y Y Y Y Y (Xm Y) (Zb 28 Y Y Y (Zr (i:=4) el_68 Y Y Y Y (.seq _ _) by8 ?_)))
  intro u28
  refine QaR ?_
  refine Qar ?_
  refine Zb 32 Y Y Y (Zd (xs:=[.tmp 31]) el_31 Y Y Y Y Y Y (Xm Y) (Zb 33 Y Y Y (Zr (i:=5) el_31 Y Y Y Y (.seq _ _) by8 ?_)))
  intro u33
  refine Qf ?_
  refine QF ?_
  refine Zb 36 Y Y Y (Zf (xs:=[.tmp 35]) (i:=3) Y Y Y (HO) by3 ?_)
  refine Zb 37 Y Y Y (Zd (xs:=[.tmp 36]) Xa Y Y Y Y Y Y (Xm Y) (Zb 38 Y Y Y (Zr (i:=1) Xa Y Y Y Y (.seq _ _) by8 ?_)))
  intro u38
  refine QaF ?_
  refine ⟨(q2,f,l++[Ex.mk wk ws wn (Ty.mk wtk wts wtn wtl) wks wal wbs wp],ops++[Tok.mk qk qt qn qa],u38,u28,u33),⟨l2,(by show L.length - q2.at_<f;omega),(by simp [i3]),(by show (ops++[Tok.mk qk qt qn qa]).length≤q2.at_;rw [List.length_append];simp;omega),hu⟩,Nat.lt_succ_self f,Xj Y (Xl (by rw [Ex.cellss_app'];rfl)) (Xj Y (Xl (by rw [List.map_append];rfl)) (Xj Y (Xl (by rw [List.map_append,strs_app];rfl)) by6)),Xd _ (Xf Y)⟩
 exact absurd he g12
theorem Exp_c (b:Nat) (L:List Tok) (hL:L.length≤100000):∀ n,ExC b L n (expF L n)
 | 0,p,k=>Exp_err b L p (fun e=>by have:=k.2.2.2 e;omega)
 | n+1,p,k=>by
  by_cases he:p.e=0
  ·exact Exp_ok b L hL n (expF L n) (Exp_c b L hL n) (expF_adv n) p k he _ (by rw [expF,if_neg (by rw [he];simp)])
  rw [expF,if_pos he];exact Exp_err b L p he
theorem expP_c (b:Nat) (L:List Tok) (hL:L.length≤100000):ExC b L 302 (expP L):=Exp_c b L hL 302
theorem bindP_c (b:Nat) (L:List Tok) (hL:L.length≤100000) (p:PS) (k:POk L 302 p):MCall Tryz.prog 19 [.ptr b 0] (.loc b (psC L p)) (.agg (bindP L p).1.cells) (.loc b (psC L (bindP L p).2)):=bind_c b L hL 302 (expP L) (expP_c b L hL) p k
theorem paramsL_go {L:List Tok} {f:Nat} {p:PS} {acc:List ByteArray} (h:(nxt L p).k=1):paramsL L (f+1) p acc=paramsL L f (takeP L p 1 kE).2 (acc++[(takeP L p 1 kE).1.t]):=by rw [paramsL,if_pos h]
theorem paramsL_end {L:List Tok} {f:Nat} {p:PS} {acc:List ByteArray} (h:¬ (nxt L p).k=1):paramsL L f p acc=(acc,p):=by
 cases f with
 | zero=>rfl
 | succ f=>rw [paramsL,if_neg h]
theorem consL_err {L:List Tok} {f:Nat} {p:PS} {acc:List Cn} (h:p.e≠0):consL L f p acc=(acc,p):=by
 cases f with
 | zero=>rfl
 | succ f=>rw [consL,if_pos h]
abbrev zDa:List AV:=[.val (.string kE),.val (.slice none 0 0),.val (.slice none 0 0),.val (.slice none 0 0),.val (.int .i64 0)]
theorem data_c (b:Nat) (L:List Tok) (hL:L.length≤100000) (p:PS) (k:POk L 302 p):MCall Tryz.prog 15 [.ptr b 0] (.loc b (psC L p)) (.agg (dataP L p).1.cells) (.loc b (psC L (dataP L p).2)):=by
 have H1:=take_c b L hL p k.1 2 kE
 have k1:=(Zj (kind:=2) (s:=kE) by17 k).ok k
 obtain ⟨r,hr⟩:∃ r,dataP L p=r:=⟨_,rfl⟩
 rw [hr]
 unfold dataP at hr
 simp only [] at hr
 obtain ⟨⟨⟨tk,tt,tn,ta⟩,p1⟩,e1⟩:∃ r,takeP L p 2 kE=r:=⟨_,rfl⟩
 rw [e1] at H1 k1 hr
 simp only [Tok.av] at H1 k1 hr
 have k2:=(paramsL_adv (L.length+1) p1 [] k1).ok k1
 obtain ⟨⟨ps,p2⟩,e2⟩:∃ r,paramsL L (L.length+1) p1 []=r:=⟨_,rfl⟩
 rw [e2] at k2 hr
 simp only [] at k2 hr
 have H3:=take_c b L hL p2 k2.1 7 kEq
 have k3:=(Zj (kind:=7) (s:=kEq) by17 k2).ok k2
 obtain ⟨⟨u3,p3⟩,e3⟩:∃ r,takeP L p2 7 kEq=r:=⟨_,rfl⟩
 rw [e3] at H3 k3 hr
 simp only [] at H3 k3 hr
 have k4:=(consL_adv (L.length+1) p3 [] k3).ok k3
 obtain ⟨⟨cl,p4⟩,e4⟩:∃ r,consL L (L.length+1) p3 []=r:=⟨_,rfl⟩
 rw [e4] at k4 hr
 simp only [] at k4 hr
 unfold derivP at hr
 refine Zc Tryz.func15 Y (by kernel_rfl) Y (Xm Y) ?_
 refine Qn ?_
 refine Qda ?_;intro b2
 refine Qt ?_
 refine Zb 9 Y Y Y (Zf (xs:=[.tmp 8,.const (.int .i64 2),.const (.string ⟨#[]⟩)]) (i:=1) Y Y Y (H1) by3 ?_)
 refine Qz ?_;intro b3
 refine Q6 ?_
 refine Qbq ?_
 refine Qar ?_
 refine Zb 14 Y Y Y (Zk (ns:=[0,4]) (xs:=[.tmp 11,.tmp 13]) Y tz_34 Y tfl_34 Y Y Y Y ?_)
 refine Qda ?_;intro b4
 refine Qdo ?_
 refine Qbh ?_
 refine Yb 9 1 ?_
 apply Ye (rg [(1,1),(3,1),(8,19),(28,1),(64,1),(69,1)]) (σ:=PS × Nat × List ByteArray × Value) (fun zz=>match zz with|(q,f,acc,u)=>[]) (fun zz=>match zz with|(q,f,acc,u)=>[.loc b4 [.val (.string tt),.own u 1 (strs acc),.val (.slice none 0 0),.val (.slice none 0 0),.val (.int .i64 ta)],.loc b3 (Tok.mk tk tt tn ta).av,.loc b2 zDa,.loc b (psC L q),.own 9 1 u]) (fun zz=>match zz with|(q,f,acc,u)=>POk L 302 q∧L.length - q.at_<f∧acc.length≤q.at_∧paramsL L f q acc=(ps,p2)) (fun zz=>match zz with|(q,f,acc,u)=>f) ((p1,L.length+1,[],.slice none 0 0))
 ·repeat' (first|exact Xp|apply Xn rfl|apply Xo rfl)
 ·exact ⟨k1,by omega,Nat.zero_le _,e2⟩
 ·exact by6
 ·exact (Xe _ (Xi (Xg _) (Xi (Le.nilOwn 1) (Xh _))) (Xc _ (Xf Y)))
 rintro ⟨q,f,acc,u⟩ hI
 try dsimp only [List.cons_append,List.nil_append] at hI ⊢
 obtain ⟨i1,i2,i3,hu⟩:=hI
 have hq1:=i1.1
 have hle:(strs acc).length≤200000:=by rw [Yz];omega
 have HN:=next_c b L q
 have hkn:(nxt L q).k=1→q.at_<L.length:=fun e=>(nxt_in by18).2
 have hgo:=fun f=>paramsL_go (L:=L) (f:=f) (p:=q) (acc:=acc)
 have hend:=paramsL_end (L:=L) (f:=f) (p:=q) (acc:=acc)
 have htk:=fun h:(nxt L q).k=1=>take_k (s:=kE) h by17 by17
 obtain ⟨⟨qk,qt,qn,qa⟩,hqt⟩:∃ t,nxt L q=t:=⟨_,rfl⟩
 rw [hqt] at HN hkn hgo hend htk
 simp only [Tok.av] at HN hkn hgo hend htk
 refine Qw ?_
 refine Zb 16 Y Y Y (Yi (xs:=[.tmp 15]) [3] Y Y Y (HN) by3 ?_)
 refine QcT ?_
 refine Qj ?_;intro c18 h18
 refine Qa ?_
 obtain ⟨rfl,g18⟩|⟨rfl,g18⟩:=Za h18
 ·refine QE ?_
  rw [hend g18] at hu
  simp only [Prod.mk.injEq] at hu
  obtain ⟨rfl,rfl⟩:=hu
  refine Qe ?_
  refine Zb 28 Y Y Y (Zf (xs:=[.tmp 27,.const (.int .i64 7),.const (.string ⟨#[61]⟩)]) (i:=3) Y Y Y (H3) by3 ?_)
  refine Qa ?_
  refine QK ?_
  refine Qa6 ?_
  refine Yb 54 3 ?_
  apply Ye (rg [(1,1),(3,1),(5,56),(64,1),(69,1)]) (σ:=PS × Nat × List Cn × Value × Bool) (fun zz=>match zz with|(q,f,cs,w,mo)=>[(5,.val (.bool mo))]) (fun zz=>match zz with|(q,f,cs,w,mo)=>[.loc b4 [.val (.string tt),.seq 1 (strs acc),.own w 3 (Cn.cellss cs),.val (.slice none 0 0),.val (.int .i64 ta)],.loc b3 (Tok.mk tk tt tn ta).av,.loc b2 zDa,.loc b (psC L q),.own 54 3 w]) (fun zz=>match zz with|(q,f,cs,w,mo)=>POk L 302 q∧L.length - q.at_<f∧(mo=true→cs.length≤q.at_)∧(if mo=true then consL L f q cs else (cs,q))=(cl,p4)) (fun zz=>match zz with|(q,f,cs,w,mo)=>2 * f+(if mo=true then 1 else 0)) ((p3,L.length+1,[],.slice none 0 0,true))
  ·repeat' (first|exact Xp|apply Xn rfl|apply Xo rfl)
  ·exact ⟨k3,by omega,fun _=>Nat.zero_le _,e4⟩
  ·exact by6
  ·exact (Xe _ (Xi (Xg _) (Xi (Le.own_seq Y) (Xi (Le.nilOwn 3) (Xh _)))) (Xc _ (Xc _ (Xc _ (Xd _ (MLe.refl _))))))
  rintro ⟨q,f,cs,w,mo⟩ hI
  try dsimp only [List.cons_append,List.nil_append] at hI ⊢
  obtain ⟨i1,i2,i3,hu⟩:=hI
  have hq1:=i1.1
  refine QL ?_
  refine Zx 36 (mo=true∧q.e=0) ?_ _ _ Y ?_
  ·skip
   refine QaA ?_
   have h30:(mo=true↔mo=true):=Iff.rfl
   obtain ⟨rfl,g30⟩|⟨rfl,g30⟩:=Za h30
   ·skip
    refine Qa9 ?_
    refine Qg ?_
    refine Xk Y ?_ by7 by5
    simp_all;done
   skip
   refine Qd ?_
   refine Qeg ?_
   refine Qb4 ?_
   refine Zm 34 Y Y Y Y Y (Yn (i:=3) Y ta_3 Y Y Y ?_)
   refine Qan ?_;intro c35 h35
   refine Qg ?_
   refine Xk Y ?_ by7 by5
   simp_all;done
  intro c36 h36
  refine Qc ?_
  obtain ⟨rfl,g36⟩|⟨rfl,g36⟩:=Za h36
  ·refine Qbp ?_
   have hu2:(cs,q)=(cl,p4):=by
    cases mo with
    | false=>exact hu
    | true=>rw [if_pos rfl,consL_err (fun e=>g36 ⟨rfl,e⟩)] at hu;exact hu
   simp only [Prod.mk.injEq] at hu2
   obtain ⟨rfl,rfl⟩:=hu2
   refine Qe ?_
   refine Zb 62 Y Y Y (op_mayc (xs:=[.tmp 61,.const (.string ⟨#[100,101,114,105,118,105,110,103]⟩)]) (i:=3) Y Y Y (may_c b L hL q kDeriv) by3 ?_ ?_)
   ·intro g62
    refine Qa ?_
    refine QaG ?_
    have kA:=(Zw k4 g62).ok k4
    have HD1:=take_c b L hL (stepP q) kA.1 7 kLP
    have kB:=(Zj (kind:=7) (s:=kLP) by17 kA).ok kA
    have HD2:=uppers_c b L hL 302 _ kB
    have kC:=(uppers_adv kB).ok kB
    have HD3:=take_c b L hL _ kC.1 7 kRP
    rw [if_pos g62] at hr
    refine Qe ?_
    refine Zb 64 Y Y Y (Zf (xs:=[.tmp 63,.const (.int .i64 7),.const (.string ⟨#[40]⟩)]) (i:=3) Y Y Y (HD1) by3 ?_)
    refine Qt ?_
    refine Zb 66 Y Y Y (Zf (xs:=[.tmp 65]) (i:=3) Y Y Y (HD2) by3 ?_)
    refine Qu ?_
    refine Zp Y Y (Zi (cs':=[_,_,_,_,_]) (i:=0) Y ts_31 Y Y Y Y Y (Xm Y) Y ?_)
    refine Qa ?_
    refine Qe ?_
    refine Zb 69 Y Y Y (Zf (xs:=[.tmp 68,.const (.int .i64 7),.const (.string ⟨#[41]⟩)]) (i:=3) Y Y Y (HD3) by3 ?_)
    refine QA ?_
    refine Qdp ?_
    refine Qfa ?_
    refine Ql ?_
    first
    |(subst hr;exact Zn (i:=2) rfl rfl rfl ta_34 rfl (Le.agg (Xi (Xg _) (Xi (Xg _) (Xi (Le.own_seq rfl) (Xi (Xg _) (Xh _)))))) (Xd _ (Xd _ (Xd _ (Xc _ (Xb _))))) ⟨rfl,rfl⟩)
    |(rw [if_neg g62] at hr;subst hr;exact Zn (i:=2) rfl rfl rfl ta_34 rfl (Le.agg (Xi (Xg _) (Xi (Xg _) (Xi (Le.own_seq rfl) (Xi (Le.nil _) (Xh _)))))) (Xd _ (Xd _ (Xd _ (Xc _ (Xb _))))) ⟨rfl,rfl⟩)
   intro g62
   refine Qa ?_
   refine Qbg ?_
   refine Qdp ?_
   refine Qfa ?_
   refine Ql ?_
   first
   |(subst hr;exact Zn (i:=2) rfl rfl rfl ta_34 rfl (Le.agg (Xi (Xg _) (Xi (Xg _) (Xi (Le.own_seq rfl) (Xi (Xg _) (Xh _)))))) (Xd _ (Xd _ (Xd _ (Xc _ (Xb _))))) ⟨rfl,rfl⟩)
   |(rw [if_neg g62] at hr;subst hr;exact Zn (i:=2) rfl rfl rfl ta_34 rfl (Le.agg (Xi (Xg _) (Xi (Xg _) (Xi (Le.own_seq rfl) (Xi (Le.nil _) (Xh _)))))) (Xd _ (Xd _ (Xd _ (Xc _ (Xb _))))) ⟨rfl,rfl⟩)
  refine Qab ?_
  refine QG ?_
  obtain ⟨rfl,hq0⟩:=g36
  have i3:=i3 rfl
  have hle:(Cn.cellss cs).length≤200000:=by rw [Cn.cellss_len];omega
  rw [if_pos rfl] at hu
  obtain ⟨f,rfl⟩:∃ f',f=f'+1:=⟨f - 1,by omega⟩
  rw [consL,if_neg (by rw [hq0];simp)] at hu
  have HP:=take_c b L hL q i1.1 2 kE
  have l1:=(Zj (kind:=2) (s:=kE) by17 i1).ok i1
  have b1:=(Zj (L:=L) (kind:=2) (s:=kE) by17 i1).1
  obtain ⟨z,hz⟩:∃ z,conP L q=z:=⟨_,rfl⟩
  rw [hz] at hu
  unfold conP at hz
  simp only [] at hz
  obtain ⟨⟨⟨ck,ct,cn,ca⟩,q1⟩,f1⟩:∃ r,takeP L q 2 kE=r:=⟨_,rfl⟩
  rw [f1] at HP hz l1 b1
  simp only [Tok.av] at HP hz l1 b1
  have l2:=(typesL_adv typeP_adv' (L.length+1) q1 [] l1).ok l1
  have b2':=(typesL_adv typeP_adv' (L.length+1) q1 [] l1).1
  obtain ⟨⟨tys,q2⟩,f2⟩:∃ r,typesL L (typeP L) (L.length+1) q1 []=r:=⟨_,rfl⟩
  rw [f2] at l2 b2' hz
  simp only [] at l2 b2' hz
  subst hz
  simp only [] at hu
  have l2a:=l2.1
  refine Qe ?_
  refine Zb 38 Y Y Y (Zf (xs:=[.tmp 37,.const (.int .i64 2),.const (.string ⟨#[]⟩)]) (i:=3) Y Y Y (HP) by3 ?_)
  refine Qz ?_;intro b6
  refine Q6 ?_
  refine Qbq ?_
  refine Qar ?_
  refine Zb 43 Y Y Y (Zk (ns:=[0,2]) (xs:=[.tmp 40,.tmp 42]) Y tz_54 Y tfl_54 Y Y Y Y ?_)
  refine Qcb ?_;intro b7
  refine Qcc ?_
  refine Qbh ?_
  refine Yb 46 4 ?_
  apply Ye (rg [(1,1),(3,1),(8,21),(44,9),(64,1),(69,1)]) (σ:=PS × Nat × List Ty × Value) (fun zz=>match zz with|(s,g,ac,v)=>[]) (fun zz=>match zz with|(s,g,ac,v)=>[.loc b7 [.val (.string ct),.own v 4 (Ty.cellss ac),.val (.int .i64 ca)],.loc b6 (Tok.mk ck ct cn ca).av,.loc b4 [.val (.string tt),.seq 1 (strs acc),.own w 3 (Cn.cellss cs),.val (.slice none 0 0),.val (.int .i64 ta)],.loc b3 (Tok.mk tk tt tn ta).av,.loc b2 zDa,.loc b (psC L s),.own 54 3 w,.own 46 4 v]) (fun zz=>match zz with|(s,g,ac,v)=>POk L 302 s∧L.length - s.at_<g∧ac.length≤s.at_∧typesL L (typeP L) g s ac=(tys,q2)) (fun zz=>match zz with|(s,g,ac,v)=>g) ((q1,L.length+1,[],.slice none 0 0))
  ·repeat' (first|exact Xp|apply Xn rfl|apply Xo rfl)
  ·exact ⟨l1,by omega,Nat.zero_le _,f2⟩
  ·exact by6
  ·exact (Xe _ (Xi (Xg _) (Xi (Le.nilOwn 4) (Xh _))) (Xc _ (Xf Y)))
  rintro ⟨s,g,ac,v⟩ hI
  try dsimp only [List.cons_append,List.nil_append] at hI ⊢
  obtain ⟨j1,j2,j3,hv⟩:=hI
  have hs1:=j1.1
  have hlt:(Ty.cellss ac).length≤200000:=by rw [Ty.cellss_len];omega
  refine Qw ?_
  refine Zb 45 Y Y Y (op_callkb (xs:=[.tmp 44,.const (.int .i64 0)]) [5] Y Y Y (starts_c b L s 0) by3 ?_);intro c45 h45
  refine Qa ?_
  obtain ⟨rfl,g45⟩|⟨rfl,g45⟩:=Za h45
  ·refine QE ?_
   rw [typesL_end g45] at hv
   simp only [Prod.mk.injEq] at hv
   obtain ⟨rfl,rfl⟩:=hv
   refine c_le (SLe.refl _) (Xe _ (Xi (Xg _) (Xi (Le.own_seq Y) (Xh _))) (MLe.refl _)) ?_
   refine QaX ?_
   refine QcF ?_
   refine Qfb ?_
   refine Zb 56 Y Y Y (Zd (xs:=[.tmp 55]) el_32 Y Y Y Y Y Y (Xm Y) (Zb 57 Y Y Y (Zr (i:=6) el_32 Y Y Y Y (.seq _ _) by8 ?_)))
   intro u57
   refine Qu ?_
   refine Zp Y Y (Zi (cs':=[_,_,_,_,_]) (i:=2) Y ts_32 Y Y Y Y Y (Xm Y) Y ?_)
   refine Qa ?_
   refine Qe ?_
   refine Zb 60 Y Y Y (op_mayc (xs:=[.tmp 59,.const (.string ⟨#[124]⟩)]) (i:=5) Y Y Y (may_c b L hL s kBar) by3 ?_ ?_)
   ·intro g60
    refine QaF ?_
    first
    |(rw [if_pos g60] at hu;have l4:=(Zw l2 g60).ok l2;have l5:=(is_lt g60).2;exact ⟨(stepP s,f,cs++[Cn.mk ct ac ca],u57,true),⟨l4,(by show L.length - (s.at_+1)<f;omega),(fun _=>by show (cs++_).length≤s.at_+1;rw [List.length_append];simp;omega),hu⟩,(by show 2 * f+1<2 * (f+1)+1;omega),Xj rfl (Xg _) by6,Xd _ (Xd _ (Xe _ (Xi (Xg _) (Xi (Xg _) (Xi (Xl (by simp [Cn.cellss];rfl)) (Xh _)))) (Xc _ (Xc _ (Xc _ (Xc _ (Xd _ (MLe.refl _))))))))⟩)
    |(rw [if_neg g60] at hu;exact ⟨(s,f+1,cs++[Cn.mk ct ac ca],u57,false),⟨l2,(by show L.length - s.at_<f+1;omega),(fun h=>by cases h),hu⟩,(by show 2 * (f+1)+0<2 * (f+1)+1;omega),Xj rfl (Xg _) by6,Xd _ (Xd _ (Xe _ (Xi (Xg _) (Xi (Xg _) (Xi (Xl (by simp [Cn.cellss];rfl)) (Xh _)))) (Xc _ (Xc _ (Xc _ (Xc _ (Xd _ (MLe.refl _))))))))⟩)
   intro g60
   refine QaF ?_
   first
   |(rw [if_pos g60] at hu;have l4:=(Zw l2 g60).ok l2;have l5:=(is_lt g60).2;exact ⟨(stepP s,f,cs++[Cn.mk ct ac ca],u57,true),⟨l4,(by show L.length - (s.at_+1)<f;omega),(fun _=>by show (cs++_).length≤s.at_+1;rw [List.length_append];simp;omega),hu⟩,(by show 2 * f+1<2 * (f+1)+1;omega),Xj rfl (Xg _) by6,Xd _ (Xd _ (Xe _ (Xi (Xg _) (Xi (Xg _) (Xi (Xl (by simp [Cn.cellss];rfl)) (Xh _)))) (Xc _ (Xc _ (Xc _ (Xc _ (Xd _ (MLe.refl _))))))))⟩)
   |(rw [if_neg g60] at hu;exact ⟨(s,f+1,cs++[Cn.mk ct ac ca],u57,false),⟨l2,(by show L.length - s.at_<f+1;omega),(fun h=>by cases h),hu⟩,(by show 2 * (f+1)+0<2 * (f+1)+1;omega),Xj rfl (Xg _) by6,Xd _ (Xd _ (Xe _ (Xi (Xg _) (Xi (Xg _) (Xi (Xl (by simp [Cn.cellss];rfl)) (Xh _)))) (Xc _ (Xc _ (Xc _ (Xc _ (Xd _ (MLe.refl _))))))))⟩)
  refine Qab ?_
  obtain ⟨g,rfl⟩:∃ f',g=f'+1:=⟨g - 1,by omega⟩
  rw [typesL_go g45] at hv
  have d1:=atype_lt typeP_adv' j1 g45
  have d2:=atype_adv typeP_adv' j1
  have m2:=d2.ok j1
  have HA2:=atype_c b L hL 302 (typeP L) (Type_c b L hL 302) typeP_adv' s j1
  obtain ⟨⟨⟨yk,ys,yn,yl⟩,s2⟩,e2'⟩:∃ r,atypeG L (typeP L) s=r:=⟨_,rfl⟩
  rw [e2'] at HA2 hv m2 d1
  simp only [Ty.cells] at HA2
  simp only [] at d1 m2 hv
  have m3:=m2.1
  refine Qby ?_
  refine Zs 5 (i:=3) Y Y Y Y Y (Zf (xs:=[.tmp 48]) (i:=0) Y Y Y (HA2) by3 ⟨_,Y,?_⟩)
  refine Zh 50 (none) (i:=4) Y Y Y Y Y (Zd (xs:=[.tmp 49]) el_44 Y Y Y Y Y Y (Xm Y) ⟨Y,Y⟩) ?_
  refine Zs 7 (i:=5) Y Y Y Y Y (Zr (i:=0) el_44 Y Y Y Y (.seq _ _) by8 (fun u51=>⟨_,Y,?_⟩))
  refine QB ?_
  refine Zs 0 (i:=7) Y Y Y Y Y (Zi (cs':=[_,_,_]) (i:=0) Y ts_44 Y Y Y Y Y (Xm Y) Y ⟨_,Y,?_⟩)
  show AGo _ _ _ _ _ _ _
  refine Qbn ?_
  refine ⟨(s2,g,ac++[Ty.mk yk ys yn yl],u51),⟨m2,(by show L.length - s2.at_<g;omega),(by show (ac++[Ty.mk yk ys yn yl]).length≤s2.at_;rw [List.length_append];simp;omega),hv⟩,Nat.lt_succ_self g,by6,(Xe _ (Xi (Xg _) (Xi (Xl (by rw [Ty.cellss_app];rfl)) (Xh _))) (Xc _ (Xc _ (Xc _ (Xc _ (Xf Y))))))⟩
 refine Qab ?_
 obtain ⟨f,rfl⟩:∃ f',f=f'+1:=⟨f - 1,by omega⟩
 have hlt:=hkn g18
 rw [hgo f g18,htk g18] at hu
 have HT:=take_c b L hL q hq1 1 kE
 rw [htk g18] at HT
 simp only [Tok.av] at HT
 have l1:=(Yv i1 hlt).ok i1
 refine Ya [0,1,2,3,4,5,6,7,8] [3,6,8] [[],[0],[],[2],[2,3],[2,3,4],[0,1,2,3,4,5],[0,1,2,3,4,5,6],[0,1,2,3,4,5,6,7]] tmix Y ?_
 refine QbO ?_
 refine Qp ?_
 refine Zs 3 (i:=3) Y Y Y Y Y (Zf (xs:=[.tmp 21,.const (.int .i64 1),.const (.string ⟨#[]⟩)]) (i:=0) Y Y Y (HT) by3 ⟨_,Y,?_⟩)
 refine Zh 23 (none) (i:=4) Y Y Y Y Y (op_field1 (ft:=9) (fo:=1) Y (by kernel_rfl) ta_9 Y Y ⟨Y,Y⟩) ?_
 refine Zh 24 (none) (i:=5) Y Y Y Y Y (Zd (xs:=[.tmp 23]) el_31 Y Y Y Y Y Y (Xm Y) ⟨Y,Y⟩) ?_
 refine Zs 4 (i:=6) Y Y Y Y Y (Zr (i:=0) el_31 Y Y Y Y (.seq _ _) by8 (fun u25=>⟨_,Y,?_⟩))
 refine QB ?_
 refine Zs 0 (i:=8) Y Y Y Y Y (Zi (cs':=[_,_,_,_,_]) (i:=0) Y ts_31 Y Y Y Y Y (Xm Y) Y ⟨_,Y,?_⟩)
 show AGo _ _ _ _ _ _ _
 refine Qbn ?_
 refine ⟨(stepP q,f,acc++[qt],u25),⟨l1,(by show L.length - (q.at_+1)<f;omega),(by show (acc++[qt]).length≤q.at_+1;rw [List.length_append];simp;omega),hu⟩,Nat.lt_succ_self f,by6,(Xe _ (Xi (Xg _) (Xi (Xl (by rw [strs_app];rfl)) (Xh _))) (Xc _ (Xc _ (Xf Y))))⟩
def EOpsF (P:Program) (ops:List Oper) (ws:List Nat) (anc:List (List Nat)) (i0:Nat) (cs0:List AV) (Q:Sl→Mem→Prop):List Nat→Sl→Mem→List (Nat × Nat)→Prop
 | [],al,M,_=>Q al M
 | i::ord,al,M,L=>∃ o,ops[i]?=some o ∧
     if i=i0 then ∀ b,EOpsF P ops ws anc i0 cs0 Q ord (al.put o.dst (.ptr b 0)) (M++[.loc b cs0]) L
     else if ws.contains i then o.guard=none ∧
      ((∃ k r,M[k]?=some r∧(L.all fun x=>x.2 != k ||(anc.getD i []).contains x.1)=true∧OpT P o (al.only (Oper.tmps o)) [r] (fun v M'=>∃ r',M'=[r']∧EOpsF P ops ws anc i0 cs0 Q ord (al.put o.dst v) (M.set k r') L)) ∨
       OpT P o (al.only (Oper.tmps o)) [] (fun v M'=>EOpsF P ops ws anc i0 cs0 Q ord (al.put o.dst v) (M++M') L))
     else ∃ (fp:Option Nat) (v:AV),fp.all (fun k=>Nat.blt k M.length)=true∧DStep P ops o al (fpm M fp) v∧EOpsF P ops ws anc i0 cs0 Q ord (al.put o.dst v) M ((fp.toList.map fun k=>(i,k))++L)
def flowEF (n:Nat) (l:List Oper) (ord ws:List Nat) (anc:List (List Nat)) (i0:Nat):Bool :=
 (ord.length == l.length && (List.range l.length).all (ord.contains ·) && decide ord.Nodup && ord.all (fun i=>Nat.blt i l.length)) &&
 (l.zipIdx.all fun (o,i)=>o.dst.all (·<n) && (bindsOn o).all (fun j=>j<i) &&
  (anc.getD i []).all (fun a=>(bindsOn o).contains a ||(bindsOn o).any (fun c=>(anc.getD c []).contains a))) &&
 (ws.all fun j=>(List.range l.length).all fun i=>i == j || befo ord i j ||(anc.getD i []).contains j || i == i0) &&
 (l.zipIdx.all fun (o,i)=>l.zipIdx.all fun (p,k)=>(k == i || o.dst.isNone || o.dst != p.dst) &&
     (match p.dst with
      | some t => !(Oper.sees l o).contains t || k == i ||(if befo ord k i then (anc.getD i []).contains k else (anc.getD k []).contains i)
      | none=>true)) && ws.contains i0
structure FlowEF (n:Nat) (l:List Oper) (ord ws:List Nat) (anc:List (List Nat)) (i0:Nat):Prop where
 nodup:ord.Nodup
 mem:∀ i,i<l.length→i∈ord
 lt:∀ i∈ord,i<l.length
 dst:∀ (i:Nat) (o:Oper),l[i]?=some o→o.dst.all (·<n)=true
 back:∀ (i:Nat) (o:Oper),l[i]?=some o→∀ j∈bindsOn o,j<i
 ancs:∀ (i:Nat) (o:Oper),l[i]?=some o→∀ a∈anc.getD i [],a∈bindsOn o∨∃ c∈bindsOn o,a∈anc.getD c []
 wild:∀ j∈ws,∀ i,i<l.length→i=j∨befo ord i j=true∨j∈anc.getD i []∨i=i0
 once:∀ (i:Nat) (o:Oper) (k:Nat) (p:Oper) (t:Tmp),l[i]?=some o→l[k]?=some p→o.dst=some t→p.dst=some t→k=i
 see:∀ (i:Nat) (o:Oper) (k:Nat) (p:Oper) (t:Tmp),l[i]?=some o→l[k]?=some p→p.dst=some t→t∈Oper.sees l o→k=i∨(befo ord k i=true∧k∈anc.getD i [])∨(befo ord k i=false∧i∈anc.getD k [])
 free:i0∈ws
theorem FlowEF.of {n:Nat} {l:List Oper} {ord ws:List Nat} {anc:List (List Nat)} {i0:Nat} (h:flowEF n l ord ws anc i0=true):FlowEF n l ord ws anc i0:=by
 unfold flowEF at h
 simp only [Bool.and_eq_true] at h
 obtain ⟨⟨⟨⟨⟨⟨⟨_,h2⟩,h3⟩,h7⟩,h4⟩,h5⟩,h6⟩,h8⟩:=h
 have hmem:∀ i,i<l.length→i∈ord:=fun i hi=>by simpa using all_range h2 hi
 refine ⟨by simpa using h3,hmem,fun i hi=>by simpa [Nat.blt_eq] using List.all_eq_true.1 h7 i hi,fun i o ho=>?_,fun i o ho j hj=>?_,fun i o ho a ha=>?_,fun j hj i hi=>?_,fun i o k p t ho hp e1 e2=>?_,fun i o k p t ho hp e1 e2=>?_,by simpa using h8⟩
 ·have:=Yh h4 ho
  simp only [Bool.and_eq_true] at this
  exact this.1.1
 ·have:=Yh h4 ho
  simp only [Bool.and_eq_true,List.all_eq_true,decide_eq_true_eq] at this
  exact this.1.2 j hj
 ·have:=Yh h4 ho
  simp only [Bool.and_eq_true,List.all_eq_true] at this
  have:=this.2 a ha
  simp only [Bool.or_eq_true,List.contains_iff_mem,List.any_eq_true] at this
  exact this
 ·have:=all_range (List.all_eq_true.1 h5 j hj) hi
  simp only [Bool.or_eq_true,beq_iff_eq,List.contains_iff_mem] at this
  rcases this with ((q|q)|q)|q
  ·exact Or.inl q
  ·exact Or.inr (Or.inl q)
  ·exact Or.inr (Or.inr (Or.inl q))
  exact Or.inr (Or.inr (Or.inr q))
 ·have:=Yh (Yh h6 ho) hp
  simp only [Bool.and_eq_true,Bool.or_eq_true,beq_iff_eq] at this
  rcases this.1 with (q|q)|q
  ·exact q
  ·simp [e1] at q
  simp [e1,e2] at q
 have:=(Bool.and_eq_true _ _ ▸ Yh (Yh h6 ho) hp).2
 simp only [e1,Bool.or_eq_true,beq_iff_eq,Bool.not_eq_true'] at this
 rcases this with (q|q)|q
 ·simp [e2] at q
 ·exact Or.inl q
 split at q
 ·rename_i hb;exact Or.inr (Or.inl ⟨hb,by simpa using q⟩)
 rename_i hb
 by_cases e:k=i
 ·exact Or.inl e
 exact Or.inr (Or.inr ⟨by simpa using hb,by simpa using q⟩)
def pdM (cs0:List AV):Option Nat→Mem
 | none=>[]
 | some b=>[.loc b cs0]
section
variable {P:Program} {n:Nat} {l:List Oper} {ord ws:List Nat} {anc:List (List Nat)} {QQ:Sl→Mem→Prop} {al:Sl} {i0:Nat} {cs0:List AV}
structure AtF (P:Program) (n B:Nat) (F:EH) (Mf:Mem) (w0:World) (ds:List Deferred) (l:List Oper) (ord ws:List Nat) (anc:List (List Nat)) (i0:Nat) (cs0:List AV) (QQ:Sl→Mem→Prop) (al:Sl) (lis:Array Bool) (a:Act) (w:World) (pr rest:List Nat) (pv:Nat→AV) (M:Mem) (L:List (Nat × Nat)) (pd:Option Nat):Prop where
 size:lis.size=l.length
 closed:∀ (k:Nat) (o:Oper),l[k]?=some o→lis[k]?=some true→∀ j∈bindsOn o,lis[j]?=some true
 defers:a.defers=ds
 tmps:a.tmps.size=n
 ord:ord=pr++rest
 done:∀ k,lis[k]?=some true→k∈pr∨(k=i0∧pd≠none)
 wild:∀ k∈pr,k∈ws→lis[k]?=some true
 pnd:∀ b,pd=some b→i0∈rest∧lis[i0]?=some true∧pv i0=.ptr b 0
 next:rest=[]∨∃ j rest',rest=j::rest'∧j∈ws∧(j=i0→pd=none)
 eops:EOpsF P l ws anc i0 cs0 QQ rest (putsI l pv pr al) M L
 lenL:∀ x∈L,x.2<M.length
 steps:∀ p1 i p2,pr=p1++i::p2→i∉ws→lis[i]?=some false→∃ o fp,l[i]?=some o∧(∀ p,fp=some p→(i,p)∈L)∧DStep P l o (putsI l pv p1 al) (fpm M fp) (pv i)
 mem:∃ F',Ext F F'∧Inv B F' (M++(pdM cs0 pd++Mf)) w∧Below B w0 w ∧
  (∀ t v,al.lookup t=some v→(∀ (j:Nat) (o:Oper),l[j]?=some o→o.dst=some t→lis[j]?=some false)→t<n∧Rel F' v (a.tmps.getD t undef)) ∧
  (∀ (j:Nat) (o:Oper) (t:Tmp),l[j]?=some o→o.dst=some t→lis[j]?=some true→t<n∧Rel F' (pv j) (a.tmps.getD t undef))

theorem closed_ancF (hfl:FlowEF n l ord ws anc i0) {lis:Array Bool} (hc:∀ (k:Nat) (o:Oper),l[k]?=some o→lis[k]?=some true→∀ j∈bindsOn o,lis[j]?=some true):∀ (i:Nat) (o:Oper),l[i]?=some o→(∀ j∈bindsOn o,lis[j]?=some true)→∀ a∈anc.getD i [],lis[a]?=some true:=by
 intro i
 induction i using Nat.strongRecOn with
 | _ i ih =>
  intro o ho hb a ha
  rcases hfl.ancs i o ho a ha with q|⟨c,hc1,hc2⟩
  ·exact hb a q
  have hci:=hfl.back i o ho c hc1
  have hil:i<l.length:=get_lt ho
  have hcl:l[c]?=some l[c]:=List.getElem?_eq_getElem by18
  exact ih c hci l[c] hcl (hc c l[c] hcl (hb c hc1)) a hc2
theorem fpm_app {M X:Mem} {fp:Option Nat} (h:∀ p,fp=some p→p<M.length):fpm (M++X) fp=fpm M fp:=by
 cases fp with
 | none=>rfl
 | some p=>simp only [fpm];rw [List.getElem?_append_left (h p rfl)]
theorem advanceF (hnd:ord.Nodup) (hi0:i0∈ws) (lis:Array Bool):∀ (rest pr:List Nat) (pv:Nat→AV) (L:List (Nat × Nat)) (M:Mem) (pd:Option Nat),ord=pr++rest→(∀ b,pd=some b→i0∈rest∧pv i0=.ptr b 0)→EOpsF P l ws anc i0 cs0 QQ rest (putsI l pv pr al) M L→(∀ x∈L,x.2<M.length) →
    (∀ p1 i p2,pr=p1++i::p2→i∉ws→lis[i]?=some false→∃ o fp,l[i]?=some o∧(∀ p,fp=some p→(i,p)∈L)∧DStep P l o (putsI l pv p1 al) (fpm M fp) (pv i)) →
    ∃ pr' rest' pv' L' M' pd',ord=pr'++rest'∧(rest'=[]∨∃ j r,rest'=j::r∧j∈ws∧(j=i0→pd'=none))∧EOpsF P l ws anc i0 cs0 QQ rest' (putsI l pv' pr' al) M' L'∧(∀ x∈L',x.2<M'.length)∧(∀ k∈pr,k∈pr')∧(∀ k∈pr',k∈ws→k∈pr∨(k=i0∧pd≠none))∧(∀ k∈pr,pv' k=pv k) ∧
     (∀ p1 i p2,pr'=p1++i::p2→i∉ws→lis[i]?=some false→∃ o fp,l[i]?=some o∧(∀ p,fp=some p→(i,p)∈L')∧DStep P l o (putsI l pv' p1 al) (fpm M' fp) (pv' i)) ∧
     (∀ b,pd'=some b→pd=some b∧i0∈rest')∧(pd≠none→pd'≠none∨i0∈pr')∧M'++pdM cs0 pd'=M++pdM cs0 pd∧pv' i0=pv i0:=by
 intro rest
 induction rest with
 | nil =>
  intro pr pv L M pd ho hp he hlL hs
  have:pd=none:=by
   cases pd with
   | none=>rfl
   | some b=>exact absurd (hp b rfl).1 by19
  subst this
  exact ⟨pr,[],pv,L,M,none,ho,Or.inl Y,he,hlL,fun k h=>h,fun k h _=>.inl h,fun _ _=>Y,hs,fun b h=>by simp at h,fun h=>absurd Y h,Y,Y⟩
 | cons i rest ih =>
  intro pr pv L M pd ho hp he hlL hs
  by_cases hw:i∈ws
  ·by_cases hz:i=i0
   ·cases hpd:pd with
    | none=>subst hpd;exact ⟨pr,i::rest,pv,L,M,none,ho,Or.inr ⟨i,rest,rfl,hw,fun _=>rfl⟩,he,hlL,fun k h=>h,fun k h _=>.inl h,fun _ _=>rfl,hs,fun b h=>by simp at h,fun h=>absurd rfl h,rfl,rfl⟩
    | some b =>
     subst hz
     subst hpd
     obtain ⟨o,ho',he⟩:=he
     rw [if_pos rfl] at he
     have he:=he b
     have hv:=(hp b rfl).2
     obtain ⟨pr2,rest2,pv2,L2,M2,pd2,q1,q2,q3,q0,q4,q5,q6,q7,q8,q9,q10,q11⟩:=ih (pr++[i]) pv L (M++[.loc b cs0]) none (by rw [ho];simp) (fun b h=>by simp at h) (by
      rw [putsI_app]
      simp only [putsI,ho',Option.bind_some,hv]
      exact he) (fun x hx=>by have:=hlL x hx;simp;omega) (by
      intro p1 j p2 hsp hj hl
      rcases List.eq_nil_or_concat p2 with rfl|⟨p2',y,rfl⟩
      ·have e2:pr=p1∧i=j:=by
        have:=List.append_inj' hsp rfl
        exact ⟨this.1,by simpa using this.2⟩
       obtain ⟨rfl,rfl⟩:=e2
       exact absurd hw hj
      have e3:pr=p1++j::p2':=by
       rw [List.concat_eq_append,show p1++j::(p2'++[y])=(p1++j::p2')++[y] from by simp] at hsp
       exact (List.append_inj' hsp Y).1
      obtain ⟨o',fp',k1,k2,k3⟩:=hs p1 j p2' e3 hj hl
      exact ⟨o',fp',k1,k2,by rw [fpm_app (fun p hp=>hlL (j,p) (k2 p hp))];exact k3⟩)
     refine ⟨pr2,rest2,pv2,L2,M2,pd2,q1,q2,q3,q0,fun k hk=>q4 k (by simp [hk]),fun k hk hkw=>?_,fun k hk=>q6 k (by simp [hk]),q7,fun b' h=>by have:=(q8 b' h).1;simp at this,fun _=>.inr (q4 i by19),?_,q11⟩
     ·rcases q5 k hk hkw with h|h
      ·rcases List.mem_append.1 h with h|h
       ·exact .inl h
       simp at h;subst h;exact .inr ⟨rfl,by simp⟩
      exact absurd Y h.2
     rw [q10];simp [pdM]
   exact ⟨pr,i::rest,pv,L,M,pd,ho,Or.inr ⟨i,rest,Y,hw,fun q=>absurd q hz⟩,he,hlL,fun k h=>h,fun k h _=>.inl h,fun _ _=>Y,hs,fun b h=>⟨h,(hp b h).1⟩,fun h=>.inl h,Y,Y⟩
  have hz:i≠i0:=fun q=>hw (by rw [q];exact hi0)
  obtain ⟨o,ho',he⟩:=he
  rw [if_neg hz,if_neg (by simpa using hw)] at he
  obtain ⟨fp,v,h0,h1,h2⟩:=he
  have hip:i∉pr:=by
   intro h
   rw [ho,List.nodup_append] at hnd
   exact hnd.2.2 i h i by19 Y
  let pv':Nat→AV:=fun x=>if x=i then v else pv x
  have hpv:∀ k∈pr,pv' k=pv k:=fun k hk=>if_neg (fun e=>hip (by rw [← e];exact hk))
  have hpi:pv' i=v:=if_pos rfl
  have hpz:pv' i0=pv i0:=if_neg (fun e=>hz e.symm)
  have heq:putsI l pv' pr al=putsI l pv pr al:=putsI_congr l pv' pv pr al hpv
  obtain ⟨pr2,rest2,pv2,L2,M2,pd2,q1,q2,q3,q0,q4,q5,q6,q7,q8,q9,q10,q11⟩:=ih (pr++[i]) pv' ((fp.toList.map fun k=>(i,k))++L) M pd (by rw [ho];simp) (fun b h=>by
   obtain ⟨h3,h4⟩:=hp b h
   rcases List.mem_cons.1 h3 with q|q
   ·exact absurd q.symm hz
   ·exact ⟨q,by rw [hpz,h4]⟩) (by
   rw [putsI_app,heq]
   simp only [putsI,ho',Option.bind_some,hpi]
   exact h2) (by
   intro x hx
   rcases List.mem_append.1 hx with hx|hx
   ·cases fp with
    | none=>simp at hx
    | some k =>
     simp at hx
     subst hx
     simpa [Nat.blt_eq] using h0
   ·exact hlL x hx) (by
   intro p1 j p2 hsp hj hl
   rcases List.eq_nil_or_concat p2 with rfl|⟨p2',y,rfl⟩
   ·have e2:pr=p1∧i=j:=by
     have:=List.append_inj' hsp rfl
     exact ⟨this.1,by simpa using this.2⟩
    obtain ⟨rfl,rfl⟩:=e2
    exact ⟨o,fp,ho',fun p hp=>by subst hp;simp,by rw [heq,hpi];exact h1⟩
   have e2:pr=p1++j::p2'∧i=y:=by
    rw [List.concat_eq_append,show p1++j::(p2'++[y])=(p1++j::p2')++[y] from by simp] at hsp
    have:=List.append_inj' hsp rfl
    exact ⟨this.1,by simpa using this.2⟩
   obtain ⟨e3,_⟩:=e2
   obtain ⟨o',fp',k1,k2,k3⟩:=hs p1 j p2' e3 hj hl
   refine ⟨o',fp',k1,fun p hp=>List.mem_append_right _ (k2 p hp),?_⟩
   rw [putsI_congr l pv' pv p1 al (fun k hk=>hpv k (by rw [e3];simp [hk])),hpv j (by rw [e3];simp)]
   exact k3)
  exact ⟨pr2,rest2,pv2,L2,M2,pd2,q1,q2,q3,q0,fun k hk=>q4 k (by simp [hk]),fun k hk hkw=>by
   rcases q5 k hk hkw with h|h
   ·rcases List.mem_append.1 h with h|h
    ·exact .inl h
    simp at h;subst h;exact absurd hkw hw
   exact .inr h,fun k hk=>(q6 k (by simp [hk])).trans (hpv k hk),q7,q8,q9,q10,by rw [q11,hpz]⟩

theorem seesF {lis:Array Bool} {a:Act} {pv:Nat→AV} (hfl:FlowEF n l ord ws anc i0) (hsize:lis.size=l.length) (hclosed:∀ (k:Nat) (o:Oper),l[k]?=some o→lis[k]?=some true→∀ j∈bindsOn o,lis[j]?=some true) {F':EH}
    (h4:∀ t v,al.lookup t=some v→(∀ (j:Nat) (o:Oper),l[j]?=some o→o.dst=some t→lis[j]?=some false)→t<n∧Rel F' v (a.tmps.getD t undef))
    (h5:∀ (j:Nat) (o:Oper) (t:Tmp),l[j]?=some o→o.dst=some t→lis[j]?=some true→t<n∧Rel F' (pv j) (a.tmps.getD t undef))
    {i:Nat} {o:Oper} (ho:l[i]?=some o) (hni:lis[i]?=some false) (hrd:∀ j∈bindsOn o,lis[j]?=some true) {p1 p2:List Nat} (hsp:ord=p1++i::p2) :
    ∀ t∈Oper.sees l o,∀ v,(putsI l pv p1 al).lookup t=some v→t<n∧Rel F' v (a.tmps.getD t undef):=by
 intro t ht v hv
 have hanc:=closed_ancF hfl hclosed i o ho hrd
 obtain ⟨j,p,k1,k2,k3,k4⟩|⟨k1,k2⟩:=putsI_lookup l pv p1 al t
 ·rw [k4] at hv
  simp at hv
  subst hv
  have hb:=(befo_split hfl.nodup hsp (k:=j)).1 k1
  rcases hfl.see i o j p t ho k2 k3 ht with q|q|q
  ·subst q;exfalso
   have:=hfl.nodup
   rw [hsp,List.nodup_append] at this
   exact this.2.2 j k1 j by19 Y
  ·exact h5 j p t k2 k3 (hanc j q.2)
  rw [hb] at q;simp at q
 rw [k2] at hv
 refine h4 t v hv (fun j p hj hd=>?_)
 have hjl:j<lis.size:=by
  rw [hsize]
  rcases Nat.lt_or_ge j l.length with q|q
  ·exact q
  rw [List.getElem?_eq_none q] at hj;simp at hj
 rcases hfl.see i o j p t ho hj hd ht with q|q|q
 ·subst q;exact hni
 ·exfalso
  have hjo:=hfl.mem j (by rw [← hsize];exact hjl)
  rw [hsp] at hjo
  rcases List.mem_append.1 hjo with r|r
  ·exact k1 j p r hj hd
  rcases List.mem_cons.1 r with r|r
  ·subst r;rw [befo] at q;simp at q
  have:=(befo_split hfl.nodup hsp (k:=j)).2 r
  rw [this] at q;simp at q
 rcases lis_ft hjl with r|r
 ·have:=closed_ancF hfl hclosed j p hj (hclosed j p hj r) i q.2
  rw [hni] at this;simp at this
 exact r
theorem slots_nextF (hfl:FlowEF n l ord ws anc i0) {lis:Array Bool} {a:Act} {F1 F2:EH} {i:Nat} {o:Oper} {pv pv':Nat→AV} {u:Value} (ho:l[i]?=some o) (hni:lis[i]?=some false) (htm:a.tmps.size=n) (hF2:Ext F1 F2) (hr:Rel F2 (pv' i) u) (hpv:∀ k,lis[k]?=some true→pv' k=pv k)
    (h4:∀ t v,al.lookup t=some v→(∀ (j:Nat) (o:Oper),l[j]?=some o→o.dst=some t→lis[j]?=some false)→t<n∧Rel F1 v (a.tmps.getD t undef))
    (h5:∀ (j:Nat) (o:Oper) (t:Tmp),l[j]?=some o→o.dst=some t→lis[j]?=some true→t<n∧Rel F1 (pv j) (a.tmps.getD t undef)) :
    (∀ t v,al.lookup t=some v→(∀ (j:Nat) (o:Oper),l[j]?=some o→o.dst=some t→(lis.setIfInBounds i true)[j]?=some false)→t<n∧Rel F2 v ((a.put o.dst u).tmps.getD t undef)) ∧
    (∀ (j:Nat) (o':Oper) (t:Tmp),l[j]?=some o'→o'.dst=some t→(lis.setIfInBounds i true)[j]?=some true→t<n∧Rel F2 (pv' j) ((a.put o.dst u).tmps.getD t undef)):=by
 have hdst:=hfl.dst i o ho
 have hget:∀ t,o.dst≠some t→(a.put o.dst u).tmps.getD t undef=a.tmps.getD t undef:=by
  intro t ht
  cases hd:o.dst with
  | none=>rfl
  | some d =>
   simp only [Act.put,Array.getD_eq_getD_getElem?,Array.getElem?_setIfInBounds]
   rw [if_neg (fun e=>ht (by rw [hd,e]))]
 constructor
 ·intro t v ht hno
  have hne:o.dst≠some t:=by
   intro q
   have:=hno i o ho q
   rw [Ym hni,if_pos rfl] at this;simp at this
  rw [hget t hne]
  obtain ⟨q1,q2⟩:=h4 t v ht (fun j p hj hd=>by
   have:=hno j p hj hd
   rw [Ym hni] at this
   split at this
   ·simp at this
   exact this)
  exact ⟨q1,q2.mono hF2⟩
 intro j p t hj hd hlj
 by_cases e:i=j
 ·subst e
  rw [ho] at hj;simp at hj;subst hj
  rw [hd] at hdst ⊢
  simp at hdst
  refine ⟨hdst,?_⟩
  have:t<a.tmps.size:=by rw [htm];exact hdst
  simpa [Act.put,Array.getD,this] using hr
 rw [Ym hni,if_neg e] at hlj
 have hne:o.dst≠some t:=by
  intro q
  exact e (hfl.once j p i o t hj ho hd q)
 rw [hget t hne,hpv j hlj]
 obtain ⟨q1,q2⟩:=h5 j p t hj hd hlj
 exact ⟨q1,q2.mono hF2⟩

theorem region_flowEF {ro:Option Nat} {ds:List Deferred} {B:Nat} {F:EH} {Mf:Mem} {w0:World} {Q:Exit→Act→World→Prop} (hfl:FlowEF n l ord ws anc i0) (hfree:∀ o,l[i0]?=some o→o.guard=none∧OpT P o [] [] (fun v M'=>∃ b,v=.ptr b 0∧M'=[.loc b cs0]))
    (hend:∀ a w pr pv M L,AtF P n B F Mf w0 ds l ord ws anc i0 cs0 QQ al (Array.replicate l.length true) a w pr [] pv M L none→Q .normal a w) :
    ∀ (fuel:Nat) (lis:Array Bool) (a:Act) (w:World) (pr rest:List Nat) (pv:Nat→AV) (M:Mem) (L:List (Nat × Nat)) (pd:Option Nat),((List.range l.length).filter (fun j => !(lis[j]? == some true))).length≤fuel→AtF P n B F Mf w0 ds l ord ws anc i0 cs0 QQ al lis a w pr rest pv M L pd→wpAnyIn (RF ro) 0 P .any l.toArray Q fuel lis a w:=by
 have alltrue:∀ (lis:Array Bool) (a:Act) (w:World) (pr rest:List Nat) (pv:Nat→AV) (M:Mem) (L:List (Nat × Nat)) (pd:Option Nat),AtF P n B F Mf w0 ds l ord ws anc i0 cs0 QQ al lis a w pr rest pv M L pd→Region.ready .any l.toArray lis=[]→Q .normal a w:=by
  intro lis a w pr rest pv M L pd h hrd
  have hall:∀ i,i<l.length→lis[i]?=some true:=by
   intro i
   induction i using Nat.strongRecOn with
   | _ i ih =>
    intro hil
    rcases lis_ft (lis:=lis) (j:=i) (by rw [h.size];exact hil) with q|q
    ·exact q
    exfalso
    have:i∈Region.ready .any l.toArray lis:=(ready_iff h.size).2 ⟨l[i],List.getElem?_eq_getElem hil,q,fun j hj=>by
     have:=hfl.back i l[i] (List.getElem?_eq_getElem hil) j hj
     exact ih j this by18⟩
    rw [hrd] at this;simp at this
  have e:lis=Array.replicate l.length true:=by
   apply Array.ext (by simpa using h.size)
   intro i h1 h2
   have:=hall i (by rw [← h.size];exact h1)
   rw [Array.getElem?_eq_getElem h1] at this
   simpa using this
  have hre:rest=[]:=by
   rcases h.next with q|⟨j,r,q,_,qz⟩
   ·exact q
   exfalso
   have hj:j∈ord:=by rw [h.ord,q];simp
   rcases h.done j (hall j (hfl.lt j hj)) with hjp|hjp
   ·have:=hfl.nodup
    rw [h.ord,q,List.nodup_append] at this
    exact this.2.2 j hjp j by19 Y
   exact hjp.2 (qz hjp.1)
  subst hre
  have hpd:pd=none:=by
   cases hp:pd with
   | none=>rfl
   | some b=>exact absurd (h.pnd b hp).1 by19
  subst hpd
  rw [e] at h
  exact hend a w pr pv M L h
 intro fuel
 induction fuel with
 | zero =>
  intro lis a w pr rest pv M L pd hf h
  have hr:Region.ready .any l.toArray lis=[]:=by
   cases hr:Region.ready .any l.toArray lis with
   | nil=>rfl
   | cons i r =>
    exfalso
    obtain ⟨o,ho,h1,_⟩:=(ready_iff h.size).1 (by rw [hr];simp:i∈Region.ready .any l.toArray lis)
    have hil:i<l.length:=by
     rcases Nat.lt_or_ge i l.length with q|q
     ·exact q
     rw [List.getElem?_eq_none q] at ho;simp at ho
    have:i∈(List.range l.length).filter (fun j => !(lis[j]? == some true)):=List.mem_filter.2 ⟨by simpa using hil,by simp [h1]⟩
    have:=List.length_pos_of_mem this
    omega
  exact ⟨hr,alltrue lis a w pr rest pv M L pd h hr⟩
 | succ fuel ih =>
  intro lis a w pr rest pv M L pd hf h
  refine ⟨alltrue lis a w pr rest pv M L pd h,fun i hi=>?_⟩
  obtain ⟨o,ho,hni,hrd⟩:=(ready_iff h.size).1 hi
  have hil:i<l.length:=by
   rcases Nat.lt_or_ge i l.length with q|q
   ·exact q
   rw [List.getElem?_eq_none q] at ho;simp at ho
  have hcount:((List.range l.length).filter (fun j => !((lis.setIfInBounds i true)[j]? == some true))).length≤fuel:=by
   have h1:=count_set l.length (fun j=>lis[j]? == some true) i hil (by simp [hni])
   have h2:(List.range l.length).filter (fun j => !((lis.setIfInBounds i true)[j]? == some true))=(List.range l.length).filter (fun j => !((lis[j]? == some true) || j == i)):=by
    apply List.filter_congr
    intro j hj
    rw [Ym hni]
    by_cases e:i=j
    ·subst e
     rw [if_pos rfl];simp
    rw [if_neg e]
    have:(j == i)=false:=by simp;omega
    simp [this]
   rw [h2]
   omega
  have hanc:=closed_ancF hfl h.closed i o ho hrd
  obtain ⟨F0,m1,m2,m3,m4,m5⟩:=h.mem
  have hclosed:∀ (k:Nat) (o':Oper),l[k]?=some o'→(lis.setIfInBounds i true)[k]?=some true→∀ j∈bindsOn o',(lis.setIfInBounds i true)[j]?=some true:=by
   intro k p hk hlk j hj
   rw [Ym hni] at hlk ⊢
   by_cases e:i=k
   ·subst e
    rw [ho] at hk;simp at hk;subst hk
    rw [hrd j hj];split <;> rfl
   rw [if_neg e] at hlk
   rw [h.closed k p hk hlk j hj];split <;> rfl
  have hone:∀ k:Nat,(lis.setIfInBounds i true)[k]?=some false→lis[k]?=some false:=by
   intro k hk
   rw [Ym hni] at hk
   split at hk
   ·simp at hk
   exact hk
  have hio:i∈ord:=hfl.mem i hil
  by_cases hearly:i=i0∧∃ j r,rest=j::r∧j≠i0
  ·-- the variable,before its place
   obtain ⟨rfl,j,r,hre,hji⟩:=hearly
   have hpd:pd=none:=by
    cases hp:pd with
    | none=>rfl
    | some b=>have:=(h.pnd b hp).2.1;rw [hni] at this;simp at this
   subst hpd
   have hip:i∉pr:=fun hh=>by have:=h.wild i hh hfl.free;rw [hni] at this;simp at this
   obtain ⟨hg,hop⟩:=hfree o ho
   unfold wpOpIn
   simp only [List.getElem?_toArray,ho]
   rw [if_pos (by simp [Region.wanted,hg])]
   refine wp_exits (Oper.wpIn_mono ?_ (hop n B F0 (M++Mf) a w (by simpa [pdM] using m2) ⟨h.tmps,fun t v e=>by simp at e⟩ ro))
   rintro a' w' ⟨u,v,M',F2,rfl,⟨b,rfl,rfl⟩,hr,hF2,hi2,hb2⟩
   let pv':Nat→AV:=fun x=>if x=i then .ptr b 0 else pv x
   have hpv:∀ k∈pr,pv' k=pv k:=fun k hk=>if_neg (fun e=>hip (by rw [← e];exact hk))
   have hpi:pv' i=.ptr b 0:=if_pos rfl
   have heq:∀ p1,(∀ k∈p1,k∈pr)→putsI l pv' p1 al=putsI l pv p1 al:=fun p1 hp=>putsI_congr l pv' pv p1 al (fun k hk=>hpv k (hp k hk))
   have hpvl:∀ k,lis[k]?=some true→pv' k=pv k:=fun k hk=>by
    rcases h.done k hk with q|q
    ·exact hpv k q
    exact absurd Y q.2
   obtain ⟨s1,s2⟩:=slots_nextF (al:=al) hfl ho hni h.tmps hF2 (pv:=pv) (pv':=pv') (by rw [hpi];exact hr) hpvl m4 m5
   refine ih _ _ _ pr rest pv' M L (some b) hcount ⟨by simpa using h.size,hclosed,by cases o.dst <;> exact h.defers,by cases o.dst <;> simp [Act.put,h.tmps],h.ord,fun k hk=>?_,fun k hk hkw=>?_,fun b' hb'=>?_,.inr ⟨j,r,hre,?_,fun e=>absurd e hji⟩,?_,h.lenL,?_,F2,m1.trans hF2,?_,m3.trans hb2,s1,s2⟩
   ·rw [Ym hni] at hk
    split at hk
    ·rename_i e;subst e;exact .inr ⟨rfl,by simp⟩
    rcases h.done k hk with q|q
    ·exact .inl q
    exact absurd Y q.2
   ·rw [Ym hni,h.wild k hk hkw];split <;> rfl
   ·simp only [Option.some.injEq] at hb'
    subst hb'
    refine ⟨?_,by rw [Ym hni,if_pos rfl],hpi⟩
    have:=hio
    rw [h.ord] at this
    exact (List.mem_append.1 this).resolve_left hip
   ·rcases h.next with q|⟨j',r',q,hq,_⟩
    ·rw [hre] at q;simp at q
    rw [hre] at q;simp at q;rw [q.1];exact hq
   ·rw [heq pr (fun _ hk=>hk)];exact h.eops
   ·intro p1 x p2 hsp hx hl
    obtain ⟨ox,fp,k1,k2,k3⟩:=h.steps p1 x p2 hsp hx (hone x hl)
    refine ⟨ox,fp,k1,k2,?_⟩
    rw [heq p1 (fun k hk=>by rw [hsp];simp [hk]),hpv x (by rw [hsp];simp)];exact k3
   refine hi2.perm ?_
   have:(Res.loc b cs0::(M++Mf)).Perm (M++Res.loc b cs0::Mf):=List.perm_middle.symm
   simpa [pdM] using this
  by_cases hiw:i∈ws
  ·-- an operation that writes: it is the next
   have hrest:∃ rest',rest=i::rest':=by
    rcases h.next with q|⟨j,r,q,hjw,qz⟩
    ·exfalso
     subst q
     have:i∈pr:=by have:=h.ord;simp at this;rw [← this];exact hio
     have:=h.wild i this hiw
     rw [hni] at this;simp at this
    by_cases e:j=i
    ·subst e;exact ⟨r,q⟩
    exfalso
    have hjl:j<l.length:=hfl.lt j (by rw [h.ord,q];simp)
    have hsp:ord=pr++j::r:=by rw [h.ord,q]
    have hir:i∈r:=by
     have:=hio
     rw [hsp] at this
     rcases List.mem_append.1 this with k|k
     ·have:=h.wild i k hiw
      rw [hni] at this;simp at this
     rcases List.mem_cons.1 k with k|k
     ·exact absurd k.symm e
     exact k
    have hb:=(befo_split hfl.nodup hsp (k:=i)).2 hir
    rcases hfl.wild j hjw i hil with k|k|k|k
    ·exact e k.symm
    ·rw [hb] at k;simp at k
    ·have:=hanc j k
     rcases h.done j this with this|this
     ·have hnd:=hfl.nodup
      rw [hsp,List.nodup_append] at hnd
      exact hnd.2.2 j this j by19 Y
     exact this.2 (qz this.1)
    exact hearly ⟨k,j,r,q,fun e2=>e (by rw [e2,k])⟩
   obtain ⟨rest',rfl⟩:=hrest
   obtain ⟨o',ho',he⟩:=h.eops
   rw [ho] at ho';simp at ho';subst ho'
   have hsp:ord=pr++i::rest':=h.ord
   have hsees:=seesF (pv:=pv) hfl h.size h.closed m4 m5 ho hni hrd hsp
   have hslots:Slots n F0 ((putsI l pv pr al).only (Oper.tmps o)) a.tmps:=by
    refine ⟨h.tmps,fun t v' e=>?_⟩
    rw [only_lookup] at e
    split at e
    ·rename_i hc
     exact hsees t (by unfold Oper.sees;exact List.mem_append_left _ (by simpa using hc)) v' e
    simp at e
   have hip:i∉pr:=by
    intro hh
    have:=hfl.nodup
    rw [hsp,List.nodup_append] at this
    exact this.2.2 i hh i by19 Y
   have hpd:∀ b,pd=some b→i≠i0∧i0∈rest':=fun b hb=>by
    obtain ⟨h1,h2,_⟩:=h.pnd b hb
    have hne:i≠i0:=fun e=>by rw [← e,hni] at h2;simp at h2
    exact ⟨hne,(List.mem_cons.1 h1).resolve_left (fun e=>hne e.symm)⟩
   have hpn:pd≠none→i≠i0:=fun hp=>by
    cases hq:pd with
    | none=>exact absurd hq hp
    | some b=>exact (hpd b hq).1
   obtain ⟨MF,hMF⟩:∃ MF,pdM cs0 pd++Mf=MF:=⟨_,rfl⟩
   rw [hMF] at m2
   have fin:∀ (u:Value) (v:AV) (F2:EH) (w':World) (M2:Mem),Rel F2 v u→Ext F0 F2→Inv B F2 (M2++MF) w'→Below B w w'→∀ L':List (Nat × Nat),EOpsF P l ws anc i0 cs0 QQ rest' ((putsI l pv pr al).put o.dst v) M2 L'→(∀ x∈L',x.2<M2.length) →
       (∀ i' fp,lis[i']?=some false→(∀ p,fp=some p→(i',p)∈L)→(fpm M2 fp=fpm M fp∧∀ p,fp=some p→(i',p)∈L')∨i'∈anc.getD i []) →
       wpAnyIn (RF ro) 0 P .any l.toArray Q fuel (lis.setIfInBounds i true) (a.put o.dst u) w':=by
    intro u v F2 w' M2 hr hF2 hi2 hb2 L' heo hml hkeep
    let pv':Nat→AV:=fun x=>if x=i then v else pv x
    have hpv:∀ k∈pr,pv' k=pv k:=fun k hk=>if_neg (fun e=>hip (by rw [← e];exact hk))
    have hpi:pv' i=v:=if_pos rfl
    have hpz:pd≠none→pv' i0=pv i0:=fun hp=>if_neg (fun e=>hpn hp e.symm)
    have heq:putsI l pv' pr al=putsI l pv pr al:=putsI_congr l pv' pv pr al hpv
    obtain ⟨pr2,rest2,pv2,L2,M3,pd3,q1,q2,q3,q0,q4,q5,q6,q7,q8,q9,q10,q11⟩:=advanceF (P:=P) (QQ:=QQ) (al:=al) (anc:=anc) (cs0:=cs0) hfl.nodup hfl.free (lis.setIfInBounds i true) rest' (pr++[i]) pv' L' M2 pd (by rw [hsp];simp) (fun b hb=>⟨(hpd b hb).2,by rw [hpz (by rw [hb];simp)];exact (h.pnd b hb).2.2⟩) (by
     rw [putsI_app,heq]
     simp only [putsI,ho,Option.bind_some,hpi]
     exact heo) hml (by
     intro p1 j p2 hspj hj hl
     have hl':=hone j hl
     rcases List.eq_nil_or_concat p2 with rfl|⟨p2',y,rfl⟩
     ·have e2:pr=p1∧i=j:=by
       have:=List.append_inj' hspj rfl
       exact ⟨this.1,by simpa using this.2⟩
      obtain ⟨rfl,rfl⟩:=e2
      exact absurd hiw hj
     have e3:pr=p1++j::p2':=by
      rw [List.concat_eq_append,show p1++j::(p2'++[y])=(p1++j::p2')++[y] from by simp] at hspj
      exact (List.append_inj' hspj Y).1
     obtain ⟨oj,fp,k1,k2,k3⟩:=h.steps p1 j p2' e3 hj hl'
     rcases hkeep j fp hl' k2 with r|r
     ·refine ⟨oj,fp,k1,r.2,?_⟩
      rw [putsI_congr l pv' pv p1 al (fun k hk=>hpv k (by rw [e3];simp [hk])),hpv j (by rw [e3];simp)]
      rw [r.1];exact k3
     have:=hanc j r
     rw [hl'] at this;simp at this)
    have hpvl:∀ k,lis[k]?=some true→pv2 k=pv k:=fun k hk=>by
     rcases h.done k hk with this|this
     ·rw [q6 k (by simp [this]),hpv k this]
     rw [this.1,q11,hpz this.2]
    have hpv2i:pv2 i=v:=by rw [q6 i by19,hpi]
    obtain ⟨s1,s2⟩:=slots_nextF (al:=al) hfl ho hni h.tmps hF2 (pv:=pv) (pv':=pv2) (by rw [hpv2i];exact hr) hpvl m4 m5
    have hl0:pd≠none→(lis.setIfInBounds i true)[i0]?=some true:=fun hp=>by
     cases hq:pd with
     | none=>exact absurd hq hp
     | some b=>rw [Ym hni,(h.pnd b hq).2.1];split <;> rfl
    refine ih _ _ _ pr2 rest2 pv2 M3 L2 pd3 hcount ⟨by simpa using h.size,hclosed,by cases o.dst <;> exact h.defers,by cases o.dst <;> simp [Act.put,h.tmps],q1,fun k hk=>?_,fun k hk hkw=>?_,fun b hb=>?_,q2,q3,q0,q7,F2,m1.trans hF2,?_,m3.trans hb2,s1,s2⟩
    ·rw [Ym hni] at hk
     split at hk
     ·rename_i e;subst e;exact .inl (q4 _ by19)
     rcases h.done k hk with this|this
     ·exact .inl (q4 k (by simp [this]))
     rcases q9 this.2 with r|r
     ·exact .inr ⟨this.1,r⟩
     rw [this.1];exact .inl r
    ·rcases q5 k hk hkw with this|this
     ·rw [Ym hni]
      rcases List.mem_append.1 this with r|r
      ·rw [h.wild k r hkw];split <;> rfl
      simp at r;rw [if_pos r.symm]
     rw [this.1];exact hl0 this.2
    ·obtain ⟨b1,b2⟩:=q8 b hb
     exact ⟨b2,hl0 (by rw [b1];simp),by rw [q11,hpz (by rw [b1];simp)];exact (h.pnd b b1).2.2⟩
    rw [← List.append_assoc,q10,List.append_assoc,hMF];exact hi2
   unfold wpOpIn
   simp only [List.getElem?_toArray,ho]
   by_cases hz:i=i0
   ·rw [if_pos hz] at he
    have hpd0:pd=none:=by
     cases hq:pd with
     | none=>rfl
     | some b=>exact absurd hz (hpd b hq).1
    obtain ⟨hg,hop⟩:=hfree o (by rw [← hz];exact ho)
    rw [if_pos (by simp [Region.wanted,hg])]
    refine wp_exits (Oper.wpIn_mono ?_ (hop n B F0 (M++MF) a w (by simpa using m2) ⟨h.tmps,fun t v e=>by simp at e⟩ ro))
    rintro a' w' ⟨u,v,M',F2,rfl,⟨b,rfl,rfl⟩,hr,hF2,hi2,hb2⟩
    refine fin u (.ptr b 0) F2 w' (M++[.loc b cs0]) hr hF2 (hi2.perm ?_) hb2 L (he b) (fun x hx=>by have:=h.lenL x hx;simp;omega) (fun i' fp hl' hfp=>.inl ⟨fpm_app (fun p hp=>h.lenL (i',p) (hfp p hp)),hfp⟩)
    have:(Res.loc b cs0::(M++MF)).Perm (M++Res.loc b cs0::MF):=List.perm_middle.symm
    simpa using this
   rw [if_neg hz,if_pos (by simpa using hiw)] at he
   obtain ⟨hg,he⟩:=he
   rw [if_pos (by simp [Region.wanted,hg])]
   rcases he with ⟨k,r,hk,hL,hop⟩|hop
   ·have hperm:(M++MF).Perm ([r]++(M.eraseIdx k++MF)):=by
     have:=(perm_at hk).append_right MF
     simpa using this
    have hkl:k<M.length:=get_lt hk
    refine wp_exits (Oper.wpIn_mono ?_ (hop n B F0 (M.eraseIdx k++MF) a w (m2.perm hperm) hslots ro))
    rintro a' w' ⟨u,v,M',F2,rfl,⟨r',rfl,heo⟩,hr,hF2,hi2,hb2⟩
    refine fin u v F2 w' (M.set k r') hr hF2 (hi2.perm ?_) hb2 L heo (by simpa using h.lenL) (fun i' fp hl' hfp=>?_)
    ·have:=((perm_set r' hkl).append_right MF).symm
     simpa using this
    cases fp with
    | none=>exact Or.inl ⟨rfl,hfp⟩
    | some p =>
     by_cases e:p=k
     ·right
      have:=List.all_eq_true.1 hL (i',p) (hfp p rfl)
      simpa [e] using this
     left
     refine ⟨?_,hfp⟩
     simp only [fpm]
     rw [List.getElem?_set_ne (fun q=>e q.symm)]
   refine wp_exits (Oper.wpIn_mono ?_ (hop n B F0 (M++MF) a w (by simpa using m2) hslots ro))
   rintro a' w' ⟨u,v,M',F2,rfl,heo,hr,hF2,hi2,hb2⟩
   refine fin u v F2 w' (M++M') hr hF2 (hi2.perm ?_) hb2 L heo (fun x hx=>by have:=h.lenL x hx;simp;omega) (fun i' fp hl' hfp=>?_)
   ·rw [List.append_assoc]
    exact (List.perm_append_comm_assoc _ _ _)
   exact .inl ⟨fpm_app (fun p hp=>h.lenL (i',p) (hfp p hp)),hfp⟩
  -- an operation that does not write: it has been gone through
  obtain ⟨MF,hMF⟩:∃ MF,pdM cs0 pd++Mf=MF:=⟨_,rfl⟩
  rw [hMF] at m2
  have hiz:i≠i0:=fun e=>hiw (by rw [e];exact hfl.free)
  have hipr:i∈pr:=by
   have:=hio
   rw [h.ord] at this
   rcases List.mem_append.1 this with k|k
   ·exact k
   exfalso
   rcases h.next with q|⟨j,r,q,hjw,qz⟩
   ·rw [q] at k;simp at k
   have hsp:ord=pr++j::r:=by rw [h.ord,q]
   rw [q] at k
   rcases List.mem_cons.1 k with e|e
   ·subst e;exact hiw hjw
   have hb:=(befo_split hfl.nodup hsp (k:=i)).2 e
   rcases hfl.wild j hjw i hil with k|k|k|k
   ·subst k;exact hiw hjw
   ·rw [hb] at k;simp at k
   ·rcases h.done j (hanc j k) with this|this
    ·have hnd:=hfl.nodup
     rw [hsp,List.nodup_append] at hnd
     exact hnd.2.2 j this j by19 Y
    exact this.2 (qz this.1)
   exact hiz k
  obtain ⟨p1,p2,hp⟩:=List.append_of_mem hipr
  obtain ⟨o',fp,ho',hfp,hst⟩:=h.steps p1 i p2 hp hiw hni
  rw [ho] at ho';simp at ho';subst ho'
  have hsp:ord=p1++i::(p2++rest):=by rw [h.ord,hp];simp
  have hsees:=seesF (pv:=pv) hfl h.size h.closed m4 m5 ho hni hrd hsp
  have hslots:Slots n F0 ((putsI l pv p1 al).only (Oper.tmps o)) a.tmps:=by
   refine ⟨h.tmps,fun t v' e=>?_⟩
   rw [only_lookup] at e
   split at e
   ·rename_i hc
    exact hsees t (by unfold Oper.sees;exact List.mem_append_left _ (by simpa using hc)) v' e
   simp at e
  have hperm:∃ Mr,(M++MF).Perm (fpm M fp++(Mr++MF))∧M.Perm (fpm M fp++Mr):=by
   cases fp with
   | none=>exact ⟨M,by simp [fpm],by simp [fpm]⟩
   | some k =>
    cases hk:M[k]? with
    | none=>exact ⟨M,by simp [fpm,hk],by simp [fpm,hk]⟩
    | some r =>
     have:=perm_at hk
     refine ⟨M.eraseIdx k,?_,by simpa [fpm,hk] using this⟩
     have:=this.append_right MF
     simpa [fpm,hk] using this
  obtain ⟨Mr,hp1,hp2⟩:=hperm
  have next:∀ (u:Value) (F2:EH) (w':World),Rel F2 (pv i) u→Ext F0 F2→Inv B F2 (M++MF) w'→Below B w w'→wpAnyIn (RF ro) 0 P .any l.toArray Q fuel (lis.setIfInBounds i true) (a.put o.dst u) w':=by
   intro u F2 w' hr hF2 hi2 hb2
   obtain ⟨s1,s2⟩:=slots_nextF (al:=al) hfl ho hni h.tmps hF2 (pv:=pv) (pv':=pv) hr (fun _ _=>rfl) m4 m5
   refine ih _ _ _ pr rest pv M L pd hcount ⟨by simpa using h.size,hclosed,by cases o.dst <;> exact h.defers,by cases o.dst <;> simp [Act.put,h.tmps],h.ord,fun k hk=>?_,fun k hk hkw=>?_,fun b hb=>?_,h.next,h.eops,h.lenL,fun q1 j q2 hq hj hl=>h.steps q1 j q2 hq hj (hone j hl),F2,m1.trans hF2,by rw [hMF];exact hi2,m3.trans hb2,s1,s2⟩
   ·rw [Ym hni] at hk
    split at hk
    ·rename_i e;subst e;exact .inl hipr
    exact h.done k hk
   ·rw [Ym hni,h.wild k hk hkw];split <;> rfl
   obtain ⟨b1,b2,b3⟩:=h.pnd b hb
   exact ⟨b1,by rw [Ym hni,b2];split <;> rfl,b3⟩
  have done:∀ (o':Oper),o'.dst=o.dst→OpT P o' ((putsI l pv p1 al).only (Oper.tmps o)) (fpm M fp) (fun v' M'=>v'=pv i∧M'=fpm M fp)→o'.wpIn (RF ro) 0 P a w (wpAnyIn (RF ro) 0 P .any l.toArray Q fuel (lis.setIfInBounds i true)) Q:=by
   intro o' hd' hop
   refine wp_exits (Oper.wpIn_mono ?_ (hop n B F0 (Mr++MF) a w (m2.perm hp1) hslots ro))
   rintro a' w' ⟨u,v',M',F2,rfl,⟨rfl,rfl⟩,hr,hF2,hi2,hb2⟩
   rw [hd']
   exact next u F2 w' hr hF2 (hi2.perm hp1.symm) hb2
  have skip:pv i=.val undef→wpAnyIn (RF ro) 0 P .any l.toArray Q fuel (lis.setIfInBounds i true) (a.put o.dst undef) w:=by
   intro e
   exact next undef F0 w (by rw [e];exact .val _) (Ext.refl _) m2 (Below.refl _ _)
  unfold wpOpIn
  simp only [List.getElem?_toArray,ho]
  unfold DStep at hst
  cases hg:o.guard with
  | none =>
   rw [hg] at hst
   rw [if_pos (by simp [Region.wanted,hg])]
   exact done o Y hst
  | some gb =>
   obtain ⟨g,b⟩:=gb
   rw [hg] at hst
   obtain ⟨t,ht,hst⟩:=hst
   have htin:t∈Oper.sees l o:=by
    unfold Oper.sees
    rw [hg]
    exact List.mem_append_right _ (by simp [ht])
   have slot:∀ x,(putsI l pv p1 al).lookup t=some (.val x)→a.tmps[t]?=some x:=by
    intro x hx
    obtain ⟨q1,q2⟩:=hsees t htin _ hx
    have h4:t<a.tmps.size:=by rw [h.tmps];exact q1
    generalize hy:a.tmps.getD t undef=y at q2
    cases q2
    rw [Array.getElem?_eq_getElem h4]
    simpa [Array.getD,h4] using hy
   have want:∀ x,a.tmps[t]?=some x→Region.wanted o (yielded l.toArray a.tmps)=((match some x with|some (.bool b)=>some b|_=>none) == some b):=by
    intro x hx
    simp only [Region.wanted,hg,yielded,List.getElem?_toArray,ht,Option.bind_some,hx]
    cases x <;> rfl
   obtain ⟨h1,h2⟩|⟨h1,h2⟩:=hst
   ·rw [if_pos (by rw [want _ (slot _ h1)];simp)]
    exact done { o with guard:=none } rfl h2
   rcases h1 with h1|h1
   ·rw [if_neg (by rw [want _ (slot _ h1)];cases b <;> simp)]
    exact ⟨fun _ _=>trivial,skip h2⟩
   rw [if_neg (by rw [want _ (slot _ h1)];simp [undef])]
   exact ⟨fun _ _=>trivial,skip h2⟩
theorem ACode.drawnEF {ro:Option Nat} {Q:Exit→Sl→Mem→Prop} {id:Nat} {M:Mem} (ord ws:List Nat) (anc:List (List Nat)) (i0:Nat) {cs0:List AV} {o0:Oper} {t:TypeId} {z:Value} (hmix:P.follows .mixedOrders=true) (hfl:flowEF n l ord ws anc i0=true) (h0:l[i0]?=some o0) (hg0:o0.guard=none) (hop:o0.op=.alloc t) (hz:tyZero P t=some z) (hf:(AV.val z).flat=true) (hc:(AV.val z).cells=cs0) (h:EOpsF P l ws anc i0 cs0 (Q .normal) ord al M []):ACode ro P n (.region id l.toArray true) Q al M:=by
 intro B F Mf a w hi hs
 have hF:=FlowEF.of hfl
 have hfree:∀ o,l[i0]?=some o→o.guard=none∧OpT P o [] [] (fun v M'=>∃ b,v=.ptr b 0∧M'=[.loc b cs0]):=fun o ho=>by
  rw [h0] at ho;simp at ho;subst ho
  exact ⟨hg0,Yl (M:=[]) hop hz hf hc (fun b=>⟨b,Y,Y⟩)⟩
 obtain ⟨pr,rest,pv,L,M',pd,q1,q2,q3,q0,_,q5,_,q7,q8,_,q10,_⟩:=advanceF (P:=P) (QQ:=Q .normal) (al:=al) (anc:=anc) (l:=l) (ws:=ws) (cs0:=cs0) hF.nodup hF.free (Array.replicate l.length false) ord [] (fun _=>.val undef) [] M none rfl (fun b hb=>by simp at hb) h by19 (by intro p1 i p2 e;simp at e)
 have hpd:pd=none:=by
  cases hq:pd with
  | none=>rfl
  | some b=>have:=(q8 b hq).1;simp at this
 subst hpd
 simp only [pdM,List.append_nil] at q10
 subst q10
 refine wpIn_region_any hmix (region_flowEF (ds:=a.defers) (P:=P) (QQ:=Q .normal) (al:=al) (B:=B) (F:=F) (Mf:=Mf) (w0:=w) (cs0:=cs0) hF hfree ?_ _ _ _ _ pr rest pv M' L none ?_ ?_)
 ·intro a' w' pr pv M L hat
  obtain ⟨F',m1,m2,m3,m4,m5⟩:=hat.mem
  have he:=hat.eops
  refine ⟨[],F',_,M,he,m1,by simpa [pdM] using m2,⟨hat.tmps,fun t v e=>?_⟩,hat.defers,m3⟩
  have hall:∀ j,j<l.length→(Array.replicate l.length true)[j]?=some true:=fun j hj=>by simp [hj]
  obtain ⟨j,o,k0,k1,k3,k4⟩|⟨k1,k2⟩:=putsI_lookup l pv pr al t
  ·rw [k4] at e
   simp at e;subst e
   exact m5 j o t k1 k3 (hall j (get_lt k1))
  rw [k2] at e
  refine m4 t v e (fun j o hj hdj=>?_)
  rcases hat.done j (hall j (get_lt hj)) with q|q
  ·exact absurd hdj (k1 j o q hj)
  exact absurd Y q.2
 ·have:=List.length_filter_le (fun j => !((Array.replicate l.length false)[j]? == some true)) (List.range l.length)
  simpa using this
 have hno:∀ k:Nat,(Array.replicate l.length false)[k]?≠some true:=by
  intro k hk
  rw [Array.getElem?_replicate] at hk;split at hk <;> simp at hk
 refine ⟨by simp,fun k o hk hlk=>absurd hlk (hno k),Y,hs.1,q1,fun k hk=>absurd hk (hno k),fun k hk hkw=>?_,fun b hb=>by simp at hb,q2,q3,q0,q7,F,Ext.refl F,by simpa [pdM] using hi.drew,(Below.refl _ _).drew,fun t v e _=>hs.2 t v e,fun j o t hj _ hlj=>absurd hlj (hno j)⟩
 have:=q5 k hk hkw
 simp at this
theorem c_drawnEF {ro:Option Nat} {ks:List Kont} {Q:Exit→Sl→Mem→Prop} {id:Nat} {M:Mem} (ord ws:List Nat) (anc:List (List Nat)) (i0:Nat) {cs0:List AV} {o0:Oper} {t:TypeId} {z:Value} (hmix:P.follows .mixedOrders=true) (hfl:flowEF n l ord ws anc i0=true) (h0:l[i0]?=some o0) (hg0:o0.guard=none) (hop:o0.op=.alloc t) (hz:tyZero P t=some z) (hf:(AV.val z).flat=true) (hc:(AV.val z).cells=cs0) (h:EOpsF P l ws anc i0 cs0 (AGo ro P n ks Q) ord al M []):ACode ro P n (.region id l.toArray true) (after ro P n ks Q) al M:=ACode.drawnEF ord ws anc i0 hmix hfl h0 hg0 hop hz hf hc h
variable {M:Mem} {L:List (Nat × Nat)} {o:Oper}
theorem EOpsF.d {v:AV} {i:Nat} (d:Nat) (fp:Option Nat) (hz:Nat.beq i i0=false) (hi:l[i]?=some o) (hw:ws.contains i=false) (hg:o.guard=none) (hd:o.dst=some d) (hfp:fp.all (fun k=>Nat.blt k M.length)=true) (h:OpT P o (al.only (Oper.tmps o)) (fpm M fp) (fun v' M'=>v'=v∧M'=fpm M fp)) (q:EOpsF P l ws anc i0 cs0 QQ ord ((d,v)::al) M ((fp.toList.map fun k=>(i,k))++L)):EOpsF P l ws anc i0 cs0 QQ (i::ord) al M L :=
 ⟨o,hi,by rw [if_neg (Nat.ne_of_beq_eq_false hz),if_neg (by rw [hw];simp)];exact ⟨fp,v,hfp,by unfold DStep;rw [hg];exact h,by rw [hd];exact q⟩⟩
theorem EOpsF.w {i:Nat} {r:Res} (k:Nat) (hz:Nat.beq i i0=false) (hi:l[i]?=some o) (hw:ws.contains i=true) (hg:o.guard=none) (hr:M[k]?=some r) (hL:(L.all fun x=>x.2 != k ||(anc.getD i []).contains x.1)=true) (h:OpT P o (al.only (Oper.tmps o)) [r] (fun v M'=>∃ r',M'=[r']∧EOpsF P l ws anc i0 cs0 QQ ord (al.put o.dst v) (M.set k r') L)):EOpsF P l ws anc i0 cs0 QQ (i::ord) al M L :=
 ⟨o,hi,by rw [if_neg (Nat.ne_of_beq_eq_false hz),if_pos hw];exact ⟨hg,.inl ⟨k,r,hr,hL,h⟩⟩⟩
theorem EOpsF.nw {i:Nat} (hz:Nat.beq i i0=false) (hi:l[i]?=some o) (hw:ws.contains i=true) (hg:o.guard=none) (h:OpT P o (al.only (Oper.tmps o)) [] (fun v M'=>∃ r',M'=[r']∧EOpsF P l ws anc i0 cs0 QQ ord (al.put o.dst v) (M++[r']) L)):EOpsF P l ws anc i0 cs0 QQ (i::ord) al M L :=
 ⟨o,hi,by rw [if_neg (Nat.ne_of_beq_eq_false hz),if_pos hw];exact ⟨hg,.inr (OpT.mono h (by rintro v M' ⟨r',rfl,h⟩;exact h))⟩⟩
theorem EOpsF.free {i d:Nat} (hz:i=i0) (hi:l[i]?=some o) (hd:o.dst=some d) (q:∀ b,EOpsF P l ws anc i0 cs0 QQ ord ((d,.ptr b 0)::al) (M++[.loc b cs0]) L):EOpsF P l ws anc i0 cs0 QQ (i::ord) al M L :=
 ⟨o,hi,by rw [if_pos hz,hd];exact q⟩

end
theorem clsL_err {L:List Tok} {f:Nat} {p:PS} {ms:List Me} {ds:List Bi} (h:p.e≠0):clsL L f p ms ds=((ms,ds),p):=by
 cases f with
 | zero=>rfl
 | succ f=>rw [clsL,if_pos h]
theorem clsL_end {L:List Tok} {f:Nat} {p:PS} {ms:List Me} {ds:List Bi} (h:p.e=0) (h2:isP L p kEnd=true):clsL L (f+1) p ms ds=((ms,ds),stepP p):=by rw [clsL,if_neg (by rw [h];simp),if_pos h2]
theorem Me.cellss_app' (a b:List Me):Me.cellss (a++b)=Me.cellss a++Me.cellss b:=by simp [Me.cellss]
abbrev zCl:List AV:=[.val (.string kE),.val (.string kE),.val (.slice none 0 0),.val (.slice none 0 0),.val (.slice none 0 0),.val (.int .i64 0)]
theorem class_b (b:Nat) (L:List Tok) (hL:L.length≤100000) (p:PS) (k:POk L 302 p) (c17:Bool) (h3:isP L (takeP L (takeP L p 2 kE).2 1 kE).2 kFrom=c17):MCall Tryz.prog 16 [.ptr b 0] (.loc b (psC L p)) (.agg (classP L p).1.cells) (.loc b (psC L (classP L p).2)):=by
 have H1:=take_c b L hL p k.1 2 kE
 have k1:=(Zj (kind:=2) (s:=kE) by17 k).ok k
 obtain ⟨r,hr⟩:∃ r,classP L p=r:=⟨_,rfl⟩
 rw [hr]
 unfold classP at hr
 simp only [] at hr
 obtain ⟨⟨⟨tk,tt,tn,ta⟩,p1⟩,e1⟩:∃ r,takeP L p 2 kE=r:=⟨_,rfl⟩
 rw [e1] at H1 k1 hr h3
 simp only [Tok.av] at H1 k1 hr h3
 have H2:=take_c b L hL p1 k1.1 1 kE
 have k2:=(Zj (kind:=1) (s:=kE) by17 k1).ok k1
 obtain ⟨⟨⟨vk,vt,vn,va⟩,p2⟩,e2⟩:∃ r,takeP L p1 1 kE=r:=⟨_,rfl⟩
 rw [e2] at H2 k2 hr h3
 simp only [Tok.av] at H2 k2 hr h3
 have HM:=may_eq (b:=b) hL h3
 have k3:=(supers_adv k2).ok k2
 obtain ⟨⟨sl,p3⟩,e3⟩:∃ r,supersP L p2=r:=⟨_,rfl⟩
 rw [e3] at k3 hr
 simp only [] at k3 hr
 have e3:(if c17=true then uppersP L (stepP p2) else ([],p2))=(sl,p3):=by rw [← e3,supersP,h3]
 have H4:=take_c b L hL p3 k3.1 6 kWhere
 have k4:=(Zj (kind:=6) (s:=kWhere) by17 k3).ok k3
 obtain ⟨⟨u4,p4⟩,e4⟩:∃ r,takeP L p3 6 kWhere=r:=⟨_,rfl⟩
 rw [e4] at H4 k4 hr
 simp only [] at H4 k4 hr
 obtain ⟨⟨⟨ml,dl⟩,p5⟩,e5⟩:∃ r,clsL L (L.length+1) p4 [] []=r:=⟨_,rfl⟩
 rw [e5] at hr
 simp only [] at hr
 refine Zc Tryz.func16 Y (by kernel_rfl) Y (Xm Y) ?_
 refine Qn ?_
 refine Zb 2 Y Y Y (Yl (cs':=[_,_,_,_,_,_]) Y tz_77 Y Y ?_);intro b2
 refine Qt ?_
 refine Zb 7 Y Y Y (Zf (xs:=[.tmp 6,.const (.int .i64 2),.const (.string ⟨#[]⟩)]) (i:=1) Y Y Y (H1) by3 ?_)
 refine Qz ?_;intro b3
 refine Q6 ?_
 refine Qv ?_
 refine c_drawnEF [0,1,2,5,6,3,4,7,8,9] [3,8,9] [[],[0],[],[2],[2,3],[],[5],[0,1,2,3,4,5,6],[],[0,1,2,3,4,5,6,7,8]] 8 (cs0:=[_,_,_,_,_,_]) tmix Y Y Y Y tz_77 Y Y (EOpsF.d 8 (none) (i:=0) Y Y Y Y Y Y (op_fieldAddr_m Y tf_72_1 Y ⟨Y,Y⟩) ?_)
 refine EOpsF.d 9 (some 0) (i:=1) Y Y Y Y Y Y (Yn (i:=0) Y ta_9 Y Y Y ⟨Y,Y⟩) ?_
 refine EOpsF.d 10 (none) (i:=2) Y Y Y Y Y Y (op_move Y Y ⟨Y,Y⟩) ?_
 refine EOpsF.d 13 (none) (i:=5) Y Y Y Y Y Y (op_fieldAddr_m Y tf_72_3 Y ⟨Y,Y⟩) ?_
 refine EOpsF.d 14 (some 0) (i:=6) Y Y Y Y Y Y (Yn (i:=0) Y ta_3 Y Y Y ⟨Y,Y⟩) ?_
 refine EOpsF.w 2 (i:=3) Y Y Y Y Y Y (Zf (xs:=[.tmp 10,.const (.int .i64 1),.const (.string ⟨#[]⟩)]) (i:=0) Y Y Y (H2) by3 ⟨_,Y,?_⟩)
 refine EOpsF.d 12 (none) (i:=4) Y Y Y Y Y Y (op_field1 (ft:=9) (fo:=1) Y (by kernel_rfl) ta_9 Y Y ⟨Y,Y⟩) ?_
 refine EOpsF.d 15 (none) (i:=7) Y Y Y Y Y Y (Zk (ns:=[0,1,5]) (xs:=[.tmp 9,.tmp 12,.tmp 14]) Y tz_77 Y tfl_77 Y Y Y Y ⟨Y,Y⟩) ?_
 refine EOpsF.free (i:=8) Y Y Y ?_;intro b4
 refine EOpsF.w 3 (i:=9) Y Y Y Y Y Y (Zi (cs':=[_,_,_,_,_,_]) (i:=0) Y ts_77 Y Y Y Y Y (Xm Y) Y ⟨_,Y,?_⟩)
 show AGo _ _ _ _ _ _ _
 refine Qc ?_
 refine Qw ?_
 refine Zb 17 Y Y Y (Zf (xs:=[.tmp 16,.const (.string ⟨#[102,114,111,109]⟩)]) (i:=2) Y Y Y (HM) by3 ?_)
 refine Qa ?_
 apply c_joink (rg [(1,1),(3,1),(6,15),(22,1),(45,1),(59,1)]) (σ:=Unit) (fun zz=>match zz with|z=>[]) (fun zz=>match zz with|z=>[.loc b3 (Tok.mk tk tt tn ta).av,.loc b2 zCl,.loc b (psC L p3),.loc b4 [.val (.string tt),.val (.string vt),.seq 1 (strs sl),.val (.slice none 0 0),.val (.slice none 0 0),.val (.int .i64 ta)]]) (fun zz=>match zz with|z=>True)
 ·repeat' (first|exact Xp|apply Xn rfl|apply Xo rfl)
 ·skip
  rcases c17 with _|_
  ·refine Qbx ?_
   first
   | exact ⟨(),trivial,by6,Xf rfl⟩
   |(rw [if_neg by17] at e3;cases e3;exact ⟨(),trivial,by6,(Xc _ (Xc _ (Xc _ (Xe _ by2 (MLe.nil)))))⟩)
  refine Qh ?_
  rw [if_pos rfl] at e3
  have kA:=(Zw k2 h3).ok k2
  have HU:=uppers_c b L hL 302 (stepP p2) kA
  rw [e3] at HU
  refine Qe ?_
  refine Zb 19 Y Y Y (Zf (xs:=[.tmp 18]) (i:=2) Y Y Y (HU) by3 ?_)
  refine Qu ?_
  refine Zp Y Y (Zi (cs':=[_,_,_,_,_,_]) (i:=3) Y ts_31 Y Y Y Y Y (Xm Y) Y ?_)
  refine Qac ?_
  refine go_lp ?_
  first
  | exact ⟨(),trivial,by6,Xf rfl⟩
  |(rw [if_neg by17] at e3;cases e3;exact ⟨(),trivial,by6,(Xc _ (Xc _ (Xc _ (Xe _ by2 (MLe.nil)))))⟩)
 rintro z hI
 try dsimp only [List.cons_append,List.nil_append] at hI ⊢
 refine Qc ?_
 refine QJ ?_
 refine Zb 22 Y Y Y (Zf (xs:=[.tmp 21,.const (.int .i64 6),.const (.string ⟨#[119,104,101,114,101]⟩)]) (i:=2) Y Y Y (H4) by3 ?_)
 refine Qbh ?_
 refine Yb 105 6 (Yb 60 13 ?_)
 apply Ye (rg [(1,1),(3,1),(5,55)]) (σ:=PS × Nat × List Me × List Bi × Value × Value) (fun zz=>match zz with|(q,f,ms,ds,u,v)=>[]) (fun zz=>match zz with|(q,f,ms,ds,u,v)=>[.loc b3 (Tok.mk tk tt tn ta).av,.loc b2 zCl,.loc b (psC L q),.loc b4 [.val (.string tt),.val (.string vt),.seq 1 (strs sl),.own u 6 (Me.cellss ms),.own v 13 (Bi.cellss ds),.val (.int .i64 ta)],.own 105 6 u,.own 60 13 v]) (fun zz=>match zz with|(q,f,ms,ds,u,v)=>POk L 302 q∧(q.e=0→L.length - q.at_<f∧ms.length+ds.length≤q.at_)∧clsL L f q ms ds=((ml,dl),p5)) (fun zz=>match zz with|(q,f,ms,ds,u,v)=>f) ((p4,L.length+1,[],[],.slice none 0 0,.slice none 0 0))
 ·repeat' (first|exact Xp|apply Xn rfl|apply Xo rfl)
 ·exact ⟨k4,fun _=>⟨by omega,Nat.zero_le _⟩,e5⟩
 ·exact by6
 ·exact (Xc _ (Xc _ (Xc _ (Xe _ (Xi (Xg _) (Xi (Xg _) (Xi (Xg _) (Xi (Le.nilOwn 6) (Xi (Le.nilOwn 13) (Xh _)))))) (MLe.refl _)))))
 rintro ⟨q,f,ms,ds,u,v⟩ hI
 try dsimp only [List.cons_append,List.nil_append] at hI ⊢
 obtain ⟨i1,i2,hu⟩:=hI
 have hq1:=i1.1
 refine Qw ?_
 refine QbZ ?_
 refine Qj ?_;intro c27 h27
 refine Qb ?_
 obtain ⟨rfl,g27⟩|⟨rfl,g27⟩:=Za h27
 ·skip
  refine QaL ?_
  refine QcA ?_
  refine QaE ?_
  refine Qo ?_
  refine Qfc ?_
  refine Qfd ?_
  refine Ql ?_
  first
  |(rw [clsL_err g27] at hu;cases hu;subst hr;exact Zn (i:=1) rfl rfl rfl ta_77 rfl by2 (Xd _ (Xd _ (Xc _ (Xb _)))) ⟨rfl,rfl⟩)
  |(obtain ⟨f,rfl⟩:∃ f',f=f'+1:=⟨f - 1,by have:=(i2 g27).1;omega⟩;rw [clsL_end g27 g30] at hu;cases hu;subst hr;exact Zn (i:=1) rfl rfl rfl ta_77 rfl by2 (Xd _ (Xd _ (Xc _ (Xb _)))) ⟨rfl,rfl⟩)
 skip
 refine Qd ?_
 refine Zm 30 Y Y Y Y Y (op_mayc (xs:=[.tmp 29,.const (.string ⟨#[101,110,100]⟩)]) (i:=2) Y Y Y (may_c b L hL q kEnd) by3 ?_ ?_)
 ·intro g30
  refine Qa5 ?_;intro c31 h31
  try replace h31:=nott h31 h30
  obtain rfl:c31=false:=by
   cases c31 with
   | false=>rfl
   | true=>exact absurd (h31.1 rfl) by17
  refine QcA ?_
  refine QaE ?_
  refine Qo ?_
  refine Qfc ?_
  refine Qfd ?_
  refine Ql ?_
  first
  |(rw [clsL_err g27] at hu;cases hu;subst hr;exact Zn (i:=1) rfl rfl rfl ta_77 rfl by2 (Xd _ (Xd _ (Xc _ (Xb _)))) ⟨rfl,rfl⟩)
  |(obtain ⟨f,rfl⟩:∃ f',f=f'+1:=⟨f - 1,by have:=(i2 g27).1;omega⟩;rw [clsL_end g27 g30] at hu;cases hu;subst hr;exact Zn (i:=1) rfl rfl rfl ta_77 rfl by2 (Xd _ (Xd _ (Xc _ (Xb _)))) ⟨rfl,rfl⟩)
 intro g30
 refine Qa5 ?_;intro c31 h31
 try replace h31:=nott h31 h30
 obtain rfl:c31=true:=h31.2 rfl
 refine QcA ?_
 refine Qab ?_
 refine QL ?_
 obtain ⟨i3,i4⟩:=i2 g27
 have hl1:(Me.cellss ms).length≤200000:=by rw [Me.cellss_len];omega
 have hl2:(Bi.cellss ds).length≤200000:=by rw [Bi.cellss_len];omega
 obtain ⟨f,rfl⟩:∃ f',f=f'+1:=⟨f - 1,by omega⟩
 rw [clsL,if_neg (by rw [g27];simp),if_neg g30] at hu
 refine Qe ?_
 refine Zb 34 Y Y Y (op_mayc (xs:=[.tmp 33,.const (.string ⟨#[100,101,102]⟩)]) (i:=2) Y Y Y (may_c b L hL q kDef) by3 ?_ ?_)
 ·intro g34
  refine Qb1 ?_
  rw [if_pos g34] at hu
  have l1:=(Zw i1 g34).ok i1
  have l2:=(bindP_adv l1).ok l1
  have b1:(stepP q).at_≤_:=(bindP_adv l1).1
  have b1':(stepP q).at_=q.at_+1:=rfl
  have HB:=bindP_c b L hL (stepP q) l1
  obtain ⟨⟨⟨bn,⟨xk,xs,xn,⟨xtk,xts,xtn,xtl⟩,xks,xal,xbs,xp⟩,bp⟩,q2⟩,f2⟩:∃ r,bindP L (stepP q)=r:=⟨_,rfl⟩
  rw [f2] at HB l2 b1 hu
  simp only [Bi.cells,Ex.cells,Ty.cells,List.cons_append,List.nil_append] at HB l2 b1 hu
  have b2':q.at_≤q2.at_:=by omega
  have HS:=take_c b L hL q2 l2.1 7 kSemi
  have hpr:=take_prog (L:=L) (p:=q2) (kind:=7) (s:=kSemi) by17
  have l5:=(Zj (kind:=7) (s:=kSemi) by17 l2).ok l2
  obtain ⟨⟨u6,q5⟩,f5⟩:∃ r,takeP L q2 7 kSemi=r:=⟨_,rfl⟩
  rw [f5] at HS hpr l5 hu
  simp only [Prod.mk.injEq] at HS hpr l5 hu
  refine QdZ ?_
  refine QB ?_
  refine Qfe ?_
  refine Qp ?_
  refine Zs 2 (i:=3) Y Y Y Y Y (Zf (xs:=[.tmp 37]) (i:=0) Y Y Y (HB) by3 ⟨_,Y,?_⟩)
  refine Zh 39 (none) (i:=4) Y Y Y Y Y (Zd (xs:=[.tmp 38]) el_26 Y Y Y Y Y Y (Xm Y) ⟨Y,Y⟩) ?_
  refine Zs 5 (i:=5) Y Y Y Y Y (Zr (i:=0) el_26 Y Y Y Y (.seq _ _) by8 (fun u40=>⟨_,Y,?_⟩))
  refine QB ?_
  refine Zs 3 (i:=7) Y Y Y Y Y (Zi (cs':=[_,_,_,_,_,_]) (i:=0) Y ts_26 Y Y Y Y Y (Xm Y) Y ⟨_,Y,?_⟩)
  show AGo _ _ _ _ _ _ _
  refine Qc ?_
  first|(have:=HN;refine c_le (SLe.refl _) (Xd _ (MLe.refl _)) ?_)|skip
  refine Qe ?_
  refine Zb 59 Y Y Y (Zf (xs:=[.tmp 58,.const (.int .i64 7),.const (.string ⟨#[59]⟩)]) (i:=2) Y Y Y (HS) by3 ?_)
  refine Qa1 ?_
  first
  | exact ⟨(q5,f,ms,ds++[Bi.mk bn (Ex.mk xk xs xn (Ty.mk xtk xts xtn xtl) xks xal xbs xp) bp],u,u40),⟨l5,(fun e=>by obtain ⟨⟨_,h5⟩,_,h6⟩:=hpr e;rw [h5];refine ⟨?_,?_⟩;(show L.length - (q2.at_+1)<f;omega);(show ms.length+(ds++_).length≤q2.at_+1;rw [List.length_append];simp;omega)),hu⟩,Nat.lt_succ_self f,by6,(Xc _ (Xc _ (Xc _ (Xe _ (Xi (Xg _) (Xi (Xg _) (Xi (Xg _) (Xi (Xg _) (Xi (Xl by11) (Xh _)))))) (Xf rfl)))))⟩
  | exact ⟨(q5,f,ms++[Me.mk nt (Ty.mk yk ys yn yl) na],ds,u56,v),⟨l5,(fun e=>by obtain ⟨⟨_,h5⟩,_,h6⟩:=hpr e;rw [h5];refine ⟨?_,?_⟩;(show L.length - (q2.at_+1)<f;omega);(show (ms++_).length+ds.length≤q2.at_+1;rw [List.length_append];simp;omega)),hu⟩,Nat.lt_succ_self f,by6,(Xc _ (Xc _ (Xc _ (Xe _ (Xi (Xg _) (Xi (Xg _) (Xi (Xg _) (Xi (Xl (by rw [Me.cellss_app'];rfl)) (Xi (Xg _) (Xh _)))))) (Xf rfl)))))⟩
 intro g34
 refine Qa ?_
 refine QH ?_
 refine QG ?_
 rw [if_neg g34] at hu
 have HN:=pName_c b L hL 302 q i1
 have l1:=(name_adv i1).ok i1
 have b1:=(name_adv i1).1
 obtain ⟨⟨⟨nk,nt,nn,na⟩,q1⟩,f1⟩:∃ r,nameP L q=r:=⟨_,rfl⟩
 rw [f1] at HN l1 b1 hu
 simp only [Tok.av] at HN l1 b1 hu
 have HC:=take_c b L hL q1 l1.1 7 kColon
 have l2':=(Zj (kind:=7) (s:=kColon) by17 l1).ok l1
 have b2'':=(Zj (L:=L) (kind:=7) (s:=kColon) by17 l1).1
 obtain ⟨⟨u7,q3⟩,f3⟩:∃ r,takeP L q1 7 kColon=r:=⟨_,rfl⟩
 rw [f3] at HC l2' b2'' hu
 simp only [] at HC l2' b2'' hu
 have HT:=typeP_c b L hL 302 q3 l2'
 have l2:=(typeP_adv l2').ok l2'
 have b3':=(typeP_adv l2').1
 obtain ⟨⟨⟨yk,ys,yn,yl⟩,q2⟩,f2⟩:∃ r,typeP L q3=r:=⟨_,rfl⟩
 rw [f2] at HT l2 b3' hu
 simp only [Ty.cells] at HT l2 b3' hu
 have b2':q.at_≤q2.at_:=by omega
 have HS:=take_c b L hL q2 l2.1 7 kSemi
 have hpr:=take_prog (L:=L) (p:=q2) (kind:=7) (s:=kSemi) by17
 have l5:=(Zj (kind:=7) (s:=kSemi) by17 l2).ok l2
 obtain ⟨⟨u6,q5⟩,f5⟩:∃ r,takeP L q2 7 kSemi=r:=⟨_,rfl⟩
 rw [f5] at HS hpr l5 hu
 simp only [Prod.mk.injEq] at HS hpr l5 hu
 refine Qe ?_
 refine Zb 43 Y Y Y (Zf (xs:=[.tmp 42]) (i:=2) Y Y Y (HN) by3 ?_)
 refine Qz ?_;intro b5
 refine Q6 ?_
 refine Qt ?_
 refine Zb 45 Y Y Y (Zf (xs:=[.tmp 44,.const (.int .i64 7),.const (.string ⟨#[58]⟩)]) (i:=3) Y Y Y (HC) by3 ?_)
 refine Qa ?_
 refine Ya [0,1,2,3,4,6,7,5,8,9,10,11,12] [5,10,12] [[],[0],[],[2],[],[4],[],[6],[2,3,4,5,6,7],[2,3,4,5,6,7,8],[0,1,2,3,4,5,6,7,8,9],[0,1,2,3,4,5,6,7,8,9,10],[0,1,2,3,4,5,6,7,8,9,10,11]] tmix Y ?_
 refine QB ?_
 refine Zh 47 (some 4) (i:=1) Y Y Y Y Y (Yn (i:=0) Y ta_75 Y Y Y ⟨Y,Y⟩) ?_
 refine QbO ?_
 refine Qp ?_
 refine QbO ?_
 refine Zs 3 (i:=5) Y Y Y Y Y (Zf (xs:=[.tmp 50]) (i:=0) Y Y Y (HT) by3 ⟨_,Y,?_⟩)
 refine Zh 54 (none) (i:=8) Y Y Y Y Y (Zk (ns:=[0,1,2]) (xs:=[.tmp 49,.tmp 51,.tmp 53]) Y tz_105 Y tfl_105 Y Y Y Y ⟨Y,Y⟩) ?_
 refine Zh 55 (none) (i:=9) Y Y Y Y Y (Zd (xs:=[.tmp 54]) el_75 Y Y Y Y Y Y (Xm Y) ⟨Y,Y⟩) ?_
 refine Zs 5 (i:=10) Y Y Y Y Y (Zr (i:=0) el_75 Y Y Y Y (.seq _ _) by8 (fun u56=>⟨_,Y,?_⟩))
 refine QB ?_
 refine Zs 4 (i:=12) Y Y Y Y Y (Zi (cs':=[_,_,_,_,_,_]) (i:=0) Y ts_75 Y Y Y Y Y (Xm Y) Y ⟨_,Y,?_⟩)
 show AGo _ _ _ _ _ _ _
 refine Qc ?_
 first|(have:=HN;refine c_le (SLe.refl _) (Xd _ (MLe.refl _)) ?_)|skip
 refine Qe ?_
 refine Zb 59 Y Y Y (Zf (xs:=[.tmp 58,.const (.int .i64 7),.const (.string ⟨#[59]⟩)]) (i:=2) Y Y Y (HS) by3 ?_)
 refine Qa1 ?_
 first
 | exact ⟨(q5,f,ms,ds++[Bi.mk bn (Ex.mk xk xs xn (Ty.mk xtk xts xtn xtl) xks xal xbs xp) bp],u,u40),⟨l5,(fun e=>by obtain ⟨⟨_,h5⟩,_,h6⟩:=hpr e;rw [h5];refine ⟨?_,?_⟩;(show L.length - (q2.at_+1)<f;omega);(show ms.length+(ds++_).length≤q2.at_+1;rw [List.length_append];simp;omega)),hu⟩,Nat.lt_succ_self f,by6,(Xc _ (Xc _ (Xc _ (Xe _ (Xi (Xg _) (Xi (Xg _) (Xi (Xg _) (Xi (Xg _) (Xi (Xl by11) (Xh _)))))) (Xf rfl)))))⟩
 | exact ⟨(q5,f,ms++[Me.mk nt (Ty.mk yk ys yn yl) na],ds,u56,v),⟨l5,(fun e=>by obtain ⟨⟨_,h5⟩,_,h6⟩:=hpr e;rw [h5];refine ⟨?_,?_⟩;(show L.length - (q2.at_+1)<f;omega);(show (ms++_).length+ds.length≤q2.at_+1;rw [List.length_append];simp;omega)),hu⟩,Nat.lt_succ_self f,by6,(Xc _ (Xc _ (Xc _ (Xe _ (Xi (Xg _) (Xi (Xg _) (Xi (Xg _) (Xi (Xl (by rw [Me.cellss_app'];rfl)) (Xi (Xg _) (Xh _)))))) (Xf rfl)))))⟩
theorem class_c (b:Nat) (L:List Tok) (hL:L.length≤100000) (p:PS) (k:POk L 302 p):MCall Tryz.prog 16 [.ptr b 0] (.loc b (psC L p)) (.agg (classP L p).1.cells) (.loc b (psC L (classP L p).2)):=class_b b L hL p k _ rfl
theorem Le.own_less {u:Value} {m:Nat} {es es':List (List AV)} (h:Less es es'):Le (.own u m es) (.own u m es'):=fun F x k=>by
 cases k with|own _ k=>exact .own _ (Le.seq h _ _ k)
theorem Less.snoc {a b:List AV} (h:Les a b) (hl:a.length=b.length):∀ es:List (List AV),Less (es++[a]) (es++[b])
 | []=>.cons h hl .nil
 | _::es=>.cons (Xh _) rfl (Less.snoc h hl es)
theorem preds_snoc {u:Value} (acc:List Pr) (ct vt:ByteArray):Le (.own u 5 (Pr.cellss acc++[[.val (.string ct),.val (.int .i64 1),.val (.string vt),.val (.int .i64 0),.val (.slice none 0 0)]])) (.own u 5 (Pr.cellss (acc++[Pr.mk ct (Ty.mk 1 vt 0 [])]))):=by
 rw [show Pr.cellss (acc++[Pr.mk ct (Ty.mk 1 vt 0 [])])=Pr.cellss acc++[[.val (.string ct),.val (.int .i64 1),.val (.string vt),.val (.int .i64 0),.seq 4 []]] by simp [Pr.cellss,Pr.cells,Ty.cells,Ty.cellss]]
 exact Le.own_less (Less.snoc (Xi (Xg _) (Xi (Xg _) (Xi (Xg _) (Xi (Xg _) (Xi (Le.nil _) (Xh _)))))) Y _)
theorem ctxL_err {L:List Tok} {f:Nat} {p:PS} {acc:List Pr} (h:p.e≠0):ctxL L f p acc=(acc,p):=by
 cases f with
 | zero=>rfl
 | succ f=>rw [ctxL,if_pos h]
theorem insL_err {L:List Tok} {f:Nat} {p:PS} {bs:List Bi} (h:p.e≠0):insL L f p bs=(bs,p):=by
 cases f with
 | zero=>rfl
 | succ f=>rw [insL,if_pos h]
theorem insL_end {L:List Tok} {f:Nat} {p:PS} {bs:List Bi} (h:p.e=0) (h2:isP L p kEnd=true):insL L (f+1) p bs=(bs,stepP p):=by rw [insL,if_neg (by rw [h];simp),if_pos h2]
abbrev zIn:List AV:=[.val (.string kE),.val (.int .i64 0),.val (.string kE),.val (.int .i64 0),.val (.slice none 0 0),.val (.slice none 0 0),.val (.slice none 0 0),.val (.int .i64 0)]
theorem inst_b (b:Nat) (L:List Tok) (hL:L.length≤100000) (p:PS) (k:POk L 302 p) (c18:Bool) (h3:isP L (atypeG L (typeP L) (takeP L p 2 kE).2).2 kFrom=c18):MCall Tryz.prog 17 [.ptr b 0] (.loc b (psC L p)) (.agg (instP L p).1.cells) (.loc b (psC L (instP L p).2)):=by
 have H1:=take_c b L hL p k.1 2 kE
 have k1:=(Zj (kind:=2) (s:=kE) by17 k).ok k
 obtain ⟨r,hr⟩:∃ r,instP L p=r:=⟨_,rfl⟩
 rw [hr]
 unfold instP at hr
 simp only [] at hr
 obtain ⟨⟨⟨tk,tt,tn,ta⟩,p1⟩,e1⟩:∃ r,takeP L p 2 kE=r:=⟨_,rfl⟩
 rw [e1] at H1 k1 hr h3
 simp only [Tok.av] at H1 k1 hr h3
 have H2:=atype_c b L hL 302 (typeP L) (Type_c b L hL 302) typeP_adv' p1 k1
 have k2:=(atype_adv typeP_adv' k1).ok k1
 obtain ⟨⟨⟨hk,hs,hn,hl⟩,p2⟩,e2⟩:∃ r,atypeG L (typeP L) p1=r:=⟨_,rfl⟩
 rw [e2] at H2 k2 hr h3
 simp only [Ty.cells] at H2 k2 hr h3
 have HM:=may_eq (b:=b) hL h3
 have k3:=(ctx_adv k2).ok k2
 obtain ⟨⟨cxs,p3⟩,e3⟩:∃ r,ctxP L p2=r:=⟨_,rfl⟩
 rw [e3] at k3 hr
 simp only [] at k3 hr
 have e3:(if c18=true then ctxL L (L.length+1) (stepP p2) [] else ([],p2))=(cxs,p3):=by rw [← e3,ctxP,h3]
 have H4:=take_c b L hL p3 k3.1 6 kWhere
 have k4:=(Zj (kind:=6) (s:=kWhere) by17 k3).ok k3
 obtain ⟨⟨u4,p4⟩,e4⟩:∃ r,takeP L p3 6 kWhere=r:=⟨_,rfl⟩
 rw [e4] at H4 k4 hr
 simp only [] at H4 k4 hr
 obtain ⟨⟨bl,p5⟩,e5⟩:∃ r,insL L (L.length+1) p4 []=r:=⟨_,rfl⟩
 rw [e5] at hr
 simp only [] at hr
 refine Zc Tryz.func17 Y (by kernel_rfl) Y (Xm Y) ?_
 refine Qn ?_
 refine QcX ?_;intro b2
 refine Qt ?_
 refine Zb 9 Y Y Y (Zf (xs:=[.tmp 8,.const (.int .i64 2),.const (.string ⟨#[]⟩)]) (i:=1) Y Y Y (H1) by3 ?_)
 refine Qz ?_;intro b3
 refine Q6 ?_
 refine Qv ?_
 refine c_drawnEF [0,1,2,4,5,3,6,7,8] [3,7,8] [[],[0],[],[2],[],[4],[0,1,2,3,4,5],[],[0,1,2,3,4,5,6,7]] 7 (cs0:=[_,_,_,_,_,_,_,_]) tmix Y Y Y Y tz_49 Y Y (EOpsF.d 10 (none) (i:=0) Y Y Y Y Y Y (op_fieldAddr_m Y tf_72_1 Y ⟨Y,Y⟩) ?_)
 refine EOpsF.d 11 (some 0) (i:=1) Y Y Y Y Y Y (Yn (i:=0) Y ta_9 Y Y Y ⟨Y,Y⟩) ?_
 refine EOpsF.d 12 (none) (i:=2) Y Y Y Y Y Y (op_move Y Y ⟨Y,Y⟩) ?_
 refine EOpsF.d 14 (none) (i:=4) Y Y Y Y Y Y (op_fieldAddr_m Y tf_72_3 Y ⟨Y,Y⟩) ?_
 refine EOpsF.d 15 (some 0) (i:=5) Y Y Y Y Y Y (Yn (i:=0) Y ta_3 Y Y Y ⟨Y,Y⟩) ?_
 refine EOpsF.w 2 (i:=3) Y Y Y Y Y Y (Zf (xs:=[.tmp 12]) (i:=0) Y Y Y (H2) by3 ⟨_,Y,?_⟩)
 refine EOpsF.d 16 (none) (i:=6) Y Y Y Y Y Y (Zk (ns:=[0,1,4]) (xs:=[.tmp 11,.tmp 13,.tmp 15]) Y tz_49 Y tfl_49 Y Y Y Y ⟨Y,Y⟩) ?_
 refine EOpsF.free (i:=7) Y Y Y ?_;intro b4
 refine EOpsF.w 3 (i:=8) Y Y Y Y Y Y (Zi (cs':=[_,_,_,_,_,_,_,_]) (i:=0) Y ts_49 Y Y Y Y Y (Xm Y) Y ⟨_,Y,?_⟩)
 show AGo _ _ _ _ _ _ _
 refine Qc ?_
 refine Qw ?_
 refine Zb 18 Y Y Y (Zf (xs:=[.tmp 17,.const (.string ⟨#[102,114,111,109]⟩)]) (i:=2) Y Y Y (HM) by3 ?_)
 refine Qa ?_
 apply c_joink (rg [(1,1),(3,1),(5,39),(45,1),(57,1),(66,1)]) (σ:=Unit) (fun zz=>match zz with|z=>[]) (fun zz=>match zz with|z=>[.loc b3 (Tok.mk tk tt tn ta).av,.loc b2 zIn,.loc b (psC L p3),.loc b4 [.val (.string tt),.val (.int .i64 hk),.val (.string hs),.val (.int .i64 hn),.seq 4 (Ty.cellss hl),.seq 5 (Pr.cellss cxs),.val (.slice none 0 0),.val (.int .i64 ta)]]) (fun zz=>match zz with|z=>True)
 ·repeat' (first|exact Xp|apply Xn rfl|apply Xo rfl)
 ·skip
  rcases c18 with _|_
  ·refine Qbx ?_
   first
   |(rw [if_neg by17] at e3;cases e3;exact ⟨(),trivial,by6,(Xc _ (Xc _ (Xc _ (Xe _ by2 (MLe.nil)))))⟩)
   | (have hu2:(acc,q)=(cxs,p3):=by
       cases mo with
       | false=>exact hu
       | true=>rw [if_pos rfl,ctxL_err (fun e=>g26 ⟨rfl,e⟩)] at hu;exact hu
      simp only [Prod.mk.injEq] at hu2
      obtain ⟨rfl,rfl⟩:=hu2
      exact ⟨(),trivial,by6,(Xc _ (Xc _ (Xc _ (Xe _ by2 (Xd _ (MLe.nil))))))⟩)
  refine QaG ?_
  rw [if_pos rfl] at e3
  have kA:=(Zw k2 h3).ok k2
  refine QbU ?_
  refine Yb 97 5 ?_
  apply Ye (rg [(1,1),(3,1),(5,39),(45,1),(57,1),(66,1)]) (σ:=PS × Nat × List Pr × Value × Bool) (fun zz=>match zz with|(q,f,acc,u,mo)=>[(5,.val (.bool mo))]) (fun zz=>match zz with|(q,f,acc,u,mo)=>[.loc b3 (Tok.mk tk tt tn ta).av,.loc b2 zIn,.loc b (psC L q),.loc b4 [.val (.string tt),.val (.int .i64 hk),.val (.string hs),.val (.int .i64 hn),.seq 4 (Ty.cellss hl),.own u 5 (Pr.cellss acc),.val (.slice none 0 0),.val (.int .i64 ta)],.own 97 5 u]) (fun zz=>match zz with|(q,f,acc,u,mo)=>POk L 302 q∧L.length - q.at_<f∧(mo=true→acc.length≤q.at_)∧(if mo=true then ctxL L f q acc else (acc,q))=(cxs,p3)) (fun zz=>match zz with|(q,f,acc,u,mo)=>2 * f+(if mo=true then 1 else 0)) ((stepP p2,L.length+1,[],.slice none 0 0,true))
  ·repeat' (first|exact Xp|apply Xn rfl|apply Xo rfl)
  ·exact ⟨kA,by omega,fun _=>Nat.zero_le _,e3⟩
  ·exact by6
  ·exact (Xc _ (Xc _ (Xc _ (Xe _ (Xi (Xg _) (Xi (Xg _) (Xi (Xg _) (Xi (Xg _) (Xi (Xg _) (Xi (Le.nilOwn 5) (Xh _))))))) (MLe.refl _)))))
  rintro ⟨q,f,acc,u,mo⟩ hI
  try dsimp only [List.cons_append,List.nil_append] at hI ⊢
  obtain ⟨i1,i2,i3,hu⟩:=hI
  have hq1:=i1.1
  refine QL ?_
  refine Zx 26 (mo=true∧q.e=0) ?_ _ _ Y ?_
  ·skip
   refine QaA ?_
   have h20:(mo=true↔mo=true):=Iff.rfl
   obtain ⟨rfl,g20⟩|⟨rfl,g20⟩:=Za h20
   ·skip
    refine Qa9 ?_
    refine Qg ?_
    refine Xk Y ?_ by7 by5
    simp_all;done
   skip
   refine Qd ?_
   refine Qeg ?_
   refine Qb4 ?_
   refine Zm 24 Y Y Y Y Y (Yn (i:=2) Y ta_3 Y Y Y ?_)
   refine Qan ?_;intro c25 h25
   refine Qg ?_
   refine Xk Y ?_ by7 by5
   simp_all;done
  intro c26 h26
  refine Qc ?_
  obtain ⟨rfl,g26⟩|⟨rfl,g26⟩:=Za h26
  ·refine QH ?_
   refine c_exit (x_code (x_lp (x_here (go_lp ?_))))
   first
   |(rw [if_neg by17] at e3;cases e3;exact ⟨(),trivial,by6,(Xc _ (Xc _ (Xc _ (Xe _ by2 (MLe.nil)))))⟩)
   | (have hu2:(acc,q)=(cxs,p3):=by
       cases mo with
       | false=>exact hu
       | true=>rw [if_pos rfl,ctxL_err (fun e=>g26 ⟨rfl,e⟩)] at hu;exact hu
      simp only [Prod.mk.injEq] at hu2
      obtain ⟨rfl,rfl⟩:=hu2
      exact ⟨(),trivial,by6,(Xc _ (Xc _ (Xc _ (Xe _ by2 (Xd _ (MLe.nil))))))⟩)
  refine Qab ?_
  refine QG ?_
  obtain ⟨rfl,hq0⟩:=g26
  have i3:=i3 rfl
  have hle:(Pr.cellss acc).length≤200000:=by rw [Pr.cellss_len];omega
  rw [if_pos rfl] at hu
  obtain ⟨f,rfl⟩:∃ f',f=f'+1:=⟨f - 1,by omega⟩
  rw [ctxL,if_neg (by rw [hq0];simp)] at hu
  have HP:=take_c b L hL q i1.1 2 kE
  have l1:=(Zj (kind:=2) (s:=kE) by17 i1).ok i1
  have b1:=(Zj (L:=L) (kind:=2) (s:=kE) by17 i1).1
  obtain ⟨z,hz⟩:∃ z,predP L q=z:=⟨_,rfl⟩
  rw [hz] at hu
  unfold predP at hz
  obtain ⟨⟨⟨ck,ct,cn,ca⟩,q1⟩,f1⟩:∃ r,takeP L q 2 kE=r:=⟨_,rfl⟩
  rw [f1] at HP hz l1 b1
  simp only [Tok.av] at HP hz l1 b1
  have HV:=take_c b L hL q1 l1.1 1 kE
  have l2:=(Zj (kind:=1) (s:=kE) by17 l1).ok l1
  have b2':=(Zj (L:=L) (kind:=1) (s:=kE) by17 l1).1
  obtain ⟨⟨⟨vk,vt,vn,va⟩,q2⟩,f2⟩:∃ r,takeP L q1 1 kE=r:=⟨_,rfl⟩
  rw [f2] at HV l2 b2' hz
  simp only [Tok.av] at HV l2 b2' hz
  subst hz
  simp only [] at hu
  have l2a:=l2.1
  refine Qe ?_
  refine Zb 28 Y Y Y (Zf (xs:=[.tmp 27,.const (.int .i64 2),.const (.string ⟨#[]⟩)]) (i:=2) Y Y Y (HP) by3 ?_)
  refine QdJ ?_
  refine QaR ?_
  refine Zb 31 Y Y Y (Zf (xs:=[.tmp 30,.const (.int .i64 1),.const (.string ⟨#[]⟩)]) (i:=2) Y Y Y (HV) by3 ?_)
  refine QdJ ?_
  refine Qf ?_
  refine Qat ?_
  refine Qb9 ?_
  refine QaA ?_
  refine Zb 37 Y Y Y (Zk (ns:=[0,1]) (xs:=[.const (.int .i64 1),.tmp 36]) Y tz_46 Y tfl_46 Y Y Y Y (Zb 38 Y Y Y (Zk (ns:=[0,1]) (xs:=[.tmp 35,.tmp 37]) Y tz_97 Y tfl_97 Y Y Y Y (Zb 39 Y Y Y (Zd (xs:=[.tmp 38]) el_47 Y Y Y Y Y Y (Xm Y) (Zb 40 Y Y Y (Zr (i:=4) el_47 Y Y Y Y (.seq _ _) by8 ?_)))))))
  intro u40
  refine Qu ?_
  refine Zp Y Y (Zi (cs':=[_,_,_,_,_,_,_,_]) (i:=3) Y ts_47 Y Y Y Y Y (Xm Y) Y ?_)
  refine Qa ?_
  refine Qe ?_
  refine Zb 43 Y Y Y (op_mayc (xs:=[.tmp 42,.const (.string ⟨#[44]⟩)]) (i:=2) Y Y Y (may_c b L hL q2 kComma) by3 ?_ ?_)
  ·intro g43
   refine QaF ?_
   first
   |(rw [if_pos g43] at hu;have l4:=(Zw l2 g43).ok l2;have l5:=(is_lt g43).2;exact ⟨(stepP q2,f,acc++[Pr.mk ct (Ty.mk 1 vt 0 [])],u40,true),⟨l4,(by show L.length - (q2.at_+1)<f;omega),(fun _=>by show (acc++_).length≤q2.at_+1;rw [List.length_append];simp;omega),hu⟩,(by show 2 * f+1<2 * (f+1)+1;omega),Xj rfl (Xg _) by6,(Xc _ (Xc _ (Xc _ (Xe _ (Xi (Xg _) (Xi (Xg _) (Xi (Xg _) (Xi (Xg _) (Xi (Xg _) (Xi (preds_snoc acc ct vt) (Xh _))))))) (Xf rfl)))))⟩)
   |(rw [if_neg g43] at hu;exact ⟨(q2,f+1,acc++[Pr.mk ct (Ty.mk 1 vt 0 [])],u40,false),⟨l2,(by show L.length - q2.at_<f+1;omega),(fun h=>by cases h),hu⟩,(by show 2 * (f+1)+0<2 * (f+1)+1;omega),Xj rfl (Xg _) by6,(Xc _ (Xc _ (Xc _ (Xe _ (Xi (Xg _) (Xi (Xg _) (Xi (Xg _) (Xi (Xg _) (Xi (Xg _) (Xi (preds_snoc acc ct vt) (Xh _))))))) (Xf rfl)))))⟩)
  intro g43
  refine QaF ?_
  first
  |(rw [if_pos g43] at hu;have l4:=(Zw l2 g43).ok l2;have l5:=(is_lt g43).2;exact ⟨(stepP q2,f,acc++[Pr.mk ct (Ty.mk 1 vt 0 [])],u40,true),⟨l4,(by show L.length - (q2.at_+1)<f;omega),(fun _=>by show (acc++_).length≤q2.at_+1;rw [List.length_append];simp;omega),hu⟩,(by show 2 * f+1<2 * (f+1)+1;omega),Xj rfl (Xg _) by6,(Xc _ (Xc _ (Xc _ (Xe _ (Xi (Xg _) (Xi (Xg _) (Xi (Xg _) (Xi (Xg _) (Xi (Xg _) (Xi (preds_snoc acc ct vt) (Xh _))))))) (Xf rfl)))))⟩)
  |(rw [if_neg g43] at hu;exact ⟨(q2,f+1,acc++[Pr.mk ct (Ty.mk 1 vt 0 [])],u40,false),⟨l2,(by show L.length - q2.at_<f+1;omega),(fun h=>by cases h),hu⟩,(by show 2 * (f+1)+0<2 * (f+1)+1;omega),Xj rfl (Xg _) by6,(Xc _ (Xc _ (Xc _ (Xe _ (Xi (Xg _) (Xi (Xg _) (Xi (Xg _) (Xi (Xg _) (Xi (Xg _) (Xi (preds_snoc acc ct vt) (Xh _))))))) (Xf rfl)))))⟩)
 rintro z hI
 try dsimp only [List.cons_append,List.nil_append] at hI ⊢
 refine Qc ?_
 refine QJ ?_
 refine Zb 45 Y Y Y (Zf (xs:=[.tmp 44,.const (.int .i64 6),.const (.string ⟨#[119,104,101,114,101]⟩)]) (i:=2) Y Y Y (H4) by3 ?_)
 refine Qbh ?_
 refine Yb 60 13 ?_
 apply Ye (rg [(1,1),(3,1),(5,62)]) (σ:=PS × Nat × List Bi × Value) (fun zz=>match zz with|(q,f,bs,v)=>[]) (fun zz=>match zz with|(q,f,bs,v)=>[.loc b3 (Tok.mk tk tt tn ta).av,.loc b2 zIn,.loc b (psC L q),.loc b4 [.val (.string tt),.val (.int .i64 hk),.val (.string hs),.val (.int .i64 hn),.seq 4 (Ty.cellss hl),.seq 5 (Pr.cellss cxs),.own v 13 (Bi.cellss bs),.val (.int .i64 ta)],.own 60 13 v]) (fun zz=>match zz with|(q,f,bs,v)=>POk L 302 q∧(q.e=0→L.length - q.at_<f∧bs.length≤q.at_)∧insL L f q bs=(bl,p5)) (fun zz=>match zz with|(q,f,bs,v)=>f) ((p4,L.length+1,[],.slice none 0 0))
 ·repeat' (first|exact Xp|apply Xn rfl|apply Xo rfl)
 ·exact ⟨k4,fun _=>⟨by omega,Nat.zero_le _⟩,e5⟩
 ·exact by6
 ·exact (Xc _ (Xc _ (Xc _ (Xe _ (Xi (Xg _) (Xi (Xg _) (Xi (Xg _) (Xi (Xg _) (Xi (Xg _) (Xi (Xg _) (Xi (Le.nilOwn 13) (Xh _)))))))) (MLe.refl _)))))
 rintro ⟨q,f,bs,v⟩ hI
 try dsimp only [List.cons_append,List.nil_append] at hI ⊢
 obtain ⟨i1,i2,hu⟩:=hI
 have hq1:=i1.1
 refine Qw ?_
 refine QbZ ?_
 refine Qj ?_;intro c50 h50
 refine Qb ?_
 obtain ⟨rfl,g50⟩|⟨rfl,g50⟩:=Za h50
 ·skip
  refine QaL ?_
  refine QcA ?_
  refine QaE ?_
  refine Qo ?_
  refine Qff ?_
  refine Qei ?_
  refine Ql ?_
  first
  |(rw [insL_err g50] at hu;cases hu;subst hr;exact Zn (i:=1) rfl rfl rfl ta_49 rfl by2 (Xd _ (Xd _ (Xc _ (Xb _)))) ⟨rfl,rfl⟩)
  |(obtain ⟨f,rfl⟩:∃ f',f=f'+1:=⟨f - 1,by have:=(i2 g50).1;omega⟩;rw [insL_end g50 g53] at hu;cases hu;subst hr;exact Zn (i:=1) rfl rfl rfl ta_49 rfl by2 (Xd _ (Xd _ (Xc _ (Xb _)))) ⟨rfl,rfl⟩)
 skip
 refine Qd ?_
 refine Zm 53 Y Y Y Y Y (op_mayc (xs:=[.tmp 52,.const (.string ⟨#[101,110,100]⟩)]) (i:=2) Y Y Y (may_c b L hL q kEnd) by3 ?_ ?_)
 ·intro g53
  refine Qa5 ?_;intro c54 h54
  try replace h54:=nott h54 h53
  obtain rfl:c54=false:=by
   cases c54 with
   | false=>rfl
   | true=>exact absurd (h54.1 rfl) by17
  refine QcA ?_
  refine QaE ?_
  refine Qo ?_
  refine Qff ?_
  refine Qei ?_
  refine Ql ?_
  first
  |(rw [insL_err g50] at hu;cases hu;subst hr;exact Zn (i:=1) rfl rfl rfl ta_49 rfl by2 (Xd _ (Xd _ (Xc _ (Xb _)))) ⟨rfl,rfl⟩)
  |(obtain ⟨f,rfl⟩:∃ f',f=f'+1:=⟨f - 1,by have:=(i2 g50).1;omega⟩;rw [insL_end g50 g53] at hu;cases hu;subst hr;exact Zn (i:=1) rfl rfl rfl ta_49 rfl by2 (Xd _ (Xd _ (Xc _ (Xb _)))) ⟨rfl,rfl⟩)
 intro g53
 refine Qa5 ?_;intro c54 h54
 try replace h54:=nott h54 h53
 obtain rfl:c54=true:=h54.2 rfl
 refine QcA ?_
 refine Qab ?_
 refine QG ?_
 obtain ⟨i3,i4⟩:=i2 g50
 have hl2:(Bi.cellss bs).length≤200000:=by rw [Bi.cellss_len];omega
 obtain ⟨f,rfl⟩:∃ f',f=f'+1:=⟨f - 1,by omega⟩
 rw [insL,if_neg (by rw [g50];simp),if_neg g53] at hu
 have HD:=take_c b L hL q hq1 6 kDef
 have l1:=(Zj (kind:=6) (s:=kDef) by17 i1).ok i1
 have b1:=(Zj (L:=L) (kind:=6) (s:=kDef) by17 i1).1
 obtain ⟨⟨u7,q1⟩,f1⟩:∃ r,takeP L q 6 kDef=r:=⟨_,rfl⟩
 rw [f1] at HD l1 b1 hu
 simp only [] at HD l1 b1 hu
 have HB:=bindP_c b L hL q1 l1
 have l2:=(bindP_adv l1).ok l1
 have b2':=(bindP_adv l1).1
 obtain ⟨⟨⟨bn,⟨xk,xs,xn,⟨xtk,xts,xtn,xtl⟩,xks,xal,xbs,xp⟩,bp⟩,q2⟩,f2⟩:∃ r,bindP L q1=r:=⟨_,rfl⟩
 rw [f2] at HB l2 b2' hu
 simp only [Bi.cells,Ex.cells,Ty.cells,List.cons_append,List.nil_append] at HB l2 b2' hu
 have HS:=take_c b L hL q2 l2.1 7 kSemi
 have hpr:=take_prog (L:=L) (p:=q2) (kind:=7) (s:=kSemi) by17
 have l5:=(Zj (kind:=7) (s:=kSemi) by17 l2).ok l2
 obtain ⟨⟨u6,q5⟩,f5⟩:∃ r,takeP L q2 7 kSemi=r:=⟨_,rfl⟩
 rw [f5] at HS hpr l5 hu
 simp only [Prod.mk.injEq] at HS hpr l5 hu
 refine Qe ?_
 refine Zb 57 Y Y Y (Zf (xs:=[.tmp 56,.const (.int .i64 6),.const (.string ⟨#[100,101,102]⟩)]) (i:=2) Y Y Y (HD) by3 ?_)
 refine Qv ?_
 refine QdZ ?_
 refine QB ?_
 refine Qfe ?_
 refine Qp ?_
 refine Zs 2 (i:=3) Y Y Y Y Y (Zf (xs:=[.tmp 60]) (i:=0) Y Y Y (HB) by3 ⟨_,Y,?_⟩)
 refine Zh 62 (none) (i:=4) Y Y Y Y Y (Zd (xs:=[.tmp 61]) el_26 Y Y Y Y Y Y (Xm Y) ⟨Y,Y⟩) ?_
 refine Zs 4 (i:=5) Y Y Y Y Y (Zr (i:=0) el_26 Y Y Y Y (.seq _ _) by8 (fun u63=>⟨_,Y,?_⟩))
 refine QB ?_
 refine Zs 3 (i:=7) Y Y Y Y Y (Zi (cs':=[_,_,_,_,_,_,_,_]) (i:=0) Y ts_26 Y Y Y Y Y (Xm Y) Y ⟨_,Y,?_⟩)
 show AGo _ _ _ _ _ _ _
 refine Qc ?_
 refine Qe ?_
 refine Zb 66 Y Y Y (Zf (xs:=[.tmp 65,.const (.int .i64 7),.const (.string ⟨#[59]⟩)]) (i:=2) Y Y Y (HS) by3 ?_)
 refine Qa1 ?_
 exact ⟨(q5,f,bs++[Bi.mk bn (Ex.mk xk xs xn (Ty.mk xtk xts xtn xtl) xks xal xbs xp) bp],u63),⟨l5,(fun e=>by obtain ⟨⟨_,h5⟩,_,h6⟩:=hpr e;rw [h5];refine ⟨?_,?_⟩;(show L.length - (q2.at_+1)<f;omega);(show (bs++_).length≤q2.at_+1;rw [List.length_append];simp;omega)),hu⟩,Nat.lt_succ_self f,by6,(Xc _ (Xc _ (Xc _ (Xe _ (Xi (Xg _) (Xi (Xg _) (Xi (Xg _) (Xi (Xg _) (Xi (Xg _) (Xi (Xg _) (Xi (Xl by11) (Xh _)))))))) (Xf rfl)))))⟩
theorem inst_c (b:Nat) (L:List Tok) (hL:L.length≤100000) (p:PS) (k:POk L 302 p):MCall Tryz.prog 17 [.ptr b 0] (.loc b (psC L p)) (.agg (instP L p).1.cells) (.loc b (psC L (instP L p).2)):=inst_b b L hL p k _ rfl
def patK (a:Int) (of:ByteArray) (i:Nat):Pa:=if of=kE then .mk 1 kE 0 [] a else .mk 2 (of++num i) 0 [] a
def patL (a:Int) (of:ByteArray):Nat→List Pa
 | 0=>[]
 | i+1=>patL a of i++[patK a of i]
theorem patL_law (a:Int) (of:ByteArray):∀ n,(argsK num of n).map (apatX a)=patL a of n
 | 0=>rfl
 | i+1=>by
  rw [argsK,patL,List.map_append,patL_law a of i]
  congr 1
  unfold argK patK
  by_cases h:of=kE
  ·rw [if_pos h,if_pos h];rfl
  rw [if_neg h,if_neg h];rfl
theorem patL_len (a:Int) (of:ByteArray):∀ n,(patL a of n).length=n
 | 0=>rfl
 | i+1=>by rw [patL,List.length_append,patL_len a of i];rfl
theorem patK_len (a:Int) (of:ByteArray) (i:Nat):(patK a of i).cells.length=5:=by
 unfold patK
 split <;> simp only [Pa.cells,List.length_cons,List.length_nil]
def patX (a:Int) (c of:ByteArray) (n:Nat):Pa:=.mk 3 c 0 (patL a of n) a
theorem patX_law (a:Int) (c of:ByteArray) (n:Nat):paX a (patO num c of n)=patX a c of n:=by
 unfold patX
 rw [← patL_law]
 rfl
abbrev zPaC:List AV:=[.val (.int .i64 0),.val (.string kE),.val (.int .i64 0),.val (.slice none 0 0),.val (.int .i64 0)]
theorem m_pattern_c (d:Da) (a:Int) (c:Cn) (of:ByteArray) (ho:of.size≤1000) (hn:c.ts.length≤1000000):PCall Tryz.prog 59 [.agg (mkC d a),.agg c.cells,.val (.string of)] (.agg (patX a c.s of c.ts.length).cells):=by
 obtain ⟨ds,dps,dcs,ddv,dp⟩:=d
 obtain ⟨cs,cts,cp⟩:=c
 have hl:=Ty.cellss_len cts
 have HA:=m_arg_c of ho
 replace hn:cts.length≤1000000:=hn
 have hz:=num_len
 show PCall Tryz.prog 59 _ (.agg (patX a cs of cts.length).cells)
 unfold mkC patX at *
 simp only [Da.cells,List.cons_append,List.nil_append] at *
 refine Zc Tryz.func59 Y (by kernel_rfl) Y (Xm Y) ?_
 refine Qn ?_
 refine Qb8 ?_
 refine QcM ?_
 refine QaV ?_;intro b6
 refine QA ?_
 refine QbC ?_
 refine Zb 14 Y Y Y (Zk (ns:=[0,1,4]) (xs:=[.const (.int .i64 3),.tmp 11,.tmp 13]) Y tz_63 Y tfl_63 Y Y Y Y ?_)
 refine QaV ?_;intro b7
 refine QbI ?_
 refine Qv ?_
 refine Q4 ?_
 refine QW ?_;intro n17
 refine QaN ?_
 refine Yb 63 5 ?_
 apply Ye (rg [(0,2),(4,2),(8,9),(18,21)]) (σ:=Nat × Value) (fun zz=>match zz with|(i,u)=>[(18,.val (.int .i64 i))]) (fun zz=>match zz with|(i,u)=>[.loc b7 [.val (.int .i64 3),.val (.string cs),.val (.int .i64 0),.own u 5 (Pa.cellss (patL a of i)),.val (.int .i64 a)],.loc b6 zPaC,.own 63 5 u]) (fun zz=>match zz with|(i,u)=>i≤cts.length) (fun zz=>match zz with|(i,u)=>cts.length - i) ((0,.slice none 0 0))
 ·repeat' (first|exact Xp|apply Xn rfl|apply Xo rfl)
 ·exact Nat.zero_le _
 ·exact by6
 ·exact (Xe _ (Xi (Xg _) (Xi (Xg _) (Xi (Xg _) (Xi (Le.nilOwn 5) (Xh _))))) (Xf Y))
 rintro ⟨i,u⟩ hI
 try dsimp only [List.cons_append,List.nil_append] at hI ⊢
 have hi:=hI
 have hpl:(Pa.cellss (patL a of i)).length=i:=by rw [Pa.cellss_len,patL_len]
 refine QaO ?_;intro c19 h19
 refine Qv ?_
 obtain ⟨rfl,g19⟩|⟨rfl,g19⟩:=Za h19
 ·refine QE ?_
  obtain rfl:i=cts.length:=by omega
  refine Qi ?_
  refine Qbz ?_
  refine QdL ?_
  refine Ql ?_
  exact Zn (i:=1) Y Y Y ta_63 Y by4 (Xb _) ⟨Y,Y⟩
 refine Qae ?_
 refine QJ ?_
 refine Qf ?_
 refine Q4 ?_
 refine Zb 23 Y Y Y (Zk (ns:=[0,4]) (xs:=[.const (.int .i64 1),.tmp 22]) Y tz_63 Y tfl_63 Y Y Y Y ?_)
 refine QaV ?_;intro b9
 refine QbI ?_
 refine Q2 ?_
 refine QcI ?_;intro c25 h25
 refine Qa ?_
 obtain ⟨rfl,g25⟩|⟨rfl,g25⟩:=Za h25
 ·refine QN ?_
  refine QaX ?_
  refine Qbj ?_
  refine Qbz ?_
  refine Qfg ?_
  refine Qfh ?_
  intro u36
  refine Qu ?_
  refine Qfi ?_
  refine Qac ?_
  refine Qax ?_
  refine ⟨(i+1,u36),by show i+1≤cts.length;omega,by show cts.length - (i+1)<cts.length - i;omega,by6,Xd _ (Xe _ (Xi (Xg _) (Xi (Xg _) (Xi (Xg _) (Xi (Le.own_lessA ?_) (Xh _))))) (Xf Y))⟩
  rw [patL,Pa.cellss_app']
  refine Less.snoc ?_ (by rw [patK_len];rfl) _
  unfold patK
  first
  | rw [if_neg g25];(try rw [hnum]);exact by2 
  | rw [if_pos (Classical.not_not.1 g25)];exact by2 
  | rw [if_pos g25];exact by2 
 refine Qh ?_
 have HAi:=HA i by18
 have hzi:=hz i
 generalize hnum:num i=nu at *
 refine Ya [0,1,2,3,4,5,6] [6] [[],[],[0,1],[],[3],[0,1,2,3,4],[0,1,2,3,4,5]] tmix Y ?_
 refine Qp ?_
 refine Qp ?_
 refine Zh 28 (none) (i:=2) Y Y Y Y Y (Ze (xs:=[.tmp 26,.tmp 27]) Y Y (HAi) by3 ⟨Y,Y⟩) ?_
 refine QaH ?_
 refine Zh 31 (none) (i:=5) Y Y Y Y Y (Zk (ns:=[0,1,4]) (xs:=[.const (.int .i64 2),.tmp 28,.tmp 30]) Y tz_63 Y tfl_63 Y Y Y Y ⟨Y,Y⟩) ?_
 refine Zs 0 (i:=6) Y Y Y Y Y (Zi (cs':=[_,_,_,_,_]) (i:=0) Y ts_63 Y Y Y Y Y (Xm Y) Y ⟨_,Y,?_⟩)
 show AGo _ _ _ _ _ _ _
 refine Qc ?_
 refine QaX ?_
 refine Qbj ?_
 refine Qbz ?_
 refine Qfg ?_
 refine Qfh ?_
 intro u36
 refine Qu ?_
 refine Qfi ?_
 refine Qac ?_
 refine Qax ?_
 refine ⟨(i+1,u36),by show i+1≤cts.length;omega,by show cts.length - (i+1)<cts.length - i;omega,by6,Xd _ (Xe _ (Xi (Xg _) (Xi (Xg _) (Xi (Xg _) (Xi (Le.own_lessA ?_) (Xh _))))) (Xf Y))⟩
 rw [patL,Pa.cellss_app']
 refine Less.snoc ?_ (by rw [patK_len];rfl) _
 unfold patK
 first
 | rw [if_neg g25];(try rw [hnum]);exact by2 
 | rw [if_pos (Classical.not_not.1 g25)];exact by2 
 | rw [if_pos g25];exact by2 
def twoX (a:Int) (f:ByteArray) (i:Nat):Ex:=apE a (namE 3 f a) [namE 3 (kX++num i) a,namE 3 (kY++num i) a]
theorem m_pair_c (d:Da) (a:Int) (f:ByteArray) (i:Nat) (hi:i≤1000000000):PCall Tryz.prog 63 [.agg (mkC d a),.val (.string f),.val (.int .i64 i)] (.agg (twoX a f i).cells):=by
 have HX:=m_arg_c kX by17 i hi
 have HY:=m_arg_c kY by17 i hi
 have HNx:=m_name_c d a (kX++num i)
 have HNy:=m_name_c d a (kY++num i)
 have HP:=m_apply_c d a f [namE 3 (kX++num i) a,namE 3 (kY++num i) a]
 obtain ⟨ds,dps,dcs,ddv,dp⟩:=d
 unfold twoX
 obtain ⟨⟨rk,rs,rn,⟨rtk,rts,rtn,rtl⟩,rks,ral,rbs,rp⟩,hr⟩:∃ r,apE a (namE 3 f a) [namE 3 (kX++num i) a,namE 3 (kY++num i) a]=r:=⟨_,rfl⟩
 rw [hr] at HP ⊢
 clear hr
 generalize kX++num i=nx at *
 generalize kY++num i=ny at *
 unfold mkC at *
 simp only [Da.cells,List.cons_append,List.nil_append] at *
 refine Zc Tryz.func63 Y (by kernel_rfl) Y (Xm Y) ?_
 refine QcC ?_;intro b6
 refine Qv ?_
 refine Ya [0,1,2,3,4,5,6,7,8,9,10,11,12] [12] [[],[],[],[],[3],[2,3,4],[],[],[2,3,4,5,7],[2,3,4,5,6,7,8],[2,3,4,5,6,7,8,9],[0,1,2,3,4,5,6,7,8,9,10],[0,1,2,3,4,5,6,7,8,9,10,11]] tmix Y ?_
 refine QaC ?_
 refine Qp ?_
 refine QaC ?_
 refine Qp ?_
 refine Zh 11 (none) (i:=4) Y Y Y Y Y (Ze (xs:=[.const (.string ⟨#[120]⟩),.tmp 10]) Y Y (HX) by3 ⟨Y,Y⟩) ?_
 refine Zh 12 (none) (i:=5) Y Y Y Y Y (Ze (xs:=[.tmp 9,.tmp 11]) Y Y (HNx) by3 ⟨Y,Y⟩) ?_
 refine QaC ?_
 refine Qp ?_
 refine Zh 15 (none) (i:=8) Y Y Y Y Y (Ze (xs:=[.const (.string ⟨#[121]⟩),.tmp 14]) Y Y (HY) by3 ⟨Y,Y⟩) ?_
 refine Zh 16 (none) (i:=9) Y Y Y Y Y (Ze (xs:=[.tmp 13,.tmp 15]) Y Y (HNy) by3 ⟨Y,Y⟩) ?_
 refine Zh 17 (none) (i:=10) Y Y Y Y Y (Zd (xs:=[.tmp 12,.tmp 16]) Xa Y Y Y Y Y Y (Xm Y) ⟨Y,Y⟩) ?_
 refine Zh 18 (none) (i:=11) Y Y Y Y Y (Ze (xs:=[.tmp 7,.tmp 8,.tmp 17]) Y Y (HP) by3 ⟨Y,Y⟩) ?_
 refine QcL ?_
 show AGo _ _ _ _ _ _ _
 refine QX ?_
 exact Zn (i:=0) Y Y Y Yf Y by4 (Xb _) ⟨Y,Y⟩
theorem Le.own_seqL {u:Value} {m:Nat} {es es':List (List AV)} (h:Less es es'):Le (.own u m es) (.seq m es'):=fun F x k=>Le.seq h _ _ (Le.own _ _ _ F x k)
theorem twoX_law (a:Int) (f:ByteArray) (i:Nat):opX a (twoK num f i)=twoX a f i:=rfl
/- lexical -/
def lexX (a:Int):Nat→Nat→Ex
 | 0,k=>twoX a kCmp k
 | r+1,k=>.mk 8 kE 0 ty0 [twoX a kCmp k] [.mk (.mk 3 kEQ 0 [] a) (lexX a r (k+1)),.mk (.mk 2 kR 0 [] a) (namE 3 kR a)] [] a
theorem lexX_law (a:Int):∀ r k,(ordD num r k).ex a=lexX a r k
 | 0,k=>rfl
 | r+1,k=>by
  rw [lexX,← lexX_law a r (k+1),ordD,Dx.ex,twoX_law]
  rfl
def orderX (a:Int) (n:Nat):Ex:=if n=0 then namE 4 kEQ a else lexX a (n - 1) 0
theorem orderX_law (a:Int) (n:Nat):(orderD num n).ex a=orderX a n:=by
 unfold orderD orderX
 by_cases h:n=0
 ·rw [if_pos h,if_pos h];rfl
 rw [if_neg h,if_neg h,lexX_law]
theorem m_lex_c (d:Da) (a:Int) (c:Cn):∀ r k,c.ts.length=k+1+r→c.ts.length≤1000000→PCall Tryz.prog 64 [.agg (mkC d a),.agg c.cells,.val (.int .i64 k)] (.agg (lexX a r k).cells)
 | 0,k,h,hb=>by
  have HP:=m_pair_c d a kCmp k by18
  rw [lexX]
  obtain ⟨⟨rk,rs,rn,⟨rtk,rts,rtn,rtl⟩,rks,ral,rbs,rp⟩,hr⟩:∃ r,twoX a kCmp k=r:=⟨_,rfl⟩
  rw [hr] at HP ⊢
  clear hr
  obtain ⟨ds,dps,dcs,ddv,dp⟩:=d
  obtain ⟨cs,cts,cp⟩:=c
  replace h:cts.length=k+1:=h
  have hl:=Ty.cellss_len cts
  unfold mkC at *
  simp only [Da.cells,List.cons_append,List.nil_append] at *
  refine Qej ?_
  refine Qn ?_
  refine Qb8 ?_
  refine QcM ?_
  refine QI ?_;intro b6
  refine Qbh ?_
  refine Q4 ?_
  refine QW ?_;intro n12
  refine Qj ?_;intro c13 h13
  refine Qf ?_
  obtain ⟨rfl,g13⟩|⟨rfl,g13⟩:=Za h13
  ·refine QH ?_
   refine QJ ?_
   refine Qy ?_
   refine QW ?_;intro n20
   refine QT ?_
   refine Qj ?_;intro c22 h22
   refine Qf ?_
   obtain ⟨rfl,g22⟩|⟨rfl,g22⟩:=Za h22
   ·omega
   refine Qag ?_
   refine QcK ?_
   refine Qb ?_
   refine Zb 25 Y Y Y (Ze (xs:=[.tmp 23,.const (.string ⟨#[99,111,109,112,97,114,101]⟩),.tmp 24]) Y Y (HP) by3 ?_)
   refine QcB ?_
   exact Zn (i:=0) Y Y Y Yf Y by4 (Xb _) ⟨Y,Y⟩
  omega
 | r+1,k,h,hb=>by
  have IH:=m_lex_c d a c r (k+1) by18 hb
  have HP:=m_pair_c d a kCmp k by18
  have HR:=m_name_c d a kR
  have HC:=m_cases_c d a (twoX a kCmp k) [.mk (.mk 3 kEQ 0 [] a) (lexX a r (k+1)),.mk (.mk 2 kR 0 [] a) (namE 3 kR a)]
  rw [lexX]
  obtain ⟨⟨rk,rs,rn,⟨rtk,rts,rtn,rtl⟩,rks,ral,rbs,rp⟩,hr⟩:∃ r,twoX a kCmp k=r:=⟨_,rfl⟩
  rw [hr] at HP HC ⊢
  clear hr
  obtain ⟨⟨yk,ys,yn,⟨ytk,yts,ytn,ytl⟩,yks,yal,ybs,yp⟩,hy⟩:∃ y,lexX a r (k+1)=y:=⟨_,rfl⟩
  rw [hy] at IH HC ⊢
  clear hy
  obtain ⟨ds,dps,dcs,ddv,dp⟩:=d
  obtain ⟨cs,cts,cp⟩:=c
  replace h:cts.length=k+1+(r+1):=h
  replace hb:cts.length≤1000000:=hb
  have hl:=Ty.cellss_len cts
  unfold mkC at *
  simp only [Da.cells,List.cons_append,List.nil_append] at *
  refine Qej ?_
  refine Qn ?_
  refine Qb8 ?_
  refine QcM ?_
  refine QI ?_;intro b6
  refine Qbh ?_
  refine Q4 ?_
  refine QW ?_;intro n12
  refine Qj ?_;intro c13 h13
  refine Qf ?_
  obtain ⟨rfl,g13⟩|⟨rfl,g13⟩:=Za h13
  ·refine QH ?_
   refine QJ ?_
   refine Qy ?_
   refine QW ?_;intro n20
   refine QT ?_
   refine Qj ?_;intro c22 h22
   refine Qf ?_
   obtain ⟨rfl,g22⟩|⟨rfl,g22⟩:=Za h22
   ·refine Qau ?_
    refine Qbm ?_
    refine QG ?_
    refine Ya [0,1,2,3,4,5,6,7,8,9,10] [9,10] [[],[0],[0,1],[],[],[],[5],[3,4,5,6],[0,1,2,3,4,5,6,7],[],[0,1,2,3,4,5,6,7,8,9]] tmix Y ?_
    refine QaH ?_
    refine Zh 28 (none) (i:=2) Y Y Y Y Y (Zk (ns:=[0,1,4]) (xs:=[.const (.int .i64 3),.const (.string ⟨#[69,81]⟩),.tmp 27]) (cs':=[_,_,_,_,_]) Y tz_63 Y tfl_63 Y Y Y Y ⟨Y,Y⟩) ?_
    refine QaC ?_
    refine Zh 30 (none) (i:=4) Y Y Y Y Y (Zz (cs':=[_,_,_]) Y ta_54 Y Y Y ⟨Y,Y⟩) ?_
    refine Qp ?_
    refine Zh 32 (none) (i:=6) Y Y Y Y Y (op_add Y Y Y (IntWalk.i64_in _ by18) ⟨Y,Y⟩) ?_
    refine Zh 33 (none) (i:=7) Y Y Y Y Y (Ze (xs:=[.tmp 29,.tmp 30,.tmp 32]) Y Y (IH) by3 ⟨Y,Y⟩) ?_
    refine Zh 34 (none) (i:=8) Y Y Y Y Y (Zk (ns:=[0,1]) (xs:=[.tmp 28,.tmp 33]) (cs':=[_,_,_,_,_,_,_,_,_,_,_,_,_,_,_,_]) Y tz_65 Y tfl_65 Y Y Y Y ⟨Y,Y⟩) ?_
    refine EOps.nw (i:=9) Y Y Y (Yl (cs':=[_,_,_,_,_,_,_,_,_,_,_,_,_,_,_,_]) Y tz_65 Y Y (fun b7=>⟨_,Y,?_⟩))
    refine Zs 1 (i:=10) Y Y Y Y Y (Zi (cs':=[_,_,_,_,_,_,_,_,_,_,_,_,_,_,_,_]) (i:=0) Y ts_65 Y Y Y Y Y (Xm Y) Y ⟨_,Y,?_⟩)
    show AGo _ _ _ _ _ _ _
    refine QaS ?_
    refine Ya [0,1,2,3,4,5,6,7] [6,7] [[],[0],[0,1],[],[3],[0,1,2,3,4],[],[0,1,2,3,4,5,6]] tmix Y ?_
    refine QaH ?_
    refine Zh 37 (none) (i:=2) Y Y Y Y Y (Zk (ns:=[0,1,4]) (xs:=[.const (.int .i64 2),.const (.string ⟨#[114]⟩),.tmp 36]) (cs':=[_,_,_,_,_]) Y tz_63 Y tfl_63 Y Y Y Y ⟨Y,Y⟩) ?_
    refine QaC ?_
    refine Zh 39 (none) (i:=4) Y Y Y Y Y (Ze (xs:=[.tmp 38,.const (.string ⟨#[114]⟩)]) Y Y (HR) by3 ⟨Y,Y⟩) ?_
    refine Zh 40 (none) (i:=5) Y Y Y Y Y (Zk (ns:=[0,1]) (xs:=[.tmp 37,.tmp 39]) (cs':=[_,_,_,_,_,_,_,_,_,_,_,_,_,_,_,_]) Y tz_65 Y tfl_65 Y Y Y Y ⟨Y,Y⟩) ?_
    refine EOps.nw (i:=6) Y Y Y (Yl (cs':=[_,_,_,_,_,_,_,_,_,_,_,_,_,_,_,_]) Y tz_65 Y Y (fun b8=>⟨_,Y,?_⟩))
    refine Zs 2 (i:=7) Y Y Y Y Y (Zi (cs':=[_,_,_,_,_,_,_,_,_,_,_,_,_,_,_,_]) (i:=0) Y ts_65 Y Y Y Y Y (Xm Y) Y ⟨_,Y,?_⟩)
    show AGo _ _ _ _ _ _ _
    refine QaS ?_
    refine Ya [0,1,2,3,4,5,6,7,8] [8] [[],[],[],[1,2],[],[],[4,5],[0,1,2,3,4,5,6],[0,1,2,3,4,5,6,7]] tmix Y ?_
    refine QcD ?_
    refine Qp ?_
    refine Zh 44 (none) (i:=3) Y Y Y Y Y (Ze (xs:=[.tmp 42,.const (.string ⟨#[99,111,109,112,97,114,101]⟩),.tmp 43]) Y Y (HP) by3 ⟨Y,Y⟩) ?_
    refine Zh 45 (some 1) (i:=4) Y Y Y Y Y (Zv (cs':=[_,_,_,_,_,_,_,_,_,_,_,_,_,_,_,_]) (i:=0) Y ta_65 Y Y Y Y ⟨Y,Y⟩) ?_
    refine Zh 46 (some 2) (i:=5) Y Y Y Y Y (Zv (cs':=[_,_,_,_,_,_,_,_,_,_,_,_,_,_,_,_]) (i:=0) Y ta_65 Y Y Y Y ⟨Y,Y⟩) ?_
    refine Zh 47 (none) (i:=6) Y Y Y Y Y (Zd (xs:=[.tmp 45,.tmp 46]) el_56 Y Y Y Y Y Y (Xm Y) ⟨Y,Y⟩) ?_
    refine Zh 48 (none) (i:=7) Y Y Y Y Y (Ze (xs:=[.tmp 41,.tmp 44,.tmp 47]) Y Y (HC) (by repeat' (first|exact Xh _|refine Xi ?_ ?_|exact Xg _|exact Le.own _ _ _|exact Le.nil _|refine Le.agg ?_|refine Le.own_seqL ?_|refine Le.seq ?_|exact Less.refl _|exact Less.nil|refine Less.cons ?_ Y ?_)) ⟨Y,Y⟩) ?_
    refine QcL ?_
    show AGo _ _ _ _ _ _ _
    refine QX ?_
    exact Zn (i:=0) Y Y Y Yf Y by4 (Xb _) ⟨Y,Y⟩
   omega
  omega
theorem m_order_c (d:Da) (a:Int) (c:Cn) (hb:c.ts.length≤1000000):PCall Tryz.prog 64 [.agg (mkC d a),.agg c.cells,.val (.int .i64 0)] (.agg (orderX a c.ts.length).cells):=by
 unfold orderX
 by_cases h:c.ts.length=0
 ·rw [if_pos h]
  have HC:=m_con_c d a kEQ
  obtain ⟨ds,dps,dcs,ddv,dp⟩:=d
  obtain ⟨cs,cts,cp⟩:=c
  replace h:cts.length=0:=h
  have hl:=Ty.cellss_len cts
  unfold mkC at *
  simp only [Da.cells,List.cons_append,List.nil_append] at *
  refine Qej ?_
  refine Qn ?_
  refine Qb8 ?_
  refine QcM ?_
  refine QI ?_;intro b6
  refine Qbh ?_
  refine Q4 ?_
  refine QW ?_;intro n12
  refine Qj ?_;intro c13 h13
  refine Qf ?_
  obtain ⟨rfl,g13⟩|⟨rfl,g13⟩:=Za h13
  ·omega
  refine Qag ?_
  refine QcK ?_
  refine Zb 15 Y Y Y (Ze (xs:=[.tmp 14,.const (.string ⟨#[69,81]⟩)]) Y Y (HC) by3 ?_)
  refine QcB ?_
  exact Zn (i:=0) Y Y Y Yf Y by4 (Xb _) ⟨Y,Y⟩
 rw [if_neg h]
 exact m_lex_c d a c _ 0 by18 hb
/- eq -/
def sufX (a:Int):Nat→Nat→Ex
 | i,0=>twoX a kEqN i
 | i,r+1=>opE 10 [twoX a kEqN i,sufX a (i+1) r] a
def eqF:Nat→Nat→List Opd
 | _,0=>[]
 | i,r+1=>twoK num kEqN (i+1)::eqF (i+1) r
theorem eqF_snoc:∀ r i,eqF i (r+1)=eqF i r++[twoK num kEqN (i+r+1)]
 | 0,i=>rfl
 | r+1,i=>by
  rw [eqF,eqF_snoc r (i+1)]
  show _=twoK num kEqN (i+1)::eqF (i+1) r++_
  rw [show i+1+r+1=i+(r+1)+1 by omega]
  rfl
theorem eqL_F:∀ n,eqL num n=eqF 0 n
 | 0=>rfl
 | n+1=>by rw [eqL,eqL_F n,eqF_snoc,show 0+n+1=n+1 by omega]
theorem sufX_law (a:Int):∀ r i,chX a kAA (twoK num kEqN i) (eqF i r)=sufX a i r
 | 0,i=>rfl
 | r+1,i=>by
  rw [eqF,sufX,← sufX_law a r (i+1),chX,binE,if_pos rfl,twoX_law]
def eqV (a:Int) (n j:Nat):Ex:=if j=n then namE 4 kTrue a else sufX a j (n - 1 - j)
theorem eqV_law (a:Int) (n:Nat):(eqE num n).ex a=eqV a n 0:=by
 unfold eqV
 cases n with
 | zero=>rfl
 | succ n =>
  rw [if_neg by18,eqE,Dx.ex,eqL_F,sufX_law]
  rfl
def eqXX (a:Int) (c:ByteArray) (n cons:Nat):Ex:=.mk 8 kE 0 ty0 [namE 3 kY a] (.mk (patX a c kY n) (eqV a n 0)::(if 1<cons then [.mk (.mk 1 kE 0 [] a) (namE 4 kFalse a)] else [])) [] a
theorem eqXX_law (a:Int) (c:ByteArray) (n cons:Nat):(eqD num c n cons).ex a=eqXX a c n cons:=by
 unfold eqD eqXX
 rw [Dx.ex,eqV_law,patX_law]
 by_cases h:1<cons
 ·rw [if_pos h,if_pos h];rfl
 rw [if_neg h,if_neg h];rfl
theorem eqV_and (a:Int) {n j:Nat} (h:j+1<n):eqV a n j=opE 10 [twoX a kEqN j,eqV a n (j+1)] a:=by
 obtain ⟨r,rfl⟩:∃ r,n=j+1+(r+1):=⟨n - j - 2,by omega⟩
 unfold eqV
 rw [if_neg by18,if_neg by18,show j+1+(r+1) - 1 - j=r+1 by omega,show j+1+(r+1) - 1 - (j+1)=r by omega]
 rfl
theorem eqV_one (a:Int) {n j:Nat} (h:j+1=n):eqV a n j=twoX a kEqN j:=by
 subst h
 unfold eqV
 rw [if_neg by18,show j+1 - 1 - j=0 by omega]
 rfl
theorem m_eq_c (d:Da) (a:Int) (i:Nat) (c:Cn) (hc:d.cs[i]?=some c) (hn:c.ts.length≤1000000):PCall Tryz.prog 33 [.agg (mkC d a),.val (.int .i64 i)] (.agg (eqXX a c.s c.ts.length d.cs.length).cells):=by
 have HT:=m_con_c d a kTrue
 have HF:=m_con_c d a kFalse
 have HP:=fun k h=>m_pair_c d a kEqN k h
 have HY:=m_name_c d a kY
 have HPT:=m_pattern_c d a c kY by17 hn
 have HC:=fun l=>m_cases_c d a (namE 3 kY a) l
 obtain ⟨ds,dps,dcs,ddv,dp⟩:=d
 obtain ⟨cs,cts,cp⟩:=c
 replace hn:cts.length≤1000000:=hn
 replace hc:dcs[i]?=some (Cn.mk cs cts cp):=hc
 replace HPT:PCall Tryz.prog 59 [.agg (mkC (Da.mk ds dps dcs ddv dp) a),.agg (Cn.mk cs cts cp).cells,.val (.string kY)] (.agg (patX a cs kY cts.length).cells):=HPT
 have hl:=Ty.cellss_len cts
 have hlc:=Cn.cellss_len dcs
 have hcc:=Cn.cellss_get hc
 obtain ⟨r,hr⟩:∃ r,eqXX a cs cts.length dcs.length=r:=⟨_,rfl⟩
 show PCall Tryz.prog _ _ (.agg (eqXX a cs cts.length dcs.length).cells)
 rw [hr]
 unfold eqXX patX at hr
 unfold mkC patX at *
 simp only [Da.cells,List.cons_append,List.nil_append] at *
 refine Zc Tryz.func33 Y (by kernel_rfl) Y (Xm Y) ?_
 refine QcC ?_;intro b4
 refine QA ?_
 refine Qbi ?_
 refine Qay ?_
 refine QdO ?_
 refine QcN ?_
 refine Qcb ?_;intro b5
 refine Qcc ?_
 refine QA ?_
 refine QcK ?_
 refine Zb 17 Y Y Y (Ze (xs:=[.tmp 16,.const (.string ⟨#[84,114,117,101]⟩)]) Y Y (HT) by3 ?_)
 refine QI ?_;intro b6
 refine QS ?_
 refine Qv ?_
 refine QaY ?_
 refine QW ?_;intro n20
 refine QT ?_
 refine Qf ?_
 refine Qam ?_
 apply Ye (rg [(0,2),(3,1),(7,2),(10,32)]) (σ:=Nat × Ex) (fun zz=>match zz with|(j,x)=>[(7,.val (.int .i64 ((j:Int) - 1)))]) (fun zz=>match zz with|(j,x)=>[.loc b6 x.cells,.loc b5 (Cn.mk cs cts cp).cells,.loc b4 zEx]) (fun zz=>match zz with|(j,x)=>j≤cts.length∧eqV a cts.length j=x) (fun zz=>match zz with|(j,x)=>j) ((cts.length,namE 4 kTrue a))
 ·repeat' (first|exact Xp|apply Xn rfl|apply Xo rfl)
 ·exact ⟨Nat.le_refl _,by unfold eqV;exact if_pos Y⟩
 ·exact Xj Y (Le.ieq by18) by6
 ·exact by5
 rintro ⟨j,⟨xk,xs,xn,⟨xtk,xts,xtn,xtl⟩,xks,xal,xbs,xp⟩⟩ hI
 try dsimp only [List.cons_append,List.nil_append] at hI ⊢
 obtain ⟨hj,hA⟩:=hI
 refine Qw ?_
 refine QcG ?_;intro c23 h23
 refine Qa ?_
 obtain ⟨rfl,g23⟩|⟨rfl,g23⟩:=Za h23
 ·refine QE ?_
  obtain rfl:j=0:=by omega
  rw [hA] at hr
  refine Ya [0,1,2,3,4,5,6] [5] [[],[],[0,1],[],[0,1,2,3],[0,1,2,3,4],[0,1,2,3,4,5]] tmix Y ?_
  refine QaC ?_
  refine Zh 43 (some 1) (i:=1) Y Y Y Y Y (Zv (cs':=[_,_,_]) (i:=0) Y ta_54 Y Y Y Y ⟨Y,Y⟩) ?_
  refine Zh 44 (none) (i:=2) Y Y Y Y Y (Ze (xs:=[.tmp 42,.tmp 43,.const (.string ⟨#[121]⟩)]) Y Y (HPT) by3 ⟨Y,Y⟩) ?_
  refine Qc9 ?_
  refine Zh 46 (none) (i:=4) Y Y Y Y Y (Zk (ns:=[0,1]) (xs:=[.tmp 44,.tmp 45]) (cs':=[_,_,_,_,_,_,_,_,_,_,_,_,_,_,_,_]) Y tz_65 Y tfl_65 Y Y Y Y ⟨Y,Y⟩) ?_
  refine EOps.nw (i:=5) Y Y Y (Yy (xs:=[.tmp 46]) el_56 Y Y Y Y Y Y (Xm Y) (fun u47=>⟨_,Y,?_⟩))
  refine Qbu ?_
  show AGo _ _ _ _ _ _ _
  refine QaS ?_
  refine Qo ?_
  refine Qbi ?_
  refine Qy ?_
  refine Qbl ?_;intro n51
  refine Q0 ?_;intro c52 h52
  refine Qa ?_
  obtain ⟨rfl,g52⟩|⟨rfl,g52⟩:=Za h52
  ·refine Q7 ?_
   first
   |(rw [if_neg by18] at hr;subst hr;have HC1:=HC [.mk (.mk 3 cs 0 (patL a kY cts.length) a) (.mk xk xs xn ⟨xtk,xts,xtn,xtl⟩ xks xal xbs xp)])
   | skip
   refine QdP ?_
   refine QcD ?_
   refine Zh 64 (none) (i:=2) Y Y Y Y Y (Ze (xs:=[.tmp 63,.const (.string ⟨#[121]⟩)]) Y Y (HY) by3 ⟨Y,Y⟩) ?_
   refine Qp ?_
   refine Zh 66 (none) (i:=4) Y Y Y Y Y (Ze (xs:=[.tmp 62,.tmp 64,.tmp 65]) Y Y (HC1) (by repeat' (first|exact Xh _|refine Xi ?_ ?_|exact Xg _|exact Le.own _ _ _|exact Le.nil _|refine Le.agg ?_|refine Le.own_seqL ?_|refine Le.seq ?_|exact Less.refl _|exact Less.nil|refine Less.cons ?_ Y ?_)) ⟨Y,Y⟩) ?_
   refine Qfj ?_
   show AGo _ _ _ _ _ _ _
   refine QX ?_
   first
   | exact Zn (i:=2) rfl rfl rfl Yf rfl by4 (Xb _) ⟨rfl,rfl⟩
   | exact Zn (i:=3) rfl rfl rfl Yf rfl by4 (Xb _) ⟨rfl,rfl⟩
  refine Qh ?_
  rw [if_pos by18] at hr
  subst hr
  have HC1:=HC [.mk (.mk 3 cs 0 (patL a kY cts.length) a) (.mk xk xs xn ⟨xtk,xts,xtn,xtl⟩ xks xal xbs xp),.mk (.mk 1 kE 0 [] a) (namE 4 kFalse a)]
  refine Ya [0,1,2,3,4,5,6,7,8,9] [8] [[],[],[1],[1,2],[],[4],[1,2,3,4,5],[1,2,3,4,5,6],[0,1,2,3,4,5,6,7],[0,1,2,3,4,5,6,7,8]] tmix Y ?_
  refine Qp ?_
  refine QaH ?_
  refine Zh 56 (none) (i:=3) Y Y Y Y Y (Zk (ns:=[0,4]) (xs:=[.const (.int .i64 1),.tmp 55]) (cs':=[_,_,_,_,_]) Y tz_63 Y tfl_63 Y Y Y Y ⟨Y,Y⟩) ?_
  refine QaC ?_
  refine Zh 58 (none) (i:=5) Y Y Y Y Y (Ze (xs:=[.tmp 57,.const (.string ⟨#[70,97,108,115,101]⟩)]) Y Y (HF) by3 ⟨Y,Y⟩) ?_
  refine Zh 59 (none) (i:=6) Y Y Y Y Y (Zk (ns:=[0,1]) (xs:=[.tmp 56,.tmp 58]) (cs':=[_,_,_,_,_,_,_,_,_,_,_,_,_,_,_,_]) Y tz_65 Y tfl_65 Y Y Y Y ⟨Y,Y⟩) ?_
  refine Zh 60 (none) (i:=7) Y Y Y Y Y (Zd (xs:=[.tmp 59]) el_56 Y Y Y Y Y Y (Xm Y) ⟨Y,Y⟩) ?_
  refine Zs 3 (i:=8) Y Y Y Y Y (Zr (i:=0) el_56 Y Y Y Y (.seq _ _) by8 (fun u61=>⟨_,Y,?_⟩))
  refine Qbu ?_
  show AGo _ _ _ _ _ _ _
  refine QaS ?_
  first
  |(rw [if_neg by18] at hr;subst hr;have HC1:=HC [.mk (.mk 3 cs 0 (patL a kY cts.length) a) (.mk xk xs xn ⟨xtk,xts,xtn,xtl⟩ xks xal xbs xp)])
  | skip
  refine QdP ?_
  refine QcD ?_
  refine Zh 64 (none) (i:=2) Y Y Y Y Y (Ze (xs:=[.tmp 63,.const (.string ⟨#[121]⟩)]) Y Y (HY) by3 ⟨Y,Y⟩) ?_
  refine Qp ?_
  refine Zh 66 (none) (i:=4) Y Y Y Y Y (Ze (xs:=[.tmp 62,.tmp 64,.tmp 65]) Y Y (HC1) (by repeat' (first|exact Xh _|refine Xi ?_ ?_|exact Xg _|exact Le.own _ _ _|exact Le.nil _|refine Le.agg ?_|refine Le.own_seqL ?_|refine Le.seq ?_|exact Less.refl _|exact Less.nil|refine Less.cons ?_ Y ?_)) ⟨Y,Y⟩) ?_
  refine Qfj ?_
  show AGo _ _ _ _ _ _ _
  refine QX ?_
  first
  | exact Zn (i:=2) rfl rfl rfl Yf rfl by4 (Xb _) ⟨rfl,rfl⟩
  | exact Zn (i:=3) rfl rfl rfl Yf rfl by4 (Xb _) ⟨rfl,rfl⟩
 refine Qx ?_
 obtain ⟨j,rfl⟩:∃ k,j=k+1:=⟨j - 1,by omega⟩
 rw [show (((j+1:Nat):Int) - 1)=(j:Int) by omega]
 have HPj:=HP j by18
 obtain ⟨⟨rk,rs,rn,⟨rtk,rts,rtn,rtl⟩,rks,ral,rbs,rp⟩,hr2⟩:∃ r,twoX a kEqN j=r:=⟨_,rfl⟩
 rw [hr2] at HPj
 refine Qi ?_
 refine QcK ?_
 refine Qb ?_
 refine Zb 28 Y Y Y (Ze (xs:=[.tmp 26,.const (.string ⟨#[101,113]⟩),.tmp 27]) Y Y (HPj) by3 ?_)
 refine QI ?_;intro b8
 refine QS ?_
 refine Q2 ?_
 refine Qu ?_
 refine QcF ?_
 refine QW ?_;intro n32
 refine QT ?_
 refine Qk ?_;intro c34 h34
 refine Qa ?_
 obtain ⟨rfl,g34⟩|⟨rfl,g34⟩:=Za h34
 ·refine QN ?_
  refine Qi ?_
  refine Qak ?_
  refine QbJ ?_
  refine Qac ?_
  refine Qbm ?_
  refine Qe ?_
  refine QT ?_
  refine Qap ?_
  first
  | exact ⟨(j,opE 10 [.mk rk rs rn ⟨rtk,rts,rtn,rtl⟩ rks ral rbs rp,.mk xk xs xn ⟨xtk,xts,xtn,xtl⟩ xks xal xbs xp] a),⟨by omega,by rw [eqV_and a by18,hr2,hA]⟩,by show j<j+1;omega,by6,by0⟩
  | exact ⟨(j,.mk rk rs rn ⟨rtk,rts,rtn,rtl⟩ rks ral rbs rp),⟨by omega,by rw [eqV_one a by18,hr2]⟩,by show j<j+1;omega,by6,by0⟩
 refine Qh ?_
 refine Qi ?_
 refine Qak ?_
 refine Qc7 ?_
 refine Zb 37 Y Y Y (Zd (xs:=[.tmp 35,.tmp 36]) Xa Y Y Y Y Y Y (Xm Y) ?_)
 refine Qy ?_
 refine Zb 40 Y Y Y (Zk (ns:=[0,4,7]) (xs:=[.const (.int .i64 10),.tmp 37,.tmp 39]) (cs':=[_,_,_,_,_,_,_,_,_,_,_]) Y tz_58 Y tfl_58 Y Y Y Y ?_)
 refine QS ?_
 refine Qa ?_
 refine Qi ?_
 refine Qak ?_
 refine QbJ ?_
 refine Qac ?_
 refine Qbm ?_
 refine Qe ?_
 refine QT ?_
 refine Qap ?_
 first
 | exact ⟨(j,opE 10 [.mk rk rs rn ⟨rtk,rts,rtn,rtl⟩ rks ral rbs rp,.mk xk xs xn ⟨xtk,xts,xtn,xtl⟩ xks xal xbs xp] a),⟨by omega,by rw [eqV_and a by18,hr2,hA]⟩,by show j<j+1;omega,by6,by0⟩
 | exact ⟨(j,.mk rk rs rn ⟨rtk,rts,rtn,rtl⟩ rks ral rbs rp),⟨by omega,by rw [eqV_one a by18,hr2]⟩,by show j<j+1;omega,by6,by0⟩
/- alternatives of all constructors, by their places -/
def alF (f:Nat→Cn→Al):Nat→List Cn→List Al
 | _,[]=>[]
 | k,c::l=>f k c::alF f (k+1) l
theorem alF_snoc (f:Nat→Cn→Al) (c:Cn):∀ (l:List Cn) (k:Nat),alF f k (l++[c])=alF f k l++[f (k+l.length) c]
 | [],k=>rfl
 | x::l,k=>by
  show f k x::alF f (k+1) (l++[c])=f k x::alF f (k+1) l++[f (k+(l.length+1)) c]
  rw [alF_snoc f c l (k+1),show k+1+l.length=k+(l.length+1) by omega]
  rfl
theorem alF_len (f:Nat→Cn→Al):∀ (l:List Cn) (k:Nat),(alF f k l).length=l.length
 | [],_=>rfl
 | _::l,k=>by show (alF f (k+1) l).length+1=l.length+1;rw [alF_len f l]
theorem alts_alF (a:Int) (g:Nat→Cn→Opd × Dx):∀ (l:List Cn) (k:Nat),Dx.alts a (altD g k l)=alF (fun k c=>.mk (paX a (g k c).1) ((g k c).2.ex a)) k l
 | [],_=>rfl
 | c::l,k=>by
  rw [altD,Dx.alts,alts_alF a g l (k+1)]
  rfl
theorem casD_ex (a:Int) (h:Opd) (g:Nat→Cn→Opd × Dx) {l:List Cn} (hl:l≠[]):(casD h (altD g 0 l)).ex a=.mk 8 kE 0 ty0 [opX a h] (alF (fun k c=>.mk (paX a (g k c).1) ((g k c).2.ex a)) 0 l) [] a:=by
 rw [← alts_alF]
 cases l with
 | nil=>exact absurd rfl hl
 | cons c l =>
  show (Dx.cas h (g 0 c).1 (g 0 c).2 (altD g 1 l)).ex a=_
  rw [Dx.ex]
  rfl
def cmpA (a:Int) (i k:Nat) (c:Cn):Al:=if k<i then .mk (patX a c.s kE c.ts.length) (namE 4 kGT a) else if k=i then .mk (patX a c.s kY c.ts.length) (orderX a c.ts.length) else .mk (patX a c.s kE c.ts.length) (namE 4 kLT a)
def cmpXX (a:Int) (i:Nat) (cs:List Cn):Ex:=.mk 8 kE 0 ty0 [namE 3 kY a] (alF (cmpA a i) 0 cs) [] a
theorem cmpXX_law (a:Int) (i:Nat) {cs:List Cn} (h:cs≠[]):(cmpD num i cs).ex a=cmpXX a i cs:=by
 unfold cmpD cmpXX
 rw [casD_ex a _ _ h]
 have e:(fun k c=>Al.mk (paX a (cmpG num i k c).1) ((cmpG num i k c).2.ex a))=cmpA a i:=by
  funext k c
  unfold cmpG cmpA
  split
  ·rw [patX_law];rfl
  split
  ·rw [patX_law,orderX_law]
  rw [patX_law];rfl
 rw [e]
 rfl
theorem Al.cellss_snoc (l:List Al) (x:Al):Al.cellss (l++[x])=Al.cellss l++[x.cells]:=by
 rw [Al.cellss_map,Al.cellss_map,List.map_append];rfl
theorem m_compare_c (d:Da) (a:Int) (i:Nat) (hn:∀ c∈d.cs,c.ts.length≤1000000) (hd:d.cs.length≤1000000):PCall Tryz.prog 34 [.agg (mkC d a),.val (.int .i64 i)] (.agg (cmpXX a i d.cs).cells):=by
 have HG:=m_con_c d a kGT
 have HL:=m_con_c d a kLT
 have HY:=m_name_c d a kY
 have HP:=fun c of h1 h2=>m_pattern_c d a c of h1 h2
 have HO:=fun c h=>m_order_c d a c h
 have HC:=m_cases_c d a (namE 3 kY a) (alF (cmpA a i) 0 d.cs)
 obtain ⟨ds,dps,dcs,ddv,dp⟩:=d
 replace hn:∀ c∈dcs,c.ts.length≤1000000:=hn
 replace hd:dcs.length≤1000000:=hd
 replace HC:PCall Tryz.prog 60 [.agg (mkC (Da.mk ds dps dcs ddv dp) a),.agg (namE 3 kY a).cells,.seq 16 (Al.cellss (alF (cmpA a i) 0 dcs))] (.agg (cmpXX a i dcs).cells):=HC
 show PCall Tryz.prog _ _ (.agg (cmpXX a i dcs).cells)
 have hlc:=Cn.cellss_len dcs
 unfold mkC cmpXX at *
 simp only [Da.cells,List.cons_append,List.nil_append] at *
 refine Zc Tryz.func34 Y (by kernel_rfl) Y (Xm Y) ?_
 refine QcC ?_;intro b4
 refine Qa ?_
 refine Qcm ?_
 refine Qo ?_
 refine Qbi ?_
 refine Qy ?_
 refine Qbl ?_;intro n11
 refine QaN ?_
 refine Yb 65 16 ?_
 apply Ye (rg [(0,1),(3,1),(5,5),(12,42)]) (σ:=Nat × Value) (fun zz=>match zz with|(k,u)=>[(12,.val (.int .i64 k)),(5,.own u 16 (Al.cellss (alF (cmpA a i) 0 (dcs.take k))))]) (fun zz=>match zz with|(k,u)=>[.loc b4 zEx,.own 65 16 u]) (fun zz=>match zz with|(k,u)=>k≤dcs.length) (fun zz=>match zz with|(k,u)=>dcs.length - k) ((0,.slice none 0 0))
 ·repeat' (first|exact Xp|apply Xn rfl|apply Xo rfl)
 ·exact Nat.zero_le _
 ·exact Xj Y (Xg _) (Xj Y (Le.nilOwn 16) (SLe.nil _))
 ·exact (Xf Y)
 rintro ⟨k,u⟩ hI
 try dsimp only [List.cons_append,List.nil_append] at hI ⊢
 have hk:=hI
 have hal:(Al.cellss (alF (cmpA a i) 0 (dcs.take k))).length≤1000000:=by
  rw [Al.cellss_map,List.length_map,alF_len,List.length_take];omega
 refine QaO ?_;intro c13 h13
 refine Qv ?_
 obtain ⟨rfl,g13⟩|⟨rfl,g13⟩:=Za h13
 ·refine QE ?_
  rw [List.take_of_length_le by18]
  refine QdP ?_
  refine QcD ?_
  refine Zh 56 (none) (i:=2) Y Y Y Y Y (Ze (xs:=[.tmp 55,.const (.string ⟨#[121]⟩)]) Y Y (HY) by3 ⟨Y,Y⟩) ?_
  refine Qp ?_
  refine Zh 58 (none) (i:=4) Y Y Y Y Y (Ze (xs:=[.tmp 54,.tmp 56,.tmp 57]) Y Y (HC) by3 ⟨Y,Y⟩) ?_
  refine QcL ?_
  show AGo _ _ _ _ _ _ _
  refine QX ?_
  exact Zn (i:=0) Y Y Y Yf Y by4 (Xb _) ⟨Y,Y⟩
 refine Qx ?_
 obtain ⟨⟨qs,qts,qp⟩,hxq⟩:=Zo (l:=dcs) (i:=k) by9
 have hcq:=Cn.cellss_get hxq
 have hmq:=Xq hxq
 have hnq:qts.length≤1000000:=hn _ hmq
 have hsn:=Yg hxq
 have htl:(dcs.take k).length=k:=by rw [List.length_take];omega
 have HPE:PCall Tryz.prog 59 _ (.agg (patX a qs kE qts.length).cells):=HP (Cn.mk qs qts qp) kE by17 hnq
 have HPY:PCall Tryz.prog 59 _ (.agg (patX a qs kY qts.length).cells):=HP (Cn.mk qs qts qp) kY by17 hnq
 have HOq:PCall Tryz.prog 64 _ (.agg (orderX a qts.length).cells):=HO (Cn.mk qs qts qp) hnq
 have hca:cmpA a i k (Cn.mk qs qts qp)=if k<i then .mk (patX a qs kE qts.length) (namE 4 kGT a) else if k=i then .mk (patX a qs kY qts.length) (orderX a qts.length) else .mk (patX a qs kE qts.length) (namE 4 kLT a):=rfl
 obtain ⟨⟨ok,os,on,⟨otk,ots,otn,otl⟩,oks,oal,obs,op⟩,ho⟩:∃ r,orderX a qts.length=r:=⟨_,rfl⟩
 rw [ho] at HOq hca
 unfold patX at HPE HPY hca
 simp only [Cn.cells] at HPE HPY HOq
 refine Qe ?_
 refine Qdb ?_
 refine QcN ?_
 refine Qcb ?_;intro b7
 refine Qa3 ?_
 refine Qcc ?_
 refine Qa ?_
 refine Qam ?_
 refine QP ?_
 refine Qk ?_;intro c29 h29
 refine Qf ?_
 obtain ⟨rfl,g29⟩|⟨rfl,g29⟩:=Za h29
 ·refine QH ?_
  refine QP ?_
  refine Qj ?_;intro c42 h42
  refine Qf ?_
  obtain ⟨rfl,g42⟩|⟨rfl,g42⟩:=Za h42
  ·refine QH ?_
   refine Qfk ?_
   refine Qp ?_
   refine QaC ?_
   refine QdR ?_
   refine Zh 20 (none) (i:=3) Y Y Y Y Y (Ze (xs:=[.tmp 18,.tmp 19,.const (.string ⟨#[]⟩)]) Y Y (HPE) by3 ⟨Y,Y⟩) ?_
   refine QaC ?_
   refine Zh 22 (none) (i:=5) Y Y Y Y Y (Ze (xs:=[.tmp 21,.const (.string ⟨#[76,84]⟩)]) Y Y (HL) by3 ⟨Y,Y⟩) ?_
   refine Zh 23 (none) (i:=6) Y Y Y Y Y (Zk (ns:=[0,1]) (xs:=[.tmp 20,.tmp 22]) (cs':=[_,_,_,_,_,_,_,_,_,_,_,_,_,_,_,_]) Y tz_65 Y tfl_65 Y Y Y Y ⟨Y,Y⟩) ?_
   refine Zh 24 (none) (i:=7) Y Y Y Y Y (Zd (xs:=[.tmp 23]) el_56 Y Y Y Y Y Y (Xm Y) ⟨Y,Y⟩) ?_
   refine Zs 2 (i:=8) Y Y Y Y Y (Zr (i:=0) el_56 Y Y Y Y (.seq _ _) by8 (fun u25=>⟨_,Y,?_⟩))
   refine Qbu ?_
   show AGo _ _ _ _ _ _ _
   refine go_blk ?_
   refine Qax ?_
   first
   |(rw [if_pos by18] at hca;exact ⟨(k+1,u38),by show k+1≤dcs.length;omega,by show dcs.length - (k+1)<dcs.length - k;omega,Xj rfl (Xg _) (Xj rfl (Xl (by rw [hsn,alF_snoc,Al.cellss_snoc,htl,show 0+k=k by omega,hca];rfl)) by6),(Xd _ (Xf rfl))⟩)
   |(rw [if_neg by18,if_pos by18] at hca;exact ⟨(k+1,u52),by show k+1≤dcs.length;omega,by show dcs.length - (k+1)<dcs.length - k;omega,Xj rfl (Xg _) (Xj rfl (Xl (by rw [hsn,alF_snoc,Al.cellss_snoc,htl,show 0+k=k by omega,hca];rfl)) by6),(Xd _ (Xf rfl))⟩)
   |(rw [if_neg by18,if_neg by18] at hca;exact ⟨(k+1,u25),by show k+1≤dcs.length;omega,by show dcs.length - (k+1)<dcs.length - k;omega,Xj rfl (Xg _) (Xj rfl (Xl (by rw [hsn,alF_snoc,Al.cellss_snoc,htl,show 0+k=k by omega,hca];rfl)) by6),(Xd _ (Xf rfl))⟩)
  refine Qh ?_
  refine Ya [0,1,2,3,4,5,6,7,8,9,10] [9] [[],[],[],[1,2],[],[],[1,2,3,4,5],[1,2,3,4,5,6],[1,2,3,4,5,6,7],[0,1,2,3,4,5,6,7,8],[0,1,2,3,4,5,6,7,8,9]] tmix Y ?_
  refine Qp ?_
  refine QaC ?_
  refine QdR ?_
  refine Zh 46 (none) (i:=3) Y Y Y Y Y (Ze (xs:=[.tmp 44,.tmp 45,.const (.string ⟨#[121]⟩)]) Y Y (HPY) by3 ⟨Y,Y⟩) ?_
  refine QaC ?_
  refine QdR ?_
  refine Zh 49 (none) (i:=6) Y Y Y Y Y (Ze (xs:=[.tmp 47,.tmp 48,.const (.int .i64 0)]) Y Y (HOq) by3 ⟨Y,Y⟩) ?_
  refine Zh 50 (none) (i:=7) Y Y Y Y Y (Zk (ns:=[0,1]) (xs:=[.tmp 46,.tmp 49]) (cs':=[_,_,_,_,_,_,_,_,_,_,_,_,_,_,_,_]) Y tz_65 Y tfl_65 Y Y Y Y ⟨Y,Y⟩) ?_
  refine Zh 51 (none) (i:=8) Y Y Y Y Y (Zd (xs:=[.tmp 50]) el_56 Y Y Y Y Y Y (Xm Y) ⟨Y,Y⟩) ?_
  refine Zs 2 (i:=9) Y Y Y Y Y (Zr (i:=0) el_56 Y Y Y Y (.seq _ _) by8 (fun u52=>⟨_,Y,?_⟩))
  refine Qbu ?_
  show AGo _ _ _ _ _ _ _
  refine go_blk ?_
  refine Qax ?_
  first
  |(rw [if_pos by18] at hca;exact ⟨(k+1,u38),by show k+1≤dcs.length;omega,by show dcs.length - (k+1)<dcs.length - k;omega,Xj rfl (Xg _) (Xj rfl (Xl (by rw [hsn,alF_snoc,Al.cellss_snoc,htl,show 0+k=k by omega,hca];rfl)) by6),(Xd _ (Xf rfl))⟩)
  |(rw [if_neg by18,if_pos by18] at hca;exact ⟨(k+1,u52),by show k+1≤dcs.length;omega,by show dcs.length - (k+1)<dcs.length - k;omega,Xj rfl (Xg _) (Xj rfl (Xl (by rw [hsn,alF_snoc,Al.cellss_snoc,htl,show 0+k=k by omega,hca];rfl)) by6),(Xd _ (Xf rfl))⟩)
  |(rw [if_neg by18,if_neg by18] at hca;exact ⟨(k+1,u25),by show k+1≤dcs.length;omega,by show dcs.length - (k+1)<dcs.length - k;omega,Xj rfl (Xg _) (Xj rfl (Xl (by rw [hsn,alF_snoc,Al.cellss_snoc,htl,show 0+k=k by omega,hca];rfl)) by6),(Xd _ (Xf rfl))⟩)
 refine Qh ?_
 refine Qfk ?_
 refine Qp ?_
 refine QaC ?_
 refine QdR ?_
 refine Zh 33 (none) (i:=3) Y Y Y Y Y (Ze (xs:=[.tmp 31,.tmp 32,.const (.string ⟨#[]⟩)]) Y Y (HPE) by3 ⟨Y,Y⟩) ?_
 refine QaC ?_
 refine Zh 35 (none) (i:=5) Y Y Y Y Y (Ze (xs:=[.tmp 34,.const (.string ⟨#[71,84]⟩)]) Y Y (HG) by3 ⟨Y,Y⟩) ?_
 refine Zh 36 (none) (i:=6) Y Y Y Y Y (Zk (ns:=[0,1]) (xs:=[.tmp 33,.tmp 35]) (cs':=[_,_,_,_,_,_,_,_,_,_,_,_,_,_,_,_]) Y tz_65 Y tfl_65 Y Y Y Y ⟨Y,Y⟩) ?_
 refine Zh 37 (none) (i:=7) Y Y Y Y Y (Zd (xs:=[.tmp 36]) el_56 Y Y Y Y Y Y (Xm Y) ⟨Y,Y⟩) ?_
 refine Zs 2 (i:=8) Y Y Y Y Y (Zr (i:=0) el_56 Y Y Y Y (.seq _ _) by8 (fun u38=>⟨_,Y,?_⟩))
 refine Qbu ?_
 show AGo _ _ _ _ _ _ _
 refine go_blk ?_
 refine Qax ?_
 first
 |(rw [if_pos by18] at hca;exact ⟨(k+1,u38),by show k+1≤dcs.length;omega,by show dcs.length - (k+1)<dcs.length - k;omega,Xj rfl (Xg _) (Xj rfl (Xl (by rw [hsn,alF_snoc,Al.cellss_snoc,htl,show 0+k=k by omega,hca];rfl)) by6),(Xd _ (Xf rfl))⟩)
 |(rw [if_neg by18,if_pos by18] at hca;exact ⟨(k+1,u52),by show k+1≤dcs.length;omega,by show dcs.length - (k+1)<dcs.length - k;omega,Xj rfl (Xg _) (Xj rfl (Xl (by rw [hsn,alF_snoc,Al.cellss_snoc,htl,show 0+k=k by omega,hca];rfl)) by6),(Xd _ (Xf rfl))⟩)
 |(rw [if_neg by18,if_neg by18] at hca;exact ⟨(k+1,u25),by show k+1≤dcs.length;omega,by show dcs.length - (k+1)<dcs.length - k;omega,Xj rfl (Xg _) (Xj rfl (Xl (by rw [hsn,alF_snoc,Al.cellss_snoc,htl,show 0+k=k by omega,hca];rfl)) by6),(Xd _ (Xf rfl))⟩)
end Go.Proofs.YtefbicnoddggnaaGreat
