/- CodeBack: what is encoded is decoded as it was; what is decoded of any bytes has just these bytes; cut off, or with a byte more, it is wrong. -/
import Derived.Test.YtadhakcmfkghbaaKLCBack3
import Derived.Lib.LazyBuf
import Derived.Test.YtadhakcmfkghbaaChecked
import Derived.Test.YtadhakcmfkghbaaRows
set_option maxRecDepth 100000
set_option maxHeartbeats 4000000
namespace Go.Proofs.Ytadhakcmfkghbaa
open Go.RowKit
def smI (i:Is):Nat:=i.ar.length+i.fs.length+(i.cp.map fun l=>1+l.length).sum
def smN (c:Cd):Nat:=c.is.length+c.fu.length+c.tx.length+(c.tx.map ByteArray.size).sum+(c.is.map smI).sum
theorem sumq_take {α:Type} {f:α→Nat} {l:List α} {k:Nat} {x:α} (h:l[k]?=some x):((l.take (k+1)).map f).sum=((l.take k).map f).sum+f x:=by
 rw [List.take_add_one,h,List.map_append,List.sum_append];simp
theorem sumq_le {α:Type} {f:α→Nat} (l:List α) (k:Nat):((l.take k).map f).sum≤(l.map f).sum:=by
 conv=>rhs;rw [← List.take_append_drop k l,List.map_append,List.sum_append]
 omega
theorem num_10 {n:Nat} (h:n<18446744073709551616):(num n).length≤10:=num_len64 h
theorem natI {n:Int} (h:I64 n):n.toNat<18446744073709551616:=by have:=h.2;omega
theorem ato_20 {a:Ato} (h:a.Lim):(atomB a).length≤20:=by
 obtain ⟨k,n⟩:=a
 unfold atomB atomN
 rw [List.length_append]
 have h1:=num_10 (natI h.1)
 have h2:(if k=1 then num (zz n) else num n.toNat).length≤10:=by
  split
  ·exact num_10 (zz_lt h.2)
  exact num_10 (natI h.2)
 show (num k.toNat).length+(if k=1 then num (zz n) else num n.toNat).length≤20
 omega
theorem atoms_20:∀ {l:List Ato},(∀ a∈l,a.Lim)→(atomsB l).length≤20 * l.length
 | [],_=>Nat.le_refl _
 | a::l,h=>by
  have h1:=ato_20 (h a by11)
  have h2:=atoms_20 (l:=l) (fun x hx=>h x (by simp [hx]))
  show (atomB a++atomsB l).length≤_
  rw [List.length_append,List.length_cons];omega
theorem caps_20:∀ {fs:List Int} {cp:List (List Ato)},(∀ n∈fs,I64 n)→(∀ l∈cp,l.length≤140737488355328∧∀ a∈l,a.Lim)→(((fs.zip cp).map cW).flatten).length≤20 * (cp.map fun l=>1+l.length).sum
 | [],cp,_,_=>by simp
 | _::_,[],_,_=>by simp
 | f::fs,l::cp,h1,h2=>by
  have k1:=num_10 (natI (h1 f by11))
  have k2:(num l.length).length≤10:=num_10 (by have:=(h2 l by11).1;omega)
  have k3:=atoms_20 (h2 l by11).2
  have k4:=caps_20 (fs:=fs) (cp:=cp) (fun n hn=>h1 n (by simp [hn])) (fun x hx=>h2 x (by simp [hx]))
  rw [List.zip_cons_cons,List.map_cons,List.flatten_cons,List.length_append,List.map_cons,List.sum_cons]
  unfold cW at *
  simp only [List.length_append] at *
  omega
theorem ins_60 {i:Is} (h:i.Lim):(insW i).length≤60+20 * smI i:=by
 obtain ⟨op,a,b,n,ar,fs,cp⟩:=i
 obtain ⟨L1,L2,L3,L4,L5,L6,L7⟩:=h
 have h1:=num_10 (natI L1)
 have h2:=num_10 (natI L2)
 have h3:=num_10 (natI L3)
 have h4:(nB op n).length≤10:=by
  unfold nB
  split
  ·split
   ·exact num_10 (zz_lt L4)
   exact num_10 (natI L4)
  simp
 have h5:(num ar.length).length≤10:=num_10 by10
 have h6:(num fs.length).length≤10:=num_10 by10
 have h7:=atoms_20 L5.2
 have h8:=caps_20 L6.2 L7.2
 have e:insW (Is.mk op a b n ar fs cp)=num op.toNat++((if opA op then num a.toNat else [])++(nB op n++((if opB op then num b.toNat else [])++((if opG op<0 then num ar.length else [])++(atomsB ar++(if op=4 then num fs.length++((fs.zip cp).map cW).flatten else [])))))):=rfl
 have g1:(if opA op then num a.toNat else []).length≤10:=by split <;> first|omega|simp
 have g2:(if opB op then num b.toNat else []).length≤10:=by split <;> first|omega|simp
 have g3:(if opG op<0 then num ar.length else []).length≤10:=by split <;> first|omega|simp
 have g4:(if op=4 then num fs.length++((fs.zip cp).map cW).flatten else []).length≤10+20 * (cp.map fun l=>1+l.length).sum:=by
  split
  ·rw [List.length_append];omega
  simp
 rw [e]
 simp only [List.length_append] at *
 show _≤60+20 * (ar.length+fs.length+(cp.map fun l=>1+l.length).sum)
 omega
theorem iB_60:∀ {l:List Is},(∀ i∈l,i.Lim)→(iB l).length≤60 * l.length+20 * (l.map smI).sum
 | [],_=>Nat.le_refl _
 | i::l,h=>by
  have h1:=ins_60 (h i by11)
  have h2:=iB_60 (l:=l) (fun x hx=>h x (by simp [hx]))
  show (insW i++iB l).length≤_
  rw [List.length_append,List.length_cons,List.map_cons,List.sum_cons];omega
theorem fB_30:∀ {l:List Cf},(∀ f∈l,f.Lim)→(fB l).length≤30 * l.length
 | [],_=>Nat.le_refl _
 | f::l,h=>by
  have h2:=fB_30 (l:=l) (fun x hx=>h x (by simp [hx]))
  have h0:=h f by11
  obtain ⟨a,b,c⟩:=f
  obtain ⟨m1,m2,m3⟩:=h0
  have k1:=num_10 (natI m1)
  have k2:=num_10 (natI m2)
  have k3:=num_10 (natI m3)
  show ((num a.toNat++(num b.toNat++num c.toNat))++fB l).length≤_
  simp only [List.length_append,List.length_cons];omega
theorem tB_10:∀ {l:List ByteArray},(∀ s∈l,s.size≤1048576)→(tB l).length≤10 * l.length+(l.map ByteArray.size).sum
 | [],_=>Nat.le_refl _
 | s::l,h=>by
  have h1:(num s.size).length≤10:=num_10 (by have:=h s by11;omega)
  have h2:=tB_10 (l:=l) (fun x hx=>h x (by simp [hx]))
  show ((num s.size++byts s)++tB l).length≤_
  rw [List.length_append,List.length_append,byts_len,List.length_cons,List.map_cons,List.sum_cons];omega
theorem enc_len {c:Cd} (h:WCd c):(encB c).length≤100+60 * smN c:=by
 obtain ⟨hl,_,_,_,h4,_,_⟩:=h
 obtain ⟨is,fu,tx,gl,ys,no⟩:=c
 obtain ⟨L1,L2,L3,L4,L5,L6⟩:=hl
 have k1:=num_10 (natI L4)
 have k2:=num_10 (natI L5)
 have k3:=num_10 (natI L6)
 have k4:(num tx.length).length≤10:=num_10 by10
 have k5:(num fu.length).length≤10:=num_10 by10
 have k6:(num is.length).length≤10:=num_10 by10
 have k7:=tB_10 h4
 have k8:=fB_30 L2.2
 have k9:=iB_60 L1.2
 have k7:(tB tx).length≤10 * tx.length+(tx.map ByteArray.size).sum:=k7
 have e:encB (Cd.mk is fu tx gl ys no)=[199]++(num gl.toNat++(num ys.toNat++(num no.toNat++(num tx.length++(tB tx++(num fu.length++(fB fu++(num is.length++(iB is++[]))))))))):=rfl
 rw [e]
 simp only [List.length_append,List.length_cons,List.length_nil]
 show _≤100+60 * (is.length+fu.length+tx.length+(tx.map ByteArray.size).sum+(is.map smI).sum)
 omega
theorem funsP_caps {c:Cd} (hcp:∀ f∈c.fu,f.cp≤1048576):∀ (fu:List Cf) (at0:Nat),FunsP c at0 fu→(∀ i∈c.is.drop at0,i.cp.length≤1048576∧∀ l∈i.cp,l.length≤1048576)
 | [],at0,h=>by
  have h:at0=c.is.length:=h
  subst h
  exact fun i hi=>by simp at hi
 | f::fu,at0,h=>by
  obtain ⟨⟨⟨_,_,_,hsl,_,_⟩,h2,_⟩,h3⟩:=h
  have k1:=funsP_caps hcp fu _ h3
  intro i hi
  rw [show c.is.drop at0=(c.is.take (at0+f.len.toNat)).drop at0++c.is.drop (at0+f.len.toNat) by
   conv=>lhs;rw [← List.take_append_drop (at0+f.len.toNat) c.is]
   rw [List.drop_append]
   congr 1
   rw [List.length_take,show at0 - min (at0+f.len.toNat) c.is.length=0 by omega,List.drop_zero]] at hi
  rcases List.mem_append.1 hi with hi|hi
  ·obtain ⟨_,_,⟨q3,_⟩,_,_,_,_,q15,q16⟩:=h2 i hi
   by_cases e:i.op=4
   ·obtain ⟨p1,p2,p3,p4⟩:=q16 e
    have ha:=(q3 (by rw [opA_iff];omega)).1
    refine ⟨by omega,fun l hl=>?_⟩
    obtain ⟨k,hk⟩:=List.getElem?_of_mem hl
    obtain ⟨n,hn⟩:=zip_get p2 hk
    obtain ⟨r1,r2,r3,_⟩:=p4 k n l hn hk
    obtain ⟨g,hg⟩:=Zm (l:=c.fu) (i:=n.toNat) by10
    have:=r3 g hg
    have:=hcp g (Yn hg)
    omega
   rw [(q15 e).2]
   exact ⟨by simp,fun l hl=>by simp at hl⟩
  exact k1 i hi
theorem funsP_cp {c:Cd}:∀ (fu:List Cf) (at0:Nat),FunsP c at0 fu→∀ f∈fu,f.cp≤1048576
 | [],_,_,f,hf=>by simp at hf
 | g::fu,at0,h,f,hf=>by
  rcases List.mem_cons.1 hf with rfl|hf
  ·exact h.1.1.2.2.2.2.2
  exact funsP_cp fu _ h.2 f hf
theorem right_caps {c:Cd} (h:RightP c):∀ i∈c.is,i.cp.length≤1048576∧∀ l∈i.cp,l.length≤1048576:=by
 have:=funsP_caps (funsP_cp _ _ h.2.2) _ _ h.2.2
 simpa using this
theorem Small29_b (c:Cd) (hL:c.Lim) (hR:RightP c):BCall Try.prog 6 [.agg c.cells,.val (.int .i64 20000)] (smN c≤20000):=by
 have hC:=right_caps hR
 have hT:=hR.2.1
 clear hR
 obtain ⟨is,fu,tx,gl,ys,no⟩:=c
 have hN:smN (Cd.mk is fu tx gl ys no)=is.length+fu.length+tx.length+(tx.map ByteArray.size).sum+(is.map smI).sum:=rfl
 generalize smN (Cd.mk is fu tx gl ys no)=N at hN
 have hT:∀ s∈tx,s.size≤1048576:=hT
 have hC:∀ i∈is,i.cp.length≤1048576∧∀ l∈i.cp,l.length≤1048576:=hC
 obtain ⟨L1,L2,L3,L4,L5,L6⟩:=hL
 have hl1:=Is.cellss_len is
 have hl2:=Cf.cellss_len fu
 have hl5:=strs_len tx
 refine Zc Try.func6 V (by kernel_rfl) V (Yj V) ?_
 refine Qj ?_
 refine Qbe ?_
 refine Qk ?_
 refine QV ?_
 refine QaG ?_;intro n14
 refine Qn ?_
 refine QaY ?_;intro n17
 refine QS ?_
 refine Qn ?_
 refine Qax ?_;intro n21
 refine QS ?_
 refine Qat ?_
 refine Qa ?_
 refine QbB ?_;intro c25 h25
 refine Qb ?_
 obtain ⟨rfl,g25⟩|⟨rfl,g25⟩:=Za h25
 ·refine QF ?_
  refine QV ?_
  refine Qax ?_;intro n28
  refine QG ?_
  apply Ya (rg [(0,1),(3,1),(5,4),(10,1),(12,15),(29,9)]) (σ:=Nat × Nat) (fun zz=>match zz with|(k,n)=>[(29,.val (.int .i64 k)),(5,.val (.int .i64 n))]) (fun zz=>match zz with|(k,n)=>k≤tx.length∧n=is.length+fu.length+tx.length+((tx.take k).map ByteArray.size).sum∧n≤20000+k * 1048576) (fun zz=>match zz with|(k,n)=>tx.length - k) ((0,is.length+fu.length+tx.length))
  ·repeat' (first|exact Ym|apply Yk rfl|apply Yl rfl)
  ·exact ⟨Nat.zero_le _,by simp,by omega⟩
  ·exact SLe.cons V (Yf _) (SLe.cons V (Le.ieq by10) (SLe.nil _))
  rintro ⟨k,n⟩ hI
  try dsimp only [List.cons_append,List.nil_append] at hI ⊢
  obtain ⟨hk,hn,hnb⟩:=hI
  refine Qy ?_;intro c30 h30
  refine Qf ?_
  obtain ⟨rfl,g30⟩|⟨rfl,g30⟩:=Za h30
  ·refine Q2 ?_
   refine Ql ?_
   have hn1:n=is.length+fu.length+tx.length+(tx.map ByteArray.size).sum:=by rw [hn,List.take_of_length_le by10]
   refine Qa3 ?_
   refine QaG ?_;intro n40
   refine QG ?_
   apply Ya (rg [(0,1),(2,37),(41,30)]) (σ:=Nat × Nat) (fun zz=>match zz with|(k2,n2)=>[(41,.val (.int .i64 k2)),(5,.val (.int .i64 n2))]) (fun zz=>match zz with|(k2,n2)=>k2≤is.length∧n2=n+((is.take k2).map smI).sum∧n2≤40000000000) (fun zz=>match zz with|(k2,n2)=>is.length - k2) ((0,n))
   ·repeat' (first|exact Ym|apply Yk rfl|apply Yl rfl)
   ·exact ⟨Nat.zero_le _,by simp,by show n≤_;omega⟩
   ·exact by2
   rintro ⟨k2,n2⟩ hI
   try dsimp only [List.cons_append,List.nil_append] at hI ⊢
   obtain ⟨hk2,hn2,hnb2⟩:=hI
   refine Qy ?_;intro c42 h42
   refine Qf ?_
   obtain ⟨rfl,g42⟩|⟨rfl,g42⟩:=Za h42
   ·refine Q2 ?_
    have hn5:n2=n+(is.map smI).sum:=by rw [hn2,List.take_of_length_le by10]
    refine Qag ?_
    refine Qch ?_;intro c73 h73
    refine Qi ?_
    exact Zd V V (Yf _) by1 ⟨⟨_,by rename_i c73 h73;exact h73.trans by10,V⟩,V⟩
   refine Qw ?_
   obtain ⟨i,hi⟩:=Zm (l:=is) (i:=k2) by10
   have hci:=Is.cellss_get hi
   obtain ⟨hc1,hc2⟩:=hC i (Yn hi)
   have hst:=sumq_take (f:=smI) hi
   have hle:=sumq_le (f:=smI) is (k2+1)
   have hli:=L1.2 i (Yn hi)
   obtain ⟨op,a,bb,nn,ar,ff,cp⟩:=i
   obtain ⟨M1,M2,M3,M4,M5,M6,M7⟩:=hli
   have hc1:cp.length≤1048576:=hc1
   have hc2:∀ l∈cp,l.length≤1048576:=hc2
   have hsm:smI (Is.mk op a bb nn ar ff cp)=ar.length+ff.length+(cp.map fun l=>1+l.length).sum:=rfl
   have q1:=Ato.cellss_len ar
   have q2:=nums_len ff
   have q3:=Ato.cellsss_len cp
   simp only [Is.cells] at hci
   refine Qg ?_
   refine Zb 43 V V V (Zo V te_22 V (.seq _ _) V V (hci) ?_)
   refine Qbm ?_
   refine Qbo ?_;intro b9
   refine QbA ?_
   refine Qa5 ?_
   refine Qs ?_
   refine Qay ?_;intro n48
   refine Qs ?_
   refine Qbg ?_;intro n51
   refine QS ?_
   refine QS ?_
   refine Qp ?_
   refine Qh ?_
   refine Qs ?_
   refine QbU ?_;intro n56
   refine QG ?_
   apply Ya (rg [(0,1),(2,2),(5,4),(10,29),(57,10)]) (σ:=Nat × Nat) (fun zz=>match zz with|(k3,n3)=>[(57,.val (.int .i64 k3)),(5,.val (.int .i64 n3))]) (fun zz=>match zz with|(k3,n3)=>k3≤cp.length∧n3=n2+(ar.length+ff.length)+((cp.take k3).map fun l=>1+l.length).sum∧n3≤400000000000000+k3 * 1048577) (fun zz=>match zz with|(k3,n3)=>cp.length - k3) ((0,n2+(ar.length+ff.length)))
   ·repeat' (first|exact Ym|apply Yk rfl|apply Yl rfl)
   ·exact ⟨Nat.zero_le _,by simp,by show n2+(ar.length+ff.length)≤_;omega⟩
   ·exact SLe.cons V (Yf _) (SLe.cons V (Le.ieq by10) (SLe.nil _))
   rintro ⟨k3,n3⟩ hI
   try dsimp only [List.cons_append,List.nil_append] at hI ⊢
   obtain ⟨hk3,hn3,hnb3⟩:=hI
   refine Qy ?_;intro c58 h58
   refine Qf ?_
   obtain ⟨rfl,g58⟩|⟨rfl,g58⟩:=Za h58
   ·refine Q2 ?_
    have hn4:n3=n+((is.take (k2+1)).map smI).sum:=by
     rw [hst,hsm,hn3,List.take_of_length_le (l:=cp) by10];omega
    refine Qag ?_
    refine QbB ?_;intro c69 h69
    refine Qb ?_
    obtain ⟨rfl,g69⟩|⟨rfl,g69⟩:=Za h69
    ·refine Qr ?_
     refine Q0 ?_
     exact ⟨(k2+1,n3),⟨by show k2+1≤is.length;omega,hn4,by show n3≤_;omega⟩,by show is.length - (k2+1)<is.length - k2;omega,by2,by1⟩
    refine QB ?_
    exact Zd V V (Yf _) by1 ⟨⟨_,iff_f by10,V⟩,V⟩
   refine Qw ?_
   obtain ⟨l,hl⟩:=Zm (l:=cp) (i:=k3) by10
   have hcl:=Ato.cellsss_get hl
   have hlz:=hc2 l (Yn hl)
   have hst3:=sumq_take (f:=fun l:List Ato=>1+l.length) hl
   have q4:=Ato.cellss_len l
   refine Qg ?_
   refine QcC ?_
   refine Q9 ?_
   refine Qk ?_
   refine Qag ?_
   refine Qay ?_;intro n63
   refine QS ?_
   refine QaP ?_
   refine Q0 ?_
   exact ⟨(k3+1,n3+(1+l.length)),⟨by show k3+1≤cp.length;omega,by show n3+(1+l.length)=_;rw [hst3];omega,by show n3+(1+l.length)≤400000000000000+(k3+1) * 1048577;omega⟩,by show cp.length - (k3+1)<cp.length - k3;omega,SLe.cons V (Yf _) (SLe.cons V (Le.ieq by10) by2),by1⟩
  refine Qw ?_
  obtain ⟨s,hs⟩:=Zm (l:=tx) (i:=k) by10
  have hcs:=strs_get hs
  have hsz:=hT s (Yn hs)
  have hst:=sumq_take (f:=ByteArray.size) hs
  refine Qg ?_
  refine Zb 31 V V V (Zo V te_24 V (.seq _ _) V V (hcs) ?_)
  refine Q9 ?_
  refine Qk ?_
  refine Qag ?_
  refine QbW ?_
  refine QaP ?_
  refine Q0 ?_
  exact ⟨(k+1,n+s.size),⟨by show k+1≤tx.length;omega,by show n+s.size=_;rw [hst];omega,by show n+s.size≤20000+(k+1) * 1048576;omega⟩,by show tx.length - (k+1)<tx.length - k;omega,by2,by1⟩
 refine QB ?_
 exact Zd V V (Yf _) by1 ⟨⟨_,iff_f by10,V⟩,V⟩
def toRI (i:Is):RI:=(i.op,i.a,i.n,i.b,i.ar,i.fs.zip i.cp)
def toRC (c:Cd):RC:=(c.gl,c.ys,c.no,c.tx.map byts,c.fu.map (fun f=>(f.len,f.sl,f.cp)),c.is.map toRI)
-- what is surely read back
def Sure {α:Type} (x:Rd α) (L:α→Prop):Prop:=∀ c,L c→∀ rest,x.ok c rest
def Fat {α:Type} (x:Rd α):Prop:=∀ c,1≤(x.pr c).length
theorem num_pos (n:Nat):1≤(num n).length:=by
 by_cases h:n<128
 ·rw [num_lo h];exact Nat.le_refl _
 rw [num_hi h];simp
theorem fat_num:Fat numD:=fun n=>num_pos n.toNat
theorem Fat.pair {α β:Type} {x:Rd α} (h:Fat x) (y:Rd β):Fat (x.pair y):=fun c=>by
 show 1≤(x.pr c.1++y.pr c.2).length
 have:=h c.1
 rw [List.length_append];omega
theorem Fat.dep {α β:Type} {x:Rd α} (h:Fat x) (y:α→Rd β):Fat (x.dep y):=fun c=>by
 show 1≤(x.pr c.1++(y c.1).pr c.2).length
 have:=h c.1
 rw [List.length_append];omega
theorem fat_len {α:Type} {pr:α→List Int} (h:∀ c,1≤(pr c).length):∀ l:List α,l.length≤((l.map pr).flatten).length
 | []=>Nat.le_refl _
 | x::l=>by
  have h1:=h x
  have h2:=fat_len h l
  rw [List.map_cons,List.flatten_cons,List.length_append,List.length_cons];omega
theorem fat_txt:Fat txtD:=fun t=>by
 show 1≤(num t.length++t).length
 have:=num_pos t.length
 rw [List.length_append];omega
theorem fat_ato (a:Ato):1≤(atoB a).length:=by
 unfold atoB
 have:=num_pos a.k.toNat
 rw [List.length_append];omega
theorem fat_mkd:Fat mkdD:=fun x=>by
 show 1≤(mkdB x).length
 unfold mkdB
 have:=num_pos x.1.toNat
 rw [List.length_append];omega
theorem sure_num:Sure numD (fun n=>0≤n∧n≤9223372036854775807):=fun _ h _=>h
theorem Sure.pair {α β:Type} {x:Rd α} {y:Rd β} {L:α→Prop} {K:β→Prop} (h:Sure x L) (k:Sure y K):Sure (x.pair y) (fun c=>L c.1∧K c.2):=fun c hc rest=>⟨h c.1 hc.1 _,k c.2 hc.2 rest⟩
theorem Sure.dep {α β:Type} {x:Rd α} {y:α→Rd β} {L:α→Prop} {K:α→β→Prop} (h:Sure x L) (k:∀ a,Sure (y a) (K a)):Sure (x.dep y) (fun c=>L c.1∧K c.1 c.2):=fun c hc rest=>⟨h c.1 hc.1 _,k c.1 c.2 hc.2 rest⟩
theorem manyOk_of {α:Type} {pr:α→List Int} {ok:α→List Int→Prop} {L:α→Prop} (h:∀ c,L c→∀ rest,ok c rest):∀ (l:List α),(∀ a∈l,L a)→∀ rest,ManyOk pr ok l rest
 | [],_,_=>trivial
 | x::l,hl,rest=>⟨h x (hl x by11) _,manyOk_of h l (fun a ha=>hl a (by simp [ha])) rest⟩
theorem Sure.list {α:Type} {x:Rd α} {L:α→Prop} (h:Sure x L) (hf:Fat x):Sure x.list (fun l=>l.length≤9223372036854775807∧∀ a∈l,L a):=fun l hl rest =>
 ⟨⟨by have:=fat_len hf l;rw [List.length_append];omega,hl.1⟩,rfl,manyOk_of h l hl.2 rest⟩
theorem Sure.maybe {α:Type} {x:Rd α} {L:α→Prop} (h:Sure x L) (b:Bool) (d:α):Sure (x.maybe b d) (fun c=>(b=true→L c)∧(b=false→c=d)):=fun c hc rest=>by
 show if b then x.ok c rest else c=d
 cases b with
 | true=>exact h c (hc.1 rfl) rest
 | false=>exact hc.2 rfl
theorem sure_txt:Sure txtD (fun t=>t.length≤9223372036854775807):=fun t h rest=>⟨⟨by rw [List.length_append];omega,h⟩,rfl⟩
def AR (a:Ato):Prop:=AOk a∧a.k≤4
theorem ar_ok {a:Ato} (h:AR a):AtoOk a:=by
 obtain ⟨⟨h1,h2,h3⟩,h4⟩:=h
 obtain ⟨k,n⟩:=a
 obtain ⟨_,h5⟩:=h2
 refine ⟨⟨h1,h4⟩,?_⟩
 show if k=1 then _ else _
 split
 ·exact h5
 rename_i q;exact ⟨h3 q,h5.2⟩
theorem sure_mkd:Sure mkdD (fun x=>(0≤x.1∧x.1≤9223372036854775807)∧x.2.length≤9223372036854775807∧∀ a∈x.2,AR a):=fun x h rest =>
 ⟨h.1,⟨by have:=fat_len fat_ato x.2;rw [List.length_append];omega,h.2.1⟩,rfl,manyOk_of (L:=AR) (fun _ k _=>ar_ok k) x.2 h.2.2 rest⟩
theorem sure_arg (g:Int):Sure (argD g) (fun l=>l.length≤9223372036854775807∧(∀ a∈l,AR a)∧(0≤g→(l.length:Int)=g)):=fun l h rest=>by
 show ArgOk g l rest
 unfold ArgOk
 split
 ·exact ⟨⟨by have:=fat_len fat_ato l;rw [List.length_append];omega,h.1⟩,V,manyOk_of (L:=AR) (fun _ k _=>ar_ok k) l h.2.1 rest⟩
 exact ⟨by have:=h.2.2 by10;omega,manyOk_of (L:=AR) (fun _ k _=>ar_ok k) l h.2.1 rest⟩
theorem sure_n (op:Int):Sure (nD op) (fun n=>NOk op n):=fun _ h _=>h
theorem fat_ins:Fat insD:=Fat.dep (x:=numD.only fun op=>opOk op=true) (fun n=>num_pos n.toNat) _
theorem ins_ok (i:Is) (h:WIns i) (rest:List Int):insD.ok (toRI i) rest:=by
 obtain ⟨⟨hl,h1,h2,h3,h4,h5,h6,h7,h8⟩,h9,h10,h11,h12,h13,h14,h15⟩:=h
 obtain ⟨op,a,b,n,ar,fs,cp⟩:=i
 obtain ⟨L1,L2,L3,L4,L5,L6,L7⟩:=hl
 simp only [Is.op,Is.a,Is.b,Is.n,Is.ar,Is.fs,Is.cp] at *
 refine ⟨⟨⟨by show 0≤op;omega,L1.2⟩,by show opOk op=true;rw [opOk_iff];exact h1⟩,?_⟩
 refine (Sure.pair (sure_num.maybe (opA op) 0) (Sure.pair (sure_n op) (Sure.pair (sure_num.maybe (opB op) 0) (Sure.pair (sure_arg (opG op)) ((sure_mkd.list fat_mkd).maybe (decide (op=4)) []))))) _ ?_ rest
 refine ⟨⟨fun e=>⟨h2 e,L2.2⟩,fun e=>h11 e⟩,?_,⟨fun e=>⟨h3 e,L3.2⟩,fun e=>h12 e⟩,⟨by show ar.length≤_;omega,fun x hx=>⟨h5 x hx,h9 x hx⟩,h15⟩,⟨fun e=>?_,fun e=>?_⟩⟩
 ·show NOk op n
  unfold NOk
  split
  ·rename_i q
   split
   ·exact L4
   rename_i q2;exact ⟨h4 q (by simpa using q2),L4.2⟩
  rename_i q;exact h13 (by simpa using q)
 ·have hz:∀ x∈fs.zip cp,x.1∈fs∧x.2∈cp:=fun x hx=>List.of_mem_zip hx
  refine ⟨by show (fs.zip cp).length≤_;rw [List.length_zip];omega,fun x hx=>?_⟩
  obtain ⟨q1,q2⟩:=hz x hx
  exact ⟨⟨h7 _ q1,(L6.2 _ q1).2⟩,by have:=(L7.2 _ q2).1;omega,fun a ha=>⟨h8 _ q2 a ha,h10 _ q2 a ha⟩⟩
 show fs.zip cp=[]
 rw [(h14 (by simpa using e)).1];rfl
theorem toRC_ok {c:Cd} (h:WCd c):codD.ok (toRC c) []:=by
 obtain ⟨hl,h1,h2,h3,h4,h5,h6⟩:=h
 obtain ⟨is,fu,tx,gl,ys,no⟩:=c
 obtain ⟨L1,L2,L3,L4,L5,L6⟩:=hl
 simp only [Cd.is,Cd.fu,Cd.tx,Cd.gl,Cd.ys,Cd.no] at *
 refine (Sure.pair sure_num (Sure.pair sure_num (Sure.pair sure_num (Sure.pair (sure_txt.list fat_txt) (Sure.pair ((Sure.pair sure_num (Sure.pair sure_num sure_num)).list (fat_num.pair _)) (Sure.list (x:=insD) (L:=fun y=>∃ i,WIns i∧y=toRI i) (fun y hy rest=>by obtain ⟨i,hi,rfl⟩:=hy;exact ins_ok i hi rest) fat_ins)))))) _ ?_ []
 refine ⟨⟨h1,L4.2⟩,⟨h2,L5.2⟩,⟨h3,L6.2⟩,⟨by show (tx.map byts).length≤_;rw [List.length_map];omega,fun t ht=>?_⟩,⟨by show (fu.map _).length≤_;rw [List.length_map];omega,fun f hf=>?_⟩,⟨by show (is.map toRI).length≤_;rw [List.length_map];omega,fun y hy=>?_⟩⟩
 ·obtain ⟨s,hs,rfl⟩:=List.mem_map.1 ht
  have:=h4 s hs
  show (byts s).length≤_
  rw [byts_len];omega
 ·obtain ⟨g,hg,rfl⟩:=List.mem_map.1 hf
  obtain ⟨k1,k2,k3⟩:=h5 g hg
  obtain ⟨gl,gs,gc⟩:=g
  obtain ⟨m1,m2,m3⟩:=L2.2 _ hg
  exact ⟨⟨k1,m1.2⟩,⟨k2,m2.2⟩,⟨k3,m3.2⟩⟩
 obtain ⟨i,hi,rfl⟩:=List.mem_map.1 hy
 exact ⟨i,h6 i hi,V⟩
theorem ins_pr (i:Is) (h:WIns i):insD.pr (toRI i)=insW i:=by
 have hlen:=h.len
 obtain ⟨op,a,b,n,ar,fs,cp⟩:=i
 simp only [Is.op,Is.fs,Is.cp] at hlen
 show num op.toNat++((if opA op then num a.toNat else [])++(nB op n++((if opB op then num b.toNat else [])++(argB (opG op) ar++(if decide (op=4) then num (fs.zip cp).length++((fs.zip cp).map mkdB).flatten else [])))))=_
 have e0:insW (Is.mk op a b n ar fs cp)=num op.toNat++((if opA op then num a.toNat else [])++(nB op n++((if opB op then num b.toNat else [])++((if opG op<0 then num ar.length else [])++(atomsB ar++(if op=4 then num fs.length++((fs.zip cp).map cW).flatten else [])))))):=rfl
 rw [e0]
 unfold argB
 have e1:(if decide (op=4)=true then num (fs.zip cp).length++((fs.zip cp).map mkdB).flatten else [])=if op=4 then num fs.length++((fs.zip cp).map cW).flatten else []:=by
  by_cases q:op=4
  ·rw [if_pos (by simpa using q),if_pos q,List.length_zip,hlen q,Nat.min_self];rfl
  rw [if_neg (by simpa using q),if_neg q]
 rw [e1]
 by_cases q:opG op<0
 ·rw [if_pos q,if_pos q,List.append_assoc];rfl
 rw [if_neg q,if_neg q];rfl
theorem encB_eq {c:Cd} (h:WCd c):codB (toRC c)=encB c:=by
 have h6:=h.is
 obtain ⟨is,fu,tx,gl,ys,no⟩:=c
 simp only [Cd.is] at h6
 show 199::(num gl.toNat++(num ys.toNat++(num no.toNat++((num (tx.map byts).length++((tx.map byts).map fun t=>num t.length++t).flatten)++((num (fu.map fun f=>(f.len,f.sl,f.cp)).length++((fu.map fun f=>(f.len,f.sl,f.cp)).map fun f:Int × Int × Int=>num f.1.toNat++(num f.2.1.toNat++num f.2.2.toNat)).flatten)++(num (is.map toRI).length++((is.map toRI).map insD.pr).flatten))))))=_
 unfold encB tB fB iB
 simp only [Cd.is,Cd.fu,Cd.tx,Cd.gl,Cd.ys,Cd.no,List.length_map,List.map_map,List.append_assoc,List.append_nil,List.cons_append,List.nil_append]
 have e1:is.map (insD.pr ∘ toRI)=is.map insW:=List.map_congr_left fun i hi=>ins_pr i (h6 i hi)
 have e2:tx.map ((fun t=>num t.length++t) ∘ byts)=tx.map fun s=>num s.size++byts s:=List.map_congr_left fun s _=>by
  show num (byts s).length++byts s=_
  rw [byts_len]
 rw [e1,e2]
 rfl
theorem strOf_byts (s:ByteArray):strOfNums (byts s)=s:=by
 unfold byts
 rw [Go.Lib.Lz.strOfNums_map]
theorem riI_to (i:Is) (h:WIns i):riI (toRI i)=i:=by
 have h1:=h.len
 have h2:=h.zf
 obtain ⟨op,a,b,n,ar,fs,cp⟩:=i
 simp only [Is.op,Is.fs,Is.cp] at h1 h2
 show Is.mk op a b n ar ((fs.zip cp).map Prod.fst) ((fs.zip cp).map Prod.snd)=_
 by_cases q:op=4
 ·rw [List.map_fst_zip (by have:=h1 q;omega),List.map_snd_zip (by have:=h1 q;omega)]
 obtain ⟨rfl,rfl⟩:=h2 q;rfl
theorem rcC_to {c:Cd} (h:WCd c):rcC (toRC c)=c:=by
 have h6:=h.is
 obtain ⟨is,fu,tx,gl,ys,no⟩:=c
 simp only [Cd.is] at h6
 show Cd.mk ((is.map toRI).map riI) ((fu.map fun f=>(f.len,f.sl,f.cp)).map fun f=>Cf.mk f.1 f.2.1 f.2.2) ((tx.map byts).map strOfNums) gl ys no=_
 rw [List.map_map,List.map_map,List.map_map]
 congr 1
 ·conv=>rhs;rw [← List.map_id is]
  exact List.map_congr_left fun i hi=>riI_to i (h6 i hi)
 ·conv=>rhs;rw [← List.map_id fu]
  exact List.map_congr_left fun f _=>by cases f;exact V
 conv=>rhs;rw [← List.map_id tx]
 exact List.map_congr_left fun s _=>strOf_byts s
theorem Byt.app {a b:List Int} (h:Byt a) (k:Byt b):Byt (a++b):=fun c hc=>by
 rcases List.mem_append.1 hc with q|q
 ·exact h c q
 exact k c q
theorem byt_nil:Byt []:=fun c hc=>by simp at hc
theorem byt_flat {α:Type} {f:α→List Int} {l:List α} (h:∀ a∈l,Byt (f a)):Byt (l.map f).flatten:=fun c hc=>by
 obtain ⟨x,hx,hc⟩:=List.mem_flatten.1 hc
 obtain ⟨a,ha,rfl⟩:=List.mem_map.1 hx
 exact h a ha c hc
theorem byt_num (n:Nat):Byt (num n):=by
 induction n using Nat.strongRecOn with
 | _ n ih =>
  by_cases h:n<128
  ·rw [num_lo h];intro c hc;simp at hc;omega
  rw [num_hi h]
  intro c hc
  rcases List.mem_cons.1 hc with rfl|hc
  ·omega
  exact ih (n / 128) by10 c hc
theorem byt_byts (s:ByteArray):Byt (byts s):=fun c hc=>by
 obtain ⟨b,_,rfl⟩:=List.mem_map.1 hc
 have:=b.toNat_lt
 omega
theorem byt_nB (op n:Int):Byt (nB op n):=by
 unfold nB
 split
 ·split <;> exact byt_num _
 exact byt_nil
theorem byt_ato (a:Ato):Byt (atomB a):=by
 unfold atomB atomN
 refine (byt_num _).app ?_
 split <;> exact byt_num _
theorem byt_ins (i:Is):Byt (insW i):=by
 unfold insW aW bW gW fW
 refine (byt_num _).app (Byt.app ?_ ((byt_nB _ _).app (Byt.app ?_ (Byt.app ?_ ((byt_flat fun a _=>byt_ato a).app ?_)))))
 ·split
  ·exact byt_num _
  exact byt_nil
 ·split
  ·exact byt_num _
  exact byt_nil
 ·split
  ·exact byt_num _
  exact byt_nil
 split
 ·exact (byt_num _).app (byt_flat fun p _=>(byt_num _).app ((byt_num _).app (byt_flat fun a _=>byt_ato a)))
 exact byt_nil
theorem byt_enc (c:Cd):Byt (encB c):=by
 unfold encB
 refine Byt.app (fun c hc=>by simp at hc;omega) ((byt_num _).app ((byt_num _).app ((byt_num _).app ((byt_num _).app (Byt.app (byt_flat fun s _=>(byt_num _).app (byt_byts s)) ((byt_num _).app (Byt.app (byt_flat fun f _=>(byt_num _).app ((byt_num _).app (byt_num _))) ((byt_num _).app (Byt.app (byt_flat fun i _=>byt_ins i) byt_nil)))))))))
-- what was read is not too long
def Lims {α:Type} (x:Rd α) (L:α→Prop):Prop:=∀ c rest,x.ok c rest→(x.pr c++rest).length≤100000000→L c
theorem lims_num:Lims numD I64:=fun n _ h _=>by
 obtain ⟨h1,h2⟩:0≤n∧n≤9223372036854775807:=h
 exact ⟨by omega,h2⟩
theorem Lims.pair {α β:Type} {x:Rd α} {y:Rd β} {L:α→Prop} {K:β→Prop} (h:Lims x L) (k:Lims y K):Lims (x.pair y) (fun c=>L c.1∧K c.2):=fun c rest hc hl=>by
 have hl:(x.pr c.1++y.pr c.2++rest).length≤100000000:=hl
 have hl2:=hl
 rw [List.append_assoc] at hl
 rw [List.append_assoc,List.length_append] at hl2
 exact ⟨h c.1 _ hc.1 hl,k c.2 rest hc.2 by10⟩
theorem many_lims {α:Type} {pr:α→List Int} {ok:α→List Int→Prop} {L:α→Prop} (h:∀ c rest,ok c rest→(pr c++rest).length≤100000000→L c):∀ (l:List α) (rest:List Int),ManyOk pr ok l rest→((l.map pr).flatten++rest).length≤100000000→∀ a∈l,L a
 | [],_,_,_,a,ha=>by simp at ha
 | x::l,rest,hk,hl,a,ha=>by
  rw [List.map_cons,List.flatten_cons,List.append_assoc] at hl
  have hl2:=hl
  rw [List.length_append] at hl2
  rcases List.mem_cons.1 ha with rfl|ha
  ·exact h _ _ hk.1 hl
  exact many_lims h l rest hk.2 by10 a ha
theorem Lims.list {α:Type} {x:Rd α} {L:α→Prop} (h:Lims x L):Lims x.list (fun l=>l.length≤100000000∧∀ a∈l,L a):=fun l rest hc hl=>by
 obtain ⟨⟨h1,_⟩,_,h2⟩:=hc
 have hl:(num l.length++(l.map x.pr).flatten++rest).length≤100000000:=hl
 rw [List.append_assoc,List.length_append] at hl
 exact ⟨by omega,many_lims h l rest h2 by10⟩
theorem Lims.maybe {α:Type} {x:Rd α} {L:α→Prop} (h:Lims x L) (b:Bool) (d:α) (hd:L d):Lims (x.maybe b d) L:=fun c rest hc hl=>by
 cases b with
 | true=>exact h c rest hc hl
 | false =>
  have hc:c=d:=hc
  subst hc;exact hd
theorem Lims.any {α:Type} {x:Rd α}:Lims x (fun _=>True):=fun _ _ _ _=>trivial
theorem atoOk_lim {a:Ato} (h:AtoOk a):a.Lim:=by
 obtain ⟨⟨h1,h2⟩,h3⟩:=h
 obtain ⟨k,n⟩:=a
 have h1:1≤k:=h1
 have h2:k≤4:=h2
 have h3:if k=1 then -9223372036854775808≤n∧n≤9223372036854775807 else 0≤n∧n≤9223372036854775807:=h3
 refine ⟨⟨by omega,by omega⟩,?_⟩
 split at h3
 ·exact h3
 exact ⟨by omega,h3.2⟩
theorem lims_mkd:Lims mkdD (fun x=>I64 x.1∧x.2.length≤100000000∧∀ a∈x.2,a.Lim):=fun x rest hc hl=>by
 obtain ⟨⟨h1,h2⟩,⟨h3,_⟩,_,h4⟩:=hc
 have hl:(num x.1.toNat++(num x.2.length++(x.2.map atoB).flatten)++rest).length≤100000000:=hl
 rw [List.append_assoc,List.append_assoc,List.length_append,List.length_append] at hl
 exact ⟨⟨by omega,h2⟩,by omega,many_lims (L:=Ato.Lim) (fun a _ k _=>atoOk_lim k) x.2 rest h4 by10⟩
theorem lims_arg (g:Int) (hg:g≤100):Lims (argD g) (fun l=>l.length≤100000000∧∀ a∈l,a.Lim):=fun l rest hc hl=>by
 have hc:ArgOk g l rest:=hc
 have hl:(argB g l++rest).length≤100000000:=hl
 unfold ArgOk at hc
 unfold argB at hl
 by_cases q:g<0
 ·rw [if_pos q] at hc hl
  obtain ⟨⟨h3,_⟩,_,h4⟩:=hc
  rw [List.append_assoc,List.length_append] at hl
  exact ⟨by omega,many_lims (L:=Ato.Lim) (fun a _ k _=>atoOk_lim k) l rest h4 by10⟩
 rw [if_neg q] at hc hl
 exact ⟨by have:=hc.1;omega,many_lims (L:=Ato.Lim) (fun a _ k _=>atoOk_lim k) l rest hc.2 hl⟩
theorem lims_n (op:Int):Lims (nD op) I64:=fun n rest hc _=>by
 have hc:NOk op n:=hc
 unfold NOk at hc
 split at hc
 ·split at hc
  ·exact hc
  exact ⟨by omega,hc.2⟩
 subst hc;exact ⟨by decide,by decide⟩
theorem i64_0:I64 0:=⟨by decide,by decide⟩
theorem lims_ins:Lims insD (fun i=>(riI i).Lim):=fun i rest hc hl=>by
 obtain ⟨op,a,n,b,ar,mk⟩:=i
 obtain ⟨⟨h1,_⟩,h2⟩:=hc
 have hg:opG op≤100:=by rcases opG_nat op with k|⟨m,k,k2⟩ <;> omega
 have hl:(num op.toNat++((numD.maybe (opA op) 0).pair ((nD op).pair ((numD.maybe (opB op) 0).pair ((argD (opG op)).pair (fixD op))))).pr (a,n,b,ar,mk)++rest).length≤100000000:=hl
 rw [List.append_assoc,List.length_append] at hl
 obtain ⟨k1,k2,k3,⟨k4,k4b⟩,k5⟩:=(Lims.pair (lims_num.maybe (opA op) 0 i64_0) (Lims.pair (lims_n op) (Lims.pair (lims_num.maybe (opB op) 0 i64_0) (Lims.pair (lims_arg (opG op) hg) (lims_mkd.list.maybe (decide (op=4)) [] ⟨by decide,fun a ha=>by simp at ha⟩))))) (a,n,b,ar,mk) rest h2 (Nat.le_trans (Nat.le_add_left _ _) hl)
 have k5a:mk.length≤100000000:=k5.1
 have h1:0≤op∧op≤9223372036854775807:=h1
 have k4:ar.length≤100000000:=k4
 refine ⟨⟨by omega,h1.2⟩,k1,k3,k2,⟨by show ar.length≤_;omega,k4b⟩,⟨?_,?_⟩,⟨?_,?_⟩⟩
 ·show (mk.map Prod.fst).length≤_
  rw [List.length_map];omega
 ·intro x hx
  obtain ⟨p,hp,rfl⟩:=List.mem_map.1 hx
  exact (k5.2 p hp).1
 ·show (mk.map Prod.snd).length≤_
  rw [List.length_map];omega
 intro x hx
 obtain ⟨p,hp,rfl⟩:=List.mem_map.1 hx
 have k6:p.2.length≤100000000:=(k5.2 p hp).2.1
 exact ⟨by omega,(k5.2 p hp).2.2⟩
theorem codR_lim {bs:List Int} (hb:Byt bs) (hl:bs.length≤100000000) (c:RC) (h:codR bs=some c):(rcC c).Lim:=by
 obtain ⟨rfl,hok⟩:=codR_bwd bs c hb h
 have hl:(199::codD.pr c).length≤100000000:=hl
 rw [List.length_cons] at hl
 obtain ⟨gl,ys,no,tx,fu,is⟩:=c
 obtain ⟨k1,k2,k3,k4,k5,k6⟩:=(Lims.pair lims_num (Lims.pair lims_num (Lims.pair lims_num (Lims.pair (Lims.list (x:=txtD) Lims.any) (Lims.pair (Lims.list (Lims.pair lims_num (Lims.pair lims_num lims_num))) lims_ins.list))))) (gl,ys,no,tx,fu,is) [] hok (by rw [List.append_nil];show (codD.pr (gl,ys,no,tx,fu,is)).length≤_;omega)
 refine ⟨⟨?_,?_⟩,⟨?_,?_⟩,?_,k1,k2,k3⟩
 ·show (is.map riI).length≤_
  rw [List.length_map];have:=k6.1;simp only at this;omega
 ·intro x hx
  obtain ⟨i,hi,rfl⟩:=List.mem_map.1 hx
  exact k6.2 i hi
 ·show (fu.map _).length≤_
  rw [List.length_map];have:=k5.1;simp only at this;omega
 ·intro x hx
  obtain ⟨f,hf,rfl⟩:=List.mem_map.1 hx
  exact k5.2 f hf
 show (tx.map strOfNums).length≤_
 rw [List.length_map];have:=k4.1;simp only at this;omega
theorem zip_un {α β:Type}:∀ l:List (α × β),(l.map Prod.fst).zip (l.map Prod.snd)=l
 | []=>rfl
 | p::l=>by rw [List.map_cons,List.map_cons,List.zip_cons_cons,zip_un l]
theorem byts_strOf {t:List Int} (h:Byt t):byts (strOfNums t)=t:=by
 unfold byts strOfNums
 simp only [List.map_map]
 conv=>rhs;rw [← List.map_id t]
 apply List.map_congr_left
 intro x hx
 have:=h x hx
 show ((UInt8.ofNat x.toNat).toNat:Int)=x
 rw [UInt8.toNat_ofNat']
 omega
theorem toRC_rc {c:RC} (hb:Byt (codB c)):toRC (rcC c)=c:=by
 obtain ⟨gl,ys,no,tx,fu,is⟩:=c
 have ht:∀ t∈tx,Byt t:=by
  intro t ht x hx
  refine hb x (List.mem_cons_of_mem _ ?_)
  show x∈num gl.toNat++(num ys.toNat++(num no.toNat++((num tx.length++(tx.map fun t=>num t.length++t).flatten)++((Rd.list (numD.pair (numD.pair numD))).pair insD.list).pr (fu,is))))
  refine List.mem_append_right _ (List.mem_append_right _ (List.mem_append_right _ (List.mem_append_left _ (List.mem_append_right _ (List.mem_flatten.2 ⟨num t.length++t,List.mem_map.2 ⟨t,ht,V⟩,List.mem_append_right _ hx⟩)))))
 show (gl,ys,no,(tx.map strOfNums).map byts,(fu.map fun f=>Cf.mk f.1 f.2.1 f.2.2).map (fun f=>(f.len,f.sl,f.cp)),(is.map riI).map toRI)=_
 rw [List.map_map,List.map_map,List.map_map]
 have e1:tx.map (byts ∘ strOfNums)=tx:=by
  conv=>rhs;rw [← List.map_id tx]
  exact List.map_congr_left fun t h=>byts_strOf (ht t h)
 have e2:fu.map ((fun f:Cf=>(f.len,f.sl,f.cp)) ∘ fun f:Int × Int × Int=>Cf.mk f.1 f.2.1 f.2.2)=fu:=by
  conv=>rhs;rw [← List.map_id fu]
  exact List.map_congr_left fun f _=>rfl
 have e3:is.map (toRI ∘ riI)=is:=by
  conv=>rhs;rw [← List.map_id is]
  refine List.map_congr_left fun i _=>?_
  obtain ⟨op,a,n,b,ar,mk⟩:=i
  show (op,a,n,b,ar,(mk.map Prod.fst).zip (mk.map Prod.snd))=_
  rw [zip_un];rfl
 rw [e1,e2,e3]
theorem decode_any (bs:List Int) (hb:Byt bs) (hl:bs.length≤100000000):ACall Try.prog 12 [.seq 1 (bts bs)] [] (fun v M'=>DecP bs v∧M'=[]):=Decode_c bs hb hl (fun c h=>codR_lim hb hl c h)
theorem enc_codR {c:Cd} (h:WCd c):codR (encB c)=some (toRC c):=by rw [← encB_eq h];exact codR_fwd _ (toRC_ok h)
theorem decode_enc {c:Cd} (hR:RightP c) (h:WCd c) (hl:(encB c).length≤100000000):PCall Try.prog 12 [.seq 1 (bts (encB c))] (.tup [.agg c.cells,.val (.int .i64 0),.val (.int .i64 0)]) :=
 (decode_any _ (byt_enc c) hl).mono (by
  rintro v M' ⟨⟨d,⟨k1,_⟩,rfl⟩|⟨k,_⟩,rfl⟩
  ·rw [enc_codR h] at k1
   cases k1
   rw [rcC_to h]
   exact ⟨V,V⟩
  exact absurd ⟨enc_codR h,by rw [rcC_to h];exact hR⟩ (k (toRC c)))
theorem decode_bad {bs:List Int} (hb:Byt bs) (hl:bs.length≤100000000) (h:codR bs=none):ACall Try.prog 12 [.seq 1 (bts bs)] [] (fun v M'=>(∃ k:Int,0≤k∧k≤bs.length∧v=.tup [.agg zCode,.val (.int .i64 k),.val (.int .i64 160)])∧M'=[]) :=
 (decode_any _ hb hl).mono (by
  rintro v M' ⟨⟨d,⟨k1,_⟩,_⟩|⟨_,k⟩,rfl⟩
  ·rw [h] at k1;cases k1
  exact ⟨k,V⟩)
theorem decode_cut {c:Cd} (h:WCd c) (hl:(encB c).length≤100000000) (k:Nat) (hk:k<(encB c).length):ACall Try.prog 12 [.seq 1 ((bts (encB c)).take k)] [] (fun v M'=>(∃ j:Int,0≤j∧j≤(encB c).length∧v=.tup [.agg zCode,.val (.int .i64 j),.val (.int .i64 160)])∧M'=[]):=by
 have e:(bts (encB c)).take k=bts ((encB c).take k):=by simp [bts,List.map_take]
 rw [e]
 refine (decode_bad (fun x hx=>byt_enc c x (List.mem_of_mem_take hx)) (by rw [List.length_take];omega) ?_).mono ?_
 ·have:=codR_cut (toRC c) (toRC_ok h) k (by rw [encB_eq h];exact hk) (by rw [encB_eq h];exact byt_enc c)
  rwa [encB_eq h] at this
 rintro v M' ⟨⟨j,h1,h2,rfl⟩,rfl⟩
 rw [List.length_take] at h2
 exact ⟨⟨j,h1,by omega,V⟩,V⟩
theorem decode_more {c:Cd} (h:WCd c) (hl:(encB c).length≤99999999):ACall Try.prog 12 [.seq 1 (bts (encB c)++[[.val (.int .u8 0)]])] [] (fun v M'=>(∃ j:Int,0≤j∧j≤(encB c).length+1∧v=.tup [.agg zCode,.val (.int .i64 j),.val (.int .i64 160)])∧M'=[]):=by
 have e:bts (encB c)++[[.val (.int .u8 0)]]=bts (encB c++[0]):=by simp [bts]
 have hb:Byt (encB c++[0]):=(byt_enc c).app (fun x hx=>by simp at hx;omega)
 rw [e]
 refine (decode_bad hb (by rw [List.length_append];show _+1≤_;omega) ?_).mono ?_
 ·have:=codR_more (toRC c) (toRC_ok h) [0] by11 (by rw [encB_eq h];exact hb)
  rwa [encB_eq h] at this
 rintro v M' ⟨⟨j,h1,h2,rfl⟩,rfl⟩
 rw [List.length_append] at h2
 exact ⟨⟨j,h1,by simp at h2;omega,V⟩,V⟩
theorem encode_dec {bs:List Int} (hb:Byt bs) (hl:bs.length≤20000) {c:RC} (h:Decs bs c):PCall Try.prog 11 [.agg (rcC c).cells] (.tup [.seq 1 (bts bs),.val (.int .i64 0)]):=by
 obtain ⟨h1,h2⟩:=h
 have hlim:=codR_lim hb by10 c h1
 obtain ⟨e1,_⟩:=codR_bwd bs c hb h1
 have hw:=right_wcd h2 hlim
 have e2:encB (rcC c)=bs:=by rw [← encB_eq hw,toRC_rc (by rw [← e1];exact hb),← e1]
 refine (Encode_c (rcC c) hlim (fun _=>by rw [e2];omega)).mono ?_
 rintro v M' ⟨⟨_,rfl⟩|⟨k,_⟩,rfl⟩
 ·rw [e2];exact ⟨rfl,rfl⟩
 exact absurd h2 k
theorem right_dec {bs:List Int} (hb:Byt bs) (hl:bs.length≤20000) {c:RC} (h:Decs bs c):PCall Try.prog 7 [.agg (rcC c).cells] (.val (.bool true)) :=
 (Right_c (rcC c) (codR_lim hb by10 c h.1)).yes h.2
def SmlP (c:Cd) (v:AV):Prop:=∃ x:Bool,v=.val (.bool x)∧(x=true→RightP c→smN c≤20000)
theorem small_any (c:Cd) (hL:c.Lim):ACall Try.prog 6 [.agg c.cells,.val (.int .i64 20000)] [] (fun v M'=>SmlP c v∧M'=[]):=by
 by_cases h:RightP c
 ·refine (Small29_b c hL h).mono ?_
  rintro v M' ⟨⟨x,hx,rfl⟩,rfl⟩
  exact ⟨⟨x,V,fun e _=>hx.1 e⟩,V⟩
 refine (Small29_z c 20000).mono ?_
 rintro v M' ⟨⟨x,rfl⟩,rfl⟩
 exact ⟨⟨x,V,fun _ k=>absurd k h⟩,V⟩
def EncQ (c:Cd) (v:AV):Prop:=∃ (xs:List Int) (e:Int),v=.tup [.seq 1 (bts xs),.val (.int .i64 e)]∧((RightP c∧xs=encB c∧e=0)∨(¬ RightP c∧xs=[]∧e=160))
theorem encode_any (c:Cd) (hL:c.Lim) (hs:RightP c→smN c≤20000):ACall Try.prog 11 [.agg c.cells] [] (fun v M'=>EncQ c v∧M'=[]):=by
 refine (Encode_c c hL fun h=>?_).mono ?_
 ·have:=enc_len (right_wcd h hL)
  have:=hs h
  omega
 rintro v M' ⟨⟨h,rfl⟩|⟨h,rfl⟩,rfl⟩
 ·exact ⟨⟨_,_,V,.inl ⟨h,V,V⟩⟩,V⟩
 exact ⟨⟨[],_,V,.inr ⟨h,V,V⟩⟩,V⟩
def DecQ (bs:List Int) (v:AV):Prop:=∃ (d:Cd) (k e:Int),v=.tup [.agg d.cells,.val (.int .i64 k),.val (.int .i64 e)]∧((e=0∧∃ c,Decs bs c∧d=rcC c)∨(e=160∧0≤k∧k≤bs.length))
theorem decode_q (bs:List Int) (hb:Byt bs) (hl:bs.length≤100000000):ACall Try.prog 12 [.seq 1 (bts bs)] [] (fun v M'=>DecQ bs v∧M'=[]) :=
 (decode_any bs hb hl).weak (by
  rintro v M' ⟨⟨c,h,rfl⟩|⟨_,k,h1,h2,rfl⟩,rfl⟩
  ·exact ⟨_,[],Yf _,Yd _,⟨rcC c,0,0,V,.inl ⟨V,c,h,V⟩⟩,V⟩
  exact ⟨.tup [.agg (Cd.mk [] [] [] 0 0 0).cells,.val (.int .i64 k),.val (.int .i64 160)],[],Le.tup (Yh (Le.agg (Yh (Le.nil _) (Yh (Le.nil _) (Yh (Le.nil _) (Yg _))))) (Yg _)),Yd _,⟨_,k,160,V,.inr ⟨V,h1,h2⟩⟩,V⟩)
end Go.Proofs.Ytadhakcmfkghbaa
namespace Go.Proofs.Ytadhakcmfkghbaa
open Go.RowKit
abbrev a0:Ato:=⟨1,-1⟩
abbrev i0:Is:=⟨7,0,0,0,[a0],[],[]⟩
abbrev f0:Cf:=⟨1,1,0⟩
abbrev c0:Cd:=⟨[i0],[f0],[],300,0,0⟩
theorem c0_lim:c0.Lim:=by
 simp [Cd.Lim,Is.Lim,Cf.Lim,Ato.Lim,I64]
theorem c0_right:RightP c0:=by
 simp [RightP,HeadP,FunsP,RefP,FixP,endP,AtomP,Cd.fu,Cd.tx,Cd.is,Cd.gl,Cd.ys,Cd.no,Cf.cp,Cf.len,Cf.sl,Is.op,Is.ar,Is.a,Is.b,Is.n,Is.fs,Is.cp,Ato.k,opA,opB,opN,one1,two2,lst3]
theorem ins0_w:Writes 31 (fun b=>[.ptr b 0,.agg i0.cells]) (num 7++atomsB [a0]):=by
 intro b bs M hM hb
 rw [List.length_append] at hb
 have HO:PCall Try.prog 41 [.val (.int .i64 7)] (.tup [.agg [.val (.bool false),.val (.bool false),.val (.bool false),.val (.bool false),.val (.int .i64 1)],.val (.bool true)]):=of_c 7
 have H1:=int_w 7 by10 b bs M hM by10
 refine Zc Try.func31 V (by kernel_rfl) V (Yj V) ?_
 refine Qj ?_
 refine Qbr ?_
 refine Qb ?_
 refine QV ?_
 refine Zb 11 V V V (Zl (xs:=[.tmp 10]) V V (HO) by0 ?_)
 refine Qai ?_
 refine QbC ?_;intro b4
 refine QbZ ?_
 refine Q1 ?_
 refine Qn ?_
 refine Zb 17 V V V (Zj (xs:=[.tmp 14,.tmp 16])  [.loc b4 _] V V V H1 (Yg _) (fun v17 M17 h17=>?_))
 refine Qf ?_
 refine Qh ?_
 refine Qs ?_
 refine Qb ?_
 refine Qaw ?_
 refine Zu 29 (False) ?_ _ _ V ?_
 ·skip
  refine Qs ?_
  refine Qa ?_
  refine Qan ?_
  refine Yi V ?_ by3 by1
  simp_all;done
 intro c29 h29
 refine Qd ?_
 obtain ⟨rfl,g29⟩|⟨rfl,g29⟩:=Za h29
 ·refine QR ?_
  refine Qh ?_
  refine Qs ?_
  refine Qb ?_
  refine QF ?_
  refine Qh ?_
  refine Qs ?_
  refine Qb ?_
  refine QF ?_
  refine Qh ?_
  refine Qs ?_
  refine Qaq ?_;intro c48 h48
  refine Qb ?_
  obtain ⟨rfl,g48⟩|⟨rfl,g48⟩:=Za h48
  ·refine QF ?_
   have H2:=atoms_w [a0] (by simp [a0,Ato.k,Ato.n,Ato.Lim,I64]) b _ M17 h17 (by rw [List.length_append];omega)
   rw [List.append_assoc] at H2
   refine QH ?_
   refine Zb 57 V V V (Zj (xs:=[.tmp 54,.tmp 56])  [.loc b4 _] V V V H2 (Yg _) (fun v57 M57 h57=>?_))
   refine Qb ?_
   refine QV ?_
   refine QA ?_;intro c60 h60
   refine Qb ?_
   obtain ⟨rfl,g60⟩|⟨rfl,g60⟩:=Za h60
   ·refine Qr ?_
    exact go_end (Yb V (MLe.drop _ (Yd _)) h57)
   refine Qao ?_
   exact absurd g60 by9
  refine Qz ?_
  exact absurd g48 by9
 refine Qz ?_
 exact g29.elim
def b1:List Int:=[199]++num 300++num 0++num 0++num 0++num 1
def b2:List Int:=b1++num 1++num 1++num 0
def b3:List Int:=b2++num 1
def b4:List Int:=b3++(num 7++atomsB [a0])
theorem b4_eq:b4=[199,172,2,0,0,0,1,1,1,0,1,7,1,1]:=by
 have n0:num 0=[0]:=num_lo by9
 have n1:num 1=[1]:=num_lo by9
 have n7:num 7=[7]:=num_lo by9
 have n3:num 300=[172,2]:=by rw [num_hi by9,num_lo by9];decide
 have z:zz (-1)=1:=by decide
 simp [b4,b3,b2,b1,atomsB,atomB,Ato.k,Ato.n,atomN_1,n0,n1,n7,n3,z]
theorem b4_len:b4.length=14:=by rw [b4_eq];rfl
theorem Encode0_c:PCall Try.prog 11 [.agg c0.cells] (.tup [.seq 1 (bts b4),.val (.int .i64 0)]):=by
 have HR:=(Right_c c0 c0_lim).yes c0_right
 have hb4:=b4_len
 have hl4:b4.length=b3.length+((num 7).length+(atomsB [a0]).length):=by simp [b4]
 have hl3:b3.length=b2.length+(num 1).length:=by simp [b3]
 have hl2:b2.length=b1.length+(num 1).length+(num 1).length+(num 0).length:=by simp [b2];omega
 have hl1:b1.length=1+(num 300).length+(num 0).length+(num 0).length+(num 0).length+(num 1).length:=by simp [b1];omega
 refine Zc Try.func11 V (by kernel_rfl) V (Yj V) ?_
 refine Qj ?_
 refine Qbe ?_
 refine QC ?_
 refine Qp ?_
 refine Qh ?_
 refine QbN ?_
 refine Zb 12 V V V (Zl (xs:=[.tmp 11]) V V (HR) by0 ?_)
 refine Qak ?_;intro c13 h13
 try replace h13:=nott h13 h12
 refine Qb ?_
 obtain ⟨rfl,g13⟩|⟨rfl,g13⟩:=Za h13
 ·refine Qr ?_
  refine QU ?_
  refine Qc7 ?_;intro u14
  refine Qc8 ?_
  refine Zb 16 V V V (op_boxe (cs':=[_]) V V V V ?_);intro b16
  refine Qp ?_
  have H4:=int_w 300 by10 b16 [199] _ ⟨u14,rfl⟩ (by simp only [List.length_cons,List.length_nil];omega)
  refine QH ?_
  refine Zb 20 V V V (Zj (xs:=[.tmp 17,.tmp 19])  [] V V V H4 (Yg _) (fun v20 M20 h20=>?_))
  refine Qf ?_
  have H5:=int_w 0 by10 b16 _ M20 h20 (by simp only [List.length_append,List.length_cons,List.length_nil];omega)
  refine QH ?_
  refine Zb 24 V V V (Zj (xs:=[.tmp 21,.tmp 23])  [] V V V H5 (Yg _) (fun v24 M24 h24=>?_))
  refine Qf ?_
  have H6:=int_w 0 by10 b16 _ M24 h24 (by simp only [List.length_append,List.length_cons,List.length_nil];omega)
  refine QH ?_
  refine Zb 28 V V V (Zj (xs:=[.tmp 25,.tmp 27])  [] V V V H6 (Yg _) (fun v28 M28 h28=>?_))
  refine Qf ?_
  have H7:=int_w 0 by10 b16 _ M28 h28 (by simp only [List.length_append,List.length_cons,List.length_nil];omega)
  refine QH ?_
  refine Qax ?_;intro n32
  refine Zb 33 V V V (Zj (xs:=[.tmp 29,.tmp 32])  [] V V V H7 (Yg _) (fun v33 M33 h33=>?_))
  refine Qf ?_
  refine QV ?_
  refine Qax ?_;intro n36
  refine QG ?_
  apply Ya (rg [(0,1),(5,3),(9,1),(11,24),(37,18),(59,1),(70,1),(74,1),(78,1),(84,1),(94,1)]) (σ:=Nat) (fun zz=>match zz with|i=>[(37,.val (.int .i64 i))]) (fun zz=>match zz with|i=>i≤0) (fun zz=>match zz with|i=>0) (0)
  ·repeat' (first|exact Ym|apply Yk rfl|apply Yl rfl)
  ·exact Nat.zero_le _
  ·exact by2
  rintro i hI
  try dsimp only [List.cons_append,List.nil_append] at hI ⊢
  refine Qy ?_;intro c38 h38
  refine Qf ?_
  obtain ⟨rfl,g38⟩|⟨rfl,g38⟩:=Za h38
  ·refine Q2 ?_
   have H8:=int_w 1 by10 b16 _ M33 h33 (by simp only [List.length_append,List.length_cons,List.length_nil];omega)
   change ACall Try.prog _ _ _ (fun _ M'=>WM b16 b1 M') at H8
   refine QH ?_
   refine QaY ?_;intro n58
   refine Zb 59 V V V (Zj (xs:=[.tmp 55,.tmp 58])  [] V V V H8 (Yg _) (fun v59 M59 h59=>?_))
   refine Qf ?_
   refine QV ?_
   refine QaY ?_;intro n62
   refine QG ?_
   apply c_loopk (rg [(0,1),(5,5),(11,50),(63,17),(84,1),(94,1)]) (σ:=Nat × Mem) (fun zz=>match zz with|(i,M)=>[(63,.val (.int .i64 i))]) (fun zz=>match zz with|(i,M)=>M) (fun zz=>match zz with|(i,M)=>i≤1∧(i=0→WM b16 b1 M)∧(i=1→WM b16 b2 M)) (fun zz=>match zz with|(i,M)=>1 - i) ((0,M59))
   ·repeat' (first|exact Ym|apply Yk rfl|apply Yl rfl)
   ·exact ⟨by omega,fun _=>h59,by omega⟩
   ·exact by2
   ·exact by1
   rintro ⟨i,M⟩ hI
   try dsimp only [List.cons_append,List.nil_append] at hI ⊢
   obtain ⟨hi,hW0,hW1⟩:=hI
   refine Qy ?_;intro c64 h64
   refine Qf ?_
   obtain ⟨rfl,g64⟩|⟨rfl,g64⟩:=Za h64
   ·refine Q2 ?_
    have hi1:i=1:=by
     have hh:((Cf.cellss [f0]).length:Int)=1:=rfl
     omega
    have H12:=int_w 1 by10 b16 b2 M (hW1 hi1) by10
    change ACall Try.prog _ _ _ (fun _ M'=>WM b16 b3 M') at H12
    refine QH ?_
    refine QaG ?_;intro n83
    refine Zb 84 V V V (Zj (xs:=[.tmp 80,.tmp 83])  [] V V V H12 (Yg _) (fun v84 M84 h84=>?_))
    refine Qf ?_
    refine QV ?_
    refine QaG ?_;intro n87
    refine QG ?_
    apply c_loopk (rg [(0,2),(5,81),(88,8)]) (σ:=Nat × Mem) (fun zz=>match zz with|(i,M)=>[(88,.val (.int .i64 i))]) (fun zz=>match zz with|(i,M)=>M) (fun zz=>match zz with|(i,M)=>i≤1∧(i=0→WM b16 b3 M)∧(i=1→WM b16 b4 M)) (fun zz=>match zz with|(i,M)=>1 - i) ((0,M84))
    ·repeat' (first|exact Ym|apply Yk rfl|apply Yl rfl)
    ·exact ⟨by omega,fun _=>h84,by omega⟩
    ·exact by2
    ·exact by1
    rintro ⟨i,M⟩ hI
    try dsimp only [List.cons_append,List.nil_append] at hI ⊢
    obtain ⟨hi,hW0,hW1⟩:=hI
    refine Qy ?_;intro c89 h89
    refine Qf ?_
    obtain ⟨rfl,g89⟩|⟨rfl,g89⟩:=Za h89
    ·refine Q2 ?_
     have hi1:i=1:=by
      have hh:((Is.cellss [i0]).length:Int)=1:=rfl
      omega
     obtain ⟨u9,rfl⟩:=hW1 hi1
     refine Qt ?_
     refine Qa6 ?_
     refine QC ?_
     refine Qi ?_
     exact out_tt V V V (by repeat' (first|exact Yf _|exact Le.own _ _ _|exact Le.nil _|refine Le.agg ?_|refine Le.tup ?_|exact Yg _|refine Yh ?_ ?_)) by1 ⟨V,V⟩
    refine Qw ?_
    have hi0:i=0:=by
     have hh:((Is.cellss [i0]).length:Int)=1:=rfl
     omega
    subst hi0
    have hcx:(Is.cellss [i0])[0]?=some i0.cells:=rfl
    have H13:=ins0_w b16 b3 M (hW0 rfl) (by rw [List.length_append];omega)
    refine Qg ?_
    refine QbI ?_
    refine Qbm ?_
    refine Qbo ?_;intro b10
    refine QbA ?_
    refine Qb ?_
    refine Qt ?_
    refine Qcc ?_
    refine Zb 94 V V V (Zj (xs:=[.tmp 92,.tmp 93])  [.loc b10 _] V V V H13 (Yg _) (fun v94 M94 h94=>?_))
    refine Qa7 ?_
    exact ⟨(1,M94),⟨Nat.le_refl _,fun q=>absurd q by11,fun _=>h94⟩,by simp,by2,(MLe.drop _ (Yd _))⟩
   refine Qw ?_
   have hi0:i=0:=by
    have hh:((Cf.cellss [f0]).length:Int)=1:=rfl
    omega
   subst hi0
   have hcx:(Cf.cellss [f0])[0]?=some [.val (.int .i64 1),.val (.int .i64 1),.val (.int .i64 0)]:=rfl
   have H9:=int_w 1 by10 b16 b1 M (hW0 rfl) by10
   refine Qg ?_
   refine Qc4 ?_
   refine Qcv ?_
   refine Qcw ?_;intro b8
   refine Qcx ?_
   refine Qa5 ?_
   refine Qs ?_
   refine Zb 70 V V V (Zj (xs:=[.tmp 67,.tmp 69])  [.loc b8 _] V V V H9 (Yg _) (fun v70 M70 h70=>?_))
   refine Qf ?_
   have H10:=int_w 1 by10 b16 _ M70 h70 (by simp only [List.length_append];omega)
   refine Qt ?_
   refine Qs ?_
   refine Zb 74 V V V (Zj (xs:=[.tmp 71,.tmp 73])  [.loc b8 _] V V V H10 (Yg _) (fun v74 M74 h74=>?_))
   refine Qb ?_
   have H11:=int_w 0 by10 b16 _ M74 h74 (by simp only [List.length_append];omega)
   refine Qt ?_
   refine Qs ?_
   refine Zb 78 V V V (Zj (xs:=[.tmp 75,.tmp 77])  [.loc b8 _] V V V H11 (Yg _) (fun v78 M78 h78=>?_))
   refine Qa7 ?_
   exact ⟨(1,M78),⟨Nat.le_refl _,fun q=>absurd q by11,fun _=>h78⟩,by simp,by2,(MLe.drop _ (Yd _))⟩
  refine Qw ?_
  exact absurd g38 (by simp [strs])
 refine Qao ?_
 exact absurd g13 by11
theorem awake29_c:PCall Try.prog 5 [] (.val (.bool true)):=by
 have HE:=Encode0_c
 rw [b4_eq] at HE
 have HR:=(Right_c c0 c0_lim).yes c0_right
 refine Zc Try.func5 V (by kernel_rfl) V (Yj V) ?_
 refine Qj ?_
 refine Qau ?_
 refine Zb 4 V V V (Zn (ns:=[0,1]) (xs:=[.const (.int .i64 1),.const (.int .i64 1)]) V tz_39 V tfl_39 V V V V (Zb 5 V V V (Zp (xs:=[.tmp 4]) el_23 V V V V V V (Yj V) (Zb 6 V V V (Zn (ns:=[0,1]) (xs:=[.const (.int .i64 1),.const (.int .i64 (-1))]) V tz_41 V tfl_41 V V V V (Zb 7 V V V (Zp (xs:=[.tmp 6]) el_42 V V V V V V (Yj V) (Zb 8 V V V (Zn (ns:=[0,4]) (xs:=[.const (.int .i64 7),.tmp 7]) V tz_46 V tfl_46 V V V V (Zb 9 V V V (Zp (xs:=[.tmp 8]) el_22 V V V V V V (Yj V) (Zb 10 V V V (Zn (ns:=[3,1,0]) (xs:=[.const (.int .i64 300),.tmp 5,.tmp 9]) V tz_26 V tfl_26 V V V V ?_)))))))))))))
 refine QaM ?_;intro b1
 refine QbE ?_
 refine Qf ?_
 refine c_le (SLe.refl _) (MLe.loc _ (cs':=c0.cells) (by repeat' (first|exact Yf _|exact Le.nil _|refine Le.agg ?_|refine Le.seq ?_|exact Less.nil|refine Less.cons ?_ V ?_|exact Yg _|refine Yh ?_ ?_)) (Yd _)) ?_
 refine Qg ?_
 refine QcD ?_
 refine Zb 13 V V V (Zl (xs:=[.tmp 12]) V V (HE) by0 ?_)
 refine Qai ?_
 refine QC ?_
 refine Qp ?_
 have hlen:(bts [199,172,2,0,0,0,1,1,1,0,1,7,1,1]).length=14:=rfl
 refine Zu 0 (True) ?_ _ _ V ?_
 ·skip
  refine Qa ?_
  refine QA ?_;intro c17 h17
  refine Qa ?_
  obtain ⟨rfl,g17⟩|⟨rfl,g17⟩:=Za h17
  ·skip
   refine Q5 ?_
   refine QaE ?_
   refine QL ?_
   refine Qaf ?_
   refine Qc ?_
   refine Qaj ?_
   refine Yi V ?_ by3 by1
   simp_all;done
  skip
  refine Qm ?_
  refine Qbu ?_;intro n20
  refine Qad ?_;intro c21 h21
  refine Qc ?_
  obtain ⟨rfl,g21⟩|⟨rfl,g21⟩:=Za h21
  ·skip
   refine Qo ?_
   refine QaE ?_
   refine Qaf ?_
   refine Qc ?_
   refine Qaj ?_
   refine Yi V ?_ by3 by1
   simp_all;done
  skip
  refine Qm ?_
  refine Qb4 ?_
  refine Qbw ?_
  refine Qbz ?_;intro c27 h27
  refine Qc ?_
  obtain ⟨rfl,g27⟩|⟨rfl,g27⟩:=Za h27
  ·skip
   refine Qo ?_
   refine QL ?_
   refine Qaf ?_
   refine Qc ?_
   refine Qaj ?_
   refine Yi V ?_ by3 by1
   simp_all;done
  skip
  refine Qm ?_
  refine Qb4 ?_
  refine Qbw ?_
  refine Qbz ?_;intro c33 h33
  refine Qc ?_
  obtain ⟨rfl,g33⟩|⟨rfl,g33⟩:=Za h33
  ·skip
   refine Qo ?_
   refine Qaf ?_
   refine Qc ?_
   refine Qaj ?_
   refine Yi V ?_ by3 by1
   simp_all;done
  skip
  refine Qm ?_
  refine Qb4 ?_
  refine Qbw ?_
  refine Qbz ?_;intro c39 h39
  refine Qc ?_
  obtain ⟨rfl,g39⟩|⟨rfl,g39⟩:=Za h39
  ·skip
   refine Qav ?_
   refine Qc ?_
   refine Qaj ?_
   refine Yi V ?_ by3 by1
   simp_all;done
  skip
  refine Qm ?_
  refine Qm ?_
  refine Qbu ?_;intro n44
  refine Qcp ?_
  refine Qb4 ?_
  refine Qbw ?_
  refine Qbz ?_;intro c48 h48
  refine Qc ?_
  obtain ⟨rfl,g48⟩|⟨rfl,g48⟩:=Za h48
  ·skip
   refine Qaj ?_
   refine Yi V ?_ by3 by1
   simp_all;done
  skip
  refine QcE ?_
  refine Zh 52 V V V V V (Zl (xs:=[.tmp 51]) V V (HR) by0 ?_)
  refine Qq ?_
  refine Yi V ?_ by3 by1
  simp_all;done
 intro c0 h0
 refine QI ?_
 exact Zd V V (Yf _) by1 ⟨by rw [h0.2 trivial],V⟩
theorem op_callzq {P:Program} {o:Oper} {al:Sl} {M:Mem} {K:AV→Mem→Prop} {f:FuncId} {xs:List Operand} {ts:Array TypeId} {vs vs':List AV} {p:Prop} (ho:o.op=.call { callee:=.value (.func f),args:=xs.toArray,argTypes:=ts }) (hx:xs.mapM al.ev=some vs) (hc:ACall P f vs' [] (fun v M'=>(∃ c:Bool,v=.val (.bool c)∧(c=true→p))∧M'=[])) (hl:Les vs vs') (q:∀ c:Bool,(c=true→p)→K (.val (.bool c)) M):OpT P o al M K :=
 op_call ho hx ((ACall.args hl hc).frame M) (by rintro v M' ⟨M0,rfl,⟨c,rfl,h⟩,rfl⟩;exact q c h)
set_option maxHeartbeats 8000000 in
theorem CodeBack_c (c:Cd) (bs:List Int) (cut:Int) (hL:c.Lim) (hb:Byt bs) (hbb:bs.length≤140737488355328) (hcut:I64 cut):ACall Try.prog 4 [.agg c.cells,.seq 1 (bts bs),.val (.int .i64 cut)] [] (fun v _=>v=.val (.bool true)):=by
 have HS:=small_any c hL
 have HE:=encode_any c hL
 have HB:=decode_q bs hb
 have hbl:=bts_len bs
 have HD1:=fun (h:RightP c) (hl:(encB c).length≤100000000)=>decode_enc h (right_wcd h hL) hl
 have HD2:=fun (h:RightP c) (hl:(encB c).length≤100000000)=>decode_cut (right_wcd h hL) hl
 have HD3:=fun (h:RightP c) (hl:(encB c).length≤99999999)=>decode_more (right_wcd h hL) hl
 have hEl:=fun (h:RightP c)=>enc_len (right_wcd h hL)
 have hEp:0<(encB c).length:=by unfold encB;simp
 have hxl:=bts_len (encB c)
 have HSm:=(rSame29_c c c).yes rfl
 clear hL
 unfold SmlP at HS
 unfold EncQ at HE
 generalize smN c=N at *
 generalize RightP c=K1 at *
 generalize encB c=E at *
 obtain ⟨is1,fu1,tx1,gl1,ys1,no1⟩:=c
 simp only [Cd.cells] at *
 obtain ⟨hc1,hc2⟩:=hcut
 refine Zc Try.func4 V (by kernel_rfl) V (Yj V) ?_
 refine Qj ?_
 refine Qbe ?_
 refine Qp ?_
 refine Qh ?_
 refine Zb 23 V V V (Zl (xs:=[]) V V (awake29_c) by0 ?_)
 refine Qak ?_;intro c24 h24
 try replace h24:=nott h24 h23
 refine Qb ?_
 obtain ⟨rfl,g24⟩|⟨rfl,g24⟩:=Za h24
 ·refine QF ?_
  refine Qh ?_
  refine QbN ?_
  refine Zb 26 V V V (op_callzq (xs:=[.tmp 25,.const (.int .i64 20000)]) V V (HS) by0 ?_);intro c26 q26;have h26:c26=true↔c26=true:=Iff.rfl
  refine Qak ?_;intro c27 h27
  try replace h27:=nott h27 h26
  refine Qa ?_
  obtain ⟨rfl,g27⟩|⟨rfl,g27⟩:=Za h27
  ·skip
   refine Qm ?_
   refine Qbu ?_;intro n30
   refine Qad ?_;intro c31 h31
   refine Qc ?_
   obtain ⟨rfl,g31⟩|⟨rfl,g31⟩:=Za h31
   ·skip
    refine Qm ?_
    refine Qbi ?_;intro c35 h35
    refine Qbv ?_
    refine Qb ?_
    obtain ⟨rfl,g35⟩|⟨rfl,g35⟩:=Za h35
    ·refine Qaw ?_
     have hx:=q26 (by first|rfl|assumption|(simpa using g27))
     have hb2:bs.length≤20000:=by omega
     have hc0:0≤cut:=by omega
     have HE:=HE hx
     have HB:=HB by10
     refine Qg ?_
     refine QbN ?_
     refine Zb 39 V V V (op_callat [] (xs:=[.tmp 38])  V V V HE by0 ?_)
     rintro v39 M39 ⟨⟨xs,e,rfl,hE⟩,rfl⟩
     refine Qai ?_
     refine QC ?_
     refine Q1 ?_
     refine QA ?_;intro c43 h43
     refine Qb ?_
     obtain ⟨rfl,g43⟩|⟨rfl,g43⟩:=Za h43
     ·refine Qr ?_
      refine QaT ?_
      refine Zb 102 V V V (op_callat [] (xs:=[.tmp 101])  V V V HB by0 ?_)
      rintro v102 M102 ⟨⟨⟨q1,q2,q3,q4,q5,q6⟩,at0,e2,rfl,hQ⟩,rfl⟩
      refine Qai ?_
      refine Qbl ?_
      refine QaM ?_;intro b18
      refine QbE ?_
      refine QC ?_
      refine Qat ?_
      refine Qbn ?_;intro c107 h107
      refine Qb ?_
      obtain ⟨rfl,g107⟩|⟨rfl,g107⟩:=Za h107
      ·refine QF ?_
       obtain ⟨_,rc,hd,hdc⟩:=hQ.resolve_right (fun q=>by omega)
       have HEn:=encode_dec hb hb2 hd
       have HRt:=right_dec hb hb2 hd
       rw [← hdc] at HEn HRt
       refine Qg ?_
       refine QcD ?_
       refine Zb 118 V V V (Zl (xs:=[.tmp 117]) V V (HEn) by0 ?_)
       refine Qai ?_
       refine QC ?_
       refine Qp ?_
       refine Zu 6 (True) ?_ _ _ V ?_
       ·skip
        refine Qa ?_
        refine QA ?_;intro c122 h122
        refine Qa ?_
        obtain ⟨rfl,g122⟩|⟨rfl,g122⟩:=Za h122
        ·skip
         refine QaI ?_
         refine Qc ?_
         refine Qaj ?_
         refine Yi V ?_ by3 by1
         simp_all;done
        skip
        refine Qm ?_
        refine Qb5 ?_
        refine Qm ?_
        refine Qb5 ?_
        refine Qcr ?_;intro c128 h128
        refine Qc ?_
        obtain ⟨rfl,g128⟩|⟨rfl,g128⟩:=Za h128
        ·skip
         refine Qaj ?_
         refine Yi V ?_ by3 by1
         simp_all;done
        skip
        refine QcE ?_
        refine Zh 132 V V V V V (Zl (xs:=[.tmp 131]) V V (HRt) by0 ?_)
        refine Qq ?_
        refine Yi V ?_ by3 by1
        simp_all;done
       intro c6 h6
       refine QI ?_
       exact Zd V V (Yf _) by1 (by simp_all)
      refine Qao ?_
      obtain ⟨_,hq1,hq2⟩:=hQ.resolve_left (fun q=>by omega)
      refine Zu 6 (True) ?_ _ _ V ?_
      ·skip
       refine Qa ?_
       refine Qac ?_;intro c109 h109
       refine Qa ?_
       obtain ⟨rfl,g109⟩|⟨rfl,g109⟩:=Za h109
       ·skip
        refine Qo ?_
        refine Qq ?_
        refine Yi V ?_ by3 by1
        simp_all;done
       skip
       refine Qm ?_
       refine Qm ?_
       refine Qbu ?_;intro n113
       refine QbK ?_;intro c114 h114
       refine Qq ?_
       refine Yi V ?_ by3 by1
       simp_all;done
      intro c6 h6
      refine QI ?_
      exact Zd V V (Yf _) by1 (by simp_all)
     refine Qao ?_
     obtain ⟨hR,hxs,_⟩:=hE.resolve_right (fun q=>by omega)
     subst hxs
     have hN:=hx hR
     have hlE:=hEl hR
     have hm1:0≤cut % ((bts xs).length:Int):=Int.emod_nonneg _ by10
     have hm2:cut % ((bts xs).length:Int)<((bts xs).length:Int):=Int.emod_lt_of_pos _ by10
     have H1:=HD1 hR by10
     obtain ⟨kc,hkc⟩:∃ kc:Nat,(kc:Int)=cut % ((bts xs).length:Int):=⟨(cut % ((bts xs).length:Int)).toNat,by omega⟩
     have H2:=HD2 hR by10 kc by10
     have H3:=HD3 hR by10
     clear HD1 HD2 HD3 hE
     refine Qt ?_
     refine Zb 46 V V V (Zl (xs:=[.tmp 45]) V V (H1) by0 ?_)
     refine Qai ?_
     refine Qbl ?_
     refine QaM ?_;intro b9
     refine QbE ?_
     refine QC ?_
     refine Q1 ?_
     refine Qa ?_
     refine Qa ?_
     refine Qcy ?_;intro n54
     refine Zb 55 V V V (op_rem V V V by10 (Int.tmod_eq_emod_of_nonneg by10) ?_)
     refine Zb 56 V V V (op_cuth (k:=kc) V te_31 V (.seq _ _) V by10 by10 ?_)
     refine Zb 57 V V V (op_callat [] (xs:=[.tmp 56])  V V V H2 by0 ?_)
     rintro v57 M57 ⟨⟨j1,hj1,hj2,rfl⟩,rfl⟩
     refine Qai ?_
     refine Qbl ?_
     refine QaM ?_;intro b12
     refine QbE ?_
     refine QC ?_
     refine Qau ?_
     refine Zb 62 V V V (op_buildSlice_own (xs:=[]) el_31 V V V V V V (Yj V) ?_);intro u62
     refine Qa ?_
     refine Zb 64 V V V (op_append (i:=0) el_31 V V V V (.seq _ _) by4 ?_)
     intro u64
     refine Zb 65 V V V (op_buildSlice_own (xs:=[.const (.int .u8 0)]) el_31 V V V V V V (Yj V) ?_);intro u65
     refine Zb 66 V V V (op_append (i:=1) el_31 V V V V (.own _ _ _) by4 ?_)
     intro u66
     refine Zb 67 V V V (op_callat [] (xs:=[.tmp 66])  V V V H3 by0 ?_)
     rintro v67 M67 ⟨⟨j2,hj3,hj4,rfl⟩,rfl⟩
     refine Qai ?_
     refine Qbl ?_
     refine QaM ?_;intro b15
     refine QbE ?_
     refine QC ?_
     refine Qp ?_
     refine Zu 99 (False) ?_ _ _ V ?_
     ·skip
      refine Qa ?_
      refine Qbn ?_;intro c72 h72
      refine Qa ?_
      obtain ⟨rfl,g72⟩|⟨rfl,g72⟩:=Za h72
      ·skip
       refine Zh 74 V V V V V (op_load_c (cs':=[_,_,_,_,_,_]) V ta_26 V V V (Zh 75 V V V V V (Zr (cs':=[_,_,_,_,_,_]) (i:=4) V ta_26 V V V V (Zh 76 V V V V V (Zl (xs:=[.tmp 74,.tmp 75]) V V (HSm) by0 ?_)))))
       refine Qaz ?_;intro c77 h77
       try replace h77:=nott h77 h76
       refine Qc ?_
       obtain ⟨rfl,g77⟩|⟨rfl,g77⟩:=Za h77
       ·skip
        refine Qm ?_
        refine QP ?_;intro c81 h81
        refine Qc ?_
        obtain ⟨rfl,g81⟩|⟨rfl,g81⟩:=Za h81
        ·skip
         refine Qm ?_
         refine Qm ?_
         refine Qbu ?_;intro n86
         refine Qad ?_;intro c87 h87
         refine Qc ?_
         obtain ⟨rfl,g87⟩|⟨rfl,g87⟩:=Za h87
         ·skip
          refine Qm ?_
          refine QP ?_;intro c91 h91
          refine Qc ?_
          obtain ⟨rfl,g91⟩|⟨rfl,g91⟩:=Za h91
          ·skip
           refine Qm ?_
           refine Qm ?_
           refine Qbu ?_;intro n96
           refine Zh 97 V V V V V (op_add V V V (IntWalk.i64_in _ by10) ?_)
           refine Qad ?_;intro c98 h98
           refine Qu ?_
           refine Yi V ?_ by3 by1
           clear HE HB H1 H2 H3 hEl hx HSm;first|(simp_all;done)|(simp_all;omega)|omega|grind
          skip
          refine QaI ?_
          refine Qu ?_
          refine Yi V ?_ by3 by1
          clear HE HB H1 H2 H3 hEl hx HSm;first|(simp_all;done)|(simp_all;omega)|omega|grind
         skip
         refine QT ?_
         refine Qa2 ?_
         refine Qu ?_
         refine Yi V ?_ by3 by1
         clear HE HB H1 H2 H3 hEl hx HSm;first|(simp_all;done)|(simp_all;omega)|omega|grind
        skip
        refine Qo ?_
        refine Qc ?_
        refine QT ?_
        refine Qa2 ?_
        refine Qu ?_
        refine Yi V ?_ by3 by1
        clear HE HB H1 H2 H3 hEl hx HSm;first|(simp_all;done)|(simp_all;omega)|omega|grind
       skip
       refine QT ?_
       refine QL ?_
       refine Qc ?_
       refine QT ?_
       refine Qa2 ?_
       refine Qu ?_
       refine Yi V ?_ by3 by1
       clear HE HB H1 H2 H3 hEl hx HSm;first|(simp_all;done)|(simp_all;omega)|omega|grind
      skip
      refine Qo ?_
      refine Qc ?_
      refine QT ?_
      refine QL ?_
      refine Qc ?_
      refine QT ?_
      refine Qa2 ?_
      refine Qu ?_
      refine Yi V ?_ by3 by1
      clear HE HB H1 H2 H3 hEl hx HSm;first|(simp_all;done)|(simp_all;omega)|omega|grind
     intro c99 h99
     refine Qd ?_
     obtain ⟨rfl,g99⟩|⟨rfl,g99⟩:=Za h99
     ·refine Qr ?_
      refine QaT ?_
      refine Zb 102 V V V (op_callat [] (xs:=[.tmp 101])  V V V HB by0 ?_)
      rintro v102 M102 ⟨⟨⟨q1,q2,q3,q4,q5,q6⟩,at0,e2,rfl,hQ⟩,rfl⟩
      refine Qai ?_
      refine Qbl ?_
      refine QaM ?_;intro b18
      refine QbE ?_
      refine QC ?_
      refine Qat ?_
      refine Qbn ?_;intro c107 h107
      refine Qb ?_
      obtain ⟨rfl,g107⟩|⟨rfl,g107⟩:=Za h107
      ·refine QF ?_
       obtain ⟨_,rc,hd,hdc⟩:=hQ.resolve_right (fun q=>by omega)
       have HEn:=encode_dec hb hb2 hd
       have HRt:=right_dec hb hb2 hd
       rw [← hdc] at HEn HRt
       refine Qg ?_
       refine QcD ?_
       refine Zb 118 V V V (Zl (xs:=[.tmp 117]) V V (HEn) by0 ?_)
       refine Qai ?_
       refine QC ?_
       refine Qp ?_
       refine Zu 6 (True) ?_ _ _ V ?_
       ·skip
        refine Qa ?_
        refine QA ?_;intro c122 h122
        refine Qa ?_
        obtain ⟨rfl,g122⟩|⟨rfl,g122⟩:=Za h122
        ·skip
         refine QaI ?_
         refine Qc ?_
         refine Qaj ?_
         refine Yi V ?_ by3 by1
         simp_all;done
        skip
        refine Qm ?_
        refine Qb5 ?_
        refine Qm ?_
        refine Qb5 ?_
        refine Qcr ?_;intro c128 h128
        refine Qc ?_
        obtain ⟨rfl,g128⟩|⟨rfl,g128⟩:=Za h128
        ·skip
         refine Qaj ?_
         refine Yi V ?_ by3 by1
         simp_all;done
        skip
        refine QcE ?_
        refine Zh 132 V V V V V (Zl (xs:=[.tmp 131]) V V (HRt) by0 ?_)
        refine Qq ?_
        refine Yi V ?_ by3 by1
        simp_all;done
       intro c6 h6
       refine QI ?_
       exact Zd V V (Yf _) by1 (by simp_all)
      refine Qao ?_
      obtain ⟨_,hq1,hq2⟩:=hQ.resolve_left (fun q=>by omega)
      refine Zu 6 (True) ?_ _ _ V ?_
      ·skip
       refine Qa ?_
       refine Qac ?_;intro c109 h109
       refine Qa ?_
       obtain ⟨rfl,g109⟩|⟨rfl,g109⟩:=Za h109
       ·skip
        refine Qo ?_
        refine Qq ?_
        refine Yi V ?_ by3 by1
        simp_all;done
       skip
       refine Qm ?_
       refine Qm ?_
       refine Qbu ?_;intro n113
       refine QbK ?_;intro c114 h114
       refine Qq ?_
       refine Yi V ?_ by3 by1
       simp_all;done
      intro c6 h6
      refine QI ?_
      exact Zd V V (Yf _) by1 (by simp_all)
     refine Qao ?_
     exact g99.elim
    refine QB ?_
    exact Zd V V (Yf _) by1 V
   skip
   refine QT ?_
   refine Qbv ?_
   refine Qb ?_
   refine QB ?_
   exact Zd V V (Yf _) by1 V
  skip
  refine Qa8 ?_
  refine QT ?_
  refine Qbv ?_
  refine Qb ?_
  refine QB ?_
  exact Zd V V (Yf _) by1 V
 refine Qao ?_
 exact absurd g24 by11
end Go.Proofs.Ytadhakcmfkghbaa
namespace Go.Proofs.Ytadhakcmfkghbaa
open Go.ChangeShapes Go.WideShapes Go.ChangeAt Go.RowKit
theorem rel_agg' {F:EH} {v:Value} {cs:List AV} (hl:cs.length≠1) (h:Rels F cs v.cells.toList) (h1:Ones v.cells.toList):Rel F (.agg cs) v:=by
 refine rel_agg ?_ h h1
 have:=h.len
 cases v <;> first|exact ⟨_,rfl⟩|(exfalso;exact hl (by rw [this];rfl))
theorem closedBytes:closedL Try.prog [31,5]=true:=by kernel_rfl
theorem cellsOf_u8:Try.prog.cellsOf 5=1:=by kernel_rfl
theorem shapeL_bytes {L:Nat} (hL:L≤140737488355328) {fuel:Nat} {cs:List AV} (h:ShapeL Try.prog L fuel 31 cs):∃ bs:List Int,cs=[.seq 1 (bts bs)]∧Byt bs∧bs.length≤140737488355328:=by
 obtain ⟨n,es,_,rfl,l,h⟩:=shapeL_slice tu_31 h
 obtain ⟨bs,rfl,q⟩:=pick_all2 (f:=fun s=>[AV.val (.int .u8 s)]) (p:=fun s=>0≤s∧s≤255) (fun x hx=>by obtain ⟨s,r,rfl⟩:=Zy tu_5 (h x hx);exact ⟨s,rfl,by simpa [IntKind.min,IntKind.max,IntKind.signed,IntKind.bits] using r⟩)
 rw [cellsOf_u8]
 exact ⟨bs,V,q,by simpa using Nat.le_trans l hL⟩
theorem codeBack_own:ownKnob Try.prog.godebug=none:=by kernel_rfl
theorem codeBack_laidOut:laidOutB Try.prog=true:=by kernel_rfl
theorem codeBack_lifted (os:Os) (started:os.Started) (H:Type) (enc:TypeId × Value→H) :
    ReturnsInHanded {} Try.checked os 4 .any (Rows.codeBackSpec.pre6 enc Try.prog Try.f4 Rows.codeBackRow.domain false) (Rows.codeBackSpec.post enc Try.prog Try.f4 false true false false):=by
 refine returnsInHanded_of_change_sized (C:=Try.checked) codeBack_own started (by kernel_rfl) Try.func4
  (ChangeSpec.witness6 (enc:=enc) (C:=Try.checked) false ⟨#[],#[.agg #[.slice none 0 0,.slice none 0 0,.slice none 0 0,.int .i64 0,.int .i64 0,.int .i64 0],.slice none 0 0,.int .i64 0],[]⟩ 8 (by kernel_rfl) (by kernel_rfl) (by kernel_rfl) (by kernel_rfl)) ?_
 intro W base args ds gs before hval0 hW hcnd hsz0 _
 have hval:∀ (j:Nat) t v,Try.f4.params[j]?=some t→args[j]?=some v→Value.okWide Try.prog W .any base t v:=hval0
 have hsz:(DataW.weightsEach Try.prog (Try.f4.params.toList++Rows.codeBackSpec.plain.varTypes Try.prog) (ds++gs)).all (·≤reachBytes)=true:=hsz0
 have hW':=hW
 obtain ⟨p,q,hA0,hV,rfl,hfz,hnd⟩:=hW
 have hA:DataW.TrodAll enc Try.prog W 0 (fun _=>true) true Try.f4.params.toList args.toList ds p:=hA0
 rw [Try.params4] at hA hval hsz
 obtain ⟨rfl,rfl⟩:=trodVars_none hV
 obtain ⟨v0,v1,v2,d0,d1,d2,p0,p1,p2,rfl,rfl,rfl,h0,h1,h2⟩:=trodAll_three hA
 obtain ⟨f0,c0,s0,r0,o0,_⟩:=open_two closed29 hsz 0 rfl rfl by9 h0
 obtain ⟨c,rfl,hL⟩:=shapeL_Cd _ by9 _ _ s0
 obtain ⟨f1,c1,s1,r1,o1,_⟩:=open_two closedBytes hsz 1 rfl rfl by9 h1
 obtain ⟨bs,rfl,hb,hbb⟩:=shapeL_bytes by9 s1
 obtain ⟨n,rfl,rfl,rfl,w_n⟩:=open_int Try.underlying3 (hval 2 3 v2 rfl rfl) h2
 refine (law_run (CodeBack_c c bs n hL hb hbb (by simp [Lit.wf,IntKind.max,IntKind.min,IntKind.signed,IntKind.bits] at w_n;constructor <;> omega)) (.cons (rel_agg' (by rw [Cd.cells_len];decide) r0 o0) (.cons (rel_cell (okw_slice Try.underlying31 (hval 1 31 v1 rfl rfl)) r1) (.cons (.val _) .nil)))).mono fun e W' ⟨he,hb⟩=>?_
 subst he
 exact ⟨_,V,law_post (tb:=4) codeBack_laidOut (by kernel_rfl) (by kernel_rfl) Try.underlying4 V V V V hW' hb⟩
theorem codeBack_holds:Rows.CodeBackSaid :=
 OpenClaim.holds_of_wide 4 Try.f4 rfl rfl rfl rfl rfl rfl rfl ⟨rfl,rfl,rfl,rfl,rfl⟩ rfl rfl rfl rfl rfl (by kernel_rfl) Try.func4 (by kernel_rfl)
  (of_decide_eq_true (by kernel_rfl)) (by unfold Func.isWrapper;first|(rw [if_pos (by decide +kernel)];kernel_rfl)|(rw [if_neg (by decide +kernel)];exact ⟨rfl,rfl⟩))
  (fun os started H enc _=>codeBack_lifted os started H enc)
#print axioms codeBack_holds
end Go.Proofs.Ytadhakcmfkghbaa
