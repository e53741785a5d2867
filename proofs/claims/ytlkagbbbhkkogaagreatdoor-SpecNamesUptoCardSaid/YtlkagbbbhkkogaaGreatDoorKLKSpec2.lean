/- Parts of a proof: The logic of trees, part 17: calls that take pieces of the memory along, by their places.; The logic of trees, part 14: array literals. -/
import Derived.Test.YtlkagbbbhkkogaaGreatDoorKLKSpec1
set_option maxRecDepth 100000
set_option maxHeartbeats 4000000
namespace Go.Proofs.YtlkagbbbhkkogaaGreatDoor
open Go.RowKit
def pick:List Nat→Mem→Option (Mem × Mem)
 | [],M=>some ([],M)
 | i::is,M=>match M[i]? with
  | none=>none
  | some r=>match pick is (M.eraseIdx i) with
   | none=>none
   | some p=>some (r::p.1,p.2)
theorem pick_perm:∀ {is:List Nat} {M M1 M2:Mem},pick is M=some (M1,M2)→M.Perm (M1++M2)
 | [],M,M1,M2,h=>by simp [pick] at h;obtain ⟨rfl,rfl⟩:=h;exact .refl _
 | i::is,M,M1,M2,h=>by
  rw [pick] at h
  split at h
  ·cases h
  ·rename_i r hr
   split at h
   ·cases h
   ·rename_i p hp
    simp only [Option.some.injEq,Prod.mk.injEq] at h
    obtain ⟨rfl,rfl⟩:=h
    exact (perm_at hr).trans ((pick_perm (M1:=p.1) (M2:=p.2) (by rw [hp])).cons _)
abbrev KCall (P:Program) (f:FuncId) (vs:List AV) (M:Mem) (r:AV):Prop:=ACall P f vs M (fun v M'=>v=r∧M'=M)
section
variable {P:Program} {al:Sl} {M:Mem} {K:AV→Mem→Prop} {o:Oper}
theorem op_callat {f:FuncId} {xs:List Operand} {ts:Array TypeId} {vs vs':List AV} (is:List Nat) {M1 M2:Mem} {R:AV→Mem→Prop} (ho:o.op=.call { callee:=.value (.func f),args:=xs.toArray,argTypes:=ts }) (hx:xs.mapM al.ev=some vs) (hp:pick is M=some (M1,M2)) (hc:ACall P f vs' M1 R) (hl:Les vs vs') (q:∀ v M',R v M'→K v (M'++M2)):OpT P o al M K :=
 op_callg ho hx hc hl (pick_perm hp) q
theorem OpT.kept {M':Mem} (hp:M.Perm M') (h:OpT P o al M (fun v M2=>K v M∧M2=M')):OpT P o al M K:=by
 intro n B F Mf a w hi hs ro
 refine Oper.wpIn_mono ?_ (h n B F Mf a w hi hs ro)
 rintro a' w' ⟨u,v,M2,F',h1,⟨h2,rfl⟩,h3,h4,h5,h6⟩
 exact ⟨u,v,M,F',h1,h2,h3,h4,h5.perm (hp.symm.append_right Mf),h6⟩
theorem op_callk {f:FuncId} {xs:List Operand} {ts:Array TypeId} {vs vs':List AV} (is:List Nat) {M1 M2:Mem} {r:AV} (ho:o.op=.call { callee:=.value (.func f),args:=xs.toArray,argTypes:=ts }) (hx:xs.mapM al.ev=some vs) (hp:pick is M=some (M1,M2)) (hc:KCall P f vs' M1 r) (hl:Les vs vs') (q:K r M):OpT P o al M K :=
 OpT.kept (pick_perm hp) (op_callat is ho hx hp hc hl (by rintro v M' ⟨rfl,rfl⟩;exact ⟨q,rfl⟩))
theorem Le.sle {a:Addr} {n n' c c':Nat} (h:n=n') (k:c=c'):Le (.val (.slice (some a) n c)) (.val (.slice (some a) n' c')):=by rw [h,k];exact Le.refl _
theorem MLe.pre:∀ M M2:Mem,MLe (M++M2) M
 | [],_=>MLe.none _
 | r::M,M2=>.cons r (MLe.pre M M2)
theorem MLe.of_eq {M M':Mem} (h:M=M'):MLe M M':=by rw [h];exact MLe.refl _
theorem eqGuard_p {op:BinOp} {t:TypeId} {x y:Operand} {a:Option Addr} {w:World}:(eqGuard op t x y (.pointer a) (.pointer none)).run P w=.ok () w:=by
 unfold eqGuard;split <;> simp
inductive IsPtr:AV→Prop
 | m (b off:Nat):IsPtr (.ptr b off)
 | c (cs:List AV):IsPtr (.cptr cs)
theorem IsPtr.rel {v:AV} (h:IsPtr v) {F:EH} {u:Value} (hr:Rel F v u):∃ a,u=.pointer (some a):=by
 cases h <;> cases hr <;> exact ⟨_,rfl⟩
end
def bldF (size:Nat):List AV→List (Nat × AV)→Option (List AV)
 | cs,[]=>some cs
 | cs,(i,v)::rest=>if v.cells.length=size∧i * size+size≤cs.length∧v.flat=true then bldF size (setL cs (i * size) v.cells) rest else none
theorem bldF_run {F:EH} {size:Nat}:∀ (ps:List (Nat × AV)) (qs:List (Nat × Value)) (cs:List AV) (vs:List Value) (cs':List AV),Rels F cs vs→Ones vs→ps.map (·.1)=qs.map (·.1)→Rels F (ps.map (·.2)) (qs.map (·.2))→bldF size cs ps=some cs' →
    ∃ vs',Instr.fill (fun i=>some (i * size,size)) vs.toArray qs=some vs'.toArray∧Rels F cs' vs'∧Ones vs'
 | [],[],cs,vs,cs',h,h1,_,_,hb=>by
  simp [bldF] at hb;subst hb
  exact ⟨vs,by simp [Instr.fill],h,h1⟩
 | [],_::_,_,_,_,_,_,h,_,_=>by simp at h
 | _::_,[],_,_,_,_,_,h,_,_=>by simp at h
 |(i,v)::ps,(j,u)::qs,cs,vs,cs',h,h1,hk,hr,hb=>by
  simp only [List.map_cons,List.cons.injEq] at hk
  obtain ⟨rfl,hk⟩:=hk
  simp only [List.map_cons] at hr
  cases hr with
  | cons hr hrs =>
   rw [bldF] at hb
   split at hb
   ·rename_i hc
    obtain ⟨c1,c2,c3⟩:=hc
    obtain ⟨k1,k2⟩:=hr.cells c3
    have hlen:=h.len
    obtain ⟨vs',q1,q2,q3⟩:=bldF_run ps qs _ (setL vs (i * size) u.cells.toList) cs' (k1.setL (i * size) h) (setL_one _ _ _ k2 h1) hk hrs hb
    refine ⟨vs',?_,q2,q3⟩
    rw [fill_one _ vs i (i * size) size u qs rfl (by have:=k1.len;simp at this;omega) (by omega)]
    exact q1
   ·simp at hb
theorem Less.app:∀ {a b c d:List (List AV)},Less a b→Less c d→Less (a++c) (b++d)
 | _,_,_,_,.nil,k=>k
 | _,_,_,_,.cons h e hs,k=>.cons h e (Less.app hs k)
theorem Le.beq {a b:Bool} (h:a=b):Le (.val (.bool a)) (.val (.bool b)):=by subst h;exact Le.refl _
theorem Le.ieq {k:IntKind} {a b:Int} (h:a=b):Le (.val (.int k a)) (.val (.int k b)):=by subst h;exact Le.refl _
section
variable {P:Program} {o:Oper} {al:Sl} {M:Mem} {K:AV→Mem→Prop}
end
end Go.Proofs.YtlkagbbbhkkogaaGreatDoor
