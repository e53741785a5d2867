/- Parts of a proof: short words; The frame of a law's row: if the call returns true and nothing below the heap's old size has turned, the row's post holds, whatever the arguments' types.; Facts of the seat's types, one by one, by evaluation.; steps that stand often; Arguments as trees: what a reading of an argument says, in the words of the logic; and how a law's call ends.; Arguments as trees, with bounds: no slice and no text is longer than L, and the whole is no greater than the bulk of the reading.; Types as plain data: a kind, a name, a number, and kids; their size, their sameness, and the count that the statements bound them by.; Types as plain data, on: what a type takes and answers, its parts in order, its variables and metas.; Types as plain data, on: types with others in places that are told.; Patterns and expressions as plain data: their cells, their parts, their sameness but for places.; Names of patterns, free names of expressions, as plain functions.; How much an expression has, as cognatelaw05.Count counts it.; Declarations as plain data (printed by wip/gend.py).; Codes and primitives as plain data (printed by wip/gend29.py).; Codes as arguments (printed by wip/gend29.py).; Arguments that are one cell.; A logic of trees, part 29: a frame that defers a closure which, where nothing panics, changes nothing.; A logic of trees, part 30: calls that may panic.; A logic of trees: maps from texts.; A logic of trees, part 31: numbers as interfaces.; A logic of trees, part 32: a frame that defers one closure which may catch a panic.; The reader gives up at a place.; slices.IndexFunc, slices.ContainsFunc, code.every (printed by wip/genev.py).; cognateref05.Texts, SameType, SameTypes; cognatelaw08.ints; More rules: a rune as a text; a part of a text; contracts of the model's own kind; bools that are known.; Bytes as a text.; equality of structs of numbers; slices.Equal at atoms, functions, numbers, texts; slices.Equal; code.Same and what it calls; cognateref29.Same.; cognateref29.Same; cognatelaw29.Small answers a bool; code.writer: number, int, signed, atom, atoms; code.writer: signed, atom, atoms; Bytes read back: plain functions, and that they undo the writer's.; Readers that undo writers: numbers, lengths, lists.; Readers of atoms and instructions, and that they undo the writer's.; When an instruction of a code is right, in plain words.; The document's bytes of a code, and their reader.; The bytes of instructions and codes, as pairs of a reader and a writer.; The reader: numbers.; Bits of a number that is put together from seven at a time.; The reader: a number's bytes.; The reader: signed numbers, atoms.; The logic of trees, part 18: calls of what Go gives without a body; texts, greater.; The logic of trees, part 19: calls that turn one piece of the memory; a nil as a slice of the call's own. -/
import Derived.Test.YtadhakcmfkghbaaKLCBack1
import Derived.ProofKit
import Derived.SizedLaws
import Derived.OpenShut
import Derived.Test.YtadhakcmfkghbaaProg
import Derived.ChangeArms
import Derived.Test.YtadhakcmfkghbaaRows
import Derived.RecoverIn
import Derived.TacticsInMore
import Derived.MapKept
import Derived.WideLaws
import Derived.Laws.BytesArg
import Derived.Laws.StructEq
import Derived.Lib.Bytealg
set_option maxRecDepth 100000
set_option maxHeartbeats 4000000
namespace Go.Proofs.Ytadhakcmfkghbaa
open Go.RowKit
theorem V {α:Sort _} {a:α}:a=a:=rfl
abbrev Yn := @List.mem_of_getElem?
abbrev Ym := @Drops.nil
abbrev Yl := @Drops.skip
abbrev Yk := @Drops.keep
abbrev Yj := @Nat.le_of_ble_eq_true
abbrev Yi := @BoolQ.mk
abbrev Yh := @Les.cons
abbrev Yg := @Les.refl
abbrev Yf := @Le.refl
abbrev Ye := @MLe.of_eq
abbrev Yd := @MLe.refl
theorem by0 {p:Prop} (h:p:=by first|exact Les.refl _|(repeat' (first|exact Les.refl _|refine Les.cons ?_ ?_|exact Le.refl _|exact Le.own _ _ _|exact Le.nil _|refine Le.agg ?_))):p:=h
theorem by1 {p:Prop} (h:p:=by first|exact MLe.none _|exact MLe.refl _|(repeat' (first|exact MLe.nil|exact MLe.refl _|refine MLe.cons _ ?_|refine MLe.drop _ ?_))):p:=h
theorem by2 {p:Prop} (h:p:=by repeat' (first|exact SLe.nil _|refine SLe.cons rfl ?_ ?_|exact Le.refl _|exact Le.own _ _ _|exact Le.nil _)):p:=h
theorem by3 {p:Prop} (h:p:=by repeat' (first|exact SLe.wo _ _|exact SLe.refl _|refine SLe.fresh rfl ?_)):p:=h
theorem by4 {p:Prop} (h:p:=by first|(simp;done)|(simp;omega)|omega):p:=h
theorem by5 {p:Prop} (h:p:=by first|omega|(simp at *;omega)):p:=h
theorem by6 {p:Prop} (h:p:=by first|rfl|assumption):p:=h
theorem by7 {p:Prop} (h:p:=by simp;omega):p:=h
theorem by8 {p:Prop} (h:p:=by assumption):p:=h
theorem by9 {p:Prop} (h:p:=by decide):p:=h
theorem by10 {p:Prop} (h:p:=by omega):p:=h
theorem by11 {p:Prop} (h:p:=by simp):p:=h
end Go.Proofs.Ytadhakcmfkghbaa
namespace Go.Proofs.Ytadhakcmfkghbaa
open Go.ChangeShapes Go.WideShapes Go.ChangeAt Go.RowKit
section
variable {H:Type} {enc:TypeId × Value→H} {P:Program}
theorem trodAll_below (hl:laidOutB P=true) {W W':World} (hb:Below W.heap.size W W') :
    ∀ {ts:List TypeId} {vs:List Value} {ds:List (DataW H)} {ps:List MemPlace},
     (∀ t∈ts,P.readableRec t=true∧t<P.types.size)→DataW.TrodAll enc P W 0 (fun _=>true) true ts vs ds ps →
     (∀ x∈ps,x.block<W.heap.size)→DataW.TrodAll enc P W' 0 (fun b=>decide (b<W.heap.size)) true ts vs ds ps
 | [],_,_,_,_,h,_=>by
  obtain ⟨rfl,rfl,rfl⟩:=trodAll_nil h
  exact trodAll_mk0
 | t::ts,_,_,_,hr,h,hlt=>by
  obtain ⟨v,vs,d,ds,p,q,rfl,rfl,rfl,h0,h1⟩:=trodAll_cons h
  exact trodAll_cons_mk (Below.trod hl (hr t by11).1 (hr t by11).2 h0 hb (fun x hx=>hlt x (by simp [hx])))
   (trodAll_below hl hb (fun t ht=>hr t (by simp [ht])) h1 (fun x hx=>hlt x (by simp [hx])))
theorem law_post {f:Func} {s:ChangeSpec} {W W':World} {args:Array Value} {ds gs:List (DataW H)} {before:List MemPlace} {tb:TypeId}
    (hl:laidOutB P=true) (hr:(f.params.toList.all fun t=>P.readableRec t && decide (t<P.types.size))=true)
    (hres:f.resultTypes=#[tb]) (htb:P.underlying tb=some .bool) (hvars:s.vars=[])
    (hs1:(s.fn H (ds++gs)).results=[.lit (.bool true)]) (hs2:(s.fn H (ds++gs)).args=ds) (hs3:(s.fn H (ds++gs)).vars=[])
    (hW:DataW.Whole enc P f.params.toList s.vars false W args.toList ds gs before) (hb:Below W.heap.size W W') :
    s.post enc P f false true false false W args (.bool true) W':=by
 have hW':=hW
 obtain ⟨p,q,hA,hV,rfl,hfz,hnd⟩:=hW
 have hr':∀ t∈f.params.toList,P.readableRec t=true∧t<P.types.size:=by
  intro t ht
  have:=List.all_eq_true.1 hr t ht
  simpa using this
 refine ⟨ds,gs,p++q,[],p,[],hW',?_,?_,?_,hb.frame _,fun h=>by cases h⟩
 ·rw [hs1,hres]
  exact trodAll_mk1 (shut_bool htb true)
 ·rw [hs2]
  exact trodAll_below hl hb hr' hA (fun x hx=>by simpa using hW'.lt x (by simp [hx]))
 rw [hs3,hvars]
 rfl
end
theorem tmix:Try.prog.follows .mixedOrders=true:=by kernel_rfl
theorem ts_2:(Try.prog.info? 2).map (·.size)=some 1:=by kernel_rfl
theorem tu_2:Try.prog.underlying 2=some (.int .i64):=by kernel_rfl
theorem ta_3:tyAgg Try.prog 3=some none:=by kernel_rfl
theorem ts_3:(Try.prog.info? 3).map (·.size)=some 1:=by kernel_rfl
theorem tz_3:tyZero Try.prog 3=some (.int .i64 0):=by kernel_rfl
theorem tu_3:Try.prog.underlying 3=some (.int .i64):=by kernel_rfl
theorem ts_4:(Try.prog.info? 4).map (·.size)=some 1:=by kernel_rfl
theorem tu_5:Try.prog.underlying 5=some (.int .u8):=by kernel_rfl
theorem tu_9:Try.prog.underlying 9=some (.string):=by kernel_rfl
theorem ta_22:tyAgg Try.prog 22=some none:=by kernel_rfl
theorem ts_22:(Try.prog.info? 22).map (·.size)=some 1:=by kernel_rfl
theorem te_22:tyElem Try.prog 22=some (46,7):=by kernel_rfl
theorem el_22:ElT Try.prog 22 46 (.agg #[(.int .i64 0),(.int .i64 0),(.int .i64 0),(.int .i64 0),(.slice none 0 0),(.slice none 0 0),(.slice none 0 0)]) 7 104:=⟨by kernel_rfl,by kernel_rfl,rfl,by decide,by decide⟩
theorem tu_22:Try.prog.underlying 22=some (.slice 46):=by kernel_rfl
theorem ts_23:(Try.prog.info? 23).map (·.size)=some 1:=by kernel_rfl
theorem te_23:tyElem Try.prog 23=some (39,3):=by kernel_rfl
theorem el_23:ElT Try.prog 23 39 (.agg #[(.int .i64 0),(.int .i64 0),(.int .i64 0)]) 3 24:=⟨by kernel_rfl,by kernel_rfl,rfl,by decide,by decide⟩
theorem tu_23:Try.prog.underlying 23=some (.slice 39):=by kernel_rfl
theorem ts_24:(Try.prog.info? 24).map (·.size)=some 1:=by kernel_rfl
theorem tz_24:tyZero Try.prog 24=some (.slice none 0 0):=by kernel_rfl
theorem te_24:tyElem Try.prog 24=some (9,1):=by kernel_rfl
theorem el_24:ElT Try.prog 24 9 (.string ⟨#[]⟩) 1 16:=⟨by kernel_rfl,by kernel_rfl,rfl,by decide,by decide⟩
theorem tu_24:Try.prog.underlying 24=some (.slice 9):=by kernel_rfl
theorem ta_26:tyAgg Try.prog 26=some (some 6):=by kernel_rfl
theorem ts_26:(Try.prog.info? 26).map (·.size)=some 6:=by kernel_rfl
theorem tz_26:tyZero Try.prog 26=some (.agg #[(.slice none 0 0),(.slice none 0 0),(.slice none 0 0),(.int .i64 0),(.int .i64 0),(.int .i64 0)]):=by kernel_rfl
theorem tf_26_0:tyFld Try.prog 26 0=some 0:=by kernel_rfl
theorem tf_26_3:tyFld Try.prog 26 3=some 3:=by kernel_rfl
theorem tf_26_4:tyFld Try.prog 26 4=some 4:=by kernel_rfl
theorem tf_26_5:tyFld Try.prog 26 5=some 5:=by kernel_rfl
theorem tfl_26:tyFlds Try.prog 26=some [(0,1),(1,1),(2,1),(3,1),(4,1),(5,1)]:=by kernel_rfl
theorem ta_31:tyAgg Try.prog 31=some none:=by kernel_rfl
theorem ts_31:(Try.prog.info? 31).map (·.size)=some 1:=by kernel_rfl
theorem te_31:tyElem Try.prog 31=some (5,1):=by kernel_rfl
theorem el_31:ElT Try.prog 31 5 (.int .u8 0) 1 1:=⟨by kernel_rfl,by kernel_rfl,rfl,by decide,by decide⟩
theorem tu_31:Try.prog.underlying 31=some (.slice 5):=by kernel_rfl
theorem ta_32:tyAgg Try.prog 32=some none:=by kernel_rfl
theorem ts_32:(Try.prog.info? 32).map (·.size)=some 1:=by kernel_rfl
theorem tz_32:tyZero Try.prog 32=some (.int .i64 0):=by kernel_rfl
theorem ta_39:tyAgg Try.prog 39=some (some 3):=by kernel_rfl
theorem ts_39:(Try.prog.info? 39).map (·.size)=some 3:=by kernel_rfl
theorem tz_39:tyZero Try.prog 39=some (.agg #[(.int .i64 0),(.int .i64 0),(.int .i64 0)]):=by kernel_rfl
theorem tf_39_0:tyFld Try.prog 39 0=some 0:=by kernel_rfl
theorem tf_39_1:tyFld Try.prog 39 1=some 1:=by kernel_rfl
theorem tf_39_2:tyFld Try.prog 39 2=some 2:=by kernel_rfl
theorem tfl_39:tyFlds Try.prog 39=some [(0,1),(1,1),(2,1)]:=by kernel_rfl
theorem ta_41:tyAgg Try.prog 41=some (some 2):=by kernel_rfl
theorem ts_41:(Try.prog.info? 41).map (·.size)=some 2:=by kernel_rfl
theorem tz_41:tyZero Try.prog 41=some (.agg #[(.int .i64 0),(.int .i64 0)]):=by kernel_rfl
theorem tf_41_1:tyFld Try.prog 41 1=some 1:=by kernel_rfl
theorem tfl_41:tyFlds Try.prog 41=some [(0,1),(1,1)]:=by kernel_rfl
theorem ts_42:(Try.prog.info? 42).map (·.size)=some 1:=by kernel_rfl
theorem te_42:tyElem Try.prog 42=some (41,2):=by kernel_rfl
theorem el_42:ElT Try.prog 42 41 (.agg #[(.int .i64 0),(.int .i64 0)]) 2 16:=⟨by kernel_rfl,by kernel_rfl,rfl,by decide,by decide⟩
theorem tu_42:Try.prog.underlying 42=some (.slice 41):=by kernel_rfl
theorem ta_43:tyAgg Try.prog 43=some none:=by kernel_rfl
theorem ts_43:(Try.prog.info? 43).map (·.size)=some 1:=by kernel_rfl
theorem te_43:tyElem Try.prog 43=some (3,1):=by kernel_rfl
theorem el_43:ElT Try.prog 43 3 (.int .i64 0) 1 8:=⟨by kernel_rfl,by kernel_rfl,rfl,by decide,by decide⟩
theorem tu_43:Try.prog.underlying 43=some (.slice 3):=by kernel_rfl
theorem ta_44:tyAgg Try.prog 44=some none:=by kernel_rfl
theorem ts_44:(Try.prog.info? 44).map (·.size)=some 1:=by kernel_rfl
theorem te_44:tyElem Try.prog 44=some (42,1):=by kernel_rfl
theorem el_44:ElT Try.prog 44 42 (.slice none 0 0) 1 24:=⟨by kernel_rfl,by kernel_rfl,rfl,by decide,by decide⟩
theorem tu_44:Try.prog.underlying 44=some (.slice 42):=by kernel_rfl
theorem ta_46:tyAgg Try.prog 46=some (some 7):=by kernel_rfl
theorem ts_46:(Try.prog.info? 46).map (·.size)=some 7:=by kernel_rfl
theorem tz_46:tyZero Try.prog 46=some (.agg #[(.int .i64 0),(.int .i64 0),(.int .i64 0),(.int .i64 0),(.slice none 0 0),(.slice none 0 0),(.slice none 0 0)]):=by kernel_rfl
theorem tf_46_1:tyFld Try.prog 46 1=some 1:=by kernel_rfl
theorem tf_46_2:tyFld Try.prog 46 2=some 2:=by kernel_rfl
theorem tf_46_3:tyFld Try.prog 46 3=some 3:=by kernel_rfl
theorem tf_46_4:tyFld Try.prog 46 4=some 4:=by kernel_rfl
theorem tf_46_5:tyFld Try.prog 46 5=some 5:=by kernel_rfl
theorem tf_46_6:tyFld Try.prog 46 6=some 6:=by kernel_rfl
theorem tfl_46:tyFlds Try.prog 46=some [(0,1),(1,1),(2,1),(3,1),(4,1),(5,1),(6,1)]:=by kernel_rfl
theorem te_50:tyElem Try.prog 50=some (89,9):=by kernel_rfl
theorem el_50:ElT Try.prog 50 89 (.agg #[(.string ⟨#[]⟩),(.int .i64 0),(.int .i64 0),(.slice none 0 0),(.slice none 0 0),(.int .i64 0),(.string ⟨#[]⟩),(.int .i64 0),(.slice none 0 0)]) 9 136:=⟨by kernel_rfl,by kernel_rfl,rfl,by decide,by decide⟩
theorem tu_50:Try.prog.underlying 50=some (.slice 89):=by kernel_rfl
theorem ta_53:tyAgg Try.prog 53=some (some 12):=by kernel_rfl
theorem ts_53:(Try.prog.info? 53).map (·.size)=some 12:=by kernel_rfl
theorem tz_53:tyZero Try.prog 53=some (.agg #[(.slice none 0 0),(.slice none 0 0),(.slice none 0 0),(.int .i64 0),(.int .i64 0),(.int .i64 0),(.int .i64 0),(.int .i64 0),(.int .i64 0),(.int .i64 0),(.int .i64 0),(.slice none 0 0)]):=by kernel_rfl
theorem tfl_53:tyFlds Try.prog 53=some [(0,6),(6,3),(9,1),(10,1),(11,1)]:=by kernel_rfl
theorem tz_66:tyZero Try.prog 66=some (.agg #[(.slice none 0 0)]):=by kernel_rfl
theorem tfl_66:tyFlds Try.prog 66=some [(0,1)]:=by kernel_rfl
theorem tu_69:Try.prog.underlying 69=some (.int .i64):=by kernel_rfl
theorem tz_73:tyZero Try.prog 73=some (.agg #[(.slice none 0 0),(.int .i64 0)]):=by kernel_rfl
theorem tf_73_0:tyFld Try.prog 73 0=some 0:=by kernel_rfl
theorem tf_73_1:tyFld Try.prog 73 1=some 1:=by kernel_rfl
theorem tfl_73:tyFlds Try.prog 73=some [(0,1),(1,1)]:=by kernel_rfl
theorem te_75:tyElem Try.prog 75=some (77,4):=by kernel_rfl
theorem el_75:ElT Try.prog 75 77 (.agg #[(.int .i64 0),(.string ⟨#[]⟩),(.int .i64 0),(.slice none 0 0)]) 4 56:=⟨by kernel_rfl,by kernel_rfl,rfl,by decide,by decide⟩
theorem tu_75:Try.prog.underlying 75=some (.slice 77):=by kernel_rfl
theorem ta_77:tyAgg Try.prog 77=some (some 4):=by kernel_rfl
theorem ts_77:(Try.prog.info? 77).map (·.size)=some 4:=by kernel_rfl
theorem tz_77:tyZero Try.prog 77=some (.agg #[(.int .i64 0),(.string ⟨#[]⟩),(.int .i64 0),(.slice none 0 0)]):=by kernel_rfl
theorem tfl_77:tyFlds Try.prog 77=some [(0,1),(1,1),(2,1),(3,1)]:=by kernel_rfl
theorem ta_79:tyAgg Try.prog 79=some (some 5):=by kernel_rfl
theorem ts_79:(Try.prog.info? 79).map (·.size)=some 5:=by kernel_rfl
theorem tz_79:tyZero Try.prog 79=some (.agg #[(.string ⟨#[]⟩),(.int .i64 0),(.string ⟨#[]⟩),(.int .i64 0),(.slice none 0 0)]):=by kernel_rfl
theorem tfl_79:tyFlds Try.prog 79=some [(0,1),(1,4)]:=by kernel_rfl
theorem ta_80:tyAgg Try.prog 80=some (some 85):=by kernel_rfl
theorem ts_80:(Try.prog.info? 80).map (·.size)=some 85:=by kernel_rfl
theorem tz_80:tyZero Try.prog 80=some (.agg #[(.string ⟨#[]⟩),(.int .i64 0),(.string ⟨#[]⟩),(.int .i64 0),(.slice none 0 0),(.string ⟨#[]⟩),(.int .i64 0),(.string ⟨#[]⟩),(.int .i64 0),(.slice none 0 0),(.string ⟨#[]⟩),(.int .i64 0),(.string ⟨#[]⟩),(.int .i64 0),(.slice none 0 0),(.string ⟨#[]⟩),(.int .i64 0),(.string ⟨#[]⟩),(.int .i64 0),(.slice none 0 0),(.string ⟨#[]⟩),(.int .i64 0),(.string ⟨#[]⟩),(.int .i64 0),(.slice none 0 0),(.string ⟨#[]⟩),(.int .i64 0),(.string ⟨#[]⟩),(.int .i64 0),(.slice none 0 0),(.string ⟨#[]⟩),(.int .i64 0),(.string ⟨#[]⟩),(.int .i64 0),(.slice none 0 0),(.string ⟨#[]⟩),(.int .i64 0),(.string ⟨#[]⟩),(.int .i64 0),(.slice none 0 0),(.string ⟨#[]⟩),(.int .i64 0),(.string ⟨#[]⟩),(.int .i64 0),(.slice none 0 0),(.string ⟨#[]⟩),(.int .i64 0),(.string ⟨#[]⟩),(.int .i64 0),(.slice none 0 0),(.string ⟨#[]⟩),(.int .i64 0),(.string ⟨#[]⟩),(.int .i64 0),(.slice none 0 0),(.string ⟨#[]⟩),(.int .i64 0),(.string ⟨#[]⟩),(.int .i64 0),(.slice none 0 0),(.string ⟨#[]⟩),(.int .i64 0),(.string ⟨#[]⟩),(.int .i64 0),(.slice none 0 0),(.string ⟨#[]⟩),(.int .i64 0),(.string ⟨#[]⟩),(.int .i64 0),(.slice none 0 0),(.string ⟨#[]⟩),(.int .i64 0),(.string ⟨#[]⟩),(.int .i64 0),(.slice none 0 0),(.string ⟨#[]⟩),(.int .i64 0),(.string ⟨#[]⟩),(.int .i64 0),(.slice none 0 0),(.string ⟨#[]⟩),(.int .i64 0),(.string ⟨#[]⟩),(.int .i64 0),(.slice none 0 0)]):=by kernel_rfl
theorem tu_80:Try.prog.underlying 80=some (.array 17 79):=by kernel_rfl
theorem tz_87:tyZero Try.prog 87=some (.agg #[(.slice none 0 0),(.slice none 0 0),(.int .i64 0),(.string ⟨#[]⟩),(.int .i64 0),(.slice none 0 0)]):=by kernel_rfl
theorem tfl_87:tyFlds Try.prog 87=some [(0,1),(1,1),(2,4)]:=by kernel_rfl
theorem tz_89:tyZero Try.prog 89=some (.agg #[(.string ⟨#[]⟩),(.int .i64 0),(.int .i64 0),(.slice none 0 0),(.slice none 0 0),(.int .i64 0),(.string ⟨#[]⟩),(.int .i64 0),(.slice none 0 0)]):=by kernel_rfl
theorem tfl_89:tyFlds Try.prog 89=some [(0,1),(1,1),(2,1),(3,6)]:=by kernel_rfl
theorem ta_91:tyAgg Try.prog 91=some (some 5):=by kernel_rfl
theorem ts_91:(Try.prog.info? 91).map (·.size)=some 5:=by kernel_rfl
theorem tz_91:tyZero Try.prog 91=some (.agg #[(.bool false),(.bool false),(.bool false),(.bool false),(.int .i64 0)]):=by kernel_rfl
theorem tu_102:Try.prog.underlying 102=some (.int .u64):=by kernel_rfl
open Go.RowKit
def rg (l:List (Nat × Nat)):List Nat:=l.flatMap fun p=>List.range' p.1 p.2
def lkf:List (Nat × Nat × Nat)→Nat→Nat→Option Nat
 | [],_,_=>none
 |(a,b,c)::l,t,f=>bif Nat.beq a t && Nat.beq b f then some c else lkf l t f
def lkm:List Nat→Nat→Bool
 | [],_=>false
 | a::l,t=>Nat.beq a t || lkm l t
def tfL:List (Nat × Nat × Nat):=[(26,0,0),(26,1,1),(26,2,2),(26,3,3),(26,4,4),(26,5,5),(39,0,0),(39,1,1),(39,2,2),(41,0,0),(41,1,1),(46,0,0),(46,1,1),(46,2,2),(46,3,3),(46,4,4),(46,5,5),(46,6,6),(53,0,0),(53,1,6),(53,2,9),(53,3,10),(53,4,11),(66,0,0),(73,0,0),(73,1,1),(77,0,0),(77,1,1),(77,3,3),(79,0,0),(79,1,1),(89,2,2),(91,0,0),(91,1,1),(91,2,2),(91,3,3),(91,4,4)]
def taL:List Nat:=[2,3,4,5,9,22,23,24,31,32,42,43,44,49,50,55,75,96]
theorem lkf_ok {t f c:Nat}:∀ l:List (Nat × Nat × Nat),(l.all fun e=>tyFld Try.prog e.1 e.2.1 == some e.2.2)=true→lkf l t f=some c→tyFld Try.prog t f=some c
 | [],_,h=>by simp [lkf] at h
 |(a,b,d)::l,hl,h=>by
  rw [List.all_cons,Bool.and_eq_true] at hl
  rw [lkf] at h
  cases q:(Nat.beq a t && Nat.beq b f) with
  | true =>
   rw [q] at h
   rw [Bool.and_eq_true] at q
   have h1:=Nat.eq_of_beq_eq_true q.1
   have h2:=Nat.eq_of_beq_eq_true q.2
   subst h1 h2
   have h3:d=c:=by simpa using h
   subst h3
   simpa using hl.1
  | false=>rw [q] at h;exact lkf_ok l hl.2 h
theorem lkm_ok {t:Nat}:∀ l:List Nat,(l.all fun e=>tyAgg Try.prog e == some none)=true→lkm l t=true→tyAgg Try.prog t=some none
 | [],_,h=>by simp [lkm] at h
 | a::l,hl,h=>by
  rw [List.all_cons,Bool.and_eq_true] at hl
  rw [lkm,Bool.or_eq_true] at h
  rcases h with h|h
  ·have h1:=Nat.eq_of_beq_eq_true h
   subst h1
   simpa using hl.1
  exact lkm_ok l hl.2 h
theorem tfL_ok:(tfL.all fun e=>tyFld Try.prog e.1 e.2.1 == some e.2.2)=true:=by kernel_rfl
theorem taL_ok:(taL.all fun e=>tyAgg Try.prog e == some none)=true:=by kernel_rfl
section
variable {al:Sl} {M:Mem} {K:AV→Mem→Prop} {o:Oper}
theorem op_fam {x:Operand} {t f b off fo:Nat} (ho:o.op=.fieldAddr t x f) (ht:lkf tfL t f=some fo) (hx:al.ev x=some (.ptr b off)) (q:K (.ptr b (off+fo)) M):OpT Try.prog o al M K:=Zf ho (lkf_ok tfL tfL_ok ht) hx q
theorem op_fac {x:Operand} {t f fo:Nat} {cs cs':List AV} (ho:o.op=.fieldAddr t x f) (ht:lkf tfL t f=some fo) (hx:al.ev x=some (.cptr cs)) (hc:cs.drop fo=cs') (q:K (.cptr cs') M):OpT Try.prog o al M K:=op_fieldAddr_c ho (lkf_ok tfL tfL_ok ht) hx hc q
theorem op_lc1 {x:Operand} {t:Nat} {c:AV} {cs:List AV} (ho:o.op=.load t x) (ht:lkm taL t=true) (hx:al.ev x=some (.cptr cs)) (hc:cs[0]?=some c) (q:K c M):OpT Try.prog o al M K:=op_load_c1 ho (lkm_ok taL taL_ok ht) hx hc q
theorem op_lm1 {x:Operand} {t b off i:Nat} {c:AV} {cs:List AV} (ho:o.op=.load t x) (ht:lkm taL t=true) (hx:al.ev x=some (.ptr b off)) (hm:M[i]?=some (.loc b cs)) (hc:cs[off]?=some c) (q:K c M):OpT Try.prog o al M K:=op_load_m1 ho (lkm_ok taL taL_ok ht) hx hm hc q
end
structure Wr (q:Prop):Prop where
 out:q
section
variable {p q:Prop}
theorem Qbc (k:q) (h:Wr q→p:=by intro k;refine AOps.gf _ rfl rfl rfl rfl rfl ?_;exact k.1):p:=h ⟨k⟩
theorem Qd (k:q) (h:Wr q→p:=by intro k;refine go_code ?_;exact k.1):p:=h ⟨k⟩
theorem Ql (k:q) (h:Wr q→p:=by intro k;refine c_seq ?_;exact k.1):p:=h ⟨k⟩
theorem Qx (k:q) (h:Wr q→p:=by intro k;refine AOps.nil ?_;exact k.1):p:=h ⟨k⟩
theorem Qg (k:q) (h:Wr q→p:=by intro k;refine c_region ?_;exact k.1):p:=h ⟨k⟩
theorem Qa (k:q) (h:Wr q→p:=by intro k;refine Zb _ rfl rfl rfl (Zg rfl rfl ?_);exact k.1):p:=h ⟨k⟩
theorem QC (k:q) (h:Wr q→p:=by intro k;refine Zb _ rfl rfl rfl (op_assign rfl rfl ?_);exact k.1):p:=h ⟨k⟩
theorem Qbv (k:q) (h:Wr q→p:=by intro k;refine Zb _ rfl rfl rfl (op_pick rfl rfl rfl ?_);exact k.1):p:=h ⟨k⟩
theorem QD (k:q) (h:Wr q→p:=by intro k;refine DOps.gf _ rfl rfl rfl rfl ?_;exact k.1):p:=h ⟨k⟩
theorem Qz (k:q) (h:Wr q→p:=by intro k;refine c_cond_t rfl ?_;exact k.1):p:=h ⟨k⟩
theorem QR (k:q) (h:Wr q→p:=by intro k;refine c_cond_f rfl ?_;exact k.1):p:=h ⟨k⟩
theorem Q9 (k:q) (h:Wr q→p:=by intro k;refine Zb _ rfl rfl rfl (op_lc1 rfl rfl rfl rfl ?_);exact k.1):p:=h ⟨k⟩
theorem QN (k:q) (h:Wr q→p:=by intro k;refine Zb _ rfl rfl rfl (op_fam rfl rfl rfl ?_);exact k.1):p:=h ⟨k⟩
theorem QbF (k:q) (h:Wr q→p:=by intro k;refine Zb _ rfl rfl rfl (op_fac rfl rfl rfl rfl ?_);exact k.1):p:=h ⟨k⟩
theorem QK (k:q) (h:Wr q→p:=by intro k;refine c_block ?_;exact k.1):p:=h ⟨k⟩
theorem Qbw (k:q) (h:Wr q→p:=by intro k;refine Zh _ rfl rfl rfl rfl rfl (op_lc1 rfl rfl rfl rfl ?_);exact k.1):p:=h ⟨k⟩
theorem QbG (k:q) (h:Wr q→p:=by intro k;refine Zh _ rfl rfl rfl rfl rfl (op_fac rfl rfl rfl rfl ?_);exact k.1):p:=h ⟨k⟩
theorem Q8 (k:q) (h:Wr q→p:=by intro k;refine c_start ?_;exact k.1):p:=h ⟨k⟩
theorem QJ (k:q) (h:Wr q→p:=by intro k;refine go_lp ?_;exact k.1):p:=h ⟨k⟩
theorem QS (k:q) (h:Wr q→p:=by intro k;refine Zb _ rfl rfl rfl (op_add rfl rfl rfl (IntWalk.i64_in _ by10) ?_);exact k.1):p:=h ⟨k⟩
theorem QW (k:q) (h:Wr q→p:=by intro k;refine go_blk ?_;exact k.1):p:=h ⟨k⟩
theorem QA (k:q) (h:Wr q→p:=by intro k;refine Zb _ rfl rfl rfl (op_eql rfl rfl rfl ?_);exact k.1):p:=h ⟨k⟩
theorem Qm (k:q) (h:Wr q→p:=by intro k;refine Zh _ rfl rfl rfl rfl rfl (Zg rfl rfl ?_);exact k.1):p:=h ⟨k⟩
theorem Qaq (k:q) (h:Wr q→p:=by intro k;refine Zb _ rfl rfl rfl (op_lss rfl rfl rfl ?_);exact k.1):p:=h ⟨k⟩
theorem Qv (k:q) (h:Wr q→p:=by intro k;refine Zz _ rfl rfl (Zg rfl rfl ⟨rfl,rfl⟩) ?_;exact k.1):p:=h ⟨k⟩
theorem QO (k:q) (h:Wr q→p:=by intro k;refine c_regionX ?_;exact k.1):p:=h ⟨k⟩
theorem Qbl (k:q) (h:Wr q→p:=by intro k;refine Zb _ rfl rfl rfl (op_extract rfl rfl rfl ?_);exact k.1):p:=h ⟨k⟩
theorem Qb6 (k:q) (h:Wr q→p:=by intro k;refine Yc _ rfl rfl rfl rfl (op_fac rfl rfl rfl rfl ⟨rfl,rfl⟩) ?_;exact k.1):p:=h ⟨k⟩
theorem Qb7 (k:q) (h:Wr q→p:=by intro k;refine Yc _ rfl rfl rfl rfl (op_lc1 rfl rfl rfl rfl ⟨rfl,rfl⟩) ?_;exact k.1):p:=h ⟨k⟩
theorem Qaa (k:q) (h:Wr q→p:=by intro k;refine AOpsX.nil ?_;exact k.1):p:=h ⟨k⟩
theorem Qab (k:q) (h:Wr q→p:=by intro k;refine Zz _ rfl rfl (op_pick rfl rfl rfl ⟨rfl,rfl⟩) ?_;exact k.1):p:=h ⟨k⟩
theorem QaX (k:q) (h:Wr q→p:=by intro k;refine Zh _ rfl rfl rfl rfl rfl (op_fam rfl rfl rfl ?_);exact k.1):p:=h ⟨k⟩
theorem QP (k:q) (h:Wr q→p:=by intro k;refine Zh _ rfl rfl rfl rfl rfl (op_neq rfl rfl rfl ?_);exact k.1):p:=h ⟨k⟩
theorem QaF (k:q) (h:Wr q→p:=by intro k;refine Zb _ rfl rfl rfl (op_nilCheck_m rfl rfl ?_);exact k.1):p:=h ⟨k⟩
theorem QX (k:q) (h:Wr q→p:=by intro k;refine Zk _ (none) rfl rfl rfl rfl rfl (Zg rfl rfl ⟨rfl,rfl⟩) ?_;exact k.1):p:=h ⟨k⟩
theorem Qbd (k:q) (h:Wr q→p:=by intro k;refine Zz _ rfl rfl (op_lc1 rfl rfl rfl rfl ⟨rfl,rfl⟩) ?_;exact k.1):p:=h ⟨k⟩
theorem Qbx (k:q) (h:Wr q→p:=by intro k;refine Zb _ rfl rfl rfl (Zr (cs':=[_,_,_,_,_]) (i:=0) rfl ta_91 rfl rfl rfl rfl ?_);exact k.1):p:=h ⟨k⟩
theorem Qby (k:q) (h:Wr q→p:=by intro k;refine Zt rfl rfl (Zi (cs':=[_,_,_,_,_]) (i:=1) rfl ts_91 rfl rfl rfl rfl rfl (Yj rfl) rfl ?_);exact k.1):p:=h ⟨k⟩
theorem Qac (k:q) (h:Wr q→p:=by intro k;refine Zb _ rfl rfl rfl (op_geq rfl rfl rfl ?_);exact k.1):p:=h ⟨k⟩
theorem Qad (k:q) (h:Wr q→p:=by intro k;refine Zh _ rfl rfl rfl rfl rfl (op_gtr rfl rfl rfl ?_);exact k.1):p:=h ⟨k⟩
theorem Qbz (k:q) (h:Wr q→p:=by intro k;refine Zh _ rfl rfl rfl rfl rfl (op_eql rfl rfl rfl ?_);exact k.1):p:=h ⟨k⟩
theorem Qak (k:q) (h:Wr q→p:=by intro k;refine Zb _ rfl rfl rfl (op_notc rfl rfl ?_);exact k.1):p:=h ⟨k⟩
theorem Qal (k:q) (h:Wr q→p:=by intro k;refine Zk _ (some 5) rfl rfl rfl rfl rfl (Zr (cs':=[_,_,_,_]) (i:=0) rfl ta_77 rfl rfl rfl rfl ⟨rfl,rfl⟩) ?_;exact k.1):p:=h ⟨k⟩
theorem QbH (k:q) (h:Wr q→p:=by intro k;refine Yc _ rfl rfl rfl rfl (Zg rfl rfl ⟨rfl,rfl⟩) ?_;exact k.1):p:=h ⟨k⟩
theorem Qb8 (k:q) (h:Wr q→p:=by intro k;refine Zb _ rfl rfl rfl (op_lm1 (i:=1) rfl rfl rfl rfl rfl ?_);exact k.1):p:=h ⟨k⟩
theorem QbO (k:q) (h:Wr q→p:=by intro k;refine Zz _ rfl rfl (op_fam rfl rfl rfl ⟨rfl,rfl⟩) ?_;exact k.1):p:=h ⟨k⟩
theorem Qar (k:q) (h:Wr q→p:=by intro k;refine AOps.gu _ rfl rfl rfl rfl rfl ?_;exact k.1):p:=h ⟨k⟩
theorem Qax (k:q) (h:Wr q→p:=by intro k;refine Zb _ rfl rfl rfl (op_len rfl tu_24 rfl (.seq _ _) ?_);exact k.1):p:=h ⟨k⟩
theorem Qay (k:q) (h:Wr q→p:=by intro k;refine Zb _ rfl rfl rfl (op_len rfl tu_42 rfl (.seq _ _) ?_);exact k.1):p:=h ⟨k⟩
theorem Qaz (k:q) (h:Wr q→p:=by intro k;refine Zh _ rfl rfl rfl rfl rfl (op_notc rfl rfl ?_);exact k.1):p:=h ⟨k⟩
theorem QbP (k:q) (h:Wr q→p:=by intro k;refine Zh _ rfl rfl rfl rfl rfl (op_pick rfl rfl rfl ?_);exact k.1):p:=h ⟨k⟩
theorem QaA (k:q) (h:Wr q→p:=by intro k;refine Zb _ rfl rfl rfl (Zx (cs':=[_,_,_,_]) rfl tz_77 rfl rfl ?_);exact k.1):p:=h ⟨k⟩
theorem QaG (k:q) (h:Wr q→p:=by intro k;refine Zb _ rfl rfl rfl (op_len rfl tu_22 rfl (.seq _ _) ?_);exact k.1):p:=h ⟨k⟩
theorem Qb9 (k:q) (h:Wr q→p:=by intro k;refine Zt rfl rfl (Zi (cs':=[_,_,_,_,_]) (i:=0) rfl ts_3 rfl rfl rfl rfl rfl (Yj rfl) rfl ?_);exact k.1):p:=h ⟨k⟩
theorem QaM (k:q) (h:Wr q→p:=by intro k;refine Zb _ rfl rfl rfl (Zx (cs':=[_,_,_,_,_,_]) rfl tz_26 rfl rfl ?_);exact k.1):p:=h ⟨k⟩
theorem QaY (k:q) (h:Wr q→p:=by intro k;refine Zb _ rfl rfl rfl (op_len rfl tu_23 rfl (.seq _ _) ?_);exact k.1):p:=h ⟨k⟩
theorem Qbe (k:q) (h:Wr q→p:=by intro k;refine Zb _ rfl rfl rfl (op_boxc (cs':=[_,_,_,_,_,_]) rfl rfl rfl rfl ?_);exact k.1):p:=h ⟨k⟩
theorem Qbf (k:q) (h:Wr q→p:=by intro k;refine Zh _ rfl rfl rfl rfl rfl (op_lm1 (i:=1) rfl rfl rfl rfl rfl ?_);exact k.1):p:=h ⟨k⟩
theorem Qbg (k:q) (h:Wr q→p:=by intro k;refine Zb _ rfl rfl rfl (op_len rfl tu_43 rfl (.seq _ _) ?_);exact k.1):p:=h ⟨k⟩
theorem Qbh (k:q) (h:Wr q→p:=by intro k;refine Zz _ rfl rfl (op_nilCheck_m rfl rfl ⟨rfl,rfl⟩) ?_;exact k.1):p:=h ⟨k⟩
theorem Qbi (k:q) (h:Wr q→p:=by intro k;refine Zh _ rfl rfl rfl rfl rfl (op_lss rfl rfl rfl ?_);exact k.1):p:=h ⟨k⟩
theorem Qbj (k:q) (h:Wr q→p:=by intro k;refine Zk _ (some 4) rfl rfl rfl rfl rfl (Zr (cs':=[_,_,_,_]) (i:=0) rfl ta_77 rfl rfl rfl rfl ⟨rfl,rfl⟩) ?_;exact k.1):p:=h ⟨k⟩
theorem Qbk (k:q) (h:Wr q→p:=by intro k;refine Zk _ (none) rfl rfl rfl rfl rfl (op_fam rfl rfl rfl ⟨rfl,rfl⟩) ?_;exact k.1):p:=h ⟨k⟩
theorem Qbm (k:q) (h:Wr q→p:=by intro k;refine Zb _ rfl rfl rfl (op_load_c (cs':=[_,_,_,_,_,_,_]) rfl ta_46 rfl rfl rfl ?_);exact k.1):p:=h ⟨k⟩
theorem Qbn (k:q) (h:Wr q→p:=by intro k;refine Zb _ rfl rfl rfl (op_neq rfl rfl rfl ?_);exact k.1):p:=h ⟨k⟩
theorem Qbo (k:q) (h:Wr q→p:=by intro k;refine Zb _ rfl rfl rfl (Zx (cs':=[_,_,_,_,_,_,_]) rfl tz_46 rfl rfl ?_);exact k.1):p:=h ⟨k⟩
theorem Qbp (k:q) (h:Wr q→p:=by intro k;refine c_drawn tmix rfl ?_;exact k.1):p:=h ⟨k⟩
theorem Qbq (k:q) (h:Wr q→p:=by intro k;refine Zb _ rfl rfl rfl (op_add rfl rfl rfl rfl ?_);exact k.1):p:=h ⟨k⟩
theorem Qbr (k:q) (h:Wr q→p:=by intro k;refine Zb _ rfl rfl rfl (op_boxc (cs':=[_,_,_,_,_,_,_]) rfl rfl rfl rfl ?_);exact k.1):p:=h ⟨k⟩
theorem Qbs (k:q) (h:Wr q→p:=by intro k;refine Zb _ rfl rfl rfl (op_boxe (cs':=[_,_,_,_]) rfl rfl rfl rfl ?_);exact k.1):p:=h ⟨k⟩
theorem Qbt (k:q) (h:Wr q→p:=by intro k;refine Zt rfl rfl (Zi (cs':=[_,_,_,_]) (i:=0) rfl ts_77 rfl rfl rfl rfl rfl (Yj rfl) rfl ?_);exact k.1):p:=h ⟨k⟩
theorem Qbu (k:q) (h:Wr q→p:=by intro k;refine Zh _ rfl rfl rfl rfl rfl (op_len rfl tu_31 rfl (.seq _ _) ?_);exact k.1):p:=h ⟨k⟩
theorem QbA (k:q) (h:Wr q→p:=by intro k;refine Zt rfl rfl (Zi (cs':=[_,_,_,_,_,_,_]) (i:=0) rfl ts_46 rfl rfl rfl rfl rfl (Yj rfl) rfl ?_);exact k.1):p:=h ⟨k⟩
theorem QbB (k:q) (h:Wr q→p:=by intro k;refine Zb _ rfl rfl rfl (op_gtr rfl rfl rfl ?_);exact k.1):p:=h ⟨k⟩
theorem QbC (k:q) (h:Wr q→p:=by intro k;refine Zb _ rfl rfl rfl (Zx (cs':=[_,_,_,_,_]) rfl tz_91 rfl rfl ?_);exact k.1):p:=h ⟨k⟩
theorem QbD (k:q) (h:Wr q→p:=by intro k;refine Zb _ rfl rfl rfl (op_lm1 (i:=2) rfl rfl rfl rfl rfl ?_);exact k.1):p:=h ⟨k⟩
theorem QbE (k:q) (h:Wr q→p:=by intro k;refine Zt rfl rfl (Zi (cs':=[_,_,_,_,_,_]) (i:=0) rfl ts_26 rfl rfl rfl rfl rfl (Yj rfl) rfl ?_);exact k.1):p:=h ⟨k⟩
theorem QbI (k:q) (h:Wr q→p:=by intro k;refine Zb _ rfl rfl rfl (Zo rfl te_22 rfl (.seq _ _) rfl rfl by8 ?_);exact k.1):p:=h ⟨k⟩
theorem QbJ (k:q) (h:Wr q→p:=by intro k;refine Zb _ rfl rfl rfl (op_boxc (cs':=[_,_,_,_,_,_,_,_,_,_,_,_]) rfl rfl rfl rfl ?_);exact k.1):p:=h ⟨k⟩
theorem QbK (k:q) (h:Wr q→p:=by intro k;refine Zh _ rfl rfl rfl rfl rfl (op_leq rfl rfl rfl ?_);exact k.1):p:=h ⟨k⟩
theorem QbL (k:q) (h:Wr q→p:=by intro k;refine Zb _ rfl rfl rfl (Zr (cs':=[_,_,_,_]) (i:=0) rfl ta_77 rfl rfl rfl rfl ?_);exact k.1):p:=h ⟨k⟩
theorem QbM (k:q) (h:Wr q→p:=by intro k;refine Zk _ (some 1) rfl rfl rfl rfl rfl (Zr (cs':=[_,_,_,_]) (i:=0) rfl ta_77 rfl rfl rfl rfl ⟨rfl,rfl⟩) ?_;exact k.1):p:=h ⟨k⟩
theorem QbN (k:q) (h:Wr q→p:=by intro k;refine Zb _ rfl rfl rfl (op_load_c (cs':=[_,_,_,_,_,_]) rfl ta_26 rfl rfl rfl ?_);exact k.1):p:=h ⟨k⟩
theorem QbR (k:q) (h:Wr q→p:=by intro k;refine Zb _ rfl rfl rfl (op_makeFunc (fs:=[]) (cs:=[.tmp 3]) rfl rfl rfl ?_);exact k.1):p:=h ⟨k⟩
theorem QbS (k:q) (h:Wr q→p:=by intro k;refine Zh _ rfl rfl rfl rfl rfl (op_len rfl tu_22 rfl (.seq _ _) ?_);exact k.1):p:=h ⟨k⟩
theorem QbT (k:q) (h:Wr q→p:=by intro k;refine Zh _ rfl rfl rfl rfl rfl (op_len rfl tu_43 rfl (.seq _ _) ?_);exact k.1):p:=h ⟨k⟩
theorem QbU (k:q) (h:Wr q→p:=by intro k;refine Zb _ rfl rfl rfl (op_len rfl tu_44 rfl (.seq _ _) ?_);exact k.1):p:=h ⟨k⟩
theorem QbV (k:q) (h:Wr q→p:=by intro k;refine Yc _ rfl rfl rfl rfl (Zo rfl te_23 rfl (.seq _ _) rfl rfl by8 ⟨rfl,rfl⟩) ?_;exact k.1):p:=h ⟨k⟩
theorem QbW (k:q) (h:Wr q→p:=by intro k;refine Zb _ rfl rfl rfl (op_len_str rfl tu_9 rfl ?_);exact k.1):p:=h ⟨k⟩
theorem QbX (k:q) (h:Wr q→p:=by intro k;refine AOpsX.st 4 rfl rfl rfl (op_assign rfl rfl ?_);exact k.1):p:=h ⟨k⟩
theorem QbY (k:q) (h:Wr q→p:=by intro k;refine Zz _ rfl rfl (op_assign rfl rfl ⟨rfl,rfl⟩) ?_;exact k.1):p:=h ⟨k⟩
theorem QbZ (k:q) (h:Wr q→p:=by intro k;refine Zt rfl rfl (Zi (cs':=[_,_,_,_,_]) (i:=0) rfl ts_91 rfl rfl rfl rfl rfl (Yj rfl) rfl ?_);exact k.1):p:=h ⟨k⟩
theorem Qb0 (k:q) (h:Wr q→p:=by intro k;refine Zh _ rfl rfl rfl rfl rfl (op_len rfl tu_42 rfl (.seq _ _) ?_);exact k.1):p:=h ⟨k⟩
theorem Qb1 (k:q) (h:Wr q→p:=by intro k;refine Zh _ rfl rfl rfl rfl rfl (op_load_c (cs':=[_,_,_,_,_,_,_,_,_,_,_,_]) rfl ta_53 rfl rfl rfl ?_);exact k.1):p:=h ⟨k⟩
theorem Qb2 (k:q) (h:Wr q→p:=by intro k;refine Zk _ (some 2) rfl rfl rfl rfl rfl (Zr (cs':=[_,_,_,_]) (i:=0) rfl ta_77 rfl rfl rfl rfl ⟨rfl,rfl⟩) ?_;exact k.1):p:=h ⟨k⟩
theorem Qb3 (k:q) (h:Wr q→p:=by intro k;refine Zk _ (some 3) rfl rfl rfl rfl rfl (Zr (cs':=[_,_,_,_]) (i:=0) rfl ta_77 rfl rfl rfl rfl ⟨rfl,rfl⟩) ?_;exact k.1):p:=h ⟨k⟩
theorem Qb4 (k:q) (h:Wr q→p:=by intro k;refine Zh _ rfl rfl rfl rfl rfl (Zo rfl te_31 rfl (.seq _ _) rfl rfl (rfl) ?_);exact k.1):p:=h ⟨k⟩
theorem Qb5 (k:q) (h:Wr q→p:=by intro k;refine Zh _ rfl rfl rfl rfl rfl (op_bytestra (xs:=bs) rfl tu_31 tu_5 tu_9 rfl (.seq 1 _) ?_);exact k.1):p:=h ⟨k⟩
theorem Qca (k:q) (h:Wr q→p:=by intro k;refine Zb _ rfl rfl rfl (Zo rfl te_24 rfl (.seq _ _) rfl rfl by8 ?_);exact k.1):p:=h ⟨k⟩
theorem Qcb (k:q) (h:Wr q→p:=by intro k;refine Zb _ rfl rfl rfl (op_boxc (cs':=[_]) rfl rfl rfl rfl ?_);exact k.1):p:=h ⟨k⟩
theorem Qcc (k:q) (h:Wr q→p:=by intro k;refine Zb _ rfl rfl rfl (Zr (cs':=[_,_,_,_,_,_,_]) (i:=0) rfl ta_46 rfl rfl rfl rfl ?_);exact k.1):p:=h ⟨k⟩
theorem Qcd (k:q) (h:Wr q→p:=by intro k;refine Zh _ rfl rfl rfl rfl rfl (op_len rfl tu_24 rfl (.seq _ _) ?_);exact k.1):p:=h ⟨k⟩
theorem Qce (k:q) (h:Wr q→p:=by intro k;refine Zh _ rfl rfl rfl rfl rfl (op_len rfl tu_23 rfl (.seq _ _) ?_);exact k.1):p:=h ⟨k⟩
theorem Qcf (k:q) (h:Wr q→p:=by intro k;refine Zh _ rfl rfl rfl rfl rfl (op_len rfl tu_44 rfl (.seq _ _) ?_);exact k.1):p:=h ⟨k⟩
theorem Qcg (k:q) (h:Wr q→p:=by intro k;refine Zz _ rfl rfl (op_lm1 (i:=1) rfl rfl rfl rfl rfl ⟨rfl,rfl⟩) ?_;exact k.1):p:=h ⟨k⟩
theorem Qch (k:q) (h:Wr q→p:=by intro k;refine Zb _ rfl rfl rfl (op_leq rfl rfl rfl ?_);exact k.1):p:=h ⟨k⟩
theorem Qci (k:q) (h:Wr q→p:=by intro k;refine Zt rfl rfl (Zi (i:=0) rfl ts_31 rfl rfl rfl rfl rfl (Yj rfl) rfl ?_);exact k.1):p:=h ⟨k⟩
theorem Qcj (k:q) (h:Wr q→p:=by intro k;refine AOpsX.st 6 rfl rfl rfl (Zg rfl rfl ?_);exact k.1):p:=h ⟨k⟩
theorem Qck (k:q) (h:Wr q→p:=by intro k;refine AOpsX.st 9 rfl rfl rfl (Zg rfl rfl ?_);exact k.1):p:=h ⟨k⟩
theorem Qcl (k:q) (h:Wr q→p:=by intro k;refine Zz _ rfl rfl (op_len rfl tu_31 rfl (.seq _ _) (fun _=>⟨rfl,rfl⟩)) ?_;exact k.1):p:=h ⟨k⟩
theorem Qcm (k:q) (h:Wr q→p:=by intro k;refine AOpsX.st 24 rfl rfl rfl (Zg rfl rfl ?_);exact k.1):p:=h ⟨k⟩
theorem Qcn (k:q) (h:Wr q→p:=by intro k;refine Zt rfl rfl (Zi (i:=0) rfl ts_3 rfl rfl rfl rfl rfl (Yj rfl) rfl ?_);exact k.1):p:=h ⟨k⟩
theorem Qco (k:q) (h:Wr q→p:=by intro k;refine AOpsX.st 21 rfl rfl rfl (Zg rfl rfl ?_);exact k.1):p:=h ⟨k⟩
theorem Qcp (k:q) (h:Wr q→p:=by intro k;refine Zh _ rfl rfl rfl rfl rfl (op_sub rfl rfl rfl (IntWalk.i64_in _ by10) ?_);exact k.1):p:=h ⟨k⟩
theorem Qcq (k:q) (h:Wr q→p:=by intro k;refine Zh _ rfl rfl rfl rfl rfl (op_load_c (cs':=[_,_,_,_,_,_,_]) rfl ta_46 rfl rfl rfl ?_);exact k.1):p:=h ⟨k⟩
theorem Qcr (k:q) (h:Wr q→p:=by intro k;refine Zh _ rfl rfl rfl rfl rfl (op_seql rfl rfl rfl ?_);exact k.1):p:=h ⟨k⟩
theorem Qcs (k:q) (h:Wr q→p:=by intro k;refine Zb _ rfl rfl rfl (op_load_c (cs':=[_,_,_,_]) rfl ta_77 rfl rfl rfl ?_);exact k.1):p:=h ⟨k⟩
theorem Qct (k:q) (h:Wr q→p:=by intro k;refine Zk _ (none) rfl rfl rfl rfl rfl (op_load_c (cs':=[_,_,_,_]) rfl ta_77 rfl rfl rfl ⟨rfl,rfl⟩) ?_;exact k.1):p:=h ⟨k⟩
theorem Qcu (k:q) (h:Wr q→p:=by intro k;refine Zk _ (some 0) rfl rfl rfl rfl rfl (Zr (cs':=[_,_,_,_]) (i:=0) rfl ta_77 rfl rfl rfl rfl ⟨rfl,rfl⟩) ?_;exact k.1):p:=h ⟨k⟩
theorem Qcv (k:q) (h:Wr q→p:=by intro k;refine Zb _ rfl rfl rfl (op_load_c (cs':=[_,_,_]) rfl ta_39 rfl rfl rfl ?_);exact k.1):p:=h ⟨k⟩
theorem Qcw (k:q) (h:Wr q→p:=by intro k;refine Zb _ rfl rfl rfl (Zx (cs':=[_,_,_]) rfl tz_39 rfl rfl ?_);exact k.1):p:=h ⟨k⟩
theorem Qcx (k:q) (h:Wr q→p:=by intro k;refine Zt rfl rfl (Zi (cs':=[_,_,_]) (i:=0) rfl ts_39 rfl rfl rfl rfl rfl (Yj rfl) rfl ?_);exact k.1):p:=h ⟨k⟩
theorem Qcy (k:q) (h:Wr q→p:=by intro k;refine Zb _ rfl rfl rfl (op_len rfl tu_31 rfl (.seq _ _) ?_);exact k.1):p:=h ⟨k⟩
theorem Qcz (k:q) (h:Wr q→p:=by intro k;refine AOpsX.st0 rfl rfl (Zi (cs':=[_,_,_,_,_,_]) (i:=1) rfl ts_3 rfl rfl rfl rfl rfl (Yj rfl) rfl ?_);exact k.1):p:=h ⟨k⟩
theorem QcA (k:q) (h:Wr q→p:=by intro k;refine Zk _ (none) rfl rfl rfl rfl rfl (op_nilCheck_m rfl rfl ⟨rfl,rfl⟩) ?_;exact k.1):p:=h ⟨k⟩
theorem QcB (k:q) (h:Wr q→p:=by intro k;refine Zk _ (some 0) rfl rfl rfl rfl rfl (op_lm1 (i:=0) rfl rfl rfl rfl rfl ⟨rfl,rfl⟩) ?_;exact k.1):p:=h ⟨k⟩
theorem QcC (k:q) (h:Wr q→p:=by intro k;refine Zb _ rfl rfl rfl (Zo rfl te_44 rfl (.seq _ _) rfl rfl (hcl) ?_);exact k.1):p:=h ⟨k⟩
theorem QcD (k:q) (h:Wr q→p:=by intro k;refine Zb _ rfl rfl rfl (Zr (cs':=[_,_,_,_,_,_]) (i:=0) rfl ta_26 rfl rfl rfl rfl ?_);exact k.1):p:=h ⟨k⟩
theorem QcE (k:q) (h:Wr q→p:=by intro k;refine Zh _ rfl rfl rfl rfl rfl (Zr (cs':=[_,_,_,_,_,_]) (i:=0) rfl ta_26 rfl rfl rfl rfl ?_);exact k.1):p:=h ⟨k⟩
theorem QcF (k:q) (h:Wr q→p:=by intro k;refine Zb _ rfl rfl rfl (Zo rfl te_42 rfl (.seq _ _) rfl rfl by8 ?_);exact k.1):p:=h ⟨k⟩
theorem QcG (k:q) (h:Wr q→p:=by intro k;refine Zb _ rfl rfl rfl (Zr (cs':=[_,_]) (i:=0) rfl ta_41 rfl rfl rfl rfl ?_);exact k.1):p:=h ⟨k⟩
theorem QcH (k:q) (h:Wr q→p:=by intro k;refine Zz _ rfl rfl (Zo rfl te_42 rfl (.seq _ _) rfl rfl by8 ⟨rfl,rfl⟩) ?_;exact k.1):p:=h ⟨k⟩
theorem QcI (k:q) (h:Wr q→p:=by intro k;refine Yc _ rfl rfl rfl rfl (Zo rfl te_42 rfl (.seq _ _) rfl rfl by8 ⟨rfl,rfl⟩) ?_;exact k.1):p:=h ⟨k⟩
theorem QcJ (k:q) (h:Wr q→p:=by intro k;refine Zz _ rfl rfl (Zo rfl te_44 rfl (.seq _ _) rfl rfl by8 ⟨rfl,rfl⟩) ?_;exact k.1):p:=h ⟨k⟩
theorem QcK (k:q) (h:Wr q→p:=by intro k;refine Zz _ rfl rfl (Zo rfl te_43 rfl (.seq _ _) rfl rfl by8 ⟨rfl,rfl⟩) ?_;exact k.1):p:=h ⟨k⟩
theorem QcL (k:q) (h:Wr q→p:=by intro k;refine Zz _ rfl rfl (Zo rfl te_23 rfl (.seq _ _) rfl rfl by8 ⟨rfl,rfl⟩) ?_;exact k.1):p:=h ⟨k⟩
theorem QcM (k:q) (h:Wr q→p:=by intro k;refine Zz _ rfl rfl (Zo rfl te_24 rfl (.seq _ _) rfl rfl by8 ⟨rfl,rfl⟩) ?_;exact k.1):p:=h ⟨k⟩
theorem QcN (k:q) (h:Wr q→p:=by intro k;(refine Zb _ rfl rfl rfl (op_append (i:=1) el_31 rfl rfl rfl rfl (.seq _ _) (by simp only [List.length_map,List.length_reverse,List.length_cons,List.length_nil];omega) ?_));exact k.1):p:=h ⟨k⟩
theorem QcO (k:q) (h:Wr q→p:=by intro k;refine Zb _ rfl rfl rfl (op_convert rfl tu_102 tu_2 rfl (IntWalk.i64_in _ by10) ?_);exact k.1):p:=h ⟨k⟩
theorem QcP (k:q) (h:Wr q→p:=by intro k;refine AOpsX.st0 rfl rfl (Zi (cs':=[_,_]) (i:=1) rfl ts_2 rfl rfl rfl rfl rfl (Yj rfl) rfl ?_);exact k.1):p:=h ⟨k⟩
theorem QcR (k:q) (h:Wr q→p:=by intro k;refine Zb _ rfl rfl rfl (Zr (cs':=[_,_]) (i:=1) rfl ta_41 rfl rfl rfl rfl ?_);exact k.1):p:=h ⟨k⟩
theorem QcS (k:q) (h:Wr q→p:=by intro k;refine Zt rfl rfl (Zi (cs':=[_,_]) (i:=2) rfl ts_41 rfl rfl rfl rfl rfl (Yj rfl) rfl ?_);exact k.1):p:=h ⟨k⟩
theorem QcT (k:q) (h:Wr q→p:=by intro k;refine AOpsX.st0 rfl rfl (Zi (cs':=[_,_,_,_,_,_,_]) (i:=2) rfl ts_3 rfl rfl rfl rfl rfl (Yj rfl) rfl ?_);exact k.1):p:=h ⟨k⟩
theorem QcU (k:q) (h:Wr q→p:=by intro k;refine AOpsX.st0 rfl rfl (Zi (cs':=[_,_,_,_,_,_,_]) (i:=2) rfl ts_2 rfl rfl rfl rfl rfl (Yj rfl) rfl ?_);exact k.1):p:=h ⟨k⟩
theorem QcV (k:q) (h:Wr q→p:=by intro k;refine c_drawnX [0,1,2,3,4,5,6,7] [3,5,7] [[],[0],[],[2],[2,3],[0,1,2,3,4],[0,1,2,3,4,5],[0,1,2,3,4,5,6]] tmix rfl (fun c h=>Ze c h) ?_;exact k.1):p:=h ⟨k⟩
theorem QcW (k:q) (h:Wr q→p:=by intro k;refine Yc _ rfl rfl rfl rfl (op_len rfl tu_42 rfl (.seq _ _) (fun _=>⟨rfl,rfl⟩)) ?_;exact k.1):p:=h ⟨k⟩
theorem QcX (k:q) (h:Wr q→p:=by intro k;refine Yc _ rfl rfl rfl rfl (op_sub rfl rfl rfl (IntWalk.i64_in _ by10) ⟨rfl,rfl⟩) ?_;exact k.1):p:=h ⟨k⟩
theorem QcY (k:q) (h:Wr q→p:=by intro k;(refine Yc _ rfl rfl rfl rfl (Zo rfl te_44 rfl (.seq _ _) rfl rfl ((by first|exact hcl|exact Cf.cellss_get (hw by10 by10))) ⟨rfl,rfl⟩) ?_);exact k.1):p:=h ⟨k⟩
theorem QcZ (k:q) (h:Wr q→p:=by intro k;refine Zh _ rfl rfl rfl rfl rfl (Zr (cs':=[_,_,_,_,_]) (i:=0) rfl ta_91 rfl rfl rfl rfl ?_);exact k.1):p:=h ⟨k⟩
theorem Qc0 (k:q) (h:Wr q→p:=by intro k;refine Zb _ rfl rfl rfl (Zr (cs':=[_,_,_,_]) (i:=2) rfl ta_77 rfl rfl rfl rfl ?_);exact k.1):p:=h ⟨k⟩
theorem Qc1 (k:q) (h:Wr q→p:=by intro k;refine Zt rfl rfl (Zi (cs':=[_,_,_,_]) (i:=2) rfl ts_77 rfl rfl rfl rfl rfl (Yj rfl) rfl ?_);exact k.1):p:=h ⟨k⟩
theorem Qc2 (k:q) (h:Wr q→p:=by intro k;refine Zk _ (some 1) rfl rfl rfl rfl rfl (op_lm1 (i:=0) rfl rfl rfl rfl rfl ⟨rfl,rfl⟩) ?_;exact k.1):p:=h ⟨k⟩
theorem Qc3 (k:q) (h:Wr q→p:=by intro k;refine Zk _ (none) rfl rfl rfl rfl rfl (op_add rfl rfl rfl (IntWalk.i64_in _ by10) ⟨rfl,rfl⟩) ?_;exact k.1):p:=h ⟨k⟩
theorem Qc4 (k:q) (h:Wr q→p:=by intro k;refine Zb _ rfl rfl rfl (Zo rfl te_23 rfl (.seq _ _) rfl rfl by8 ?_);exact k.1):p:=h ⟨k⟩
theorem Qc5 (k:q) (h:Wr q→p:=by intro k;refine Zb _ rfl rfl rfl (Zr (cs':=[_,_,_,_,_,_]) (i:=1) rfl ta_26 rfl rfl rfl rfl ?_);exact k.1):p:=h ⟨k⟩
theorem Qc6 (k:q) (h:Wr q→p:=by intro k;refine AOpsX.st0 rfl rfl (Zi (cs':=[_,_,_]) (i:=1) rfl ts_3 rfl rfl rfl rfl rfl (Yj rfl) rfl ?_);exact k.1):p:=h ⟨k⟩
theorem Qc7 (k:q) (h:Wr q→p:=by intro k;refine Zb _ rfl rfl rfl (op_buildSlice_own (xs:=[.const (.int .u8 199)]) el_31 rfl rfl rfl rfl rfl rfl (Yj rfl) ?_);exact k.1):p:=h ⟨k⟩
theorem Qc8 (k:q) (h:Wr q→p:=by intro k;refine Zb _ rfl rfl rfl (Zn (ns:=[0]) (xs:=[.tmp 14]) rfl tz_66 rfl tfl_66 rfl rfl rfl rfl ?_);exact k.1):p:=h ⟨k⟩
theorem Qb (k:q) (h:Wr q→p:=by intro k;refine Qx ?_;refine Qd ?_;exact k.1):p:=h ⟨k⟩
theorem QT (k:q) (h:Wr q→p:=by intro k;refine Qbc ?_;refine Qbc ?_;exact k.1):p:=h ⟨k⟩
theorem Qh (k:q) (h:Wr q→p:=by intro k;refine Ql ?_;refine Qg ?_;exact k.1):p:=h ⟨k⟩
theorem Qk (k:q) (h:Wr q→p:=by intro k;refine QC ?_;refine Qb ?_;exact k.1):p:=h ⟨k⟩
theorem QaB (k:q) (h:Wr q→p:=by intro k;refine x_past by11 ?_;refine x_code ?_;exact k.1):p:=h ⟨k⟩
theorem Qc (k:q) (h:Wr q→p:=by intro k;refine Qbv ?_;refine Qa ?_;exact k.1):p:=h ⟨k⟩
theorem Qo (k:q) (h:Wr q→p:=by intro k;refine QT ?_;refine QT ?_;exact k.1):p:=h ⟨k⟩
theorem QE (k:q) (h:Wr q→p:=by intro k;refine Qd ?_;refine Ql ?_;exact k.1):p:=h ⟨k⟩
theorem Qn (k:q) (h:Wr q→p:=by intro k;refine QbF ?_;refine Q9 ?_;exact k.1):p:=h ⟨k⟩
theorem Q4 (k:q) (h:Wr q→p:=by intro k;refine QaB ?_;refine QaB ?_;exact k.1):p:=h ⟨k⟩
theorem QaZ (k:q) (h:Wr q→p:=by intro k;refine QC ?_;refine Qx ?_;exact k.1):p:=h ⟨k⟩
theorem Qi (k:q) (h:Wr q→p:=by intro k;refine Qk ?_;refine c_ret ?_;exact k.1):p:=h ⟨k⟩
theorem Qr (k:q) (h:Wr q→p:=by intro k;refine QR ?_;refine c_skip ?_;exact k.1):p:=h ⟨k⟩
theorem QL (k:q) (h:Wr q→p:=by intro k;refine Qc ?_;refine Qo ?_;exact k.1):p:=h ⟨k⟩
theorem Q5 (k:q) (h:Wr q→p:=by intro k;refine QT ?_;refine Qbc ?_;exact k.1):p:=h ⟨k⟩
theorem QM (k:q) (h:Wr q→p:=by intro k;refine Qh ?_;refine Qa ?_;exact k.1):p:=h ⟨k⟩
theorem Qt (k:q) (h:Wr q→p:=by intro k;refine Qg ?_;refine Qa ?_;exact k.1):p:=h ⟨k⟩
theorem Qq (k:q) (h:Wr q→p:=by intro k;refine Qbv ?_;refine QaZ ?_;exact k.1):p:=h ⟨k⟩
theorem Qe (k:q) (h:Wr q→p:=by intro k;refine QbG ?_;refine Qbw ?_;exact k.1):p:=h ⟨k⟩
theorem Qf (k:q) (h:Wr q→p:=by intro k;refine Qb ?_;refine Ql ?_;exact k.1):p:=h ⟨k⟩
theorem Qu (k:q) (h:Wr q→p:=by intro k;refine Qbv ?_;refine Qx ?_;exact k.1):p:=h ⟨k⟩
theorem Qs (k:q) (h:Wr q→p:=by intro k;refine QN ?_;refine Zb _ rfl rfl rfl (op_lm1 (i:=0) rfl rfl rfl rfl rfl ?_);exact k.1):p:=h ⟨k⟩
theorem Qp (k:q) (h:Wr q→p:=by intro k;refine Qk ?_;refine Ql ?_;exact k.1):p:=h ⟨k⟩
theorem QY (k:q) (h:Wr q→p:=by intro k;refine QK ?_;refine Ql ?_;exact k.1):p:=h ⟨k⟩
theorem Qj (k:q) (h:Wr q→p:=by intro k;refine Q8 ?_;refine Qh ?_;exact k.1):p:=h ⟨k⟩
theorem QU (k:q) (h:Wr q→p:=by intro k;refine Qd ?_;refine Qh ?_;exact k.1):p:=h ⟨k⟩
theorem QaN (k:q) (h:Wr q→p:=by intro k;refine Qz ?_;refine c_skip ?_;exact k.1):p:=h ⟨k⟩
theorem QZ (k:q) (h:Wr q→p:=by intro k;refine QR ?_;refine c_exit ?_;refine x_code ?_;refine x_lp ?_;refine x_here ?_;exact k.1):p:=h ⟨k⟩
theorem QF (k:q) (h:Wr q→p:=by intro k;refine Qr ?_;refine QE ?_;exact k.1):p:=h ⟨k⟩
theorem Qas (k:q) (h:Wr q→p:=by intro k;refine Q4 ?_;refine Q4 ?_;exact k.1):p:=h ⟨k⟩
theorem QaH (k:q) (h:Wr q→p:=by intro k;refine QD ?_;refine QD ?_;refine QD ?_;refine QD ?_;exact k.1):p:=h ⟨k⟩
theorem Qw (k:q) (h:Wr q→p:=by intro k;refine QaN ?_;refine QE ?_;refine QY ?_;exact k.1):p:=h ⟨k⟩
theorem Qy (k:q) (h:Wr q→p:=by intro k;refine Qh ?_;refine Qaq ?_;exact k.1):p:=h ⟨k⟩
theorem Q0 (k:q) (h:Wr q→p:=by intro k;refine QW ?_;refine Qd ?_;refine Qg ?_;refine QS ?_;refine Qa ?_;refine Qx ?_;refine QJ ?_;exact k.1):p:=h ⟨k⟩
theorem QB (k:q) (h:Wr q→p:=by intro k;refine Qz ?_;refine Qh ?_;refine Qi ?_;exact k.1):p:=h ⟨k⟩
theorem Qae (k:q) (h:Wr q→p:=by intro k;refine x_here ?_;refine QU ?_;exact k.1):p:=h ⟨k⟩
theorem QG (k:q) (h:Wr q→p:=by intro k;refine Qa ?_;refine Qb ?_;refine QK ?_;exact k.1):p:=h ⟨k⟩
theorem Qaf (k:q) (h:Wr q→p:=by intro k;refine QL ?_;refine Q5 ?_;exact k.1):p:=h ⟨k⟩
theorem QH (k:q) (h:Wr q→p:=by intro k;refine Qt ?_;refine Qn ?_;exact k.1):p:=h ⟨k⟩
theorem QI (k:q) (h:Wr q→p:=by intro k;refine Qd ?_;refine c_ret ?_;exact k.1):p:=h ⟨k⟩
theorem Qam (k:q) (h:Wr q→p:=by intro k;refine Qb6 ?_;refine Qb7 ?_;exact k.1):p:=h ⟨k⟩
theorem QV (k:q) (h:Wr q→p:=by intro k;refine Qh ?_;refine Qn ?_;exact k.1):p:=h ⟨k⟩
theorem Q1 (k:q) (h:Wr q→p:=by intro k;refine Qk ?_;refine QM ?_;exact k.1):p:=h ⟨k⟩
theorem Q2 (k:q) (h:Wr q→p:=by intro k;refine QZ ?_;refine QE ?_;exact k.1):p:=h ⟨k⟩
theorem Q3 (k:q) (h:Wr q→p:=by intro k;refine Qh ?_;refine QA ?_;exact k.1):p:=h ⟨k⟩
theorem Q6 (k:q) (h:Wr q→p:=by intro k;refine Qz ?_;refine QO ?_;exact k.1):p:=h ⟨k⟩
theorem Q7 (k:q) (h:Wr q→p:=by intro k;refine QN ?_;refine Zt rfl rfl (Zi (cs':=[_,_,_,_,_]) (i:=0) rfl ts_4 rfl rfl rfl rfl rfl (Yj rfl) rfl ?_);exact k.1):p:=h ⟨k⟩
theorem Qag (k:q) (h:Wr q→p:=by intro k;refine Qt ?_;refine Qa ?_;exact k.1):p:=h ⟨k⟩
theorem Qah (k:q) (h:Wr q→p:=by intro k;refine QaX ?_;refine Zh _ rfl rfl rfl rfl rfl (op_lm1 (i:=0) rfl rfl rfl rfl rfl ?_);exact k.1):p:=h ⟨k⟩
theorem Qai (k:q) (h:Wr q→p:=by intro k;refine Qa ?_;refine Qbl ?_;refine Qbl ?_;exact k.1):p:=h ⟨k⟩
theorem Qaj (k:q) (h:Wr q→p:=by intro k;refine QT ?_;refine Qq ?_;exact k.1):p:=h ⟨k⟩
theorem Qan (k:q) (h:Wr q→p:=by intro k;refine QT ?_;refine Qu ?_;exact k.1):p:=h ⟨k⟩
theorem Qao (k:q) (h:Wr q→p:=by intro k;refine Qz ?_;refine Ql ?_;exact k.1):p:=h ⟨k⟩
theorem Qap (k:q) (h:Wr q→p:=by intro k;refine Qz ?_;refine c_exit ?_;refine x_code ?_;refine x_code ?_;exact k.1):p:=h ⟨k⟩
theorem Qat (k:q) (h:Wr q→p:=by intro k;refine Qp ?_;refine QM ?_;exact k.1):p:=h ⟨k⟩
theorem Qau (k:q) (h:Wr q→p:=by intro k;refine Qk ?_;refine Qh ?_;exact k.1):p:=h ⟨k⟩
theorem Qav (k:q) (h:Wr q→p:=by intro k;refine Qo ?_;refine Q5 ?_;exact k.1):p:=h ⟨k⟩
theorem Qaw (k:q) (h:Wr q→p:=by intro k;refine QF ?_;refine Ql ?_;exact k.1):p:=h ⟨k⟩
theorem QaC (k:q) (h:Wr q→p:=by intro k;refine QaH ?_;refine QaH ?_;exact k.1):p:=h ⟨k⟩
theorem QaD (k:q) (h:Wr q→p:=by intro k;refine Qas ?_;refine Qas ?_;exact k.1):p:=h ⟨k⟩
theorem QaE (k:q) (h:Wr q→p:=by intro k;refine QL ?_;refine QL ?_;exact k.1):p:=h ⟨k⟩
theorem QaI (k:q) (h:Wr q→p:=by intro k;refine Qo ?_;refine Qbc ?_;exact k.1):p:=h ⟨k⟩
theorem QaJ (k:q) (h:Wr q→p:=by intro k;refine QN ?_;refine Qb8 ?_;exact k.1):p:=h ⟨k⟩
theorem QaK (k:q) (h:Wr q→p:=by intro k;refine Q5 ?_;refine Qq ?_;exact k.1):p:=h ⟨k⟩
theorem QaL (k:q) (h:Wr q→p:=by intro k;refine QaB ?_;refine Qae ?_;refine Qbx ?_;refine Qby ?_;refine Qi ?_;exact k.1):p:=h ⟨k⟩
theorem QaO (k:q) (h:Wr q→p:=by intro k;refine Zz _ rfl rfl (op_fac rfl rfl rfl rfl ⟨rfl,rfl⟩) ?_;refine Qbd ?_;exact k.1):p:=h ⟨k⟩
theorem QaP (k:q) (h:Wr q→p:=by intro k;refine QS ?_;refine QaZ ?_;exact k.1):p:=h ⟨k⟩
theorem QaR (k:q) (h:Wr q→p:=by intro k;refine Qf ?_;refine Ql ?_;exact k.1):p:=h ⟨k⟩
theorem QaS (k:q) (h:Wr q→p:=by intro k;refine QbO ?_;refine Zz _ rfl rfl (op_lm1 (i:=0) rfl rfl rfl rfl rfl ⟨rfl,rfl⟩) ?_;exact k.1):p:=h ⟨k⟩
theorem QaT (k:q) (h:Wr q→p:=by intro k;refine Qd ?_;refine QM ?_;exact k.1):p:=h ⟨k⟩
theorem QaU (k:q) (h:Wr q→p:=by intro k;refine Qaa ?_;refine QE ?_;exact k.1):p:=h ⟨k⟩
theorem QaV (k:q) (h:Wr q→p:=by intro k;refine Qg ?_;refine Qs ?_;exact k.1):p:=h ⟨k⟩
theorem QaW (k:q) (h:Wr q→p:=by intro k;refine Qe ?_;refine Qbz ?_;exact k.1):p:=h ⟨k⟩
theorem Qa0 (k:q) (h:Wr q→p:=by intro k;refine Qam ?_;refine QbH ?_;exact k.1):p:=h ⟨k⟩
theorem Qa1 (k:q) (h:Wr q→p:=by intro k;refine Qaf ?_;refine Qu ?_;exact k.1):p:=h ⟨k⟩
theorem Qa2 (k:q) (h:Wr q→p:=by intro k;refine QL ?_;refine Qbc ?_;exact k.1):p:=h ⟨k⟩
theorem Qa3 (k:q) (h:Wr q→p:=by intro k;refine Qg ?_;refine Qn ?_;exact k.1):p:=h ⟨k⟩
theorem Qa4 (k:q) (h:Wr q→p:=by intro k;refine Qab ?_;refine Qv ?_;exact k.1):p:=h ⟨k⟩
theorem Qa5 (k:q) (h:Wr q→p:=by intro k;refine Qb ?_;refine QM ?_;exact k.1):p:=h ⟨k⟩
theorem Qa6 (k:q) (h:Wr q→p:=by intro k;refine QaF ?_;refine Qs ?_;exact k.1):p:=h ⟨k⟩
theorem Qa7 (k:q) (h:Wr q→p:=by intro k;refine Qx ?_;refine Q0 ?_;exact k.1):p:=h ⟨k⟩
theorem Qa8 (k:q) (h:Wr q→p:=by intro k;refine Q5 ?_;refine Qc ?_;exact k.1):p:=h ⟨k⟩
theorem Qa9 (k:q) (h:Wr q→p:=by intro k;refine QN ?_;refine Qb9 ?_;refine Qb ?_;refine c_exit ?_;exact k.1):p:=h ⟨k⟩
theorem Qba (k:q) (h:Wr q→p:=by intro k;refine QbP ?_;refine Qq ?_;exact k.1):p:=h ⟨k⟩
theorem Qbb (k:q) (h:Wr q→p:=by intro k;refine Qr ?_;refine QJ ?_;exact k.1):p:=h ⟨k⟩
end
def cellF (w:World):EH:=fun b i=>w.cell? ⟨b,i,none⟩
def fsOk (P:Program) (S:List TypeId):Nat→List Field→Nat→Bool
 | k,[],n=>k == n
 | k,f::fs,n=>f.offset == k && S.contains f.type && fsOk P S (k+P.cellsOf f.type) fs n
def closedT (P:Program) (S:List TypeId):Bool:=S.all fun t=>match P.underlying t with
 | some .bool=>true
 | some (.int _)=>true
 | some .string=>true
 | some (.slice e)=>S.contains e && Nat.blt 0 (P.cellsOf e)
 | some (.struct fs)=>fsOk P S 0 fs.toList (P.cellsOf t)
 | _=>false
section
variable {H:Type} {enc:TypeId × Value→H} {P:Program} {w:World} {sp:Nat→Bool} {held:Bool}
theorem cells_get {a:Addr} {m:Nat} {ws:List Value} (h:w.cells? 0 a m=some ws):ws.length=m∧∀ j x,ws[j]?=some x→w.cell? (a.add j)=some x:=by
 unfold World.cells? at h
 rw [if_pos (Nat.zero_le _)] at h
 have hl:ws.length=m:=by simpa using mapM_some_length h
 refine ⟨hl,fun j x hx=>?_⟩
 have hj:j<m:=by
  rw [← hl]
  rcases Nat.lt_or_ge j ws.length with k|k
  ·exact k
  rw [List.getElem?_eq_none k] at hx;simp at hx
 have:=mapM_some_get h j j (by simp [hj])
 rw [this,hx]
theorem Inv.start (w:World):Inv w.heap.size (cellF w) [] w:=⟨Nat.le_refl _,fun _ _ _ h=>h,by simp,List.Pairwise.nil⟩
theorem law_run {f:FuncId} {vs:List AV} {us:List Value} (h:ACall P f vs [] (fun v _=>v=.val (.bool true))) (hr:Rels (cellF w) vs us):Calls P f us.toArray w fun e w'=>e=.returned (.bool true)∧Below w.heap.size w w':=by
 refine (h.run w.heap.size (cellF w) [] w us (by simpa using Inv.start w) hr).mono ?_
 rintro e w' ⟨u,v,M',F',rfl,rfl,h3,_,_,h6⟩
 cases h3
 exact ⟨V,h6⟩
theorem rel_agg {F:EH} {v:Value} {cs:List AV} (hv:∃ a,v=.agg a) (h:Rels F cs v.cells.toList) (h1:Ones v.cells.toList):Rel F (.agg cs) v:=by
 obtain ⟨a,rfl⟩:=hv
 have:=Rel.agg h h1
 simpa [Value.cells] using this
theorem rel_cell {F:EH} {v:Value} {c:AV} (hv:∀ a,v≠.agg a) (h:Rels F [c] v.cells.toList):Rel F c v:=by
 have e:v.cells.toList=[v]:=by cases v <;> first|rfl|exact absurd rfl (hv _)
 rw [e] at h
 cases h with
 | cons h _=>exact h
end
abbrev uptoBulk {H:Type}:DataW H→Nat:=Rows.uptoBulk
abbrev uptoBulkAll {H:Type}:List (DataW H)→Nat:=Rows.uptoBulkAll
mutual
def ShapeL (P:Program) (L:Nat):Nat→TypeId→List AV→Prop
 | 0,_,_=>False
 | n+1,t,cs=>match P.underlying t with
  | some .bool=>∃ b,cs=[.val (.bool b)]
  | some (.int k)=>∃ x,(k.min≤x∧x≤k.max)∧cs=[.val (.int k x)]
  | some .string=>∃ s:ByteArray,s.size≤L∧cs=[.val (.string s)]
  | some (.slice e)=>∃ es,cs=[.seq (P.cellsOf e) es]∧es.length≤L∧∀ x∈es,ShapeL P L n e x
  | some (.struct fs)=>ShapeLF P L n fs.toList cs
  | _=>False
def ShapeLF (P:Program) (L:Nat):Nat→List Field→List AV→Prop
 | _,[],cs=>cs=[]
 | n,f::fs,cs=>∃ a b,cs=a++b∧ShapeL P L n f.type a∧ShapeLF P L n fs b
end
mutual
def AV.bulk:AV→Nat
 | .val (.string s)=>s.size+1
 | .seq _ es=>bulkss es+1
 | _=>1
def bulks:List AV→Nat
 | []=>0
 | a::l=>a.bulk+bulks l
def bulkss:List (List AV)→Nat
 | []=>0
 | e::es=>bulks e+bulkss es
end
theorem bulks_app:∀ a b:List AV,bulks (a++b)=bulks a+bulks b
 | [],b=>by simp [bulks]
 | x::a,b=>by simp only [List.cons_append,bulks,bulks_app a b];omega
theorem bulkss_app:∀ a b:List (List AV),bulkss (a++b)=bulkss a+bulkss b
 | [],b=>by simp [bulkss]
 | x::a,b=>by simp only [List.cons_append,bulkss,bulkss_app a b];omega
theorem uptoBulkAll_app {H:Type}:∀ a b:List (DataW H),uptoBulkAll (a++b)=uptoBulkAll a+uptoBulkAll b
 | [],b=>by simp [uptoBulkAll,Rows.uptoBulkAll]
 | x::a,b=>by have:=uptoBulkAll_app a b;simp only [uptoBulkAll] at this;simp only [List.cons_append,uptoBulkAll,Rows.uptoBulkAll,this];omega
def closedL (P:Program) (S:List TypeId):Bool:=closedT P S && S.all fun t=>match P.underlying t with
 | some (.slice e)=>Nat.blt 0 (P.bytesOf e)
 | _=>true
section
variable {H:Type} {enc:TypeId × Value→H} {P:Program} {w:World} {sp:Nat→Bool} {held:Bool} {L:Nat}
theorem rows_of2 {fuel:Nat} {e:TypeId} {a:Addr} {m:Nat} {F:EH} (ds:List (DataW H)):∀ n:Nat,n≤ds.length→(∀ i d,i<n→ds[i]?=some d→∃ (ws:List Value) (es:List AV),w.cells? 0 (a.add (i * m)) m=some ws∧ShapeL P L fuel e es∧Rels F es ws∧Ones ws∧bulks es≤uptoBulk d) →
    ∃ (ess:List (List AV)) (vs:List Value),ess.length=n∧(∀ x∈ess,ShapeL P L fuel e x∧x.length=m)∧Rels F ess.flatten vs∧Ones vs∧vs.length=n * m∧(∀ j x,vs[j]?=some x→w.cell? (a.add j)=some x)∧bulkss ess≤uptoBulkAll (ds.take n)
 | 0,_,_=>⟨[],[],rfl,by simp,.nil,by intro v hv;simp at hv,by simp,by simp,by simp [bulkss]⟩
 | n+1,hn,h=>by
  obtain ⟨ess,vs,h1,h2,h3,h4,h5,h6,h7⟩:=rows_of2 ds n by10 (fun i d hi hd=>h i d by10 hd)
  have hlt:n<ds.length:=by omega
  obtain ⟨ws,es,k1,k2,k3,k4,k5⟩:=h n ds[n] by10 (List.getElem?_eq_getElem hlt)
  obtain ⟨q1,q2⟩:=cells_get k1
  refine ⟨ess++[es],vs++ws,by simp [h1],fun x hx=>?_,by simpa using h3.app k3,fun v hv=>?_,by simp only [List.length_append,h5,q1,Nat.add_mul];omega,fun j x hx=>?_,?_⟩
  ·rcases List.mem_append.1 hx with r|r
   ·exact h2 x r
   simp at r;subst r;exact ⟨k2,by rw [k3.len,q1]⟩
  ·rcases List.mem_append.1 hv with r|r
   ·exact h4 v r
   exact k4 v r
  ·rcases Nat.lt_or_ge j vs.length with r|r
   ·rw [List.getElem?_append_left r] at hx;exact h6 j x hx
   rw [List.getElem?_append_right r] at hx
   have:=q2 _ x hx
   have e1:(a.add (n * m)).add (j - vs.length)=a.add j:=by
    rw [h5] at r ⊢
    unfold Addr.add
    by_cases z1:n * m=0
    ·rw [if_pos z1]
     simp only [z1,Nat.sub_zero]
    rw [if_neg z1]
    have hj0:j≠0:=by omega
    rw [if_neg hj0]
    by_cases z2:j - n * m=0
    ·rw [if_pos z2]
     simp only [Addr.mk.injEq,true_and,and_true]
     omega
    rw [if_neg z2]
    simp only [Addr.mk.injEq,true_and,and_true]
    omega
   rwa [e1] at this
  rw [bulkss_app,List.take_add_one,List.getElem?_eq_getElem hlt,uptoBulkAll_app]
  simp only [bulkss,Option.toList,uptoBulkAll,Rows.uptoBulkAll]
  simp only [uptoBulk,uptoBulkAll] at *
  omega
theorem weights_all {e:TypeId}:∀ {ds:List (DataW H)} {i:Nat} {d:DataW H},ds[i]?=some d→∀ n∈d.weights P e,n∈DataW.weightsAll P e ds
 | [],i,d,h,_,_=>by simp at h
 | x::ds,0,d,h,n,hn=>by
  simp at h;subst h
  simp only [DataW.weightsAll,List.mem_append];exact .inl hn
 | x::ds,i+1,d,h,n,hn=>by
  simp only [DataW.weightsAll,List.mem_append];exact .inr (weights_all (by simpa using h) n hn)
theorem open_shape2 {S:List TypeId} (hS:closedL P S=true) (hL:L≤maxLen):∀ (fuel:Nat) (t:TypeId) (vs:List Value) (x:DataW H × List MemPlace),t∈S→DataW.trod enc P w 0 sp held fuel t vs=some x→(∀ n∈x.1.weights P t,n≤L) →
    ∃ cs,ShapeL P L fuel t cs∧Rels (cellF w) cs vs∧Ones vs∧bulks cs≤uptoBulk x.1:=by
 have hS1:closedT P S=true:=by unfold closedL at hS;exact (Bool.and_eq_true_iff.1 hS).1
 have hS2:=by unfold closedL at hS;exact (Bool.and_eq_true_iff.1 hS).2
 intro fuel
 induction fuel with
 | zero=>intro t vs x _ h;simp [DataW.trod] at h
 | succ n ih =>
  intro t vs x ht h hw
  have hc:=List.all_eq_true.1 hS1 t ht
  have hc2:=List.all_eq_true.1 hS2 t ht
  have hh:=h
  unfold DataW.trod at h
  unfold ShapeL
  cases hu:P.underlying t with
  | none=>rw [hu] at hc;simp at hc
  | some d =>
   rw [hu] at hc hc2 h
   cases d with
   | bool =>
    simp only at h
    split at h <;> first|(simp at h;done)|skip
    all_goals first|(rename_i b _;simp at h;subst h;exact ⟨[.val (.bool b)],⟨b,rfl⟩,.cons (.val _) .nil,by intro v hv;simp at hv;subst hv;rfl,by simp [bulks,AV.bulk,uptoBulk,Rows.uptoBulk]⟩)|(simp_all;done)
   | int k =>
    simp only at h
    split at h <;> simp_all
    rename_i k' z _
    obtain ⟨⟨rfl,hwf⟩,rfl⟩:=h
    simp only [Lit.wf,Bool.and_eq_true,decide_eq_true_eq] at hwf
    exact ⟨_,⟨z,hwf,rfl⟩,.cons (.val _) .nil,by intro v hv;simp at hv;subst hv;rfl,by simp [bulks,AV.bulk,uptoBulk,Rows.uptoBulk]⟩
   | string =>
    simp only at h
    split at h <;> simp_all
    obtain ⟨_,rfl⟩:=h
    rename_i s _
    have hsz:s.data.toList.length≤L:=hw _ (by simp [DataW.weights])
    exact ⟨_,⟨_,by simpa using hsz,rfl⟩,.cons (.val _) .nil,by intro v hv;simp at hv;subst hv;rfl,by simp [bulks,AV.bulk,uptoBulk,Rows.uptoBulk]⟩
   | slice e =>
    simp only [Bool.and_eq_true,List.contains_iff_mem,Nat.blt_eq] at hc hc2
    obtain ⟨rfl,rfl⟩|⟨a,len,cap,elems,rest,n',hn,rfl,rfl,_,hlc,hcm,hel,hat,_⟩:=DataW.trod_slice hu hh
    ·exact ⟨[.seq (P.cellsOf e) []],⟨[],rfl,by simp,by simp⟩,.cons (.seq0 _ none 0 (fun _=>rfl)) .nil,by intro v hv;simp at hv;subst hv;rfl,by simp [bulks,AV.bulk,bulkss,uptoBulk,Rows.uptoBulk]⟩
    obtain rfl:n=n':=by omega
    have hlenL:len≤L:=by
     have h1:=hw ((elems.length+rest.length) * P.bytesOf e) (by simp [DataW.weights,hu])
     have h2:len * 1≤(elems.length+rest.length) * P.bytesOf e:=Nat.mul_le_mul by10 hc2
     omega
    have hrows:∀ i d,i<len→(elems.map (·.1))[i]?=some d→∃ ws es,w.cells? 0 (a.add (i * P.cellsOf e)) (P.cellsOf e)=some ws∧ShapeL P L n e es∧Rels (cellF w) es ws∧Ones ws∧bulks es≤uptoBulk d:=by
     intro i d hi hd
     have h1:=hat i hi
     rw [List.getElem?_eq_getElem by10] at h1
     obtain ⟨ws,h2,h3⟩:=Option.bind_eq_some_iff.1 h1
     have hdd:(elems[i]'by10).1=d:=by
      rw [List.getElem?_map,List.getElem?_eq_getElem by10] at hd
      simpa using hd
     obtain ⟨es,h4,h5,h6,h7⟩:=ih e ws _ hc.1 h3 (by
      intro k hk
      rw [hdd] at hk
      refine hw k ?_
      simp only [DataW.weights,hu,List.mem_cons,List.mem_append]
      exact .inr (.inl (weights_all hd k hk)))
     exact ⟨ws,es,h2,h4,h5,h6,by rw [hdd] at h7;exact h7⟩
    obtain ⟨ess,vs',r1,r2,r3,r4,r5,r6,r7⟩:=rows_of2 (elems.map (·.1)) len by7 hrows
    have hb:bulks [AV.seq (P.cellsOf e) ess]≤uptoBulk (DataW.slice (elems.map (·.1)) (rest.map (·.1))):=by
     rw [List.take_of_length_le by7] at r7
     simp only [bulks,AV.bulk,uptoBulk,uptoBulkAll,Rows.uptoBulk] at *
     omega
    refine ⟨[.seq (P.cellsOf e) ess],⟨ess,rfl,by omega,fun x hx=>(r2 x hx).1⟩,.cons ?_ .nil,by intro v hv;simp at hv;subst hv;rfl,hb⟩
    by_cases h0:len=0
    ·subst h0
     have:ess=[]:=List.eq_nil_of_length_eq_zero r1
     subst this
     exact .seq0 _ _ _ by11
    have hpos:0<vs'.length:=by rw [r5];exact Nat.mul_pos by10 hc.2
    have hsp:a.spot=none:=by
     have:=r6 0 vs'[0] (List.getElem?_eq_getElem hpos)
     have e0:a.add 0=a:=by simp [Addr.add]
     rw [e0] at this
     unfold World.cell? at this
     cases hs:a.spot with
     | none=>rfl
     | some q=>rw [hs] at this;simp at this;split at this <;> simp at this
    obtain ⟨b,off,spot⟩:=a
    simp only at hsp
    subst hsp
    subst r1
    refine .seq b off cap (fun x hx=>(r2 x hx).2) by10 (fun j x hx=>?_) r3 r4 by10
    have:=r6 j x hx
    rwa [addr_add0] at this
   | struct fs =>
    simp only at hc
    obtain ⟨xs,n',hn,rfl,hlen,hxl,hat⟩:=DataW.trod_struct hu hh
    obtain rfl:n=n':=by omega
    have key:∀ (l:List Field) (ys:List (DataW H × List MemPlace)) (k:Nat),ys.length=l.length→(∀ (i:Nat) (f:Field),l[i]?=some f→DataW.trod enc P w 0 sp held n f.type ((vs.drop f.offset).take (P.cellsOf f.type))=ys[i]?)→fsOk P S k l (P.cellsOf t)=true→(∀ j∈DataW.weightsEach P (l.map (·.type)) (ys.map (·.1)),j≤L) →
        ∃ cs,ShapeLF P L n l cs∧Rels (cellF w) cs (vs.drop k)∧Ones (vs.drop k)∧bulks cs≤uptoBulkAll (ys.map (·.1)):=by
     intro l
     induction l with
     | nil =>
      intro ys k _ _ hk _
      simp only [fsOk,beq_iff_eq] at hk
      refine ⟨[],by simp [ShapeLF],?_,?_,by simp [bulks]⟩
      ·rw [List.drop_eq_nil_of_le by10];exact .nil
      rw [List.drop_eq_nil_of_le by10];intro v hv;simp at hv
     | cons f l ihl =>
      intro ys k hyl hf hk hwt
      cases ys with
      | nil=>simp at hyl
      | cons y ys =>
       simp only [fsOk,Bool.and_eq_true,beq_iff_eq,List.contains_iff_mem] at hk
       obtain ⟨⟨rfl,hS1⟩,hk⟩:=hk
       have hy:=hf 0 f by11
       simp only [List.getElem?_cons_zero] at hy
       simp only [List.map_cons,DataW.weightsEach,List.mem_append] at hwt
       obtain ⟨c1,h1,h2,h3,h7⟩:=ih f.type _ y hS1 hy (fun j hj=>hwt j (.inl hj))
       obtain ⟨c2,h4,h5,h6,h8⟩:=ihl ys (f.offset+P.cellsOf f.type) (by simpa using hyl) (fun i g hg=>by have:=hf (i+1) g (by simpa using hg);simpa using this) hk (fun j hj=>hwt j (.inr hj))
       have e1:vs.drop f.offset=(vs.drop f.offset).take (P.cellsOf f.type)++vs.drop (f.offset+P.cellsOf f.type):=by
        rw [← List.drop_drop,List.take_append_drop]
       refine ⟨c1++c2,by rw [ShapeLF];exact ⟨c1,c2,V,h1,h4⟩,by rw [e1];exact h2.app h5,?_,?_⟩
       ·rw [e1]
        intro v hv
        rcases List.mem_append.1 hv with q|q
        ·exact h3 v q
        exact h6 v q
       rw [bulks_app]
       simp only [List.map_cons,uptoBulkAll,uptoBulk,Rows.uptoBulkAll] at *
       omega
    obtain ⟨cs,k1,k2,k3,k4⟩:=key fs.toList xs 0 (by simpa using hxl) (fun i f hf=>hat i f (by simpa using hf)) hc (by
     intro j hj
     refine hw j ?_
     simp only [DataW.weights,hu]
     exact hj)
    rw [List.drop_zero] at k2 k3
    exact ⟨cs,k1,k2,k3,by simp only [uptoBulk,uptoBulkAll,Rows.uptoBulk] at *;omega⟩
   | _=>simp at hc
theorem open_two {S:List TypeId} (hS:closedL P S=true) {ts:List TypeId} {ds:List (DataW H)} (hsz:(DataW.weightsEach P ts ds).all (·≤reachBytes)=true) (j:Nat) {t:TypeId} {v:Value} {d:DataW H} {ps:List MemPlace} (hj:ts[j]?=some t) (hd:ds[j]?=some d) (ht:t∈S) (h:DataW.Trod enc P w 0 sp held t v d ps) :
    ∃ fuel cs,ShapeL P reachBytes fuel t cs∧Rels (cellF w) cs v.cells.toList∧Ones v.cells.toList∧bulks cs≤uptoBulk d:=by
 obtain ⟨fuel,h⟩:=h
 obtain ⟨cs,h1,h2,h3,h4⟩:=open_shape2 hS (L:=reachBytes) by9 fuel t _ _ ht h (fun n hn=>by
  have:=List.all_eq_true.1 hsz n (DataW.weights_mem_each hj hd n hn)
  simpa using this)
 exact ⟨fuel,cs,h1,h2,h3,h4⟩
end
section
variable {P:Program} {L:Nat}
theorem Zy {fuel:Nat} {t:TypeId} {k:IntKind} {cs:List AV} (ht:P.underlying t=some (.int k)) (h:ShapeL P L fuel t cs):∃ x,(k.min≤x∧x≤k.max)∧cs=[.val (.int k x)]:=by
 cases fuel with
 | zero=>unfold ShapeL at h;exact h.elim
 | succ n=>unfold ShapeL at h;rw [ht] at h;exact h
theorem shapeL_str {fuel:Nat} {t:TypeId} {cs:List AV} (ht:P.underlying t=some .string) (h:ShapeL P L fuel t cs):∃ s:ByteArray,s.size≤L∧cs=[.val (.string s)]:=by
 cases fuel with
 | zero=>unfold ShapeL at h;exact h.elim
 | succ n=>unfold ShapeL at h;rw [ht] at h;exact h
theorem shapeL_slice {fuel:Nat} {t e:TypeId} {cs:List AV} (ht:P.underlying t=some (.slice e)) (h:ShapeL P L fuel t cs):∃ n es,n<fuel∧cs=[.seq (P.cellsOf e) es]∧es.length≤L∧∀ x∈es,ShapeL P L n e x:=by
 cases fuel with
 | zero=>unfold ShapeL at h;exact h.elim
 | succ n =>
  unfold ShapeL at h
  rw [ht] at h
  obtain ⟨es,h1,h3,h2⟩:=h
  exact ⟨n,es,by omega,h1,h3,h2⟩
theorem shapeL_struct {fuel:Nat} {t:TypeId} {fs:Array Field} {cs:List AV} (ht:P.underlying t=some (.struct fs)) (h:ShapeL P L fuel t cs):∃ n,n<fuel∧ShapeLF P L n fs.toList cs:=by
 cases fuel with
 | zero=>unfold ShapeL at h;exact h.elim
 | succ n=>unfold ShapeL at h;rw [ht] at h;exact ⟨n,by omega,h⟩
theorem pick_all2 {α:Type} {f:α→List AV} {p:α→Prop}:∀ {es:List (List AV)},(∀ x∈es,∃ a,x=f a∧p a)→∃ l:List α,es=l.map f∧∀ a∈l,p a
 | [],_=>⟨[],rfl,by simp⟩
 | e::es,h=>by
  obtain ⟨a,ha,hp⟩:=h e by11
  obtain ⟨l,hl,hq⟩:=pick_all2 (fun x hx=>h x (by simp [hx]):∀ x∈es,∃ a,x=f a∧p a)
  exact ⟨a::l,by rw [ha,hl];rfl,by simp;exact ⟨hp,hq⟩⟩
end
instance:DecidableEq ByteArray:=fun a b=>if h:a.toList=b.toList then isTrue (ba_eq h) else isFalse (fun e=>h (by rw [e]))
inductive Ty where
 | mk (k:Int) (s:ByteArray) (n:Int) (ks:List Ty)
def Ty.kind:Ty→Int|.mk k _ _ _=>k
def Ty.name:Ty→ByteArray|.mk _ s _ _=>s
def Ty.num:Ty→Int|.mk _ _ n _=>n
def Ty.kids:Ty→List Ty|.mk _ _ _ ks=>ks
mutual
def Ty.size:Ty→Nat
 | .mk _ _ _ ks=>1+Ty.sizes ks
def Ty.sizes:List Ty→Nat
 | []=>0
 | t::ts=>t.size+Ty.sizes ts
end
theorem Ty.size_pos (t:Ty):1≤t.size:=by cases t;simp [Ty.size]
theorem Ty.size_mem {t:Ty}:∀ {ts:List Ty},t∈ts→t.size≤Ty.sizes ts
 | [],h=>by simp at h
 | u::ts,h=>by
  rw [Ty.sizes]
  rcases List.mem_cons.1 h with rfl|h
  ·omega
  have:=Ty.size_mem h;omega
mutual
def Ty.cells:Ty→List AV
 | .mk k s n ks=>[.val (.int .i64 k),.val (.string s),.val (.int .i64 n),.seq 4 (Ty.cellss ks)]
def Ty.cellss:List Ty→List (List AV)
 | []=>[]
 | t::ts=>t.cells::Ty.cellss ts
end
theorem Ty.cellss_map:∀ ts:List Ty,Ty.cellss ts=ts.map Ty.cells
 | []=>by simp [Ty.cellss]
 | t::ts=>by simp [Ty.cellss,Ty.cellss_map ts]
theorem Ty.cellss_len (ts:List Ty):(Ty.cellss ts).length=ts.length:=by rw [Ty.cellss_map];simp
theorem Ty.cellss_get {ts:List Ty} {i:Nat} {t:Ty} (h:ts[i]?=some t):(Ty.cellss ts)[i]?=some t.cells:=by rw [Ty.cellss_map];simp [h]
theorem Ty.cellss_app (a b:List Ty):Ty.cellss (a++b)=Ty.cellss a++Ty.cellss b:=by simp [Ty.cellss_map]
theorem Ty.size_at {ts:List Ty} {i:Nat} {t:Ty} (h:ts[i]?=some t):t.size≤Ty.sizes ts:=Ty.size_mem (Yn h)
theorem Zm {α:Type} {l:List α} {i:Nat} (h:i<l.length):∃ x,l[i]?=some x:=⟨l[i],List.getElem?_eq_getElem h⟩
theorem drop_at {α:Type} {l:List α} {i:Nat} {x:α} (h:l[i]?=some x):l.drop i=x::l.drop (i+1):=by
 have hi:i<l.length:=by
  rcases Nat.lt_or_ge i l.length with k|k
  ·exact k
  rw [List.getElem?_eq_none k] at h;simp at h
 rw [List.drop_eq_getElem_cons hi]
 rw [List.getElem?_eq_getElem hi] at h
 simp at h
 rw [h]
mutual
def Ty.cnt:Ty→Int→Int
 | .mk k _ n ks,most=>if k=1∧(ks≠[]∨n≠0) then most else Ty.cnts ks 1 most
def Ty.cnts:List Ty→Int→Int→Int
 | [],n,_=>n
 | t::ts,n,most=>if n<most then Ty.cnts ts (n+t.cnt (most - n)) most else n
end
def Ty.small (t:Ty) (most:Int):Bool:=decide (t.cnt (most+1)≤most)
def strs (xs:List ByteArray):List (List AV):=xs.map fun s=>[.val (.string s)]
def nums (xs:List Int):List (List AV):=xs.map fun s=>[.val (.int .i64 s)]
theorem strs_len (xs:List ByteArray):(strs xs).length=xs.length:=by simp [strs]
theorem nums_len (xs:List Int):(nums xs).length=xs.length:=by simp [nums]
theorem strs_get {xs:List ByteArray} {i:Nat} {s:ByteArray} (h:xs[i]?=some s):(strs xs)[i]?=some [.val (.string s)]:=by simp [strs,h]
theorem nums_get {xs:List Int} {i:Nat} {s:Int} (h:xs[i]?=some s):(nums xs)[i]?=some [.val (.int .i64 s)]:=by simp [nums,h]
def Upto {α:Type} (xs ys:List α) (i:Nat):Prop:=∀ j,j<i→xs[j]?=ys[j]?
theorem Upto.zero {α:Type} (xs ys:List α):Upto xs ys 0:=fun j hj=>by omega
theorem Upto.succ {α:Type} {xs ys:List α} {i:Nat} {x y:α} (h:Upto xs ys i) (hx:xs[i]?=some x) (hy:ys[i]?=some y) (e:x=y):Upto xs ys (i+1):=fun j hj=>by
 by_cases q:j=i
 ·subst q;rw [hx,hy,e]
 exact h j by10
theorem Upto.eq {α:Type} {xs ys:List α} {i:Nat} (h:Upto xs ys i) (hl:xs.length=ys.length) (hi:xs.length≤i):xs=ys:=by
 apply List.ext_getElem?
 intro j
 rcases Nat.lt_or_ge j xs.length with k|k
 ·exact h j by10
 rw [List.getElem?_eq_none k,List.getElem?_eq_none by10]
end Go.Proofs.Ytadhakcmfkghbaa
namespace Go.Proofs.Ytadhakcmfkghbaa
abbrev arrow:ByteArray:=⟨#[45,62]⟩
def Ty.isFun (t:Ty):Prop:=t.kind=3∧t.name=arrow∧t.kids.length=2
def Ty.args:Ty→List Ty
 | .mk k s _ [a,b]=>if k=3∧s=arrow then a::b.args else []
 | _=>[]
termination_by t=>t.size
decreasing_by simp [Ty.size,Ty.sizes];omega
def Ty.ans:Ty→Ty
 | .mk k s n [a,b]=>if k=3∧s=arrow then b.ans else .mk k s n [a,b]
 | t=>t
termination_by t=>t.size
decreasing_by simp [Ty.size,Ty.sizes];omega
theorem Ty.fun_kids {t:Ty} (h:t.isFun):∃ n a b,t=.mk 3 arrow n [a,b]:=by
 obtain ⟨k,s,n,ks⟩:=t
 obtain ⟨h1,h2,h3⟩:=h
 simp only [Ty.kind,Ty.name,Ty.kids] at h1 h2 h3
 subst h1 h2
 match ks,h3 with
 | [a,b],_=>exact ⟨n,a,b,rfl⟩
theorem Ty.args_fun (n:Int) (a b:Ty):Ty.args (.mk 3 arrow n [a,b])=a::b.args:=by rw [Ty.args];simp
theorem Ty.ans_fun (n:Int) (a b:Ty):Ty.ans (.mk 3 arrow n [a,b])=b.ans:=by rw [Ty.ans];simp
theorem Ty.args_not {t:Ty} (h:¬ t.isFun):t.args=[]:=by
 rw [Ty.args.eq_def]
 split
 ·rw [if_neg]
  rintro ⟨rfl,rfl⟩
  exact h ⟨V,V,V⟩
 rfl
theorem Ty.ans_not {t:Ty} (h:¬ t.isFun):t.ans=t:=by
 rw [Ty.ans.eq_def]
 split
 ·rw [if_neg]
  rintro ⟨rfl,rfl⟩
  exact h ⟨V,V,V⟩
 rfl
theorem Ty.args_size:∀ (t:Ty),t.args.length≤t.size:=by
 intro t
 generalize hd:t.size=d
 induction d using Nat.strongRecOn generalizing t with
 | _ d ih =>
  by_cases h:t.isFun
  ·obtain ⟨n,a,b,rfl⟩:=Ty.fun_kids h
   rw [Ty.args_fun]
   have hb:b.size<d:=by rw [← hd];simp [Ty.size,Ty.sizes];omega
   have:=ih b.size hb b rfl
   simp
   omega
  rw [Ty.args_not h];simp
mutual
def Ty.all:Ty→List Ty
 | .mk k s n ks=>.mk k s n ks::Ty.alls ks
def Ty.alls:List Ty→List Ty
 | []=>[]
 | t::ts=>t.all++Ty.alls ts
end
theorem Ty.alls_app:∀ a b:List Ty,Ty.alls (a++b)=Ty.alls a++Ty.alls b
 | [],b=>by simp [Ty.alls]
 | t::ts,b=>by simp [Ty.alls,Ty.alls_app ts b]
mutual
theorem Ty.all_len:∀ t:Ty,t.all.length=t.size
 | .mk k s n ks=>by rw [Ty.all,Ty.size,List.length_cons,Ty.alls_len ks];omega
theorem Ty.alls_len:∀ ts:List Ty,(Ty.alls ts).length=Ty.sizes ts
 | []=>by simp [Ty.alls,Ty.sizes]
 | t::ts=>by rw [Ty.alls,Ty.sizes,List.length_append,Ty.all_len t,Ty.alls_len ts]
end
theorem Ty.alls_take (ks:List Ty) {i:Nat} {x:Ty} (h:ks[i]?=some x):Ty.alls (ks.take (i+1))=Ty.alls (ks.take i)++x.all:=by
 have hi:i<ks.length:=by
  rcases Nat.lt_or_ge i ks.length with k|k
  ·exact k
  rw [List.getElem?_eq_none k] at h;simp at h
 rw [List.getElem?_eq_getElem hi] at h
 simp at h
 rw [List.take_succ_eq_append_getElem hi,Ty.alls_app,h]
 simp [Ty.alls]
theorem Ty.sizes_app:∀ a b:List Ty,Ty.sizes (a++b)=Ty.sizes a+Ty.sizes b
 | [],b=>by simp [Ty.sizes]
 | t::ts,b=>by simp [Ty.sizes,Ty.sizes_app ts b];omega
theorem Ty.sizes_take (ks:List Ty) (i:Nat):Ty.sizes (ks.take i)≤Ty.sizes ks:=by
 have:=Ty.sizes_app (ks.take i) (ks.drop i)
 rw [List.take_append_drop] at this
 omega
theorem take_snoc {α:Type} {l:List α} {i:Nat} {x:α} (h:l[i]?=some x):l.take (i+1)=l.take i++[x]:=by
 have hi:i<l.length:=by
  rcases Nat.lt_or_ge i l.length with k|k
  ·exact k
  rw [List.getElem?_eq_none k] at h;simp at h
 rw [List.getElem?_eq_getElem hi] at h
 simp at h
 rw [List.take_succ_eq_append_getElem hi,h]
noncomputable instance (a:ByteArray) (l:List ByteArray):Decidable (a∈l):=Classical.propDecidable _
noncomputable def addVar (acc:List ByteArray) (t:Ty):List ByteArray:=if t.kind=1∧t.name∉acc then acc++[t.name] else acc
def addMeta (acc:List Int) (t:Ty):List Int:=if t.kind=2∧t.num∉acc then acc++[t.num] else acc
noncomputable def Ty.vars (t:Ty):List ByteArray:=t.all.foldl addVar []
def Ty.metas (t:Ty):List Int:=t.all.foldl addMeta []
theorem addVar_yes {acc:List ByteArray} {k:Int} {s:ByteArray} {n:Int} {ks:List Ty} (h:k=1∧s∉acc):addVar acc (.mk k s n ks)=acc++[s]:=if_pos h
theorem addVar_no {acc:List ByteArray} {k:Int} {s:ByteArray} {n:Int} {ks:List Ty} (h:¬ (k=1∧s∉acc)):addVar acc (.mk k s n ks)=acc:=if_neg h
theorem strs_snoc (acc:List ByteArray) (s:ByteArray):strs acc++[[.val (.string s)]]=strs (acc++[s]):=by simp [strs]
theorem addVar_len (acc:List ByteArray) (t:Ty):(addVar acc t).length≤acc.length+1:=by unfold addVar;split <;> simp
mutual
def Ty.turn (o:Ty→Option Ty):Ty→Ty
 | .mk k s n ks=>match o (.mk k s n ks) with
  | some y=>y
  | none=>.mk k s n (Ty.turns o ks)
def Ty.turns (o:Ty→Option Ty):List Ty→List Ty
 | []=>[]
 | t::ts=>t.turn o::Ty.turns o ts
end
def firstAt {α:Type} [DecidableEq α] (x:α):List α→Nat→Int
 | [],_ => -1
 | y::ys,i=>if x=y then i else firstAt x ys (i+1)
theorem firstAt_drop {α:Type} [DecidableEq α] (x:α):∀ (xs:List α) (i:Nat),x∉xs.take i→firstAt x (xs.drop i) i=firstAt x xs 0:=by
 have key:∀ (xs:List α) (i k:Nat),x∉xs.take i→firstAt x xs k=firstAt x (xs.drop i) (k+i):=by
  intro xs
  induction xs with
  | nil=>intro i k _;simp [firstAt]
  | cons y ys ih =>
   intro i k h
   cases i with
   | zero=>simp
   | succ i =>
    simp only [List.take_succ_cons,List.mem_cons,not_or] at h
    rw [firstAt,if_neg h.1,List.drop_succ_cons,ih i (k+1) h.2]
    congr 1;omega
 intro xs i h
 have:=key xs i 0 h
 rw [this];congr 1;omega
theorem firstAt_nonneg {α:Type} [DecidableEq α] (x:α):∀ (xs:List α) (k:Nat),0≤firstAt x xs k↔x∈xs
 | [],k=>by simp [firstAt]
 | y::ys,k=>by
  rw [firstAt]
  by_cases e:x=y
  ·simp [e]
  rw [if_neg e,firstAt_nonneg x ys (k+1)];simp [e]
theorem not_mem_take {α:Type} {xs:List α} {i:Nat} {x y:α} (h:x∉xs.take i) (hx:xs[i]?=some y) (e:¬ y=x):x∉xs.take (i+1):=by
 rw [take_snoc hx,List.mem_append]
 rintro (q|q)
 ·exact h q
 simp at q;exact e q.symm
open Go.RowKit
inductive Pa where
 | mk (k:Int) (s:ByteArray) (n:Int) (ks:List Pa) (p:Int)
mutual
inductive Ex where
 | mk (k:Int) (s:ByteArray) (n:Int) (t:Ty) (ks:List Ex) (al:List Al) (bs:List Bi) (p:Int)
inductive Al where
 | mk (q:Pa) (e:Ex)
inductive Bi where
 | mk (s:ByteArray) (e:Ex) (p:Int)
end
mutual
def Pa.cells:Pa→List AV
 | .mk k s n ks p=>[.val (.int .i64 k),.val (.string s),.val (.int .i64 n),.seq 5 (Pa.cellss ks),.val (.int .i64 p)]
def Pa.cellss:List Pa→List (List AV)
 | []=>[]
 | t::ts=>t.cells::Pa.cellss ts
end
mutual
def Ex.cells:Ex→List AV
 | .mk k s n t ks al bs p=>.val (.int .i64 k)::.val (.string s)::.val (.int .i64 n)::(t.cells++[.seq 11 (Ex.cellss ks),.seq 16 (Al.cellss al),.seq 13 (Bi.cellss bs),.val (.int .i64 p)])
def Ex.cellss:List Ex→List (List AV)
 | []=>[]
 | t::ts=>t.cells::Ex.cellss ts
def Al.cells:Al→List AV
 | .mk q e=>q.cells++e.cells
def Al.cellss:List Al→List (List AV)
 | []=>[]
 | t::ts=>t.cells::Al.cellss ts
def Bi.cells:Bi→List AV
 | .mk s e p=>.val (.string s)::(e.cells++[.val (.int .i64 p)])
def Bi.cellss:List Bi→List (List AV)
 | []=>[]
 | t::ts=>t.cells::Bi.cellss ts
end
theorem Pa.cellss_map:∀ ts:List Pa,Pa.cellss ts=ts.map Pa.cells
 | []=>by simp [Pa.cellss]
 | t::ts=>by simp [Pa.cellss,Pa.cellss_map ts]
theorem Ex.cellss_map:∀ ts:List Ex,Ex.cellss ts=ts.map Ex.cells
 | []=>by simp [Ex.cellss]
 | t::ts=>by simp [Ex.cellss,Ex.cellss_map ts]
theorem Al.cellss_map:∀ ts:List Al,Al.cellss ts=ts.map Al.cells
 | []=>by simp [Al.cellss]
 | t::ts=>by simp [Al.cellss,Al.cellss_map ts]
theorem Bi.cellss_map:∀ ts:List Bi,Bi.cellss ts=ts.map Bi.cells
 | []=>by simp [Bi.cellss]
 | t::ts=>by simp [Bi.cellss,Bi.cellss_map ts]
theorem Pa.cellss_len (ts:List Pa):(Pa.cellss ts).length=ts.length:=by rw [Pa.cellss_map];simp
theorem Ex.cellss_len (ts:List Ex):(Ex.cellss ts).length=ts.length:=by rw [Ex.cellss_map];simp
theorem Al.cellss_len (ts:List Al):(Al.cellss ts).length=ts.length:=by rw [Al.cellss_map];simp
theorem Bi.cellss_len (ts:List Bi):(Bi.cellss ts).length=ts.length:=by rw [Bi.cellss_map];simp
theorem Pa.cellss_get {ts:List Pa} {i:Nat} {t:Pa} (h:ts[i]?=some t):(Pa.cellss ts)[i]?=some t.cells:=by rw [Pa.cellss_map];simp [h]
theorem Ex.cellss_get {ts:List Ex} {i:Nat} {t:Ex} (h:ts[i]?=some t):(Ex.cellss ts)[i]?=some t.cells:=by rw [Ex.cellss_map];simp [h]
theorem Al.cellss_get {ts:List Al} {i:Nat} {t:Al} (h:ts[i]?=some t):(Al.cellss ts)[i]?=some t.cells:=by rw [Al.cellss_map];simp [h]
theorem Bi.cellss_get {ts:List Bi} {i:Nat} {t:Bi} (h:ts[i]?=some t):(Bi.cellss ts)[i]?=some t.cells:=by rw [Bi.cellss_map];simp [h]
def Al.e:Al→Ex|.mk _ e=>e
def Al.q:Al→Pa|.mk q _=>q
def Bi.e:Bi→Ex|.mk _ e _=>e
def Bi.s:Bi→ByteArray|.mk s _ _=>s
section
variable {x:Ex} {a:Al} {b:Bi} {k n p:Int} {s:ByteArray} {t:Ty} {ks:List Ex} {al:List Al} {bs:List Bi}
end
def Ex.parts:Ex→List Ex
 | .mk k _ _ _ ks al bs _=>(if k=7 then [] else ks)++bs.map Bi.e++(if k=7 then ks else [])++al.map Al.e
theorem sum_take {l:List Nat} {i x:Nat} (h:l[i]?=some x):(l.take (i+1)).sum=(l.take i).sum+x:=by
 rw [List.take_add_one,h];simp
theorem sum_take_le (l:List Nat) (i:Nat):(l.take i).sum≤l.sum:=by
 have:=congrArg List.sum (List.take_append_drop i l)
 rw [List.sum_append] at this;omega
abbrev Txt:=ByteArray
mutual
def Pa.names:Pa→List Txt
 | .mk k s _ ks _=>(if k=2 then [s] else [])++Pa.namess ks
def Pa.namess:List Pa→List Txt
 | []=>[]
 | t::ts=>t.names++Pa.namess ts
end
mutual
def Pa.size:Pa→Nat
 | .mk _ _ _ ks _=>1+Pa.sizes ks
def Pa.sizes:List Pa→Nat
 | []=>0
 | t::ts=>t.size+Pa.sizes ts
end
theorem Pa.sizes_map:∀ ts:List Pa,Pa.sizes ts=(ts.map Pa.size).sum
 | []=>by simp [Pa.sizes]
 | t::ts=>by simp [Pa.sizes,Pa.sizes_map ts]
theorem Pa.sizes_take {ts:List Pa} {i:Nat} {x:Pa} (h:ts[i]?=some x):Pa.sizes (ts.take i)+x.size≤Pa.sizes ts:=by
 have h1:(ts.map Pa.size)[i]?=some x.size:=by simp [h]
 have h2:=sum_take h1
 have h3:=sum_take_le (ts.map Pa.size) (i+1)
 rw [Pa.sizes_map,Pa.sizes_map,List.map_take];omega
mutual
def Ex.w:Ex→Nat
 | .mk _ _ _ _ ks al bs _=>1+Ex.ws ks+Al.ws al+Bi.ws bs
def Ex.ws:List Ex→Nat
 | []=>0
 | t::ts=>t.w+Ex.ws ts
def Al.w:Al→Nat
 | .mk q e=>q.size+e.w
def Al.ws:List Al→Nat
 | []=>0
 | t::ts=>t.w+Al.ws ts
def Bi.w:Bi→Nat
 | .mk _ e _=>1+e.w
def Bi.ws:List Bi→Nat
 | []=>0
 | t::ts=>t.w+Bi.ws ts
end
abbrev Bi.names (bs:List Bi):List Txt:=bs.map Bi.s
mutual
noncomputable def Ex.fr:Ex→List Txt→List Txt→List Txt
 | .mk k s n _ ks al bs _,bd,out =>
  Al.frs al bd (if k=7 then (if n=1 then Ex.frs ks (bd++Bi.names bs) (Bi.frs bs (bd++Bi.names bs) (if k=3∧s∉bd∧s∉out then out++[s] else out)) else Ex.frs ks (bd++Bi.names bs) (Bi.frs bs bd (if k=3∧s∉bd∧s∉out then out++[s] else out)))
   else if k=6 then Bi.frs bs bd (Ex.frs ks (bd++[s]) (if k=3∧s∉bd∧s∉out then out++[s] else out))
   else Bi.frs bs bd (Ex.frs ks bd (if k=3∧s∉bd∧s∉out then out++[s] else out)))
noncomputable def Ex.frs:List Ex→List Txt→List Txt→List Txt
 | [],_,out=>out
 | t::ts,bd,out=>Ex.frs ts bd (t.fr bd out)
noncomputable def Al.fr:Al→List Txt→List Txt→List Txt
 | .mk q e,bd,out=>e.fr (bd++q.names) out
noncomputable def Al.frs:List Al→List Txt→List Txt→List Txt
 | [],_,out=>out
 | t::ts,bd,out=>Al.frs ts bd (t.fr bd out)
noncomputable def Bi.fr:Bi→List Txt→List Txt→List Txt
 | .mk _ e _,bd,out=>e.fr bd out
noncomputable def Bi.frs:List Bi→List Txt→List Txt→List Txt
 | [],_,out=>out
 | t::ts,bd,out=>Bi.frs ts bd (t.fr bd out)
end
def Ty.kn:Ty→Nat|.mk _ _ _ ks=>ks.length
def Pa.kn:Pa→Nat|.mk _ _ _ ks _=>ks.length
mutual
def Ex.Lim:Ex→Prop
 | .mk _ _ _ t ks al bs _=>t.kn≤140737488355328∧Ex.Lims ks∧Bi.Lims bs∧Al.Lims al
def Ex.Lims:List Ex→Prop
 | []=>True
 | x::xs=>x.Lim∧Ex.Lims xs
def Bi.Lim:Bi→Prop
 | .mk _ e _=>e.Lim
def Bi.Lims:List Bi→Prop
 | []=>True
 | x::xs=>x.Lim∧Bi.Lims xs
def Al.Lim:Al→Prop
 | .mk q e=>e.Lim∧q.kn≤140737488355328
def Al.Lims:List Al→Prop
 | []=>True
 | x::xs=>x.Lim∧Al.Lims xs
end
mutual
def Ex.cnt:Ex→Int→Int
 | .mk _ _ _ t ks al bs _,m=>Al.cnts al m (Bi.cnts bs m (Ex.cnts ks m (1+t.kn)))
def Ex.cnts:List Ex→Int→Int→Int
 | [],_,n=>n
 | x::xs,m,n=>if n<m then Ex.cnts xs m (n+x.cnt (m - n)) else n
def Bi.cnt:Bi→Int→Int
 | .mk _ e _,m=>1+e.cnt m
def Bi.cnts:List Bi→Int→Int→Int
 | [],_,n=>n
 | x::xs,m,n=>if n<m then Bi.cnts xs m (n+x.cnt (m - n)) else n
def Al.cnt:Al→Int→Int
 | .mk q e,m=>1+e.cnt m+q.kn
def Al.cnts:List Al→Int→Int→Int
 | [],_,n=>n
 | x::xs,m,n=>if n<m then Al.cnts xs m (n+x.cnt (m - n)) else n
end
theorem drop_get {α:Type} {l:List α} {i:Nat} {x:α} (h:l[i]?=some x):l.drop i=x::l.drop (i+1):=by
 obtain ⟨hi,rfl⟩:=List.getElem?_eq_some_iff.1 h
 exact List.drop_eq_getElem_cons hi
theorem Ex.cellss_app (a b:List Ex):Ex.cellss (a++b)=Ex.cellss a++Ex.cellss b:=by simp [Ex.cellss_map]
def I64 (x:Int):Prop := -9223372036854775808≤x∧x≤9223372036854775807
theorem I64.of {x:Int} (h:IntKind.i64.min≤x∧x≤IntKind.i64.max):I64 x:=by
 have h1:IntKind.i64.min = -9223372036854775808:=by decide
 have h2:IntKind.i64.max=9223372036854775807:=by decide
 rw [h1,h2] at h;exact h
def Ty.Lim (t:Ty):Prop:=t.kn≤140737488355328
inductive Pr where
 | mk (c:ByteArray) (t:Ty)
def Pr.cells:Pr→List AV
 | .mk c t=>.val (.string c)::t.cells
def Pr.c:Pr→ByteArray|.mk c _=>c
def Pr.t:Pr→Ty|.mk _ t=>t
def Pr.cellss (l:List Pr):List (List AV):=l.map Pr.cells
theorem Pr.cellss_map (l:List Pr):Pr.cellss l=l.map Pr.cells:=rfl
theorem Pr.cellss_len (l:List Pr):(Pr.cellss l).length=l.length:=by simp [Pr.cellss]
theorem Pr.cellss_get {l:List Pr} {i:Nat} {x:Pr} (h:l[i]?=some x):(Pr.cellss l)[i]?=some x.cells:=by simp [Pr.cellss,h]
theorem Pr.cells_len (x:Pr):x.cells.length=5:=by
 obtain ⟨xc,⟨xtk,xts,xtn,xtl⟩⟩:=x
 rfl
def Pr.cellsss (l:List (List Pr)):List (List AV):=l.map fun x=>[.seq 5 (Pr.cellss x)]
theorem Pr.cellsss_len (l:List (List Pr)):(Pr.cellsss l).length=l.length:=by simp [Pr.cellsss]
theorem Pr.cellsss_get {l:List (List Pr)} {i:Nat} {x:List Pr} (h:l[i]?=some x):(Pr.cellsss l)[i]?=some [.seq 5 (Pr.cellss x)]:=by simp [Pr.cellsss,h]
def Pr.Lim:Pr→Prop
 | .mk _ t=>(t.Lim)
inductive Cn where
 | mk (s:ByteArray) (ts:List Ty) (p:Int)
def Cn.cells:Cn→List AV
 | .mk s ts p=>.val (.string s)::.seq 4 (Ty.cellss ts)::[.val (.int .i64 p)]
def Cn.s:Cn→ByteArray|.mk s _ _=>s
def Cn.ts:Cn→List Ty|.mk _ ts _=>ts
def Cn.p:Cn→Int|.mk _ _ p=>p
def Cn.cellss (l:List Cn):List (List AV):=l.map Cn.cells
theorem Cn.cellss_map (l:List Cn):Cn.cellss l=l.map Cn.cells:=rfl
theorem Cn.cellss_len (l:List Cn):(Cn.cellss l).length=l.length:=by simp [Cn.cellss]
theorem Cn.cellss_get {l:List Cn} {i:Nat} {x:Cn} (h:l[i]?=some x):(Cn.cellss l)[i]?=some x.cells:=by simp [Cn.cellss,h]
theorem Cn.cells_len (x:Cn):x.cells.length=3:=by
 obtain ⟨xs,xts,xp⟩:=x
 rfl
def Cn.cellsss (l:List (List Cn)):List (List AV):=l.map fun x=>[.seq 3 (Cn.cellss x)]
theorem Cn.cellsss_len (l:List (List Cn)):(Cn.cellsss l).length=l.length:=by simp [Cn.cellsss]
theorem Cn.cellsss_get {l:List (List Cn)} {i:Nat} {x:List Cn} (h:l[i]?=some x):(Cn.cellsss l)[i]?=some [.seq 3 (Cn.cellss x)]:=by simp [Cn.cellsss,h]
def Cn.Lim:Cn→Prop
 | .mk _ ts _=>(ts.length≤140737488355328∧∀ x∈ts,x.Lim)
inductive Da where
 | mk (s:ByteArray) (ps:List ByteArray) (cs:List Cn) (dv:List ByteArray) (p:Int)
def Da.cells:Da→List AV
 | .mk s ps cs dv p=>.val (.string s)::.seq 1 (strs ps)::.seq 3 (Cn.cellss cs)::.seq 1 (strs dv)::[.val (.int .i64 p)]
def Da.s:Da→ByteArray|.mk s _ _ _ _=>s
def Da.ps:Da→List ByteArray|.mk _ ps _ _ _=>ps
def Da.cs:Da→List Cn|.mk _ _ cs _ _=>cs
def Da.dv:Da→List ByteArray|.mk _ _ _ dv _=>dv
def Da.p:Da→Int|.mk _ _ _ _ p=>p
def Da.cellss (l:List Da):List (List AV):=l.map Da.cells
theorem Da.cellss_map (l:List Da):Da.cellss l=l.map Da.cells:=rfl
theorem Da.cellss_len (l:List Da):(Da.cellss l).length=l.length:=by simp [Da.cellss]
theorem Da.cellss_get {l:List Da} {i:Nat} {x:Da} (h:l[i]?=some x):(Da.cellss l)[i]?=some x.cells:=by simp [Da.cellss,h]
theorem Da.cells_len (x:Da):x.cells.length=5:=by
 obtain ⟨xs,xps,xcs,xdv,xp⟩:=x
 rfl
def Da.cellsss (l:List (List Da)):List (List AV):=l.map fun x=>[.seq 5 (Da.cellss x)]
theorem Da.cellsss_len (l:List (List Da)):(Da.cellsss l).length=l.length:=by simp [Da.cellsss]
theorem Da.cellsss_get {l:List (List Da)} {i:Nat} {x:List Da} (h:l[i]?=some x):(Da.cellsss l)[i]?=some [.seq 5 (Da.cellss x)]:=by simp [Da.cellsss,h]
def Da.Lim:Da→Prop
 | .mk _ ps cs dv _=>(ps.length≤140737488355328)∧(cs.length≤140737488355328∧∀ x∈cs,x.Lim)∧(dv.length≤140737488355328)
inductive Me where
 | mk (s:ByteArray) (t:Ty) (p:Int)
def Me.cells:Me→List AV
 | .mk s t p=>.val (.string s)::t.cells++([.val (.int .i64 p)])
def Me.s:Me→ByteArray|.mk s _ _=>s
def Me.t:Me→Ty|.mk _ t _=>t
def Me.p:Me→Int|.mk _ _ p=>p
def Me.cellss (l:List Me):List (List AV):=l.map Me.cells
theorem Me.cellss_map (l:List Me):Me.cellss l=l.map Me.cells:=rfl
theorem Me.cellss_len (l:List Me):(Me.cellss l).length=l.length:=by simp [Me.cellss]
theorem Me.cellss_get {l:List Me} {i:Nat} {x:Me} (h:l[i]?=some x):(Me.cellss l)[i]?=some x.cells:=by simp [Me.cellss,h]
theorem Me.cells_len (x:Me):x.cells.length=6:=by
 obtain ⟨xs,⟨xtk,xts,xtn,xtl⟩,xp⟩:=x
 rfl
def Me.cellsss (l:List (List Me)):List (List AV):=l.map fun x=>[.seq 6 (Me.cellss x)]
theorem Me.cellsss_len (l:List (List Me)):(Me.cellsss l).length=l.length:=by simp [Me.cellsss]
theorem Me.cellsss_get {l:List (List Me)} {i:Nat} {x:List Me} (h:l[i]?=some x):(Me.cellsss l)[i]?=some [.seq 6 (Me.cellss x)]:=by simp [Me.cellsss,h]
def Me.Lim:Me→Prop
 | .mk _ t _=>(t.Lim)
inductive Cl where
 | mk (s:ByteArray) (v:ByteArray) (su:List ByteArray) (ms:List Me) (ds:List Bi) (p:Int)
def Cl.cells:Cl→List AV
 | .mk s v su ms ds p=>.val (.string s)::.val (.string v)::.seq 1 (strs su)::.seq 6 (Me.cellss ms)::.seq 13 (Bi.cellss ds)::[.val (.int .i64 p)]
def Cl.s:Cl→ByteArray|.mk s _ _ _ _ _=>s
def Cl.v:Cl→ByteArray|.mk _ v _ _ _ _=>v
def Cl.su:Cl→List ByteArray|.mk _ _ su _ _ _=>su
def Cl.ms:Cl→List Me|.mk _ _ _ ms _ _=>ms
def Cl.ds:Cl→List Bi|.mk _ _ _ _ ds _=>ds
def Cl.p:Cl→Int|.mk _ _ _ _ _ p=>p
def Cl.cellss (l:List Cl):List (List AV):=l.map Cl.cells
theorem Cl.cellss_map (l:List Cl):Cl.cellss l=l.map Cl.cells:=rfl
theorem Cl.cellss_len (l:List Cl):(Cl.cellss l).length=l.length:=by simp [Cl.cellss]
theorem Cl.cellss_get {l:List Cl} {i:Nat} {x:Cl} (h:l[i]?=some x):(Cl.cellss l)[i]?=some x.cells:=by simp [Cl.cellss,h]
theorem Cl.cells_len (x:Cl):x.cells.length=6:=by
 obtain ⟨xs,xv,xsu,xms,xds,xp⟩:=x
 rfl
def Cl.cellsss (l:List (List Cl)):List (List AV):=l.map fun x=>[.seq 6 (Cl.cellss x)]
theorem Cl.cellsss_len (l:List (List Cl)):(Cl.cellsss l).length=l.length:=by simp [Cl.cellsss]
theorem Cl.cellsss_get {l:List (List Cl)} {i:Nat} {x:List Cl} (h:l[i]?=some x):(Cl.cellsss l)[i]?=some [.seq 6 (Cl.cellss x)]:=by simp [Cl.cellsss,h]
def Cl.Lim:Cl→Prop
 | .mk _ _ su ms ds _=>(su.length≤140737488355328)∧(ms.length≤140737488355328∧∀ x∈ms,x.Lim)∧(ds.length≤140737488355328∧∀ x∈ds,x.Lim)
inductive In where
 | mk (c:ByteArray) (hd:Ty) (cx:List Pr) (bs:List Bi) (p:Int)
def In.cells:In→List AV
 | .mk c hd cx bs p=>.val (.string c)::hd.cells++(.seq 5 (Pr.cellss cx)::.seq 13 (Bi.cellss bs)::[.val (.int .i64 p)])
def In.c:In→ByteArray|.mk c _ _ _ _=>c
def In.hd:In→Ty|.mk _ hd _ _ _=>hd
def In.cx:In→List Pr|.mk _ _ cx _ _=>cx
def In.bs:In→List Bi|.mk _ _ _ bs _=>bs
def In.p:In→Int|.mk _ _ _ _ p=>p
def In.cellss (l:List In):List (List AV):=l.map In.cells
theorem In.cellss_map (l:List In):In.cellss l=l.map In.cells:=rfl
theorem In.cellss_len (l:List In):(In.cellss l).length=l.length:=by simp [In.cellss]
theorem In.cellss_get {l:List In} {i:Nat} {x:In} (h:l[i]?=some x):(In.cellss l)[i]?=some x.cells:=by simp [In.cellss,h]
theorem In.cells_len (x:In):x.cells.length=8:=by
 obtain ⟨xc,⟨xhdk,xhds,xhdn,xhdl⟩,xcx,xbs,xp⟩:=x
 rfl
def In.cellsss (l:List (List In)):List (List AV):=l.map fun x=>[.seq 8 (In.cellss x)]
theorem In.cellsss_len (l:List (List In)):(In.cellsss l).length=l.length:=by simp [In.cellsss]
theorem In.cellsss_get {l:List (List In)} {i:Nat} {x:List In} (h:l[i]?=some x):(In.cellsss l)[i]?=some [.seq 8 (In.cellss x)]:=by simp [In.cellsss,h]
def In.Lim:In→Prop
 | .mk _ hd cx bs _=>(hd.Lim)∧(cx.length≤140737488355328∧∀ x∈cx,x.Lim)∧(bs.length≤140737488355328∧∀ x∈bs,x.Lim)
inductive Pg where
 | mk (da:List Da) (cl:List Cl) (ins:List In) (bs:List Bi)
def Pg.cells:Pg→List AV
 | .mk da cl ins bs=>.seq 5 (Da.cellss da)::.seq 6 (Cl.cellss cl)::.seq 8 (In.cellss ins)::[.seq 13 (Bi.cellss bs)]
def Pg.da:Pg→List Da|.mk da _ _ _=>da
def Pg.cl:Pg→List Cl|.mk _ cl _ _=>cl
def Pg.ins:Pg→List In|.mk _ _ ins _=>ins
def Pg.bs:Pg→List Bi|.mk _ _ _ bs=>bs
def Pg.cellss (l:List Pg):List (List AV):=l.map Pg.cells
theorem Pg.cellss_map (l:List Pg):Pg.cellss l=l.map Pg.cells:=rfl
theorem Pg.cellss_len (l:List Pg):(Pg.cellss l).length=l.length:=by simp [Pg.cellss]
theorem Pg.cellss_get {l:List Pg} {i:Nat} {x:Pg} (h:l[i]?=some x):(Pg.cellss l)[i]?=some x.cells:=by simp [Pg.cellss,h]
theorem Pg.cells_len (x:Pg):x.cells.length=4:=by
 obtain ⟨xda,xcl,xins,xbs⟩:=x
 rfl
def Pg.cellsss (l:List (List Pg)):List (List AV):=l.map fun x=>[.seq 4 (Pg.cellss x)]
theorem Pg.cellsss_len (l:List (List Pg)):(Pg.cellsss l).length=l.length:=by simp [Pg.cellsss]
theorem Pg.cellsss_get {l:List (List Pg)} {i:Nat} {x:List Pg} (h:l[i]?=some x):(Pg.cellsss l)[i]?=some [.seq 4 (Pg.cellss x)]:=by simp [Pg.cellsss,h]
def Pg.Lim:Pg→Prop
 | .mk da cl ins bs=>(da.length≤140737488355328∧∀ x∈da,x.Lim)∧(cl.length≤140737488355328∧∀ x∈cl,x.Lim)∧(ins.length≤140737488355328∧∀ x∈ins,x.Lim)∧(bs.length≤140737488355328∧∀ x∈bs,x.Lim)
inductive En where
 | mk (da:List Da) (cl:List Cl) (ins:List In)
def En.cells:En→List AV
 | .mk da cl ins=>.seq 5 (Da.cellss da)::.seq 6 (Cl.cellss cl)::[.seq 8 (In.cellss ins)]
def En.da:En→List Da|.mk da _ _=>da
def En.cl:En→List Cl|.mk _ cl _=>cl
def En.ins:En→List In|.mk _ _ ins=>ins
def En.cellss (l:List En):List (List AV):=l.map En.cells
theorem En.cellss_map (l:List En):En.cellss l=l.map En.cells:=rfl
theorem En.cellss_len (l:List En):(En.cellss l).length=l.length:=by simp [En.cellss]
theorem En.cellss_get {l:List En} {i:Nat} {x:En} (h:l[i]?=some x):(En.cellss l)[i]?=some x.cells:=by simp [En.cellss,h]
theorem En.cells_len (x:En):x.cells.length=3:=by
 obtain ⟨xda,xcl,xins⟩:=x
 rfl
def En.cellsss (l:List (List En)):List (List AV):=l.map fun x=>[.seq 3 (En.cellss x)]
theorem En.cellsss_len (l:List (List En)):(En.cellsss l).length=l.length:=by simp [En.cellsss]
theorem En.cellsss_get {l:List (List En)} {i:Nat} {x:List En} (h:l[i]?=some x):(En.cellsss l)[i]?=some [.seq 3 (En.cellss x)]:=by simp [En.cellsss,h]
def En.Lim:En→Prop
 | .mk da cl ins=>(da.length≤140737488355328∧∀ x∈da,x.Lim)∧(cl.length≤140737488355328∧∀ x∈cl,x.Lim)∧(ins.length≤140737488355328∧∀ x∈ins,x.Lim)
inductive Sc where
 | mk (vs:List ByteArray) (ps:List Pr) (t:Ty)
def Sc.cells:Sc→List AV
 | .mk vs ps t=>.seq 1 (strs vs)::.seq 5 (Pr.cellss ps)::t.cells
def Sc.vs:Sc→List ByteArray|.mk vs _ _=>vs
def Sc.ps:Sc→List Pr|.mk _ ps _=>ps
def Sc.t:Sc→Ty|.mk _ _ t=>t
def Sc.cellss (l:List Sc):List (List AV):=l.map Sc.cells
theorem Sc.cellss_map (l:List Sc):Sc.cellss l=l.map Sc.cells:=rfl
theorem Sc.cellss_len (l:List Sc):(Sc.cellss l).length=l.length:=by simp [Sc.cellss]
theorem Sc.cellss_get {l:List Sc} {i:Nat} {x:Sc} (h:l[i]?=some x):(Sc.cellss l)[i]?=some x.cells:=by simp [Sc.cellss,h]
theorem Sc.cells_len (x:Sc):x.cells.length=6:=by
 obtain ⟨xvs,xps,⟨xtk,xts,xtn,xtl⟩⟩:=x
 rfl
def Sc.cellsss (l:List (List Sc)):List (List AV):=l.map fun x=>[.seq 6 (Sc.cellss x)]
theorem Sc.cellsss_len (l:List (List Sc)):(Sc.cellsss l).length=l.length:=by simp [Sc.cellsss]
theorem Sc.cellsss_get {l:List (List Sc)} {i:Nat} {x:List Sc} (h:l[i]?=some x):(Sc.cellsss l)[i]?=some [.seq 6 (Sc.cellss x)]:=by simp [Sc.cellsss,h]
def Sc.Lim:Sc→Prop
 | .mk vs ps t=>(vs.length≤140737488355328)∧(ps.length≤140737488355328∧∀ x∈ps,x.Lim)∧(t.Lim)
inductive Pm where
 | mk (s:ByteArray) (op:Int) (n:Int) (sc:Sc)
def Pm.cells:Pm→List AV
 | .mk s op n sc=>.val (.string s)::.val (.int .i64 op)::.val (.int .i64 n)::sc.cells
def Pm.s:Pm→ByteArray|.mk s _ _ _=>s
def Pm.op:Pm→Int|.mk _ op _ _=>op
def Pm.n:Pm→Int|.mk _ _ n _=>n
def Pm.sc:Pm→Sc|.mk _ _ _ sc=>sc
def Pm.cellss (l:List Pm):List (List AV):=l.map Pm.cells
theorem Pm.cellss_map (l:List Pm):Pm.cellss l=l.map Pm.cells:=rfl
theorem Pm.cellss_len (l:List Pm):(Pm.cellss l).length=l.length:=by simp [Pm.cellss]
theorem Pm.cellss_get {l:List Pm} {i:Nat} {x:Pm} (h:l[i]?=some x):(Pm.cellss l)[i]?=some x.cells:=by simp [Pm.cellss,h]
theorem Pm.cells_len (x:Pm):x.cells.length=9:=by
 obtain ⟨xs,xop,xn,⟨xscvs,xscps,⟨xsctk,xscts,xsctn,xsctl⟩⟩⟩:=x
 rfl
def Pm.cellsss (l:List (List Pm)):List (List AV):=l.map fun x=>[.seq 9 (Pm.cellss x)]
theorem Pm.cellsss_len (l:List (List Pm)):(Pm.cellsss l).length=l.length:=by simp [Pm.cellsss]
theorem Pm.cellsss_get {l:List (List Pm)} {i:Nat} {x:List Pm} (h:l[i]?=some x):(Pm.cellsss l)[i]?=some [.seq 9 (Pm.cellss x)]:=by simp [Pm.cellsss,h]
def Pm.Lim:Pm→Prop
 | .mk _ _ _ sc=>(sc.Lim)
inductive Ato where
 | mk (k:Int) (n:Int)
def Ato.cells:Ato→List AV
 | .mk k n=>.val (.int .i64 k)::[.val (.int .i64 n)]
def Ato.k:Ato→Int|.mk k _=>k
def Ato.n:Ato→Int|.mk _ n=>n
def Ato.cellss (l:List Ato):List (List AV):=l.map Ato.cells
theorem Ato.cellss_map (l:List Ato):Ato.cellss l=l.map Ato.cells:=rfl
theorem Ato.cellss_len (l:List Ato):(Ato.cellss l).length=l.length:=by simp [Ato.cellss]
theorem Ato.cellss_get {l:List Ato} {i:Nat} {x:Ato} (h:l[i]?=some x):(Ato.cellss l)[i]?=some x.cells:=by simp [Ato.cellss,h]
theorem Ato.cells_len (x:Ato):x.cells.length=2:=by
 obtain ⟨xk,xn⟩:=x
 rfl
def Ato.cellsss (l:List (List Ato)):List (List AV):=l.map fun x=>[.seq 2 (Ato.cellss x)]
theorem Ato.cellsss_len (l:List (List Ato)):(Ato.cellsss l).length=l.length:=by simp [Ato.cellsss]
theorem Ato.cellsss_get {l:List (List Ato)} {i:Nat} {x:List Ato} (h:l[i]?=some x):(Ato.cellsss l)[i]?=some [.seq 2 (Ato.cellss x)]:=by simp [Ato.cellsss,h]
def Ato.Lim:Ato→Prop
 | .mk k n=>(I64 k)∧(I64 n)
inductive Is where
 | mk (op:Int) (a:Int) (b:Int) (n:Int) (ar:List Ato) (fs:List Int) (cp:List (List Ato))
def Is.cells:Is→List AV
 | .mk op a b n ar fs cp=>.val (.int .i64 op)::.val (.int .i64 a)::.val (.int .i64 b)::.val (.int .i64 n)::.seq 2 (Ato.cellss ar)::.seq 1 (nums fs)::[.seq 1 (Ato.cellsss cp)]
def Is.op:Is→Int|.mk op _ _ _ _ _ _=>op
def Is.a:Is→Int|.mk _ a _ _ _ _ _=>a
def Is.b:Is→Int|.mk _ _ b _ _ _ _=>b
def Is.n:Is→Int|.mk _ _ _ n _ _ _=>n
def Is.ar:Is→List Ato|.mk _ _ _ _ ar _ _=>ar
def Is.fs:Is→List Int|.mk _ _ _ _ _ fs _=>fs
def Is.cp:Is→List (List Ato)|.mk _ _ _ _ _ _ cp=>cp
def Is.cellss (l:List Is):List (List AV):=l.map Is.cells
theorem Is.cellss_map (l:List Is):Is.cellss l=l.map Is.cells:=rfl
theorem Is.cellss_len (l:List Is):(Is.cellss l).length=l.length:=by simp [Is.cellss]
theorem Is.cellss_get {l:List Is} {i:Nat} {x:Is} (h:l[i]?=some x):(Is.cellss l)[i]?=some x.cells:=by simp [Is.cellss,h]
theorem Is.cells_len (x:Is):x.cells.length=7:=by
 obtain ⟨xop,xa,xb,xn,xar,xfs,xcp⟩:=x
 rfl
def Is.cellsss (l:List (List Is)):List (List AV):=l.map fun x=>[.seq 7 (Is.cellss x)]
theorem Is.cellsss_len (l:List (List Is)):(Is.cellsss l).length=l.length:=by simp [Is.cellsss]
theorem Is.cellsss_get {l:List (List Is)} {i:Nat} {x:List Is} (h:l[i]?=some x):(Is.cellsss l)[i]?=some [.seq 7 (Is.cellss x)]:=by simp [Is.cellsss,h]
def Is.Lim:Is→Prop
 | .mk op a b n ar fs cp=>(I64 op)∧(I64 a)∧(I64 b)∧(I64 n)∧(ar.length≤140737488355328∧∀ x∈ar,x.Lim)∧(fs.length≤140737488355328∧∀ x∈fs,I64 x)∧(cp.length≤140737488355328∧∀ x∈cp,x.length≤140737488355328∧∀ y∈x,y.Lim)
inductive Cf where
 | mk (len:Int) (sl:Int) (cp:Int)
def Cf.cells:Cf→List AV
 | .mk len sl cp=>.val (.int .i64 len)::.val (.int .i64 sl)::[.val (.int .i64 cp)]
def Cf.len:Cf→Int|.mk len _ _=>len
def Cf.sl:Cf→Int|.mk _ sl _=>sl
def Cf.cp:Cf→Int|.mk _ _ cp=>cp
def Cf.cellss (l:List Cf):List (List AV):=l.map Cf.cells
theorem Cf.cellss_map (l:List Cf):Cf.cellss l=l.map Cf.cells:=rfl
theorem Cf.cellss_len (l:List Cf):(Cf.cellss l).length=l.length:=by simp [Cf.cellss]
theorem Cf.cellss_get {l:List Cf} {i:Nat} {x:Cf} (h:l[i]?=some x):(Cf.cellss l)[i]?=some x.cells:=by simp [Cf.cellss,h]
theorem Cf.cells_len (x:Cf):x.cells.length=3:=by
 obtain ⟨xlen,xsl,xcp⟩:=x
 rfl
def Cf.cellsss (l:List (List Cf)):List (List AV):=l.map fun x=>[.seq 3 (Cf.cellss x)]
theorem Cf.cellsss_len (l:List (List Cf)):(Cf.cellsss l).length=l.length:=by simp [Cf.cellsss]
theorem Cf.cellsss_get {l:List (List Cf)} {i:Nat} {x:List Cf} (h:l[i]?=some x):(Cf.cellsss l)[i]?=some [.seq 3 (Cf.cellss x)]:=by simp [Cf.cellsss,h]
def Cf.Lim:Cf→Prop
 | .mk len sl cp=>(I64 len)∧(I64 sl)∧(I64 cp)
inductive Cd where
 | mk (is:List Is) (fu:List Cf) (tx:List ByteArray) (gl:Int) (ys:Int) (no:Int)
def Cd.cells:Cd→List AV
 | .mk is fu tx gl ys no=>.seq 7 (Is.cellss is)::.seq 3 (Cf.cellss fu)::.seq 1 (strs tx)::.val (.int .i64 gl)::.val (.int .i64 ys)::[.val (.int .i64 no)]
def Cd.is:Cd→List Is|.mk is _ _ _ _ _=>is
def Cd.fu:Cd→List Cf|.mk _ fu _ _ _ _=>fu
def Cd.tx:Cd→List ByteArray|.mk _ _ tx _ _ _=>tx
def Cd.gl:Cd→Int|.mk _ _ _ gl _ _=>gl
def Cd.ys:Cd→Int|.mk _ _ _ _ ys _=>ys
def Cd.no:Cd→Int|.mk _ _ _ _ _ no=>no
def Cd.cellss (l:List Cd):List (List AV):=l.map Cd.cells
theorem Cd.cellss_map (l:List Cd):Cd.cellss l=l.map Cd.cells:=rfl
theorem Cd.cellss_len (l:List Cd):(Cd.cellss l).length=l.length:=by simp [Cd.cellss]
theorem Cd.cellss_get {l:List Cd} {i:Nat} {x:Cd} (h:l[i]?=some x):(Cd.cellss l)[i]?=some x.cells:=by simp [Cd.cellss,h]
theorem Cd.cells_len (x:Cd):x.cells.length=6:=by
 obtain ⟨xis,xfu,xtx,xgl,xys,xno⟩:=x
 rfl
def Cd.cellsss (l:List (List Cd)):List (List AV):=l.map fun x=>[.seq 6 (Cd.cellss x)]
theorem Cd.cellsss_len (l:List (List Cd)):(Cd.cellsss l).length=l.length:=by simp [Cd.cellsss]
theorem Cd.cellsss_get {l:List (List Cd)} {i:Nat} {x:List Cd} (h:l[i]?=some x):(Cd.cellsss l)[i]?=some [.seq 6 (Cd.cellss x)]:=by simp [Cd.cellsss,h]
def Cd.Lim:Cd→Prop
 | .mk is fu tx gl ys no=>(is.length≤140737488355328∧∀ x∈is,x.Lim)∧(fu.length≤140737488355328∧∀ x∈fu,x.Lim)∧(tx.length≤140737488355328)∧(I64 gl)∧(I64 ys)∧(I64 no)
theorem cellsOf_str:Try.prog.cellsOf 9=1:=by kernel_rfl
theorem cellsOf_int:Try.prog.cellsOf 3=1:=by kernel_rfl
theorem cellsOf_lAto:Try.prog.cellsOf 42=1:=by kernel_rfl
theorem cellsOf_Ato:Try.prog.cellsOf 41=2:=by kernel_rfl
theorem shapeL_Ato (L:Nat) (_:L≤140737488355328) (fuel:Nat) (cs:List AV) (h:ShapeL Try.prog L fuel 41 cs):∃ x:Ato,cs=x.cells∧x.Lim:=by
 obtain ⟨n,_,h⟩:=shapeL_struct Try.underlying41 h
 simp only [ShapeLF] at h
 obtain ⟨a0,b0,rfl,h0,a1,b1,rfl,h1,rfl⟩:=h
 obtain ⟨k,r0,rfl⟩:=Zy tu_3 h0
 obtain ⟨n,r1,rfl⟩:=Zy tu_2 h1
 refine ⟨.mk k n,?_,⟨I64.of r0,I64.of r1⟩⟩
 simp [Ato.cells]
theorem cellsOf_Is:Try.prog.cellsOf 46=7:=by kernel_rfl
theorem shapeL_Is (L:Nat) (hL:L≤140737488355328) (fuel:Nat) (cs:List AV) (h:ShapeL Try.prog L fuel 46 cs):∃ x:Is,cs=x.cells∧x.Lim:=by
 obtain ⟨n,_,h⟩:=shapeL_struct Try.underlying46 h
 simp only [ShapeLF] at h
 obtain ⟨a0,b0,rfl,h0,a1,b1,rfl,h1,a2,b2,rfl,h2,a3,b3,rfl,h3,a4,b4,rfl,h4,a5,b5,rfl,h5,a6,b6,rfl,h6,rfl⟩:=h
 obtain ⟨op,r0,rfl⟩:=Zy tu_3 h0
 obtain ⟨a,r1,rfl⟩:=Zy tu_3 h1
 obtain ⟨b,r2,rfl⟩:=Zy tu_3 h2
 obtain ⟨n,r3,rfl⟩:=Zy tu_2 h3
 obtain ⟨n4,e4,_,rfl,l4,h4⟩:=shapeL_slice tu_42 h4
 obtain ⟨ar,rfl,q4⟩:=pick_all2 (f:=Ato.cells) (p:=Ato.Lim) (fun x hx=>shapeL_Ato L hL _ x (h4 x hx))
 obtain ⟨n5,e5,_,rfl,l5,h5⟩:=shapeL_slice tu_43 h5
 obtain ⟨fs,rfl,q5⟩:=pick_all2 (f:=fun s=>[AV.val (.int .i64 s)]) (p:=I64) (fun x hx=>by obtain ⟨s,r,rfl⟩:=Zy tu_3 (h5 x hx);exact ⟨s,rfl,I64.of r⟩)
 obtain ⟨n6,e6,_,rfl,l6,h6⟩:=shapeL_slice tu_44 h6
 obtain ⟨cp,rfl,q6⟩:=pick_all2 (f:=fun x=>[AV.seq 2 (Ato.cellss x)]) (p:=fun x=>x.length≤140737488355328∧∀ y∈x,y.Lim) (fun x hx=>by
  obtain ⟨n,e,_,rfl,l,h⟩:=shapeL_slice tu_42 (h6 x hx)
  obtain ⟨z,rfl,q⟩:=pick_all2 (f:=Ato.cells) (p:=Ato.Lim) (fun x hx=>shapeL_Ato L hL _ x (h x hx))
  exact ⟨z,by rw [cellsOf_Ato,← Ato.cellss_map],by simpa using Nat.le_trans l hL,q⟩)
 refine ⟨.mk op a b n ar fs cp,?_,⟨I64.of r0,I64.of r1,I64.of r2,I64.of r3,⟨by simpa using Nat.le_trans l4 hL,q4⟩,⟨by simpa using Nat.le_trans l5 hL,q5⟩,⟨by simpa using Nat.le_trans l6 hL,q6⟩⟩⟩
 rw [cellsOf_Ato,← Ato.cellss_map,cellsOf_int,cellsOf_lAto]
 simp [Is.cells,Ato.cellsss,nums]
theorem cellsOf_Cf:Try.prog.cellsOf 39=3:=by kernel_rfl
theorem shapeL_Cf (L:Nat) (_:L≤140737488355328) (fuel:Nat) (cs:List AV) (h:ShapeL Try.prog L fuel 39 cs):∃ x:Cf,cs=x.cells∧x.Lim:=by
 obtain ⟨n,_,h⟩:=shapeL_struct Try.underlying39 h
 simp only [ShapeLF] at h
 obtain ⟨a0,b0,rfl,h0,a1,b1,rfl,h1,a2,b2,rfl,h2,rfl⟩:=h
 obtain ⟨len,r0,rfl⟩:=Zy tu_3 h0
 obtain ⟨sl,r1,rfl⟩:=Zy tu_3 h1
 obtain ⟨cp,r2,rfl⟩:=Zy tu_3 h2
 refine ⟨.mk len sl cp,?_,⟨I64.of r0,I64.of r1,I64.of r2⟩⟩
 simp [Cf.cells]
theorem shapeL_Cd (L:Nat) (hL:L≤140737488355328) (fuel:Nat) (cs:List AV) (h:ShapeL Try.prog L fuel 26 cs):∃ x:Cd,cs=x.cells∧x.Lim:=by
 obtain ⟨n,_,h⟩:=shapeL_struct Try.underlying26 h
 simp only [ShapeLF] at h
 obtain ⟨a0,b0,rfl,h0,a1,b1,rfl,h1,a2,b2,rfl,h2,a3,b3,rfl,h3,a4,b4,rfl,h4,a5,b5,rfl,h5,rfl⟩:=h
 obtain ⟨n0,e0,_,rfl,l0,h0⟩:=shapeL_slice tu_22 h0
 obtain ⟨is,rfl,q0⟩:=pick_all2 (f:=Is.cells) (p:=Is.Lim) (fun x hx=>shapeL_Is L hL _ x (h0 x hx))
 obtain ⟨n1,e1,_,rfl,l1,h1⟩:=shapeL_slice tu_23 h1
 obtain ⟨fu,rfl,q1⟩:=pick_all2 (f:=Cf.cells) (p:=Cf.Lim) (fun x hx=>shapeL_Cf L hL _ x (h1 x hx))
 obtain ⟨n2,e2,_,rfl,l2,h2⟩:=shapeL_slice tu_24 h2
 obtain ⟨tx,rfl,_⟩:=pick_all2 (f:=fun s=>[AV.val (.string s)]) (p:=fun _=>True) (fun x hx=>by obtain ⟨s,_,rfl⟩:=shapeL_str tu_9 (h2 x hx);exact ⟨s,rfl,trivial⟩)
 obtain ⟨gl,r3,rfl⟩:=Zy tu_3 h3
 obtain ⟨ys,r4,rfl⟩:=Zy tu_3 h4
 obtain ⟨no,r5,rfl⟩:=Zy tu_3 h5
 refine ⟨.mk is fu tx gl ys no,?_,⟨⟨by simpa using Nat.le_trans l0 hL,q0⟩,⟨by simpa using Nat.le_trans l1 hL,q1⟩,by simpa using Nat.le_trans l2 hL,I64.of r3,I64.of r4,I64.of r5⟩⟩
 rw [cellsOf_Is,← Is.cellss_map,cellsOf_Cf,← Cf.cellss_map,cellsOf_str]
 simp [Cd.cells,strs]
abbrev S29:List TypeId:=[3,2,9,24,43,41,42,44,46,22,39,23,26]
theorem closed29:closedL Try.prog S29=true:=by kernel_rfl
theorem okw_slice {P:Program} {W:World} {r:Reach} {b:Nat} {t e:TypeId} {v:Value} (ht:P.underlying t=some (.slice e)) (h:Value.okWide P W r b t v):∀ a,v≠.agg a:=by
 rintro a rfl
 unfold Value.okWide at h
 rw [ht] at h
 simp only [Cell.okWide,Cell.ok,ht] at h
section
variable {P:Program} {n:Nat} {al:Sl} {M:Mem}
def Idle (P:Program) (d:Deferred):Prop :=
 ∃ fv cap f args,d.target=.fn fv cap∧(∀ w,(invoke d.target d.args).run P w=.ok (.enter f args) w)∧∀ w,CallsDIn (RF none) 0 P f args .returning w fun e u' w'=>(∃ v,e=.returned v)∧u'=.returning∧w'=w
def IdleC (P:Program) (g:FuncId) (k:Nat):Prop :=
 Enters P g∧∀ (args:Array Value) (w:World),args.size=k→CallsDIn (RF none) 0 P g args .returning w fun e u' w'=>(∃ v,e=.returned v)∧u'=.returning∧w'=w
def AOpsI (P:Program) (n:Nat) (ops:Array Oper) (Q:Sl→Mem→Prop) (l:List Oper) (al:Sl) (M:Mem):Prop :=
 ∀ (B:Nat) (F:EH) (Mf:Mem) (a:Act) (w:World),Inv B F (M++Mf) w→Slots n F al a.tmps →
  wpListIn (RF none) 0 P ops (fun e a' w'=>e=.normal∧∃ d,Idle P d∧Post n B F Mf w (d::a.defers) Q a' w') l a w
def ACodeI (P:Program) (n:Nat) (c:Code) (Q:Exit→Sl→Mem→Prop) (al:Sl) (M:Mem):Prop :=
 ∀ (B:Nat) (F:EH) (Mf:Mem) (a:Act) (w:World),Inv B F (M++Mf) w→Slots n F al a.tmps →
  c.wpIn (RF none) 0 P (fun e a' w'=>∃ d,Idle P d∧PostD n B F Mf w (d::a.defers) (Q e) a' w') a w
theorem AOpsI.step {ops:Array Oper} {Q:Sl→Mem→Prop} {o:Oper} {rest:List Oper} (hg:o.guard=none) (hd:o.dst.all (·<n)=true)
    (h:OpT P o al M (fun v M'=>AOpsI P n ops Q rest (al.put o.dst v) M')):AOpsI P n ops Q (o::rest) al M:=by
 intro B F Mf a w hi hs
 refine wpListIn_plain hg fun K hK=>?_
 refine wp_exits (Oper.wpIn_mono ?_ (h n B F Mf a w hi hs none))
 rintro a' w' ⟨u,v,M',F',rfl,hk,hr,hF,hi',hb⟩
 refine hK _ _ ?_
 have:=hk B F' Mf (a.put o.dst u) w' hi' ((hs.mono hF).put hd hr)
 rw [put_defers] at this
 exact wpR_norm (fun e a w h=>h.1) (fun a w h=>by obtain ⟨h1,d,h2,h3⟩:=h;exact ⟨h1,d,h2,h3.next hF hb⟩) _ _ _ this
theorem AOpsI.defer {ops:Array Oper} {Q:Sl→Mem→Prop} {o:Oper} {rest:List Oper} {x:Operand} {ts:Array TypeId} {g:FuncId} {fs cs:List AV} (ho:o.op=.defer { callee:=.value x,args:=#[],argTypes:=ts }) (hg:o.guard=none) (hd:o.dst.all (·<n)=true)
    (hx:al.ev x=some (.clo (.func g) fs cs)) (hid:IdleC P g (fs.length+cs.length)) (h:AOps P n ops Q rest (al.put o.dst (.val undef)) M):AOpsI P n ops Q (o::rest) al M:=by
 intro B F Mf a w hi hs
 refine wpListIn_plain hg fun K hK=>?_
 have hr:=hs.ev hx
 generalize he:a.eval x=u at hr
 cases hr with
 | clo fn h1 h2 =>
  rename_i vf vc
  refine ⟨fun _ _=>trivial,?_⟩
  have e:(o.semAt none a.eval).run P w=.ok (.defer ⟨.fn (.func g) vc.toArray,vf.toArray⟩) w:=by
   simp only [Oper.semAt_none,execOp,ho,resolve,he,Deferred.ofValue,Sem.run_bind,Sem.run_pure,Result.andThen_ok]
   simp
  rw [show (RF none).round=none from rfl,e]
  simp only [Oper.uponIn]
  refine hK _ _ ?_
  have hd1:Idle P ⟨.fn (.func g) vc.toArray,vf.toArray⟩:=⟨.func g,vc.toArray,g,vf.toArray++vc.toArray,rfl,fun w=>by simp only [invoke];exact hid.1 _ _,fun w=>hid.2 _ w (by simp [h1.len,h2.len])⟩
  have:=h B F Mf (Act.put { a with defers:=⟨.fn (.func g) vc.toArray,vf.toArray⟩::a.defers } o.dst undef) w hi (Slots.put (a:={ a with defers:=⟨.fn (.func g) vc.toArray,vf.toArray⟩::a.defers }) hs hd (.val _)) none
  rw [put_defers] at this
  exact wpR_norm (fun e a w h=>h.1) (fun a w h=>⟨h.1,_,hd1,h.2⟩) _ _ _ this
theorem ACodeI.region {Q:Exit→Sl→Mem→Prop} {id:Nat} {l:List Oper} (h:AOpsI P n l.toArray (Q .normal) l al M):ACodeI P n (.region id l.toArray false) Q al M:=by
 intro B F Mf a w hi hs
 refine wpIn_region_lit ?_
 exact wpR_norm (fun e a w h=>h.1) (fun a w h=>by obtain ⟨_,d,h2,h3⟩:=h;exact ⟨d,h2,h3.d⟩) _ _ _ (h B F Mf a w hi hs)
theorem ACodeI.seq {Q:Exit→Sl→Mem→Prop} {x y:Code} (h:ACodeI P n x (Then (ACode none P n y Q) Q) al M):ACodeI P n (.seq x y) Q al M:=by
 intro B F Mf a w hi hs
 refine wpIn_seq (Code.wpIn_mono (fun e a' w' hp=>?_) (h B F Mf a w hi hs))
 obtain ⟨d,hd,hp⟩:=hp
 cases e with
 | normal =>
  obtain ⟨Ds,F',al',M',h1,h2,h3,h4,h5,h6⟩:=hp
  exact Code.wpIn_mono (fun e a'' w'' hp=>⟨d,hd,PostD.next h2 h6 (by rw [← h5];exact hp)⟩) (h1 B F' _ a' w' h3 h4)
 | exit id=>exact ⟨d,hd,hp⟩
 | goto l=>exact ⟨d,hd,hp⟩
 | ret=>exact ⟨d,hd,hp⟩
 | panic c=>exact ⟨d,hd,hp⟩
 | outgrown=>exact ⟨d,hd,hp⟩
end
section
variable {P:Program} {n:Nat} {al:Sl} {M:Mem}
structure ACallX (P:Program) (f:FuncId) (args:List AV) (M:Mem) (R:AV→Mem→Prop) (W:List PanicEntry→Prop):Prop where
 ent:Enters P f
 run:∀ (B:Nat) (F:EH) (Mf:Mem) (w:World) (vs:List Value),Inv B F (M++Mf) w→Rels F args vs →
  Calls P f vs.toArray w (fun e w'=>(∃ u v M' F',e=.returned u∧R v M'∧Rel F' v u∧Ext F F'∧Inv B F' (M'++Mf) w'∧Below B w w')∨(∃ chain F',e=.panicked chain∧W chain∧Ext F F'∧Inv B F' Mf w'∧Below B w w'))
theorem ACallX.mono {f:FuncId} {args:List AV} {R R':AV→Mem→Prop} {W W':List PanicEntry→Prop} (h:ACallX P f args M R W) (hr:∀ v M',R v M'→R' v M') (hw:∀ c,W c→W' c):ACallX P f args M R' W' :=
 ⟨h.ent,fun B F Mf w vs hi hv=>(h.run B F Mf w vs hi hv).mono fun _ _ k=>by
  obtain ⟨u,v,M',F',h1,h2,h3⟩|⟨c,F',h1,h2,h3⟩:=k
  ·exact .inl ⟨u,v,M',F',h1,hr _ _ h2,h3⟩
  exact .inr ⟨c,F',h1,hw _ h2,h3⟩⟩
theorem ACall.toX {f:FuncId} {args:List AV} {R:AV→Mem→Prop} {W:List PanicEntry→Prop} (h:ACall P f args M R):ACallX P f args M R W :=
 ⟨h.ent,fun B F Mf w vs hi hv=>(h.run B F Mf w vs hi hv).mono fun _ _ k=>.inl k⟩
theorem wpR_mono {ro:Option Nat} {ops:Array Oper} {Q Q':Exit→Act→World→Prop} (hq:∀ e a w,Q e a w→Q' e a w):∀ (l:List Oper) (a:Act) (w:World),wpListIn (RF ro) 0 P ops Q l a w→wpListIn (RF ro) 0 P ops Q' l a w
 | [],a,w,h=>hq .normal a w h
 | o::l,a,w,h=>by
  unfold wpListIn at h ⊢
  split
  ·rename_i hw
   rw [if_pos hw] at h
   have h2:o.wpIn (RF ro) 0 P a w (wpListIn (RF ro) 0 P ops Q' l) Q:=Oper.wpIn_mono (fun a w h=>wpR_mono hq l a w h) h
   unfold Oper.wpIn at *
   refine ⟨h2.1,?_⟩
   have h2:=h2.2
   generalize (o.semAt (RF ro).round a.eval).run P w=r at *
   cases r with
   | ok nx w2 =>
    cases nx <;> simp only [Oper.uponIn] at h2 ⊢ <;> first
     | exact h2
     | exact ⟨h2.1,CallsIn.mono h2.2 (fun e w'' he=>by
         cases e with
         | returned v=>exact he
         | panicked c=>exact hq _ _ _ he
         | outgrown=>obtain ⟨_,_,hf⟩:=he;exact ⟨_,_,hq _ _ _ hf⟩)⟩
     | exact ⟨h2.1,RoundIn.mono h2.2 (fun e w'' he=>by
         cases e with
         | returned v=>exact he
         | panicked c=>exact hq _ _ _ he
         | outgrown=>obtain ⟨_,_,hf⟩:=he;exact ⟨_,_,hq _ _ _ hf⟩)⟩
   | halt x w2=>cases x <;> simp only [Oper.uponIn] at h2 ⊢ <;> first
    | exact h2
    | exact hq _ _ _ h2
  rename_i hw
  rw [if_neg hw] at h
  exact ⟨h.1,wpR_mono hq l _ _ h.2⟩
def AOpsX (ro:Option Nat) (P:Program) (n:Nat) (ops:Array Oper) (Q:Exit→Sl→Mem→Prop) (l:List Oper) (al:Sl) (M:Mem):Prop :=
 ∀ (B:Nat) (F:EH) (Mf:Mem) (a:Act) (w:World),Inv B F (M++Mf) w→Slots n F al a.tmps →
  wpListIn (RF ro) 0 P ops (fun e a' w'=>Post n B F Mf w a.defers (Q e) a' w') l a w
variable {ro:Option Nat} {ops:Array Oper} {Q:Exit→Sl→Mem→Prop} {o:Oper} {rest:List Oper}
theorem AOpsX.of {l:List Oper} (h:AOps P n ops (Q .normal) l al M):AOpsX ro P n ops Q l al M:=fun B F Mf a w hi hs =>
 wpR_norm (fun _ _ _ h=>h.1) (fun _ _ h=>h.2) _ _ _ (h B F Mf a w hi hs ro)
theorem AOpsX.nil (h:Q .normal al M):AOpsX ro P n ops Q [] al M:=AOpsX.of (AOps.nil h)
theorem AOpsX.step (hg:o.guard=none) (hd:o.dst.all (·<n)=true) (h:OpT P o al M (fun v M'=>AOpsX ro P n ops Q rest (al.put o.dst v) M')):AOpsX ro P n ops Q (o::rest) al M:=by
 intro B F Mf a w hi hs
 refine wpListIn_plain hg fun K hK=>?_
 refine wp_exits (Oper.wpIn_mono ?_ (h n B F Mf a w hi hs ro))
 rintro a' w' ⟨u,v,M',F',rfl,hk,hr,hF,hi',hb⟩
 refine hK _ _ ?_
 have:=hk B F' Mf (a.put o.dst u) w' hi' ((hs.mono hF).put hd hr)
 rw [put_defers] at this
 exact wpR_mono (fun e a w h=>h.next hF hb) _ _ _ this
theorem AOpsX.call {f:FuncId} {xs:List Operand} {ts:Array TypeId} {vs vs':List AV} (is:List Nat) {M1 M2:Mem} {R:AV→Mem→Prop} {W:List PanicEntry→Prop} (hg:o.guard=none) (hd:o.dst.all (·<n)=true) (ho:o.op=.call { callee:=.value (.func f),args:=xs.toArray,argTypes:=ts }) (hx:xs.mapM al.ev=some vs) (hp:pick is M=some (M1,M2)) (hc:ACallX P f vs' M1 R W) (hl:Les vs vs')
    (p:∀ chain,W chain→Q (.panic chain) al M2) (q:∀ v M',R v M'→AOpsX ro P n ops Q rest (al.put o.dst v) (M'++M2)):AOpsX ro P n ops Q (o::rest) al M:=by
 intro B F Mf a w hi hs
 refine wpListIn_plain hg fun K hK=>?_
 have e:(execOp a.eval o).run P w=.ok (.enter f (xs.map a.eval).toArray) w:=by
  simp only [execOp,ho,resolve,Act.eval,Deferred.ofValue,Sem.run_bind,Sem.run_pure,Result.andThen_ok,invoke]
  simpa using hc.ent _ _
 refine ⟨fun _ _=>trivial,?_⟩
 rw [Oper.semAt_eq _ _ _ (not_defer e by11),e]
 simp only [Oper.uponIn]
 have hi1:Inv B F (M1++(M2++Mf)) w:=by
  have:=hi.perm ((pick_perm hp).append_right Mf)
  rwa [List.append_assoc] at this
 refine ⟨fun h=>absurd h by9,callsIn_RF.2 ((hc.run B F (M2++Mf) w _ hi1 (hl _ _ (Rels.map_ev hs hx))).mono ?_)⟩
 rintro e w' (⟨u,v,M',F',rfl,h2,h3,h4,h5,h6⟩|⟨chain,F',rfl,h2,h4,h5,h6⟩)
 ·refine hK _ _ ?_
  have:=q v M' h2 B F' Mf (a.put o.dst u) w' (by rw [List.append_assoc];exact h5) ((hs.mono h4).put hd h3)
  rw [put_defers] at this
  exact wpR_mono (fun e a w h=>h.next h4 h6) _ _ _ this
 exact ⟨F',al,M2,p chain h2,h4,h5,hs.mono h4,V,h6⟩
theorem AOpsX.panic {x:Operand} {t:TypeId} {v:Value} (hg:o.guard=none) (ho:o.op=.panic x) (hx:al.ev x=some (.val (.iface t v))) (p:Q (.panic [{ v:=.iface t v,recovered:=false }]) al M):AOpsX ro P n ops Q (o::rest) al M:=by
 intro B F Mf a w hi hs
 refine wpListIn_plain hg fun K hK=>?_
 have e:(execOp a.eval o).run P w=.halt (.panic (.iface t v)) w:=by
  simp [execOp,ho,Zq hs hx,Instr.panic,goPanic]
 refine ⟨fun _ _=>trivial,?_⟩
 rw [Oper.semAt_eq _ _ _ (fun c hc=>by rw [ho] at hc;cases hc),e]
 simp only [Oper.uponIn]
 exact ⟨F,al,M,p,Ext.refl F,hi,hs,V,Below.refl _ _⟩
theorem ACode.regionX {id:Nat} {l:List Oper} (h:AOpsX ro P n l.toArray Q l al M):ACode ro P n (.region id l.toArray false) Q al M:=by
 intro B F Mf a w hi hs
 refine wpIn_region_lit ?_
 exact wpR_mono (fun e a w h=>h.d) _ _ _ (h B F Mf a w hi hs)
theorem after_panic (c:List PanicEntry):∀ ks:List Kont,after ro P n ks Q (.panic c)=Q (.panic c)
 | []=>rfl
 | .code _::ks=>after_panic c ks
 | .blk _::ks=>after_panic c ks
 | .lp _::ks=>after_panic c ks
theorem c_regionX {ks:List Kont} {id:Nat} {l:List Oper} (h:AOpsX ro P n l.toArray (after ro P n ks Q) l al M):ACode ro P n (.region id l.toArray false) (after ro P n ks Q) al M:=ACode.regionX h
def OutX (P:Program) (fn:Func) (R:AV→Mem→Prop) (W:List PanicEntry→Prop):Exit→Sl→Mem→Prop
 | .panic chain,_,_=>W chain
 | e,al,M=>Out P fn R e al M
theorem Ze {ks:List Kont} {fn:Func} {R:AV→Mem→Prop} {W:List PanicEntry→Prop} {al:Sl} {M:Mem}:∀ chain,W chain→after ro P n ks (OutX P fn R W) (.panic chain) al M:=fun chain h=>by rw [after_panic];exact h
theorem ACallX.enter {f : FuncId} {fn : Func} {c : Code} {n : Nat} {args : List AV} {R : AV → Mem → Prop} {W : List PanicEntry → Prop} {M : Mem} (hf : P.funcs[f]? = some fn) (hb : fn.body = some c) (hname : (fn.name == "runtime.NumGoroutine") = false) (hn : fn.ntmps = n) (hl : args.length ≤ n)
    (h:ACode none P n c (OutX P fn R W) (argSl 0 args) M):ACallX P f args M R W:=by
 refine ⟨enters_of hf hname (by rw [hb];rfl),fun B F Mf w vs hi hr=>?_⟩
 refine (callsIn_RF (ro:=none) (n:=0)).1 (callsIn_of_wp_marks hf hb trivial (Code.wpIn_mono (fun e a' w' hp=>?_) (h B F Mf _ w hi ?_)))
 ·have shut:∀ (u:FrameMode) (S:Ending→World→Prop) (Ds:List Nat) (w':World) (F':EH) (M':Mem),u≠.run→Inv B F' (M'++(Ds.map spent++Mf)) w'→Below B w w' →
      (∀ w',Inv B F' (M'++Mf) w'→Below B w w'→LeavesInM (RF none) 0 P fn a'.tmps S [] u w') →
      LeavesInM (RF none) 0 P fn a'.tmps S (Ds.map mark++[]) u w':=by
   intro u S Ds
   induction Ds with
   | nil=>intro w' F' M' hu h3 h6 k;exact k w' h3 h6
   | cons D Ds ih =>
    intro w' F' M' hu h3 h6 k
    have h3':Inv B F' (spent D::(M'++(Ds.map spent++Mf))) w':=h3.perm (List.perm_middle (a:=spent D) (l₁:=M') (l₂:=Ds.map spent++Mf))
    obtain ⟨q1,q2,_⟩:=h3'.objPut (.deferred none)
    obtain ⟨_,_,o,hobj,_,ho⟩:=h3'.ok _ (List.mem_cons_self)
    have ho:=ho F' (Ext.refl F')
    subst ho
    exact ⟨hu,.inl ⟨D,_,V,run_takeDeferred hobj,ih _ F' M' hu q1 (h6.trans q2) k⟩⟩
  obtain ⟨Ds,F',al',M',hq,h2,h3,h4,h5,h6⟩:=hp
  have key:(∃ vs v M'',AResL P al' M' fn.results.toList vs∧Le (oneOf vs) v∧MLe M' M''∧R v M'')→LeavesInM (RF none) 0 P fn a'.tmps (fun e w'=>(∃ u v M' F',e=.returned u∧R v M'∧Rel F' v u∧Ext F F'∧Inv B F' (M'++Mf) w'∧Below B w w')∨(∃ chain F',e=.panicked chain∧W chain∧Ext F F'∧Inv B F' Mf w'∧Below B w w')) a'.defers .returning w':=by
   rintro ⟨vs,v,M'',k1,k2,k3,k4⟩
   rw [h5]
   refine shut .returning _ Ds w' F' M' by11 h3 h6 fun w2 h3 h6=>?_
   obtain ⟨u,j1,j2⟩:=results_run (P:=P) h3 h4 k1
   exact ⟨u,j2,.inl ⟨u,v,M'',F',V,k4,k2 _ _ j1,h2,h3.le k3,h6⟩⟩
  cases e with
  | normal=>exact key hq
  | ret=>exact key hq
  | exit id=>exact hq.elim
  | goto l=>exact hq.elim
  | panic c =>
   show LeavesInM (RF none) 0 P fn a'.tmps _ a'.defers (.panicking c) w'
   rw [h5]
   exact shut (.panicking c) _ Ds w' F' M' by11 h3 h6 fun w2 h3 h6=>.inr ⟨c,F',V,hq,h2,h3.sub (List.sublist_append_right _ _),h6⟩
  | outgrown=>exact hq.elim
 have hlen:=hr.len
 refine ⟨by simp [hn];omega,fun t v e=>?_⟩
 obtain ⟨_,e⟩:=argSl_get args 0 t v e
 obtain ⟨u,h1,h2⟩:=hr.get (i:=t) (a:=v) (by simpa using e)
 have hlt:t<vs.length:=by
  rcases Nat.lt_or_ge t vs.length with k|k
  ·exact k
  rw [List.getElem?_eq_none k] at h1;simp at h1
 refine ⟨by omega,?_⟩
 have:(vs.toArray++Array.replicate (fn.ntmps - vs.toArray.size) undef).getD t undef=u:=by
  rw [Array.getD_eq_getD_getElem?,Array.getElem?_append_left (by simpa using hlt)]
  simp [h1]
 rw [this];exact h2
end
inductive MRel (F:EH):List (ByteArray × AV)→List MapEntry→Prop
 | nil:MRel F [] []
 | cons {k:ByteArray} {v:AV} {e:MapEntry} {kvs:List (ByteArray × AV)} {es:List MapEntry} (hk:e.key=.string k) (hv:Rel F v e.val) (h:MRel F kvs es):MRel F ((k,v)::kvs) (e::es)
theorem MRel.mono {F F':EH} (hF:Ext F F'):∀ {kvs:List (ByteArray × AV)} {es:List MapEntry},MRel F kvs es→MRel F' kvs es
 | _,_,.nil=>.nil
 | _,_,.cons hk hv h=>.cons hk (hv.mono hF) (MRel.mono hF h)
def MapP (kvs:List (ByteArray × AV)) (F:EH) (o:Obj):Prop:=∃ es clock,o=.map es clock∧MRel F kvs es.toList
theorem MapP.mono {kvs:List (ByteArray × AV)} {F F':EH} {o:Obj} (hF:Ext F F') (h:MapP kvs F o):MapP kvs F' o:=by
 obtain ⟨es,clock,h1,h2⟩:=h
 exact ⟨es,clock,h1,h2.mono hF⟩
section
variable {P:Program} {o:Oper} {al:Sl} {M:Mem} {K:AV→Mem→Prop}
end
theorem op_makeIface {P:Program} {al:Sl} {M:Mem} {K:AV→Mem→Prop} {o:Oper} {x:Operand} {t:TypeId} {k:IntKind} {v:Value} (ho:o.op=.makeInterface t x) (ht:P.underlying t=some (.int k)) (hx:al.ev x=some (.val v)) (q:K (.val (.iface t v)) M):OpT P o al M K :=
 OpT.plain fun n B F Mf ac w hi hs=>⟨_,_,by simp [execOp,ho,Zq hs hx,Instr.makeInterface,run_underlying ht,Result.andThen],q,.val _⟩
section
variable {ro:Option Nat} {P:Program} {n:Nat} {al:Sl} {M:Mem} {ops:Array Oper} {Q:Exit→Sl→Mem→Prop} {o:Oper} {rest:List Oper}
theorem AOpsX.st (d:Nat) (hg:o.guard=none) (hd:o.dst=some d) (hn:Nat.blt d n=true) (h:OpT P o al M (fun v M'=>AOpsX ro P n ops Q rest ((d,v)::al) M')):AOpsX ro P n ops Q (o::rest) al M :=
 AOpsX.step hg (by rw [hd];simpa [Nat.blt_eq] using hn) (by rw [hd];exact h)
theorem AOpsX.st0 (hg:o.guard=none) (hd:o.dst=none) (h:OpT P o al M (fun _ M'=>AOpsX ro P n ops Q rest al M')):AOpsX ro P n ops Q (o::rest) al M :=
 AOpsX.step hg (by rw [hd];rfl) (by rw [hd];exact h)
theorem AOpsX.cl (d:Nat) {f:FuncId} {xs:List Operand} {ts:Array TypeId} {vs vs':List AV} (is:List Nat) {M1 M2:Mem} {R:AV→Mem→Prop} {W:List PanicEntry→Prop} (hg:o.guard=none) (hd:o.dst=some d) (hn:Nat.blt d n=true) (ho:o.op=.call { callee:=.value (.func f),args:=xs.toArray,argTypes:=ts }) (hx:xs.mapM al.ev=some vs) (hp:pick is M=some (M1,M2)) (hc:ACallX P f vs' M1 R W) (hl:Les vs vs')
    (p:∀ chain,W chain→Q (.panic chain) al M2) (q:∀ v M',R v M'→AOpsX ro P n ops Q rest ((d,v)::al) (M'++M2)):AOpsX ro P n ops Q (o::rest) al M :=
 AOpsX.call is hg (by rw [hd];simpa [Nat.blt_eq] using hn) ho hx hp hc hl p (by rw [hd];exact q)
theorem AOpsX.never (d:Nat) {f:FuncId} {xs:List Operand} {ts:Array TypeId} {vs vs':List AV} {W:List PanicEntry→Prop} (hg:o.guard=none) (hd:o.dst=some d) (hn:Nat.blt d n=true) (ho:o.op=.call { callee:=.value (.func f),args:=xs.toArray,argTypes:=ts }) (hx:xs.mapM al.ev=some vs) (hc:ACallX P f vs' [] (fun _ _=>False) W) (hl:Les vs vs')
    (p:∀ chain,W chain→Q (.panic chain) al M):AOpsX ro P n ops Q (o::rest) al M :=
 AOpsX.cl d [] (M1:=[]) (M2:=M) hg hd hn ho hx rfl hc hl p (fun _ _ h=>h.elim)
end
section
variable {P:Program} {n:Nat} {al:Sl} {M:Mem}
def Caught (P:Program) (d:Deferred) (chain:List PanicEntry) (M:Mem) (K:Mem→Prop):Prop :=
 ∃ fv cap f args,d.target=.fn fv cap∧(∀ w,(invoke d.target d.args).run P w=.ok (.enter f args) w)∧∀ (B:Nat) (F:EH) (Mf:Mem) (w:World),Inv B F (M++Mf) w →
  CallsDIn (RF none) 0 P f args (.panicking chain) w fun e u' w'=>(∃ v,e=.returned v)∧settle u'=.returning∧∃ M' F',K M'∧Ext F F'∧Inv B F' (M'++Mf) w'∧Below B w w'
def OutD (P:Program) (fn:Func) (R:AV→Mem→Prop) (d:Deferred):Exit→Sl→Mem→Prop
 | .panic chain,al,M=>Caught P d chain M fun M'=>∃ vs v M'',AResL P al M' fn.results.toList vs∧Le (oneOf vs) v∧MLe M' M''∧R v M''
 | e,al,M=>Idle P d∧Out P fn R e al M
def ptrD (g:FuncId) (bs:List Nat):Deferred:=⟨.fn (.func g) (bs.map fun b=>Value.pointer (some ⟨b,0,none⟩)).toArray,#[]⟩
theorem rels_ptrs {F:EH}:∀ {bs:List Nat} {vs:List Value},Rels F (bs.map fun b=>.ptr b 0) vs→vs=bs.map fun b=>Value.pointer (some ⟨b,0,none⟩)
 | [],_,h=>by cases h;rfl
 | b::bs,_,h=>by
  cases h with
  | cons h1 h2 =>
   cases h1
   rw [rels_ptrs h2];rfl
def AOpsD (P:Program) (n:Nat) (ops:Array Oper) (Q:Deferred→Sl→Mem→Prop) (l:List Oper) (al:Sl) (M:Mem):Prop :=
 ∀ (B:Nat) (F:EH) (Mf:Mem) (a:Act) (w:World),Inv B F (M++Mf) w→Slots n F al a.tmps →
  wpListIn (RF none) 0 P ops (fun e a' w'=>e=.normal∧∃ d,Post n B F Mf w (d::a.defers) (Q d) a' w') l a w
def ACodeD (P:Program) (n:Nat) (c:Code) (Q:Deferred→Exit→Sl→Mem→Prop) (al:Sl) (M:Mem):Prop :=
 ∀ (B:Nat) (F:EH) (Mf:Mem) (a:Act) (w:World),Inv B F (M++Mf) w→Slots n F al a.tmps →
  c.wpIn (RF none) 0 P (fun e a' w'=>∃ d,PostD n B F Mf w (d::a.defers) (Q d e) a' w') a w
theorem AOpsD.step {ops:Array Oper} {Q:Deferred→Sl→Mem→Prop} {o:Oper} {rest:List Oper} (hg:o.guard=none) (hd:o.dst.all (·<n)=true)
    (h:OpT P o al M (fun v M'=>AOpsD P n ops Q rest (al.put o.dst v) M')):AOpsD P n ops Q (o::rest) al M:=by
 intro B F Mf a w hi hs
 refine wpListIn_plain hg fun K hK=>?_
 refine wp_exits (Oper.wpIn_mono ?_ (h n B F Mf a w hi hs none))
 rintro a' w' ⟨u,v,M',F',rfl,hk,hr,hF,hi',hb⟩
 refine hK _ _ ?_
 have:=hk B F' Mf (a.put o.dst u) w' hi' ((hs.mono hF).put hd hr)
 rw [put_defers] at this
 exact wpR_norm (fun e a w h=>h.1) (fun a w h=>by obtain ⟨h1,d,h3⟩:=h;exact ⟨h1,d,h3.next hF hb⟩) _ _ _ this
theorem AOpsD.defer {ops:Array Oper} {Q:Deferred→Sl→Mem→Prop} {o:Oper} {rest:List Oper} {x:Operand} {ts:Array TypeId} {g:FuncId} (bs:List Nat) (ho:o.op=.defer { callee:=.value x,args:=#[],argTypes:=ts }) (hg:o.guard=none) (hd:o.dst.all (·<n)=true)
    (hx:al.ev x=some (.clo (.func g) [] (bs.map fun b=>.ptr b 0))) (h:AOps P n ops (Q (ptrD g bs)) rest (al.put o.dst (.val undef)) M):AOpsD P n ops Q (o::rest) al M:=by
 intro B F Mf a w hi hs
 refine wpListIn_plain hg fun K hK=>?_
 have hr:=hs.ev hx
 generalize he:a.eval x=u at hr
 cases hr with
 | clo fn h1 h2 =>
  rename_i vf vc
  cases h1
  rw [rels_ptrs h2] at he
  refine ⟨fun _ _=>trivial,?_⟩
  have e:(o.semAt none a.eval).run P w=.ok (.defer (ptrD g bs)) w:=by
   simp only [Oper.semAt_none,execOp,ho,resolve,he,Deferred.ofValue,Sem.run_bind,Sem.run_pure,Result.andThen_ok,ptrD]
   simp
  rw [show (RF none).round=none from rfl,e]
  simp only [Oper.uponIn]
  refine hK _ _ ?_
  have:=h B F Mf (Act.put { a with defers:=ptrD g bs::a.defers } o.dst undef) w hi (Slots.put (a:={ a with defers:=ptrD g bs::a.defers }) hs hd (.val _)) none
  rw [put_defers] at this
  exact wpR_norm (fun e a w h=>h.1) (fun a w h=>⟨h.1,_,h.2⟩) _ _ _ this
theorem ACodeD.region {Q:Deferred→Exit→Sl→Mem→Prop} {id:Nat} {l:List Oper} (h:AOpsD P n l.toArray (fun d=>Q d .normal) l al M):ACodeD P n (.region id l.toArray false) Q al M:=by
 intro B F Mf a w hi hs
 refine wpIn_region_lit ?_
 exact wpR_norm (fun e a w h=>h.1) (fun a w h=>by obtain ⟨_,d,h3⟩:=h;exact ⟨d,h3.d⟩) _ _ _ (h B F Mf a w hi hs)
theorem ACodeD.seq {Q:Deferred→Exit→Sl→Mem→Prop} {x y:Code} (h:ACodeD P n x (fun d=>Then (ACode none P n y (Q d)) (Q d)) al M):ACodeD P n (.seq x y) Q al M:=by
 intro B F Mf a w hi hs
 refine wpIn_seq (Code.wpIn_mono (fun e a' w' hp=>?_) (h B F Mf a w hi hs))
 obtain ⟨d,hp⟩:=hp
 cases e with
 | normal =>
  obtain ⟨Ds,F',al',M',h1,h2,h3,h4,h5,h6⟩:=hp
  exact Code.wpIn_mono (fun e a'' w'' hp=>⟨d,PostD.next h2 h6 (by rw [← h5];exact hp)⟩) (h1 B F' _ a' w' h3 h4)
 | exit id=>exact ⟨d,hp⟩
 | goto l=>exact ⟨d,hp⟩
 | ret=>exact ⟨d,hp⟩
 | panic c=>exact ⟨d,hp⟩
 | outgrown=>exact ⟨d,hp⟩
theorem ACodeD.seqr {Q:Deferred→Exit→Sl→Mem→Prop} {y:Code} {id:Nat} {l:List Oper} (h:AOps P n l.toArray (fun al M=>ACodeD P n y Q al M) l al M):ACodeD P n (.seq (.region id l.toArray false) y) Q al M:=by
 intro B F Mf a w hi hs
 refine wpIn_seq (wpIn_region_lit (wpR_norm (fun e a w h=>h.1) (fun a' w' h=>?_) _ _ _ (h B F Mf a w hi hs none)))
 obtain ⟨_,F',al',M',h1,h2,h3,h4,h5,h6⟩:=h
 refine Code.wpIn_mono (fun e a'' w'' hp=>?_) (h1 B F' Mf a' w' h3 h4)
 obtain ⟨d,hp⟩:=hp
 refine ⟨d,PostD.next (Ds:=[]) h2 h6 ?_⟩
 rw [← h5];exact hp
theorem ACall.enterD {f : FuncId} {fn : Func} {c : Code} {n : Nat} {args : List AV} {R : AV → Mem → Prop} (hf : P.funcs[f]? = some fn) (hb : fn.body = some c) (hname : (fn.name == "runtime.NumGoroutine") = false) (hn : fn.ntmps = n) (hl : args.length ≤ n)
    (h:ACodeD P n c (OutD P fn R) (argSl 0 args) M):ACall P f args M R:=by
 refine ⟨enters_of hf hname (by rw [hb];rfl),fun B F Mf w vs hi hr=>?_⟩
 refine (callsIn_RF (ro:=none) (n:=0)).1 (callsIn_of_wp_marks hf hb trivial (Code.wpIn_mono (fun e a' w' hp=>?_) (h B F Mf _ w hi ?_)))
 ·have shut:∀ (u:FrameMode) (S:Ending→World→Prop) (d:Deferred) (Ds:List Nat) (w':World) (F':EH) (M':Mem),u≠.run→Inv B F' (M'++(Ds.map spent++Mf)) w'→Below B w w' →
      (∀ w',Inv B F' (M'++Mf) w'→Below B w w'→LeavesInM (RF none) 0 P fn a'.tmps S [d] u w') →
      LeavesInM (RF none) 0 P fn a'.tmps S (Ds.map mark++[d]) u w':=by
   intro u S d Ds
   induction Ds with
   | nil=>intro w' F' M' hu h3 h6 k;exact k w' h3 h6
   | cons D Ds ih =>
    intro w' F' M' hu h3 h6 k
    have h3':Inv B F' (spent D::(M'++(Ds.map spent++Mf))) w':=h3.perm (List.perm_middle (a:=spent D) (l₁:=M') (l₂:=Ds.map spent++Mf))
    obtain ⟨q1,q2,_⟩:=h3'.objPut (.deferred none)
    obtain ⟨_,_,o,hobj,_,ho⟩:=h3'.ok _ (List.mem_cons_self)
    have ho:=ho F' (Ext.refl F')
    subst ho
    exact ⟨hu,.inl ⟨D,_,V,run_takeDeferred hobj,ih _ F' M' hu q1 (h6.trans q2) k⟩⟩
  obtain ⟨d,Ds,F',al',M',hq,h2,h3,h4,h5,h6⟩:=hp
  have key:Idle P d→(∃ vs v M'',AResL P al' M' fn.results.toList vs∧Le (oneOf vs) v∧MLe M' M''∧R v M'')→LeavesInM (RF none) 0 P fn a'.tmps (fun e w'=>∃ u v M' F',e=.returned u∧R v M'∧Rel F' v u∧Ext F F'∧Inv B F' (M'++Mf) w'∧Below B w w') a'.defers .returning w':=by
   rintro ⟨fv,cap,g,ar,hd1,hd2,hd3⟩ ⟨vs,v,M'',k1,k2,k3,k4⟩
   rw [h5]
   refine shut .returning _ d Ds w' F' M' by11 h3 h6 fun w2 h3 h6=>?_
   obtain ⟨u,j1,j2⟩:=results_run (P:=P) h3 h4 k1
   refine ⟨by simp,.inr ⟨fun h=>absurd h by9,fv,cap,g,ar,hd1,hd2 w2,fun _ _=>trivial,(hd3 w2).mono ?_⟩⟩
   rintro e u' w'' ⟨⟨x,rfl⟩,rfl,rfl⟩
   exact ⟨u,j2,u,v,M'',F',V,k4,k2 _ _ j1,h2,h3.le k3,h6⟩
  cases e with
  | normal=>exact key hq.1 hq.2
  | ret=>exact key hq.1 hq.2
  | exit id=>exact hq.2.elim
  | goto l=>exact hq.2.elim
  | panic c =>
   show LeavesInM (RF none) 0 P fn a'.tmps _ a'.defers (.panicking c) w'
   rw [h5]
   refine shut (.panicking c) _ d Ds w' F' M' by11 h3 h6 fun w2 h3 h6=>?_
   obtain ⟨fv,cap,g,ar,hd1,hd2,hd3⟩:=hq
   refine ⟨by simp,.inr ⟨fun h=>absurd h by9,fv,cap,g,ar,hd1,hd2 w2,fun _ _=>trivial,(hd3 B F' Mf w2 h3).mono ?_⟩⟩
   rintro e u' w'' ⟨⟨x,rfl⟩,hu,M2,F2,⟨vs,v,M'',k1,k2,k3,k4⟩,g2,g3,g6⟩
   show LeavesInM (RF none) 0 P fn a'.tmps _ [] (settle u') w''
   rw [hu]
   obtain ⟨u,j1,j2⟩:=results_run (P:=P) g3 (h4.mono g2) k1
   exact ⟨u,j2,u,v,M'',F2,V,k4,k2 _ _ j1,h2.trans g2,g3.le k3,h6.trans g6⟩
  | outgrown=>exact hq.2.elim
 have hlen:=hr.len
 refine ⟨by simp [hn];omega,fun t v e=>?_⟩
 obtain ⟨_,e⟩:=argSl_get args 0 t v e
 obtain ⟨u,h1,h2⟩:=hr.get (i:=t) (a:=v) (by simpa using e)
 have hlt:t<vs.length:=by
  rcases Nat.lt_or_ge t vs.length with k|k
  ·exact k
  rw [List.getElem?_eq_none k] at h1;simp at h1
 refine ⟨by omega,?_⟩
 have:(vs.toArray++Array.replicate (fn.ntmps - vs.toArray.size) undef).getD t undef=u:=by
  rw [Array.getD_eq_getD_getElem?,Array.getElem?_append_left (by simpa using hlt)]
  simp [h1]
 rw [this];exact h2
def ACodeS (P:Program) (n:Nat) (c:Code) (Q:Sl→Mem→Prop) (al:Sl) (M:Mem):Prop :=
 ∀ (B:Nat) (F:EH) (Mf:Mem) (a:Act) (w:World) (cs:List Frame) (T:Exit→Act→List Frame→World→Prop),Inv B F (M++Mf) w→Slots n F al a.tmps →
  (∀ a' w',Post n B F Mf w a.defers Q a' w'→T .normal a' cs w')→c.wpSIn (RF none) 0 P T a cs w
theorem ACodeS.region {Q:Sl→Mem→Prop} {id:Nat} {l:List Oper} (h:AOps P n l.toArray Q l al M):ACodeS P n (.region id l.toArray false) Q al M:=by
 intro B F Mf a w cs T hi hs hT
 refine wpSIn_of_wpIn V (wpIn_region_lit (wpR_norm (fun e a w h=>h.1) (fun a' w' h=>?_) _ _ _ (h B F Mf a w hi hs none)))
 exact hT _ _ h.2
theorem ACodeS.seq {Q:Sl→Mem→Prop} {x y:Code} (h:ACodeS P n x (fun al M=>ACodeS P n y Q al M) al M):ACodeS P n (.seq x y) Q al M:=by
 intro B F Mf a w cs T hi hs hT
 refine wpSIn_seq (h B F Mf a w cs _ hi hs fun a' w' hp=>?_)
 obtain ⟨F',al',M',h1,h2,h3,h4,h5,h6⟩:=hp
 exact h1 B F' Mf a' w' cs T h3 h4 fun a'' w'' hp=>hT _ _ (by rw [h5] at hp;exact hp.next h2 h6)
theorem ACodeS.cond_t {Q:Sl→Mem→Prop} {c:Operand} {x y:Code} (hc:al.ev c=some (.val (.bool true))) (h:ACodeS P n x Q al M):ACodeS P n (.cond c x y) Q al M:=by
 intro B F Mf a w cs T hi hs hT
 exact wpSIn_cond (t:=true) (Zq hs hc) (h B F Mf a w cs T hi hs hT)
theorem ACodeS.cond_f {Q:Sl→Mem→Prop} {c:Operand} {x y:Code} (hc:al.ev c=some (.val (.bool false))) (h:ACodeS P n y Q al M):ACodeS P n (.cond c x y) Q al M:=by
 intro B F Mf a w cs T hi hs hT
 exact wpSIn_cond (t:=false) (Zq hs hc) (h B F Mf a w cs T hi hs hT)
theorem ACodeS.skip {Q:Sl→Mem→Prop} (h:Q al M):ACodeS P n .skip Q al M:=by
 intro B F Mf a w cs T hi hs hT
 exact wpSIn_of_wpIn V (wpIn_skip (hT _ _ ⟨F,al,M,h,Ext.refl F,hi,hs,V,Below.refl _ _⟩))
theorem op_inil {o:Oper} {K:AV→Mem→Prop} {x:Operand} {t t' u:TypeId} {v:Value} (ho:o.op=.binOp .neq t x (.const .nilIface) t') (ht:P.underlying t=some (.interface (P.methodsAt t))) (hx:al.ev x=some (.val (.iface u v))) (q:K (.val (.bool true)) M):OpT P o al M K :=
 OpT.plain fun n B F Mf ac w hi hs=>by
  have e1:=Zq hs hx
  have e2:ac.eval (.const .nilIface)=.nilIface:=rfl
  refine ⟨_,_,?_,q,.val _⟩
  have e3:=run_equal_held_nil w t u v ht
  simp [execOp,ho,e1,e2,eqGuard,binOp,e3]
theorem op_tassert {o:Oper} {K:AV→Mem→Prop} {x:Operand} {t u:TypeId} {k:IntKind} {v:Value} (ho:o.op=.typeAssert x t u true) (hu:P.underlying u=some (.int k)) (hx:al.ev x=some (.val (.iface u v))) (q:K (.tup [.val v,.val (.bool true)]) M):OpT P o al M K :=
 OpT.plain fun n B F Mf ac w hi hs=>⟨.tuple #[v,.bool true],_,by simp [execOp,ho,Zq hs hx,Instr.typeAssert,run_underlying hu,Result.andThen],q,.tup (.cons (.val _) (.cons (.val _) .nil))⟩
theorem enters_ptr {g:FuncId} (bs:List Nat) (h:Enters P g) (w:World):(invoke (ptrD g bs).target (ptrD g bs).args).run P w=.ok (.enter g (bs.map fun b=>Value.pointer (some ⟨b,0,none⟩)).toArray) w:=by
 have:=h (#[]++(bs.map fun b=>Value.pointer (some ⟨b,0,none⟩)).toArray) w
 simp only [invoke,ptrD]
 rw [show (#[]++(bs.map fun b=>Value.pointer (some ⟨b,0,none⟩)).toArray)=(bs.map fun b=>Value.pointer (some ⟨b,0,none⟩)).toArray by simp] at this ⊢
 exact this
theorem idle_ptr {g:FuncId} {bs:List Nat} (h:IdleC P g bs.length):Idle P (ptrD g bs):=⟨_,_,g,_,rfl,enters_ptr bs h.1,fun w=>h.2 _ w by11⟩
theorem caught_ptr {g:FuncId} {bs:List Nat} {chain:List PanicEntry} {M:Mem} {K:Mem→Prop} (he:Enters P g) (h:∀ (B:Nat) (F:EH) (Mf:Mem) (w:World),Inv B F (M++Mf) w →
    CallsDIn (RF none) 0 P g (bs.map fun b=>Value.pointer (some ⟨b,0,none⟩)).toArray (.panicking chain) w fun e u' w'=>(∃ v,e=.returned v)∧settle u'=.returning∧∃ M' F',K M'∧Ext F F'∧Inv B F' (M'++Mf) w'∧Below B w w'):Caught P (ptrD g bs) chain M K:=⟨_,_,g,_,rfl,enters_ptr bs he,h⟩
theorem Caught.mono {d:Deferred} {chain:List PanicEntry} {M:Mem} {K K':Mem→Prop} (h:Caught P d chain M K) (hk:∀ M',K M'→K' M'):Caught P d chain M K':=by
 obtain ⟨fv,cap,f,args,h1,h2,h3⟩:=h
 refine ⟨fv,cap,f,args,h1,h2,fun B F Mf w hi=>(h3 B F Mf w hi).mono ?_⟩
 rintro e u' w' ⟨k1,k2,M',F',k3,k4⟩
 exact ⟨k1,k2,M',F',hk _ k3,k4⟩
theorem outD_panic {ro:Option Nat} {ks:List Kont} {fn:Func} {R:AV→Mem→Prop} {d:Deferred} {chain:List PanicEntry} (h:Caught P d chain M fun M'=>∃ vs v M'',AResL P al M' fn.results.toList vs∧Le (oneOf vs) v∧MLe M' M''∧R v M''):after ro P n ks (OutD P fn R d) (.panic chain) al M:=by
 rw [after_panic];exact h
end
def wrong (k:Int):List PanicEntry:=[{ v:=.iface 69 (.int .i64 k),recovered:=false }]
theorem fail_c (v:AV) (k:Int):ACallX Try.prog 54 [v,.val (.int .i64 k)] [] (fun _ _=>False) (fun c=>c=wrong k):=by
 refine ACallX.enter Try.func54 V (by kernel_rfl) V (Yj V) ?_
 refine Q8 ?_
 refine QO ?_
 exact AOpsX.step V V (Zg V V (AOpsX.step V V (op_makeIface V tu_69 V (AOpsX.panic V V V (Ze _ V)))))
open Classical in
noncomputable def firstQ {α:Type} (p:α→Prop):List α→Nat→Int
 | [],_ => -1
 | x::xs,i=>if p x then i else firstQ p xs (i+1)
theorem firstQ_nil {α:Type} (p:α→Prop) (i:Nat):firstQ p [] i = -1:=rfl
theorem firstQ_yes {α:Type} {p:α→Prop} {x:α} {xs:List α} {i:Nat} (h:p x):firstQ p (x::xs) i=i:=by simp [firstQ,h]
theorem firstQ_no {α:Type} {p:α→Prop} {x:α} {xs:List α} {i:Nat} (h:¬ p x):firstQ p (x::xs) i=firstQ p xs (i+1):=by simp [firstQ,h]
theorem firstQ_iff {α:Type} (p:α→Prop):∀ (l:List α) (i:Nat),0≤firstQ p l i↔∃ x∈l,p x
 | [],i=>by simp [firstQ]
 | x::xs,i=>by
  by_cases h:p x
  ·rw [firstQ_yes h];simp [h]
  rw [firstQ_no h,firstQ_iff p xs];simp [h]
theorem not_ex {α:Type} (p:α→Prop) (l:List α):(¬ ∃ x∈l,¬ p x)↔∀ x∈l,p x:=by
 constructor
 ·intro h x hx
  exact Classical.byContradiction fun k=>h ⟨x,hx,k⟩
 rintro h ⟨x,hx,k⟩
 exact k (h x hx)
theorem IdxF_S (p:ByteArray→Prop) (g:FuncId) (fs cs:List AV) (l:List ByteArray) (hg:∀ x∈l,BCall Try.prog g (fs++[(.val (.string x))]++cs) (p x)):PCall Try.prog 58 [.seq 1 (strs l),.clo (.func g) fs cs] (.val (.int .i64 (firstQ p l 0))):=by
 have hl:=strs_len l
 refine Zc Try.func58 V (by kernel_rfl) V (Yj V) ?_
 refine Q8 ?_
 refine c_lens (t:=0) V (.seq _ _) (fun hmax=>?_)
 refine Qh ?_
 refine Qat ?_
 refine Qax ?_;intro n7
 refine QG ?_
 apply Ya (rg [(2,5),(8,11)]) (σ:=Nat) (fun zz=>match zz with|i=>[(8,.val (.int .i64 i))]) (fun zz=>match zz with|i=>i≤l.length∧firstQ p (l.drop i) i=firstQ p l 0) (fun zz=>match zz with|i=>l.length - i) (0)
 ·repeat' (first|exact Ym|apply Yk rfl|apply Yl rfl)
 ·exact ⟨by omega,V⟩
 ·exact by2
 rintro i hI
 try dsimp only [List.cons_append,List.nil_append] at hI ⊢
 obtain ⟨hi,hu⟩:=hI
 refine Qy ?_;intro c9 h9
 refine Qf ?_
 obtain ⟨rfl,g9⟩|⟨rfl,g9⟩:=Za h9
 ·refine QZ ?_
  refine QU ?_
  refine Qi ?_
  refine Zd V V (Yf _) by1 ⟨?_,V⟩
  rw [List.drop_eq_nil_of_le by10] at hu
  rw [← hu,firstQ_nil]
 refine Qw ?_
 obtain ⟨y,hxy⟩:=Zm (l:=l) (i:=i) by5
 have hcy:=strs_get hxy
 have hmy:=Yn hxy
 refine Qt ?_
 refine Qp ?_
 rw [drop_get hxy] at hu
 refine Qag ?_
 refine Qa ?_
 refine Qca ?_
 refine Q9 ?_
 refine Zb 16 V V V (op_callvb (xs:=[.tmp 15]) V V V (hg _ hmy) by0 ?_);intro c16 h16
 refine Qb ?_
 obtain ⟨rfl,g16⟩|⟨rfl,g16⟩:=Za h16
 ·refine Qr ?_
  refine Q0 ?_
  exact ⟨i+1,⟨by omega,by rw [← hu,firstQ_no g16]⟩,by simp;omega,by2,by1⟩
 refine Qz ?_
 refine QM ?_
 refine Qi ?_
 exact Zd V V (Yf _) by1 ⟨by rw [← hu,firstQ_yes g16],V⟩
theorem ConF_S (p:ByteArray→Prop) (g:FuncId) (fs cs:List AV) (l:List ByteArray) (hg:∀ x∈l,BCall Try.prog g (fs++[(.val (.string x))]++cs) (p x)):BCall Try.prog 34 [.seq 1 (strs l),.clo (.func g) fs cs] (∃ x∈l,p x):=by
 have H:=IdxF_S p g fs cs l hg
 have hf:=firstQ_iff p l 0
 refine Zc Try.func34 V (by kernel_rfl) V (Yj V) ?_
 refine Qj ?_
 refine Q1 ?_
 refine Qa ?_
 refine Zb 7 V V V (Zl (xs:=[.tmp 5,.tmp 6]) V V (H) by0 ?_)
 refine Qac ?_;intro c8 h8
 refine Qi ?_
 exact Zd V V (Yf _) by1 ⟨⟨_,h8.trans hf,V⟩,V⟩
theorem Evn_S (p:Prop) (g:FuncId) (fs cs:List AV) (x:ByteArray) (hg:BCall Try.prog g (fs++[(.val (.string x))]++cs) p):BCall Try.prog 35 [(.val (.string x)),.cptr [.clo (.func g) fs cs]] (¬ p):=by
 refine Zc Try.func35 V (by kernel_rfl) V (Yj V) ?_
 refine Qj ?_
 refine Qau ?_
 refine Q9 ?_
 refine Qa ?_
 refine Zb 6 V V V (op_callvb (xs:=[.tmp 5]) V V V (hg) by0 ?_);intro c6 h6
 refine Qak ?_;intro c7 h7
 try replace h7:=nott h7 h6
 refine Qi ?_
 exact Zd V V (Yf _) by1 ⟨⟨_,h7,V⟩,V⟩
theorem Ev_S (p:ByteArray→Prop) (g:FuncId) (fs cs:List AV) (l:List ByteArray) (hg:∀ x∈l,BCall Try.prog g (fs++[(.val (.string x))]++cs) (p x)):BCall Try.prog 14 [.seq 1 (strs l),.clo (.func g) fs cs] (∀ x∈l,p x):=by
 have H:=ConF_S (fun x=>¬ p x) 35 [] [.cptr [.clo (.func g) fs cs]] l (fun x hx=>Evn_S (p x) g fs cs x (hg x hx))
 refine Zc Try.func14 V (by kernel_rfl) V (Yj V) ?_
 refine Qj ?_
 refine Qcb ?_
 refine Q1 ?_
 refine QbR ?_
 refine Zb 7 V V V (Zs (xs:=[.tmp 5,.tmp 6]) V V (H) by0 ?_);intro c7 h7
 refine Qak ?_;intro c8 h8
 try replace h8:=nott h8 h7
 refine Qi ?_
 exact Zd V V (Yf _) by1 ⟨⟨_,h8.trans (not_ex p l),V⟩,V⟩
theorem IdxF_Ato (p:Ato→Prop) (g:FuncId) (fs cs:List AV) (l:List Ato) (hg:∀ x∈l,BCall Try.prog g (fs++[(.agg (x).cells)]++cs) (p x)):PCall Try.prog 76 [.seq 2 (Ato.cellss l),.clo (.func g) fs cs] (.val (.int .i64 (firstQ p l 0))):=by
 have hl:=Ato.cellss_len l
 refine Zc Try.func76 V (by kernel_rfl) V (Yj V) ?_
 refine Q8 ?_
 refine c_lens (t:=0) V (.seq _ _) (fun hmax=>?_)
 refine Qh ?_
 refine Qat ?_
 refine Qay ?_;intro n7
 refine QG ?_
 apply Ya (rg [(2,5),(8,11)]) (σ:=Nat) (fun zz=>match zz with|i=>[(8,.val (.int .i64 i))]) (fun zz=>match zz with|i=>i≤l.length∧firstQ p (l.drop i) i=firstQ p l 0) (fun zz=>match zz with|i=>l.length - i) (0)
 ·repeat' (first|exact Ym|apply Yk rfl|apply Yl rfl)
 ·exact ⟨by omega,V⟩
 ·exact by2
 rintro i hI
 try dsimp only [List.cons_append,List.nil_append] at hI ⊢
 obtain ⟨hi,hu⟩:=hI
 refine Qy ?_;intro c9 h9
 refine Qf ?_
 obtain ⟨rfl,g9⟩|⟨rfl,g9⟩:=Za h9
 ·refine QZ ?_
  refine QU ?_
  refine Qi ?_
  refine Zd V V (Yf _) by1 ⟨?_,V⟩
  rw [List.drop_eq_nil_of_le by10] at hu
  rw [← hu,firstQ_nil]
 refine Qw ?_
 obtain ⟨⟨yk,yn⟩,hxy⟩:=Zm (l:=l) (i:=i) by5
 have hcy:=Ato.cellss_get hxy
 have hmy:=Yn hxy
 refine Qt ?_
 refine Qp ?_
 rw [drop_get hxy] at hu
 refine Qag ?_
 refine Qa ?_
 refine QcF ?_
 refine Zb 15 V V V (op_load_c (cs':=[_,_]) V ta_41 V V V (Zb 16 V V V (op_callvb (xs:=[.tmp 15]) V V V (hg _ hmy) by0 ?_)));intro c16 h16
 refine Qb ?_
 obtain ⟨rfl,g16⟩|⟨rfl,g16⟩:=Za h16
 ·refine Qr ?_
  refine Q0 ?_
  exact ⟨i+1,⟨by omega,by rw [← hu,firstQ_no g16]⟩,by simp;omega,by2,by1⟩
 refine Qz ?_
 refine QM ?_
 refine Qi ?_
 exact Zd V V (Yf _) by1 ⟨by rw [← hu,firstQ_yes g16],V⟩
theorem ConF_Ato (p:Ato→Prop) (g:FuncId) (fs cs:List AV) (l:List Ato) (hg:∀ x∈l,BCall Try.prog g (fs++[(.agg (x).cells)]++cs) (p x)):BCall Try.prog 67 [.seq 2 (Ato.cellss l),.clo (.func g) fs cs] (∃ x∈l,p x):=by
 have H:=IdxF_Ato p g fs cs l hg
 have hf:=firstQ_iff p l 0
 refine Zc Try.func67 V (by kernel_rfl) V (Yj V) ?_
 refine Qj ?_
 refine Q1 ?_
 refine Qa ?_
 refine Zb 7 V V V (Zl (xs:=[.tmp 5,.tmp 6]) V V (H) by0 ?_)
 refine Qac ?_;intro c8 h8
 refine Qi ?_
 exact Zd V V (Yf _) by1 ⟨⟨_,h8.trans hf,V⟩,V⟩
theorem Evn_Ato (p:Prop) (g:FuncId) (fs cs:List AV) (x:Ato) (hg:BCall Try.prog g (fs++[(.agg (x).cells)]++cs) p):BCall Try.prog 68 [(.agg (x).cells),.cptr [.clo (.func g) fs cs]] (¬ p):=by
 obtain ⟨yk,yn⟩:=x
 refine Zc Try.func68 V (by kernel_rfl) V (Yj V) ?_
 refine Qj ?_
 refine Zb 2 V V V (op_boxe (cs':=[_,_]) V V V V ?_);intro b2
 refine Qau ?_
 refine Q9 ?_
 refine QcG ?_
 refine Zb 6 V V V (op_callvb (xs:=[.tmp 5]) V V V (hg) by0 ?_);intro c6 h6
 refine Qak ?_;intro c7 h7
 try replace h7:=nott h7 h6
 refine Qi ?_
 exact Zd V V (Yf _) by1 ⟨⟨_,h7,V⟩,V⟩
theorem Ev_Ato (p:Ato→Prop) (g:FuncId) (fs cs:List AV) (l:List Ato) (hg:∀ x∈l,BCall Try.prog g (fs++[(.agg (x).cells)]++cs) (p x)):BCall Try.prog 44 [.seq 2 (Ato.cellss l),.clo (.func g) fs cs] (∀ x∈l,p x):=by
 have H:=ConF_Ato (fun x=>¬ p x) 68 [] [.cptr [.clo (.func g) fs cs]] l (fun x hx=>Evn_Ato (p x) g fs cs x (hg x hx))
 refine Zc Try.func44 V (by kernel_rfl) V (Yj V) ?_
 refine Qj ?_
 refine Qcb ?_
 refine Q1 ?_
 refine QbR ?_
 refine Zb 7 V V V (Zs (xs:=[.tmp 5,.tmp 6]) V V (H) by0 ?_);intro c7 h7
 refine Qak ?_;intro c8 h8
 try replace h8:=nott h8 h7
 refine Qi ?_
 exact Zd V V (Yf _) by1 ⟨⟨_,h8.trans (not_ex p l),V⟩,V⟩
theorem IdxF_Is (p:Is→Prop) (g:FuncId) (fs cs:List AV) (l:List Is) (hg:∀ x∈l,BCall Try.prog g (fs++[(.agg (x).cells)]++cs) (p x)):PCall Try.prog 66 [.seq 7 (Is.cellss l),.clo (.func g) fs cs] (.val (.int .i64 (firstQ p l 0))):=by
 have hl:=Is.cellss_len l
 refine Zc Try.func66 V (by kernel_rfl) V (Yj V) ?_
 refine Q8 ?_
 refine c_lens (t:=0) V (.seq _ _) (fun hmax=>?_)
 refine Qh ?_
 refine Qat ?_
 refine QaG ?_;intro n7
 refine QG ?_
 apply Ya (rg [(2,5),(8,11)]) (σ:=Nat) (fun zz=>match zz with|i=>[(8,.val (.int .i64 i))]) (fun zz=>match zz with|i=>i≤l.length∧firstQ p (l.drop i) i=firstQ p l 0) (fun zz=>match zz with|i=>l.length - i) (0)
 ·repeat' (first|exact Ym|apply Yk rfl|apply Yl rfl)
 ·exact ⟨by omega,V⟩
 ·exact by2
 rintro i hI
 try dsimp only [List.cons_append,List.nil_append] at hI ⊢
 obtain ⟨hi,hu⟩:=hI
 refine Qy ?_;intro c9 h9
 refine Qf ?_
 obtain ⟨rfl,g9⟩|⟨rfl,g9⟩:=Za h9
 ·refine QZ ?_
  refine QU ?_
  refine Qi ?_
  refine Zd V V (Yf _) by1 ⟨?_,V⟩
  rw [List.drop_eq_nil_of_le by10] at hu
  rw [← hu,firstQ_nil]
 refine Qw ?_
 obtain ⟨⟨yop,ya,yb,yn,yar,yfs,ycp⟩,hxy⟩:=Zm (l:=l) (i:=i) by5
 have hcy:=Is.cellss_get hxy
 have hmy:=Yn hxy
 refine Qt ?_
 refine Qp ?_
 rw [drop_get hxy] at hu
 refine Qag ?_
 refine Qa ?_
 refine QbI ?_
 refine Qbm ?_
 refine Zb 16 V V V (op_callvb (xs:=[.tmp 15]) V V V (hg _ hmy) by0 ?_);intro c16 h16
 refine Qb ?_
 obtain ⟨rfl,g16⟩|⟨rfl,g16⟩:=Za h16
 ·refine Qr ?_
  refine Q0 ?_
  exact ⟨i+1,⟨by omega,by rw [← hu,firstQ_no g16]⟩,by simp;omega,by2,by1⟩
 refine Qz ?_
 refine QM ?_
 refine Qi ?_
 exact Zd V V (Yf _) by1 ⟨by rw [← hu,firstQ_yes g16],V⟩
theorem ConF_Is (p:Is→Prop) (g:FuncId) (fs cs:List AV) (l:List Is) (hg:∀ x∈l,BCall Try.prog g (fs++[(.agg (x).cells)]++cs) (p x)):BCall Try.prog 39 [.seq 7 (Is.cellss l),.clo (.func g) fs cs] (∃ x∈l,p x):=by
 have H:=IdxF_Is p g fs cs l hg
 have hf:=firstQ_iff p l 0
 refine Zc Try.func39 V (by kernel_rfl) V (Yj V) ?_
 refine Qj ?_
 refine Q1 ?_
 refine Qa ?_
 refine Zb 7 V V V (Zl (xs:=[.tmp 5,.tmp 6]) V V (H) by0 ?_)
 refine Qac ?_;intro c8 h8
 refine Qi ?_
 exact Zd V V (Yf _) by1 ⟨⟨_,h8.trans hf,V⟩,V⟩
theorem Evn_Is (p:Prop) (g:FuncId) (fs cs:List AV) (x:Is) (hg:BCall Try.prog g (fs++[(.agg (x).cells)]++cs) p):BCall Try.prog 40 [(.agg (x).cells),.cptr [.clo (.func g) fs cs]] (¬ p):=by
 obtain ⟨yop,ya,yb,yn,yar,yfs,ycp⟩:=x
 refine Zc Try.func40 V (by kernel_rfl) V (Yj V) ?_
 refine Qj ?_
 refine Zb 2 V V V (op_boxe (cs':=[_,_,_,_,_,_,_]) V V V V ?_);intro b2
 refine Qau ?_
 refine Q9 ?_
 refine Qcc ?_
 refine Zb 6 V V V (op_callvb (xs:=[.tmp 5]) V V V (hg) by0 ?_);intro c6 h6
 refine Qak ?_;intro c7 h7
 try replace h7:=nott h7 h6
 refine Qi ?_
 exact Zd V V (Yf _) by1 ⟨⟨_,h7,V⟩,V⟩
theorem Ev_Is (p:Is→Prop) (g:FuncId) (fs cs:List AV) (l:List Is) (hg:∀ x∈l,BCall Try.prog g (fs++[(.agg (x).cells)]++cs) (p x)):BCall Try.prog 17 [.seq 7 (Is.cellss l),.clo (.func g) fs cs] (∀ x∈l,p x):=by
 have H:=ConF_Is (fun x=>¬ p x) 40 [] [.cptr [.clo (.func g) fs cs]] l (fun x hx=>Evn_Is (p x) g fs cs x (hg x hx))
 refine Zc Try.func17 V (by kernel_rfl) V (Yj V) ?_
 refine Qj ?_
 refine Qcb ?_
 refine Q1 ?_
 refine QbR ?_
 refine Zb 7 V V V (Zs (xs:=[.tmp 5,.tmp 6]) V V (H) by0 ?_);intro c7 h7
 refine Qak ?_;intro c8 h8
 try replace h8:=nott h8 h7
 refine Qi ?_
 exact Zd V V (Yf _) by1 ⟨⟨_,h8.trans (not_ex p l),V⟩,V⟩
theorem iff_f {p:Prop} (h:¬ p):(false=true↔p):=by simp [h]
theorem iff_t {p:Prop} (h:p):(true=true↔p):=by simp [h]
section
variable {P:Program} {n:Nat} {al:Sl} {M:Mem} {o:Oper} {K:AV→Mem→Prop}
theorem BCall.yes {f:FuncId} {vs:List AV} {p:Prop} (h:BCall P f vs p) (hp:p):PCall P f vs (.val (.bool true)) :=
 h.mono (by rintro v M' ⟨⟨c,hc,rfl⟩,rfl⟩;exact ⟨by rw [hc.2 hp],rfl⟩)
theorem BCall.no {f:FuncId} {vs:List AV} {p:Prop} (h:BCall P f vs p) (hp:¬ p):PCall P f vs (.val (.bool false)) :=
 h.mono (by rintro v M' ⟨⟨c,hc,rfl⟩,rfl⟩;exact ⟨by cases c <;> simp_all,rfl⟩)
end
section
variable {P:Program} {n:Nat} {al:Sl} {M:Mem} {o:Oper} {K:AV→Mem→Prop}
def bts (xs:List Int):List (List AV):=xs.map fun b=>[.val (.int .u8 b)]
theorem bts_flat (xs:List Int):(bts xs).flatten=xs.map fun b=>AV.val (.int .u8 b):=by
 induction xs with
 | nil=>rfl
 | cons x xs ih=>unfold bts at *;rw [List.map_cons,List.flatten_cons,ih];rfl
theorem rels_vals {F:EH}:∀ {vs us:List Value},Rels F (vs.map AV.val) us→us=vs
 | [],us,h=>by cases h;rfl
 | v::vs,us,h=>by
  cases h with
  | cons h hs=>cases h;rw [rels_vals hs]
theorem op_bytestr {x:Operand} {t t' e:TypeId} {v:AV} {xs:List Int} (ho:o.op=.convert t t' x) (ht:P.underlying t=some (.slice e)) (he:P.underlying e=some (.int .u8)) (ht':P.underlying t'=some .string) (hx:al.ev x=some v) (hv:IsSeq v 1 (bts xs)) (h0:xs≠[]) (q:K (.val (.string (strOfNums xs))) M):OpT P o al M K :=
 OpT.plain fun n B F Mf ac w hi hs=>by
  have h:=hv.rel (hs.ev hx)
  generalize hu:ac.eval x=u at h
  generalize hes:bts xs=es at h
  cases h with
  | seq0 _ ao cap _=>exact absurd (by simpa [bts] using hes) h0
  | seq b off cap hm hn hl h h1 hcq =>
   subst hes
   rw [bts_flat,show (xs.map fun b=>AV.val (.int .u8 b))=(xs.map (Value.int .u8)).map AV.val from by simp] at h
   have:=rels_vals h
   subst this
   have hlen:(bts xs).length=xs.length:=by simp [bts]
   refine ⟨_,_,?_,q,.val _⟩
   have:=run_convert_bytes_arg (P:=P) w t e ht he b off xs.length cap xs rfl (fun i hi'=>hi.fix _ _ _ (hl i _ (by simp [hi']))) t' ht'
   simp [execOp,ho,hu,hlen,this]
end
end Go.Proofs.Ytadhakcmfkghbaa
namespace Go.Proofs.Ytadhakcmfkghbaa
open Go.RowKit
theorem rsameAtoms_c (xs ys:List Ato):BCall Try.prog 29 [.seq 2 (Ato.cellss xs),.seq 2 (Ato.cellss ys)] (xs=ys):=by
 have hlx:=Ato.cellss_len xs
 have hly:=Ato.cellss_len ys
 refine Zc Try.func29 V (by kernel_rfl) V (Yj V) ?_
 refine Q8 ?_
 refine c_lens (t:=0) V (.seq _ _) (fun hmax=>?_)
 refine Qh ?_
 refine Qat ?_
 refine Qay ?_;intro n7
 refine Qa ?_
 refine Qay ?_;intro n9
 refine Qbn ?_;intro c10 h10
 refine Qb ?_
 obtain ⟨rfl,g10⟩|⟨rfl,g10⟩:=Za h10
 ·refine QF ?_
  refine Qh ?_
  refine Qk ?_
  refine QK ?_
  apply Ya (rg [(2,39)]) (σ:=Nat) (fun zz=>match zz with|i=>[(5,.val (.int .i64 i))]) (fun zz=>match zz with|i=>i≤xs.length∧Upto xs ys i) (fun zz=>match zz with|i=>xs.length - i) (0)
  ·repeat' (first|exact Ym|apply Yk rfl|apply Yl rfl)
  ·exact ⟨by omega,Upto.zero _ _⟩
  ·exact by2
  rintro i hI
  try dsimp only [List.cons_append,List.nil_append] at hI ⊢
  obtain ⟨hi,hu⟩:=hI
  refine Ql ?_
  refine QM ?_
  refine Qa ?_
  refine Qay ?_;intro n13
  refine Qaq ?_;intro c14 h14
  refine Qb ?_
  obtain ⟨rfl,g14⟩|⟨rfl,g14⟩:=Za h14
  ·refine QZ ?_
   refine QU ?_
   refine Qi ?_
   exact Zd V V (Yf _) by1 ⟨⟨_,iff_t (hu.eq by10 by10),V⟩,V⟩
  refine Qw ?_
  obtain ⟨⟨xk,xn⟩,hxx⟩:=Zm (l:=xs) (i:=i) by5
  have hcx:=Ato.cellss_get hxx
  have hmx:=Yn hxx
  obtain ⟨⟨yk,yn⟩,hxy⟩:=Zm (l:=ys) (i:=i) by5
  have hcy:=Ato.cellss_get hxy
  have hmy:=Yn hxy
  refine c_boold 40 (¬ (xk=yk∧xn=yn)) tmix V ?_ _ _ V ?_
  ·skip
   refine Qv ?_
   refine Qv ?_
   refine QcH ?_
   refine QaO ?_
   refine Qv ?_
   refine Qv ?_
   refine QcH ?_
   refine QaO ?_
   refine DOps.cm 27 V V (fun _ q=>op_neq V V V q) ?_;intro c27 h27
   refine Qv ?_
   obtain ⟨rfl,g27⟩|⟨rfl,g27⟩:=Za h27
   ·skip
    refine QbH ?_
    refine QbH ?_
    refine QcI ?_
    refine Qa0 ?_
    refine QbH ?_
    refine QcI ?_
    refine Qam ?_
    refine DOps.gtc 39 V V V V (fun _ q=>op_neq V V V q) ?_;intro c39 h39
    refine Qab ?_
    show BoolQ _ _ _ _ _ _
    refine Yi V ?_ by3 by1
    simp_all;done
   skip
   refine QaC ?_
   refine QD ?_
   refine QD ?_
   refine QD ?_
   refine Qab ?_
   show BoolQ _ _ _ _ _ _
   refine Yi V ?_ by3 by1
   simp_all;done
  intro c40 h40
  refine Qd ?_
  obtain ⟨rfl,g40⟩|⟨rfl,g40⟩:=Za h40
  ·refine Qr ?_
   refine QW ?_
   refine Qd ?_
   refine Qt ?_
   refine QaP ?_
   refine QJ ?_
   exact ⟨i+1,⟨by omega,hu.succ hxx hxy (by obtain ⟨rfl,rfl⟩:=Classical.not_not.1 g40;rfl)⟩,by simp;omega,by2,by1⟩
  refine QB ?_
  exact Zd rfl rfl (Yf _) by1 ⟨⟨_,iff_f (fun e=>g40 (by subst e;rw [hxx] at hxy;cases hxy;exact ⟨rfl,rfl⟩)),rfl⟩,rfl⟩
 refine QB ?_
 exact Zd rfl rfl (Yf _) by1 ⟨⟨_,iff_f (fun e=>by subst e;omega),rfl⟩,rfl⟩
theorem rSame29_c (a b:Cd):BCall Try.prog 10 [.agg a.cells,.agg b.cells] (a=b):=by
 obtain ⟨is1,fu1,tx1,gl1,ys1,no1⟩:=a
 obtain ⟨is2,fu2,tx2,gl2,ys2,no2⟩:=b
 have hk:((Cd.mk is1 fu1 tx1 gl1 ys1 no1)=(Cd.mk is2 fu2 tx2 gl2 ys2 no2))=(gl1=gl2∧ys1=ys2∧no1=no2∧tx1=tx2∧fu1=fu2∧is1=is2):=propext (by constructor;(intro e;cases e;exact ⟨rfl,rfl,rfl,rfl,rfl,rfl⟩);(rintro ⟨rfl,rfl,rfl,rfl,rfl,rfl⟩;rfl))
 rw [hk]
 have hl1:=Is.cellss_len is1
 have hl2:=Is.cellss_len is2
 have hl3:=Cf.cellss_len fu1
 have hl4:=Cf.cellss_len fu2
 have hl5:=strs_len tx1
 have hl6:=strs_len tx2
 refine Zc Try.func10 V (by kernel_rfl) V (Yj V) ?_
 refine Q8 ?_
 refine c_lena (t:=0) (j:=0) V V (.seq _ _) (fun hmax=>?_)
 refine c_lena (t:=0) (j:=1) V V (.seq _ _) (fun hmax2=>?_)
 refine c_lena (t:=0) (j:=2) V V (.seq _ _) (fun hmax3=>?_)
 refine Qh ?_
 refine Qbe ?_
 refine Qbe ?_
 refine Qp ?_
 refine Ql ?_
 refine Zu 57 (¬ (gl1=gl2∧ys1=ys2∧no1=no2∧tx1.length=tx2.length∧fu1.length=fu2.length∧is1.length=is2.length)) ?_ _ _ V ?_
 ·skip
  refine Qn ?_
  refine Qn ?_
  refine Qbn ?_;intro c16 h16
  refine Qa ?_
  obtain ⟨rfl,g16⟩|⟨rfl,g16⟩:=Za h16
  ·skip
   refine Qe ?_
   refine Qe ?_
   refine QP ?_;intro c22 h22
   refine Qc ?_
   obtain ⟨rfl,g22⟩|⟨rfl,g22⟩:=Za h22
   ·skip
    refine Qe ?_
    refine Qe ?_
    refine QP ?_;intro c29 h29
    refine Qc ?_
    obtain ⟨rfl,g29⟩|⟨rfl,g29⟩:=Za h29
    ·skip
     refine Qe ?_
     refine Qcd ?_;intro n34
     refine Qe ?_
     refine Qcd ?_;intro n37
     refine QP ?_;intro c38 h38
     refine Qc ?_
     obtain ⟨rfl,g38⟩|⟨rfl,g38⟩:=Za h38
     ·skip
      refine Qe ?_
      refine Qce ?_;intro n43
      refine Qe ?_
      refine Qce ?_;intro n46
      refine QP ?_;intro c47 h47
      refine Qc ?_
      obtain ⟨rfl,g47⟩|⟨rfl,g47⟩:=Za h47
      ·skip
       refine Qe ?_
       refine QbS ?_;intro n52
       refine Qe ?_
       refine QbS ?_;intro n55
       refine QP ?_;intro c56 h56
       refine Qu ?_
       refine Yi V ?_ by3 by1
       rw [h56];omega
      skip
      refine Qav ?_
      refine Qu ?_
      refine Yi V ?_ by3 by1
      simp only [true_iff];omega
     skip
     refine Qav ?_
     refine Qa1 ?_
     refine Yi V ?_ by3 by1
     simp only [true_iff];omega
    skip
    refine Qav ?_
    refine Qaf ?_
    refine Qa1 ?_
    refine Yi V ?_ by3 by1
    simp only [true_iff];omega
   skip
   refine QaI ?_
   refine Qaf ?_
   refine Qaf ?_
   refine Qa1 ?_
   refine Yi V ?_ by3 by1
   simp only [true_iff];omega
  skip
  refine QaI ?_
  refine Qa2 ?_
  refine Qaf ?_
  refine Qaf ?_
  refine Qa1 ?_
  refine Yi V ?_ by3 by1
  simp only [true_iff];omega
 intro c57 h57
 refine Qd ?_
 obtain ⟨rfl,g57⟩|⟨rfl,g57⟩:=Za h57
 ·refine Qaw ?_
  obtain ⟨e1,e2,e3,e4,e5,e6⟩:=Classical.not_not.1 g57
  refine Qg ?_
  refine Qk ?_
  refine QK ?_
  apply Ya (rg [(0,2),(4,2),(12,64)]) (σ:=Nat) (fun zz=>match zz with|i=>[(5,.val (.int .i64 i))]) (fun zz=>match zz with|i=>i≤tx1.length∧Upto tx1 tx2 i) (fun zz=>match zz with|i=>tx1.length - i) (0)
  ·repeat' (first|exact Ym|apply Yk rfl|apply Yl rfl)
  ·exact ⟨by omega,Upto.zero _ _⟩
  ·exact by2
  rintro i hI
  try dsimp only [List.cons_append,List.nil_append] at hI ⊢
  obtain ⟨hi,hu⟩:=hI
  refine Ql ?_
  refine QM ?_
  refine Qn ?_
  refine Qax ?_;intro n61
  refine Qaq ?_;intro c62 h62
  refine Qb ?_
  obtain ⟨rfl,g62⟩|⟨rfl,g62⟩:=Za h62
  ·refine Q2 ?_
   refine Ql ?_
   have etx:=hu.eq by10 by10
   refine Qg ?_
   refine Qk ?_
   refine QK ?_
   apply Ya (rg [(0,2),(4,3),(12,114)]) (σ:=Nat) (fun zz=>match zz with|i=>[(6,.val (.int .i64 i))]) (fun zz=>match zz with|i=>i≤fu1.length∧Upto fu1 fu2 i) (fun zz=>match zz with|i=>fu1.length - i) (0)
   ·repeat' (first|exact Ym|apply Yk rfl|apply Yl rfl)
   ·exact ⟨by omega,Upto.zero _ _⟩
   ·exact by2
   rintro i hI
   try dsimp only [List.cons_append,List.nil_append] at hI ⊢
   obtain ⟨hi,hu⟩:=hI
   refine Ql ?_
   refine QM ?_
   refine Qn ?_
   refine QaY ?_;intro n79
   refine Qaq ?_;intro c80 h80
   refine Qb ?_
   obtain ⟨rfl,g80⟩|⟨rfl,g80⟩:=Za h80
   ·refine Q2 ?_
    refine Ql ?_
    have efu:=hu.eq by10 by10
    refine Qg ?_
    refine Qk ?_
    refine QK ?_
    apply Ya (rg [(0,2),(4,228)]) (σ:=Nat) (fun zz=>match zz with|i=>[(7,.val (.int .i64 i))]) (fun zz=>match zz with|i=>i≤is1.length∧Upto is1 is2 i) (fun zz=>match zz with|i=>is1.length - i) (0)
    ·repeat' (first|exact Ym|apply Yk rfl|apply Yl rfl)
    ·exact ⟨by omega,Upto.zero _ _⟩
    ·exact by2
    rintro i hI
    try dsimp only [List.cons_append,List.nil_append] at hI ⊢
    obtain ⟨hi,hu⟩:=hI
    refine Ql ?_
    refine QM ?_
    refine Qn ?_
    refine QaG ?_;intro n129
    refine Qaq ?_;intro c130 h130
    refine Qb ?_
    obtain ⟨rfl,g130⟩|⟨rfl,g130⟩:=Za h130
    ·refine QZ ?_
     refine QU ?_
     refine Qi ?_
     exact Zd V V (Yf _) by1 ⟨⟨_,iff_t ⟨e1,e2,e3,etx,efu,hu.eq by10 by10⟩,V⟩,V⟩
    refine Qw ?_
    obtain ⟨⟨xop,xa,xb,xn,xar,xfs,xcp⟩,hxx⟩:=Zm (l:=is1) (i:=i) by5
    have hcx:=Is.cellss_get hxx
    have hmx:=Yn hxx
    obtain ⟨⟨yop,ya,yb,yn,yar,yfs,ycp⟩,hxy⟩:=Zm (l:=is2) (i:=i) by5
    have hcy:=Is.cellss_get hxy
    have hmy:=Yn hxy
    have hf1:=nums_len xfs
    have hf2:=nums_len yfs
    have hc1:=Ato.cellsss_len xcp
    have hc2:=Ato.cellsss_len ycp
    have hne:¬ (⟨xop,xa,xb,xn,xar,xfs,xcp⟩:Is)=⟨yop,ya,yb,yn,yar,yfs,ycp⟩→¬ is1=is2:=fun q e=>q (by subst e;rw [hxx] at hxy;exact Option.some.inj hxy)
    refine Qa3 ?_
    refine Qa ?_
    refine QbI ?_
    refine Qbm ?_
    refine Qbo ?_;intro b8
    refine QbA ?_
    refine Qb ?_
    refine QV ?_
    refine Qa ?_
    refine QbI ?_
    refine Qbm ?_
    refine Qbo ?_;intro b9
    refine QbA ?_
    refine QaR ?_
    refine Zu 194 (¬ (xop=yop∧xa=ya∧xb=yb∧xn=yn∧xar=yar∧xfs.length=yfs.length∧xcp.length=ycp.length)) ?_ _ _ V ?_
    ·skip
     refine QaJ ?_
     refine Qs ?_
     refine Qbn ?_;intro c147 h147
     refine Qa ?_
     obtain ⟨rfl,g147⟩|⟨rfl,g147⟩:=Za h147
     ·skip
      refine QaX ?_
      refine Qbf ?_
      refine Qah ?_
      refine QP ?_;intro c153 h153
      refine Qc ?_
      obtain ⟨rfl,g153⟩|⟨rfl,g153⟩:=Za h153
      ·skip
       refine QaX ?_
       refine Qbf ?_
       refine Qah ?_
       refine QP ?_;intro c160 h160
       refine Qc ?_
       obtain ⟨rfl,g160⟩|⟨rfl,g160⟩:=Za h160
       ·skip
        refine QaX ?_
        refine Qbf ?_
        refine Qah ?_
        refine QP ?_;intro c167 h167
        refine Qc ?_
        obtain ⟨rfl,g167⟩|⟨rfl,g167⟩:=Za h167
        ·skip
         refine QaX ?_
         refine Qbf ?_
         refine Qah ?_
         refine Zh 174 V V V V V (Zs (xs:=[.tmp 171,.tmp 173]) V V (rsameAtoms_c xar yar) by0 ?_);intro c174 h174
         refine Qaz ?_;intro c175 h175
         try replace h175:=nott h175 h174
         refine Qc ?_
         obtain ⟨rfl,g175⟩|⟨rfl,g175⟩:=Za h175
         ·skip
          refine QaX ?_
          refine Qbf ?_
          refine QbT ?_;intro n180
          refine Qah ?_
          refine QbT ?_;intro n183
          refine QP ?_;intro c184 h184
          refine Qc ?_
          obtain ⟨rfl,g184⟩|⟨rfl,g184⟩:=Za h184
          ·skip
           refine QaX ?_
           refine Qbf ?_
           refine Qcf ?_;intro n189
           refine Qah ?_
           refine Qcf ?_;intro n192
           refine QP ?_;intro c193 h193
           refine Qu ?_
           refine Yi V ?_ by3 by1
           simp_all;omega
          skip
          refine Qav ?_
          refine Qu ?_
          refine Yi V ?_ by3 by1
          simp_all;omega
         skip
         refine Qav ?_
         refine Qa1 ?_
         refine Yi V ?_ by3 by1
         simp_all;done
        skip
        refine Qo ?_
        refine QT ?_
        refine Qaf ?_
        refine Qa1 ?_
        refine Yi V ?_ by3 by1
        simp_all;done
       skip
       refine QaI ?_
       refine QL ?_
       refine QT ?_
       refine Qaf ?_
       refine Qa1 ?_
       refine Yi V ?_ by3 by1
       simp_all;done
      skip
      refine QaI ?_
      refine Qa2 ?_
      refine QL ?_
      refine QT ?_
      refine Qaf ?_
      refine Qa1 ?_
      refine Yi V ?_ by3 by1
      simp_all;done
     skip
     refine QaI ?_
     refine Qa2 ?_
     refine Qa2 ?_
     refine QL ?_
     refine QT ?_
     refine Qaf ?_
     refine Qa1 ?_
     refine Yi V ?_ by3 by1
     simp_all;done
    intro c194 h194
    refine Qd ?_
    obtain ⟨rfl,g194⟩|⟨rfl,g194⟩:=Za h194
    ·refine Qaw ?_
     obtain ⟨d1,d2,d3,d4,d5,d6,d7⟩:=Classical.not_not.1 g194
     refine Qg ?_
     refine Qk ?_
     refine QK ?_
     apply Ya (rg [(0,2),(4,3),(10,1),(12,114),(195,18)]) (σ:=Nat) (fun zz=>match zz with|j=>[(10,.val (.int .i64 j))]) (fun zz=>match zz with|j=>j≤xfs.length∧Upto xfs yfs j) (fun zz=>match zz with|j=>xfs.length - j) (0)
     ·repeat' (first|exact Ym|apply Yk rfl|apply Yl rfl)
     ·exact ⟨by omega,Upto.zero _ _⟩
     ·exact by2
     rintro j hI
     try dsimp only [List.cons_append,List.nil_append] at hI ⊢
     obtain ⟨hj,hv⟩:=hI
     refine Ql ?_
     refine QM ?_
     refine QaJ ?_
     refine Qbg ?_;intro n198
     refine Qaq ?_;intro c199 h199
     refine Qb ?_
     obtain ⟨rfl,g199⟩|⟨rfl,g199⟩:=Za h199
     ·refine Q2 ?_
      have efs:=hv.eq by10 by10
      refine Qg ?_
      refine Qk ?_
      refine QK ?_
      apply Ya (rg [(0,2),(4,3),(11,115),(213,19)]) (σ:=Nat) (fun zz=>match zz with|j=>[(11,.val (.int .i64 j))]) (fun zz=>match zz with|j=>j≤xcp.length∧Upto xcp ycp j) (fun zz=>match zz with|j=>xcp.length - j) (0)
      ·repeat' (first|exact Ym|apply Yk rfl|apply Yl rfl)
      ·exact ⟨by omega,Upto.zero _ _⟩
      ·exact by2
      rintro j hI
      try dsimp only [List.cons_append,List.nil_append] at hI ⊢
      obtain ⟨hj,hv⟩:=hI
      refine Ql ?_
      refine QM ?_
      refine QaJ ?_
      refine QbU ?_;intro n216
      refine Qaq ?_;intro c217 h217
      refine Qb ?_
      obtain ⟨rfl,g217⟩|⟨rfl,g217⟩:=Za h217
      ·refine QZ ?_
       refine QW ?_
       refine Qd ?_
       refine Qt ?_
       refine QaP ?_
       refine QJ ?_
       exact ⟨i+1,⟨by omega,hu.succ hxx hxy (by have ecp:=hv.eq by10 by10;subst d1 d2 d3 d4 d5 efs ecp;rfl)⟩,by simp;omega,by2,by1⟩
      refine Qw ?_
      obtain ⟨l1,hq1⟩:=Zm (l:=xcp) (i:=j) by10
      obtain ⟨l2,hq2⟩:=Zm (l:=ycp) (i:=j) by10
      have hcq1:=Ato.cellsss_get hq1
      have hcq2:=Ato.cellsss_get hq2
      refine Qbp ?_
      refine QbO ?_
      refine Qcg ?_
      refine Qv ?_
      refine QcJ ?_
      refine Qbd ?_
      refine QaS ?_
      refine Qv ?_
      refine QcJ ?_
      refine Qbd ?_
      refine DOps.cm 230 V V (fun _ q=>Zs (xs:=[.tmp 224,.tmp 229]) V V (rsameAtoms_c l1 l2) by0 q) ?_;intro c230 h230
      refine DOps.cm 231 V V (fun _ q=>op_notc V V q) ?_;intro c231 h231
      try replace h231:=nott h231 h230
      show AGo _ _ _ _ _ _ _
      refine Qd ?_
      obtain ⟨rfl,g231⟩|⟨rfl,g231⟩:=Za h231
      ·refine Qr ?_
       refine QW ?_
       refine Qd ?_
       refine Qt ?_
       refine QaP ?_
       refine QJ ?_
       exact ⟨j+1,⟨by omega,hv.succ hq1 hq2 (Classical.not_not.1 g231)⟩,by simp;omega,by2,by1⟩
      refine QB ?_
      exact Zd V V (Yf _) by1 ⟨⟨_,iff_f (fun e=>hne (fun q=>g231 (by cases q;rw [hq1] at hq2;cases hq2;rfl)) e.2.2.2.2.2),V⟩,V⟩
     refine Qw ?_
     obtain ⟨p,hxp⟩:=Zm (l:=xfs) (i:=j) by5
     have hcp:=nums_get hxp
     have hmp:=Yn hxp
     obtain ⟨r,hxr⟩:=Zm (l:=yfs) (i:=j) by5
     have hcr:=nums_get hxr
     have hmr:=Yn hxr
     refine Qbp ?_
     refine QbO ?_
     refine Qcg ?_
     refine Qv ?_
     refine QcK ?_
     refine Qbd ?_
     refine QaS ?_
     refine Qv ?_
     refine QcK ?_
     refine Qbd ?_
     refine DOps.cm 212 V V (fun _ q=>op_neq V V V q) ?_;intro c212 h212
     show AGo _ _ _ _ _ _ _
     refine Qd ?_
     obtain ⟨rfl,g212⟩|⟨rfl,g212⟩:=Za h212
     ·refine Qr ?_
      refine QW ?_
      refine Qd ?_
      refine Qt ?_
      refine QaP ?_
      refine QJ ?_
      exact ⟨j+1,⟨by omega,hv.succ hxp hxr (Classical.not_not.1 g212)⟩,by simp;omega,by2,by1⟩
     refine QB ?_
     exact Zd V V (Yf _) by1 ⟨⟨_,iff_f (fun e=>hne (fun q=>g212 (by cases q;rw [hxp] at hxr;cases hxr;rfl)) e.2.2.2.2.2),V⟩,V⟩
    refine QB ?_
    exact Zd V V (Yf _) by1 ⟨⟨_,iff_f (fun e=>hne (fun q=>by cases q;exact g194 ⟨V,V,V,V,V,V,V⟩) e.2.2.2.2.2),V⟩,V⟩
   refine Qw ?_
   obtain ⟨⟨xlen,xsl,xcp⟩,hxx⟩:=Zm (l:=fu1) (i:=i) by5
   have hcx:=Cf.cellss_get hxx
   have hmx:=Yn hxx
   obtain ⟨⟨ylen,ysl,ycp⟩,hxy⟩:=Zm (l:=fu2) (i:=i) by5
   have hcy:=Cf.cellss_get hxy
   have hmy:=Yn hxy
   refine c_boold 125 (¬ (xlen=ylen∧xsl=ysl∧xcp=ycp)) tmix V ?_ _ _ V ?_
   ·skip
    refine QaO ?_
    refine Qv ?_
    refine QcL ?_
    refine QaO ?_
    refine QaO ?_
    refine Qv ?_
    refine QcL ?_
    refine QaO ?_
    refine DOps.cm 95 V V (fun _ q=>op_neq V V V q) ?_;intro c95 h95
    refine Qv ?_
    obtain ⟨rfl,g95⟩|⟨rfl,g95⟩:=Za h95
    ·skip
     refine Qa0 ?_
     refine QbV ?_
     refine Qam ?_
     refine Qa0 ?_
     refine QbV ?_
     refine Qam ?_
     refine DOps.gtc 109 V V V V (fun _ q=>op_neq V V V q) ?_;intro c109 h109
     refine Qa4 ?_
     obtain ⟨rfl,g109⟩|⟨rfl,g109⟩:=Za h109
     ·skip
      refine Qa0 ?_
      refine QbV ?_
      refine Qam ?_
      refine Qa0 ?_
      refine QbV ?_
      refine Qam ?_
      refine DOps.gtc 124 V V V V (fun _ q=>op_neq V V V q) ?_;intro c124 h124
      refine Qab ?_
      show BoolQ _ _ _ _ _ _
      refine Yi V ?_ by3 by1
      simp_all;done
     skip
     refine QaC ?_
     refine QaH ?_
     refine QD ?_
     refine Qab ?_
     show BoolQ _ _ _ _ _ _
     refine Yi V ?_ by3 by1
     simp_all;done
    skip
    refine QaC ?_
    refine QaH ?_
    refine QD ?_
    refine Qa4 ?_
    refine QaC ?_
    refine QaH ?_
    refine QD ?_
    refine Qab ?_
    show BoolQ _ _ _ _ _ _
    refine Yi V ?_ by3 by1
    simp_all;done
   intro c125 h125
   refine Qd ?_
   obtain ⟨rfl,g125⟩|⟨rfl,g125⟩:=Za h125
   ·refine Qr ?_
    refine QW ?_
    refine Qd ?_
    refine Qt ?_
    refine QaP ?_
    refine QJ ?_
    exact ⟨i+1,⟨by omega,hu.succ hxx hxy (by obtain ⟨rfl,rfl,rfl⟩:=Classical.not_not.1 g125;rfl)⟩,by simp;omega,by2,by1⟩
   refine QB ?_
   exact Zd rfl rfl (Yf _) by1 ⟨⟨_,iff_f (fun e=>g125 (by have q:=e.2.2.2.2.1;subst q;rw [hxx] at hxy;cases hxy;exact ⟨rfl,rfl,rfl⟩)),rfl⟩,rfl⟩
  refine Qw ?_
  obtain ⟨x,hxx⟩:=Zm (l:=tx1) (i:=i) by5
  have hcx:=strs_get hxx
  have hmx:=Yn hxx
  obtain ⟨y,hxy⟩:=Zm (l:=tx2) (i:=i) by5
  have hcy:=strs_get hxy
  have hmy:=Yn hxy
  refine Qbp ?_
  refine QaO ?_
  refine Qv ?_
  refine QcM ?_
  refine Qbd ?_
  refine QaO ?_
  refine Qv ?_
  refine QcM ?_
  refine Qbd ?_
  refine DOps.cm 75 V V (fun _ q=>op_sneq V V V q) ?_;intro c75 h75
  show AGo _ _ _ _ _ _ _
  refine Qd ?_
  obtain ⟨rfl,g75⟩|⟨rfl,g75⟩:=Za h75
  ·refine Qr ?_
   refine QW ?_
   refine Qd ?_
   refine Qt ?_
   refine QaP ?_
   refine QJ ?_
   exact ⟨i+1,⟨by omega,hu.succ hxx hxy (Classical.not_not.1 g75)⟩,by simp;omega,by2,by1⟩
  refine QB ?_
  exact Zd rfl rfl (Yf _) by1 ⟨⟨_,iff_f (fun e=>g75 (by have q:=e.2.2.2.1;subst q;rw [hxx] at hxy;cases hxy;rfl)),rfl⟩,rfl⟩
 refine QB ?_
 exact Zd rfl rfl (Yf _) by1 ⟨⟨_,iff_f (fun ⟨q1,q2,q3,q4,q5,q6⟩=>g57 ⟨q1,q2,q3,by rw [q4],by rw [q5],by rw [q6]⟩),rfl⟩,rfl⟩
theorem Small29_z (c:Cd) (m:Int):ZCall Try.prog 6 [.agg c.cells,.val (.int .i64 m)]:=by
 obtain ⟨is,fu,tx,gl,ys,no⟩:=c
 have hl1:=Is.cellss_len is
 have hl5:=strs_len tx
 refine Zc Try.func6 V (by kernel_rfl) V (Yj V) ?_
 refine Q8 ?_
 refine c_lena (t:=0) (j:=0) V V (.seq _ _) (fun hmax=>?_)
 refine c_lena (t:=0) (j:=2) V V (.seq _ _) (fun hmax3=>?_)
 refine Qh ?_
 refine Qbe ?_
 refine Qk ?_
 refine QV ?_
 refine QaG ?_;intro n14
 refine Qn ?_
 refine QaY ?_;intro n17
 refine Qbq ?_
 refine Qn ?_
 refine Qax ?_;intro n21
 refine Qbq ?_
 refine Qat ?_
 refine Qa ?_
 refine QbB ?_;intro c25 h25
 refine Qb ?_
 obtain ⟨rfl,g25⟩|⟨rfl,g25⟩:=Za h25
 ·refine QF ?_
  refine QV ?_
  refine Qax ?_;intro n28
  refine QG ?_
  apply Ya (rg [(0,1),(3,1),(5,4),(10,1),(12,15),(29,9)]) (σ:=Nat × Int) (fun zz=>match zz with|(i,n)=>[(29,.val (.int .i64 i)),(5,.val (.int .i64 n))]) (fun zz=>match zz with|(i,n)=>i≤tx.length) (fun zz=>match zz with|(i,n)=>tx.length - i) ((0,_))
  ·repeat' (first|exact Ym|apply Yk rfl|apply Yl rfl)
  ·exact Nat.zero_le _
  ·exact by2
  rintro ⟨i,n⟩ hI
  try dsimp only [List.cons_append,List.nil_append] at hI ⊢
  refine Qy ?_;intro c30 h30
  refine Qf ?_
  obtain ⟨rfl,g30⟩|⟨rfl,g30⟩:=Za h30
  ·refine Q2 ?_
   refine QV ?_
   refine QaG ?_;intro n40
   refine QG ?_
   apply Ya (rg [(0,1),(2,37),(41,30)]) (σ:=Nat × Int) (fun zz=>match zz with|(i,n)=>[(41,.val (.int .i64 i)),(5,.val (.int .i64 n))]) (fun zz=>match zz with|(i,n)=>i≤is.length) (fun zz=>match zz with|(i,n)=>is.length - i) ((0,n))
   ·repeat' (first|exact Ym|apply Yk rfl|apply Yl rfl)
   ·exact Nat.zero_le _
   ·exact by2
   rintro ⟨i,n⟩ hI
   try dsimp only [List.cons_append,List.nil_append] at hI ⊢
   refine Qy ?_;intro c42 h42
   refine Qf ?_
   obtain ⟨rfl,g42⟩|⟨rfl,g42⟩:=Za h42
   ·refine QZ ?_
    refine QaT ?_
    refine Qa ?_
    refine Qch ?_;intro c73 h73
    refine Qi ?_
    exact Zd V V (Yf _) by1 ⟨⟨_,V⟩,V⟩
   refine Qw ?_
   obtain ⟨⟨xop,xa,xb,xn,xar,xfs,xcp⟩,hxx⟩:=Zm (l:=is) (i:=i) by5
   have hcx:=Is.cellss_get hxx
   have hmx:=Yn hxx
   refine Qg ?_
   refine QbI ?_
   refine Qbm ?_
   refine Qbo ?_;intro b9
   refine QbA ?_
   refine Qa5 ?_
   refine Qs ?_
   refine Qay ?_;intro n48
   refine Qs ?_
   refine Qbg ?_;intro n51
   refine Qbq ?_
   refine Qbq ?_
   refine Qp ?_
   refine Qh ?_
   refine Qs ?_
   refine QbU ?_;intro n56
   refine QG ?_
   apply Ya (rg [(0,1),(2,2),(5,4),(10,29),(57,10)]) (σ:=Nat × Int) (fun zz=>match zz with|(j,n)=>[(57,.val (.int .i64 j)),(5,.val (.int .i64 n))]) (fun zz=>match zz with|(j,n)=>j≤xcp.length) (fun zz=>match zz with|(j,n)=>xcp.length - j) ((0,_))
   ·repeat' (first|exact Ym|apply Yk rfl|apply Yl rfl)
   ·exact Nat.zero_le _
   ·exact by2
   rintro ⟨j,n⟩ hI
   try dsimp only [List.cons_append,List.nil_append] at hI ⊢
   refine Qy ?_;intro c58 h58
   refine Qf ?_
   obtain ⟨rfl,g58⟩|⟨rfl,g58⟩:=Za h58
   ·refine QZ ?_
    refine QaT ?_
    refine Qa ?_
    refine QbB ?_;intro c69 h69
    refine Qb ?_
    obtain ⟨rfl,g69⟩|⟨rfl,g69⟩:=Za h69
    ·refine Qr ?_
     refine Q0 ?_
     exact ⟨(i+1,_),by show i+1≤_;omega,by simp;omega,by2,by1⟩
    refine QB ?_
    exact Zd V V (Yf _) by1 ⟨⟨_,V⟩,V⟩
   refine Qw ?_
   obtain ⟨l1,hq1⟩:=Zm (l:=xcp) (i:=j) (by have:=Ato.cellsss_len xcp;omega)
   have hcq1:=Ato.cellsss_get hq1
   refine Qg ?_
   refine Zb 59 V V V (Zo V te_44 V (.seq _ _) V V by8 ?_)
   refine Q9 ?_
   refine Qk ?_
   refine Qag ?_
   refine Qay ?_;intro n63
   refine Qbq ?_
   refine Qbq ?_
   refine QaZ ?_
   refine Q0 ?_
   exact ⟨(j+1,_),by have:=Ato.cellsss_len xcp;show j+1≤_;omega,by simp;have:=Ato.cellsss_len xcp;omega,by2,by1⟩
  refine Qw ?_
  obtain ⟨s,hxs⟩:=Zm (l:=tx) (i:=i) by5
  have hcs:=strs_get hxs
  have hms:=Yn hxs
  refine Qg ?_
  refine Qca ?_
  refine Q9 ?_
  refine Qk ?_
  refine Qag ?_
  refine QbW ?_
  refine Qbq ?_
  refine QaZ ?_
  refine Q0 ?_
  exact ⟨(i+1,_),by show i+1≤_;omega,by simp;omega,by2,by1⟩
 refine QB ?_
 exact Zd V V (Yf _) by1 ⟨⟨_,V⟩,V⟩
def num (n:Nat):List Int:=if n<128 then [(n:Int)] else ((n % 128+128:Nat):Int)::num (n / 128)
termination_by n
decreasing_by omega
theorem num_lo {n:Nat} (h:n<128):num n=[(n:Int)]:=by rw [num,if_pos h]
theorem num_hi {n:Nat} (h:¬ n<128):num n=((n % 128+128:Nat):Int)::num (n / 128):=by rw [num,if_neg h]
theorem num_len:∀ (k n:Nat),n<128 ^ (k+1)→(num n).length≤k+1
 | 0,n,h=>by rw [num_lo (by simpa using h)];simp
 | k+1,n,h=>by
  by_cases q:n<128
  ·rw [num_lo q];simp
  rw [num_hi q,List.length_cons]
  have:=num_len k (n / 128) (by rw [Nat.div_lt_iff_lt_mul by9];rw [Nat.pow_succ] at h;exact h)
  omega
theorem num_len64 {n:Nat} (h:n<18446744073709551616):(num n).length≤10:=num_len 9 n by10
theorem or128_all:∀ x:Fin 256,bitsOf .or .u8 (x.val:Int) 128=((x.val % 128+128:Nat):Int):=by decide +kernel
theorem u8wrap (n:Nat):IntKind.u8.wrap (n:Int)=((n % 256:Nat):Int):=by
 have:=IntWalk.u8_in ((n % 256:Nat):Int) by10
 rw [← this]
 unfold IntKind.wrap
 simp [IntKind.bits,IntKind.signed]
theorem or128 (n:Nat):bitsOf .or .u8 (IntKind.u8.wrap (n:Int)) 128=((n % 128+128:Nat):Int):=by
 rw [u8wrap]
 have:=or128_all ⟨n % 256,by omega⟩
 rw [this]
 congr 1;simp only;omega
theorem shr7 (n:Nat):(n:Int) / 2 ^ min (7:Int).toNat IntKind.u64.bits=((n / 128:Nat):Int):=by
 have:(2:Int) ^ min (7:Int).toNat IntKind.u64.bits=128:=by decide
 rw [this];omega
theorem bts_app (a b:List Int):bts (a++b)=bts a++bts b:=by simp [bts]
theorem bts_len (a:List Int):(bts a).length=a.length:=by simp [bts]
def WM (b:Nat) (bs:List Int) (M:Mem):Prop:=∃ u,M=[.loc b [.own u 1 (bts bs)],.own 5 1 u]
def Writes (f:FuncId) (args:Nat→List AV) (out:List Int):Prop:=∀ (b:Nat) (bs:List Int) (M:Mem),WM b bs M→bs.length+out.length≤1000000000→ACall Try.prog f (args b) M (fun _ M'=>WM b (bs++out) M')
theorem number_w (n:Nat) (hn:n<18446744073709551616):Writes 51 (fun b=>[.ptr b 0,.val (.int .u64 n)]) (num n):=by
 rintro b bs M ⟨u0,rfl⟩ hb
 refine Zc Try.func51 V (by kernel_rfl) V (Yj V) ?_
 refine Q8 ?_
 refine Ql ?_
 refine QK ?_
 apply c_loopk (rg [(1,19)]) (σ:=Nat × List Int × Value) (fun zz=>match zz with|(k,cs,u)=>[(1,.val (.int .u64 k))]) (fun zz=>match zz with|(k,cs,u)=>[.loc b [.own u 1 (bts cs)],.own 5 1 u]) (fun zz=>match zz with|(k,cs,u)=>k<18446744073709551616∧cs++num k=bs++num n) (fun zz=>match zz with|(k,cs,u)=>k) ((n,bs,u0))
 ·repeat' (first|exact Ym|apply Yk rfl|apply Yl rfl)
 ·exact ⟨hn,V⟩
 ·exact by2
 ·exact by1
 rintro ⟨k,cs,u⟩ hI
 try dsimp only [List.cons_append,List.nil_append] at hI ⊢
 obtain ⟨hk,he⟩:=hI
 have hle:=congrArg List.length he
 simp only [List.length_append] at hle
 have hbl:=bts_len cs
 refine Ql ?_
 refine QM ?_
 refine Qac ?_;intro c5 h5
 refine Qb ?_
 obtain ⟨rfl,g5⟩|⟨rfl,g5⟩:=Za h5
 ·refine QZ ?_
  refine Qd ?_
  rw [num_lo by10] at he
  refine Qag ?_
  refine Qa6 ?_
  refine Qa ?_
  refine Zb 26 V V V (op_convert V tu_102 tu_5 V (IntWalk.u8_in _ by10) ?_)
  refine Zb 27 V V V (Zp (xs:=[.tmp 26]) el_31 V V V V V V (Yj V) ?_)
  refine QcN ?_
  intro u28
  refine QaF ?_
  refine QN ?_
  refine Qci ?_
  refine Qx ?_
  refine go_end (Yb V (Yd _) ⟨u28,?_⟩)
  rw [← he,bts_app];rfl
 refine QaN ?_
 refine Qd ?_
 refine QK ?_
 refine QM ?_
 refine Qa ?_
 refine Qa6 ?_
 refine Qa ?_
 refine Zb 12 V V V (op_convert V tu_102 tu_5 V V (Zb 13 V V V (op_bits by11 V V V (or128 k) ?_)))
 refine Zb 14 V V V (Zp (xs:=[.tmp 13]) el_31 V V V V V V (Yj V) ?_)
 refine QcN ?_
 intro u15
 refine QaF ?_
 refine QN ?_
 refine Qci ?_
 refine Qb ?_
 rw [num_hi by10] at he
 refine Qt ?_
 refine Zb 19 V V V (op_shr V V V by10 (shr7 k) ?_)
 refine QaZ ?_
 refine QW ?_
 refine QJ ?_
 refine ⟨(k / 128,cs++[((k % 128+128:Nat):Int)],u15),⟨by show k / 128<_;omega,by rw [← he];simp⟩,by simp;omega,by2,?_⟩
 refine MLe.loc _ (Yh (Le.own_eq ?_) (Yg _)) (Yd _)
 rw [bts_app];rfl
theorem int_w (n:Nat) (hn:n<9223372036854775808):Writes 30 (fun b=>[.ptr b 0,.val (.int .i64 n)]) (num n):=by
 intro b bs M hM hb
 have H:=number_w n by10 b bs M hM hb
 refine Zc Try.func30 V (by kernel_rfl) V (Yj V) ?_
 refine Q8 ?_
 refine Qag ?_
 refine Zb 6 V V V (op_convert V tu_3 tu_102 V (IntWalk.u64_in _ by10) ?_)
 refine Zb 7 V V V (Zj (xs:=[.tmp 4,.tmp 6])  [] V V V H (Yg _) (fun v7 M7 h7=>?_))
 refine Qx ?_
 exact go_end (Yb V (Yd _) h7)
def zz (n:Int):Nat:=if 0≤n then (2 * n).toNat else (-2 * n - 1).toNat
theorem u64wrap (x:Int):IntKind.u64.wrap x=x % 18446744073709551616:=by
 unfold IntKind.wrap
 simp [IntKind.bits,IntKind.signed]
theorem xor0 (a:Int) (h0:0≤a) (h1:a<18446744073709551616):bitsOf .xor .u64 a 0=a:=by
 unfold bitsOf
 rw [u64wrap]
 simp only [show BitVec.ofInt IntKind.u64.bits 0=0#_ from rfl,BitVec.xor_zero,BitVec.toNat_ofInt]
 show ((a % (2 ^ 64:Nat)).toNat:Int) % _=a
 omega
theorem xor1 (a:Int) (h0:0≤a) (h1:a<18446744073709551616):bitsOf .xor .u64 a 18446744073709551615=18446744073709551615 - a:=by
 unfold bitsOf
 rw [u64wrap]
 have e:BitVec.ofInt 64 18446744073709551615=BitVec.allOnes 64:=by decide
 have e2:(BitVec.ofInt 64 a ^^^ BitVec.allOnes 64).toNat=2 ^ 64 - 1 - (a % (2 ^ 64:Nat)).toNat:=by
  rw [BitVec.xor_allOnes,BitVec.toNat_not,BitVec.toNat_ofInt]
 show (((BitVec.ofInt 64 a ^^^ BitVec.ofInt 64 18446744073709551615:BitVec 64).toNat:Nat):Int) % _=_
 rw [e,e2]
 omega
theorem zz_eq (n:Int) (h:I64 n):bitsOf .xor .u64 (IntKind.u64.wrap (IntKind.u64.wrap n * 2 ^ min (1:Int).toNat IntKind.u64.bits)) (IntKind.u64.wrap (n / 2 ^ min (63:Int).toNat IntKind.i64.bits))=((zz n:Nat):Int):=by
 have e1:(2:Int) ^ min (1:Int).toNat IntKind.u64.bits=2:=by decide
 have e2:(2:Int) ^ min (63:Int).toNat IntKind.i64.bits=9223372036854775808:=by decide
 rw [e1,e2,u64wrap,u64wrap,u64wrap]
 unfold zz
 obtain ⟨h0,h1⟩:=h
 by_cases q:0≤n
 ·rw [if_pos q,show n / 9223372036854775808 % 18446744073709551616=0 by omega,xor0 _ by10 by10];omega
 rw [if_neg q,show n / 9223372036854775808 % 18446744073709551616=18446744073709551615 by omega,xor1 _ by10 by10];omega
theorem zz_lt {n:Int} (h:I64 n):zz n<18446744073709551616:=by
 unfold zz;obtain ⟨h0,h1⟩:=h;split <;> omega
theorem signed_w (n:Int) (h:I64 n):Writes 52 (fun b=>[.ptr b 0,.val (.int .i64 n)]) (num (zz n)):=by
 intro b bs M hM hb
 have H:=number_w (zz n) (zz_lt h) b bs M hM hb
 have hz:=zz_eq n h
 clear h
 refine Zc Try.func52 V (by kernel_rfl) V (Yj V) ?_
 refine Q8 ?_
 refine Qag ?_
 refine Zb 6 V V V (op_convert V tu_2 tu_102 V V (Zb 7 V V V (op_shl V V V by10 (V) ?_)))
 refine Qa ?_
 refine Zb 9 V V V (op_shr V V V by10 (V) ?_)
 refine Zb 10 V V V (op_convert V tu_2 tu_102 V V (Zb 11 V V V (op_bits by11 V V V (hz) ?_)))
 refine Zb 12 V V V (Zj (xs:=[.tmp 4,.tmp 11])  [] V V V H (Yg _) (fun v12 M12 h12=>?_))
 refine Qx ?_
 exact go_end (Yb V (Yd _) h12)
def atomN (k n:Int):List Int:=if k=1 then num (zz n) else num n.toNat
theorem atomN_1 {k n:Int} (h:k=1):atomN k n=num (zz n):=by unfold atomN;rw [if_pos h]
theorem atomN_2 {k n:Int} (h:¬ k=1):atomN k n=num n.toNat:=by unfold atomN;rw [if_neg h]
def atomB (a:Ato):List Int:=num a.k.toNat++atomN a.k a.n
theorem wseq {b:Nat} {bs x y:List Int} {M:Mem} (h:WM b (bs++x++y) M):WM b (bs++(x++y)) M:=by rwa [← List.append_assoc]
theorem atom_w (a:Ato) (h1:1≤a.k) (hL:a.Lim) (h2:a.k≠1→0≤a.n):Writes 70 (fun b=>[.ptr b 0,.agg a.cells]) (atomB a):=by
 intro b bs M hM hb
 obtain ⟨k,n⟩:=a
 obtain ⟨⟨_,hk⟩,hn⟩:=hL
 simp only [Ato.k,Ato.n,atomB,List.length_append] at *
 have H1:=int_w k.toNat by10 b bs M hM by10
 rw [show ((k.toNat:Nat):Int)=k by omega] at H1
 refine Zc Try.func70 V (by kernel_rfl) V (Yj V) ?_
 refine Qj ?_
 refine Zb 3 V V V (op_boxc (cs':=[_,_]) V V V V ?_)
 refine Qa5 ?_
 refine Qn ?_
 refine Zb 7 V V V (Zj (xs:=[.tmp 4,.tmp 6])  [] V V V H1 (Yg _) (fun v7 M7 h7=>?_))
 refine Qb ?_
 refine QV ?_
 refine QA ?_;intro c10 h10
 refine Qb ?_
 obtain ⟨rfl,g10⟩|⟨rfl,g10⟩:=Za h10
 ·refine QR ?_
  rw [atomN_2 g10] at hb
  have hnn:=h2 g10
  have H2:=int_w n.toNat (by have:=hn.2;omega) b _ M7 h7 (by rw [List.length_append];omega)
  rw [show ((n.toNat:Nat):Int)=n by omega] at H2
  refine QH ?_
  refine Zb 18 V V V (Zj (xs:=[.tmp 15,.tmp 17])  [] V V V H2 (Yg _) (fun v18 M18 h18=>?_))
  refine Qx ?_
  refine go_end ?_
  first|exact Yb rfl (Yd _) (by rw [atomN_1 g10];exact wseq h14)|exact Yb rfl (Yd _) (by rw [atomN_2 g10];exact wseq h18)
 refine Qz ?_
 rw [atomN_1 g10] at hb
 have H2:=signed_w n hn b _ M7 h7 (by rw [List.length_append];omega)
 refine QH ?_
 refine Zb 14 V V V (Zj (xs:=[.tmp 11,.tmp 13])  [] V V V H2 (Yg _) (fun v14 M14 h14=>?_))
 refine Qx ?_
 refine go_end ?_
 first|exact Yb rfl (Yd _) (by rw [atomN_1 g10];exact wseq h14)|exact Yb rfl (Yd _) (by rw [atomN_2 g10];exact wseq h18)
def atomsB (l:List Ato):List Int:=(l.map atomB).flatten
theorem atomsB_take {l:List Ato} {i:Nat} {x:Ato} (h:l[i]?=some x):atomsB (l.take (i+1))=atomsB (l.take i)++atomB x:=by
 unfold atomsB;rw [List.take_add_one,h];simp
theorem atomsB_le (l:List Ato) (i:Nat):(atomsB (l.take i)).length≤(atomsB l).length:=by
 have:atomsB l=atomsB (l.take i)++atomsB (l.drop i):=by
  unfold atomsB;rw [← List.flatten_append,← List.map_append,List.take_append_drop]
 rw [this,List.length_append];omega
theorem atoms_w (l:List Ato) (h:∀ a∈l,1≤a.k∧a.Lim∧(a.k≠1→0≤a.n)):Writes 53 (fun b=>[.ptr b 0,.seq 2 (Ato.cellss l)]) (atomsB l):=by
 intro b bs M hM hb
 have hl:=Ato.cellss_len l
 refine Zc Try.func53 V (by kernel_rfl) V (Yj V) ?_
 refine Q8 ?_
 refine c_lens (t:=1) V (.seq _ _) (fun hmax=>?_)
 refine QM ?_
 refine Qay ?_;intro n7
 refine QG ?_
 apply c_loopk (rg [(1,5),(8,8)]) (σ:=Nat × Mem) (fun zz=>match zz with|(i,M)=>[(8,.val (.int .i64 i))]) (fun zz=>match zz with|(i,M)=>M) (fun zz=>match zz with|(i,M)=>i≤l.length∧WM b (bs++atomsB (l.take i)) M) (fun zz=>match zz with|(i,M)=>l.length - i) ((0,M))
 ·repeat' (first|exact Ym|apply Yk rfl|apply Yl rfl)
 ·exact ⟨by omega,by simpa [atomsB] using hM⟩
 ·exact by2
 ·exact by1
 rintro ⟨i,M⟩ hI
 try dsimp only [List.cons_append,List.nil_append] at hI ⊢
 obtain ⟨hi,hW⟩:=hI
 refine Qy ?_;intro c9 h9
 refine Qf ?_
 obtain ⟨rfl,g9⟩|⟨rfl,g9⟩:=Za h9
 ·refine QZ ?_
  refine go_end (Yb V (Yd _) ?_)
  rwa [List.take_of_length_le by10] at hW
 refine Qw ?_
 obtain ⟨⟨yk,yn⟩,hxy⟩:=Zm (l:=l) (i:=i) by5
 have hcy:=Ato.cellss_get hxy
 have hmy:=Yn hxy
 have hat:=atomsB_take hxy
 have hle:=atomsB_le l (i+1)
 rw [hat,List.length_append] at hle
 obtain ⟨q1,q2,q3⟩:=h _ hmy
 have HC:=atom_w ⟨yk,yn⟩ q1 q2 q3 b _ M hW (by rw [List.length_append];omega)
 rw [List.append_assoc,← hat] at HC
 refine Qg ?_
 refine QcF ?_
 refine Zb 11 V V V (op_load_c (cs':=[_,_]) V ta_41 V V V (Zb 5 V V V (Zx (cs':=[_,_]) V tz_41 V V ?_)));intro b5
 refine Zt V V (Zi (cs':=[_,_]) (i:=0) V ts_41 V V V V V (Yj V) V ?_)
 refine Qb ?_
 refine Qt ?_
 refine QcG ?_
 refine Zb 14 V V V (Zj (xs:=[.tmp 12,.tmp 13])  [.loc b5 _] V V V HC (Yg _) (fun v14 M14 h14=>?_))
 refine Qa7 ?_
 exact ⟨(i+1,M14),⟨by show i+1≤_;omega,h14⟩,by simp;omega,by2,(MLe.drop _ (Yd _))⟩
end Go.Proofs.Ytadhakcmfkghbaa
namespace Go.Proofs.Ytadhakcmfkghbaa
def Byt (l:List Int):Prop:=∀ c∈l,0≤c∧c≤255
def rawF:Nat→List Int→Option (Nat × List Int)
 | _,[]=>none
 | k,c::l=>if k=9∧1<c then none else if c<128 then (if c=0∧0<k then none else some (c.toNat,l)) else (rawF (k+1) l).map fun p=>(c.toNat - 128+128 * p.1,p.2)
theorem rawF_num:∀ (n k:Nat) (rest:List Int),(k=0∨0<n)→n * 128 ^ k<18446744073709551616→k≤9→rawF k (num n++rest)=some (n,rest):=by
 intro n
 induction n using Nat.strongRecOn with
 | _ n ih =>
  intro k rest h0 h1 hk
  have h9:k=9→n≤1:=by
   rintro rfl
   have:(128:Nat) ^ 9=9223372036854775808:=by decide
   omega
  by_cases h:n<128
  ·rw [num_lo h]
   rw [List.cons_append,List.nil_append,rawF]
   rw [if_neg (by rintro ⟨e,f⟩;have:=h9 e;omega),if_pos by10,if_neg by10]
   simp
  rw [num_hi h]
  rw [List.cons_append,rawF]
  have hk9:k≠9:=fun e=>by have:=h9 e;omega
  rw [if_neg by10,if_neg by10]
  have hb:n / 128 * 128 ^ (k+1)<18446744073709551616:=by
   rw [Nat.pow_succ,Nat.mul_comm (128 ^ k) 128,← Nat.mul_assoc]
   exact Nat.lt_of_le_of_lt (Nat.mul_le_mul_right _ (Nat.div_mul_le_self n 128)) h1
  rw [ih (n / 128) by10 (k+1) rest (.inr by10) hb by10]
  simp only [Option.map_some,Int.toNat_natCast,Option.some.injEq,Prod.mk.injEq,and_true]
  omega
theorem raw_bnd (k m y d q:Nat) (hd:d=128 ^ (k+1)) (hq:q * d=18446744073709551616) (h:m * d<18446744073709551616) (hy:y<128 * (m+1)):y * 128 ^ k<18446744073709551616:=by
 rw [← hq] at h ⊢
 have h1:m<q:=Nat.lt_of_mul_lt_mul_right h
 have hd0:0<128 ^ k:=Nat.pow_pos by9
 have h2:y * 128 ^ k<128 * (m+1) * 128 ^ k:=Nat.mul_lt_mul_of_pos_right hy hd0
 have h3:128 * (m+1) * 128 ^ k≤128 * q * 128 ^ k:=Nat.mul_le_mul_right _ (Nat.mul_le_mul_left _ by10)
 have h4:128 * q * 128 ^ k=q * d:=by rw [hd,Nat.pow_succ,Nat.mul_comm 128 q,Nat.mul_assoc,Nat.mul_comm 128]
 omega
theorem raw_div (k:Nat) (hk:k≤8):∃ q,q * 128 ^ (k+1)=18446744073709551616:=by
 refine ⟨2 ^ (64 - 7 * (k+1)),?_⟩
 rw [show (128:Nat)=2 ^ 7 from rfl,← Nat.pow_mul,← Nat.pow_add,show 64 - 7 * (k+1)+7 * (k+1)=64 by omega]
theorem rawF_back:∀ (l:List Int) (k n:Nat) (rest:List Int),Byt l→k≤9→rawF k l=some (n,rest)→l=num n++rest∧n * 128 ^ k<18446744073709551616∧(0<k→0<n):=by
 intro l
 induction l with
 | nil=>intro k n rest _ _ h;simp [rawF] at h
 | cons c l ih =>
  intro k n rest hb hk h
  have hc:=hb c by11
  rw [rawF] at h
  split at h
  ·simp at h
  rename_i h1
  split at h
  ·rename_i h2
   split at h
   ·simp at h
   rename_i h3
   simp only [Option.some.injEq,Prod.mk.injEq] at h
   obtain ⟨rfl,rfl⟩:=h
   rw [num_lo by10]
   refine ⟨by simp;omega,?_,fun hk0=>by omega⟩
   by_cases e:k=9
   ·subst e
    have:(128:Nat) ^ 9=9223372036854775808:=by decide
    have:c.toNat≤1:=by omega
    omega
   have:(128:Nat) ^ k≤128 ^ 8:=Nat.pow_le_pow_right by9 by10
   have h8:(128:Nat) ^ 8=72057594037927936:=by decide
   have:c.toNat * 128 ^ k≤127 * 128 ^ 8:=Nat.mul_le_mul by10 this
   omega
  rename_i h2
  cases hr:rawF (k+1) l with
  | none=>rw [hr] at h;simp at h
  | some p =>
   rw [hr] at h
   obtain ⟨m,r⟩:=p
   simp only [Option.map_some,Option.some.injEq,Prod.mk.injEq] at h
   obtain ⟨rfl,rfl⟩:=h
   have hk9:k≠9:=fun e=>h1 ⟨e,by omega⟩
   obtain ⟨k1,k2,k3⟩:=ih (k+1) m r (fun x hx=>hb x (List.mem_cons_of_mem _ hx)) by10 hr
   have hm:=k3 by10
   refine ⟨?_,?_,fun _=>by omega⟩
   ·rw [num_hi by10,k1]
    have e1:(c.toNat - 128+128 * m) / 128=m:=by omega
    have e2:(c.toNat - 128+128 * m) % 128=c.toNat - 128:=by omega
    rw [e1,e2]
    simp
    omega
   obtain ⟨q,hq⟩:=raw_div k by10
   exact raw_bnd k m _ _ q V hq k2 by10
structure Undo {α:Type} (R:List Int→Option (α × List Int)) (pr:α→List Int) (ok:α→List Int→Prop):Prop where
 fwd:∀ x rest,ok x rest→R (pr x++rest)=some (x,rest)
 bwd:∀ l x rest,Byt l→R l=some (x,rest)→l=pr x++rest∧ok x rest
theorem Byt.right {a b:List Int} (h:Byt (a++b)):Byt b:=fun c hc=>h c (by simp [hc])
def numR (l:List Int):Option (Int × List Int):=(rawF 0 l).bind fun p=>if p.1≤9223372036854775807 then some ((p.1:Int),p.2) else none
def unz (n:Nat):Int:=if n % 2=0 then ((n / 2:Nat):Int) else -((n / 2:Nat):Int) - 1
def sgnR (l:List Int):Option (Int × List Int):=(rawF 0 l).map fun p=>(unz p.1,p.2)
def lenR (l:List Int):Option (Nat × List Int):=(numR l).bind fun p=>if p.1≤p.2.length then some (p.1.toNat,p.2) else none
theorem num_undo:Undo numR (fun n=>num n.toNat) (fun n _=>0≤n∧n≤9223372036854775807):=by
 constructor
 ·rintro n rest ⟨h0,h1⟩
  unfold numR
  rw [rawF_num n.toNat 0 rest (.inl rfl) by7 by9]
  show (if n.toNat≤9223372036854775807 then some ((n.toNat:Int),rest) else none)=_
  rw [if_pos by10,show ((n.toNat:Nat):Int)=n by omega]
 intro l n rest hb h
 unfold numR at h
 cases hr:rawF 0 l with
 | none=>rw [hr] at h;simp at h
 | some p =>
  rw [hr] at h
  obtain ⟨m,r⟩:=p
  simp only [Option.bind_some] at h
  split at h
  ·rename_i hm
   simp only [Option.some.injEq,Prod.mk.injEq] at h
   obtain ⟨rfl,rfl⟩:=h
   obtain ⟨k1,_,_⟩:=rawF_back l 0 m r hb by9 hr
   exact ⟨by simpa using k1,by omega,by omega⟩
  simp at h
theorem unz_zz {n:Int} (h0 : -9223372036854775808≤n) (h1:n≤9223372036854775807):unz (zz n)=n:=by
 unfold unz zz
 split <;> split <;> omega
theorem zz_unz (n:Nat):zz (unz n)=n:=by
 unfold unz zz
 split <;> split <;> omega
theorem sgn_undo:Undo sgnR (fun n=>num (zz n)) (fun n _ => -9223372036854775808≤n∧n≤9223372036854775807):=by
 constructor
 ·rintro n rest ⟨h0,h1⟩
  unfold sgnR
  rw [rawF_num (zz n) 0 rest (.inl rfl) (by unfold zz;simp;split <;> omega) by9]
  simp only [Option.map_some,unz_zz h0 h1]
 intro l n rest hb h
 unfold sgnR at h
 cases hr:rawF 0 l with
 | none=>rw [hr] at h;simp at h
 | some p =>
  rw [hr] at h
  obtain ⟨m,r⟩:=p
  simp only [Option.map_some,Option.some.injEq,Prod.mk.injEq] at h
  obtain ⟨rfl,rfl⟩:=h
  obtain ⟨k1,k2,_⟩:=rawF_back l 0 m r hb by9 hr
  refine ⟨by rw [zz_unz];exact k1,?_,?_⟩ <;>(unfold unz;simp at k2;split <;> omega)
theorem len_undo:Undo lenR (fun n=>num n) (fun n rest=>n≤rest.length∧n≤9223372036854775807):=by
 constructor
 ·rintro n rest ⟨h0,h1⟩
  unfold lenR
  have:=num_undo.fwd (n:Int) rest ⟨by omega,by omega⟩
  simp only [Int.toNat_natCast] at this
  rw [this]
  show (if (n:Int)≤(rest.length:Int) then some ((n:Int).toNat,rest) else none)=_
  rw [if_pos by10,Int.toNat_natCast]
 intro l n rest hb h
 unfold lenR at h
 cases hr:numR l with
 | none=>rw [hr] at h;simp at h
 | some p =>
  rw [hr] at h
  obtain ⟨m,r⟩:=p
  simp only [Option.bind_some] at h
  split at h
  ·rename_i hm
   simp only [Option.some.injEq,Prod.mk.injEq] at h
   obtain ⟨rfl,rfl⟩:=h
   obtain ⟨k1,k2,k3⟩:=num_undo.bwd l m r hb hr
   exact ⟨k1,by omega,by omega⟩
  simp at h
def manyR {α:Type} (R:List Int→Option (α × List Int)):Nat→List Int→Option (List α × List Int)
 | 0,l=>some ([],l)
 | n+1,l=>(R l).bind fun p=>(manyR R n p.2).map fun q=>(p.1::q.1,q.2)
def ManyOk {α:Type} (pr:α→List Int) (ok:α→List Int→Prop):List α→List Int→Prop
 | [],_=>True
 | x::xs,rest=>ok x ((xs.map pr).flatten++rest)∧ManyOk pr ok xs rest
theorem many_undo {α:Type} {R:List Int→Option (α × List Int)} {pr:α→List Int} {ok:α→List Int→Prop} (h:Undo R pr ok):∀ n:Nat,Undo (manyR R n) (fun l=>(l.map pr).flatten) (fun l rest=>l.length=n∧ManyOk pr ok l rest)
 | 0=>by
  constructor
  ·rintro l rest ⟨h1,_⟩
   have:=List.eq_nil_of_length_eq_zero h1
   subst this
   rfl
  intro l x rest _ e
  simp only [manyR,Option.some.injEq,Prod.mk.injEq] at e
  obtain ⟨rfl,rfl⟩:=e
  exact ⟨V,V,trivial⟩
 | n+1=>by
  have ih:=many_undo h n
  constructor
  ·rintro l rest ⟨h1,h2⟩
   cases l with
   | nil=>simp at h1
   | cons x xs =>
    obtain ⟨h3,h4⟩:=h2
    rw [List.map_cons,List.flatten_cons,List.append_assoc,manyR,h.fwd x _ h3]
    simp only [Option.bind_some]
    rw [ih.fwd xs rest ⟨by simpa using h1,h4⟩]
    rfl
  intro l x rest hb e
  rw [manyR] at e
  cases hr:R l with
  | none=>rw [hr] at e;simp at e
  | some p =>
   rw [hr] at e
   obtain ⟨y,r⟩:=p
   simp only [Option.bind_some] at e
   obtain ⟨k1,k2⟩:=h.bwd l y r hb hr
   cases hm:manyR R n r with
   | none=>rw [hm] at e;simp at e
   | some q =>
    rw [hm] at e
    obtain ⟨ys,r2⟩:=q
    simp only [Option.map_some,Option.some.injEq,Prod.mk.injEq] at e
    obtain ⟨rfl,rfl⟩:=e
    obtain ⟨k3,k4,k5⟩:=ih.bwd r ys r2 (by rw [k1] at hb;exact hb.right) hm
    refine ⟨?_,by simp [k4],?_,k5⟩
    ·rw [List.map_cons,List.flatten_cons,List.append_assoc,← k3];exact k1
    rw [← k3];exact k2
open Go.RowKit
theorem Undo.bind {α β γ:Type} {R:List Int→Option (α × List Int)} {pr:α→List Int} {ok:α→List Int→Prop} {S:α→List Int→Option (β × List Int)} {ps:α→β→List Int} {okS:α→β→List Int→Prop} (h:Undo R pr ok) (k:∀ a,Undo (S a) (ps a) (okS a)) (f:α→β→γ) (p1:γ→α) (p2:γ→β) (hf:∀ a b rest,okS a b rest→p1 (f a b)=a∧p2 (f a b)=b) (hc:∀ c,f (p1 c) (p2 c)=c) :
    Undo (fun l=>(R l).bind fun p=>(S p.1 p.2).map fun q=>(f p.1 q.1,q.2)) (fun c=>pr (p1 c)++ps (p1 c) (p2 c)) (fun c rest=>ok (p1 c) (ps (p1 c) (p2 c)++rest)∧okS (p1 c) (p2 c) rest):=by
 constructor
 ·rintro c rest ⟨h1,h2⟩
  show ((R (pr (p1 c)++ps (p1 c) (p2 c)++rest)).bind fun p=>(S p.1 p.2).map fun q=>(f p.1 q.1,q.2))=_
  rw [List.append_assoc,h.fwd _ _ h1]
  simp only [Option.bind_some]
  rw [(k (p1 c)).fwd _ _ h2]
  simp only [Option.map_some,hc]
 intro l c rest hb e
 cases hr:R l with
 | none=>simp only [hr] at e;simp at e
 | some p =>
  simp only [hr,Option.bind_some] at e
  obtain ⟨a,r⟩:=p
  obtain ⟨k1,k2⟩:=h.bwd l a r hb hr
  cases hs:S a r with
  | none=>simp only [hs] at e;simp at e
  | some q =>
   simp only [hs,Option.map_some,Option.some.injEq,Prod.mk.injEq] at e
   obtain ⟨b,r2⟩:=q
   obtain ⟨rfl,rfl⟩:=e
   obtain ⟨k3,k4⟩:=(k a).bwd r b r2 (by rw [k1] at hb;exact hb.right) hs
   obtain ⟨e1,e2⟩:=hf a b r2 k4
   show l=pr (p1 (f a b))++ps (p1 (f a b)) (p2 (f a b))++r2∧_
   rw [e1,e2]
   exact ⟨by rw [List.append_assoc,← k3];exact k1,by rw [← k3];exact k2,k4⟩
theorem Undo.only {α:Type} {R:List Int→Option (α × List Int)} {pr:α→List Int} {ok:α→List Int→Prop} (h:Undo R pr ok) (q:α→Prop) [DecidablePred q]:Undo (fun l=>(R l).bind fun p=>if q p.1 then some p else none) pr (fun x rest=>ok x rest∧q x):=by
 constructor
 ·rintro x rest ⟨h1,h2⟩
  show ((R (pr x++rest)).bind fun p=>if q p.1 then some p else none)=_
  rw [h.fwd x rest h1]
  simp only [Option.bind_some]
  rw [if_pos h2]
 intro l x rest hb e
 cases hr:R l with
 | none=>simp only [hr] at e;simp at e
 | some p =>
  simp only [hr,Option.bind_some] at e
  split at e
  ·rename_i hq
   simp only [Option.some.injEq] at e
   subst e
   obtain ⟨k1,k2⟩:=h.bwd l x rest hb hr
   exact ⟨k1,k2,hq⟩
  simp at e
theorem Undo.maybe {α:Type} {R:List Int→Option (α × List Int)} {pr:α→List Int} {ok:α→List Int→Prop} (h:Undo R pr ok) (b:Bool) (d:α):Undo (fun l=>if b then R l else some (d,l)) (fun x=>if b then pr x else []) (fun x rest=>if b then ok x rest else x=d):=by
 cases b with
 | true=>exact ⟨fun x rest h1=>h.fwd x rest h1,fun l x rest hb e=>h.bwd l x rest hb e⟩
 | false =>
  constructor
  ·intro x rest h1
   have h1:x=d:=h1
   subst h1;rfl
  intro l x rest _ e
  have e:some (d,l)=some (x,rest):=e
  simp only [Option.some.injEq,Prod.mk.injEq] at e
  obtain ⟨rfl,rfl⟩:=e
  exact ⟨V,V⟩
def listR {α:Type} (R:List Int→Option (α × List Int)) (l:List Int):Option (List α × List Int):=(lenR l).bind fun p=>(manyR R p.1 p.2).map fun q=>(q.1,q.2)
theorem list_undo {α:Type} {R:List Int→Option (α × List Int)} {pr:α→List Int} {ok:α→List Int→Prop} (h:Undo R pr ok):Undo (listR R) (fun l=>num l.length++(l.map pr).flatten) (fun l rest=>(l.length≤((l.map pr).flatten++rest).length∧l.length≤9223372036854775807)∧l.length=l.length∧ManyOk pr ok l rest) :=
 Undo.bind len_undo (fun n=>many_undo h n) (fun _ l=>l) List.length (fun l=>l) (fun _ _ _ k=>⟨k.1,rfl⟩) (fun _=>rfl)
def bytR (n:Nat) (l:List Int):Option (List Int × List Int):=if n≤l.length then some (l.take n,l.drop n) else none
theorem byt_undo (n:Nat):Undo (bytR n) (fun t=>t) (fun t _=>t.length=n):=by
 constructor
 ·rintro t rest rfl
  unfold bytR
  rw [if_pos by11]
  simp
 intro l t rest _ e
 unfold bytR at e
 split at e
 ·rename_i hl
  simp only [Option.some.injEq,Prod.mk.injEq] at e
  obtain ⟨rfl,rfl⟩:=e
  exact ⟨(List.take_append_drop n l).symm,by simp;omega⟩
 simp at e
def txtR (l:List Int):Option (List Int × List Int):=(lenR l).bind fun p=>(bytR p.1 p.2).map fun q=>(q.1,q.2)
theorem txt_undo:Undo txtR (fun t=>num t.length++t) (fun t rest=>(t.length≤(t++rest).length∧t.length≤9223372036854775807)∧t.length=t.length) :=
 Undo.bind len_undo (fun n=>byt_undo n) (fun _ t=>t) List.length (fun t=>t) (fun _ _ _ k=>⟨k,rfl⟩) (fun _=>rfl)
theorem Undo.pair {α β:Type} {R:List Int→Option (α × List Int)} {pr:α→List Int} {ok:α→List Int→Prop} {S:List Int→Option (β × List Int)} {ps:β→List Int} {okS:β→List Int→Prop} (h:Undo R pr ok) (k:Undo S ps okS) :
    Undo (fun l=>(R l).bind fun p=>(S p.2).map fun q=>((p.1,q.1),q.2)) (fun c=>pr c.1++ps c.2) (fun c rest=>ok c.1 (ps c.2++rest)∧okS c.2 rest) :=
 Undo.bind h (fun _=>k) Prod.mk Prod.fst Prod.snd (fun _ _ _ _=>⟨rfl,rfl⟩) (fun _=>rfl)
def AtomP (f:Cf) (gl:Int) (a:Ato):Prop:=a.k=1∨(0≤a.n∧((a.k=2∧a.n<f.sl)∨(a.k=3∧a.n<f.cp)∨(a.k=4∧a.n<gl)))
def opOk (op:Int):Bool:=decide (1≤op∧op≤15)
def opA (op:Int):Bool:=decide (op=1∨op=2∨op=3∨op=4∨op=5∨op=8∨op=9∨op=10)
def opB (op:Int):Bool:=decide (op=2∨op=13∨op=14)
def opN (op:Int):Bool:=decide (op=3∨op=8∨op=9∨op=12∨op=13)
def opS (op:Int):Bool:=decide (op=13)
def opG (op:Int):Int:=if op=5∨op=6 then 2 else if op=1∨op=7∨op=9∨op=10∨op=11 then 1 else if op=3∨op=8 then -1 else 0
theorem opOk_iff (op:Int):opOk op=true↔1≤op∧op≤15:=by simp [opOk]
theorem opA_iff (op:Int):opA op=true↔(op=1∨op=2∨op=3∨op=4∨op=5∨op=8∨op=9∨op=10):=by simp [opA]
theorem opB_iff (op:Int):opB op=true↔(op=2∨op=13∨op=14):=by simp [opB]
theorem opN_iff (op:Int):opN op=true↔(op=3∨op=8∨op=9∨op=12∨op=13):=by simp [opN]
theorem opS_iff (op:Int):opS op=true↔op=13:=by simp [opS]
def PlaP (c:Cd) (f:Cf) (fr to:Int) (i:Is) (fa fb:Bool):Prop:=(fa=false→i.a=0)∧(fb=false→i.b=0)∧(fa=true→0≤i.a∧((i.op=10→i.a<c.gl)∧(i.op≠10→i.a<f.sl)))∧(fb=true→(i.op=2→0≤i.b∧i.b<c.tx.length)∧(i.op≠2→fr≤i.b∧i.b<to))
def NumP (ps:List Pm) (i:Is) (fn:Bool) (ag:Int):Prop:=(i.op=3→0<i.ar.length∧0≤i.n∧i.n≤65535)∧(i.op=8→1≤i.n∧i.n≤ps.length∧∀ p,ps[(i.n - 1).toNat]?=some p→(i.ar.length:Int)=p.n)∧(i.op=9∨i.op=12→0≤i.n∧i.n≤1048576∧(i.ar.length:Int)=ag)∧(i.op≠3∧i.op≠8∧i.op≠9∧i.op≠12→(fn=true∨i.n=0)∧(i.ar.length:Int)=ag)
def CapP (c:Cd) (f:Cf) (n:Int) (l:List Ato):Prop:=1≤n∧n<c.fu.length∧(∀ g,c.fu[n.toNat]?=some g→(l.length:Int)=g.cp)∧∀ a∈l,AtomP f c.gl a
def FixP (c:Cd) (f:Cf) (i:Is):Prop:=(i.op≠4→i.fs=[]∧i.cp=[])∧(i.op=4→i.fs≠[]∧i.cp.length=i.fs.length∧i.a≤f.sl - i.fs.length∧∀ (k:Nat) n l,i.fs[k]?=some n→i.cp[k]?=some l→CapP c f n l)
def InsP (ps:List Pm) (c:Cd) (f:Cf) (fr to:Int) (i:Is):Prop:=opOk i.op=true∧PlaP c f fr to i (opA i.op) (opB i.op)∧NumP ps i (opN i.op) (opG i.op)∧(∀ a∈i.ar,AtomP f c.gl a)∧FixP c f i
theorem ne_nil_iff {α:Type} (l:List α):l≠[]↔0<l.length:=by cases l <;> simp
def kindR (l:List Int):Option (Int × List Int):=(numR l).bind fun p=>if 1≤p.1∧p.1≤4 then some p else none
theorem kind_undo:Undo kindR (fun n=>num n.toNat) (fun n _=>(0≤n∧n≤9223372036854775807)∧(1≤n∧n≤4)):=Undo.only num_undo (fun k=>1≤k∧k≤4)
def valR (k:Int) (l:List Int):Option (Int × List Int):=if k=1 then sgnR l else numR l
def valB (k n:Int):List Int:=if k=1 then num (zz n) else num n.toNat
theorem val_undo (k:Int):Undo (valR k) (valB k) (fun n _=>if k=1 then -9223372036854775808≤n∧n≤9223372036854775807 else 0≤n∧n≤9223372036854775807):=by
 unfold valR valB
 by_cases h:k=1
 ·simp only [h,if_true];exact sgn_undo
 simp only [h,if_false];exact num_undo
def atoR (l:List Int):Option (Ato × List Int):=(kindR l).bind fun p=>(valR p.1 p.2).map fun q=>(Ato.mk p.1 q.1,q.2)
def atoB (a:Ato):List Int:=num a.k.toNat++valB a.k a.n
def AtoOk (a:Ato):Prop:=(1≤a.k∧a.k≤4)∧(if a.k=1 then -9223372036854775808≤a.n∧a.n≤9223372036854775807 else 0≤a.n∧a.n≤9223372036854775807)
theorem Undo.ok {α:Type} {R:List Int→Option (α × List Int)} {pr pr':α→List Int} {ok ok':α→List Int→Prop} (h:Undo R pr ok) (hp:∀ x,pr' x=pr x) (hk:∀ x rest,ok' x rest↔ok x rest):Undo R pr' ok' :=
 ⟨fun x rest k=>by rw [hp];exact h.fwd x rest ((hk x rest).1 k),fun l x rest hb e=>by rw [hp];exact ⟨(h.bwd l x rest hb e).1,(hk x rest).2 (h.bwd l x rest hb e).2⟩⟩
theorem Undo.cong {α:Type} {R R':List Int→Option (α × List Int)} {pr pr':α→List Int} {ok ok':α→List Int→Prop} (h:Undo R pr ok) (hR:∀ l,R' l=R l) (hp:∀ x,pr' x=pr x) (hk:∀ x rest,ok' x rest↔ok x rest):Undo R' pr' ok':=by
 have e:R'=R:=funext hR
 subst e
 exact h.ok hp hk
theorem ato_undo:Undo atoR atoB (fun a _=>AtoOk a) :=
 (Undo.bind kind_undo val_undo Ato.mk Ato.k Ato.n (fun _ _ _ _=>⟨rfl,rfl⟩) (fun a=>by cases a;rfl)).ok (fun _=>rfl) (fun a _=>by
  constructor
  ·rintro ⟨h1,h2⟩;exact ⟨⟨⟨by omega,by omega⟩,h1⟩,h2⟩
  rintro ⟨⟨_,h1⟩,h2⟩;exact ⟨h1,h2⟩)
def argR (g:Int) (l:List Int):Option (List Ato × List Int):=if g<0 then listR atoR l else manyR atoR g.toNat l
def argB (g:Int) (l:List Ato):List Int:=if g<0 then num l.length++(l.map atoB).flatten else (l.map atoB).flatten
def ArgOk (g:Int) (l:List Ato) (rest:List Int):Prop:=if g<0 then (l.length≤((l.map atoB).flatten++rest).length∧l.length≤9223372036854775807)∧l.length=l.length∧ManyOk atoB (fun a _=>AtoOk a) l rest else l.length=g.toNat∧ManyOk atoB (fun a _=>AtoOk a) l rest
theorem arg_undo (g:Int):Undo (argR g) (argB g) (ArgOk g):=by
 by_cases h:g<0
 ·exact (list_undo ato_undo).cong (fun l=>by unfold argR;rw [if_pos h]) (fun l=>by unfold argB;rw [if_pos h]) (fun l rest=>by unfold ArgOk;rw [if_pos h])
 exact (many_undo ato_undo g.toNat).cong (fun l=>by unfold argR;rw [if_neg h]) (fun l=>by unfold argB;rw [if_neg h]) (fun l rest=>by unfold ArgOk;rw [if_neg h])
abbrev Mkd:=Int × List Ato
def mkdR (l:List Int):Option (Mkd × List Int):=(numR l).bind fun p=>(listR atoR p.2).map fun q=>((p.1,q.1),q.2)
def mkdB (x:Mkd):List Int:=num x.1.toNat++(num x.2.length++(x.2.map atoB).flatten)
def MkdOk (x:Mkd) (rest:List Int):Prop:=(0≤x.1∧x.1≤9223372036854775807)∧(x.2.length≤((x.2.map atoB).flatten++rest).length∧x.2.length≤9223372036854775807)∧x.2.length=x.2.length∧ManyOk atoB (fun a _=>AtoOk a) x.2 rest
theorem mkd_undo:Undo mkdR mkdB MkdOk:=Undo.pair num_undo (list_undo ato_undo)
def nR (op:Int) (l:List Int):Option (Int × List Int):=if opN op then (if opS op then sgnR l else numR l) else some (0,l)
def nB (op n:Int):List Int:=if opN op then (if opS op then num (zz n) else num n.toNat) else []
def NOk (op n:Int):Prop:=if opN op then (if opS op then -9223372036854775808≤n∧n≤9223372036854775807 else 0≤n∧n≤9223372036854775807) else n=0
theorem n_undo (op:Int):Undo (nR op) (nB op) (fun n _=>NOk op n):=by
 unfold nR nB NOk
 cases h1:opN op with
 | false =>
  constructor
  ·intro x rest k
   have k:x=0:=k
   subst k;rfl
  intro l x rest _ e
  have e:some ((0:Int),l)=some (x,rest):=e
  simp only [Option.some.injEq,Prod.mk.injEq] at e
  obtain ⟨rfl,rfl⟩:=e
  exact ⟨V,V⟩
 | true =>
  cases h2:opS op with
  | true=>exact sgn_undo
  | false=>exact num_undo
structure Rd (α:Type) where
 R:List Int→Option (α × List Int)
 pr:α→List Int
 ok:α→List Int→Prop
 undo:Undo R pr ok
 mono:∀ x r s,ok x r→ok x (r++s)
def Rd.pair {α β:Type} (x:Rd α) (y:Rd β):Rd (α × β):=⟨_,_,_,Undo.pair x.undo y.undo,fun c r s h=>⟨by rw [← List.append_assoc];exact x.mono _ _ s h.1,y.mono _ _ s h.2⟩⟩
def Rd.dep {α β:Type} (x:Rd α) (y:α→Rd β):Rd (α × β):=⟨fun l=>(x.R l).bind fun p=>((y p.1).R p.2).map fun q=>((p.1,q.1),q.2),fun c=>x.pr c.1++(y c.1).pr c.2,fun c rest=>x.ok c.1 ((y c.1).pr c.2++rest)∧(y c.1).ok c.2 rest,
 Undo.bind x.undo (fun a=>(y a).undo) Prod.mk Prod.fst Prod.snd (fun _ _ _ _=>⟨rfl,rfl⟩) (fun _=>rfl),fun c r s h=>⟨by rw [← List.append_assoc];exact x.mono _ _ s h.1,(y c.1).mono _ _ s h.2⟩⟩
theorem ManyOk.mono {α:Type} {pr:α→List Int} {ok:α→List Int→Prop} (hm:∀ x r s,ok x r→ok x (r++s)):∀ (l:List α) (r s:List Int),ManyOk pr ok l r→ManyOk pr ok l (r++s)
 | [],_,_,_=>trivial
 | x::xs,r,s,h=>⟨by rw [← List.append_assoc];exact hm _ _ _ h.1,ManyOk.mono hm xs r s h.2⟩
theorem listOk_mono {α:Type} {pr:α→List Int} {ok:α→List Int→Prop} (hm:∀ x r s,ok x r→ok x (r++s)) (l:List α) (r s:List Int) (h:(l.length≤((l.map pr).flatten++r).length∧l.length≤9223372036854775807)∧l.length=l.length∧ManyOk pr ok l r):(l.length≤((l.map pr).flatten++(r++s)).length∧l.length≤9223372036854775807)∧l.length=l.length∧ManyOk pr ok l (r++s):=by
 refine ⟨⟨?_,h.1.2⟩,V,h.2.2.mono hm l r s⟩
 have:=h.1.1
 simp only [List.length_append] at this ⊢
 omega
def Rd.list {α:Type} (x:Rd α):Rd (List α):=⟨_,_,_,list_undo x.undo,listOk_mono x.mono⟩
def Rd.maybe {α:Type} (x:Rd α) (b:Bool) (d:α):Rd α:=⟨_,_,_,x.undo.maybe b d,fun y r s h=>by cases b with
    | true=>exact x.mono y r s h
    | false=>exact h⟩
def Rd.only {α:Type} (x:Rd α) (q:α→Prop) [DecidablePred q]:Rd α:=⟨_,_,_,x.undo.only q,fun y r s h=>⟨x.mono y r s h.1,h.2⟩⟩
def numD:Rd Int:=⟨_,_,_,num_undo,fun _ _ _ h=>h⟩
def nD (op:Int):Rd Int:=⟨_,_,_,n_undo op,fun _ _ _ h=>h⟩
def argD (g:Int):Rd (List Ato):=⟨_,_,_,arg_undo g,fun l r s h=>by
    unfold ArgOk at h ⊢
    split at h <;> rename_i k
    ·rw [if_pos k];exact listOk_mono (fun _ _ _ h=>h) l r s h
    rw [if_neg k];exact ⟨h.1,h.2.mono (fun _ _ _ h=>h) l r s⟩⟩
def mkdD:Rd Mkd:=⟨_,_,_,mkd_undo,fun x r s h=>⟨h.1,listOk_mono (fun _ _ _ h=>h) x.2 r s h.2⟩⟩
def txtD:Rd (List Int):=⟨_,_,_,txt_undo,fun t r s h=>⟨⟨by have:=h.1.1;simp only [List.length_append] at this ⊢;omega,h.1.2⟩,rfl⟩⟩
def fixD (op:Int):Rd (List Mkd):=mkdD.list.maybe (decide (op=4)) []
abbrev RI:=Int × Int × Int × Int × List Ato × List Mkd
def insD:Rd RI:=(numD.only fun op=>opOk op=true).dep fun op=>(numD.maybe (opA op) 0).pair ((nD op).pair ((numD.maybe (opB op) 0).pair ((argD (opG op)).pair (fixD op))))
abbrev RC:=Int × Int × Int × List (List Int) × List (Int × Int × Int) × List RI
def codD:Rd RC:=numD.pair (numD.pair (numD.pair (txtD.list.pair ((numD.pair (numD.pair numD)).list.pair insD.list))))
def codB (c:RC):List Int:=199::codD.pr c
def codR:List Int→Option RC
 | []=>none
 | x::l=>if x=199 then (codD.R l).bind fun p=>if p.2=[] then some p.1 else none else none
theorem codR_fwd (c:RC) (h:codD.ok c []):codR (codB c)=some c:=by
 unfold codR codB
 have:=codD.undo.fwd c [] h
 rw [List.append_nil] at this
 simp [this]
theorem codR_bwd (l:List Int) (c:RC) (hb:Byt l) (h:codR l=some c):l=codB c∧codD.ok c []:=by
 cases l with
 | nil=>simp [codR] at h
 | cons x l =>
  rw [codR] at h
  split at h
  ·rename_i hx
   subst hx
   cases hr:codD.R l with
   | none=>simp [hr] at h
   | some p =>
    obtain ⟨c',r⟩:=p
    simp only [hr,Option.bind_some] at h
    split at h
    ·rename_i hn
     have hn:r=[]:=hn
     subst hn
     simp only [Option.some.injEq] at h
     subst h
     obtain ⟨k1,k2⟩:=codD.undo.bwd l c' [] (fun y hy=>hb y (List.mem_cons_of_mem _ hy)) hr
     rw [List.append_nil] at k1
     exact ⟨by unfold codB;rw [k1],k2⟩
    simp at h
  simp at h
theorem codR_cut (c:RC) (h:codD.ok c []) (k:Nat) (hk:k<(codB c).length) (hb:Byt (codB c)):codR ((codB c).take k)=none:=by
 cases hr:codR ((codB c).take k) with
 | none=>rfl
 | some d =>
  exfalso
  obtain ⟨k1,k2⟩:=codR_bwd _ d (fun x hx=>hb x (List.mem_of_mem_take hx)) hr
  have e:codB c=codB d++(codB c).drop k:=by rw [← k1,List.take_append_drop]
  have hd:(codB c).drop k≠[]:=by intro e2;have:=congrArg List.length e2;simp at this;omega
  generalize (codB c).drop k=t at e hd
  have e2:codD.pr c=codD.pr d++t:=by simpa [codB] using e
  have f1:=codD.undo.fwd c [] h
  rw [List.append_nil,e2,codD.undo.fwd d t (by have:=codD.mono d [] t k2;simpa using this)] at f1
  simp only [Option.some.injEq,Prod.mk.injEq] at f1
  exact hd f1.2
theorem codR_more (c:RC) (h:codD.ok c []) (t:List Int) (ht:t≠[]) (hb:Byt (codB c++t)):codR (codB c++t)=none:=by
 cases hr:codR (codB c++t) with
 | none=>rfl
 | some d =>
  exfalso
  obtain ⟨k1,k2⟩:=codR_bwd _ d hb hr
  have e2:codD.pr c++t=codD.pr d:=by simpa [codB] using k1
  have f1:=codD.undo.fwd d [] k2
  rw [List.append_nil,← e2,codD.undo.fwd c t (by have:=codD.mono c [] t h;simpa using this)] at f1
  simp only [Option.some.injEq,Prod.mk.injEq] at f1
  exact ht f1.2
def rdC (bs:List Int) (p:Nat):List AV:=[.seq 1 (bts bs),.val (.int .i64 p)]
def Gives (bs:List Int) (q:Prop) (c:List PanicEntry):Prop:=q∧∃ k:Int,0≤k∧k≤bs.length∧c=wrong k
def Reads {α:Type} (f:FuncId) (R:List Int→Option (α × List Int)) (val:α→Nat→AV):Prop:=∀ (b p:Nat) (bs:List Int),Byt bs→p≤bs.length→bs.length≤100000000 →
 ACallX Try.prog f [.ptr b 0] [.loc b (rdC bs p)] (fun v M'=>∃ x p',R (bs.drop p)=some (x,bs.drop p')∧p≤p'∧p'≤bs.length∧v=val x p∧M'=[.loc b (rdC bs p')]) (Gives bs (R (bs.drop p)=none))
theorem number_r (HR:Reads 71 (rawF 0) (fun n p=>.tup [.val (.int .u64 n),.val (.int .i64 p)])):Reads 55 numR (fun n _=>.val (.int .i64 n)):=by
 intro b p bs hb hp hl
 have H:=HR b p bs hb hp hl
 have HF:=fun (v:AV) (k:Int)=>fail_c v k
 refine ACallX.enter Try.func55 V (by kernel_rfl) V (Yj V) ?_
 refine Qj ?_
 refine Qp ?_
 refine QO ?_
 refine Qcj ?_
 refine AOpsX.cl 7 [0] (xs:=[.tmp 6]) V V V V V V (H) by0 (fun c h=>Ze c ⟨by unfold numR;rw [h.1];rfl,h.2⟩) ?_
 rintro v9 M9 ⟨n,p',hr,hp1,hp2,rfl,rfl⟩
 refine AOpsX.st 5 V V V (Zg V V (AOpsX.st 8 V V V (op_extract V V V (AOpsX.st 9 V V V (op_extract V V V (AOpsX.st 3 V V V (op_assign V V ?_)))))))
 refine QbX ?_
 refine QaU ?_
 refine QM ?_
 refine QbB ?_;intro c11 h11
 refine Qb ?_
 obtain ⟨rfl,g11⟩|⟨rfl,g11⟩:=Za h11
 ·refine Qr ?_
  refine QaT ?_
  refine Zb 16 V V V (op_convert V tu_102 tu_3 V (IntWalk.i64_in _ by10) ?_)
  refine Qi ?_
  exact Zd (R:=fun v M'=>_) V V (Yf _) by1 ⟨(n:Int),p',by unfold numR;rw [hr];show (if n≤9223372036854775807 then some ((n:Int),bs.drop p') else none)=_;rw [if_pos by10],hp1,hp2,V,V⟩
 refine Q6 ?_
 refine AOpsX.st 12 V V V (Zg V V (AOpsX.st 13 V V V (Zg V V ?_)))
 exact AOpsX.never 14 (xs:=[.tmp 12,.tmp 13]) V V V V V (HF _ _) by0 (fun c h=>Ze c ⟨by unfold numR;rw [hr];show (if n≤9223372036854775807 then some ((n:Int),bs.drop p') else none)=none;rw [if_neg by10],_,by omega,by omega,h⟩)
theorem numR_nn {l r:List Int} {n:Int} (h:numR l=some (n,r)):∃ m:Nat,n=m:=by
 unfold numR at h
 cases hr:rawF 0 l with
 | none=>rw [hr] at h;simp at h
 | some q =>
  rw [hr] at h
  simp only [Option.bind_some] at h
  split at h
  ·simp only [Option.some.injEq,Prod.mk.injEq] at h;exact ⟨q.1,h.1.symm⟩
  simp at h
theorem length_r (HN:Reads 55 numR (fun n _=>.val (.int .i64 n))):Reads 56 lenR (fun n _=>.val (.int .i64 n)):=by
 intro b p bs hb hp hl
 have H:=HN b p bs hb hp hl
 have HF:=fun (v:AV) (k:Int)=>fail_c v k
 have hbl:=bts_len bs
 unfold rdC at *
 refine ACallX.enter Try.func56 V (by kernel_rfl) V (Yj V) ?_
 refine Qj ?_
 refine Q1 ?_
 refine Qa6 ?_
 refine Qp ?_
 refine QO ?_
 refine Qck ?_
 refine AOpsX.cl 10 [0] (xs:=[.tmp 9]) V V V V V V (H) by0 (fun c h=>Ze c ⟨by unfold lenR;rw [h.1];rfl,h.2⟩) ?_
 rintro v9 M9 ⟨n,p',hr,hp1,hp2,rfl,rfl⟩;obtain ⟨m,rfl⟩:=numR_nn hr
 refine QbX ?_
 refine QaU ?_
 refine Ql ?_
 refine Qbp ?_
 refine Qv ?_
 refine Qv ?_
 refine Qbh ?_
 refine QaS ?_
 refine Qcl ?_
 refine Qv ?_
 refine Qbh ?_
 refine QaS ?_
 refine Zz 21 V V (op_sub V V V (IntWalk.i64_in _ by10) ⟨V,V⟩) ?_
 refine DOps.cm 22 V V (fun _ q=>op_gtr V V V q) ?_;intro c22 h22
 show AGo _ _ _ _ _ _ _
 refine Qd ?_
 obtain ⟨rfl,g22⟩|⟨rfl,g22⟩:=Za h22
 ·refine Qr ?_
  refine QaT ?_
  refine Qi ?_
  exact Zd (R:=fun v M'=>_) V V (Yf _) by1 ⟨m,p',by unfold lenR;rw [hr];show (if (m:Int)≤((bs.drop p').length:Int) then some ((m:Int).toNat,bs.drop p') else none)=_;rw [if_pos by7,Int.toNat_natCast],hp1,hp2,V,V⟩
 refine Q6 ?_
 refine AOpsX.st 23 V V V (Zg V V ?_)
 refine Qcm ?_
 exact AOpsX.never 25 (xs:=[.tmp 23,.tmp 24]) V V V V V (HF _ _) by0 (fun c h=>Ze c ⟨by unfold lenR;rw [hr];show (if (m:Int)≤((bs.drop p').length:Int) then some ((m:Int).toNat,bs.drop p') else none)=none;rw [if_neg by7],_,by omega,by omega,h⟩)
theorem and127_all:∀ x:Fin 256,bitsOf .and .u8 (x.val:Int) 127=((x.val % 128:Nat):Int):=by decide +kernel
theorem and127 (c:Int) (h0:0≤c) (h1:c≤255):bitsOf .and .u8 c 127=c % 128:=by
 have:=and127_all ⟨c.toNat,by omega⟩
 simp only at this
 rw [show ((c.toNat:Nat):Int)=c by omega] at this
 rw [this]
 omega
theorem or_shift (a x k:Nat) (ha:a<2 ^ k) (hs:a+x * 2 ^ k<18446744073709551616):bitsOf .or .u64 (a:Int) ((x * 2 ^ k:Nat):Int)=((a+x * 2 ^ k:Nat):Int):=by
 unfold bitsOf
 rw [u64wrap]
 show (((BitVec.ofInt 64 (a:Int) ||| BitVec.ofInt 64 ((x * 2 ^ k:Nat):Int):BitVec 64).toNat:Nat):Int) % _=_
 rw [BitVec.toNat_or,BitVec.ofInt_natCast,BitVec.ofInt_natCast,BitVec.toNat_ofNat,BitVec.toNat_ofNat,Nat.mod_eq_of_lt by10,Nat.mod_eq_of_lt by10]
 have e:a ||| x * 2 ^ k=a+x * 2 ^ k:=by
  rw [Nat.or_comm,Nat.mul_comm,← Nat.two_pow_add_eq_or_of_lt ha,Nat.add_comm]
 rw [e]
 omega
theorem seven_le (c:Int) (k:Nat) (h0:0≤c) (hk:k≤9) (h9:¬ (k=9∧1<c)):((c % 128).toNat+1) * 2 ^ (7 * k)≤18446744073709551616:=by
 by_cases e:k=9
 ·subst e
  exact Nat.le_trans (Nat.mul_le_mul (show (c % 128).toNat+1≤2 by omega) (Nat.le_refl (2 ^ (7 * 9)))) by9
 exact Nat.le_trans (Nat.mul_le_mul (show (c % 128).toNat+1≤128 by omega) (Nat.pow_le_pow_right by9 (show 7 * k≤56 by omega))) by9
theorem shl7 (c:Int) (k:Nat) (h0:0≤c) (hk:k≤9) (h9:¬ (k=9∧1<c)):IntKind.u64.wrap (c % 128 * 2 ^ min (7 * (k:Int)).toNat IntKind.u64.bits)=(((c % 128).toNat * 2 ^ (7 * k):Nat):Int):=by
 have h:=seven_le c k h0 hk h9
 have hp:0<2 ^ (7 * k):=Nat.pow_pos by9
 rw [u64wrap,show min (7 * (k:Int)).toNat IntKind.u64.bits=7 * k by show min (7 * (k:Int)).toNat 64=7 * k;omega]
 rw [Nat.add_mul] at h
 have e:c % 128 * (2:Int) ^ (7 * k)=(((c % 128).toNat * 2 ^ (7 * k):Nat):Int):=by
  rw [Int.natCast_mul,Int.natCast_pow]
  congr 1
  omega
 rw [e]
 omega
theorem raw_r:Reads 71 (rawF 0) (fun n p=>.tup [.val (.int .u64 n),.val (.int .i64 p)]):=by
 intro b p bs hb hp hl
 have HF:=fun (v:AV) (k:Int)=>fail_c v k
 have hbl:=bts_len bs
 unfold rdC at *
 refine ACallX.enter Try.func71 V (by kernel_rfl) V (Yj V) ?_
 refine Qj ?_
 refine QC ?_
 refine Q1 ?_
 refine Qa6 ?_
 refine Qau ?_
 refine Qau ?_
 refine Qk ?_
 refine QK ?_
 apply c_loopk (rg [(1,3),(5,77)]) (σ:=Nat × Nat) (fun zz=>match zz with|(k,acc)=>[(6,.val (.int .i64 k)),(5,.val (.int .u64 acc))]) (fun zz=>match zz with|(k,acc)=>[.loc b [.seq 1 (bts bs),.val (.int .i64 ((p+k:Nat):Int))]]) (fun zz=>match zz with|(k,acc)=>k≤9∧p+k≤bs.length∧acc<128 ^ k∧rawF 0 (bs.drop p)=(rawF k (bs.drop (p+k))).map fun q=>(acc+q.1 * 128 ^ k,q.2)) (fun zz=>match zz with|(k,acc)=>10 - k) ((0,0))
 ·repeat' (first|exact Ym|apply Yk rfl|apply Yl rfl)
 ·exact ⟨by decide,hp,by decide,by simp⟩
 ·exact by2
 ·exact by1
 rintro ⟨k,acc⟩ hI
 try dsimp only [List.cons_append,List.nil_append] at hI ⊢
 obtain ⟨h1,h2,h3,h4⟩:=hI
 refine Ql ?_
 refine QY ?_
 refine Ql ?_
 refine Qbp ?_
 refine Qv ?_
 refine Qbh ?_
 refine QaS ?_
 refine Qv ?_
 refine Qbh ?_
 refine QaS ?_
 refine Qcl ?_
 refine DOps.cm 23 V V (fun _ q=>op_eql V V V q) ?_;intro c23 h23
 show AGo _ _ _ _ _ _ _
 refine Qd ?_
 obtain ⟨rfl,g23⟩|⟨rfl,g23⟩:=Za h23
 ·refine QF ?_
  have hlt:p+k<bs.length:=by omega
  obtain ⟨c,hc⟩:∃ c,bs[p+k]?=some c:=⟨_,List.getElem?_eq_getElem hlt⟩
  have hbt:(bts bs)[p+k]?=some [.val (.int .u8 c)]:=by simp [bts,hc]
  have hcb:=hb c (Yn hc)
  have hdr:bs.drop (p+k)=c::bs.drop (p+k+1):=by
   rw [List.drop_eq_getElem_cons hlt]
   rw [List.getElem?_eq_getElem hlt] at hc
   simp only [Option.some.injEq] at hc
   rw [hc]
  rw [hdr,rawF] at h4
  refine Qbp ?_
  refine Qv ?_
  refine Qbh ?_
  refine QaS ?_
  refine Qv ?_
  refine Qbh ?_
  refine QaS ?_
  refine Zz 39 V V (Zo V te_31 V (.seq _ _) V V (hbt) ⟨V,V⟩) ?_
  refine Qbd ?_
  refine QbY ?_
  show AGo _ _ _ _ _ _ _
  refine QaT ?_
  refine Qa6 ?_
  refine QS ?_
  refine QaF ?_
  refine QN ?_
  refine Qcn ?_
  refine QaR ?_
  refine Zu 57 (k=9∧1<c) ?_ _ _ V ?_
  ·skip
   refine Qa ?_
   refine QA ?_;intro c49 h49
   refine Qa ?_
   obtain ⟨rfl,g49⟩|⟨rfl,g49⟩:=Za h49
   ·skip
    refine QT ?_
    refine Qc ?_
    refine Qm ?_
    refine Qad ?_;intro c56 h56
    refine Qu ?_
    refine Yi V ?_ by3 by1
    clear h4 HF;first|(simp_all;done)|(simp_all;omega)|grind
   skip
   refine Qm ?_
   refine Qad ?_;intro c52 h52
   refine Qc ?_
   obtain ⟨rfl,g52⟩|⟨rfl,g52⟩:=Za h52
   ·skip
    refine Qm ?_
    refine Qad ?_;intro c56 h56
    refine Qu ?_
    refine Yi V ?_ by3 by1
    clear h4 HF;first|(simp_all;done)|(simp_all;omega)|grind
   skip
   refine Qan ?_
   refine Yi V ?_ by3 by1
   clear h4 HF;first|(simp_all;done)|(simp_all;omega)|grind
  intro c57 h57
  refine Qd ?_
  obtain ⟨rfl,g57⟩|⟨rfl,g57⟩:=Za h57
  ·refine QF ?_
   have h8:acc<2 ^ (7 * k):=by rw [Nat.pow_mul];exact h3
   have h7:acc+(c % 128).toNat * 2 ^ (7 * k)<18446744073709551616:=by
    have:=seven_le c k hcb.1 h1 g57
    rw [Nat.add_mul] at this
    omega
   refine Qag ?_
   refine Zb 63 V V V (op_bits by11 V V V (and127 _ hcb.1 hcb.2) ?_)
   refine Zb 64 V V V (op_convert V tu_5 tu_102 V (IntWalk.u64_in _ by10) ?_)
   refine Qa ?_
   refine Zb 66 V V V (op_mul V V V (IntWalk.i64_in _ by10) ?_)
   refine Zb 67 V V V (op_shl V V V by10 (shl7 c k hcb.1 h1 g57) ?_)
   refine Zb 68 V V V (op_bits by11 V V V (or_shift acc (c % 128).toNat (7 * k) h8 h7) ?_)
   refine Q1 ?_
   refine Qaq ?_;intro c70 h70
   refine Qb ?_
   obtain ⟨rfl,g70⟩|⟨rfl,g70⟩:=Za h70
   ·refine Qr ?_
    refine QW ?_
    refine Qd ?_
    refine Qt ?_
    refine QaP ?_
    refine QJ ?_
    have hk9:k≠9:=by rintro rfl;exact g57 ⟨rfl,by omega⟩
    have e:(c % 128).toNat * 2 ^ (7 * k)=(c.toNat - 128) * 128 ^ k:=by rw [Nat.pow_mul,show (c % 128).toNat=c.toNat - 128 by omega]
    refine ⟨(k+1,acc+(c % 128).toNat * 2 ^ (7 * k)),⟨show k+1≤9 by omega,show p+(k+1)≤bs.length by omega,?_,?_⟩,by show 10 - (k+1)<10 - k;omega,by2,by1⟩
    ·show acc+(c % 128).toNat * 2 ^ (7 * k)<128 ^ (k+1)
     have h5:(c.toNat - 128+1) * 128 ^ k≤128 * 128 ^ k:=Nat.mul_le_mul_right _ by10
     rw [e,Nat.pow_succ,Nat.mul_comm (128 ^ k) 128]
     rw [Nat.add_mul] at h5
     omega
    show rawF 0 (bs.drop p)=(rawF (k+1) (bs.drop (p+(k+1)))).map fun q=>(acc+(c % 128).toNat * 2 ^ (7 * k)+q.1 * 128 ^ (k+1),q.2)
    rw [h4,if_neg g57,if_neg g70,Option.map_map,e]
    congr 1
    funext q
    show (acc+(c.toNat - 128+128 * q.1) * 128 ^ k,q.2)=_
    rw [Nat.add_mul,Nat.pow_succ,Nat.mul_comm (128 ^ k) 128,← Nat.mul_assoc q.1,Nat.mul_comm q.1 128,Nat.add_assoc]
   refine Qao ?_
   refine Ql ?_
   refine Zu 76 (c=0∧0<k) ?_ _ _ V ?_
   ·skip
    refine Qa ?_
    refine QA ?_;intro c72 h72
    refine Qa ?_
    obtain ⟨rfl,g72⟩|⟨rfl,g72⟩:=Za h72
    ·skip
     refine Qan ?_
     refine Yi V ?_ by3 by1
     clear h4 HF;first|(simp_all;done)|(simp_all;omega)|grind
    skip
    refine Qm ?_
    refine Qad ?_;intro c75 h75
    refine Qu ?_
    refine Yi V ?_ by3 by1
    clear h4 HF;first|(simp_all;done)|(simp_all;omega)|grind
   intro c76 h76
   refine Qd ?_
   obtain ⟨rfl,g76⟩|⟨rfl,g76⟩:=Za h76
   ·refine Qr ?_
    refine QaT ?_
    refine Qa ?_
    refine QC ?_
    refine Qi ?_
    have e:(c % 128).toNat * 2 ^ (7 * k)=c.toNat * 128 ^ k:=by rw [Nat.pow_mul,Int.emod_eq_of_lt hcb.1 by10]
    exact out_tt (R:=fun v M'=>_) V V V (Yf _) by1 ⟨acc+(c % 128).toNat * 2 ^ (7 * k),p+k+1,by rw [h4,if_neg g57,if_pos g70,if_neg g76,e];rfl,by omega,by omega,V,V⟩
   refine Q6 ?_
   refine AOpsX.st 77 V V V (Zg V V (AOpsX.st 78 V V V (Zg V V ?_)))
   exact AOpsX.never 79 (xs:=[.tmp 77,.tmp 78]) V V V V V (HF _ _) by0 (fun c' h=>Ze c' ⟨by rw [h4,if_neg g57,if_pos g70,if_pos g76];rfl,_,by omega,by omega,h⟩)
  refine Q6 ?_
  refine AOpsX.st 58 V V V (Zg V V (AOpsX.st 59 V V V (Zg V V ?_)))
  exact AOpsX.never 60 (xs:=[.tmp 58,.tmp 59]) V V V V V (HF _ _) by0 (fun c' h=>Ze c' ⟨by rw [h4,if_pos g57];rfl,_,by omega,by omega,h⟩)
 refine Q6 ?_
 refine Qcm ?_
 refine AOpsX.st 25 V V V (Zg V V (AOpsX.st 26 V V V (op_nilCheck_m V V (AOpsX.st 27 V V V (Zf V tf_73_0 V (AOpsX.st 28 V V V (op_load_m1 (i:=0) V ta_31 V V V ?_)))))))
 refine AOpsX.st 29 V V V (op_len V tu_31 V (.seq _ _) (fun n29=>?_))
 exact AOpsX.never 30 (xs:=[.tmp 24,.tmp 29]) V V V V V (HF _ _) by0 (fun c h=>Ze c ⟨by rw [h4,List.drop_eq_nil_of_le by10];rfl,_,by omega,by omega,h⟩)
theorem and1 (n:Nat) (h:n<18446744073709551616):bitsOf .and .u64 (n:Int) 1=((n % 2:Nat):Int):=by
 unfold bitsOf
 rw [u64wrap]
 show (((BitVec.ofInt 64 (n:Int) &&& BitVec.ofInt 64 1:BitVec 64).toNat:Nat):Int) % _=_
 rw [BitVec.toNat_and,show (BitVec.ofInt 64 1).toNat=1 by decide,BitVec.ofInt_natCast,BitVec.toNat_ofNat,Nat.mod_eq_of_lt by10,Nat.and_one_is_mod]
 omega
theorem unz_xor (n:Nat) (h:n<18446744073709551616):bitsOf .xor .i64 ((n / 2:Nat):Int) (0 - ((n % 2:Nat):Int))=unz n:=by
 rw [Int.zero_sub]
 unfold unz
 split
 ·rename_i e
  rw [e]
  unfold bitsOf
  simp only [show BitVec.ofInt IntKind.i64.bits (-((0:Nat):Int))=0#_ from rfl,BitVec.xor_zero,BitVec.toNat_ofInt]
  rw [IntKind.wrap_i64]
  show ((((n / 2:Nat):Int) % (2 ^ 64:Nat)).toNat+_:Int) % _ - _=_
  omega
 rename_i e
 have e:n % 2=1:=by omega
 rw [e]
 unfold bitsOf
 have e1:BitVec.ofInt 64 (-((1:Nat):Int))=BitVec.allOnes 64:=by decide
 have e2:(BitVec.ofInt 64 ((n / 2:Nat):Int) ^^^ BitVec.allOnes 64).toNat=2 ^ 64 - 1 - (((n / 2:Nat):Int) % (2 ^ 64:Nat)).toNat:=by
  rw [BitVec.xor_allOnes,BitVec.toNat_not,BitVec.toNat_ofInt]
 show IntKind.i64.wrap (((BitVec.ofInt 64 ((n / 2:Nat):Int) ^^^ BitVec.ofInt 64 (-((1:Nat):Int)):BitVec 64).toNat:Nat):Int)=_
 rw [e1,e2,IntKind.wrap_i64]
 omega
theorem Byt.drop {l:List Int} (h:Byt l) (k:Nat):Byt (l.drop k):=fun c hc=>h c (List.mem_of_mem_drop hc)
theorem signed_r:Reads 72 sgnR (fun n _=>.val (.int .i64 n)):=by
 intro b p bs hb hp hl
 have H:=raw_r b p bs hb hp hl
 refine ACallX.enter Try.func72 V (by kernel_rfl) V (Yj V) ?_
 refine Qj ?_
 refine Qp ?_
 refine QO ?_
 refine Qcj ?_
 refine AOpsX.cl 7 [0] (xs:=[.tmp 6]) V V V V V V (H) by0 (fun c h=>Ze c ⟨by unfold sgnR;rw [h.1];rfl,h.2⟩) ?_
 rintro v9 M9 ⟨n,p',hr,hp1,hp2,rfl,rfl⟩
 refine AOpsX.st 5 V V V (Zg V V (AOpsX.st 8 V V V (op_extract V V V (AOpsX.st 9 V V V (op_extract V V V (AOpsX.st 3 V V V (op_assign V V ?_)))))))
 refine QbX ?_
 refine QaU ?_
 have hn:n<18446744073709551616:=by have:=(rawF_back _ 0 n _ (hb.drop p) by9 hr).2.1;omega
 have hsh:(n:Int) / 2 ^ min (1:Int).toNat IntKind.u64.bits=((n / 2:Nat):Int):=by rw [show (2:Int) ^ min (1:Int).toNat IntKind.u64.bits=2 from by decide];omega
 refine Qt ?_
 refine Zb 11 V V V (op_shr V V V by10 (hsh) ?_)
 refine QcO ?_
 refine Qa ?_
 refine Zb 14 V V V (op_bits by11 V V V (and1 n hn) ?_)
 refine QcO ?_
 refine Zb 16 V V V (op_neg V V (IntWalk.i64_in _ by10) ?_)
 refine Zb 17 V V V (op_bits by11 V V V (unz_xor n hn) ?_)
 refine Qi ?_
 exact Zd (R:=fun v M'=>_) V V (Yf _) by1 ⟨unz n,p',by unfold sgnR;rw [hr];rfl,hp1,hp2,V,V⟩
def atoV (a:Ato):AV:=.agg a.cells
theorem atom_r:Reads 77 atoR (fun a _=>atoV a):=by
 intro b p bs hb hp hl
 have H:=number_r raw_r b p bs hb hp hl
 have HF:=fun (v:AV) (k:Int)=>fail_c v k
 refine ACallX.enter Try.func77 V (by kernel_rfl) V (Yj V) ?_
 refine Qj ?_
 refine Zb 2 V V V (Zx (cs':=[_,_]) V tz_41 V V ?_);intro b2
 refine Qa5 ?_
 refine QaF ?_
 refine QaJ ?_
 refine Qp ?_
 refine QO ?_
 refine Qck ?_
 refine AOpsX.cl 10 [1] (xs:=[.tmp 9]) V V V V V V (H) by0 (fun c h=>Ze c ⟨by unfold atoR kindR;rw [h.1];rfl,h.2⟩) ?_
 rintro v9 M9 ⟨k,p1,hr,hp1,hp2,rfl,rfl⟩
 refine AOpsX.st 11 V V V (Zn (ns:=[0]) (xs:=[.tmp 10]) V tz_41 V tfl_41 V V V V (AOpsX.st 4 V V V (Zx (cs':=[_,_]) V tz_41 V V ?_)));intro b4
 refine AOpsX.st0 V V (Zi (cs':=[_,_]) (i:=0) V ts_41 V V V V V (Yj V) V ?_)
 refine QaU ?_
 refine Ql ?_
 refine Zu 19 (k<1∨4<k) ?_ _ _ V ?_
 ·skip
  refine Qs ?_
  refine Qaq ?_;intro c14 h14
  refine Qa ?_
  obtain ⟨rfl,g14⟩|⟨rfl,g14⟩:=Za h14
  ·skip
   refine Qah ?_
   refine Qad ?_;intro c18 h18
   refine Qu ?_
   refine Yi V ?_ by3 by1
   simp_all;omega
  skip
  refine Q5 ?_
  refine Qu ?_
  refine Yi V ?_ by3 by1
  simp_all;done
 intro c19 h19
 refine Qd ?_
 obtain ⟨rfl,g19⟩|⟨rfl,g19⟩:=Za h19
 ·refine Qaw ?_
  have hk:kindR (bs.drop p)=some (k,bs.drop p1):=by unfold kindR;rw [hr];show (if 1≤k∧k≤4 then some (k,bs.drop p1) else none)=_;rw [if_pos by10]
  have H1:=signed_r b p1 bs hb hp2 hl
  have H2:=number_r raw_r b p1 bs hb hp2 hl
  refine QaV ?_
  refine QA ?_;intro c25 h25
  refine Qb ?_
  obtain ⟨rfl,g25⟩|⟨rfl,g25⟩:=Za h25
  ·refine QR ?_
   refine QO ?_
   refine AOpsX.st 29 V V V (Zg V V ?_)
   refine AOpsX.cl 30 [1] (xs:=[.tmp 29]) V V V V V V (H2) by0 (fun c h=>Ze c ⟨by unfold atoR;rw [hk];show (Option.map _ (valR k (bs.drop p1)))=none;unfold valR;rw [if_neg by10,h.1];rfl,h.2⟩) ?_
   rintro v9 M9 ⟨n,p2,hr2,hp3,hp4,rfl,rfl⟩;have hv:valR k (bs.drop p1)=some (n,bs.drop p2):=by unfold valR;rw [if_neg by10];exact hr2
   refine AOpsX.st 31 V V V (Zf V tf_41_1 V ?_)
   refine QcP ?_
   refine Qaa ?_
   refine QU ?_
   refine QcR ?_
   refine QcS ?_
   refine Qb ?_
   refine c_ret ?_
   exact out_cell (R:=fun v M'=>_) (i:=2) V V V ta_41 V (Yf _) by1 ⟨Ato.mk k n,p2,by unfold atoR;rw [hk];show (Option.map _ (valR k (bs.drop p1)))=_;rw [hv];rfl,by omega,hp4,V,V⟩
  refine Q6 ?_
  refine AOpsX.st 26 V V V (Zg V V ?_)
  refine AOpsX.cl 27 [1] (xs:=[.tmp 26]) V V V V V V (H1) by0 (fun c h=>Ze c ⟨by unfold atoR;rw [hk];show (Option.map _ (valR k (bs.drop p1)))=none;unfold valR;rw [if_pos by10,h.1];rfl,h.2⟩) ?_
  rintro v9 M9 ⟨n,p2,hr2,hp3,hp4,rfl,rfl⟩;have hv:valR k (bs.drop p1)=some (n,bs.drop p2):=by unfold valR;rw [if_pos by10];exact hr2
  refine AOpsX.st 28 V V V (Zf V tf_41_1 V ?_)
  refine QcP ?_
  refine Qaa ?_
  refine QU ?_
  refine QcR ?_
  refine QcS ?_
  refine Qb ?_
  refine c_ret ?_
  exact out_cell (R:=fun v M'=>_) (i:=2) V V V ta_41 V (Yf _) by1 ⟨Ato.mk k n,p2,by unfold atoR;rw [hk];show (Option.map _ (valR k (bs.drop p1)))=_;rw [hv];rfl,by omega,hp4,V,V⟩
 refine Q6 ?_
 refine AOpsX.st 20 V V V (Zg V V ?_)
 refine Qco ?_
 exact AOpsX.never 22 (xs:=[.tmp 20,.tmp 21]) V V V V V (HF _ _) by0 (fun c h=>Ze c ⟨by unfold atoR kindR;rw [hr];show (Option.bind (if 1≤k∧k≤4 then some (k,bs.drop p1) else none) _)=none;rw [if_neg by10];rfl,_,by omega,by omega,h⟩)
section
variable {P:Program} {al:Sl} {M:Mem} {K:AV→Mem→Prop} {o:Oper}
theorem op_bytestr0 {x:Operand} {t t' e:TypeId} {v:AV} (ho:o.op=.convert t t' x) (ht:P.underlying t=some (.slice e)) (he:P.underlying e=some (.int .u8)) (ht':P.underlying t'=some .string) (hx:al.ev x=some v) (hv:IsSeq v 1 []) (q:K (.val (.string ⟨#[]⟩)) M):OpT P o al M K :=
 OpT.plain fun n B F Mf ac w hi hs=>by
  have h:=hv.rel (hs.ev hx)
  generalize hu:ac.eval x=u at h
  have key:∃ ao cap,u=.slice ao 0 cap:=by
   obtain ⟨ao,cap,h⟩:=h.seq_len
   exact ⟨ao,cap,h⟩
  obtain ⟨ao,cap,rfl⟩:=key
  refine ⟨_,_,?_,q,.val _⟩
  have hr:(convert t t' (.slice ao 0 cap)).run P w=.ok (.string ⟨#[]⟩) w:=by
   rw [run_convert_bytes_string w t t' e _ 0 cap ht he ht']
   cases ao <;> simp [Conv.bytesToString,loadCells,loadCellsFrom,ByteArray.empty,ByteArray.emptyWithCapacity] <;> rfl
  simp [execOp,ho,hu,hr]
theorem op_bytestra {x:Operand} {t t' e:TypeId} {v:AV} {xs:List Int} (ho:o.op=.convert t t' x) (ht:P.underlying t=some (.slice e)) (he:P.underlying e=some (.int .u8)) (ht':P.underlying t'=some .string) (hx:al.ev x=some v) (hv:IsSeq v 1 (bts xs)) (q:K (.val (.string (strOfNums xs))) M):OpT P o al M K:=by
 by_cases h0:xs=[]
 ·subst h0
  exact op_bytestr0 ho ht he ht' hx hv q
 exact op_bytestr ho ht he ht' hx hv h0 q
end
section
variable {P:Program} {al:Sl} {M:Mem} {K:AV→Mem→Prop} {o:Oper}
theorem Le.nilOwn (m:Nat):Le (.val (.slice none 0 0)) (.own (.slice none 0 0) m []):=fun F u h=>by
 cases h;exact .own _ (.seq0 m none 0 (fun _=>rfl))
theorem c_ownNew {ro:Option Nat} {n:Nat} {ks:List Kont} {Q:Exit→Sl→Mem→Prop} {c:Code} (e:TypeId) (m:Nat) (h:ACode ro P n c (after ro P n ks Q) al (M++[.own e m (.slice none 0 0)])):ACode ro P n c (after ro P n ks Q) al M:=fun B F Mf a w hi hs=>by
 refine h B F Mf a w ?_ hs
 refine (hi.ownNil e m).perm ?_
 have:(Res.own e m (.slice none 0 0)::(M++Mf)).Perm (M++Res.own e m (.slice none 0 0)::Mf):=List.perm_middle.symm
 simpa using this
end
end Go.Proofs.Ytadhakcmfkghbaa
