/- Parts of a proof: short words; Facts of the seat's types, one by one, by evaluation.; steps that stand often; Arguments as trees: what a reading of an argument says, in the words of the logic; and how a law's call ends.; Arguments as trees, with bounds: no slice and no text is longer than L, and the whole is no greater than the bulk of the reading.; Types as plain data: a kind, a name, a number, and kids; their size, their sameness, and the count that the statements bound them by.; Types as plain data, on: what a type takes and answers, its parts in order, its variables and metas.; Types as plain data, on: types with others in places that are told.; Patterns and expressions as plain data: their cells, their parts, their sameness but for places.; Names of patterns, free names of expressions, as plain functions.; How much an expression has, as cognatelaw05.Count counts it.; Declarations as plain data (printed by wip/gend.py).; Codes and primitives as plain data (printed by wip/gend29.py).; Codes as arguments (printed by wip/gend29.py).; Programs of statements, as plain data.; Statements as instructions: plain functions.; A function more behind: what stays as it was.; Statements that can be made into instructions; bounds.; Which statements are right.; The code that gen makes is within the bounds of an argument.; Programs of statements as arguments.; The frame of a law's row: if the call returns true and nothing below the heap's old size has turned, the row's post holds, whatever the arguments' types.; The frame of a row's second form ('..UptoSaid').; How great a program of statements is: cognatelaw28.count, decs as plain functions; bulk.; slices.IndexFunc, slices.ContainsFunc, code.every (printed by wip/genev.py).; slices.IndexFunc, slices.ContainsFunc, anf.every at the types of statements (printed by wip/genev30.py).; When an instruction of a code is right, in plain words.; cognateref05.Texts, SameType, SameTypes; cognatelaw08.ints; code.within, of, ends, checker.atom, places, number, fix, ins -/
import Derived.Test.YtbfogofpgcndfaaKLGMore1
import Derived.Test.YtbfogofpgcndfaaProg
import Derived.ProofKit
import Derived.ChangeArms
import Derived.Test.YtbfogofpgcndfaaRows
import Derived.SizedLaws
import Derived.OpenShut
import Derived.JoinedCond
import Derived.Deep.CondSized
set_option maxRecDepth 100000
set_option maxHeartbeats 4000000
namespace Go.Proofs.Ytbfogofpgcndfaa
open Go.RowKit
theorem V {α:Sort _} {a:α}:a=a:=rfl
abbrev Yu := @List.mem_of_getElem?
abbrev Yt := @Drops.nil
abbrev Ys := @Drops.skip
abbrev Yr := @Drops.keep
abbrev Yq := @Nat.le_of_ble_eq_true
abbrev Yp := @BoolQ.mk
abbrev Yo := @Les.cons
abbrev Yn := @Les.refl
abbrev Ym := @Le.refl
abbrev Yl := @MLe.of_eq
abbrev Yk := @MLe.drop
abbrev Yj := @MLe.cons
abbrev Yi := @MLe.refl
theorem by0 {p:Prop} (h:p:=by first|exact Les.refl _|(repeat' (first|exact Les.refl _|refine Les.cons ?_ ?_|exact Le.refl _|exact Le.own _ _ _|exact Le.nil _|refine Le.agg ?_))):p:=h
theorem by1 {p:Prop} (h:p:=by first|exact MLe.none _|exact MLe.refl _|(repeat' (first|exact MLe.nil|exact MLe.refl _|refine MLe.cons _ ?_|refine MLe.drop _ ?_))):p:=h
theorem by2 {p:Prop} (h:p:=by repeat' (first|exact SLe.nil _|refine SLe.cons rfl ?_ ?_|exact Le.refl _|exact Le.own _ _ _|exact Le.nil _)):p:=h
theorem by3 {p:Prop} (h:p:=by refine Le.agg ?_;repeat' (first|exact Les.refl _|refine Les.cons ?_ ?_|exact Le.refl _|exact Le.nil _)):p:=h
theorem by4 {p:Prop} (h:p:=by repeat' (first|exact SLe.wo _ _|exact SLe.refl _|refine SLe.fresh rfl ?_)):p:=h
theorem by5 {p:Prop} (h:p:=by first|(simp;done)|(simp;omega)|omega):p:=h
theorem by6 {p:Prop} (h:p:=by first|omega|(simp at *;omega)):p:=h
theorem by7 {p:Prop} (h:p:=by first|rfl|omega):p:=h
theorem by8 {p:Prop} (h:p:=by simp;omega):p:=h
theorem by9 {p:Prop} (h:p:=by assumption):p:=h
theorem by10 {p:Prop} (h:p:=by decide):p:=h
theorem by11 {p:Prop} (h:p:=by omega):p:=h
theorem by12 {p:Prop} (h:p:=by simp):p:=h
end Go.Proofs.Ytbfogofpgcndfaa
namespace Go.Proofs.Ytbfogofpgcndfaa
theorem tmix:Try.prog.follows .mixedOrders=true:=by kernel_rfl
theorem ts_2:(Try.prog.info? 2).map (·.size)=some 1:=by kernel_rfl
theorem tu_2:Try.prog.underlying 2=some (.int .i64):=by kernel_rfl
theorem ta_3:tyAgg Try.prog 3=some none:=by kernel_rfl
theorem ts_3:(Try.prog.info? 3).map (·.size)=some 1:=by kernel_rfl
theorem tz_3:tyZero Try.prog 3=some (.int .i64 0):=by kernel_rfl
theorem tu_3:Try.prog.underlying 3=some (.int .i64):=by kernel_rfl
theorem ts_4:(Try.prog.info? 4).map (·.size)=some 1:=by kernel_rfl
theorem tz_4:tyZero Try.prog 4=some (.bool false):=by kernel_rfl
theorem tu_9:Try.prog.underlying 9=some (.string):=by kernel_rfl
theorem ts_22:(Try.prog.info? 22).map (·.size)=some 1:=by kernel_rfl
theorem te_22:tyElem Try.prog 22=some (27,3):=by kernel_rfl
theorem el_22:ElT Try.prog 22 27 (.agg #[(.int .i64 0),(.int .i64 0),(.slice none 0 0)]) 3 40:=⟨by kernel_rfl,by kernel_rfl,rfl,by decide,by decide⟩
theorem tu_22:Try.prog.underlying 22=some (.slice 27):=by kernel_rfl
theorem ta_24:tyAgg Try.prog 24=some (some 4):=by kernel_rfl
theorem ts_24:(Try.prog.info? 24).map (·.size)=some 4:=by kernel_rfl
theorem tz_24:tyZero Try.prog 24=some (.agg #[(.slice none 0 0),(.int .i64 0),(.int .i64 0),(.int .i64 0)]):=by kernel_rfl
theorem tfl_24:tyFlds Try.prog 24=some [(0,1),(1,1),(2,1),(3,1)]:=by kernel_rfl
theorem te_25:tyElem Try.prog 25=some (51,13):=by kernel_rfl
theorem el_25:ElT Try.prog 25 51 (.agg #[(.int .i64 0),(.int .i64 0),(.int .i64 0),(.string ⟨#[]⟩),(.slice none 0 0),(.slice none 0 0),(.slice none 0 0),(.int .i64 0),(.int .i64 0),(.slice none 0 0),(.slice none 0 0),(.slice none 0 0),(.slice none 0 0)]) 13 224:=⟨by kernel_rfl,by kernel_rfl,rfl,by decide,by decide⟩
theorem tu_25:Try.prog.underlying 25=some (.slice 51):=by kernel_rfl
theorem ta_27:tyAgg Try.prog 27=some (some 3):=by kernel_rfl
theorem ts_27:(Try.prog.info? 27).map (·.size)=some 3:=by kernel_rfl
theorem tz_27:tyZero Try.prog 27=some (.agg #[(.int .i64 0),(.int .i64 0),(.slice none 0 0)]):=by kernel_rfl
theorem tfl_27:tyFlds Try.prog 27=some [(0,1),(1,1),(2,1)]:=by kernel_rfl
theorem ts_30:(Try.prog.info? 30).map (·.size)=some 1:=by kernel_rfl
theorem te_30:tyElem Try.prog 30=some (53,7):=by kernel_rfl
theorem el_30:ElT Try.prog 30 53 (.agg #[(.int .i64 0),(.int .i64 0),(.int .i64 0),(.int .i64 0),(.slice none 0 0),(.slice none 0 0),(.slice none 0 0)]) 7 104:=⟨by kernel_rfl,by kernel_rfl,rfl,by decide,by decide⟩
theorem tu_30:Try.prog.underlying 30=some (.slice 53):=by kernel_rfl
theorem ta_31:tyAgg Try.prog 31=some none:=by kernel_rfl
theorem ts_31:(Try.prog.info? 31).map (·.size)=some 1:=by kernel_rfl
theorem te_31:tyElem Try.prog 31=some (55,3):=by kernel_rfl
theorem el_31:ElT Try.prog 31 55 (.agg #[(.int .i64 0),(.int .i64 0),(.int .i64 0)]) 3 24:=⟨by kernel_rfl,by kernel_rfl,rfl,by decide,by decide⟩
theorem tu_31:Try.prog.underlying 31=some (.slice 55):=by kernel_rfl
theorem ta_32:tyAgg Try.prog 32=some none:=by kernel_rfl
theorem ts_32:(Try.prog.info? 32).map (·.size)=some 1:=by kernel_rfl
theorem tz_32:tyZero Try.prog 32=some (.slice none 0 0):=by kernel_rfl
theorem te_32:tyElem Try.prog 32=some (9,1):=by kernel_rfl
theorem el_32:ElT Try.prog 32 9 (.string ⟨#[]⟩) 1 16:=⟨by kernel_rfl,by kernel_rfl,rfl,by decide,by decide⟩
theorem tu_32:Try.prog.underlying 32=some (.slice 9):=by kernel_rfl
theorem ta_34:tyAgg Try.prog 34=some (some 6):=by kernel_rfl
theorem ts_34:(Try.prog.info? 34).map (·.size)=some 6:=by kernel_rfl
theorem tz_34:tyZero Try.prog 34=some (.agg #[(.slice none 0 0),(.slice none 0 0),(.slice none 0 0),(.int .i64 0),(.int .i64 0),(.int .i64 0)]):=by kernel_rfl
theorem tfl_34:tyFlds Try.prog 34=some [(0,1),(1,1),(2,1),(3,1),(4,1),(5,1)]:=by kernel_rfl
theorem ta_41:tyAgg Try.prog 41=some (some 2):=by kernel_rfl
theorem tz_41:tyZero Try.prog 41=some (.agg #[(.int .i64 0),(.int .i64 0)]):=by kernel_rfl
theorem tfl_41:tyFlds Try.prog 41=some [(0,1),(1,1)]:=by kernel_rfl
theorem te_42:tyElem Try.prog 42=some (41,2):=by kernel_rfl
theorem el_42:ElT Try.prog 42 41 (.agg #[(.int .i64 0),(.int .i64 0)]) 2 16:=⟨by kernel_rfl,by kernel_rfl,rfl,by decide,by decide⟩
theorem tu_42:Try.prog.underlying 42=some (.slice 41):=by kernel_rfl
theorem ts_43:(Try.prog.info? 43).map (·.size)=some 1:=by kernel_rfl
theorem te_43:tyElem Try.prog 43=some (3,1):=by kernel_rfl
theorem el_43:ElT Try.prog 43 3 (.int .i64 0) 1 8:=⟨by kernel_rfl,by kernel_rfl,rfl,by decide,by decide⟩
theorem tu_43:Try.prog.underlying 43=some (.slice 3):=by kernel_rfl
theorem ts_44:(Try.prog.info? 44).map (·.size)=some 1:=by kernel_rfl
theorem te_44:tyElem Try.prog 44=some (42,1):=by kernel_rfl
theorem tu_44:Try.prog.underlying 44=some (.slice 42):=by kernel_rfl
theorem te_45:tyElem Try.prog 45=some (88,8):=by kernel_rfl
theorem tu_45:Try.prog.underlying 45=some (.slice 88):=by kernel_rfl
theorem te_46:tyElem Try.prog 46=some (48,5):=by kernel_rfl
theorem tu_46:Try.prog.underlying 46=some (.slice 48):=by kernel_rfl
theorem ta_48:tyAgg Try.prog 48=some (some 5):=by kernel_rfl
theorem ts_48:(Try.prog.info? 48).map (·.size)=some 5:=by kernel_rfl
theorem tz_48:tyZero Try.prog 48=some (.agg #[(.int .i64 0),(.int .i64 0),(.slice none 0 0),(.slice none 0 0),(.slice none 0 0)]):=by kernel_rfl
theorem ta_49:tyAgg Try.prog 49=some none:=by kernel_rfl
theorem te_49:tyElem Try.prog 49=some (25,1):=by kernel_rfl
theorem tu_49:Try.prog.underlying 49=some (.slice 25):=by kernel_rfl
theorem ta_51:tyAgg Try.prog 51=some (some 13):=by kernel_rfl
theorem ts_51:(Try.prog.info? 51).map (·.size)=some 13:=by kernel_rfl
theorem tz_51:tyZero Try.prog 51=some (.agg #[(.int .i64 0),(.int .i64 0),(.int .i64 0),(.string ⟨#[]⟩),(.slice none 0 0),(.slice none 0 0),(.slice none 0 0),(.int .i64 0),(.int .i64 0),(.slice none 0 0),(.slice none 0 0),(.slice none 0 0),(.slice none 0 0)]):=by kernel_rfl
theorem tf_51_7:tyFld Try.prog 51 7=some 7:=by kernel_rfl
theorem tfl_51:tyFlds Try.prog 51=some [(0,1),(1,1),(2,1),(3,1),(4,1),(5,1),(6,1),(7,5),(12,1)]:=by kernel_rfl
theorem Zi:tyAgg Try.prog 53=some (some 7):=by kernel_rfl
theorem ts_53:(Try.prog.info? 53).map (·.size)=some 7:=by kernel_rfl
theorem tz_53:tyZero Try.prog 53=some (.agg #[(.int .i64 0),(.int .i64 0),(.int .i64 0),(.int .i64 0),(.slice none 0 0),(.slice none 0 0),(.slice none 0 0)]):=by kernel_rfl
theorem tfl_53:tyFlds Try.prog 53=some [(0,1),(1,1),(2,1),(3,1),(4,1),(5,1),(6,1)]:=by kernel_rfl
theorem ta_55:tyAgg Try.prog 55=some (some 3):=by kernel_rfl
theorem ts_55:(Try.prog.info? 55).map (·.size)=some 3:=by kernel_rfl
theorem tz_55:tyZero Try.prog 55=some (.agg #[(.int .i64 0),(.int .i64 0),(.int .i64 0)]):=by kernel_rfl
theorem tf_55_0:tyFld Try.prog 55 0=some 0:=by kernel_rfl
theorem tfl_55:tyFlds Try.prog 55=some [(0,1),(1,1),(2,1)]:=by kernel_rfl
theorem ta_59:tyAgg Try.prog 59=some none:=by kernel_rfl
theorem tz_62:tyZero Try.prog 62=some (.agg #[(.slice none 0 0),(.map none),(.slice none 0 0),(.int .i64 0)]):=by kernel_rfl
theorem tfl_62:tyFlds Try.prog 62=some [(0,1),(1,1),(2,1),(3,1)]:=by kernel_rfl
theorem ta_63:tyAgg Try.prog 63=some none:=by kernel_rfl
theorem ts_63:(Try.prog.info? 63).map (·.size)=some 1:=by kernel_rfl
theorem tz_63:tyZero Try.prog 63=some .nilFunc:=by kernel_rfl
theorem ta_71:tyAgg Try.prog 71=some none:=by kernel_rfl
theorem ts_71:(Try.prog.info? 71).map (·.size)=some 1:=by kernel_rfl
theorem tz_71:tyZero Try.prog 71=some (.slice none 0 0):=by kernel_rfl
theorem te_71:tyElem Try.prog 71=some (103,9):=by kernel_rfl
theorem el_71:ElT Try.prog 71 103 (.agg #[(.string ⟨#[]⟩),(.int .i64 0),(.int .i64 0),(.slice none 0 0),(.slice none 0 0),(.int .i64 0),(.string ⟨#[]⟩),(.int .i64 0),(.slice none 0 0)]) 9 136:=⟨by kernel_rfl,by kernel_rfl,rfl,by decide,by decide⟩
theorem tu_71:Try.prog.underlying 71=some (.slice 103):=by kernel_rfl
theorem ta_75:tyAgg Try.prog 75=some (some 8):=by kernel_rfl
theorem tz_75:tyZero Try.prog 75=some (.agg #[(.slice none 0 0),(.int .i64 0),(.int .i64 0),(.int .i64 0),(.int .i64 0),(.int .i64 0),(.slice none 0 0),(.slice none 0 0)]):=by kernel_rfl
theorem tfl_75:tyFlds Try.prog 75=some [(0,4),(4,3),(7,1)]:=by kernel_rfl
theorem ts_78:(Try.prog.info? 78).map (·.size)=some 1:=by kernel_rfl
theorem tz_78:tyZero Try.prog 78=some (.map none):=by kernel_rfl
theorem ta_85:tyAgg Try.prog 85=some (some 12):=by kernel_rfl
theorem ts_85:(Try.prog.info? 85).map (·.size)=some 12:=by kernel_rfl
theorem tz_85:tyZero Try.prog 85=some (.agg #[(.slice none 0 0),(.slice none 0 0),(.slice none 0 0),(.int .i64 0),(.int .i64 0),(.int .i64 0),(.int .i64 0),(.int .i64 0),(.int .i64 0),(.int .i64 0),(.int .i64 0),(.slice none 0 0)]):=by kernel_rfl
theorem tfl_85:tyFlds Try.prog 85=some [(0,6),(6,3),(9,1),(10,1),(11,1)]:=by kernel_rfl
theorem ta_88:tyAgg Try.prog 88=some (some 8):=by kernel_rfl
theorem ts_88:(Try.prog.info? 88).map (·.size)=some 8:=by kernel_rfl
theorem tz_88:tyZero Try.prog 88=some (.agg #[(.int .i64 0),(.string ⟨#[]⟩),(.int .i64 0),(.int .i64 0),(.int .i64 0),(.slice none 0 0),(.slice none 0 0),(.slice none 0 0)]):=by kernel_rfl
theorem te_89:tyElem Try.prog 89=some (91,4):=by kernel_rfl
theorem el_89:ElT Try.prog 89 91 (.agg #[(.int .i64 0),(.string ⟨#[]⟩),(.int .i64 0),(.slice none 0 0)]) 4 56:=⟨by kernel_rfl,by kernel_rfl,rfl,by decide,by decide⟩
theorem tu_89:Try.prog.underlying 89=some (.slice 91):=by kernel_rfl
theorem ta_91:tyAgg Try.prog 91=some (some 4):=by kernel_rfl
theorem ts_91:(Try.prog.info? 91).map (·.size)=some 4:=by kernel_rfl
theorem tz_91:tyZero Try.prog 91=some (.agg #[(.int .i64 0),(.string ⟨#[]⟩),(.int .i64 0),(.slice none 0 0)]):=by kernel_rfl
theorem tfl_91:tyFlds Try.prog 91=some [(0,1),(1,1),(2,1),(3,1)]:=by kernel_rfl
theorem ta_93:tyAgg Try.prog 93=some (some 5):=by kernel_rfl
theorem ts_93:(Try.prog.info? 93).map (·.size)=some 5:=by kernel_rfl
theorem tz_93:tyZero Try.prog 93=some (.agg #[(.string ⟨#[]⟩),(.int .i64 0),(.string ⟨#[]⟩),(.int .i64 0),(.slice none 0 0)]):=by kernel_rfl
theorem tfl_93:tyFlds Try.prog 93=some [(0,1),(1,4)]:=by kernel_rfl
theorem ta_94:tyAgg Try.prog 94=some (some 85):=by kernel_rfl
theorem ts_94:(Try.prog.info? 94).map (·.size)=some 85:=by kernel_rfl
theorem tz_94:tyZero Try.prog 94=some (.agg #[(.string ⟨#[]⟩),(.int .i64 0),(.string ⟨#[]⟩),(.int .i64 0),(.slice none 0 0),(.string ⟨#[]⟩),(.int .i64 0),(.string ⟨#[]⟩),(.int .i64 0),(.slice none 0 0),(.string ⟨#[]⟩),(.int .i64 0),(.string ⟨#[]⟩),(.int .i64 0),(.slice none 0 0),(.string ⟨#[]⟩),(.int .i64 0),(.string ⟨#[]⟩),(.int .i64 0),(.slice none 0 0),(.string ⟨#[]⟩),(.int .i64 0),(.string ⟨#[]⟩),(.int .i64 0),(.slice none 0 0),(.string ⟨#[]⟩),(.int .i64 0),(.string ⟨#[]⟩),(.int .i64 0),(.slice none 0 0),(.string ⟨#[]⟩),(.int .i64 0),(.string ⟨#[]⟩),(.int .i64 0),(.slice none 0 0),(.string ⟨#[]⟩),(.int .i64 0),(.string ⟨#[]⟩),(.int .i64 0),(.slice none 0 0),(.string ⟨#[]⟩),(.int .i64 0),(.string ⟨#[]⟩),(.int .i64 0),(.slice none 0 0),(.string ⟨#[]⟩),(.int .i64 0),(.string ⟨#[]⟩),(.int .i64 0),(.slice none 0 0),(.string ⟨#[]⟩),(.int .i64 0),(.string ⟨#[]⟩),(.int .i64 0),(.slice none 0 0),(.string ⟨#[]⟩),(.int .i64 0),(.string ⟨#[]⟩),(.int .i64 0),(.slice none 0 0),(.string ⟨#[]⟩),(.int .i64 0),(.string ⟨#[]⟩),(.int .i64 0),(.slice none 0 0),(.string ⟨#[]⟩),(.int .i64 0),(.string ⟨#[]⟩),(.int .i64 0),(.slice none 0 0),(.string ⟨#[]⟩),(.int .i64 0),(.string ⟨#[]⟩),(.int .i64 0),(.slice none 0 0),(.string ⟨#[]⟩),(.int .i64 0),(.string ⟨#[]⟩),(.int .i64 0),(.slice none 0 0),(.string ⟨#[]⟩),(.int .i64 0),(.string ⟨#[]⟩),(.int .i64 0),(.slice none 0 0)]):=by kernel_rfl
theorem tu_94:Try.prog.underlying 94=some (.array 17 93):=by kernel_rfl
theorem tz_101:tyZero Try.prog 101=some (.agg #[(.slice none 0 0),(.slice none 0 0),(.int .i64 0),(.string ⟨#[]⟩),(.int .i64 0),(.slice none 0 0)]):=by kernel_rfl
theorem tfl_101:tyFlds Try.prog 101=some [(0,1),(1,1),(2,4)]:=by kernel_rfl
theorem tz_103:tyZero Try.prog 103=some (.agg #[(.string ⟨#[]⟩),(.int .i64 0),(.int .i64 0),(.slice none 0 0),(.slice none 0 0),(.int .i64 0),(.string ⟨#[]⟩),(.int .i64 0),(.slice none 0 0)]):=by kernel_rfl
theorem tfl_103:tyFlds Try.prog 103=some [(0,1),(1,1),(2,1),(3,6)]:=by kernel_rfl
theorem te_106:tyElem Try.prog 106=some (107,1):=by kernel_rfl
theorem el_106:ElT Try.prog 106 107 (.pointer none) 1 8:=⟨by kernel_rfl,by kernel_rfl,rfl,by decide,by decide⟩
theorem ts_108:(Try.prog.info? 108).map (·.size)=some 1:=by kernel_rfl
theorem te_108:tyElem Try.prog 108=some (133,1):=by kernel_rfl
theorem el_108:ElT Try.prog 108 133 .nilFunc 1 8:=⟨by kernel_rfl,by kernel_rfl,rfl,by decide,by decide⟩
theorem tu_108:Try.prog.underlying 108=some (.slice 133):=by kernel_rfl
theorem tz_110:tyZero Try.prog 110=some (.agg #[(.slice none 0 0)]):=by kernel_rfl
theorem tfl_110:tyFlds Try.prog 110=some [(0,1)]:=by kernel_rfl
theorem ta_115:tyAgg Try.prog 115=some (some 5):=by kernel_rfl
theorem ts_115:(Try.prog.info? 115).map (·.size)=some 5:=by kernel_rfl
theorem tz_115:tyZero Try.prog 115=some (.agg #[(.bool false),(.bool false),(.bool false),(.bool false),(.int .i64 0)]):=by kernel_rfl
open Go.RowKit
def rg (l:List (Nat × Nat)):List Nat:=l.flatMap fun p=>List.range' p.1 p.2
def lkf:List (Nat × Nat × Nat)→Nat→Nat→Option Nat
 | [],_,_=>none
 |(a,b,c)::l,t,f=>bif Nat.beq a t && Nat.beq b f then some c else lkf l t f
def lkm:List Nat→Nat→Bool
 | [],_=>false
 | a::l,t=>Nat.beq a t || lkm l t
def tfL:List (Nat × Nat × Nat):=[(24,0,0),(24,1,1),(24,2,2),(24,3,3),(27,0,0),(27,1,1),(27,2,2),(34,0,0),(34,1,1),(34,2,2),(34,3,3),(34,4,4),(34,5,5),(41,0,0),(41,1,1),(48,0,0),(48,1,1),(48,2,2),(48,3,3),(48,4,4),(51,0,0),(51,1,1),(51,2,2),(51,3,3),(51,4,4),(51,5,5),(51,6,6),(51,7,7),(51,8,12),(53,0,0),(53,1,1),(53,2,2),(53,3,3),(53,4,4),(53,5,5),(53,6,6),(55,0,0),(55,1,1),(55,2,2),(62,0,0),(62,1,1),(62,2,2),(62,3,3),(75,0,0),(75,1,4),(75,2,7),(85,0,0),(85,1,6),(85,2,9),(85,3,10),(85,4,11),(88,2,2),(88,3,3),(91,0,0),(91,1,1),(91,3,3),(93,0,0),(93,1,1),(103,2,2),(110,0,0),(115,0,0),(115,1,1),(115,2,2),(115,3,3),(115,4,4)]
def taL:List Nat:=[2,3,4,9,22,25,30,31,32,42,43,44,45,46,49,58,59,63,64,70,71,76,77,78,83,89,105,107,108,120,131,133,140]
theorem lkf_ok {t f c:Nat}:∀ l:List (Nat × Nat × Nat),(l.all fun e=>tyFld Try.prog e.1 e.2.1 == some e.2.2)=true→lkf l t f=some c→tyFld Try.prog t f=some c
 | [],_,h=>by simp [lkf] at h
 |(a,b,d)::l,hl,h=>by
  rw [List.all_cons,Bool.and_eq_true] at hl
  rw [lkf] at h
  cases q:(Nat.beq a t && Nat.beq b f) with
  | true =>
   rw [q] at h
   rw [Bool.and_eq_true] at q
   have h1:=Nat.eq_of_beq_eq_true q.1
   have h2:=Nat.eq_of_beq_eq_true q.2
   subst h1 h2
   have h3:d=c:=by simpa using h
   subst h3
   simpa using hl.1
  | false=>rw [q] at h;exact lkf_ok l hl.2 h
theorem lkm_ok {t:Nat}:∀ l:List Nat,(l.all fun e=>tyAgg Try.prog e == some none)=true→lkm l t=true→tyAgg Try.prog t=some none
 | [],_,h=>by simp [lkm] at h
 | a::l,hl,h=>by
  rw [List.all_cons,Bool.and_eq_true] at hl
  rw [lkm,Bool.or_eq_true] at h
  rcases h with h|h
  ·have h1:=Nat.eq_of_beq_eq_true h
   subst h1
   simpa using hl.1
  exact lkm_ok l hl.2 h
theorem tfL_ok:(tfL.all fun e=>tyFld Try.prog e.1 e.2.1 == some e.2.2)=true:=by kernel_rfl
theorem taL_ok:(taL.all fun e=>tyAgg Try.prog e == some none)=true:=by kernel_rfl
section
variable {al:Sl} {M:Mem} {K:AV→Mem→Prop} {o:Oper}
theorem op_fam {x:Operand} {t f b off fo:Nat} (ho:o.op=.fieldAddr t x f) (ht:lkf tfL t f=some fo) (hx:al.ev x=some (.ptr b off)) (q:K (.ptr b (off+fo)) M):OpT Try.prog o al M K:=op_fieldAddr_m ho (lkf_ok tfL tfL_ok ht) hx q
theorem op_fac {x:Operand} {t f fo:Nat} {cs cs':List AV} (ho:o.op=.fieldAddr t x f) (ht:lkf tfL t f=some fo) (hx:al.ev x=some (.cptr cs)) (hc:cs.drop fo=cs') (q:K (.cptr cs') M):OpT Try.prog o al M K:=op_fieldAddr_c ho (lkf_ok tfL tfL_ok ht) hx hc q
theorem op_lc1 {x:Operand} {t:Nat} {c:AV} {cs:List AV} (ho:o.op=.load t x) (ht:lkm taL t=true) (hx:al.ev x=some (.cptr cs)) (hc:cs[0]?=some c) (q:K c M):OpT Try.prog o al M K:=op_load_c1 ho (lkm_ok taL taL_ok ht) hx hc q
theorem op_lm1 {x:Operand} {t b off i:Nat} {c:AV} {cs:List AV} (ho:o.op=.load t x) (ht:lkm taL t=true) (hx:al.ev x=some (.ptr b off)) (hm:M[i]?=some (.loc b cs)) (hc:cs[off]?=some c) (q:K c M):OpT Try.prog o al M K:=op_load_m1 ho (lkm_ok taL taL_ok ht) hx hm hc q
end
structure Wr (q:Prop):Prop where
 out:q
section
variable {p q:Prop}
theorem Qae (k:q) (h:Wr q→p:=by intro k;refine AOps.gf _ rfl rfl rfl rfl rfl ?_;exact k.1):p:=h ⟨k⟩
theorem Qj (k:q) (h:Wr q→p:=by intro k;refine go_code ?_;exact k.1):p:=h ⟨k⟩
theorem Qo (k:q) (h:Wr q→p:=by intro k;refine c_seq ?_;exact k.1):p:=h ⟨k⟩
theorem Qz (k:q) (h:Wr q→p:=by intro k;refine AOps.nil ?_;exact k.1):p:=h ⟨k⟩
theorem Qk (k:q) (h:Wr q→p:=by intro k;refine c_region ?_;exact k.1):p:=h ⟨k⟩
theorem Qa (k:q) (h:Wr q→p:=by intro k;refine Zb _ rfl rfl rfl (op_move rfl rfl ?_);exact k.1):p:=h ⟨k⟩
theorem Qa3 (k:q) (h:Wr q→p:=by intro k;refine Zb _ rfl rfl rfl (op_assign rfl rfl ?_);exact k.1):p:=h ⟨k⟩
theorem Qcp (k:q) (h:Wr q→p:=by intro k;refine Zb _ rfl rfl rfl (op_pick rfl rfl rfl ?_);exact k.1):p:=h ⟨k⟩
theorem QO (k:q) (h:Wr q→p:=by intro k;refine c_cond_t rfl ?_;exact k.1):p:=h ⟨k⟩
theorem Qai (k:q) (h:Wr q→p:=by intro k;refine c_cond_f rfl ?_;exact k.1):p:=h ⟨k⟩
theorem QR (k:q) (h:Wr q→p:=by intro k;refine Zb _ rfl rfl rfl (op_lc1 rfl rfl rfl rfl ?_);exact k.1):p:=h ⟨k⟩
theorem Qa4 (k:q) (h:Wr q→p:=by intro k;refine Zg _ rfl rfl rfl rfl rfl (op_fac rfl rfl rfl rfl ?_);exact k.1):p:=h ⟨k⟩
theorem QN (k:q) (h:Wr q→p:=by intro k;refine c_block ?_;exact k.1):p:=h ⟨k⟩
theorem QaG (k:q) (h:Wr q→p:=by intro k;refine Zb _ rfl rfl rfl (op_fac rfl rfl rfl rfl ?_);exact k.1):p:=h ⟨k⟩
theorem QJ (k:q) (h:Wr q→p:=by intro k;refine c_start ?_;exact k.1):p:=h ⟨k⟩
theorem QC (k:q) (h:Wr q→p:=by intro k;refine Zb _ rfl rfl rfl (op_fam rfl rfl rfl ?_);exact k.1):p:=h ⟨k⟩
theorem Qx (k:q) (h:Wr q→p:=by intro k;refine Zb _ rfl rfl rfl (op_eql rfl rfl rfl ?_);exact k.1):p:=h ⟨k⟩
theorem QS (k:q) (h:Wr q→p:=by intro k;refine Zb _ rfl rfl rfl (op_add rfl rfl rfl (IntWalk.i64_in _ by11) ?_);exact k.1):p:=h ⟨k⟩
theorem Qav (k:q) (h:Wr q→p:=by intro k;refine Zb _ rfl rfl rfl (op_lss rfl rfl rfl ?_);exact k.1):p:=h ⟨k⟩
theorem QF (k:q) (h:Wr q→p:=by intro k;refine Zy _ rfl rfl (op_move rfl rfl ⟨rfl,rfl⟩) ?_;exact k.1):p:=h ⟨k⟩
theorem QA (k:q) (h:Wr q→p:=by intro k;refine Zf _ (none) rfl rfl rfl rfl rfl (op_fam rfl rfl rfl ⟨rfl,rfl⟩) ?_;exact k.1):p:=h ⟨k⟩
theorem QE (k:q) (h:Wr q→p:=by intro k;refine Zg _ rfl rfl rfl rfl rfl (op_move rfl rfl ?_);exact k.1):p:=h ⟨k⟩
theorem Qaj (k:q) (h:Wr q→p:=by intro k;refine Zy _ rfl rfl (op_pick rfl rfl rfl ⟨rfl,rfl⟩) ?_;exact k.1):p:=h ⟨k⟩
theorem QbN (k:q) (h:Wr q→p:=by intro k;refine Zz _ rfl rfl rfl rfl (op_fac rfl rfl rfl rfl ⟨rfl,rfl⟩) ?_;exact k.1):p:=h ⟨k⟩
theorem QbO (k:q) (h:Wr q→p:=by intro k;refine Zz _ rfl rfl rfl rfl (op_lc1 rfl rfl rfl rfl ⟨rfl,rfl⟩) ?_;exact k.1):p:=h ⟨k⟩
theorem Qa5 (k:q) (h:Wr q→p:=by intro k;refine Zg _ rfl rfl rfl rfl rfl (op_fam rfl rfl rfl ?_);exact k.1):p:=h ⟨k⟩
theorem Qak (k:q) (h:Wr q→p:=by intro k;refine Zb _ rfl rfl rfl (op_geq rfl rfl rfl ?_);exact k.1):p:=h ⟨k⟩
theorem QD (k:q) (h:Wr q→p:=by intro k;refine Zf _ (none) rfl rfl rfl rfl rfl (op_move rfl rfl ⟨rfl,rfl⟩) ?_;exact k.1):p:=h ⟨k⟩
theorem QG (k:q) (h:Wr q→p:=by intro k;refine Zb _ rfl rfl rfl (op_notc rfl rfl ?_);exact k.1):p:=h ⟨k⟩
theorem Qal (k:q) (h:Wr q→p:=by intro k;refine Zg _ rfl rfl rfl rfl rfl (op_neq rfl rfl rfl ?_);exact k.1):p:=h ⟨k⟩
theorem QbB (k:q) (h:Wr q→p:=by intro k;refine Zg _ rfl rfl rfl rfl rfl (op_eql rfl rfl rfl ?_);exact k.1):p:=h ⟨k⟩
theorem Qbm (k:q) (h:Wr q→p:=by intro k;refine Zg _ rfl rfl rfl rfl rfl (op_lss rfl rfl rfl ?_);exact k.1):p:=h ⟨k⟩
theorem QU (k:q) (h:Wr q→p:=by intro k;refine Zg _ rfl rfl rfl rfl rfl (op_notc rfl rfl ?_);exact k.1):p:=h ⟨k⟩
theorem Qbu (k:q) (h:Wr q→p:=by intro k;refine Zy _ rfl rfl (op_lc1 rfl rfl rfl rfl ⟨rfl,rfl⟩) ?_;exact k.1):p:=h ⟨k⟩
theorem QbC (k:q) (h:Wr q→p:=by intro k;refine Zz _ rfl rfl rfl rfl (op_move rfl rfl ⟨rfl,rfl⟩) ?_;exact k.1):p:=h ⟨k⟩
theorem QbD (k:q) (h:Wr q→p:=by intro k;refine Zb _ rfl rfl rfl (Zs (cs':=[_,_,_,_,_]) (i:=0) rfl ta_115 rfl rfl rfl rfl ?_);exact k.1):p:=h ⟨k⟩
theorem QbE (k:q) (h:Wr q→p:=by intro k;refine Zq rfl rfl (Zm (cs':=[_,_,_,_,_]) (i:=1) rfl ts_115 rfl rfl rfl rfl rfl (Yq rfl) rfl ?_);exact k.1):p:=h ⟨k⟩
theorem Qaf (k:q) (h:Wr q→p:=by intro k;refine Zf _ (some 5) rfl rfl rfl rfl rfl (Zs (cs':=[_,_,_,_]) (i:=0) rfl ta_91 rfl rfl rfl rfl ⟨rfl,rfl⟩) ?_;exact k.1):p:=h ⟨k⟩
theorem Qcq (k:q) (h:Wr q→p:=by intro k;refine Zf _ (none) rfl rfl rfl rfl rfl (op_lc1 rfl rfl rfl rfl ⟨rfl,rfl⟩) ?_;exact k.1):p:=h ⟨k⟩
theorem Qam (k:q) (h:Wr q→p:=by intro k;refine AOps.gu _ rfl rfl rfl rfl rfl ?_;exact k.1):p:=h ⟨k⟩
theorem Qan (k:q) (h:Wr q→p:=by intro k;refine Zb _ rfl rfl rfl (op_nilCheck_m rfl rfl ?_);exact k.1):p:=h ⟨k⟩
theorem Qcr (k:q) (h:Wr q→p:=by intro k;refine Zb _ rfl rfl rfl (Yf (fs:=[]) (cs:=[.tmp 3]) rfl rfl rfl ?_);exact k.1):p:=h ⟨k⟩
theorem Qb5 (k:q) (h:Wr q→p:=by intro k;refine Zg _ rfl rfl rfl rfl rfl (op_pick rfl rfl rfl ?_);exact k.1):p:=h ⟨k⟩
theorem Qaw (k:q) (h:Wr q→p:=by intro k;refine Zb _ rfl rfl rfl (Zv (cs':=[_,_,_,_]) rfl tz_91 rfl rfl ?_);exact k.1):p:=h ⟨k⟩
theorem QcY (k:q) (h:Wr q→p:=by intro k;refine Zb _ rfl rfl rfl (Zs (cs':=[_,_,_,_,_,_,_]) (i:=0) rfl Zi rfl rfl rfl rfl ?_);exact k.1):p:=h ⟨k⟩
theorem Qcs (k:q) (h:Wr q→p:=by intro k;refine Zq rfl rfl (Zm (cs':=[_,_,_,_,_]) (i:=0) rfl ts_3 rfl rfl rfl rfl rfl (Yq rfl) rfl ?_);exact k.1):p:=h ⟨k⟩
theorem QaW (k:q) (h:Wr q→p:=by intro k;refine Zb _ rfl rfl rfl (op_extract rfl rfl rfl ?_);exact k.1):p:=h ⟨k⟩
theorem QaX (k:q) (h:Wr q→p:=by intro k;refine Zg _ rfl rfl rfl rfl rfl (op_lm1 (i:=1) rfl rfl rfl rfl rfl ?_);exact k.1):p:=h ⟨k⟩
theorem Qa6 (k:q) (h:Wr q→p:=by intro k;refine Zb _ rfl rfl rfl (Ya rfl tu_43 rfl (.seq _ _) ?_);exact k.1):p:=h ⟨k⟩
theorem Qa7 (k:q) (h:Wr q→p:=by intro k;refine Zb _ rfl rfl rfl (op_lm1 (i:=1) rfl rfl rfl rfl rfl ?_);exact k.1):p:=h ⟨k⟩
theorem Qa8 (k:q) (h:Wr q→p:=by intro k;refine Zf _ (some 0) rfl rfl rfl rfl rfl (op_lm1 (i:=0) rfl rfl rfl rfl rfl ⟨rfl,rfl⟩) ?_;exact k.1):p:=h ⟨k⟩
theorem Qbn (k:q) (h:Wr q→p:=by intro k;refine Zb _ rfl rfl rfl (op_boxc (cs':=[_,_,_,_,_,_,_]) rfl rfl rfl rfl ?_);exact k.1):p:=h ⟨k⟩
theorem Qbo (k:q) (h:Wr q→p:=by intro k;refine Zb _ rfl rfl rfl (op_boxc (cs':=[_,_,_,_,_]) rfl rfl rfl rfl ?_);exact k.1):p:=h ⟨k⟩
theorem Qbp (k:q) (h:Wr q→p:=by intro k;refine Zg _ rfl rfl rfl rfl rfl (op_leq rfl rfl rfl ?_);exact k.1):p:=h ⟨k⟩
theorem Qbq (k:q) (h:Wr q→p:=by intro k;refine Zg _ rfl rfl rfl rfl rfl (op_gtr rfl rfl rfl ?_);exact k.1):p:=h ⟨k⟩
theorem Qbr (k:q) (h:Wr q→p:=by intro k;refine Zb _ rfl rfl rfl (op_boxe (cs':=[_,_,_,_]) rfl rfl rfl rfl ?_);exact k.1):p:=h ⟨k⟩
theorem Qbs (k:q) (h:Wr q→p:=by intro k;refine Zf _ (some 4) rfl rfl rfl rfl rfl (Zs (cs':=[_,_,_,_]) (i:=0) rfl ta_91 rfl rfl rfl rfl ⟨rfl,rfl⟩) ?_;exact k.1):p:=h ⟨k⟩
theorem Qbt (k:q) (h:Wr q→p:=by intro k;refine Zy _ rfl rfl (op_fam rfl rfl rfl ⟨rfl,rfl⟩) ?_;exact k.1):p:=h ⟨k⟩
theorem Qbv (k:q) (h:Wr q→p:=by intro k;refine Zb _ rfl rfl rfl (Ya rfl tu_42 rfl (.seq _ _) ?_);exact k.1):p:=h ⟨k⟩
theorem Qbw (k:q) (h:Wr q→p:=by intro k;refine Zb _ rfl rfl rfl (Ya rfl tu_30 rfl (.seq _ _) ?_);exact k.1):p:=h ⟨k⟩
theorem Qbx (k:q) (h:Wr q→p:=by intro k;refine Zb _ rfl rfl rfl (op_neq rfl rfl rfl ?_);exact k.1):p:=h ⟨k⟩
theorem Qby (k:q) (h:Wr q→p:=by intro k;refine Zq rfl rfl (Zm (cs':=[_,_,_,_]) (i:=0) rfl ts_91 rfl rfl rfl rfl rfl (Yq rfl) rfl ?_);exact k.1):p:=h ⟨k⟩
theorem Qbz (k:q) (h:Wr q→p:=by intro k;refine Zb _ rfl rfl rfl (op_boxc (cs':=[_,_,_,_]) rfl rfl rfl rfl ?_);exact k.1):p:=h ⟨k⟩
theorem QbA (k:q) (h:Wr q→p:=by intro k;refine Zb _ rfl rfl rfl (op_boxc (cs':=[_,_,_,_,_,_,_,_]) rfl rfl rfl rfl ?_);exact k.1):p:=h ⟨k⟩
theorem QbF (k:q) (h:Wr q→p:=by intro k;refine Zb _ rfl rfl rfl (Ya rfl tu_49 rfl (.seq _ _) ?_);exact k.1):p:=h ⟨k⟩
theorem QbG (k:q) (h:Wr q→p:=by intro k;refine Zb _ rfl rfl rfl (Zp (cs':=[_,_,_,_,_]) rfl ta_48 rfl rfl rfl ?_);exact k.1):p:=h ⟨k⟩
theorem QbH (k:q) (h:Wr q→p:=by intro k;refine Zg _ rfl rfl rfl rfl rfl (op_geq rfl rfl rfl ?_);exact k.1):p:=h ⟨k⟩
theorem QbI (k:q) (h:Wr q→p:=by intro k;refine Zg _ rfl rfl rfl rfl rfl (Ya rfl tu_43 rfl (.seq _ _) ?_);exact k.1):p:=h ⟨k⟩
theorem QbJ (k:q) (h:Wr q→p:=by intro k;refine Zb _ rfl rfl rfl (op_lm1 (i:=2) rfl rfl rfl rfl rfl ?_);exact k.1):p:=h ⟨k⟩
theorem QbK (k:q) (h:Wr q→p:=by intro k;refine Zb _ rfl rfl rfl (op_boxc (cs':=[_,_,_,_,_,_,_,_,_,_,_,_,_]) rfl rfl rfl rfl ?_);exact k.1):p:=h ⟨k⟩
theorem QbL (k:q) (h:Wr q→p:=by intro k;refine Zg _ rfl rfl rfl rfl rfl (Ya rfl tu_31 rfl (.seq _ _) ?_);exact k.1):p:=h ⟨k⟩
theorem QbM (k:q) (h:Wr q→p:=by intro k;refine EOps.w 0 rfl rfl rfl rfl rfl (Zm (cs':=[_,_,_,_,_,_,_]) (i:=0) rfl ts_3 rfl rfl rfl rfl rfl (Yq rfl) rfl ⟨_,rfl,?_⟩);exact k.1):p:=h ⟨k⟩
theorem QbP (k:q) (h:Wr q→p:=by intro k;refine Zb _ rfl rfl rfl (Ya rfl tu_32 rfl (.seq _ _) ?_);exact k.1):p:=h ⟨k⟩
theorem QbR (k:q) (h:Wr q→p:=by intro k;refine Zb _ rfl rfl rfl (Ya rfl tu_22 rfl (.seq _ _) ?_);exact k.1):p:=h ⟨k⟩
theorem QbS (k:q) (h:Wr q→p:=by intro k;refine Zb _ rfl rfl rfl (Zp (cs':=[_,_,_,_,_,_,_,_,_,_,_,_,_]) rfl ta_51 rfl rfl rfl ?_);exact k.1):p:=h ⟨k⟩
theorem QbT (k:q) (h:Wr q→p:=by intro k;refine Zb _ rfl rfl rfl (op_boxc (cs':=[_,_,_,_,_,_,_,_,_,_,_,_]) rfl rfl rfl rfl ?_);exact k.1):p:=h ⟨k⟩
theorem QbU (k:q) (h:Wr q→p:=by intro k;refine Zb _ rfl rfl rfl (op_boxc (cs':=[_,_]) rfl rfl rfl rfl ?_);exact k.1):p:=h ⟨k⟩
theorem QbV (k:q) (h:Wr q→p:=by intro k;refine Zb _ rfl rfl rfl (op_gtr rfl rfl rfl ?_);exact k.1):p:=h ⟨k⟩
theorem QbW (k:q) (h:Wr q→p:=by intro k;refine Zg _ rfl rfl rfl rfl rfl (op_sub rfl rfl rfl (IntWalk.i64_in _ by11) ?_);exact k.1):p:=h ⟨k⟩
theorem QbX (k:q) (h:Wr q→p:=by intro k;refine Zb _ rfl rfl rfl (Zs (cs':=[_,_,_,_]) (i:=0) rfl ta_91 rfl rfl rfl rfl ?_);exact k.1):p:=h ⟨k⟩
theorem QbY (k:q) (h:Wr q→p:=by intro k;refine Zf _ (some 1) rfl rfl rfl rfl rfl (Zs (cs':=[_,_,_,_]) (i:=0) rfl ta_91 rfl rfl rfl rfl ⟨rfl,rfl⟩) ?_;exact k.1):p:=h ⟨k⟩
theorem QbZ (k:q) (h:Wr q→p:=by intro k;refine Zb _ rfl rfl rfl (op_sub rfl rfl rfl (IntWalk.i64_in _ by11) ?_);exact k.1):p:=h ⟨k⟩
theorem Qb0 (k:q) (h:Wr q→p:=by intro k;refine Zg _ rfl rfl rfl rfl rfl (Ya rfl tu_32 rfl (.seq _ _) ?_);exact k.1):p:=h ⟨k⟩
theorem Qb1 (k:q) (h:Wr q→p:=by intro k;refine Zg _ rfl rfl rfl rfl rfl (Ya rfl tu_30 rfl (.seq _ _) ?_);exact k.1):p:=h ⟨k⟩
theorem Qb2 (k:q) (h:Wr q→p:=by intro k;refine Zy _ rfl rfl (op_add rfl rfl rfl (IntWalk.i64_in _ by11) ⟨rfl,rfl⟩) ?_;exact k.1):p:=h ⟨k⟩
theorem Qb3 (k:q) (h:Wr q→p:=by intro k;refine Zb _ rfl rfl rfl (op_len_row (i:=1) rfl tu_30 rfl rfl ?_);exact k.1):p:=h ⟨k⟩
theorem Qb4 (k:q) (h:Wr q→p:=by intro k;refine Zq rfl rfl (Zm (cs':=[_,_,_,_,_,_,_]) (i:=0) rfl ts_3 rfl rfl rfl rfl rfl (Yq rfl) rfl ?_);exact k.1):p:=h ⟨k⟩
theorem Qb6 (k:q) (h:Wr q→p:=by intro k;refine Zb _ rfl rfl rfl (Zp (cs':=[_,_,_,_,_,_,_]) rfl Zi rfl rfl rfl ?_);exact k.1):p:=h ⟨k⟩
theorem Qb7 (k:q) (h:Wr q→p:=by intro k;refine Zb _ rfl rfl rfl (Zp (cs':=[_,_,_]) rfl ta_27 rfl rfl rfl ?_);exact k.1):p:=h ⟨k⟩
theorem Qb8 (k:q) (h:Wr q→p:=by intro k;refine Zb _ rfl rfl rfl (Ya rfl tu_25 rfl (.seq _ _) ?_);exact k.1):p:=h ⟨k⟩
theorem Qb9 (k:q) (h:Wr q→p:=by intro k;refine Zb _ rfl rfl rfl (Ya rfl tu_45 rfl (.seq _ _) ?_);exact k.1):p:=h ⟨k⟩
theorem Qca (k:q) (h:Wr q→p:=by intro k;refine Zb _ rfl rfl rfl (Ya rfl tu_46 rfl (.seq _ _) ?_);exact k.1):p:=h ⟨k⟩
theorem Qcb (k:q) (h:Wr q→p:=by intro k;refine Zg _ rfl rfl rfl rfl rfl (Ya rfl tu_42 rfl (.seq _ _) ?_);exact k.1):p:=h ⟨k⟩
theorem Qcc (k:q) (h:Wr q→p:=by intro k;refine Zy _ rfl rfl (op_assign rfl rfl ⟨rfl,rfl⟩) ?_;exact k.1):p:=h ⟨k⟩
theorem Qcd (k:q) (h:Wr q→p:=by intro k;refine Zg _ rfl rfl rfl rfl rfl (Ya rfl tu_44 rfl (.seq _ _) ?_);exact k.1):p:=h ⟨k⟩
theorem Qce (k:q) (h:Wr q→p:=by intro k;refine Zg _ rfl rfl rfl rfl rfl (Zp (cs':=[_,_,_,_,_,_,_,_,_,_,_,_]) rfl ta_85 rfl rfl rfl ?_);exact k.1):p:=h ⟨k⟩
theorem Qcf (k:q) (h:Wr q→p:=by intro k;refine Zf _ (some 2) rfl rfl rfl rfl rfl (Zs (cs':=[_,_,_,_]) (i:=0) rfl ta_91 rfl rfl rfl rfl ⟨rfl,rfl⟩) ?_;exact k.1):p:=h ⟨k⟩
theorem Qcg (k:q) (h:Wr q→p:=by intro k;refine Zf _ (some 3) rfl rfl rfl rfl rfl (Zs (cs':=[_,_,_,_]) (i:=0) rfl ta_91 rfl rfl rfl rfl ⟨rfl,rfl⟩) ?_;exact k.1):p:=h ⟨k⟩
theorem Qch (k:q) (h:Wr q→p:=by intro k;refine Zf _ (some 1) rfl rfl rfl rfl rfl (op_lm1 (i:=0) rfl rfl rfl rfl rfl ⟨rfl,rfl⟩) ?_;exact k.1):p:=h ⟨k⟩
theorem Qci (k:q) (h:Wr q→p:=by intro k;refine Zy _ rfl rfl (op_lm1 (i:=0) rfl rfl rfl rfl rfl ⟨rfl,rfl⟩) ?_;exact k.1):p:=h ⟨k⟩
theorem Qcj (k:q) (h:Wr q→p:=by intro k;refine Zb _ rfl rfl rfl (Zv (cs':=[_,_,_,_,_,_,_]) rfl tz_53 rfl rfl ?_);exact k.1):p:=h ⟨k⟩
theorem Qck (k:q) (h:Wr q→p:=by intro k;refine Zg _ rfl rfl rfl rfl rfl (op_nilCheck_m rfl rfl ?_);exact k.1):p:=h ⟨k⟩
theorem Qcl (k:q) (h:Wr q→p:=by intro k;refine Zb _ rfl rfl rfl (Zv (cs':=[_,_,_,_,_,_]) rfl tz_34 rfl rfl ?_);exact k.1):p:=h ⟨k⟩
theorem Qcm (k:q) (h:Wr q→p:=by intro k;refine Zb _ rfl rfl rfl (Zp (cs':=[_,_,_,_]) rfl ta_24 rfl rfl rfl ?_);exact k.1):p:=h ⟨k⟩
theorem Qcn (k:q) (h:Wr q→p:=by intro k;refine Zq rfl rfl (Zm (cs':=[_,_,_,_,_,_]) (i:=0) rfl ts_34 rfl rfl rfl rfl rfl (Yq rfl) rfl ?_);exact k.1):p:=h ⟨k⟩
theorem Qco (k:q) (h:Wr q→p:=by intro k;refine Zz _ rfl rfl rfl rfl (Zj rfl te_31 rfl (.seq _ _) rfl rfl by9 ⟨rfl,rfl⟩) ?_;exact k.1):p:=h ⟨k⟩
theorem Qct (k:q) (h:Wr q→p:=by intro k;refine Zb _ rfl rfl rfl (Zp (cs':=[_,_]) rfl ta_41 rfl rfl rfl ?_);exact k.1):p:=h ⟨k⟩
theorem Qcu (k:q) (h:Wr q→p:=by intro k;refine Zb _ rfl rfl rfl (Zj rfl te_30 rfl (.seq _ _) rfl rfl by9 ?_);exact k.1):p:=h ⟨k⟩
theorem Qcv (k:q) (h:Wr q→p:=by intro k;refine Zb _ rfl rfl rfl (Zs (cs':=[_,_,_,_,_,_,_,_,_,_,_,_,_]) (i:=0) rfl ta_51 rfl rfl rfl rfl ?_);exact k.1):p:=h ⟨k⟩
theorem Qcw (k:q) (h:Wr q→p:=by intro k;refine Zb _ rfl rfl rfl (Zj rfl te_43 rfl (.seq _ _) rfl rfl by9 ?_);exact k.1):p:=h ⟨k⟩
theorem Qcx (k:q) (h:Wr q→p:=by intro k;refine Zb _ rfl rfl rfl (Zp (cs':=[_,_,_,_,_,_,_,_]) rfl ta_88 rfl rfl rfl ?_);exact k.1):p:=h ⟨k⟩
theorem Qcy (k:q) (h:Wr q→p:=by intro k;refine Zb _ rfl rfl rfl (Zs (cs':=[_,_,_,_,_]) (i:=0) rfl ta_48 rfl rfl rfl rfl ?_);exact k.1):p:=h ⟨k⟩
theorem Qcz (k:q) (h:Wr q→p:=by intro k;refine Zb _ rfl rfl rfl (Zv (cs':=[_,_,_,_,_]) rfl tz_115 rfl rfl ?_);exact k.1):p:=h ⟨k⟩
theorem QcA (k:q) (h:Wr q→p:=by intro k;refine Zz _ rfl rfl rfl rfl (Ya rfl tu_42 rfl (.seq _ _) (fun _=>⟨rfl,rfl⟩)) ?_;exact k.1):p:=h ⟨k⟩
theorem QcB (k:q) (h:Wr q→p:=by intro k;refine Zb _ rfl rfl rfl (Ya rfl tu_44 rfl (.seq _ _) ?_);exact k.1):p:=h ⟨k⟩
theorem QcC (k:q) (h:Wr q→p:=by intro k;refine Zg _ rfl rfl rfl rfl rfl (Zp (cs':=[_,_,_,_,_,_,_]) rfl Zi rfl rfl rfl ?_);exact k.1):p:=h ⟨k⟩
theorem QcD (k:q) (h:Wr q→p:=by intro k;refine Zb _ rfl rfl rfl (Zp (cs':=[_,_,_,_]) rfl ta_91 rfl rfl rfl ?_);exact k.1):p:=h ⟨k⟩
theorem QcE (k:q) (h:Wr q→p:=by intro k;refine Zf _ (none) rfl rfl rfl rfl rfl (Zp (cs':=[_,_,_,_]) rfl ta_91 rfl rfl rfl ⟨rfl,rfl⟩) ?_;exact k.1):p:=h ⟨k⟩
theorem QcF (k:q) (h:Wr q→p:=by intro k;refine Zf _ (some 0) rfl rfl rfl rfl rfl (Zs (cs':=[_,_,_,_]) (i:=0) rfl ta_91 rfl rfl rfl rfl ⟨rfl,rfl⟩) ?_;exact k.1):p:=h ⟨k⟩
theorem QcG (k:q) (h:Wr q→p:=by intro k;refine Zz _ rfl rfl rfl rfl (Zp (cs':=[_,_,_,_,_,_,_,_]) rfl ta_75 rfl rfl rfl ⟨rfl,rfl⟩) ?_;exact k.1):p:=h ⟨k⟩
theorem QcH (k:q) (h:Wr q→p:=by intro k;refine Zb _ rfl rfl rfl (op_boxc (cs':=[_,_,_,_,_,_]) rfl rfl rfl rfl ?_);exact k.1):p:=h ⟨k⟩
theorem QcI (k:q) (h:Wr q→p:=by intro k;refine Zb _ rfl rfl rfl (Ya rfl tu_31 rfl (.seq _ _) ?_);exact k.1):p:=h ⟨k⟩
theorem QcJ (k:q) (h:Wr q→p:=by intro k;refine Zy _ rfl rfl (op_lm1 (i:=1) rfl rfl rfl rfl rfl ⟨rfl,rfl⟩) ?_;exact k.1):p:=h ⟨k⟩
theorem QcK (k:q) (h:Wr q→p:=by intro k;refine Zb _ rfl rfl rfl (Zj rfl te_25 rfl (.seq _ _) rfl rfl (hcx) ?_);exact k.1):p:=h ⟨k⟩
theorem QcL (k:q) (h:Wr q→p:=by intro k;refine Zb _ rfl rfl rfl (Zv (cs':=[_,_,_,_,_,_,_,_,_,_,_,_,_]) rfl tz_51 rfl rfl ?_);exact k.1):p:=h ⟨k⟩
theorem QcM (k:q) (h:Wr q→p:=by intro k;refine Zq rfl rfl (Zm (cs':=[_,_,_,_,_,_,_,_,_,_,_,_,_]) (i:=0) rfl ts_51 rfl rfl rfl rfl rfl (Yq rfl) rfl ?_);exact k.1):p:=h ⟨k⟩
theorem QcN (k:q) (h:Wr q→p:=by intro k;refine Zq rfl rfl (Zm (cs':=[_,_,_,_,_,_,_]) (i:=0) rfl ts_53 rfl rfl rfl rfl rfl (Yq rfl) rfl ?_);exact k.1):p:=h ⟨k⟩
theorem QcO (k:q) (h:Wr q→p:=by intro k;refine Yh [0,1,2,3,4,5] [3,5] [[],[0],[],[2],[0,1,2,3],[0,1,2,3,4]] tmix rfl ?_;exact k.1):p:=h ⟨k⟩
theorem QcP (k:q) (h:Wr q→p:=by intro k;refine EOps.w 0 rfl rfl rfl rfl rfl (Zm (cs':=[_,_,_,_,_,_,_]) (i:=0) rfl ts_2 rfl rfl rfl rfl rfl (Yq rfl) rfl ⟨_,rfl,?_⟩);exact k.1):p:=h ⟨k⟩
theorem QcR (k:q) (h:Wr q→p:=by intro k;refine Zc Try.func39 rfl (by kernel_rfl) rfl (Yq rfl) ?_;exact k.1):p:=h ⟨k⟩
theorem QcS (k:q) (h:Wr q→p:=by intro k;refine Zb _ rfl rfl rfl (Zn (ns:=[0]) (xs:=[.const (.int .i64 15)]) rfl tz_53 rfl tfl_53 rfl rfl rfl rfl ?_);exact k.1):p:=h ⟨k⟩
theorem QcT (k:q) (h:Wr q→p:=by intro k;refine Zb _ rfl rfl rfl (Zn (ns:=[]) (xs:=[]) rfl tz_110 rfl tfl_110 rfl rfl rfl rfl ?_);exact k.1):p:=h ⟨k⟩
theorem QcU (k:q) (h:Wr q→p:=by intro k;refine Zb _ rfl rfl rfl (op_boxe (cs':=[_]) rfl rfl rfl rfl ?_);exact k.1):p:=h ⟨k⟩
theorem QcV (k:q) (h:Wr q→p:=by intro k;refine c_le (SLe.refl _) (Yj _ (MLe.loc _ (Yo (Le.nilOwn 1) (Yn _)) (Yi _))) ?_;exact k.1):p:=h ⟨k⟩
theorem QcW (k:q) (h:Wr q→p:=by intro k;refine Zb _ rfl rfl rfl (Zv (cs':=[_,_,_]) rfl tz_27 rfl rfl ?_);exact k.1):p:=h ⟨k⟩
theorem QcX (k:q) (h:Wr q→p:=by intro k;refine Zq rfl rfl (Zm (cs':=[_,_,_]) (i:=0) rfl ts_27 rfl rfl rfl rfl rfl (Yq rfl) rfl ?_);exact k.1):p:=h ⟨k⟩
theorem QcZ (k:q) (h:Wr q→p:=by intro k;refine Zb _ rfl rfl rfl (Zj rfl te_32 rfl (.seq _ _) rfl rfl by9 ?_);exact k.1):p:=h ⟨k⟩
theorem Qc0 (k:q) (h:Wr q→p:=by intro k;refine Zb _ rfl rfl rfl (Zs (cs':=[_,_]) (i:=0) rfl ta_41 rfl rfl rfl rfl ?_);exact k.1):p:=h ⟨k⟩
theorem Qc1 (k:q) (h:Wr q→p:=by intro k;refine Zz _ rfl rfl rfl rfl (op_sub rfl rfl rfl (IntWalk.i64_in _ by11) ⟨rfl,rfl⟩) ?_;exact k.1):p:=h ⟨k⟩
theorem Qc2 (k:q) (h:Wr q→p:=by intro k;(refine Zz _ rfl rfl rfl rfl (Zj rfl te_44 rfl (.seq _ _) rfl rfl ((by first|exact hcl|exact Cf.cellss_get (hw by11 by11))) ⟨rfl,rfl⟩) ?_);exact k.1):p:=h ⟨k⟩
theorem Qc3 (k:q) (h:Wr q→p:=by intro k;refine Zg _ rfl rfl rfl rfl rfl (Zs (cs':=[_,_,_,_,_]) (i:=0) rfl ta_115 rfl rfl rfl rfl ?_);exact k.1):p:=h ⟨k⟩
theorem Qc4 (k:q) (h:Wr q→p:=by intro k;refine Zb _ rfl rfl rfl (Zs (cs':=[_,_,_,_]) (i:=2) rfl ta_91 rfl rfl rfl rfl ?_);exact k.1):p:=h ⟨k⟩
theorem Qc5 (k:q) (h:Wr q→p:=by intro k;refine Zq rfl rfl (Zm (cs':=[_,_,_,_]) (i:=2) rfl ts_91 rfl rfl rfl rfl rfl (Yq rfl) rfl ?_);exact k.1):p:=h ⟨k⟩
theorem Qc6 (k:q) (h:Wr q→p:=by intro k;refine Zb _ rfl rfl rfl (Zv (cs':=[_,_,_,_,_,_,_,_]) rfl tz_88 rfl rfl ?_);exact k.1):p:=h ⟨k⟩
theorem Qc7 (k:q) (h:Wr q→p:=by intro k;refine Zq rfl rfl (Zm (cs':=[_,_,_,_,_,_,_,_]) (i:=0) rfl ts_88 rfl rfl rfl rfl rfl (Yq rfl) rfl ?_);exact k.1):p:=h ⟨k⟩
theorem Qc8 (k:q) (h:Wr q→p:=by intro k;(refine Zz _ rfl rfl rfl rfl (Zj rfl te_44 rfl (.seq _ _) rfl rfl ((by first|exact hcl|exact Fu.cellss_get (hw by11 by11))) ⟨rfl,rfl⟩) ?_);exact k.1):p:=h ⟨k⟩
theorem Qc9 (k:q) (h:Wr q→p:=by intro k;refine Zb _ rfl rfl rfl (Zp (cs':=[_,_,_,_,_,_,_,_]) rfl ta_75 rfl rfl rfl ?_);exact k.1):p:=h ⟨k⟩
theorem Qda (k:q) (h:Wr q→p:=by intro k;refine Zf _ (some 1) rfl rfl rfl rfl rfl (op_len_row (i:=0) rfl tu_30 rfl rfl (fun _=>⟨rfl,rfl⟩)) ?_;exact k.1):p:=h ⟨k⟩
theorem Qdb (k:q) (h:Wr q→p:=by intro k;refine Zb _ rfl rfl rfl (Zn (ns:=[0]) (xs:=[.const (.int .i64 14)]) rfl tz_53 rfl tfl_53 rfl rfl rfl rfl ?_);exact k.1):p:=h ⟨k⟩
theorem Qdc (k:q) (h:Wr q→p:=by intro k;refine Zf _ (none) rfl rfl rfl rfl rfl (Zp (cs':=[_,_,_,_,_]) rfl ta_48 rfl rfl rfl ⟨rfl,rfl⟩) ?_;exact k.1):p:=h ⟨k⟩
theorem Qdd (k:q) (h:Wr q→p:=by intro k;refine Zf _ (none) rfl rfl rfl rfl rfl (Zp (cs':=[_,_]) rfl ta_41 rfl rfl rfl ⟨rfl,rfl⟩) ?_;exact k.1):p:=h ⟨k⟩
theorem Qde (k:q) (h:Wr q→p:=by intro k;refine Zb _ rfl rfl rfl (Zs (cs':=[_,_,_,_,_,_]) (i:=2) rfl ta_34 rfl rfl rfl rfl ?_);exact k.1):p:=h ⟨k⟩
theorem Qdf (k:q) (h:Wr q→p:=by intro k;refine Zq rfl rfl (Zm (cs':=[_,_,_,_,_,_]) (i:=4) rfl ts_34 rfl rfl rfl rfl rfl (Yq rfl) rfl ?_);exact k.1):p:=h ⟨k⟩
theorem Qdg (k:q) (h:Wr q→p:=by intro k;refine Zb _ rfl rfl rfl (Zn (ns:=[]) (xs:=[]) rfl tz_34 rfl tfl_34 rfl rfl rfl rfl ?_);exact k.1):p:=h ⟨k⟩
theorem Qdh (k:q) (h:Wr q→p:=by intro k;refine Zf _ (some 3) rfl rfl rfl rfl rfl (op_lm1 (i:=0) rfl rfl rfl rfl rfl ⟨rfl,rfl⟩) ?_;exact k.1):p:=h ⟨k⟩
theorem Qdi (k:q) (h:Wr q→p:=by intro k;refine Zy _ rfl rfl (Zj rfl te_42 rfl (.seq _ _) rfl rfl by9 ⟨rfl,rfl⟩) ?_;exact k.1):p:=h ⟨k⟩
theorem Qdj (k:q) (h:Wr q→p:=by intro k;refine Zz _ rfl rfl rfl rfl (Zj rfl te_42 rfl (.seq _ _) rfl rfl by9 ⟨rfl,rfl⟩) ?_;exact k.1):p:=h ⟨k⟩
theorem Qdk (k:q) (h:Wr q→p:=by intro k;refine Zy _ rfl rfl (Zj rfl te_44 rfl (.seq _ _) rfl rfl by9 ⟨rfl,rfl⟩) ?_;exact k.1):p:=h ⟨k⟩
theorem Qdl (k:q) (h:Wr q→p:=by intro k;refine Zy _ rfl rfl (Zj rfl te_43 rfl (.seq _ _) rfl rfl by9 ⟨rfl,rfl⟩) ?_;exact k.1):p:=h ⟨k⟩
theorem Qdm (k:q) (h:Wr q→p:=by intro k;refine Zy _ rfl rfl (Zj rfl te_31 rfl (.seq _ _) rfl rfl by9 ⟨rfl,rfl⟩) ?_;exact k.1):p:=h ⟨k⟩
theorem Qdn (k:q) (h:Wr q→p:=by intro k;refine Zy _ rfl rfl (Zj rfl te_32 rfl (.seq _ _) rfl rfl by9 ⟨rfl,rfl⟩) ?_;exact k.1):p:=h ⟨k⟩
theorem Qd (k:q) (h:Wr q→p:=by intro k;refine Qz ?_;refine Qj ?_;exact k.1):p:=h ⟨k⟩
theorem Qy (k:q) (h:Wr q→p:=by intro k;refine Qo ?_;refine Qk ?_;exact k.1):p:=h ⟨k⟩
theorem Qag (k:q) (h:Wr q→p:=by intro k;refine Qae ?_;refine Qae ?_;exact k.1):p:=h ⟨k⟩
theorem Qb (k:q) (h:Wr q→p:=by intro k;refine Qa3 ?_;refine Qd ?_;exact k.1):p:=h ⟨k⟩
theorem Qax (k:q) (h:Wr q→p:=by intro k;refine x_past by12 ?_;refine x_code ?_;exact k.1):p:=h ⟨k⟩
theorem Qf (k:q) (h:Wr q→p:=by intro k;refine Qag ?_;refine Qag ?_;exact k.1):p:=h ⟨k⟩
theorem Qh (k:q) (h:Wr q→p:=by intro k;refine Qcp ?_;refine Qa ?_;exact k.1):p:=h ⟨k⟩
theorem Qe (k:q) (h:Wr q→p:=by intro k;refine Qb ?_;refine c_ret ?_;exact k.1):p:=h ⟨k⟩
theorem QaH (k:q) (h:Wr q→p:=by intro k;refine Qa3 ?_;refine Qz ?_;exact k.1):p:=h ⟨k⟩
theorem Qay (k:q) (h:Wr q→p:=by intro k;refine DOps.gf _ rfl rfl rfl rfl ?_;refine DOps.gf _ rfl rfl rfl rfl ?_;exact k.1):p:=h ⟨k⟩
theorem Qc (k:q) (h:Wr q→p:=by intro k;refine Qa4 ?_;refine Zg _ rfl rfl rfl rfl rfl (op_lc1 rfl rfl rfl rfl ?_);exact k.1):p:=h ⟨k⟩
theorem QV (k:q) (h:Wr q→p:=by intro k;refine Qj ?_;refine Qo ?_;exact k.1):p:=h ⟨k⟩
theorem Ql (k:q) (h:Wr q→p:=by intro k;refine QaG ?_;refine QR ?_;exact k.1):p:=h ⟨k⟩
theorem Qm (k:q) (h:Wr q→p:=by intro k;refine Qcp ?_;refine QaH ?_;exact k.1):p:=h ⟨k⟩
theorem QaI (k:q) (h:Wr q→p:=by intro k;refine Qag ?_;refine Qae ?_;exact k.1):p:=h ⟨k⟩
theorem Qr (k:q) (h:Wr q→p:=by intro k;refine Qy ?_;refine Qa ?_;exact k.1):p:=h ⟨k⟩
theorem QW (k:q) (h:Wr q→p:=by intro k;refine Qax ?_;refine Qax ?_;exact k.1):p:=h ⟨k⟩
theorem QX (k:q) (h:Wr q→p:=by intro k;refine Qh ?_;refine Qf ?_;exact k.1):p:=h ⟨k⟩
theorem Qi (k:q) (h:Wr q→p:=by intro k;refine QJ ?_;refine Qy ?_;exact k.1):p:=h ⟨k⟩
theorem QB (k:q) (h:Wr q→p:=by intro k;refine Qai ?_;refine c_skip ?_;exact k.1):p:=h ⟨k⟩
theorem Q2 (k:q) (h:Wr q→p:=by intro k;refine Qj ?_;refine Qy ?_;exact k.1):p:=h ⟨k⟩
theorem QH (k:q) (h:Wr q→p:=by intro k;refine Qcp ?_;refine Qz ?_;exact k.1):p:=h ⟨k⟩
theorem Qu (k:q) (h:Wr q→p:=by intro k;refine Qb ?_;refine Qo ?_;exact k.1):p:=h ⟨k⟩
theorem Qg (k:q) (h:Wr q→p:=by intro k;refine Qd ?_;refine Qo ?_;exact k.1):p:=h ⟨k⟩
theorem QP (k:q) (h:Wr q→p:=by intro k;refine QN ?_;refine Qo ?_;exact k.1):p:=h ⟨k⟩
theorem Qn (k:q) (h:Wr q→p:=by intro k;refine Qk ?_;refine Qa ?_;exact k.1):p:=h ⟨k⟩
theorem Q6 (k:q) (h:Wr q→p:=by intro k;refine QO ?_;refine Qy ?_;exact k.1):p:=h ⟨k⟩
theorem Qa9 (k:q) (h:Wr q→p:=by intro k;refine Qay ?_;refine Qay ?_;exact k.1):p:=h ⟨k⟩
theorem QK (k:q) (h:Wr q→p:=by intro k;refine Qy ?_;refine Qx ?_;exact k.1):p:=h ⟨k⟩
theorem QaJ (k:q) (h:Wr q→p:=by intro k;refine go_blk ?_;refine Qj ?_;exact k.1):p:=h ⟨k⟩
theorem Qao (k:q) (h:Wr q→p:=by intro k;refine Qai ?_;refine c_exit ?_;refine x_code ?_;refine x_lp ?_;refine x_here ?_;exact k.1):p:=h ⟨k⟩
theorem Qp (k:q) (h:Wr q→p:=by intro k;refine QO ?_;refine c_skip ?_;refine QV ?_;refine QP ?_;exact k.1):p:=h ⟨k⟩
theorem Qq (k:q) (h:Wr q→p:=by intro k;refine Q6 ?_;refine Qe ?_;exact k.1):p:=h ⟨k⟩
theorem Qap (k:q) (h:Wr q→p:=by intro k;refine QW ?_;refine QW ?_;exact k.1):p:=h ⟨k⟩
theorem Qs (k:q) (h:Wr q→p:=by intro k;refine Qj ?_;refine c_ret ?_;exact k.1):p:=h ⟨k⟩
theorem Qt (k:q) (h:Wr q→p:=by intro k;refine QC ?_;refine Zb _ rfl rfl rfl (op_lm1 (i:=0) rfl rfl rfl rfl rfl ?_);exact k.1):p:=h ⟨k⟩
theorem Qv (k:q) (h:Wr q→p:=by intro k;refine Qa ?_;refine Qd ?_;refine QN ?_;exact k.1):p:=h ⟨k⟩
theorem Qw (k:q) (h:Wr q→p:=by intro k;refine Qy ?_;refine Qav ?_;exact k.1):p:=h ⟨k⟩
theorem QT (k:q) (h:Wr q→p:=by intro k;refine QaJ ?_;refine Qk ?_;refine QS ?_;refine Qa ?_;refine Qz ?_;refine go_lp ?_;exact k.1):p:=h ⟨k⟩
theorem QY (k:q) (h:Wr q→p:=by intro k;refine QbN ?_;refine QbO ?_;exact k.1):p:=h ⟨k⟩
theorem Q3 (k:q) (h:Wr q→p:=by intro k;refine Qb ?_;refine Qy ?_;exact k.1):p:=h ⟨k⟩
theorem Q7 (k:q) (h:Wr q→p:=by intro k;refine QB ?_;refine QV ?_;exact k.1):p:=h ⟨k⟩
theorem Q8 (k:q) (h:Wr q→p:=by intro k;refine x_here ?_;refine Q2 ?_;exact k.1):p:=h ⟨k⟩
theorem QI (k:q) (h:Wr q→p:=by intro k;refine Qai ?_;refine QK ?_;exact k.1):p:=h ⟨k⟩
theorem QZ (k:q) (h:Wr q→p:=by intro k;refine QaI ?_;refine QX ?_;exact k.1):p:=h ⟨k⟩
theorem QL (k:q) (h:Wr q→p:=by intro k;refine Qa5 ?_;refine Zg _ rfl rfl rfl rfl rfl (op_lm1 (i:=0) rfl rfl rfl rfl rfl ?_);exact k.1):p:=h ⟨k⟩
theorem QM (k:q) (h:Wr q→p:=by intro k;refine QaI ?_;refine Qm ?_;exact k.1):p:=h ⟨k⟩
theorem Qaq (k:q) (h:Wr q→p:=by intro k;refine Qag ?_;refine QH ?_;exact k.1):p:=h ⟨k⟩
theorem QaK (k:q) (h:Wr q→p:=by intro k;refine Qb ?_;refine Qr ?_;refine Qa ?_;exact k.1):p:=h ⟨k⟩
theorem Qba (k:q) (h:Wr q→p:=by intro k;refine Qy ?_;refine Ql ?_;exact k.1):p:=h ⟨k⟩
theorem Q0 (k:q) (h:Wr q→p:=by intro k;refine QC ?_;refine Zq rfl rfl (Zm (cs':=[_,_,_,_,_]) (i:=0) rfl ts_4 rfl rfl rfl rfl rfl (Yq rfl) rfl ?_);exact k.1):p:=h ⟨k⟩
theorem Q1 (k:q) (h:Wr q→p:=by intro k;refine Ql ?_;refine Qak ?_;exact k.1):p:=h ⟨k⟩
theorem Qbb (k:q) (h:Wr q→p:=by intro k;refine Qa9 ?_;refine Qa9 ?_;exact k.1):p:=h ⟨k⟩
theorem Qbc (k:q) (h:Wr q→p:=by intro k;refine QaI ?_;refine QH ?_;exact k.1):p:=h ⟨k⟩
theorem Q4 (k:q) (h:Wr q→p:=by intro k;refine QaI ?_;refine Qh ?_;exact k.1):p:=h ⟨k⟩
theorem Q5 (k:q) (h:Wr q→p:=by intro k;refine Qaj ?_;refine QF ?_;exact k.1):p:=h ⟨k⟩
theorem Q9 (k:q) (h:Wr q→p:=by intro k;refine Qao ?_;refine Q2 ?_;refine Qe ?_;exact k.1):p:=h ⟨k⟩
theorem Qaa (k:q) (h:Wr q→p:=by intro k;refine QB ?_;refine QT ?_;exact k.1):p:=h ⟨k⟩
theorem Qab (k:q) (h:Wr q→p:=by intro k;refine Qc ?_;refine QbB ?_;exact k.1):p:=h ⟨k⟩
theorem Qac (k:q) (h:Wr q→p:=by intro k;refine Qao ?_;refine QV ?_;exact k.1):p:=h ⟨k⟩
theorem Qad (k:q) (h:Wr q→p:=by intro k;refine Qae ?_;refine QX ?_;exact k.1):p:=h ⟨k⟩
theorem Qah (k:q) (h:Wr q→p:=by intro k;refine QO ?_;refine c_exit ?_;refine x_code ?_;refine x_code ?_;exact k.1):p:=h ⟨k⟩
theorem Qar (k:q) (h:Wr q→p:=by intro k;refine QO ?_;refine c_skip ?_;refine Qj ?_;exact k.1):p:=h ⟨k⟩
theorem Qas (k:q) (h:Wr q→p:=by intro k;refine QO ?_;refine Qo ?_;exact k.1):p:=h ⟨k⟩
theorem Qat (k:q) (h:Wr q→p:=by intro k;refine Qag ?_;refine Qm ?_;exact k.1):p:=h ⟨k⟩
theorem Qau (k:q) (h:Wr q→p:=by intro k;refine QS ?_;refine QaH ?_;exact k.1):p:=h ⟨k⟩
theorem Qaz (k:q) (h:Wr q→p:=by intro k;refine Qn ?_;refine Qa ?_;exact k.1):p:=h ⟨k⟩
theorem QaA (k:q) (h:Wr q→p:=by intro k;refine QO ?_;refine Qr ?_;refine Qe ?_;exact k.1):p:=h ⟨k⟩
theorem QaB (k:q) (h:Wr q→p:=by intro k;refine Qap ?_;refine Qap ?_;exact k.1):p:=h ⟨k⟩
theorem QaC (k:q) (h:Wr q→p:=by intro k;refine QY ?_;refine QbC ?_;exact k.1):p:=h ⟨k⟩
theorem QaD (k:q) (h:Wr q→p:=by intro k;refine QX ?_;refine QX ?_;exact k.1):p:=h ⟨k⟩
theorem QaE (k:q) (h:Wr q→p:=by intro k;refine Qd ?_;refine Qy ?_;exact k.1):p:=h ⟨k⟩
theorem QaF (k:q) (h:Wr q→p:=by intro k;refine Zf _ (none) rfl rfl rfl rfl rfl (op_fac rfl rfl rfl rfl ⟨rfl,rfl⟩) ?_;refine Qcq ?_;exact k.1):p:=h ⟨k⟩
theorem QaL (k:q) (h:Wr q→p:=by intro k;refine Qy ?_;refine Qu ?_;refine Qr ?_;exact k.1):p:=h ⟨k⟩
theorem QaM (k:q) (h:Wr q→p:=by intro k;refine Qi ?_;refine QaK ?_;exact k.1):p:=h ⟨k⟩
theorem QaN (k:q) (h:Wr q→p:=by intro k;refine QE ?_;refine Qbm ?_;exact k.1):p:=h ⟨k⟩
theorem QaO (k:q) (h:Wr q→p:=by intro k;refine Q7 ?_;refine Qo ?_;exact k.1):p:=h ⟨k⟩
theorem QaP (k:q) (h:Wr q→p:=by intro k;refine Qax ?_;refine Q8 ?_;refine QbD ?_;refine QbE ?_;refine Qe ?_;exact k.1):p:=h ⟨k⟩
theorem QaR (k:q) (h:Wr q→p:=by intro k;refine go_blk ?_;refine QV ?_;exact k.1):p:=h ⟨k⟩
theorem QaS (k:q) (h:Wr q→p:=by intro k;refine Qu ?_;refine Qba ?_;exact k.1):p:=h ⟨k⟩
theorem QaT (k:q) (h:Wr q→p:=by intro k;refine QO ?_;refine Qk ?_;exact k.1):p:=h ⟨k⟩
theorem QaU (k:q) (h:Wr q→p:=by intro k;refine Zy _ rfl rfl (op_fac rfl rfl rfl rfl ⟨rfl,rfl⟩) ?_;refine Qbu ?_;exact k.1):p:=h ⟨k⟩
theorem QaV (k:q) (h:Wr q→p:=by intro k;refine Qk ?_;refine Ql ?_;exact k.1):p:=h ⟨k⟩
theorem QaY (k:q) (h:Wr q→p:=by intro k;refine Q3 ?_;refine QR ?_;exact k.1):p:=h ⟨k⟩
theorem QaZ (k:q) (h:Wr q→p:=by intro k;refine Qi ?_;refine Zb _ rfl rfl rfl (op_boxc (cs':=[_]) rfl rfl rfl rfl ?_);refine Qb ?_;refine Qr ?_;refine Qcr ?_;exact k.1):p:=h ⟨k⟩
theorem Qa0 (k:q) (h:Wr q→p:=by intro k;refine Qf ?_;refine Qaq ?_;exact k.1):p:=h ⟨k⟩
theorem Qa1 (k:q) (h:Wr q→p:=by intro k;refine DOps.gf _ rfl rfl rfl rfl ?_;refine Qaj ?_;exact k.1):p:=h ⟨k⟩
theorem Qa2 (k:q) (h:Wr q→p:=by intro k;refine go_blk ?_;refine Q2 ?_;refine QcY ?_;refine Zq rfl rfl (Zm (cs':=[_,_,_,_,_,_,_]) (i:=1) rfl ts_53 rfl rfl rfl rfl rfl (Yq rfl) rfl ?_);refine Qd ?_;refine c_ret ?_;exact k.1):p:=h ⟨k⟩
theorem Qbd (k:q) (h:Wr q→p:=by intro k;refine Qai ?_;refine Qk ?_;exact k.1):p:=h ⟨k⟩
theorem Qbe (k:q) (h:Wr q→p:=by intro k;refine QC ?_;refine Qcs ?_;refine Qd ?_;refine c_exit ?_;exact k.1):p:=h ⟨k⟩
theorem Qbf (k:q) (h:Wr q→p:=by intro k;refine Qf ?_;refine Qm ?_;exact k.1):p:=h ⟨k⟩
theorem Qbg (k:q) (h:Wr q→p:=by intro k;refine Qb5 ?_;refine Qm ?_;exact k.1):p:=h ⟨k⟩
theorem Qbh (k:q) (h:Wr q→p:=by intro k;refine Qc ?_;refine Qal ?_;exact k.1):p:=h ⟨k⟩
theorem Qbi (k:q) (h:Wr q→p:=by intro k;refine Qbb ?_;refine Qa9 ?_;exact k.1):p:=h ⟨k⟩
theorem Qbj (k:q) (h:Wr q→p:=by intro k;refine Qu ?_;refine Qo ?_;exact k.1):p:=h ⟨k⟩
theorem Qbk (k:q) (h:Wr q→p:=by intro k;refine Zf _ (none) rfl rfl rfl rfl rfl (op_nilCheck_m rfl rfl ⟨rfl,rfl⟩) ?_;refine QA ?_;exact k.1):p:=h ⟨k⟩
theorem Qbl (k:q) (h:Wr q→p:=by intro k;refine QZ ?_;refine Qbc ?_;exact k.1):p:=h ⟨k⟩
end
def cellF (w:World):EH:=fun b i=>w.cell? ⟨b,i,none⟩
def fsOk (P:Program) (S:List TypeId):Nat→List Field→Nat→Bool
 | k,[],n=>k == n
 | k,f::fs,n=>f.offset == k && S.contains f.type && fsOk P S (k+P.cellsOf f.type) fs n
def closedT (P:Program) (S:List TypeId):Bool:=S.all fun t=>match P.underlying t with
 | some .bool=>true
 | some (.int _)=>true
 | some .string=>true
 | some (.slice e)=>S.contains e && Nat.blt 0 (P.cellsOf e)
 | some (.struct fs)=>fsOk P S 0 fs.toList (P.cellsOf t)
 | _=>false
section
variable {H:Type} {enc:TypeId × Value→H} {P:Program} {w:World} {sp:Nat→Bool} {held:Bool}
theorem cells_get {a:Addr} {m:Nat} {ws:List Value} (h:w.cells? 0 a m=some ws):ws.length=m∧∀ j x,ws[j]?=some x→w.cell? (a.add j)=some x:=by
 unfold World.cells? at h
 rw [if_pos (Nat.zero_le _)] at h
 have hl:ws.length=m:=by simpa using mapM_some_length h
 refine ⟨hl,fun j x hx=>?_⟩
 have hj:j<m:=by
  rw [← hl]
  rcases Nat.lt_or_ge j ws.length with k|k
  ·exact k
  rw [List.getElem?_eq_none k] at hx;simp at hx
 have:=mapM_some_get h j j (by simp [hj])
 rw [this,hx]
theorem Inv.start (w:World):Inv w.heap.size (cellF w) [] w:=⟨Nat.le_refl _,fun _ _ _ h=>h,by simp,List.Pairwise.nil⟩
theorem law_run {f:FuncId} {vs:List AV} {us:List Value} (h:ACall P f vs [] (fun v _=>v=.val (.bool true))) (hr:Rels (cellF w) vs us):Calls P f us.toArray w fun e w'=>e=.returned (.bool true)∧Below w.heap.size w w':=by
 refine (h.run w.heap.size (cellF w) [] w us (by simpa using Inv.start w) hr).mono ?_
 rintro e w' ⟨u,v,M',F',rfl,rfl,h3,_,_,h6⟩
 cases h3
 exact ⟨V,h6⟩
theorem rel_agg {F:EH} {v:Value} {cs:List AV} (hv:∃ a,v=.agg a) (h:Rels F cs v.cells.toList) (h1:Ones v.cells.toList):Rel F (.agg cs) v:=by
 obtain ⟨a,rfl⟩:=hv
 have:=Rel.agg h h1
 simpa [Value.cells] using this
end
abbrev uptoBulk {H:Type}:DataW H→Nat:=Rows.uptoBulk
abbrev uptoBulkAll {H:Type}:List (DataW H)→Nat:=Rows.uptoBulkAll
mutual
def ShapeL (P:Program) (L:Nat):Nat→TypeId→List AV→Prop
 | 0,_,_=>False
 | n+1,t,cs=>match P.underlying t with
  | some .bool=>∃ b,cs=[.val (.bool b)]
  | some (.int k)=>∃ x,(k.min≤x∧x≤k.max)∧cs=[.val (.int k x)]
  | some .string=>∃ s:ByteArray,s.size≤L∧cs=[.val (.string s)]
  | some (.slice e)=>∃ es,cs=[.seq (P.cellsOf e) es]∧es.length≤L∧∀ x∈es,ShapeL P L n e x
  | some (.struct fs)=>ShapeLF P L n fs.toList cs
  | _=>False
def ShapeLF (P:Program) (L:Nat):Nat→List Field→List AV→Prop
 | _,[],cs=>cs=[]
 | n,f::fs,cs=>∃ a b,cs=a++b∧ShapeL P L n f.type a∧ShapeLF P L n fs b
end
mutual
def AV.bulk:AV→Nat
 | .val (.string s)=>s.size+1
 | .seq _ es=>bulkss es+1
 | _=>1
def bulks:List AV→Nat
 | []=>0
 | a::l=>a.bulk+bulks l
def bulkss:List (List AV)→Nat
 | []=>0
 | e::es=>bulks e+bulkss es
end
theorem bulks_app:∀ a b:List AV,bulks (a++b)=bulks a+bulks b
 | [],b=>by simp [bulks]
 | x::a,b=>by simp only [List.cons_append,bulks,bulks_app a b];omega
theorem bulkss_app:∀ a b:List (List AV),bulkss (a++b)=bulkss a+bulkss b
 | [],b=>by simp [bulkss]
 | x::a,b=>by simp only [List.cons_append,bulkss,bulkss_app a b];omega
theorem uptoBulkAll_app {H:Type}:∀ a b:List (DataW H),uptoBulkAll (a++b)=uptoBulkAll a+uptoBulkAll b
 | [],b=>by simp [uptoBulkAll,Rows.uptoBulkAll]
 | x::a,b=>by have:=uptoBulkAll_app a b;simp only [uptoBulkAll] at this;simp only [List.cons_append,uptoBulkAll,Rows.uptoBulkAll,this];omega
def closedL (P:Program) (S:List TypeId):Bool:=closedT P S && S.all fun t=>match P.underlying t with
 | some (.slice e)=>Nat.blt 0 (P.bytesOf e)
 | _=>true
section
variable {H:Type} {enc:TypeId × Value→H} {P:Program} {w:World} {sp:Nat→Bool} {held:Bool} {L:Nat}
theorem rows_of2 {fuel:Nat} {e:TypeId} {a:Addr} {m:Nat} {F:EH} (ds:List (DataW H)):∀ n:Nat,n≤ds.length→(∀ i d,i<n→ds[i]?=some d→∃ (ws:List Value) (es:List AV),w.cells? 0 (a.add (i * m)) m=some ws∧ShapeL P L fuel e es∧Rels F es ws∧Ones ws∧bulks es≤uptoBulk d) →
    ∃ (ess:List (List AV)) (vs:List Value),ess.length=n∧(∀ x∈ess,ShapeL P L fuel e x∧x.length=m)∧Rels F ess.flatten vs∧Ones vs∧vs.length=n * m∧(∀ j x,vs[j]?=some x→w.cell? (a.add j)=some x)∧bulkss ess≤uptoBulkAll (ds.take n)
 | 0,_,_=>⟨[],[],rfl,by simp,.nil,by intro v hv;simp at hv,by simp,by simp,by simp [bulkss]⟩
 | n+1,hn,h=>by
  obtain ⟨ess,vs,h1,h2,h3,h4,h5,h6,h7⟩:=rows_of2 ds n by11 (fun i d hi hd=>h i d by11 hd)
  have hlt:n<ds.length:=by omega
  obtain ⟨ws,es,k1,k2,k3,k4,k5⟩:=h n ds[n] by11 (List.getElem?_eq_getElem hlt)
  obtain ⟨q1,q2⟩:=cells_get k1
  refine ⟨ess++[es],vs++ws,by simp [h1],fun x hx=>?_,by simpa using h3.app k3,fun v hv=>?_,by simp only [List.length_append,h5,q1,Nat.add_mul];omega,fun j x hx=>?_,?_⟩
  ·rcases List.mem_append.1 hx with r|r
   ·exact h2 x r
   simp at r;subst r;exact ⟨k2,by rw [k3.len,q1]⟩
  ·rcases List.mem_append.1 hv with r|r
   ·exact h4 v r
   exact k4 v r
  ·rcases Nat.lt_or_ge j vs.length with r|r
   ·rw [List.getElem?_append_left r] at hx;exact h6 j x hx
   rw [List.getElem?_append_right r] at hx
   have:=q2 _ x hx
   have e1:(a.add (n * m)).add (j - vs.length)=a.add j:=by
    rw [h5] at r ⊢
    unfold Addr.add
    by_cases z1:n * m=0
    ·rw [if_pos z1]
     simp only [z1,Nat.sub_zero]
    rw [if_neg z1]
    have hj0:j≠0:=by omega
    rw [if_neg hj0]
    by_cases z2:j - n * m=0
    ·rw [if_pos z2]
     simp only [Addr.mk.injEq,true_and,and_true]
     omega
    rw [if_neg z2]
    simp only [Addr.mk.injEq,true_and,and_true]
    omega
   rwa [e1] at this
  rw [bulkss_app,List.take_add_one,List.getElem?_eq_getElem hlt,uptoBulkAll_app]
  simp only [bulkss,Option.toList,uptoBulkAll,Rows.uptoBulkAll]
  simp only [uptoBulk,uptoBulkAll] at *
  omega
theorem weights_all {e:TypeId}:∀ {ds:List (DataW H)} {i:Nat} {d:DataW H},ds[i]?=some d→∀ n∈d.weights P e,n∈DataW.weightsAll P e ds
 | [],i,d,h,_,_=>by simp at h
 | x::ds,0,d,h,n,hn=>by
  simp at h;subst h
  simp only [DataW.weightsAll,List.mem_append];exact .inl hn
 | x::ds,i+1,d,h,n,hn=>by
  simp only [DataW.weightsAll,List.mem_append];exact .inr (weights_all (by simpa using h) n hn)
theorem open_shape2 {S:List TypeId} (hS:closedL P S=true) (hL:L≤maxLen):∀ (fuel:Nat) (t:TypeId) (vs:List Value) (x:DataW H × List MemPlace),t∈S→DataW.trod enc P w 0 sp held fuel t vs=some x→(∀ n∈x.1.weights P t,n≤L) →
    ∃ cs,ShapeL P L fuel t cs∧Rels (cellF w) cs vs∧Ones vs∧bulks cs≤uptoBulk x.1:=by
 have hS1:closedT P S=true:=by unfold closedL at hS;exact (Bool.and_eq_true_iff.1 hS).1
 have hS2:=by unfold closedL at hS;exact (Bool.and_eq_true_iff.1 hS).2
 intro fuel
 induction fuel with
 | zero=>intro t vs x _ h;simp [DataW.trod] at h
 | succ n ih =>
  intro t vs x ht h hw
  have hc:=List.all_eq_true.1 hS1 t ht
  have hc2:=List.all_eq_true.1 hS2 t ht
  have hh:=h
  unfold DataW.trod at h
  unfold ShapeL
  cases hu:P.underlying t with
  | none=>rw [hu] at hc;simp at hc
  | some d =>
   rw [hu] at hc hc2 h
   cases d with
   | bool =>
    simp only at h
    split at h <;> first|(simp at h;done)|skip
    all_goals first|(rename_i b _;simp at h;subst h;exact ⟨[.val (.bool b)],⟨b,rfl⟩,.cons (.val _) .nil,by intro v hv;simp at hv;subst hv;rfl,by simp [bulks,AV.bulk,uptoBulk,Rows.uptoBulk]⟩)|(simp_all;done)
   | int k =>
    simp only at h
    split at h <;> simp_all
    rename_i k' z _
    obtain ⟨⟨rfl,hwf⟩,rfl⟩:=h
    simp only [Lit.wf,Bool.and_eq_true,decide_eq_true_eq] at hwf
    exact ⟨_,⟨z,hwf,rfl⟩,.cons (.val _) .nil,by intro v hv;simp at hv;subst hv;rfl,by simp [bulks,AV.bulk,uptoBulk,Rows.uptoBulk]⟩
   | string =>
    simp only at h
    split at h <;> simp_all
    obtain ⟨_,rfl⟩:=h
    rename_i s _
    have hsz:s.data.toList.length≤L:=hw _ (by simp [DataW.weights])
    exact ⟨_,⟨_,by simpa using hsz,rfl⟩,.cons (.val _) .nil,by intro v hv;simp at hv;subst hv;rfl,by simp [bulks,AV.bulk,uptoBulk,Rows.uptoBulk]⟩
   | slice e =>
    simp only [Bool.and_eq_true,List.contains_iff_mem,Nat.blt_eq] at hc hc2
    obtain ⟨rfl,rfl⟩|⟨a,len,cap,elems,rest,n',hn,rfl,rfl,_,hlc,hcm,hel,hat,_⟩:=DataW.trod_slice hu hh
    ·exact ⟨[.seq (P.cellsOf e) []],⟨[],rfl,by simp,by simp⟩,.cons (.seq0 _ none 0 (fun _=>rfl)) .nil,by intro v hv;simp at hv;subst hv;rfl,by simp [bulks,AV.bulk,bulkss,uptoBulk,Rows.uptoBulk]⟩
    obtain rfl:n=n':=by omega
    have hlenL:len≤L:=by
     have h1:=hw ((elems.length+rest.length) * P.bytesOf e) (by simp [DataW.weights,hu])
     have h2:len * 1≤(elems.length+rest.length) * P.bytesOf e:=Nat.mul_le_mul by11 hc2
     omega
    have hrows:∀ i d,i<len→(elems.map (·.1))[i]?=some d→∃ ws es,w.cells? 0 (a.add (i * P.cellsOf e)) (P.cellsOf e)=some ws∧ShapeL P L n e es∧Rels (cellF w) es ws∧Ones ws∧bulks es≤uptoBulk d:=by
     intro i d hi hd
     have h1:=hat i hi
     rw [List.getElem?_eq_getElem by11] at h1
     obtain ⟨ws,h2,h3⟩:=Option.bind_eq_some_iff.1 h1
     have hdd:(elems[i]'by11).1=d:=by
      rw [List.getElem?_map,List.getElem?_eq_getElem by11] at hd
      simpa using hd
     obtain ⟨es,h4,h5,h6,h7⟩:=ih e ws _ hc.1 h3 (by
      intro k hk
      rw [hdd] at hk
      refine hw k ?_
      simp only [DataW.weights,hu,List.mem_cons,List.mem_append]
      exact .inr (.inl (weights_all hd k hk)))
     exact ⟨ws,es,h2,h4,h5,h6,by rw [hdd] at h7;exact h7⟩
    obtain ⟨ess,vs',r1,r2,r3,r4,r5,r6,r7⟩:=rows_of2 (elems.map (·.1)) len by8 hrows
    have hb:bulks [AV.seq (P.cellsOf e) ess]≤uptoBulk (DataW.slice (elems.map (·.1)) (rest.map (·.1))):=by
     rw [List.take_of_length_le by8] at r7
     simp only [bulks,AV.bulk,uptoBulk,uptoBulkAll,Rows.uptoBulk] at *
     omega
    refine ⟨[.seq (P.cellsOf e) ess],⟨ess,rfl,by omega,fun x hx=>(r2 x hx).1⟩,.cons ?_ .nil,by intro v hv;simp at hv;subst hv;rfl,hb⟩
    by_cases h0:len=0
    ·subst h0
     have:ess=[]:=List.eq_nil_of_length_eq_zero r1
     subst this
     exact .seq0 _ _ _ by12
    have hpos:0<vs'.length:=by rw [r5];exact Nat.mul_pos by11 hc.2
    have hsp:a.spot=none:=by
     have:=r6 0 vs'[0] (List.getElem?_eq_getElem hpos)
     have e0:a.add 0=a:=by simp [Addr.add]
     rw [e0] at this
     unfold World.cell? at this
     cases hs:a.spot with
     | none=>rfl
     | some q=>rw [hs] at this;simp at this;split at this <;> simp at this
    obtain ⟨b,off,spot⟩:=a
    simp only at hsp
    subst hsp
    subst r1
    refine .seq b off cap (fun x hx=>(r2 x hx).2) by11 (fun j x hx=>?_) r3 r4 by11
    have:=r6 j x hx
    rwa [addr_add0] at this
   | struct fs =>
    simp only at hc
    obtain ⟨xs,n',hn,rfl,hlen,hxl,hat⟩:=DataW.trod_struct hu hh
    obtain rfl:n=n':=by omega
    have key:∀ (l:List Field) (ys:List (DataW H × List MemPlace)) (k:Nat),ys.length=l.length→(∀ (i:Nat) (f:Field),l[i]?=some f→DataW.trod enc P w 0 sp held n f.type ((vs.drop f.offset).take (P.cellsOf f.type))=ys[i]?)→fsOk P S k l (P.cellsOf t)=true→(∀ j∈DataW.weightsEach P (l.map (·.type)) (ys.map (·.1)),j≤L) →
        ∃ cs,ShapeLF P L n l cs∧Rels (cellF w) cs (vs.drop k)∧Ones (vs.drop k)∧bulks cs≤uptoBulkAll (ys.map (·.1)):=by
     intro l
     induction l with
     | nil =>
      intro ys k _ _ hk _
      simp only [fsOk,beq_iff_eq] at hk
      refine ⟨[],by simp [ShapeLF],?_,?_,by simp [bulks]⟩
      ·rw [List.drop_eq_nil_of_le by11];exact .nil
      rw [List.drop_eq_nil_of_le by11];intro v hv;simp at hv
     | cons f l ihl =>
      intro ys k hyl hf hk hwt
      cases ys with
      | nil=>simp at hyl
      | cons y ys =>
       simp only [fsOk,Bool.and_eq_true,beq_iff_eq,List.contains_iff_mem] at hk
       obtain ⟨⟨rfl,hS1⟩,hk⟩:=hk
       have hy:=hf 0 f by12
       simp only [List.getElem?_cons_zero] at hy
       simp only [List.map_cons,DataW.weightsEach,List.mem_append] at hwt
       obtain ⟨c1,h1,h2,h3,h7⟩:=ih f.type _ y hS1 hy (fun j hj=>hwt j (.inl hj))
       obtain ⟨c2,h4,h5,h6,h8⟩:=ihl ys (f.offset+P.cellsOf f.type) (by simpa using hyl) (fun i g hg=>by have:=hf (i+1) g (by simpa using hg);simpa using this) hk (fun j hj=>hwt j (.inr hj))
       have e1:vs.drop f.offset=(vs.drop f.offset).take (P.cellsOf f.type)++vs.drop (f.offset+P.cellsOf f.type):=by
        rw [← List.drop_drop,List.take_append_drop]
       refine ⟨c1++c2,by rw [ShapeLF];exact ⟨c1,c2,V,h1,h4⟩,by rw [e1];exact h2.app h5,?_,?_⟩
       ·rw [e1]
        intro v hv
        rcases List.mem_append.1 hv with q|q
        ·exact h3 v q
        exact h6 v q
       rw [bulks_app]
       simp only [List.map_cons,uptoBulkAll,uptoBulk,Rows.uptoBulkAll] at *
       omega
    obtain ⟨cs,k1,k2,k3,k4⟩:=key fs.toList xs 0 (by simpa using hxl) (fun i f hf=>hat i f (by simpa using hf)) hc (by
     intro j hj
     refine hw j ?_
     simp only [DataW.weights,hu]
     exact hj)
    rw [List.drop_zero] at k2 k3
    exact ⟨cs,k1,k2,k3,by simp only [uptoBulk,uptoBulkAll,Rows.uptoBulk] at *;omega⟩
   | _=>simp at hc
theorem open_two {S:List TypeId} (hS:closedL P S=true) {ts:List TypeId} {ds:List (DataW H)} (hsz:(DataW.weightsEach P ts ds).all (·≤reachBytes)=true) (j:Nat) {t:TypeId} {v:Value} {d:DataW H} {ps:List MemPlace} (hj:ts[j]?=some t) (hd:ds[j]?=some d) (ht:t∈S) (h:DataW.Trod enc P w 0 sp held t v d ps) :
    ∃ fuel cs,ShapeL P reachBytes fuel t cs∧Rels (cellF w) cs v.cells.toList∧Ones v.cells.toList∧bulks cs≤uptoBulk d:=by
 obtain ⟨fuel,h⟩:=h
 obtain ⟨cs,h1,h2,h3,h4⟩:=open_shape2 hS (L:=reachBytes) by10 fuel t _ _ ht h (fun n hn=>by
  have:=List.all_eq_true.1 hsz n (DataW.weights_mem_each hj hd n hn)
  simpa using this)
 exact ⟨fuel,cs,h1,h2,h3,h4⟩
end
section
variable {P:Program} {L:Nat}
theorem Zx {fuel:Nat} {t:TypeId} {k:IntKind} {cs:List AV} (ht:P.underlying t=some (.int k)) (h:ShapeL P L fuel t cs):∃ x,(k.min≤x∧x≤k.max)∧cs=[.val (.int k x)]:=by
 cases fuel with
 | zero=>unfold ShapeL at h;exact h.elim
 | succ n=>unfold ShapeL at h;rw [ht] at h;exact h
theorem shapeL_str {fuel:Nat} {t:TypeId} {cs:List AV} (ht:P.underlying t=some .string) (h:ShapeL P L fuel t cs):∃ s:ByteArray,s.size≤L∧cs=[.val (.string s)]:=by
 cases fuel with
 | zero=>unfold ShapeL at h;exact h.elim
 | succ n=>unfold ShapeL at h;rw [ht] at h;exact h
theorem Yb {fuel:Nat} {t e:TypeId} {cs:List AV} (ht:P.underlying t=some (.slice e)) (h:ShapeL P L fuel t cs):∃ n es,n<fuel∧cs=[.seq (P.cellsOf e) es]∧es.length≤L∧∀ x∈es,ShapeL P L n e x:=by
 cases fuel with
 | zero=>unfold ShapeL at h;exact h.elim
 | succ n =>
  unfold ShapeL at h
  rw [ht] at h
  obtain ⟨es,h1,h3,h2⟩:=h
  exact ⟨n,es,by omega,h1,h3,h2⟩
theorem shapeL_struct {fuel:Nat} {t:TypeId} {fs:Array Field} {cs:List AV} (ht:P.underlying t=some (.struct fs)) (h:ShapeL P L fuel t cs):∃ n,n<fuel∧ShapeLF P L n fs.toList cs:=by
 cases fuel with
 | zero=>unfold ShapeL at h;exact h.elim
 | succ n=>unfold ShapeL at h;rw [ht] at h;exact ⟨n,by omega,h⟩
theorem pick_all2 {α:Type} {f:α→List AV} {p:α→Prop}:∀ {es:List (List AV)},(∀ x∈es,∃ a,x=f a∧p a)→∃ l:List α,es=l.map f∧∀ a∈l,p a
 | [],_=>⟨[],rfl,by simp⟩
 | e::es,h=>by
  obtain ⟨a,ha,hp⟩:=h e by12
  obtain ⟨l,hl,hq⟩:=pick_all2 (fun x hx=>h x (by simp [hx]):∀ x∈es,∃ a,x=f a∧p a)
  exact ⟨a::l,by rw [ha,hl];rfl,by simp;exact ⟨hp,hq⟩⟩
end
instance:DecidableEq ByteArray:=fun a b=>if h:a.toList=b.toList then isTrue (ba_eq h) else isFalse (fun e=>h (by rw [e]))
inductive Ty where
 | mk (k:Int) (s:ByteArray) (n:Int) (ks:List Ty)
def Ty.kind:Ty→Int|.mk k _ _ _=>k
def Ty.name:Ty→ByteArray|.mk _ s _ _=>s
def Ty.num:Ty→Int|.mk _ _ n _=>n
def Ty.kids:Ty→List Ty|.mk _ _ _ ks=>ks
mutual
def Ty.size:Ty→Nat
 | .mk _ _ _ ks=>1+Ty.sizes ks
def Ty.sizes:List Ty→Nat
 | []=>0
 | t::ts=>t.size+Ty.sizes ts
end
theorem Ty.size_pos (t:Ty):1≤t.size:=by cases t;simp [Ty.size]
theorem Ty.size_mem {t:Ty}:∀ {ts:List Ty},t∈ts→t.size≤Ty.sizes ts
 | [],h=>by simp at h
 | u::ts,h=>by
  rw [Ty.sizes]
  rcases List.mem_cons.1 h with rfl|h
  ·omega
  have:=Ty.size_mem h;omega
mutual
def Ty.cells:Ty→List AV
 | .mk k s n ks=>[.val (.int .i64 k),.val (.string s),.val (.int .i64 n),.seq 4 (Ty.cellss ks)]
def Ty.cellss:List Ty→List (List AV)
 | []=>[]
 | t::ts=>t.cells::Ty.cellss ts
end
theorem Ty.cellss_map:∀ ts:List Ty,Ty.cellss ts=ts.map Ty.cells
 | []=>by simp [Ty.cellss]
 | t::ts=>by simp [Ty.cellss,Ty.cellss_map ts]
theorem Ty.cellss_len (ts:List Ty):(Ty.cellss ts).length=ts.length:=by rw [Ty.cellss_map];simp
theorem Ty.cellss_get {ts:List Ty} {i:Nat} {t:Ty} (h:ts[i]?=some t):(Ty.cellss ts)[i]?=some t.cells:=by rw [Ty.cellss_map];simp [h]
theorem Ty.cellss_app (a b:List Ty):Ty.cellss (a++b)=Ty.cellss a++Ty.cellss b:=by simp [Ty.cellss_map]
theorem Ty.size_at {ts:List Ty} {i:Nat} {t:Ty} (h:ts[i]?=some t):t.size≤Ty.sizes ts:=Ty.size_mem (Yu h)
theorem Zh {α:Type} {l:List α} {i:Nat} (h:i<l.length):∃ x,l[i]?=some x:=⟨l[i],List.getElem?_eq_getElem h⟩
theorem drop_at {α:Type} {l:List α} {i:Nat} {x:α} (h:l[i]?=some x):l.drop i=x::l.drop (i+1):=by
 have hi:i<l.length:=by
  rcases Nat.lt_or_ge i l.length with k|k
  ·exact k
  rw [List.getElem?_eq_none k] at h;simp at h
 rw [List.drop_eq_getElem_cons hi]
 rw [List.getElem?_eq_getElem hi] at h
 simp at h
 rw [h]
mutual
def Ty.cnt:Ty→Int→Int
 | .mk k _ n ks,most=>if k=1∧(ks≠[]∨n≠0) then most else Ty.cnts ks 1 most
def Ty.cnts:List Ty→Int→Int→Int
 | [],n,_=>n
 | t::ts,n,most=>if n<most then Ty.cnts ts (n+t.cnt (most - n)) most else n
end
mutual
theorem Ty.cnt_bd:∀ (t:Ty) (m:Int),1≤m→1≤t.cnt m∧t.cnt m≤m
 | .mk k s n ks,m,h=>by
  rw [Ty.cnt]
  split
  ·omega
  exact Ty.cnts_bd ks 1 m by11 h
theorem Ty.cnts_bd:∀ (ts:List Ty) (n m:Int),1≤n→n≤m→1≤Ty.cnts ts n m∧Ty.cnts ts n m≤m
 | [],n,m,h,h'=>by rw [Ty.cnts];omega
 | t::ts,n,m,h,h'=>by
  rw [Ty.cnts]
  split
  ·have:=Ty.cnt_bd t (m - n) by11
   exact Ty.cnts_bd ts _ m by11 by11
  omega
end
inductive Ty.VarOk:Ty→Prop
 | mk (k:Int) (s:ByteArray) (n:Int) (ks:List Ty) (h:k=1→ks=[]∧n=0) (hk:∀ t∈ks,Ty.VarOk t):Ty.VarOk (.mk k s n ks)
mutual
theorem Ty.cnt_size:∀ (t:Ty) (m:Int),1≤m→t.cnt m<m→(t.size:Int)=t.cnt m∧t.VarOk
 | .mk k s n ks,m,h,hlt=>by
  rw [Ty.cnt] at hlt ⊢
  split at hlt
  ·omega
  rename_i hc
  rw [if_neg hc]
  obtain ⟨h1,h2⟩:=Ty.cnts_size ks 1 m by11 h hlt
  refine ⟨by rw [Ty.size];omega,.mk k s n ks (fun hk=>?_) h2⟩
  constructor
  ·cases ks with
   | nil=>rfl
   | cons t ts=>exact absurd ⟨hk,Or.inl by12⟩ hc
  by_cases hn:n=0
  ·exact hn
  exact absurd ⟨hk,Or.inr hn⟩ hc
theorem Ty.cnts_size:∀ (ts:List Ty) (n m:Int),1≤n→n≤m→Ty.cnts ts n m<m→n+(Ty.sizes ts:Int)=Ty.cnts ts n m∧∀ t∈ts,t.VarOk
 | [],n,m,h,h',hlt=>by rw [Ty.cnts,Ty.sizes];exact ⟨by simp,by simp⟩
 | t::ts,n,m,h,h',hlt=>by
  rw [Ty.cnts] at hlt ⊢
  split at hlt
  ·rename_i hc
   rw [if_pos hc]
   have hb:=Ty.cnt_bd t (m - n) by11
   obtain ⟨i1,i2⟩:=Ty.cnts_size ts (n+t.cnt (m - n)) m by11 by11 hlt
   have hlt2:t.cnt (m - n)<m - n:=by
    have:=Ty.cnts_ge ts (n+t.cnt (m - n)) m by11 by11
    omega
   obtain ⟨j1,j2⟩:=Ty.cnt_size t (m - n) by11 hlt2
   refine ⟨by rw [Ty.sizes];omega,fun u hu=>?_⟩
   rcases List.mem_cons.1 hu with rfl|hu
   ·exact j2
   exact i2 u hu
  omega
theorem Ty.cnts_ge:∀ (ts:List Ty) (n m:Int),1≤n→n≤m→n≤Ty.cnts ts n m
 | [],n,m,h,h'=>by rw [Ty.cnts];omega
 | t::ts,n,m,h,h'=>by
  rw [Ty.cnts]
  split
  ·have hb:=Ty.cnt_bd t (m - n) by11
   have:=Ty.cnts_ge ts (n+t.cnt (m - n)) m by11 by11
   omega
  omega
end
def Ty.small (t:Ty) (most:Int):Bool:=decide (t.cnt (most+1)≤most)
def strs (xs:List ByteArray):List (List AV):=xs.map fun s=>[.val (.string s)]
def nums (xs:List Int):List (List AV):=xs.map fun s=>[.val (.int .i64 s)]
theorem strs_len (xs:List ByteArray):(strs xs).length=xs.length:=by simp [strs]
theorem nums_len (xs:List Int):(nums xs).length=xs.length:=by simp [nums]
theorem strs_get {xs:List ByteArray} {i:Nat} {s:ByteArray} (h:xs[i]?=some s):(strs xs)[i]?=some [.val (.string s)]:=by simp [strs,h]
theorem nums_get {xs:List Int} {i:Nat} {s:Int} (h:xs[i]?=some s):(nums xs)[i]?=some [.val (.int .i64 s)]:=by simp [nums,h]
def Upto {α:Type} (xs ys:List α) (i:Nat):Prop:=∀ j,j<i→xs[j]?=ys[j]?
theorem Upto.zero {α:Type} (xs ys:List α):Upto xs ys 0:=fun j hj=>by omega
theorem Upto.succ {α:Type} {xs ys:List α} {i:Nat} {x y:α} (h:Upto xs ys i) (hx:xs[i]?=some x) (hy:ys[i]?=some y) (e:x=y):Upto xs ys (i+1):=fun j hj=>by
 by_cases q:j=i
 ·subst q;rw [hx,hy,e]
 exact h j by11
theorem Upto.eq {α:Type} {xs ys:List α} {i:Nat} (h:Upto xs ys i) (hl:xs.length=ys.length) (hi:xs.length≤i):xs=ys:=by
 apply List.ext_getElem?
 intro j
 rcases Nat.lt_or_ge j xs.length with k|k
 ·exact h j by11
 rw [List.getElem?_eq_none k,List.getElem?_eq_none by11]
end Go.Proofs.Ytbfogofpgcndfaa
namespace Go.Proofs.Ytbfogofpgcndfaa
abbrev arrow:ByteArray:=⟨#[45,62]⟩
def Ty.isFun (t:Ty):Prop:=t.kind=3∧t.name=arrow∧t.kids.length=2
def Ty.args:Ty→List Ty
 | .mk k s _ [a,b]=>if k=3∧s=arrow then a::b.args else []
 | _=>[]
termination_by t=>t.size
decreasing_by simp [Ty.size,Ty.sizes];omega
def Ty.ans:Ty→Ty
 | .mk k s n [a,b]=>if k=3∧s=arrow then b.ans else .mk k s n [a,b]
 | t=>t
termination_by t=>t.size
decreasing_by simp [Ty.size,Ty.sizes];omega
theorem Ty.fun_kids {t:Ty} (h:t.isFun):∃ n a b,t=.mk 3 arrow n [a,b]:=by
 obtain ⟨k,s,n,ks⟩:=t
 obtain ⟨h1,h2,h3⟩:=h
 simp only [Ty.kind,Ty.name,Ty.kids] at h1 h2 h3
 subst h1 h2
 match ks,h3 with
 | [a,b],_=>exact ⟨n,a,b,rfl⟩
theorem Ty.args_fun (n:Int) (a b:Ty):Ty.args (.mk 3 arrow n [a,b])=a::b.args:=by rw [Ty.args];simp
theorem Ty.ans_fun (n:Int) (a b:Ty):Ty.ans (.mk 3 arrow n [a,b])=b.ans:=by rw [Ty.ans];simp
theorem Ty.args_not {t:Ty} (h:¬ t.isFun):t.args=[]:=by
 rw [Ty.args.eq_def]
 split
 ·rw [if_neg]
  rintro ⟨rfl,rfl⟩
  exact h ⟨V,V,V⟩
 rfl
theorem Ty.ans_not {t:Ty} (h:¬ t.isFun):t.ans=t:=by
 rw [Ty.ans.eq_def]
 split
 ·rw [if_neg]
  rintro ⟨rfl,rfl⟩
  exact h ⟨V,V,V⟩
 rfl
theorem Ty.args_size:∀ (t:Ty),t.args.length≤t.size:=by
 intro t
 generalize hd:t.size=d
 induction d using Nat.strongRecOn generalizing t with
 | _ d ih =>
  by_cases h:t.isFun
  ·obtain ⟨n,a,b,rfl⟩:=Ty.fun_kids h
   rw [Ty.args_fun]
   have hb:b.size<d:=by rw [← hd];simp [Ty.size,Ty.sizes];omega
   have:=ih b.size hb b rfl
   simp
   omega
  rw [Ty.args_not h];simp
mutual
def Ty.all:Ty→List Ty
 | .mk k s n ks=>.mk k s n ks::Ty.alls ks
def Ty.alls:List Ty→List Ty
 | []=>[]
 | t::ts=>t.all++Ty.alls ts
end
theorem Ty.alls_app:∀ a b:List Ty,Ty.alls (a++b)=Ty.alls a++Ty.alls b
 | [],b=>by simp [Ty.alls]
 | t::ts,b=>by simp [Ty.alls,Ty.alls_app ts b]
mutual
theorem Ty.all_len:∀ t:Ty,t.all.length=t.size
 | .mk k s n ks=>by rw [Ty.all,Ty.size,List.length_cons,Ty.alls_len ks];omega
theorem Ty.alls_len:∀ ts:List Ty,(Ty.alls ts).length=Ty.sizes ts
 | []=>by simp [Ty.alls,Ty.sizes]
 | t::ts=>by rw [Ty.alls,Ty.sizes,List.length_append,Ty.all_len t,Ty.alls_len ts]
end
theorem Ty.alls_take (ks:List Ty) {i:Nat} {x:Ty} (h:ks[i]?=some x):Ty.alls (ks.take (i+1))=Ty.alls (ks.take i)++x.all:=by
 have hi:i<ks.length:=by
  rcases Nat.lt_or_ge i ks.length with k|k
  ·exact k
  rw [List.getElem?_eq_none k] at h;simp at h
 rw [List.getElem?_eq_getElem hi] at h
 simp at h
 rw [List.take_succ_eq_append_getElem hi,Ty.alls_app,h]
 simp [Ty.alls]
theorem Ty.sizes_app:∀ a b:List Ty,Ty.sizes (a++b)=Ty.sizes a+Ty.sizes b
 | [],b=>by simp [Ty.sizes]
 | t::ts,b=>by simp [Ty.sizes,Ty.sizes_app ts b];omega
theorem Ty.sizes_take (ks:List Ty) (i:Nat):Ty.sizes (ks.take i)≤Ty.sizes ks:=by
 have:=Ty.sizes_app (ks.take i) (ks.drop i)
 rw [List.take_append_drop] at this
 omega
theorem take_snoc {α:Type} {l:List α} {i:Nat} {x:α} (h:l[i]?=some x):l.take (i+1)=l.take i++[x]:=by
 have hi:i<l.length:=by
  rcases Nat.lt_or_ge i l.length with k|k
  ·exact k
  rw [List.getElem?_eq_none k] at h;simp at h
 rw [List.getElem?_eq_getElem hi] at h
 simp at h
 rw [List.take_succ_eq_append_getElem hi,h]
noncomputable instance (a:ByteArray) (l:List ByteArray):Decidable (a∈l):=Classical.propDecidable _
noncomputable def addVar (acc:List ByteArray) (t:Ty):List ByteArray:=if t.kind=1∧t.name∉acc then acc++[t.name] else acc
def addMeta (acc:List Int) (t:Ty):List Int:=if t.kind=2∧t.num∉acc then acc++[t.num] else acc
noncomputable def Ty.vars (t:Ty):List ByteArray:=t.all.foldl addVar []
def Ty.metas (t:Ty):List Int:=t.all.foldl addMeta []
theorem addVar_yes {acc:List ByteArray} {k:Int} {s:ByteArray} {n:Int} {ks:List Ty} (h:k=1∧s∉acc):addVar acc (.mk k s n ks)=acc++[s]:=if_pos h
theorem addVar_no {acc:List ByteArray} {k:Int} {s:ByteArray} {n:Int} {ks:List Ty} (h:¬ (k=1∧s∉acc)):addVar acc (.mk k s n ks)=acc:=if_neg h
theorem strs_snoc (acc:List ByteArray) (s:ByteArray):strs acc++[[.val (.string s)]]=strs (acc++[s]):=by simp [strs]
theorem addVar_len (acc:List ByteArray) (t:Ty):(addVar acc t).length≤acc.length+1:=by unfold addVar;split <;> simp
mutual
def Ty.turn (o:Ty→Option Ty):Ty→Ty
 | .mk k s n ks=>match o (.mk k s n ks) with
  | some y=>y
  | none=>.mk k s n (Ty.turns o ks)
def Ty.turns (o:Ty→Option Ty):List Ty→List Ty
 | []=>[]
 | t::ts=>t.turn o::Ty.turns o ts
end
def firstAt {α:Type} [DecidableEq α] (x:α):List α→Nat→Int
 | [],_ => -1
 | y::ys,i=>if x=y then i else firstAt x ys (i+1)
theorem firstAt_drop {α:Type} [DecidableEq α] (x:α):∀ (xs:List α) (i:Nat),x∉xs.take i→firstAt x (xs.drop i) i=firstAt x xs 0:=by
 have key:∀ (xs:List α) (i k:Nat),x∉xs.take i→firstAt x xs k=firstAt x (xs.drop i) (k+i):=by
  intro xs
  induction xs with
  | nil=>intro i k _;simp [firstAt]
  | cons y ys ih =>
   intro i k h
   cases i with
   | zero=>simp
   | succ i =>
    simp only [List.take_succ_cons,List.mem_cons,not_or] at h
    rw [firstAt,if_neg h.1,List.drop_succ_cons,ih i (k+1) h.2]
    congr 1;omega
 intro xs i h
 have:=key xs i 0 h
 rw [this];congr 1;omega
theorem firstAt_nonneg {α:Type} [DecidableEq α] (x:α):∀ (xs:List α) (k:Nat),0≤firstAt x xs k↔x∈xs
 | [],k=>by simp [firstAt]
 | y::ys,k=>by
  rw [firstAt]
  by_cases e:x=y
  ·simp [e]
  rw [if_neg e,firstAt_nonneg x ys (k+1)];simp [e]
theorem not_mem_take {α:Type} {xs:List α} {i:Nat} {x y:α} (h:x∉xs.take i) (hx:xs[i]?=some y) (e:¬ y=x):x∉xs.take (i+1):=by
 rw [take_snoc hx,List.mem_append]
 rintro (q|q)
 ·exact h q
 simp at q;exact e q.symm
open Go.RowKit
inductive Pa where
 | mk (k:Int) (s:ByteArray) (n:Int) (ks:List Pa) (p:Int)
mutual
inductive Ex where
 | mk (k:Int) (s:ByteArray) (n:Int) (t:Ty) (ks:List Ex) (al:List Al) (bs:List Bi) (p:Int)
inductive Al where
 | mk (q:Pa) (e:Ex)
inductive Bi where
 | mk (s:ByteArray) (e:Ex) (p:Int)
end
mutual
def Pa.cells:Pa→List AV
 | .mk k s n ks p=>[.val (.int .i64 k),.val (.string s),.val (.int .i64 n),.seq 5 (Pa.cellss ks),.val (.int .i64 p)]
def Pa.cellss:List Pa→List (List AV)
 | []=>[]
 | t::ts=>t.cells::Pa.cellss ts
end
mutual
def Ex.cells:Ex→List AV
 | .mk k s n t ks al bs p=>.val (.int .i64 k)::.val (.string s)::.val (.int .i64 n)::(t.cells++[.seq 11 (Ex.cellss ks),.seq 16 (Al.cellss al),.seq 13 (Bi.cellss bs),.val (.int .i64 p)])
def Ex.cellss:List Ex→List (List AV)
 | []=>[]
 | t::ts=>t.cells::Ex.cellss ts
def Al.cells:Al→List AV
 | .mk q e=>q.cells++e.cells
def Al.cellss:List Al→List (List AV)
 | []=>[]
 | t::ts=>t.cells::Al.cellss ts
def Bi.cells:Bi→List AV
 | .mk s e p=>.val (.string s)::(e.cells++[.val (.int .i64 p)])
def Bi.cellss:List Bi→List (List AV)
 | []=>[]
 | t::ts=>t.cells::Bi.cellss ts
end
theorem Pa.cellss_map:∀ ts:List Pa,Pa.cellss ts=ts.map Pa.cells
 | []=>by simp [Pa.cellss]
 | t::ts=>by simp [Pa.cellss,Pa.cellss_map ts]
theorem Ex.cellss_map:∀ ts:List Ex,Ex.cellss ts=ts.map Ex.cells
 | []=>by simp [Ex.cellss]
 | t::ts=>by simp [Ex.cellss,Ex.cellss_map ts]
theorem Al.cellss_map:∀ ts:List Al,Al.cellss ts=ts.map Al.cells
 | []=>by simp [Al.cellss]
 | t::ts=>by simp [Al.cellss,Al.cellss_map ts]
theorem Bi.cellss_map:∀ ts:List Bi,Bi.cellss ts=ts.map Bi.cells
 | []=>by simp [Bi.cellss]
 | t::ts=>by simp [Bi.cellss,Bi.cellss_map ts]
theorem Pa.cellss_len (ts:List Pa):(Pa.cellss ts).length=ts.length:=by rw [Pa.cellss_map];simp
theorem Ex.cellss_len (ts:List Ex):(Ex.cellss ts).length=ts.length:=by rw [Ex.cellss_map];simp
theorem Al.cellss_len (ts:List Al):(Al.cellss ts).length=ts.length:=by rw [Al.cellss_map];simp
theorem Bi.cellss_len (ts:List Bi):(Bi.cellss ts).length=ts.length:=by rw [Bi.cellss_map];simp
theorem Pa.cellss_get {ts:List Pa} {i:Nat} {t:Pa} (h:ts[i]?=some t):(Pa.cellss ts)[i]?=some t.cells:=by rw [Pa.cellss_map];simp [h]
theorem Ex.cellss_get {ts:List Ex} {i:Nat} {t:Ex} (h:ts[i]?=some t):(Ex.cellss ts)[i]?=some t.cells:=by rw [Ex.cellss_map];simp [h]
theorem Al.cellss_get {ts:List Al} {i:Nat} {t:Al} (h:ts[i]?=some t):(Al.cellss ts)[i]?=some t.cells:=by rw [Al.cellss_map];simp [h]
theorem Bi.cellss_get {ts:List Bi} {i:Nat} {t:Bi} (h:ts[i]?=some t):(Bi.cellss ts)[i]?=some t.cells:=by rw [Bi.cellss_map];simp [h]
def Al.e:Al→Ex|.mk _ e=>e
def Al.q:Al→Pa|.mk q _=>q
def Bi.e:Bi→Ex|.mk _ e _=>e
def Bi.s:Bi→ByteArray|.mk s _ _=>s
mutual
def Pa.bare:Pa→Pa
 | .mk k s n ks _=>.mk k s n (Pa.bares ks) 0
def Pa.bares:List Pa→List Pa
 | []=>[]
 | t::ts=>t.bare::Pa.bares ts
end
mutual
def Ex.bare:Ex→Ex
 | .mk k s n t ks al bs _=>.mk k s n t (Ex.bares ks) (Al.bares al) (Bi.bares bs) 0
def Ex.bares:List Ex→List Ex
 | []=>[]
 | t::ts=>t.bare::Ex.bares ts
def Al.bare:Al→Al
 | .mk q e=>.mk q.bare e.bare
def Al.bares:List Al→List Al
 | []=>[]
 | t::ts=>t.bare::Al.bares ts
def Bi.bare:Bi→Bi
 | .mk s e _=>.mk s e.bare 0
def Bi.bares:List Bi→List Bi
 | []=>[]
 | t::ts=>t.bare::Bi.bares ts
end
theorem Pa.lt_kid {x:Pa} {k n p:Int} {s:ByteArray} {ks:List Pa} (h:x∈ks):SizeOf.sizeOf x<SizeOf.sizeOf (Pa.mk k s n ks p):=by
 have:=List.sizeOf_lt_of_mem h
 simp;omega
section
variable {x:Ex} {a:Al} {b:Bi} {k n p:Int} {s:ByteArray} {t:Ty} {ks:List Ex} {al:List Al} {bs:List Bi}
theorem Ex.lt_kid (h:x∈ks):SizeOf.sizeOf x<SizeOf.sizeOf (Ex.mk k s n t ks al bs p):=by
 have:=List.sizeOf_lt_of_mem h
 simp;omega
theorem Ex.lt_alt (h:a∈al):SizeOf.sizeOf a<SizeOf.sizeOf (Ex.mk k s n t ks al bs p):=by
 have:=List.sizeOf_lt_of_mem h
 simp;omega
theorem Ex.lt_bind (h:b∈bs):SizeOf.sizeOf b<SizeOf.sizeOf (Ex.mk k s n t ks al bs p):=by
 have:=List.sizeOf_lt_of_mem h
 simp;omega
theorem Al.lt_e (a:Al):SizeOf.sizeOf a.e<SizeOf.sizeOf a:=by cases a;simp [Al.e];omega
theorem Bi.lt_e (a:Bi):SizeOf.sizeOf a.e<SizeOf.sizeOf a:=by cases a;simp [Bi.e];omega
end
def Ex.parts:Ex→List Ex
 | .mk k _ _ _ ks al bs _=>(if k=7 then [] else ks)++bs.map Bi.e++(if k=7 then ks else [])++al.map Al.e
theorem Ex.lt_part {e x:Ex} (h:x∈e.parts):SizeOf.sizeOf x<SizeOf.sizeOf e:=by
 obtain ⟨k,s,n,t,ks,al,bs,p⟩:=e
 simp only [Ex.parts,List.mem_append,List.mem_map] at h
 rcases h with ((h|⟨b,hb,rfl⟩)|h)|⟨a,ha,rfl⟩
 ·split at h
  ·simp at h
  exact Ex.lt_kid h
 ·exact Nat.lt_trans (Bi.lt_e b) (Ex.lt_bind hb)
 ·split at h
  ·exact Ex.lt_kid h
  simp at h
 exact Nat.lt_trans (Al.lt_e a) (Ex.lt_alt ha)
def Ex.sz (e:Ex):Nat:=1+(e.parts.attach.map fun x=>Ex.sz x.1).sum
termination_by SizeOf.sizeOf e
decreasing_by exact Ex.lt_part x.2
def maxOf:List Nat→Nat
 | []=>0
 | x::xs=>max x (maxOf xs)
def Ex.dp (e:Ex):Nat:=1+maxOf (e.parts.attach.map fun x=>Ex.dp x.1)
termination_by SizeOf.sizeOf e
decreasing_by exact Ex.lt_part x.2
theorem sum_take {l:List Nat} {i x:Nat} (h:l[i]?=some x):(l.take (i+1)).sum=(l.take i).sum+x:=by
 rw [List.take_add_one,h];simp
theorem sum_take_le (l:List Nat) (i:Nat):(l.take i).sum≤l.sum:=by
 have:=congrArg List.sum (List.take_append_drop i l)
 rw [List.sum_append] at this;omega
abbrev Txt:=ByteArray
mutual
def Pa.names:Pa→List Txt
 | .mk k s _ ks _=>(if k=2 then [s] else [])++Pa.namess ks
def Pa.namess:List Pa→List Txt
 | []=>[]
 | t::ts=>t.names++Pa.namess ts
end
mutual
def Pa.size:Pa→Nat
 | .mk _ _ _ ks _=>1+Pa.sizes ks
def Pa.sizes:List Pa→Nat
 | []=>0
 | t::ts=>t.size+Pa.sizes ts
end
theorem Pa.sizes_map:∀ ts:List Pa,Pa.sizes ts=(ts.map Pa.size).sum
 | []=>by simp [Pa.sizes]
 | t::ts=>by simp [Pa.sizes,Pa.sizes_map ts]
theorem Pa.sizes_take {ts:List Pa} {i:Nat} {x:Pa} (h:ts[i]?=some x):Pa.sizes (ts.take i)+x.size≤Pa.sizes ts:=by
 have h1:(ts.map Pa.size)[i]?=some x.size:=by simp [h]
 have h2:=sum_take h1
 have h3:=sum_take_le (ts.map Pa.size) (i+1)
 rw [Pa.sizes_map,Pa.sizes_map,List.map_take];omega
mutual
def Ex.w:Ex→Nat
 | .mk _ _ _ _ ks al bs _=>1+Ex.ws ks+Al.ws al+Bi.ws bs
def Ex.ws:List Ex→Nat
 | []=>0
 | t::ts=>t.w+Ex.ws ts
def Al.w:Al→Nat
 | .mk q e=>q.size+e.w
def Al.ws:List Al→Nat
 | []=>0
 | t::ts=>t.w+Al.ws ts
def Bi.w:Bi→Nat
 | .mk _ e _=>1+e.w
def Bi.ws:List Bi→Nat
 | []=>0
 | t::ts=>t.w+Bi.ws ts
end
abbrev Bi.names (bs:List Bi):List Txt:=bs.map Bi.s
mutual
noncomputable def Ex.fr:Ex→List Txt→List Txt→List Txt
 | .mk k s n _ ks al bs _,bd,out =>
  Al.frs al bd (if k=7 then (if n=1 then Ex.frs ks (bd++Bi.names bs) (Bi.frs bs (bd++Bi.names bs) (if k=3∧s∉bd∧s∉out then out++[s] else out)) else Ex.frs ks (bd++Bi.names bs) (Bi.frs bs bd (if k=3∧s∉bd∧s∉out then out++[s] else out)))
   else if k=6 then Bi.frs bs bd (Ex.frs ks (bd++[s]) (if k=3∧s∉bd∧s∉out then out++[s] else out))
   else Bi.frs bs bd (Ex.frs ks bd (if k=3∧s∉bd∧s∉out then out++[s] else out)))
noncomputable def Ex.frs:List Ex→List Txt→List Txt→List Txt
 | [],_,out=>out
 | t::ts,bd,out=>Ex.frs ts bd (t.fr bd out)
noncomputable def Al.fr:Al→List Txt→List Txt→List Txt
 | .mk q e,bd,out=>e.fr (bd++q.names) out
noncomputable def Al.frs:List Al→List Txt→List Txt→List Txt
 | [],_,out=>out
 | t::ts,bd,out=>Al.frs ts bd (t.fr bd out)
noncomputable def Bi.fr:Bi→List Txt→List Txt→List Txt
 | .mk _ e _,bd,out=>e.fr bd out
noncomputable def Bi.frs:List Bi→List Txt→List Txt→List Txt
 | [],_,out=>out
 | t::ts,bd,out=>Bi.frs ts bd (t.fr bd out)
end
def Ty.kn:Ty→Nat|.mk _ _ _ ks=>ks.length
def Pa.kn:Pa→Nat|.mk _ _ _ ks _=>ks.length
mutual
def Ex.full:Ex→Nat
 | .mk _ _ _ t ks al bs _=>1+t.kn+Ex.fulls ks+Bi.fulls bs+Al.fulls al
def Ex.fulls:List Ex→Nat
 | []=>0
 | x::xs=>x.full+Ex.fulls xs
def Bi.full:Bi→Nat
 | .mk _ e _=>1+e.full
def Bi.fulls:List Bi→Nat
 | []=>0
 | x::xs=>x.full+Bi.fulls xs
def Al.full:Al→Nat
 | .mk q e=>1+e.full+q.kn
def Al.fulls:List Al→Nat
 | []=>0
 | x::xs=>x.full+Al.fulls xs
end
mutual
def Ex.Lim:Ex→Prop
 | .mk _ _ _ t ks al bs _=>t.kn≤140737488355328∧Ex.Lims ks∧Bi.Lims bs∧Al.Lims al
def Ex.Lims:List Ex→Prop
 | []=>True
 | x::xs=>x.Lim∧Ex.Lims xs
def Bi.Lim:Bi→Prop
 | .mk _ e _=>e.Lim
def Bi.Lims:List Bi→Prop
 | []=>True
 | x::xs=>x.Lim∧Bi.Lims xs
def Al.Lim:Al→Prop
 | .mk q e=>e.Lim∧q.kn≤140737488355328
def Al.Lims:List Al→Prop
 | []=>True
 | x::xs=>x.Lim∧Al.Lims xs
end
theorem Ex.lims_iff:∀ l:List Ex,Ex.Lims l↔∀ x∈l,x.Lim
 | []=>by simp [Ex.Lims]
 | x::l=>by simp [Ex.Lims,Ex.lims_iff l]
theorem Bi.lims_iff:∀ l:List Bi,Bi.Lims l↔∀ x∈l,x.Lim
 | []=>by simp [Bi.Lims]
 | x::l=>by simp [Bi.Lims,Bi.lims_iff l]
theorem Al.lims_iff:∀ l:List Al,Al.Lims l↔∀ x∈l,x.Lim
 | []=>by simp [Al.Lims]
 | x::l=>by simp [Al.Lims,Al.lims_iff l]
mutual
def Ex.cnt:Ex→Int→Int
 | .mk _ _ _ t ks al bs _,m=>Al.cnts al m (Bi.cnts bs m (Ex.cnts ks m (1+t.kn)))
def Ex.cnts:List Ex→Int→Int→Int
 | [],_,n=>n
 | x::xs,m,n=>if n<m then Ex.cnts xs m (n+x.cnt (m - n)) else n
def Bi.cnt:Bi→Int→Int
 | .mk _ e _,m=>1+e.cnt m
def Bi.cnts:List Bi→Int→Int→Int
 | [],_,n=>n
 | x::xs,m,n=>if n<m then Bi.cnts xs m (n+x.cnt (m - n)) else n
def Al.cnt:Al→Int→Int
 | .mk q e,m=>1+e.cnt m+q.kn
def Al.cnts:List Al→Int→Int→Int
 | [],_,n=>n
 | x::xs,m,n=>if n<m then Al.cnts xs m (n+x.cnt (m - n)) else n
end
theorem Ye {α:Type} {l:List α} {i:Nat} {x:α} (h:l[i]?=some x):l.drop i=x::l.drop (i+1):=by
 obtain ⟨hi,rfl⟩:=List.getElem?_eq_some_iff.1 h
 exact List.drop_eq_getElem_cons hi
mutual
theorem Ex.cnt_b:∀ (e:Ex) (m:Int),e.Lim→1≤m→m≤2000→1≤e.cnt m∧e.cnt m≤562949953421312 * m∧e.cnt m≤e.full∧(e.cnt m<m→e.cnt m=e.full)
 | .mk k s n t ks al bs p,m=>by
  intro hl h1 h2
  rw [Ex.Lim] at hl
  obtain ⟨l1,l2,l3,l4⟩:=hl
  rw [Ex.cnt,Ex.full]
  obtain ⟨a1,a2,a3,a4⟩:=Ex.cnts_b ks m (1+t.kn) l2 h1 h2 by11 by11
  generalize Ex.cnts ks m (1+t.kn)=n1 at *
  obtain ⟨b1,b2,b3,b4⟩:=Bi.cnts_b bs m n1 l3 h1 h2 by11 by11
  generalize Bi.cnts bs m n1=n2 at *
  obtain ⟨c1,c2,c3,c4⟩:=Al.cnts_b al m n2 l4 h1 h2 by11 by11
  generalize Al.cnts al m n2=n3 at *
  omega
theorem Ex.cnts_b:∀ (l:List Ex) (m n:Int),Ex.Lims l→1≤m→m≤2000→1≤n→n≤562949953421312 * m→n≤Ex.cnts l m n∧Ex.cnts l m n≤562949953421312 * m∧Ex.cnts l m n≤n+Ex.fulls l∧(Ex.cnts l m n<m→Ex.cnts l m n=n+Ex.fulls l)
 | [],m,n=>by intro _ _ _ _ _;simp only [Ex.cnts,Ex.fulls];omega
 | x::xs,m,n=>by
  intro hl h1 h2 h3 h4
  rw [Ex.Lims] at hl
  rw [Ex.cnts,Ex.fulls]
  split
  ·rename_i h
   obtain ⟨a1,a2,a3,a4⟩:=Ex.cnt_b x (m - n) hl.1 by11 by11
   generalize x.cnt (m - n)=c at *
   obtain ⟨b1,b2,b3,b4⟩:=Ex.cnts_b xs m (n+c) hl.2 h1 h2 by11 by11
   generalize Ex.cnts xs m (n+c)=r at *
   omega
  omega
theorem Bi.cnt_b:∀ (e:Bi) (m:Int),e.Lim→1≤m→m≤2000→2≤e.cnt m∧e.cnt m≤1+562949953421312 * m∧e.cnt m≤e.full∧(e.cnt m<m→e.cnt m=e.full)
 | .mk s e p,m=>by
  intro hl h1 h2
  rw [Bi.Lim] at hl
  rw [Bi.cnt,Bi.full]
  have:=Ex.cnt_b e m hl h1 h2
  omega
theorem Bi.cnts_b:∀ (l:List Bi) (m n:Int),Bi.Lims l→1≤m→m≤2000→1≤n→n≤562949953421312 * m→n≤Bi.cnts l m n∧Bi.cnts l m n≤562949953421312 * m∧Bi.cnts l m n≤n+Bi.fulls l∧(Bi.cnts l m n<m→Bi.cnts l m n=n+Bi.fulls l)
 | [],m,n=>by intro _ _ _ _ _;simp only [Bi.cnts,Bi.fulls];omega
 | x::xs,m,n=>by
  intro hl h1 h2 h3 h4
  rw [Bi.Lims] at hl
  rw [Bi.cnts,Bi.fulls]
  split
  ·rename_i h
   obtain ⟨a1,a2,a3,a4⟩:=Bi.cnt_b x (m - n) hl.1 by11 by11
   generalize x.cnt (m - n)=c at *
   obtain ⟨b1,b2,b3,b4⟩:=Bi.cnts_b xs m (n+c) hl.2 h1 h2 by11 by11
   generalize Bi.cnts xs m (n+c)=r at *
   omega
  omega
theorem Al.cnt_b:∀ (e:Al) (m:Int),e.Lim→1≤m→m≤2000→2≤e.cnt m∧e.cnt m≤1+562949953421312 * m+140737488355328∧e.cnt m≤e.full∧(e.cnt m<m→e.cnt m=e.full)
 | .mk q e,m=>by
  intro hl h1 h2
  rw [Al.Lim] at hl
  rw [Al.cnt,Al.full]
  have:=Ex.cnt_b e m hl.1 h1 h2
  omega
theorem Al.cnts_b:∀ (l:List Al) (m n:Int),Al.Lims l→1≤m→m≤2000→1≤n→n≤562949953421312 * m→n≤Al.cnts l m n∧Al.cnts l m n≤562949953421312 * m∧Al.cnts l m n≤n+Al.fulls l∧(Al.cnts l m n<m→Al.cnts l m n=n+Al.fulls l)
 | [],m,n=>by intro _ _ _ _ _;simp only [Al.cnts,Al.fulls];omega
 | x::xs,m,n=>by
  intro hl h1 h2 h3 h4
  rw [Al.Lims] at hl
  rw [Al.cnts,Al.fulls]
  split
  ·rename_i h
   obtain ⟨a1,a2,a3,a4⟩:=Al.cnt_b x (m - n) hl.1 by11 by11
   generalize x.cnt (m - n)=c at *
   obtain ⟨b1,b2,b3,b4⟩:=Al.cnts_b xs m (n+c) hl.2 h1 h2 by11 by11
   generalize Al.cnts xs m (n+c)=r at *
   omega
  omega
end
theorem Ex.cellss_app (a b:List Ex):Ex.cellss (a++b)=Ex.cellss a++Ex.cellss b:=by simp [Ex.cellss_map]
def I64 (x:Int):Prop := -9223372036854775808≤x∧x≤9223372036854775807
theorem I64.of {x:Int} (h:IntKind.i64.min≤x∧x≤IntKind.i64.max):I64 x:=by
 have h1:IntKind.i64.min = -9223372036854775808:=by decide
 have h2:IntKind.i64.max=9223372036854775807:=by decide
 rw [h1,h2] at h;exact h
def Ty.Lim (t:Ty):Prop:=t.kn≤140737488355328
inductive Pr where
 | mk (c:ByteArray) (t:Ty)
def Pr.cells:Pr→List AV
 | .mk c t=>.val (.string c)::t.cells
def Pr.c:Pr→ByteArray|.mk c _=>c
def Pr.t:Pr→Ty|.mk _ t=>t
def Pr.cellss (l:List Pr):List (List AV):=l.map Pr.cells
theorem Pr.cellss_map (l:List Pr):Pr.cellss l=l.map Pr.cells:=rfl
theorem Pr.cellss_len (l:List Pr):(Pr.cellss l).length=l.length:=by simp [Pr.cellss]
theorem Pr.cellss_get {l:List Pr} {i:Nat} {x:Pr} (h:l[i]?=some x):(Pr.cellss l)[i]?=some x.cells:=by simp [Pr.cellss,h]
def Pr.cellsss (l:List (List Pr)):List (List AV):=l.map fun x=>[.seq 5 (Pr.cellss x)]
theorem Pr.cellsss_len (l:List (List Pr)):(Pr.cellsss l).length=l.length:=by simp [Pr.cellsss]
theorem Pr.cellsss_get {l:List (List Pr)} {i:Nat} {x:List Pr} (h:l[i]?=some x):(Pr.cellsss l)[i]?=some [.seq 5 (Pr.cellss x)]:=by simp [Pr.cellsss,h]
def Pr.Lim:Pr→Prop
 | .mk _ t=>(t.Lim)
inductive Cn where
 | mk (s:ByteArray) (ts:List Ty) (p:Int)
def Cn.cells:Cn→List AV
 | .mk s ts p=>.val (.string s)::.seq 4 (Ty.cellss ts)::[.val (.int .i64 p)]
def Cn.s:Cn→ByteArray|.mk s _ _=>s
def Cn.ts:Cn→List Ty|.mk _ ts _=>ts
def Cn.p:Cn→Int|.mk _ _ p=>p
def Cn.cellss (l:List Cn):List (List AV):=l.map Cn.cells
theorem Cn.cellss_map (l:List Cn):Cn.cellss l=l.map Cn.cells:=rfl
theorem Cn.cellss_len (l:List Cn):(Cn.cellss l).length=l.length:=by simp [Cn.cellss]
theorem Cn.cellss_get {l:List Cn} {i:Nat} {x:Cn} (h:l[i]?=some x):(Cn.cellss l)[i]?=some x.cells:=by simp [Cn.cellss,h]
def Cn.cellsss (l:List (List Cn)):List (List AV):=l.map fun x=>[.seq 3 (Cn.cellss x)]
theorem Cn.cellsss_len (l:List (List Cn)):(Cn.cellsss l).length=l.length:=by simp [Cn.cellsss]
theorem Cn.cellsss_get {l:List (List Cn)} {i:Nat} {x:List Cn} (h:l[i]?=some x):(Cn.cellsss l)[i]?=some [.seq 3 (Cn.cellss x)]:=by simp [Cn.cellsss,h]
def Cn.Lim:Cn→Prop
 | .mk _ ts _=>(ts.length≤140737488355328∧∀ x∈ts,x.Lim)
inductive Da where
 | mk (s:ByteArray) (ps:List ByteArray) (cs:List Cn) (dv:List ByteArray) (p:Int)
def Da.cells:Da→List AV
 | .mk s ps cs dv p=>.val (.string s)::.seq 1 (strs ps)::.seq 3 (Cn.cellss cs)::.seq 1 (strs dv)::[.val (.int .i64 p)]
def Da.s:Da→ByteArray|.mk s _ _ _ _=>s
def Da.ps:Da→List ByteArray|.mk _ ps _ _ _=>ps
def Da.cs:Da→List Cn|.mk _ _ cs _ _=>cs
def Da.dv:Da→List ByteArray|.mk _ _ _ dv _=>dv
def Da.p:Da→Int|.mk _ _ _ _ p=>p
def Da.cellss (l:List Da):List (List AV):=l.map Da.cells
theorem Da.cellss_map (l:List Da):Da.cellss l=l.map Da.cells:=rfl
theorem Da.cellss_len (l:List Da):(Da.cellss l).length=l.length:=by simp [Da.cellss]
theorem Da.cellss_get {l:List Da} {i:Nat} {x:Da} (h:l[i]?=some x):(Da.cellss l)[i]?=some x.cells:=by simp [Da.cellss,h]
def Da.cellsss (l:List (List Da)):List (List AV):=l.map fun x=>[.seq 5 (Da.cellss x)]
theorem Da.cellsss_len (l:List (List Da)):(Da.cellsss l).length=l.length:=by simp [Da.cellsss]
theorem Da.cellsss_get {l:List (List Da)} {i:Nat} {x:List Da} (h:l[i]?=some x):(Da.cellsss l)[i]?=some [.seq 5 (Da.cellss x)]:=by simp [Da.cellsss,h]
def Da.Lim:Da→Prop
 | .mk _ ps cs dv _=>(ps.length≤140737488355328)∧(cs.length≤140737488355328∧∀ x∈cs,x.Lim)∧(dv.length≤140737488355328)
inductive Me where
 | mk (s:ByteArray) (t:Ty) (p:Int)
def Me.cells:Me→List AV
 | .mk s t p=>.val (.string s)::t.cells++([.val (.int .i64 p)])
def Me.s:Me→ByteArray|.mk s _ _=>s
def Me.t:Me→Ty|.mk _ t _=>t
def Me.p:Me→Int|.mk _ _ p=>p
def Me.cellss (l:List Me):List (List AV):=l.map Me.cells
theorem Me.cellss_map (l:List Me):Me.cellss l=l.map Me.cells:=rfl
theorem Me.cellss_len (l:List Me):(Me.cellss l).length=l.length:=by simp [Me.cellss]
theorem Me.cellss_get {l:List Me} {i:Nat} {x:Me} (h:l[i]?=some x):(Me.cellss l)[i]?=some x.cells:=by simp [Me.cellss,h]
def Me.cellsss (l:List (List Me)):List (List AV):=l.map fun x=>[.seq 6 (Me.cellss x)]
theorem Me.cellsss_len (l:List (List Me)):(Me.cellsss l).length=l.length:=by simp [Me.cellsss]
theorem Me.cellsss_get {l:List (List Me)} {i:Nat} {x:List Me} (h:l[i]?=some x):(Me.cellsss l)[i]?=some [.seq 6 (Me.cellss x)]:=by simp [Me.cellsss,h]
def Me.Lim:Me→Prop
 | .mk _ t _=>(t.Lim)
inductive Cl where
 | mk (s:ByteArray) (v:ByteArray) (su:List ByteArray) (ms:List Me) (ds:List Bi) (p:Int)
def Cl.cells:Cl→List AV
 | .mk s v su ms ds p=>.val (.string s)::.val (.string v)::.seq 1 (strs su)::.seq 6 (Me.cellss ms)::.seq 13 (Bi.cellss ds)::[.val (.int .i64 p)]
def Cl.s:Cl→ByteArray|.mk s _ _ _ _ _=>s
def Cl.v:Cl→ByteArray|.mk _ v _ _ _ _=>v
def Cl.su:Cl→List ByteArray|.mk _ _ su _ _ _=>su
def Cl.ms:Cl→List Me|.mk _ _ _ ms _ _=>ms
def Cl.ds:Cl→List Bi|.mk _ _ _ _ ds _=>ds
def Cl.p:Cl→Int|.mk _ _ _ _ _ p=>p
def Cl.cellss (l:List Cl):List (List AV):=l.map Cl.cells
theorem Cl.cellss_map (l:List Cl):Cl.cellss l=l.map Cl.cells:=rfl
theorem Cl.cellss_len (l:List Cl):(Cl.cellss l).length=l.length:=by simp [Cl.cellss]
theorem Cl.cellss_get {l:List Cl} {i:Nat} {x:Cl} (h:l[i]?=some x):(Cl.cellss l)[i]?=some x.cells:=by simp [Cl.cellss,h]
def Cl.cellsss (l:List (List Cl)):List (List AV):=l.map fun x=>[.seq 6 (Cl.cellss x)]
theorem Cl.cellsss_len (l:List (List Cl)):(Cl.cellsss l).length=l.length:=by simp [Cl.cellsss]
theorem Cl.cellsss_get {l:List (List Cl)} {i:Nat} {x:List Cl} (h:l[i]?=some x):(Cl.cellsss l)[i]?=some [.seq 6 (Cl.cellss x)]:=by simp [Cl.cellsss,h]
def Cl.Lim:Cl→Prop
 | .mk _ _ su ms ds _=>(su.length≤140737488355328)∧(ms.length≤140737488355328∧∀ x∈ms,x.Lim)∧(ds.length≤140737488355328∧∀ x∈ds,x.Lim)
inductive In where
 | mk (c:ByteArray) (hd:Ty) (cx:List Pr) (bs:List Bi) (p:Int)
def In.cells:In→List AV
 | .mk c hd cx bs p=>.val (.string c)::hd.cells++(.seq 5 (Pr.cellss cx)::.seq 13 (Bi.cellss bs)::[.val (.int .i64 p)])
def In.c:In→ByteArray|.mk c _ _ _ _=>c
def In.hd:In→Ty|.mk _ hd _ _ _=>hd
def In.cx:In→List Pr|.mk _ _ cx _ _=>cx
def In.bs:In→List Bi|.mk _ _ _ bs _=>bs
def In.p:In→Int|.mk _ _ _ _ p=>p
def In.cellss (l:List In):List (List AV):=l.map In.cells
theorem In.cellss_map (l:List In):In.cellss l=l.map In.cells:=rfl
theorem In.cellss_len (l:List In):(In.cellss l).length=l.length:=by simp [In.cellss]
theorem In.cellss_get {l:List In} {i:Nat} {x:In} (h:l[i]?=some x):(In.cellss l)[i]?=some x.cells:=by simp [In.cellss,h]
def In.cellsss (l:List (List In)):List (List AV):=l.map fun x=>[.seq 8 (In.cellss x)]
theorem In.cellsss_len (l:List (List In)):(In.cellsss l).length=l.length:=by simp [In.cellsss]
theorem In.cellsss_get {l:List (List In)} {i:Nat} {x:List In} (h:l[i]?=some x):(In.cellsss l)[i]?=some [.seq 8 (In.cellss x)]:=by simp [In.cellsss,h]
def In.Lim:In→Prop
 | .mk _ hd cx bs _=>(hd.Lim)∧(cx.length≤140737488355328∧∀ x∈cx,x.Lim)∧(bs.length≤140737488355328∧∀ x∈bs,x.Lim)
inductive Pg where
 | mk (da:List Da) (cl:List Cl) (ins:List In) (bs:List Bi)
def Pg.cells:Pg→List AV
 | .mk da cl ins bs=>.seq 5 (Da.cellss da)::.seq 6 (Cl.cellss cl)::.seq 8 (In.cellss ins)::[.seq 13 (Bi.cellss bs)]
def Pg.da:Pg→List Da|.mk da _ _ _=>da
def Pg.cl:Pg→List Cl|.mk _ cl _ _=>cl
def Pg.ins:Pg→List In|.mk _ _ ins _=>ins
def Pg.bs:Pg→List Bi|.mk _ _ _ bs=>bs
def Pg.cellss (l:List Pg):List (List AV):=l.map Pg.cells
theorem Pg.cellss_map (l:List Pg):Pg.cellss l=l.map Pg.cells:=rfl
theorem Pg.cellss_len (l:List Pg):(Pg.cellss l).length=l.length:=by simp [Pg.cellss]
theorem Pg.cellss_get {l:List Pg} {i:Nat} {x:Pg} (h:l[i]?=some x):(Pg.cellss l)[i]?=some x.cells:=by simp [Pg.cellss,h]
def Pg.cellsss (l:List (List Pg)):List (List AV):=l.map fun x=>[.seq 4 (Pg.cellss x)]
theorem Pg.cellsss_len (l:List (List Pg)):(Pg.cellsss l).length=l.length:=by simp [Pg.cellsss]
theorem Pg.cellsss_get {l:List (List Pg)} {i:Nat} {x:List Pg} (h:l[i]?=some x):(Pg.cellsss l)[i]?=some [.seq 4 (Pg.cellss x)]:=by simp [Pg.cellsss,h]
def Pg.Lim:Pg→Prop
 | .mk da cl ins bs=>(da.length≤140737488355328∧∀ x∈da,x.Lim)∧(cl.length≤140737488355328∧∀ x∈cl,x.Lim)∧(ins.length≤140737488355328∧∀ x∈ins,x.Lim)∧(bs.length≤140737488355328∧∀ x∈bs,x.Lim)
inductive En where
 | mk (da:List Da) (cl:List Cl) (ins:List In)
def En.cells:En→List AV
 | .mk da cl ins=>.seq 5 (Da.cellss da)::.seq 6 (Cl.cellss cl)::[.seq 8 (In.cellss ins)]
def En.da:En→List Da|.mk da _ _=>da
def En.cl:En→List Cl|.mk _ cl _=>cl
def En.ins:En→List In|.mk _ _ ins=>ins
def En.cellss (l:List En):List (List AV):=l.map En.cells
theorem En.cellss_map (l:List En):En.cellss l=l.map En.cells:=rfl
theorem En.cellss_len (l:List En):(En.cellss l).length=l.length:=by simp [En.cellss]
theorem En.cellss_get {l:List En} {i:Nat} {x:En} (h:l[i]?=some x):(En.cellss l)[i]?=some x.cells:=by simp [En.cellss,h]
def En.cellsss (l:List (List En)):List (List AV):=l.map fun x=>[.seq 3 (En.cellss x)]
theorem En.cellsss_len (l:List (List En)):(En.cellsss l).length=l.length:=by simp [En.cellsss]
theorem En.cellsss_get {l:List (List En)} {i:Nat} {x:List En} (h:l[i]?=some x):(En.cellsss l)[i]?=some [.seq 3 (En.cellss x)]:=by simp [En.cellsss,h]
def En.Lim:En→Prop
 | .mk da cl ins=>(da.length≤140737488355328∧∀ x∈da,x.Lim)∧(cl.length≤140737488355328∧∀ x∈cl,x.Lim)∧(ins.length≤140737488355328∧∀ x∈ins,x.Lim)
inductive Sc where
 | mk (vs:List ByteArray) (ps:List Pr) (t:Ty)
def Sc.cells:Sc→List AV
 | .mk vs ps t=>.seq 1 (strs vs)::.seq 5 (Pr.cellss ps)::t.cells
def Sc.vs:Sc→List ByteArray|.mk vs _ _=>vs
def Sc.ps:Sc→List Pr|.mk _ ps _=>ps
def Sc.t:Sc→Ty|.mk _ _ t=>t
def Sc.cellss (l:List Sc):List (List AV):=l.map Sc.cells
theorem Sc.cellss_map (l:List Sc):Sc.cellss l=l.map Sc.cells:=rfl
theorem Sc.cellss_len (l:List Sc):(Sc.cellss l).length=l.length:=by simp [Sc.cellss]
theorem Sc.cellss_get {l:List Sc} {i:Nat} {x:Sc} (h:l[i]?=some x):(Sc.cellss l)[i]?=some x.cells:=by simp [Sc.cellss,h]
def Sc.cellsss (l:List (List Sc)):List (List AV):=l.map fun x=>[.seq 6 (Sc.cellss x)]
theorem Sc.cellsss_len (l:List (List Sc)):(Sc.cellsss l).length=l.length:=by simp [Sc.cellsss]
theorem Sc.cellsss_get {l:List (List Sc)} {i:Nat} {x:List Sc} (h:l[i]?=some x):(Sc.cellsss l)[i]?=some [.seq 6 (Sc.cellss x)]:=by simp [Sc.cellsss,h]
def Sc.Lim:Sc→Prop
 | .mk vs ps t=>(vs.length≤140737488355328)∧(ps.length≤140737488355328∧∀ x∈ps,x.Lim)∧(t.Lim)
inductive Pm where
 | mk (s:ByteArray) (op:Int) (n:Int) (sc:Sc)
def Pm.cells:Pm→List AV
 | .mk s op n sc=>.val (.string s)::.val (.int .i64 op)::.val (.int .i64 n)::sc.cells
def Pm.s:Pm→ByteArray|.mk s _ _ _=>s
def Pm.op:Pm→Int|.mk _ op _ _=>op
def Pm.n:Pm→Int|.mk _ _ n _=>n
def Pm.sc:Pm→Sc|.mk _ _ _ sc=>sc
def Pm.cellss (l:List Pm):List (List AV):=l.map Pm.cells
theorem Pm.cellss_map (l:List Pm):Pm.cellss l=l.map Pm.cells:=rfl
theorem Pm.cellss_len (l:List Pm):(Pm.cellss l).length=l.length:=by simp [Pm.cellss]
theorem Pm.cellss_get {l:List Pm} {i:Nat} {x:Pm} (h:l[i]?=some x):(Pm.cellss l)[i]?=some x.cells:=by simp [Pm.cellss,h]
def Pm.cellsss (l:List (List Pm)):List (List AV):=l.map fun x=>[.seq 9 (Pm.cellss x)]
theorem Pm.cellsss_len (l:List (List Pm)):(Pm.cellsss l).length=l.length:=by simp [Pm.cellsss]
theorem Pm.cellsss_get {l:List (List Pm)} {i:Nat} {x:List Pm} (h:l[i]?=some x):(Pm.cellsss l)[i]?=some [.seq 9 (Pm.cellss x)]:=by simp [Pm.cellsss,h]
def Pm.Lim:Pm→Prop
 | .mk _ _ _ sc=>(sc.Lim)
inductive Ato where
 | mk (k:Int) (n:Int)
def Ato.cells:Ato→List AV
 | .mk k n=>.val (.int .i64 k)::[.val (.int .i64 n)]
def Ato.k:Ato→Int|.mk k _=>k
def Ato.n:Ato→Int|.mk _ n=>n
def Ato.cellss (l:List Ato):List (List AV):=l.map Ato.cells
theorem Ato.cellss_map (l:List Ato):Ato.cellss l=l.map Ato.cells:=rfl
theorem Ato.cellss_len (l:List Ato):(Ato.cellss l).length=l.length:=by simp [Ato.cellss]
theorem Ato.cellss_get {l:List Ato} {i:Nat} {x:Ato} (h:l[i]?=some x):(Ato.cellss l)[i]?=some x.cells:=by simp [Ato.cellss,h]
def Ato.cellsss (l:List (List Ato)):List (List AV):=l.map fun x=>[.seq 2 (Ato.cellss x)]
theorem Ato.cellsss_len (l:List (List Ato)):(Ato.cellsss l).length=l.length:=by simp [Ato.cellsss]
theorem Ato.cellsss_get {l:List (List Ato)} {i:Nat} {x:List Ato} (h:l[i]?=some x):(Ato.cellsss l)[i]?=some [.seq 2 (Ato.cellss x)]:=by simp [Ato.cellsss,h]
def Ato.Lim:Ato→Prop
 | .mk k n=>(I64 k)∧(I64 n)
inductive Is where
 | mk (op:Int) (a:Int) (b:Int) (n:Int) (ar:List Ato) (fs:List Int) (cp:List (List Ato))
def Is.cells:Is→List AV
 | .mk op a b n ar fs cp=>.val (.int .i64 op)::.val (.int .i64 a)::.val (.int .i64 b)::.val (.int .i64 n)::.seq 2 (Ato.cellss ar)::.seq 1 (nums fs)::[.seq 1 (Ato.cellsss cp)]
def Is.op:Is→Int|.mk op _ _ _ _ _ _=>op
def Is.a:Is→Int|.mk _ a _ _ _ _ _=>a
def Is.b:Is→Int|.mk _ _ b _ _ _ _=>b
def Is.n:Is→Int|.mk _ _ _ n _ _ _=>n
def Is.ar:Is→List Ato|.mk _ _ _ _ ar _ _=>ar
def Is.fs:Is→List Int|.mk _ _ _ _ _ fs _=>fs
def Is.cp:Is→List (List Ato)|.mk _ _ _ _ _ _ cp=>cp
def Is.cellss (l:List Is):List (List AV):=l.map Is.cells
theorem Is.cellss_map (l:List Is):Is.cellss l=l.map Is.cells:=rfl
theorem Is.cellss_len (l:List Is):(Is.cellss l).length=l.length:=by simp [Is.cellss]
theorem Is.cellss_get {l:List Is} {i:Nat} {x:Is} (h:l[i]?=some x):(Is.cellss l)[i]?=some x.cells:=by simp [Is.cellss,h]
def Is.cellsss (l:List (List Is)):List (List AV):=l.map fun x=>[.seq 7 (Is.cellss x)]
theorem Is.cellsss_len (l:List (List Is)):(Is.cellsss l).length=l.length:=by simp [Is.cellsss]
theorem Is.cellsss_get {l:List (List Is)} {i:Nat} {x:List Is} (h:l[i]?=some x):(Is.cellsss l)[i]?=some [.seq 7 (Is.cellss x)]:=by simp [Is.cellsss,h]
def Is.Lim:Is→Prop
 | .mk op a b n ar fs cp=>(I64 op)∧(I64 a)∧(I64 b)∧(I64 n)∧(ar.length≤140737488355328∧∀ x∈ar,x.Lim)∧(fs.length≤140737488355328∧∀ x∈fs,I64 x)∧(cp.length≤140737488355328∧∀ x∈cp,x.length≤140737488355328∧∀ y∈x,y.Lim)
inductive Cf where
 | mk (len:Int) (sl:Int) (cp:Int)
def Cf.cells:Cf→List AV
 | .mk len sl cp=>.val (.int .i64 len)::.val (.int .i64 sl)::[.val (.int .i64 cp)]
def Cf.len:Cf→Int|.mk len _ _=>len
def Cf.sl:Cf→Int|.mk _ sl _=>sl
def Cf.cp:Cf→Int|.mk _ _ cp=>cp
def Cf.cellss (l:List Cf):List (List AV):=l.map Cf.cells
theorem Cf.cellss_map (l:List Cf):Cf.cellss l=l.map Cf.cells:=rfl
theorem Cf.cellss_len (l:List Cf):(Cf.cellss l).length=l.length:=by simp [Cf.cellss]
theorem Cf.cellss_get {l:List Cf} {i:Nat} {x:Cf} (h:l[i]?=some x):(Cf.cellss l)[i]?=some x.cells:=by simp [Cf.cellss,h]
def Cf.cellsss (l:List (List Cf)):List (List AV):=l.map fun x=>[.seq 3 (Cf.cellss x)]
theorem Cf.cellsss_len (l:List (List Cf)):(Cf.cellsss l).length=l.length:=by simp [Cf.cellsss]
theorem Cf.cellsss_get {l:List (List Cf)} {i:Nat} {x:List Cf} (h:l[i]?=some x):(Cf.cellsss l)[i]?=some [.seq 3 (Cf.cellss x)]:=by simp [Cf.cellsss,h]
def Cf.Lim:Cf→Prop
 | .mk len sl cp=>(I64 len)∧(I64 sl)∧(I64 cp)
inductive Cd where
 | mk (is:List Is) (fu:List Cf) (tx:List ByteArray) (gl:Int) (ys:Int) (no:Int)
def Cd.cells:Cd→List AV
 | .mk is fu tx gl ys no=>.seq 7 (Is.cellss is)::.seq 3 (Cf.cellss fu)::.seq 1 (strs tx)::.val (.int .i64 gl)::.val (.int .i64 ys)::[.val (.int .i64 no)]
def Cd.is:Cd→List Is|.mk is _ _ _ _ _=>is
def Cd.fu:Cd→List Cf|.mk _ fu _ _ _ _=>fu
def Cd.tx:Cd→List ByteArray|.mk _ _ tx _ _ _=>tx
def Cd.gl:Cd→Int|.mk _ _ _ gl _ _=>gl
def Cd.ys:Cd→Int|.mk _ _ _ _ ys _=>ys
def Cd.no:Cd→Int|.mk _ _ _ _ _ no=>no
def Cd.cellss (l:List Cd):List (List AV):=l.map Cd.cells
theorem Cd.cellss_map (l:List Cd):Cd.cellss l=l.map Cd.cells:=rfl
theorem Cd.cellss_len (l:List Cd):(Cd.cellss l).length=l.length:=by simp [Cd.cellss]
theorem Cd.cellss_get {l:List Cd} {i:Nat} {x:Cd} (h:l[i]?=some x):(Cd.cellss l)[i]?=some x.cells:=by simp [Cd.cellss,h]
def Cd.cellsss (l:List (List Cd)):List (List AV):=l.map fun x=>[.seq 6 (Cd.cellss x)]
theorem Cd.cellsss_len (l:List (List Cd)):(Cd.cellsss l).length=l.length:=by simp [Cd.cellsss]
theorem Cd.cellsss_get {l:List (List Cd)} {i:Nat} {x:List Cd} (h:l[i]?=some x):(Cd.cellsss l)[i]?=some [.seq 6 (Cd.cellss x)]:=by simp [Cd.cellsss,h]
def Cd.Lim:Cd→Prop
 | .mk is fu tx gl ys no=>(is.length≤140737488355328∧∀ x∈is,x.Lim)∧(fu.length≤140737488355328∧∀ x∈fu,x.Lim)∧(tx.length≤140737488355328)∧(I64 gl)∧(I64 ys)∧(I64 no)
theorem cellsOf_int:Try.prog.cellsOf 3=1:=by kernel_rfl
theorem cellsOf_lAto:Try.prog.cellsOf 42=1:=by kernel_rfl
theorem cellsOf_Ato:Try.prog.cellsOf 41=2:=by kernel_rfl
theorem shapeL_Ato (L:Nat) (_:L≤140737488355328) (fuel:Nat) (cs:List AV) (h:ShapeL Try.prog L fuel 41 cs):∃ x:Ato,cs=x.cells∧x.Lim:=by
 obtain ⟨n,_,h⟩:=shapeL_struct Try.underlying41 h
 simp only [ShapeLF] at h
 obtain ⟨a0,b0,rfl,h0,a1,b1,rfl,h1,rfl⟩:=h
 obtain ⟨k,r0,rfl⟩:=Zx tu_3 h0
 obtain ⟨n,r1,rfl⟩:=Zx tu_2 h1
 refine ⟨.mk k n,?_,⟨I64.of r0,I64.of r1⟩⟩
 simp [Ato.cells]
mutual
inductive De where
 | mk (k a:Int) (p:List Int) (cs:List Dc) (es:List De)
inductive Dc where
 | mk (k:Int) (s:ByteArray) (n:Int) (d:De)
end
mutual
def De.cells:De→List AV
 | .mk k a p cs es=>[.val (.int .i64 k),.val (.int .i64 a),.seq 1 (nums p),.seq 8 (Dc.cellss cs),.seq 5 (De.cellss es)]
def De.cellss:List De→List (List AV)
 | []=>[]
 | d::ds=>d.cells::De.cellss ds
def Dc.cells:Dc→List AV
 | .mk k s n d=>.val (.int .i64 k)::.val (.string s)::.val (.int .i64 n)::d.cells
def Dc.cellss:List Dc→List (List AV)
 | []=>[]
 | d::ds=>d.cells::Dc.cellss ds
end
theorem De.cellss_map:∀ l:List De,De.cellss l=l.map De.cells
 | []=>rfl
 | d::l=>by rw [De.cellss,De.cellss_map l];rfl
theorem Dc.cellss_map:∀ l:List Dc,Dc.cellss l=l.map Dc.cells
 | []=>rfl
 | d::l=>by rw [Dc.cellss,Dc.cellss_map l];rfl
theorem De.cellss_len (l:List De):(De.cellss l).length=l.length:=by rw [De.cellss_map,List.length_map]
theorem Dc.cellss_len (l:List Dc):(Dc.cellss l).length=l.length:=by rw [Dc.cellss_map,List.length_map]
theorem De.cellss_get {l:List De} {i:Nat} {x:De} (h:l[i]?=some x):(De.cellss l)[i]?=some x.cells:=by rw [De.cellss_map];simp [h]
theorem Dc.cellss_get {l:List Dc} {i:Nat} {x:Dc} (h:l[i]?=some x):(Dc.cellss l)[i]?=some x.cells:=by rw [Dc.cellss_map];simp [h]
mutual
def De.size:De→Nat
 | .mk _ _ p cs es=>1+p.length+Dc.sizes cs+De.sizes es
def De.sizes:List De→Nat
 | []=>0
 | d::ds=>d.size+De.sizes ds
def Dc.size:Dc→Nat
 | .mk _ _ _ d=>1+d.size
def Dc.sizes:List Dc→Nat
 | []=>0
 | d::ds=>d.size+Dc.sizes ds
end
theorem De.size_pos (d:De):1≤d.size:=by cases d;rw [De.size];omega
theorem De.sizes_get:∀ {l:List De} {i:Nat} {x:De},l[i]?=some x→x.size≤De.sizes l
 | d::l,0,x,h=>by simp at h;subst h;rw [De.sizes];omega
 | d::l,i+1,x,h=>by
  have:=De.sizes_get (l:=l) (i:=i) (x:=x) (by simpa using h)
  rw [De.sizes];omega
theorem Dc.sizes_get:∀ {l:List Dc} {i:Nat} {x:Dc},l[i]?=some x→x.size≤Dc.sizes l
 | d::l,0,x,h=>by simp at h;subst h;rw [Dc.sizes];omega
 | d::l,i+1,x,h=>by
  have:=Dc.sizes_get (l:=l) (i:=i) (x:=x) (by simpa using h)
  rw [Dc.sizes];omega
inductive St where
 | mk (k t n:Int) (s:ByteArray) (ar:List Ato) (fs:List Int) (cp:List (List Ato)) (d:De) (arms:List (List St))
mutual
def St.cells:St→List AV
 | .mk k t n s ar fs cp d arms=>.val (.int .i64 k)::.val (.int .i64 t)::.val (.int .i64 n)::.val (.string s)::.seq 2 (Ato.cellss ar)::.seq 1 (nums fs)::.seq 1 (Ato.cellsss cp)::(d.cells++[.seq 1 (St.cellsss arms)])
def St.cellss:List St→List (List AV)
 | []=>[]
 | x::l=>x.cells::St.cellss l
def St.cellsss:List (List St)→List (List AV)
 | []=>[]
 | x::l=>[.seq 13 (St.cellss x)]::St.cellsss l
end
theorem St.cellss_map:∀ l:List St,St.cellss l=l.map St.cells
 | []=>rfl
 | d::l=>by rw [St.cellss,St.cellss_map l];rfl
theorem St.cellsss_map:∀ l:List (List St),St.cellsss l=l.map fun x=>[.seq 13 (St.cellss x)]
 | []=>rfl
 | d::l=>by rw [St.cellsss,St.cellsss_map l];rfl
theorem St.cellss_len (l:List St):(St.cellss l).length=l.length:=by rw [St.cellss_map,List.length_map]
theorem St.cellsss_len (l:List (List St)):(St.cellsss l).length=l.length:=by rw [St.cellsss_map,List.length_map]
theorem St.cellss_get {l:List St} {i:Nat} {x:St} (h:l[i]?=some x):(St.cellss l)[i]?=some x.cells:=by rw [St.cellss_map];simp [h]
theorem St.cellsss_get {l:List (List St)} {i:Nat} {x:List St} (h:l[i]?=some x):(St.cellsss l)[i]?=some [.seq 13 (St.cellss x)]:=by rw [St.cellsss_map];simp [h]
mutual
def St.size:St→Nat
 | .mk _ _ _ _ _ _ _ d arms=>2+d.size+St.sizess arms
def St.sizes:List St→Nat
 | []=>0
 | x::l=>x.size+St.sizes l
def St.sizess:List (List St)→Nat
 | []=>0
 | x::l=>2+St.sizes x+St.sizess l
end
theorem St.sizes_get:∀ {l:List St} {i:Nat} {x:St},l[i]?=some x→x.size≤St.sizes l
 | d::l,0,x,h=>by simp at h;subst h;rw [St.sizes];omega
 | d::l,i+1,x,h=>by
  have:=St.sizes_get (l:=l) (i:=i) (x:=x) (by simpa using h)
  rw [St.sizes];omega
theorem St.sizess_get:∀ {l:List (List St)} {i:Nat} {x:List St},l[i]?=some x→2+St.sizes x≤St.sizess l
 | d::l,0,x,h=>by simp at h;subst h;rw [St.sizess];omega
 | d::l,i+1,x,h=>by
  have:=St.sizess_get (l:=l) (i:=i) (x:=x) (by simpa using h)
  rw [St.sizess];omega
inductive Fu where
 | mk (sl cp:Int) (b:List St)
def Fu.cells:Fu→List AV
 | .mk sl cp b=>[.val (.int .i64 sl),.val (.int .i64 cp),.seq 13 (St.cellss b)]
def Fu.sl:Fu→Int|.mk sl _ _=>sl
def Fu.cp:Fu→Int|.mk _ cp _=>cp
def Fu.b:Fu→List St|.mk _ _ b=>b
def Fu.cellss (l:List Fu):List (List AV):=l.map Fu.cells
theorem Fu.cellss_len (l:List Fu):(Fu.cellss l).length=l.length:=by simp [Fu.cellss]
theorem Fu.cellss_get {l:List Fu} {i:Nat} {x:Fu} (h:l[i]?=some x):(Fu.cellss l)[i]?=some x.cells:=by simp [Fu.cellss,h]
inductive Af where
 | mk (fu:List Fu) (gl ys no:Int)
def Af.cells:Af→List AV
 | .mk fu gl ys no=>[.seq 3 (Fu.cellss fu),.val (.int .i64 gl),.val (.int .i64 ys),.val (.int .i64 no)]
def Af.fu:Af→List Fu|.mk fu _ _ _=>fu
def Af.gl:Af→Int|.mk _ gl _ _=>gl
def Af.ys:Af→Int|.mk _ _ ys _=>ys
def Af.no:Af→Int|.mk _ _ _ no=>no
structure Gs where
 ins:List Is
 mo:Nat
def setB (l:List Is) (k at_:Nat):List Is :=
 match l[k]? with
 | some i=>l.set k (.mk i.op i.a at_ i.n i.ar i.fs i.cp)
 | none=>l
theorem setB_len (l:List Is) (k a:Nat):(setB l k a).length=l.length:=by
 unfold setB;split <;> simp
def hereF:Gs→List Nat→Gs
 | s,[]=>s
 | s,k::ks=>hereF ⟨setB s.ins k s.ins.length,max s.mo s.ins.length⟩ ks
def addF (s:Gs) (i:Is):Gs:=⟨s.ins++[i],s.mo⟩
def iJump:Is:=.mk 14 0 0 0 [] [] []
def iFail:Is:=.mk 15 0 0 0 [] [] []
def iTest (n:Int):Is:=.mk 13 0 0 n [] [] []
def iLook (a:Ato):Is:=.mk 11 0 0 0 [a] [] []
def iPart (n:Int):Is:=.mk 12 0 0 n [] [] []
def at_ (l:List (List Nat)) (i:Nat):List Nat:=(l[i]?).getD []
def wait (l:List (List Nat)) (i k:Nat):List (List Nat):=l.set i (at_ l i++[k])
mutual
def decF (look:Ato):De→Gs→List (List Nat)→Gs × List (List Nat)
 | .mk k a p cs es,s,arms =>
  if k=1∧0≤a then (addF s iJump,wait arms a.toNat s.ins.length)
  else if k≠2 then (addF s iFail,arms)
  else
   let r:=casF look cs ⟨s.ins++[iLook look]++p.map iPart,s.mo⟩ arms
   elsF look es r.1 r.2
def casF (look:Ato):List Dc→Gs→List (List Nat)→Gs × List (List Nat)
 | [],s,arms=>(s,arms)
 | .mk _ _ n d::cs,s,arms =>
  let r:=decF look d (addF s (iTest n)) arms
  casF look cs (hereF r.1 [s.ins.length]) r.2
def elsF (look:Ato):List De→Gs→List (List Nat)→Gs × List (List Nat)
 | [],s,arms=>(addF s iFail,arms)
 | d::_,s,arms=>decF look d s arms
end
noncomputable def idxT (s:ByteArray):List ByteArray→Nat
 | []=>0
 | x::l=>if x=s then 0 else idxT s l+1
noncomputable def textI (tx:List ByteArray) (s:ByteArray):Int:=if s∈tx then (idxT s tx:Nat) else 0
noncomputable def plainF (tx:List ByteArray) (k t n:Int) (s:ByteArray) (ar:List Ato) (fs:List Int) (cp:List (List Ato)):Is :=
 if k=1 then .mk 1 t 0 0 ar [] []
 else if k=2 then .mk 2 t (textI tx s) 0 ar [] []
 else if k=3 then .mk 3 t 0 n ar [] []
 else if k=4 then .mk 4 t 0 0 ar fs cp
 else if k=5 then .mk 5 t 0 0 ar [] []
 else if k=6 then .mk 6 t 0 0 ar [] []
 else if k=7 then .mk 7 t 0 0 ar [] []
 else if k=8 then .mk 8 t 0 n ar [] []
 else if k=10 then .mk 9 t 0 n ar [] []
 else .mk 10 t 0 0 ar [] []
def endOp (op:Int):Prop:=op=6∨op=7∨op=14∨op=15
instance (op:Int):Decidable (endOp op):=by unfold endOp;infer_instance
def opn (fr:Nat) (s:Gs):Prop:=s.ins.length=fr∨(∀ i,s.ins[s.ins.length - 1]?=some i→¬ endOp i.op)∨s.mo=s.ins.length
noncomputable instance (fr:Nat) (s:Gs):Decidable (opn fr s):=by
 unfold opn
 have:Decidable (∀ i,s.ins[s.ins.length - 1]?=some i→¬ endOp i.op):=by
  cases h:s.ins[s.ins.length - 1]? with
  | none=>exact .isTrue by12
  | some i=>exact decidable_of_iff (¬ endOp i.op) by12
 infer_instance
mutual
noncomputable def stmF (tx:List ByteArray):St→Gs→Gs
 | .mk k t n s ar fs cp d arms,g =>
  if k=9 then
   let r:=decF (ar.headD (.mk 0 0)) d g (arms.map fun _=>[])
   armF tx arms r.2 r.1 []
  else addF g (plainF tx k t n s ar fs cp)
noncomputable def bodF (tx:List ByteArray):List St→Gs→Gs
 | [],g=>g
 | x::l,g=>bodF tx l (stmF tx x g)
noncomputable def armF (tx:List ByteArray):List (List St)→List (List Nat)→Gs→List Nat→Gs
 | [],_,g,e=>hereF g e
 | b::bs,pl,g,e =>
  let g1:=hereF g (pl.headD [])
  let g2:=bodF tx b g1
  if opn g1.ins.length g2 then armF tx bs pl.tail (addF g2 iJump) (e++[g2.ins.length]) else armF tx bs pl.tail g2 e
end
noncomputable def funF (tx:List ByteArray) (f:Fu) (l:List Is):List Is :=
 let g:=bodF tx f.b ⟨l,0⟩
 if opn l.length g then (addF g iFail).ins else g.ins
noncomputable def funsF (tx:List ByteArray):List Fu→List Is→List Is × List Cf
 | [],l=>(l,[])
 | f::fs,l =>
  let l2:=funF tx f l
  let r:=funsF tx fs l2
  (r.1,.mk ((l2.length - l.length:Nat):Int) f.sl f.cp::r.2)
mutual
noncomputable def stmT:St→List ByteArray→List ByteArray
 | .mk k _ _ s _ _ _ _ arms,out=>armT arms (if k=2∧s∉out then out++[s] else out)
noncomputable def bodT:List St→List ByteArray→List ByteArray
 | [],out=>out
 | x::l,out=>bodT l (stmT x out)
noncomputable def armT:List (List St)→List ByteArray→List ByteArray
 | [],out=>out
 | b::bs,out=>armT bs (bodT b out)
end
noncomputable def textsF:List Fu→List ByteArray→List ByteArray
 | [],out=>out
 | f::fs,out=>textsF fs (bodT f.b out)
noncomputable def genF (a:Af):Cd :=
 let tx:=textsF a.fu []
 let r:=funsF tx a.fu []
 .mk r.1 r.2 tx a.gl a.ys a.no
def Keep (n:Nat) (a b:List Is):Prop:=a.length≤b.length∧b.take n=a.take n
theorem Keep.refl (n:Nat) (a:List Is):Keep n a a:=⟨Nat.le_refl _,rfl⟩
theorem Keep.trans {n:Nat} {a b c:List Is} (h:Keep n a b) (k:Keep n b c):Keep n a c:=⟨Nat.le_trans h.1 k.1,k.2.trans h.2⟩
theorem Keep.app {n:Nat} {a:List Is} (h:n≤a.length) (l:List Is):Keep n a (a++l):=⟨by simp,by rw [List.take_append_of_le_length h]⟩
theorem Keep.setB {n k at0:Nat} {a:List Is} (h:n≤k):Keep n a (setB a k at0):=by
 refine ⟨by rw [setB_len];exact Nat.le_refl _,?_⟩
 unfold Go.Proofs.Ytbfogofpgcndfaa.setB
 split
 ·rw [List.take_set_of_le h]
 rfl
def Late (n:Nat) (ls:List (List Nat)):Prop:=∀ l∈ls,∀ k∈l,n≤k
theorem late_at {n:Nat} {ls:List (List Nat)} (h:Late n ls) (i:Nat):∀ k∈at_ ls i,n≤k:=by
 intro k hk
 unfold at_ at hk
 cases hl:ls[i]? with
 | none=>rw [hl] at hk;simp at hk
 | some l=>rw [hl] at hk;exact h l (Yu hl) k hk
theorem late_wait {n:Nat} {ls:List (List Nat)} (h:Late n ls) (i:Nat) {k:Nat} (hk:n≤k):Late n (wait ls i k):=by
 intro l hl j hj
 unfold wait at hl
 rcases List.mem_or_eq_of_mem_set hl with hl|rfl
 ·exact h l hl j hj
 rcases List.mem_append.1 hj with q|q
 ·exact late_at h i j q
 simp at q;omega
theorem here_keep {n:Nat}:∀ (ks:List Nat) (s:Gs),(∀ k∈ks,n≤k)→Keep n s.ins (hereF s ks).ins∧(hereF s ks).ins.length=s.ins.length
 | [],s,_=>⟨Keep.refl _ _,rfl⟩
 | k::ks,s,h=>by
  rw [hereF]
  obtain ⟨k1,k2⟩:=here_keep (n:=n) ks ⟨setB s.ins k s.ins.length,max s.mo s.ins.length⟩ (fun j hj=>h j (by simp [hj]))
  exact ⟨(Keep.setB (h k by12)).trans k1,by rw [k2];exact setB_len _ _ _⟩
mutual
theorem dec_keep {n:Nat} (look:Ato):∀ (d:De) (s:Gs) (arms:List (List Nat)),n≤s.ins.length→Late n arms→Keep n s.ins (decF look d s arms).1.ins∧Late n (decF look d s arms).2∧n≤(decF look d s arms).1.ins.length
 | .mk k a p cs es,s,arms,hn,hl=>by
  rw [decF]
  split
  ·exact ⟨Keep.app hn _,late_wait hl _ hn,by simp [addF];omega⟩
  split
  ·exact ⟨Keep.app hn _,hl,by simp [addF];omega⟩
  obtain ⟨k1,k2,k3⟩:=cas_keep look cs ⟨s.ins++[iLook look]++p.map iPart,s.mo⟩ arms by8 hl
  obtain ⟨j1,j2,j3⟩:=els_keep look es _ _ k3 k2
  refine ⟨Keep.trans ?_ (k1.trans j1),j2,j3⟩
  show Keep n s.ins (s.ins++[iLook look]++p.map iPart)
  rw [List.append_assoc]
  exact Keep.app hn _
theorem cas_keep {n:Nat} (look:Ato):∀ (cs:List Dc) (s:Gs) (arms:List (List Nat)),n≤s.ins.length→Late n arms→Keep n s.ins (casF look cs s arms).1.ins∧Late n (casF look cs s arms).2∧n≤(casF look cs s arms).1.ins.length
 | [],s,arms,hn,hl=>by rw [casF];exact ⟨Keep.refl _ _,hl,hn⟩
 | .mk _ _ m d::cs,s,arms,hn,hl=>by
  rw [casF]
  obtain ⟨k1,k2,k3⟩:=dec_keep look d (addF s (iTest m)) arms (by simp [addF];omega) hl
  obtain ⟨h1,h2⟩:=here_keep (n:=n) [s.ins.length] (decF look d (addF s (iTest m)) arms).1 (by simpa using hn)
  obtain ⟨j1,j2,j3⟩:=cas_keep look cs (hereF (decF look d (addF s (iTest m)) arms).1 [s.ins.length]) _ (by rw [h2];exact k3) k2
  exact ⟨(Keep.app hn [iTest m]).trans (k1.trans (h1.trans j1)),j2,j3⟩
theorem els_keep {n:Nat} (look:Ato):∀ (es:List De) (s:Gs) (arms:List (List Nat)),n≤s.ins.length→Late n arms→Keep n s.ins (elsF look es s arms).1.ins∧Late n (elsF look es s arms).2∧n≤(elsF look es s arms).1.ins.length
 | [],s,arms,hn,hl=>by rw [elsF];exact ⟨Keep.app hn _,hl,by simp [addF];omega⟩
 | d::_,s,arms,hn,hl=>by rw [elsF];exact dec_keep look d s arms hn hl
end
theorem late_nil {n:Nat} (l:List (List St)):Late n (l.map fun _=>[]):=by
 intro x hx k hk
 obtain ⟨_,_,rfl⟩:=List.mem_map.1 hx
 simp at hk
mutual
theorem stm_keep {n:Nat} (tx:List ByteArray):∀ (x:St) (g:Gs),n≤g.ins.length→Keep n g.ins (stmF tx x g).ins∧n≤(stmF tx x g).ins.length
 | .mk k t m s ar fs cp d arms,g,hn=>by
  rw [stmF]
  split
  ·obtain ⟨k1,k2,k3⟩:=dec_keep (ar.headD (.mk 0 0)) d g (arms.map fun _=>[]) hn (late_nil arms)
   obtain ⟨j1,j2⟩:=arm_keep tx arms _ _ [] k3 k2 by12
   exact ⟨k1.trans j1,j2⟩
  exact ⟨Keep.app hn _,by simp [addF];omega⟩
theorem bod_keep {n:Nat} (tx:List ByteArray):∀ (l:List St) (g:Gs),n≤g.ins.length→Keep n g.ins (bodF tx l g).ins∧n≤(bodF tx l g).ins.length
 | [],g,hn=>by rw [bodF];exact ⟨Keep.refl _ _,hn⟩
 | x::l,g,hn=>by
  rw [bodF]
  obtain ⟨k1,k2⟩:=stm_keep tx x g hn
  obtain ⟨j1,j2⟩:=bod_keep tx l _ k2
  exact ⟨k1.trans j1,j2⟩
theorem arm_keep {n:Nat} (tx:List ByteArray):∀ (bs:List (List St)) (pl:List (List Nat)) (g:Gs) (e:List Nat),n≤g.ins.length→Late n pl→(∀ k∈e,n≤k)→Keep n g.ins (armF tx bs pl g e).ins∧n≤(armF tx bs pl g e).ins.length
 | [],pl,g,e,hn,hl,he=>by
  rw [armF]
  obtain ⟨k1,k2⟩:=here_keep e g he
  exact ⟨k1,by rw [k2];exact hn⟩
 | b::bs,pl,g,e,hn,hl,he=>by
  rw [armF]
  have hh:∀ k∈pl.headD [],n≤k:=by
   cases pl with
   | nil=>intro k hk;simp at hk
   | cons p pl=>exact hl p by12
  have ht:Late n pl.tail:=fun l hl'=>hl l (List.mem_of_mem_tail hl')
  obtain ⟨k1,k2⟩:=here_keep (pl.headD []) g hh
  obtain ⟨j1,j2⟩:=bod_keep (n:=n) tx b (hereF g (pl.headD [])) (by rw [k2];exact hn)
  split
  ·obtain ⟨i1,i2⟩:=arm_keep (n:=n) tx bs pl.tail (addF (bodF tx b (hereF g (pl.headD []))) iJump) (e++[(bodF tx b (hereF g (pl.headD []))).ins.length]) (by show n≤(_++[_]).length;rw [List.length_append];exact Nat.le_trans j2 (Nat.le_add_right _ _)) ht (by
    intro k hk
    rcases List.mem_append.1 hk with q|q
    ·exact he k q
    rw [List.mem_singleton.1 q];exact j2)
   exact ⟨k1.trans (j1.trans ((Keep.app j2 _).trans i1)),i2⟩
  obtain ⟨i1,i2⟩:=arm_keep (n:=n) tx bs pl.tail (bodF tx b (hereF g (pl.headD []))) e j2 ht he
  exact ⟨k1.trans (j1.trans i1),i2⟩
end
theorem fun_keep (tx:List ByteArray) (f:Fu) (l:List Is):(funF tx f l).take l.length=l∧l.length<(funF tx f l).length:=by
 obtain ⟨⟨k1,k2⟩,k3⟩:=bod_keep (n:=l.length) tx f.b ⟨l,0⟩ (Nat.le_refl _)
 have k2:(bodF tx f.b ⟨l,0⟩).ins.take l.length=l.take l.length:=k2
 rw [List.take_length] at k2
 unfold funF
 simp only
 split
 ·refine ⟨?_,by simp [addF];omega⟩
  show ((bodF tx f.b ⟨l,0⟩).ins++[iFail]).take l.length=l
  rw [List.take_append_of_le_length k3];exact k2
 rename_i h
 refine ⟨k2,?_⟩
 have:¬ (bodF tx f.b ⟨l,0⟩).ins.length=l.length:=fun e=>h (.inl e)
 omega
theorem funs_snoc (tx:List ByteArray) (f:Fu):∀ (fs:List Fu) (l:List Is),funsF tx (fs++[f]) l=(funF tx f (funsF tx fs l).1,(funsF tx fs l).2++[.mk (((funF tx f (funsF tx fs l).1).length - (funsF tx fs l).1.length:Nat):Int) f.sl f.cp])
 | [],l=>by simp [funsF]
 | g::fs,l=>by
  rw [List.cons_append,funsF,funsF]
  rw [funs_snoc tx f fs]
  simp
-- the texts
def Sub (a b:List ByteArray):Prop:=∃ m,b=a++m
theorem Sub.refl (a:List ByteArray):Sub a a:=⟨[],by simp⟩
theorem Sub.trans {a b c:List ByteArray} (h:Sub a b) (k:Sub b c):Sub a c:=by
 obtain ⟨m,rfl⟩:=h
 obtain ⟨n,rfl⟩:=k
 exact ⟨m++n,by rw [List.append_assoc]⟩
mutual
theorem stm_sub:∀ (x:St) (out:List ByteArray),Sub out (stmT x out)
 | .mk k t m s ar fs cp d arms,out=>by
  rw [stmT]
  refine Sub.trans ?_ (arm_sub arms _)
  split
  ·exact ⟨[s],V⟩
  exact Sub.refl _
theorem bod_sub:∀ (l:List St) (out:List ByteArray),Sub out (bodT l out)
 | [],out=>by rw [bodT];exact Sub.refl _
 | x::l,out=>by rw [bodT];exact (stm_sub x out).trans (bod_sub l _)
theorem arm_sub:∀ (l:List (List St)) (out:List ByteArray),Sub out (armT l out)
 | [],out=>by rw [armT];exact Sub.refl _
 | x::l,out=>by rw [armT];exact (bod_sub x out).trans (arm_sub l _)
end
mutual
def St.said (tx:List ByteArray):St→Prop
 | .mk k _ _ s _ _ _ _ arms=>(k=2→s∈tx)∧St.saidss tx arms
def St.saids (tx:List ByteArray):List St→Prop
 | []=>True
 | x::l=>x.said tx∧St.saids tx l
def St.saidss (tx:List ByteArray):List (List St)→Prop
 | []=>True
 | x::l=>St.saids tx x∧St.saidss tx l
end
mutual
theorem said_mono {a b:List ByteArray} (h:Sub a b):∀ x:St,x.said a→x.said b
 | .mk k t m s ar fs cp d arms,hs=>by
  rw [St.said] at hs ⊢
  obtain ⟨m,rfl⟩:=h
  exact ⟨fun e=>List.mem_append_left _ (hs.1 e),saidss_mono ⟨m,V⟩ arms hs.2⟩
theorem saids_mono {a b:List ByteArray} (h:Sub a b):∀ l:List St,St.saids a l→St.saids b l
 | [],_=>trivial
 | x::l,hs=>by rw [St.saids] at hs ⊢;exact ⟨said_mono h x hs.1,saids_mono h l hs.2⟩
theorem saidss_mono {a b:List ByteArray} (h:Sub a b):∀ l:List (List St),St.saidss a l→St.saidss b l
 | [],_=>trivial
 | x::l,hs=>by rw [St.saidss] at hs ⊢;exact ⟨saids_mono h x hs.1,saidss_mono h l hs.2⟩
end
mutual
theorem stm_said:∀ (x:St) (out:List ByteArray),x.said (stmT x out)
 | .mk k t m s ar fs cp d arms,out=>by
  rw [St.said,stmT]
  refine ⟨fun e=>?_,arm_said arms _⟩
  obtain ⟨m,hm⟩:=arm_sub arms (if k=2∧s∉out then out++[s] else out)
  rw [hm]
  refine List.mem_append_left _ ?_
  by_cases q:s∈out
  ·rw [if_neg (fun h=>h.2 q)];exact q
  rw [if_pos ⟨e,q⟩];simp
theorem bod_said:∀ (l:List St) (out:List ByteArray),St.saids (bodT l out) l
 | [],out=>trivial
 | x::l,out=>by
  rw [St.saids,bodT]
  exact ⟨said_mono (bod_sub l _) x (stm_said x out),bod_said l _⟩
theorem arm_said:∀ (l:List (List St)) (out:List ByteArray),St.saidss (armT l out) l
 | [],out=>trivial
 | x::l,out=>by
  rw [St.saidss,armT]
  exact ⟨saids_mono (arm_sub l _) x (bod_said x out),arm_said l _⟩
end
theorem texts_sub:∀ (fs:List Fu) (out:List ByteArray),Sub out (textsF fs out)
 | [],out=>Sub.refl _
 | f::fs,out=>by rw [textsF];exact (bod_sub f.b out).trans (texts_sub fs _)
theorem texts_said:∀ (fs:List Fu) (out:List ByteArray),∀ f∈fs,St.saids (textsF fs out) f.b
 | [],out,f,hf=>by simp at hf
 | g::fs,out,f,hf=>by
  rw [textsF]
  rcases List.mem_cons.1 hf with rfl|hf
  ·exact saids_mono (texts_sub fs _) _ (bod_said f.b out)
  exact texts_said fs _ f hf
theorem texts_snoc (f:Fu):∀ (fs:List Fu) (out:List ByteArray),textsF (fs++[f]) out=bodT f.b (textsF fs out)
 | [],out=>rfl
 | g::fs,out=>by rw [List.cons_append,textsF,textsF,texts_snoc f fs]
theorem idxT_app {s:ByteArray} {m:List ByteArray}:∀ {tx:List ByteArray},s∈tx→idxT s (tx++m)=idxT s tx
 | [],h=>by simp at h
 | x::tx,h=>by
  rw [List.cons_append,idxT,idxT]
  split
  ·rfl
  rename_i q
  rcases List.mem_cons.1 h with e|e
  ·exact absurd e.symm q
  rw [idxT_app e]
theorem textI_app {tx m:List ByteArray} {s:ByteArray} (h:s∈tx):textI (tx++m) s=textI tx s:=by
 unfold textI
 rw [if_pos h,if_pos (List.mem_append_left _ h),idxT_app h]
theorem plain_app {tx m:List ByteArray} {k t n:Int} {s:ByteArray} {ar:List Ato} {fs:List Int} {cp:List (List Ato)} (h:k=2→s∈tx):plainF (tx++m) k t n s ar fs cp=plainF tx k t n s ar fs cp:=by
 unfold plainF
 by_cases e:k=2
 ·subst e
  simp only [textI_app (h rfl)]
 simp only [if_neg e]
mutual
theorem stm_app {tx m:List ByteArray}:∀ (x:St) (g:Gs),x.said tx→stmF (tx++m) x g=stmF tx x g
 | .mk k t n s ar fs cp d arms,g,h=>by
  rw [St.said] at h
  rw [stmF,stmF]
  split
  ·exact arm_app arms _ _ _ h.2
  rw [plain_app h.1]
theorem bod_app {tx m:List ByteArray}:∀ (l:List St) (g:Gs),St.saids tx l→bodF (tx++m) l g=bodF tx l g
 | [],g,h=>by rw [bodF,bodF]
 | x::l,g,h=>by rw [St.saids] at h;rw [bodF,bodF,stm_app x g h.1,bod_app l _ h.2]
theorem arm_app {tx m:List ByteArray}:∀ (l:List (List St)) (pl:List (List Nat)) (g:Gs) (e:List Nat),St.saidss tx l→armF (tx++m) l pl g e=armF tx l pl g e
 | [],pl,g,e,h=>by rw [armF,armF]
 | b::bs,pl,g,e,h=>by
  rw [St.saidss] at h
  rw [armF,armF,bod_app b _ h.1]
  split
  ·exact arm_app bs _ _ _ h.2
  exact arm_app bs _ _ _ h.2
end
theorem fun_app {tx m:List ByteArray} (f:Fu) (l:List Is) (h:St.saids tx f.b):funF (tx++m) f l=funF tx f l:=by
 unfold funF
 rw [bod_app f.b _ h]
theorem funs_app {tx m:List ByteArray}:∀ (fs:List Fu) (l:List Is),(∀ f∈fs,St.saids tx f.b)→funsF (tx++m) fs l=funsF tx fs l
 | [],l,_=>by rw [funsF,funsF]
 | f::fs,l,h=>by
  rw [funsF,funsF,fun_app f l (h f by12)]
  rw [funs_app fs _ (fun g hg=>h g (by simp [hg]))]
theorem gen_more (fu:List Fu) (f:Fu) (gl ys no:Int):∃ (i:List Is) (c:Cf) (t:List ByteArray),0<i.length ∧
    genF (.mk (fu++[f]) gl ys no)=.mk ((genF (.mk fu gl ys no)).is++i) ((genF (.mk fu gl ys no)).fu++[c]) ((genF (.mk fu gl ys no)).tx++t) gl ys no:=by
 unfold genF
 simp only [Af.fu,Af.gl,Af.ys,Af.no,Cd.is,Cd.fu,Cd.tx]
 obtain ⟨t,ht⟩:=bod_sub f.b (textsF fu [])
 rw [texts_snoc,ht,funs_snoc,funs_app fu [] (texts_said fu [])]
 obtain ⟨k1,k2⟩:=fun_keep (textsF fu []++t) f (funsF (textsF fu []) fu []).1
 obtain ⟨A,hA⟩:∃ A,funsF (textsF fu []) fu []=A:=⟨_,rfl⟩
 rw [hA] at k1 k2 ⊢
 obtain ⟨B,hB⟩:∃ B,funF (textsF fu []++t) f A.1=B:=⟨_,rfl⟩
 rw [hB] at k1 k2 ⊢
 have e:B=A.1++B.drop A.1.length:=by
  conv=>lhs;rw [← List.take_append_drop A.1.length B]
  rw [k1]
 refine ⟨B.drop A.1.length,.mk ((B.length - A.1.length:Nat):Int) f.sl f.cp,t,by rw [List.length_drop];omega,?_⟩
 rw [← e]
mutual
def De.leaves:De→List Int
 | .mk k a _ cs es=>if k=1 then [a] else if k=2 then Dc.leavess cs++De.leavess es else [-1]
def Dc.leavess:List Dc→List Int
 | []=>[]
 | .mk _ _ _ d::cs=>d.leaves++Dc.leavess cs
def De.leavess:List De→List Int
 | []=>[]
 | d::es=>d.leaves++De.leavess es
end
theorem Dc.leavess_map:∀ l:List Dc,Dc.leavess l=(l.map fun c=>match c with|.mk _ _ _ d=>d.leaves).flatten
 | []=>rfl
 | .mk _ _ _ d::l=>by rw [Dc.leavess,Dc.leavess_map l];rfl
theorem De.leavess_map:∀ l:List De,De.leavess l=(l.map De.leaves).flatten
 | []=>rfl
 | d::l=>by rw [De.leavess,De.leavess_map l];rfl
def De.fit (n:Nat) (d:De):Prop:=∀ x∈d.leaves,x<(n:Int)
mutual
def St.wf:St→Prop
 | .mk k _ _ _ ar _ _ d arms=>k=9→ar.length=1∧d.fit arms.length∧St.wfss arms
def St.wfs:List St→Prop
 | []=>True
 | x::l=>x.wf∧St.wfs l
def St.wfss:List (List St)→Prop
 | []=>True
 | x::l=>St.wfs x∧St.wfss l
end
theorem St.wfs_iff:∀ l:List St,St.wfs l↔∀ x∈l,x.wf
 | []=>by simp [St.wfs]
 | x::l=>by rw [St.wfs,St.wfs_iff l];simp
theorem St.wfss_iff:∀ l:List (List St),St.wfss l↔∀ x∈l,St.wfs x
 | []=>by simp [St.wfss]
 | x::l=>by rw [St.wfss,St.wfss_iff l];simp
theorem fit_alt {k a:Int} {p:List Int} {cs:List Dc} {es:List De} {n:Nat} (h:(De.mk k a p cs es).fit n) (hk:k=1):a<n:=by
 subst hk
 exact h a (by rw [De.leaves,if_pos rfl];simp)
theorem fit_case {k a m:Int} {p:List Int} {cs:List Dc} {es:List De} {n i:Nat} {q:Int} {s:ByteArray} {d:De} (h:(De.mk k a p cs es).fit n) (hk:k=2) (hi:cs[i]?=some (.mk q s m d)):d.fit n:=by
 subst hk
 intro x hx
 refine h x ?_
 rw [De.leaves,if_neg by10,if_pos rfl,Dc.leavess_map]
 exact List.mem_append_left _ (List.mem_flatten.2 ⟨d.leaves,List.mem_map.2 ⟨_,Yu hi,V⟩,hx⟩)
theorem fit_else {k a:Int} {p:List Int} {cs:List Dc} {es:List De} {n i:Nat} {d:De} (h:(De.mk k a p cs es).fit n) (hk:k=2) (hi:es[i]?=some d):d.fit n:=by
 subst hk
 intro x hx
 refine h x ?_
 rw [De.leaves,if_neg by10,if_pos rfl,De.leavess_map]
 exact List.mem_append_right _ (List.mem_flatten.2 ⟨d.leaves,List.mem_map.2 ⟨_,Yu hi,V⟩,hx⟩)
-- how many instructions
mutual
theorem dec_len (look:Ato):∀ (d:De) (s:Gs) (arms:List (List Nat)),(decF look d s arms).1.ins.length≤s.ins.length+2 * d.size
 | .mk k a p cs es,s,arms=>by
  rw [decF,De.size]
  split
  ·simp [addF];omega
  split
  ·simp [addF];omega
  have h1:=cas_len look cs ⟨s.ins++[iLook look]++p.map iPart,s.mo⟩ arms
  have h2:=els_len look es (casF look cs ⟨s.ins++[iLook look]++p.map iPart,s.mo⟩ arms).1 (casF look cs ⟨s.ins++[iLook look]++p.map iPart,s.mo⟩ arms).2
  simp only [List.length_append,List.length_map,List.length_cons,List.length_nil] at h1
  show (elsF look es _ _).1.ins.length≤_
  omega
theorem cas_len (look:Ato):∀ (cs:List Dc) (s:Gs) (arms:List (List Nat)),(casF look cs s arms).1.ins.length≤s.ins.length+2 * Dc.sizes cs
 | [],s,arms=>by rw [casF];exact Nat.le_add_right _ _
 | .mk _ _ m d::cs,s,arms=>by
  rw [casF,Dc.sizes,Dc.size]
  have h1:=dec_len look d (addF s (iTest m)) arms
  have h2:=cas_len look cs (hereF (decF look d (addF s (iTest m)) arms).1 [s.ins.length]) (decF look d (addF s (iTest m)) arms).2
  have h3:(hereF (decF look d (addF s (iTest m)) arms).1 [s.ins.length]).ins.length=(decF look d (addF s (iTest m)) arms).1.ins.length:=(here_keep (n:=0) _ _ (fun _ _=>Nat.zero_le _)).2
  have h4:(addF s (iTest m)).ins.length=s.ins.length+1:=by simp [addF]
  show (casF look cs _ _).1.ins.length≤_
  omega
theorem els_len (look:Ato):∀ (es:List De) (s:Gs) (arms:List (List Nat)),(elsF look es s arms).1.ins.length≤s.ins.length+1+2 * De.sizes es
 | [],s,arms=>by rw [elsF];simp [addF]
 | d::es,s,arms=>by
  rw [elsF,De.sizes]
  have:=dec_len look d s arms
  omega
end
mutual
theorem stm_len (tx:List ByteArray):∀ (x:St) (g:Gs),(stmF tx x g).ins.length≤g.ins.length+2 * x.size
 | .mk k t m s ar fs cp d arms,g=>by
  rw [stmF,St.size]
  split
  ·have h1:=dec_len (ar.headD (.mk 0 0)) d g (arms.map fun _=>[])
   have h2:=arm_len tx arms (decF (ar.headD (.mk 0 0)) d g (arms.map fun _=>[])).2 (decF (ar.headD (.mk 0 0)) d g (arms.map fun _=>[])).1 []
   show (armF tx arms _ _ []).ins.length≤_
   omega
  simp [addF];omega
theorem bod_len (tx:List ByteArray):∀ (l:List St) (g:Gs),(bodF tx l g).ins.length≤g.ins.length+2 * St.sizes l
 | [],g=>by rw [bodF];exact Nat.le_add_right _ _
 | x::l,g=>by
  rw [bodF,St.sizes]
  have h1:=stm_len tx x g
  have h2:=bod_len tx l (stmF tx x g)
  omega
theorem arm_len (tx:List ByteArray):∀ (bs:List (List St)) (pl:List (List Nat)) (g:Gs) (e:List Nat),(armF tx bs pl g e).ins.length≤g.ins.length+2 * St.sizess bs
 | [],pl,g,e=>by
  rw [armF,(here_keep (n:=0) e g (fun _ _=>Nat.zero_le _)).2];exact Nat.le_add_right _ _
 | b::bs,pl,g,e=>by
  rw [armF,St.sizess]
  have h0:=(here_keep (n:=0) (pl.headD []) g (fun _ _=>Nat.zero_le _)).2
  have h1:=bod_len tx b (hereF g (pl.headD []))
  split
  ·have h2:=arm_len tx bs pl.tail (addF (bodF tx b (hereF g (pl.headD []))) iJump) (e++[(bodF tx b (hereF g (pl.headD []))).ins.length])
   have h3:(addF (bodF tx b (hereF g (pl.headD []))) iJump).ins.length=(bodF tx b (hereF g (pl.headD []))).ins.length+1:=by simp only [addF,List.length_append,List.length_cons,List.length_nil]
   omega
  have h2:=arm_len tx bs pl.tail (bodF tx b (hereF g (pl.headD []))) e
  omega
end
theorem fun_len (tx:List ByteArray) (f:Fu) (l:List Is):(funF tx f l).length≤l.length+2 * St.sizes f.b+1:=by
 have h:=bod_len tx f.b ⟨l,0⟩
 have h:(bodF tx f.b ⟨l,0⟩).ins.length≤l.length+2 * St.sizes f.b:=h
 unfold funF
 simp only
 split
 ·show ((bodF tx f.b ⟨l,0⟩).ins++[iFail]).length≤_
  rw [List.length_append,List.length_cons,List.length_nil];omega
 omega
def AtP (f:Fu) (gl:Int):Ato→Prop
 | .mk k n=>k=1∨(0≤n∧((k=2∧n<f.sl)∨(k=3∧n<f.cp)∨(k=4∧n<gl)))
mutual
def De.paths:De→Prop
 | .mk k _ p cs es=>((∀ n∈p,0≤n)∧0≤k∧k≤2)∧Dc.pathss cs∧De.pathss es
def Dc.pathss:List Dc→Prop
 | []=>True
 | .mk _ _ _ d::cs=>d.paths∧Dc.pathss cs
def De.pathss:List De→Prop
 | []=>True
 | d::es=>d.paths∧De.pathss es
end
def Dc.d:Dc→De|.mk _ _ _ d=>d
theorem Dc.pathss_iff:∀ l:List Dc,Dc.pathss l↔∀ x∈l,x.d.paths
 | []=>by simp [Dc.pathss]
 | .mk _ _ _ d::l=>by rw [Dc.pathss,Dc.pathss_iff l];simp [Dc.d]
theorem De.pathss_iff:∀ l:List De,De.pathss l↔∀ x∈l,x.paths
 | []=>by simp [De.pathss]
 | d::l=>by rw [De.pathss,De.pathss_iff l];simp
def argN (ps:List Pm) (k n:Int) (m:Nat):Int :=
 if k=1∨k=7∨k=9∨k=10∨k=11 then 1 else if k=5∨k=6 then 2 else if k=3 then max (m:Int) 1 else if k=2∨k=4 then 0 else
 if k=8∧1≤n∧n≤ps.length then ((ps[(n - 1).toNat]?).map Pm.n).getD (-1) else -1
def CapF (a:Af) (f:Fu) (n:Int) (l:List Ato):Prop:=1≤n∧n<a.fu.length∧(∀ g,a.fu[n.toNat]?=some g→(l.length:Int)=g.cp)∧∀ x∈l,AtP f a.gl x
def FixF (a:Af) (f:Fu) (t:Int) (fs:List Int) (cp:List (List Ato)):Prop:=fs≠[]∧cp.length=fs.length∧0≤t∧t≤f.sl - fs.length∧∀ (i:Nat) n l,fs[i]?=some n→cp[i]?=some l→CapF a f n l
def TgtF (a:Af) (f:Fu) (k t:Int) (fs:List Int) (cp:List (List Ato)):Prop:=(k=11→0≤t∧t<a.gl)∧(k=6∨k=7∨k=9→t=0)∧(k=4→FixF a f t fs cp)∧(k≠11∧k≠6∧k≠7∧k≠9∧k≠4→0≤t∧t<f.sl)
mutual
def St.right (ps:List Pm) (a:Af) (f:Fu):St→Prop
 | .mk k t n _ ar fs cp d arms=>(argN ps k n ar.length=ar.length∧(∀ x∈ar,AtP f a.gl x)∧TgtF a f k t fs cp)∧(k=3→0≤n∧n≤65535)∧(k=10→0≤n∧n≤1048576)∧(k=9→(∀ x∈d.leaves,x<arms.length ∧ -1≤x)∧d.paths∧St.rightss ps a f arms)
def St.rights (ps:List Pm) (a:Af) (f:Fu):List St→Prop
 | []=>True
 | x::l=>x.right ps a f∧St.rights ps a f l
def St.rightss (ps:List Pm) (a:Af) (f:Fu):List (List St)→Prop
 | []=>True
 | x::l=>St.rights ps a f x∧St.rightss ps a f l
end
theorem St.rights_iff (ps:List Pm) (a:Af) (f:Fu):∀ l:List St,St.rights ps a f l↔∀ x∈l,x.right ps a f
 | []=>by simp [St.rights]
 | x::l=>by rw [St.rights,St.rights_iff ps a f l];simp
theorem St.rightss_iff (ps:List Pm) (a:Af) (f:Fu):∀ l:List (List St),St.rightss ps a f l↔∀ x∈l,St.rights ps a f x
 | []=>by simp [St.rightss]
 | x::l=>by rw [St.rightss,St.rightss_iff ps a f l];simp
def FunR (ps:List Pm) (a:Af) (f:Fu):Prop:=1≤f.sl∧f.sl≤1048576∧0≤f.cp∧St.rights ps a f f.b
def RightA (ps:List Pm) (a:Af):Prop:=(a.fu≠[]∧(0≤a.gl∧a.gl≤1048576)∧(0≤a.ys∧a.ys≤1048576)∧(0≤a.no∧a.no≤1048576)∧∀ f,a.fu[0]?=some f→f.cp=0)∧∀ f∈a.fu,FunR ps a f
mutual
theorem St.right_wf (ps:List Pm) (a:Af) (f:Fu):∀ x:St,x.right ps a f→x.wf
 | .mk k t n s ar fs cp d arms=>by
  rw [St.right,St.wf]
  rintro ⟨⟨h1,_⟩,_,_,h4⟩ hk
  obtain ⟨h5,_,h6⟩:=h4 hk
  have e:argN ps k n ar.length=1:=if_pos by11
  exact ⟨by omega,fun x hx=>(h5 x hx).1,St.rightss_wf ps a f arms h6⟩
theorem St.rights_wf (ps:List Pm) (a:Af) (f:Fu):∀ l:List St,St.rights ps a f l→St.wfs l
 | []=>fun _=>trivial
 | x::l=>by
  rw [St.rights,St.wfs]
  rintro ⟨h1,h2⟩
  exact ⟨St.right_wf ps a f x h1,St.rights_wf ps a f l h2⟩
theorem St.rightss_wf (ps:List Pm) (a:Af) (f:Fu):∀ l:List (List St),St.rightss ps a f l→St.wfss l
 | []=>fun _=>trivial
 | x::l=>by
  rw [St.rightss,St.wfss]
  rintro ⟨h1,h2⟩
  exact ⟨St.rights_wf ps a f x h1,St.rightss_wf ps a f l h2⟩
end
theorem rightA_wf {ps:List Pm} {a:Af} (h:RightA ps a):∀ f∈a.fu,St.wfs f.b:=fun f hf=>St.rights_wf ps a f f.b (h.2 f hf).2.2.2
theorem leaves_len:(∀ d:De,d.leaves.length≤d.size):=by
 have H:∀ n,(∀ d:De,d.size≤n→d.leaves.length≤d.size)∧(∀ l:List Dc,Dc.sizes l<n→(Dc.leavess l).length≤Dc.sizes l)∧(∀ l:List De,De.sizes l<n→(De.leavess l).length≤De.sizes l):=by
  intro n
  induction n with
  | zero=>exact ⟨fun d h=>by have:=d.size_pos;omega,fun l h=>by omega,fun l h=>by omega⟩
  | succ n ih =>
   obtain ⟨i1,i2,i3⟩:=ih
   have h2:∀ l:List Dc,Dc.sizes l<n+1→(Dc.leavess l).length≤Dc.sizes l:=by
    intro l
    induction l with
    | nil=>intro _;exact Nat.le_refl _
    | cons x l il =>
     obtain ⟨_,_,_,d⟩:=x
     intro h
     rw [Dc.sizes,Dc.size] at h
     rw [Dc.leavess,Dc.sizes,Dc.size,List.length_append]
     have:=i1 d by11
     have:=il by11
     omega
   have h3:∀ l:List De,De.sizes l<n+1→(De.leavess l).length≤De.sizes l:=by
    intro l
    induction l with
    | nil=>intro _;exact Nat.le_refl _
    | cons d l il =>
     intro h
     rw [De.sizes] at h
     rw [De.leavess,De.sizes,List.length_append]
     have:=il (by have:=d.size_pos;omega)
     rcases Nat.lt_or_ge n d.size with q|q
     ·have e:d.size=n+1:=by omega
      omega
     have:=i1 d q
     omega
   refine ⟨?_,h2,h3⟩
   rintro ⟨k,a,p,cs,es⟩ h
   rw [De.size] at h
   rw [De.leaves,De.size]
   split
   ·simp only [List.length_cons,List.length_nil];omega
   split
   ·have:=h2 cs by11
    have:=h3 es by11
    rw [List.length_append];omega
   simp only [List.length_cons,List.length_nil];omega
 exact fun d=>(H d.size).1 d (Nat.le_refl _)
mutual
def De.Lim:De→Prop
 | .mk _ _ p cs es=>(∀ x∈p,I64 x)∧Dc.Lims cs∧De.Lims es
def Dc.Lims:List Dc→Prop
 | []=>True
 | .mk _ _ n d::cs=>I64 n∧d.Lim∧Dc.Lims cs
def De.Lims:List De→Prop
 | []=>True
 | d::es=>d.Lim∧De.Lims es
end
mutual
def St.Lim:St→Prop
 | .mk _ t n _ ar fs cp d arms=>I64 t∧I64 n∧(ar.length≤140737488355328∧∀ x∈ar,x.Lim)∧(fs.length≤140737488355328∧∀ x∈fs,I64 x)∧(cp.length≤140737488355328∧∀ x∈cp,x.length≤140737488355328∧∀ y∈x,y.Lim)∧d.Lim∧St.Limss arms
def St.Lims:List St→Prop
 | []=>True
 | x::l=>x.Lim∧St.Lims l
def St.Limss:List (List St)→Prop
 | []=>True
 | x::l=>St.Lims x∧St.Limss l
end
def Fu.Lim (f:Fu):Prop:=I64 f.sl∧I64 f.cp∧St.Lims f.b
def Af.Lim (a:Af):Prop:=(∀ f∈a.fu,f.Lim)∧I64 a.gl∧I64 a.ys∧I64 a.no
theorem De.lims_iff:∀ l:List De,De.Lims l↔∀ x∈l,x.Lim
 | []=>by simp [De.Lims]
 | d::l=>by rw [De.Lims,De.lims_iff l];simp
theorem St.lims_iff:∀ l:List St,St.Lims l↔∀ x∈l,x.Lim
 | []=>by simp [St.Lims]
 | d::l=>by rw [St.Lims,St.lims_iff l];simp
theorem St.limss_iff:∀ l:List (List St),St.Limss l↔∀ x∈l,St.Lims x
 | []=>by simp [St.Limss]
 | d::l=>by rw [St.Limss,St.limss_iff l];simp
def AllIL (l:List Is):Prop:=∀ x∈l,x.Lim
theorem allL_add {l:List Is} {i:Is} (h:AllIL l) (hi:i.Lim):AllIL (l++[i]):=fun x hx=>by
 rcases List.mem_append.1 hx with q|q
 ·exact h x q
 rw [List.mem_singleton.1 q];exact hi
theorem i64_nat {n:Nat} (h:n≤1000000000):I64 (n:Int):=⟨by omega,by omega⟩
theorem i64_0:I64 0:=⟨by omega,by omega⟩
theorem allL_set {l:List Is} {k a:Nat} (h:AllIL l) (ha:a≤1000000000):AllIL (setB l k a):=by
 unfold setB
 split
 ·rename_i i hi
  intro x hx
  rcases List.mem_or_eq_of_mem_set hx with q|q
  ·exact h x q
  have:=h i (Yu hi)
  obtain ⟨op,a',b,n,ar,fs,cp⟩:=i
  obtain ⟨h1,h2,h3,h4⟩:=this
  rw [q]
  exact ⟨h1,h2,i64_nat ha,h4⟩
 exact h
theorem here_lim:∀ (ks:List Nat) (s:Gs),AllIL s.ins→s.ins.length≤1000000000→AllIL (hereF s ks).ins
 | [],s,h,_=>h
 | k::ks,s,h,hb=>by
  rw [hereF]
  exact here_lim ks _ (allL_set h hb) (by show (setB _ _ _).length≤_;rw [setB_len];exact hb)
theorem lim_op {op:Int} {n:Int} {ar:List Ato} (ho:I64 op) (hn:I64 n) (ha:ar.length≤140737488355328∧∀ x∈ar,x.Lim):(Is.mk op 0 0 n ar [] []).Lim:=⟨ho,i64_0,i64_0,hn,ha,⟨by simp,by simp⟩,⟨by simp,by simp⟩⟩
theorem lim_nil:([]:List Ato).length≤140737488355328∧∀ x∈([]:List Ato),x.Lim:=⟨by simp,by simp⟩
theorem lim_jump:iJump.Lim:=lim_op ⟨by omega,by omega⟩ i64_0 lim_nil
theorem lim_fail:iFail.Lim:=lim_op ⟨by omega,by omega⟩ i64_0 lim_nil
theorem lim_test {n:Int} (h:I64 n):(iTest n).Lim:=lim_op ⟨by omega,by omega⟩ h lim_nil
theorem lim_part {n:Int} (h:I64 n):(iPart n).Lim:=lim_op ⟨by omega,by omega⟩ h lim_nil
theorem lim_look {a:Ato} (h:a.Lim):(iLook a).Lim:=lim_op ⟨by omega,by omega⟩ i64_0 ⟨by simp,fun x hx=>by rw [List.mem_singleton.1 hx];exact h⟩
mutual
theorem dec_lim (look:Ato) (hk:look.Lim):∀ (d:De) (s:Gs) (arms:List (List Nat)),d.Lim→AllIL s.ins→s.ins.length+2 * d.size≤1000000000→AllIL (decF look d s arms).1.ins
 | .mk k a p cs es,s,arms,hd,hs,hb=>by
  rw [De.Lim] at hd
  obtain ⟨h1,h2,h3⟩:=hd
  rw [De.size] at hb
  rw [decF]
  split
  ·exact allL_add hs lim_jump
  split
  ·exact allL_add hs lim_fail
  have hp:AllIL (s.ins++[iLook look]++p.map iPart):=fun x hx=>by
   rcases List.mem_append.1 hx with q|q
   ·exact allL_add hs (lim_look hk) x q
   obtain ⟨y,hy,rfl⟩:=List.mem_map.1 q
   exact lim_part (h1 y hy)
  have hl:(s.ins++[iLook look]++p.map iPart).length=s.ins.length+1+p.length:=by simp;omega
  have e1:=cas_lim look hk cs ⟨s.ins++[iLook look]++p.map iPart,s.mo⟩ arms h2 hp (by show (s.ins++[iLook look]++p.map iPart).length+_≤_;omega)
  have e2:=cas_len look cs ⟨s.ins++[iLook look]++p.map iPart,s.mo⟩ arms
  have e2:(casF look cs ⟨s.ins++[iLook look]++p.map iPart,s.mo⟩ arms).1.ins.length≤(s.ins++[iLook look]++p.map iPart).length+2 * Dc.sizes cs:=e2
  exact els_lim look hk es _ _ h3 e1 by11
theorem cas_lim (look:Ato) (hk:look.Lim):∀ (cs:List Dc) (s:Gs) (arms:List (List Nat)),Dc.Lims cs→AllIL s.ins→s.ins.length+2 * Dc.sizes cs≤1000000000→AllIL (casF look cs s arms).1.ins
 | [],s,arms,_,hs,_=>by rw [casF];exact hs
 | .mk _ _ m d::cs,s,arms,hd,hs,hb=>by
  rw [Dc.Lims] at hd
  obtain ⟨h1,h2,h3⟩:=hd
  rw [Dc.sizes,Dc.size] at hb
  rw [casF]
  have h4:(addF s (iTest m)).ins.length=s.ins.length+1:=by simp [addF]
  have e1:=dec_lim look hk d (addF s (iTest m)) arms h2 (allL_add hs (lim_test h1)) by11
  have e2:=dec_len look d (addF s (iTest m)) arms
  have e3:=here_lim [s.ins.length] _ e1 by11
  have e4:(hereF (decF look d (addF s (iTest m)) arms).1 [s.ins.length]).ins.length=(decF look d (addF s (iTest m)) arms).1.ins.length:=(here_keep (n:=0) _ _ (fun _ _=>Nat.zero_le _)).2
  exact cas_lim look hk cs _ _ h3 e3 by11
theorem els_lim (look:Ato) (hk:look.Lim):∀ (es:List De) (s:Gs) (arms:List (List Nat)),De.Lims es→AllIL s.ins→s.ins.length+2 * De.sizes es≤1000000000→AllIL (elsF look es s arms).1.ins
 | [],s,arms,_,hs,_=>by rw [elsF];exact allL_add hs lim_fail
 | d::es,s,arms,hd,hs,hb=>by
  rw [De.Lims] at hd
  rw [De.sizes] at hb
  rw [elsF]
  exact dec_lim look hk d s arms hd.1 hs by11
end
theorem idxT_le (s:ByteArray):∀ l:List ByteArray,idxT s l≤l.length
 | []=>Nat.le_refl _
 | x::l=>by
  have:=idxT_le s l
  rw [idxT,List.length_cons]
  split <;> omega
theorem textI_lim {tx:List ByteArray} (s:ByteArray) (h:tx.length≤1000000000):I64 (textI tx s):=by
 unfold textI
 split
 ·exact i64_nat (Nat.le_trans (idxT_le s tx) h)
 exact i64_0
theorem lim_plain {tx:List ByteArray} (ht:tx.length≤1000000000) (k t n:Int) (s:ByteArray) (ar:List Ato) (fs:List Int) (cp:List (List Ato)) (h1:I64 t) (h2:I64 n) (h3:ar.length≤140737488355328∧∀ x∈ar,x.Lim) (h4:fs.length≤140737488355328∧∀ x∈fs,I64 x) (h5:cp.length≤140737488355328∧∀ x∈cp,x.length≤140737488355328∧∀ y∈x,y.Lim):(plainF tx k t n s ar fs cp).Lim:=by
 have n1:([]:List Int).length≤140737488355328∧∀ x∈([]:List Int),I64 x:=⟨by simp,by simp⟩
 have n2:([]:List (List Ato)).length≤140737488355328∧∀ x∈([]:List (List Ato)),x.length≤140737488355328∧∀ y∈x,y.Lim:=⟨by simp,by simp⟩
 have h6:=textI_lim s ht
 unfold plainF
 repeat' split
 all_goals exact ⟨⟨by omega,by omega⟩,h1,by first|exact i64_0|exact h6,by first|exact i64_0|exact h2,h3,by first|exact n1|exact h4,by first|exact n2|exact h5⟩
mutual
theorem stm_lim {tx:List ByteArray} (ht:tx.length≤1000000000):∀ (x:St) (g:Gs),x.Lim→AllIL g.ins→g.ins.length+2 * x.size≤1000000000→AllIL (stmF tx x g).ins
 | .mk k t n s ar fs cp d arms,g,hx,hg,hb=>by
  rw [St.Lim] at hx
  obtain ⟨h1,h2,h3,h4,h5,h6,h7⟩:=hx
  rw [St.size] at hb
  rw [stmF]
  split
  ·have hk:(ar.headD (.mk 0 0)).Lim:=by
    cases ar with
    | nil=>exact ⟨i64_0,i64_0⟩
    | cons y l=>exact h3.2 y by12
   have e1:=dec_lim (ar.headD (.mk 0 0)) hk d g (arms.map fun _=>[]) h6 hg by11
   have e2:=dec_len (ar.headD (.mk 0 0)) d g (arms.map fun _=>[])
   exact arm_lim ht arms _ _ [] h7 e1 by11
  exact allL_add hg (lim_plain ht k t n s ar fs cp h1 h2 h3 h4 h5)
theorem bod_lim {tx:List ByteArray} (ht:tx.length≤1000000000):∀ (l:List St) (g:Gs),St.Lims l→AllIL g.ins→g.ins.length+2 * St.sizes l≤1000000000→AllIL (bodF tx l g).ins
 | [],g,_,hg,_=>by rw [bodF];exact hg
 | x::l,g,hx,hg,hb=>by
  rw [St.Lims] at hx
  rw [St.sizes] at hb
  rw [bodF]
  have e1:=stm_len tx x g
  exact bod_lim ht l _ hx.2 (stm_lim ht x g hx.1 hg by11) by11
theorem arm_lim {tx:List ByteArray} (ht:tx.length≤1000000000):∀ (bs:List (List St)) (pl:List (List Nat)) (g:Gs) (e:List Nat),St.Limss bs→AllIL g.ins→g.ins.length+2 * St.sizess bs≤1000000000→AllIL (armF tx bs pl g e).ins
 | [],pl,g,e,_,hg,hb=>by rw [armF];exact here_lim _ _ hg by11
 | b::bs,pl,g,e,hx,hg,hb=>by
  rw [St.Limss] at hx
  rw [St.sizess] at hb
  rw [armF]
  have h0:=(here_keep (n:=0) (pl.headD []) g (fun _ _=>Nat.zero_le _)).2
  have e0:=here_lim (pl.headD []) g hg by11
  have e1:=bod_lim ht b _ hx.1 e0 by11
  have e2:=bod_len tx b (hereF g (pl.headD []))
  split
  ·have h3:(addF (bodF tx b (hereF g (pl.headD []))) iJump).ins.length=(bodF tx b (hereF g (pl.headD []))).ins.length+1:=by simp only [addF,List.length_append,List.length_cons,List.length_nil]
   exact arm_lim ht bs _ _ _ hx.2 (allL_add e1 lim_jump) by11
  exact arm_lim ht bs _ _ _ hx.2 e1 by11
end
theorem fun_lim {tx:List ByteArray} (ht:tx.length≤1000000000) (f:Fu) (l:List Is) (hf:St.Lims f.b) (hl:AllIL l) (hb:l.length+2 * St.sizes f.b≤1000000000):AllIL (funF tx f l):=by
 have h:=bod_lim ht f.b ⟨l,0⟩ hf hl hb
 unfold funF
 show AllIL (if _ then _ else _)
 split
 ·exact allL_add h lim_fail
 exact h
theorem cellsOf_De:Try.prog.cellsOf 48=5:=by kernel_rfl
theorem cellsOf_Dc:Try.prog.cellsOf 88=8:=by kernel_rfl
theorem cellsOf_St:Try.prog.cellsOf 51=13:=by kernel_rfl
theorem cellsOf_Fu:Try.prog.cellsOf 27=3:=by kernel_rfl
theorem cellsOf_lSt:Try.prog.cellsOf 25=1:=by kernel_rfl
def Dc.Lim:Dc→Prop
 | .mk _ _ n d=>I64 n∧d.Lim
theorem Dc.lims_iff:∀ l:List Dc,Dc.Lims l↔∀ x∈l,x.Lim
 | []=>by simp [Dc.Lims]
 | .mk _ _ _ _::l=>by rw [Dc.Lims,Dc.lims_iff l];simp [Dc.Lim,and_assoc]
theorem shapeL_De (L:Nat) (_:L≤140737488355328) (fuel:Nat):∀ cs,ShapeL Try.prog L fuel 48 cs→∃ d:De,cs=d.cells∧d.Lim:=by
 induction fuel using Nat.strongRecOn with
 | _ fuel ih =>
  intro cs h
  obtain ⟨n,hn,h⟩:=shapeL_struct Try.underlying48 h
  simp only [ShapeLF] at h
  obtain ⟨a1,b1,rfl,h1,a2,b2,rfl,h2,a3,b3,rfl,h3,a4,b4,rfl,h4,a5,b5,rfl,h5,rfl⟩:=h
  obtain ⟨k,_,rfl⟩:=Zx tu_3 h1
  obtain ⟨a,_,rfl⟩:=Zx tu_3 h2
  obtain ⟨n3,e3,_,rfl,l3,h3⟩:=Yb tu_43 h3
  obtain ⟨p,rfl,q3⟩:=pick_all2 (f:=fun s=>[AV.val (.int .i64 s)]) (p:=I64) (fun x hx=>by obtain ⟨s,r,rfl⟩:=Zx tu_3 (h3 x hx);exact ⟨s,rfl,I64.of r⟩)
  obtain ⟨n4,e4,hn4,rfl,l4,h4⟩:=Yb tu_45 h4
  obtain ⟨dcs,rfl,q4⟩:=pick_all2 (f:=Dc.cells) (p:=Dc.Lim) (fun x hx=>by
   obtain ⟨n',hn',g⟩:=shapeL_struct Try.underlying88 (h4 x hx)
   simp only [ShapeLF] at g
   obtain ⟨a1,b1,rfl,g1,a2,b2,rfl,g2,a3,b3,rfl,g3,a4,b4,rfl,g4,rfl⟩:=g
   obtain ⟨k,_,rfl⟩:=Zx tu_3 g1
   obtain ⟨s,_,rfl⟩:=shapeL_str tu_9 g2
   obtain ⟨m,r,rfl⟩:=Zx tu_2 g3
   obtain ⟨d,rfl,hd⟩:=ih n' by11 _ g4
   exact ⟨.mk k s m d,by simp [Dc.cells],⟨I64.of r,hd⟩⟩)
  obtain ⟨n5,e5,hn5,rfl,l5,h5⟩:=Yb tu_46 h5
  obtain ⟨des,rfl,q5⟩:=pick_all2 (f:=De.cells) (p:=De.Lim) (fun x hx=>ih n5 by11 x (h5 x hx))
  refine ⟨.mk k a p dcs des,?_,?_⟩
  ·rw [cellsOf_int,cellsOf_Dc,cellsOf_De,← Dc.cellss_map,← De.cellss_map,De.cells]
   simp [nums]
  rw [De.Lim]
  exact ⟨q3,(Dc.lims_iff _).2 q4,(De.lims_iff _).2 q5⟩
theorem shapeL_St (L:Nat) (hL:L≤140737488355328) (fuel:Nat):∀ cs,ShapeL Try.prog L fuel 51 cs→∃ x:St,cs=x.cells∧x.Lim:=by
 induction fuel using Nat.strongRecOn with
 | _ fuel ih =>
  intro cs h
  obtain ⟨n,hn,h⟩:=shapeL_struct Try.underlying51 h
  simp only [ShapeLF] at h
  obtain ⟨a1,b1,rfl,h1,a2,b2,rfl,h2,a3,b3,rfl,h3,a4,b4,rfl,h4,a5,b5,rfl,h5,a6,b6,rfl,h6,a7,b7,rfl,h7,a8,b8,rfl,h8,a9,b9,rfl,h9,rfl⟩:=h
  obtain ⟨k,_,rfl⟩:=Zx tu_3 h1
  obtain ⟨t,r2,rfl⟩:=Zx tu_3 h2
  obtain ⟨m,r3,rfl⟩:=Zx tu_2 h3
  obtain ⟨s,_,rfl⟩:=shapeL_str tu_9 h4
  obtain ⟨n5,e5,_,rfl,l5,h5⟩:=Yb tu_42 h5
  obtain ⟨ar,rfl,q5⟩:=pick_all2 (f:=Ato.cells) (p:=Ato.Lim) (fun x hx=>shapeL_Ato L hL _ x (h5 x hx))
  obtain ⟨n6,e6,_,rfl,l6,h6⟩:=Yb tu_43 h6
  obtain ⟨fs,rfl,q6⟩:=pick_all2 (f:=fun s=>[AV.val (.int .i64 s)]) (p:=I64) (fun x hx=>by obtain ⟨s,r,rfl⟩:=Zx tu_3 (h6 x hx);exact ⟨s,rfl,I64.of r⟩)
  obtain ⟨n7,e7,_,rfl,l7,h7⟩:=Yb tu_44 h7
  obtain ⟨cp,rfl,q7⟩:=pick_all2 (f:=fun x=>[AV.seq 2 (Ato.cellss x)]) (p:=fun x=>x.length≤140737488355328∧∀ y∈x,y.Lim) (fun x hx=>by
   obtain ⟨n,e,_,rfl,l,h⟩:=Yb tu_42 (h7 x hx)
   obtain ⟨z,rfl,q⟩:=pick_all2 (f:=Ato.cells) (p:=Ato.Lim) (fun x hx=>shapeL_Ato L hL _ x (h x hx))
   exact ⟨z,by rw [cellsOf_Ato,← Ato.cellss_map],by simpa using Nat.le_trans l hL,q⟩)
  obtain ⟨d,rfl,hd⟩:=shapeL_De L hL _ _ h8
  obtain ⟨n9,e9,hn9,rfl,l9,h9⟩:=Yb tu_49 h9
  obtain ⟨arms,rfl,q9⟩:=pick_all2 (f:=fun x=>[AV.seq 13 (St.cellss x)]) (p:=fun x=>St.Lims x) (fun x hx=>by
   obtain ⟨n,e,hn',rfl,l,h⟩:=Yb tu_25 (h9 x hx)
   obtain ⟨z,rfl,q⟩:=pick_all2 (f:=St.cells) (p:=St.Lim) (fun x hx=>ih n by11 x (h x hx))
   exact ⟨z,by rw [cellsOf_St,← St.cellss_map],(St.lims_iff _).2 q⟩)
  refine ⟨.mk k t m s ar fs cp d arms,?_,?_⟩
  ·rw [cellsOf_Ato,← Ato.cellss_map,cellsOf_int,cellsOf_lAto,cellsOf_lSt,St.cells,St.cellsss_map]
   simp [Ato.cellsss,nums]
  rw [St.Lim]
  exact ⟨I64.of r2,I64.of r3,⟨by simpa using Nat.le_trans l5 hL,q5⟩,⟨by simpa using Nat.le_trans l6 hL,q6⟩,⟨by simpa using Nat.le_trans l7 hL,q7⟩,hd,(St.limss_iff _).2 q9⟩
theorem shapeL_Fu {L:Nat} (hL:L≤140737488355328) {fuel:Nat} {cs:List AV} (h:ShapeL Try.prog L fuel 27 cs):∃ f:Fu,cs=f.cells∧f.Lim:=by
 obtain ⟨n',hn',g⟩:=shapeL_struct Try.underlying27 h
 simp only [ShapeLF] at g
 obtain ⟨a1,b1,rfl,g1,a2,b2,rfl,g2,a3,b3,rfl,g3,rfl⟩:=g
 obtain ⟨sl,r1,rfl⟩:=Zx tu_3 g1
 obtain ⟨cp,r2,rfl⟩:=Zx tu_3 g2
 obtain ⟨n,e,hn',rfl,l,h⟩:=Yb tu_25 g3
 obtain ⟨z,rfl,q⟩:=pick_all2 (f:=St.cells) (p:=St.Lim) (fun x hx=>shapeL_St L hL _ x (h x hx))
 exact ⟨.mk sl cp z,by rw [cellsOf_St,← St.cellss_map];simp [Fu.cells],I64.of r1,I64.of r2,(St.lims_iff _).2 q⟩
theorem shapeL_Af {L:Nat} (hL:L≤140737488355328) {fuel:Nat} {cs:List AV} (h:ShapeL Try.prog L fuel 24 cs):∃ a:Af,cs=a.cells∧a.Lim:=by
 obtain ⟨n',hn',g⟩:=shapeL_struct Try.underlying24 h
 simp only [ShapeLF] at g
 obtain ⟨a1,b1,rfl,g1,a2,b2,rfl,g2,a3,b3,rfl,g3,a4,b4,rfl,g4,rfl⟩:=g
 obtain ⟨n,e,hn',rfl,l,h⟩:=Yb tu_22 g1
 obtain ⟨fu,rfl,q⟩:=pick_all2 (f:=Fu.cells) (p:=Fu.Lim) (fun x hx=>shapeL_Fu hL (h x hx))
 obtain ⟨gl,r2,rfl⟩:=Zx tu_3 g2
 obtain ⟨ys,r3,rfl⟩:=Zx tu_3 g3
 obtain ⟨no,r4,rfl⟩:=Zx tu_3 g4
 exact ⟨.mk fu gl ys no,by rw [cellsOf_Fu];simp [Af.cells,Fu.cellss],q,I64.of r2,I64.of r3,I64.of r4⟩
abbrev S30:List TypeId:=[3,2,9,43,41,42,44,48,46,88,45,51,25,49,27,22,24]
theorem closed30:closedL Try.prog S30=true:=by kernel_rfl
end Go.Proofs.Ytbfogofpgcndfaa
namespace Go.Proofs.Ytbfogofpgcndfaa
open Go.ChangeShapes Go.WideShapes Go.ChangeAt Go.RowKit
section
variable {H:Type} {enc:TypeId × Value→H} {P:Program}
theorem trodAll_below (hl:laidOutB P=true) {W W':World} (hb:Below W.heap.size W W') :
    ∀ {ts:List TypeId} {vs:List Value} {ds:List (DataW H)} {ps:List MemPlace},
     (∀ t∈ts,P.readableRec t=true∧t<P.types.size)→DataW.TrodAll enc P W 0 (fun _=>true) true ts vs ds ps →
     (∀ x∈ps,x.block<W.heap.size)→DataW.TrodAll enc P W' 0 (fun b=>decide (b<W.heap.size)) true ts vs ds ps
 | [],_,_,_,_,h,_=>by
  obtain ⟨rfl,rfl,rfl⟩:=trodAll_nil h
  exact trodAll_mk0
 | t::ts,_,_,_,hr,h,hlt=>by
  obtain ⟨v,vs,d,ds,p,q,rfl,rfl,rfl,h0,h1⟩:=trodAll_cons h
  exact trodAll_cons_mk (Below.trod hl (hr t by12).1 (hr t by12).2 h0 hb (fun x hx=>hlt x (by simp [hx])))
   (trodAll_below hl hb (fun t ht=>hr t (by simp [ht])) h1 (fun x hx=>hlt x (by simp [hx])))
theorem law_post {f:Func} {s:ChangeSpec} {W W':World} {args:Array Value} {ds gs:List (DataW H)} {before:List MemPlace} {tb:TypeId}
    (hl:laidOutB P=true) (hr:(f.params.toList.all fun t=>P.readableRec t && decide (t<P.types.size))=true)
    (hres:f.resultTypes=#[tb]) (htb:P.underlying tb=some .bool) (hvars:s.vars=[])
    (hs1:(s.fn H (ds++gs)).results=[.lit (.bool true)]) (hs2:(s.fn H (ds++gs)).args=ds) (hs3:(s.fn H (ds++gs)).vars=[])
    (hW:DataW.Whole enc P f.params.toList s.vars false W args.toList ds gs before) (hb:Below W.heap.size W W') :
    s.post enc P f false true false false W args (.bool true) W':=by
 have hW':=hW
 obtain ⟨p,q,hA,hV,rfl,hfz,hnd⟩:=hW
 have hr':∀ t∈f.params.toList,P.readableRec t=true∧t<P.types.size:=by
  intro t ht
  have:=List.all_eq_true.1 hr t ht
  simpa using this
 refine ⟨ds,gs,p++q,[],p,[],hW',?_,?_,?_,hb.frame _,fun h=>by cases h⟩
 ·rw [hs1,hres]
  exact trodAll_mk1 (shut_bool htb true)
 ·rw [hs2]
  exact trodAll_below hl hb hr' hA (fun x hx=>by simpa using hW'.lt x (by simp [hx]))
 rw [hs3,hvars]
 rfl
end
open Go.RowKit
theorem upto_witness {H:Type} {enc:TypeId × Value→H} {C:Checked} {os:Os} {f:FuncId} {fn:Func} {s:OpenSpec} {k:(H:Type)→List (DataW H)→Bool} (hk:s.cond=some k) {conds:List PathCond} {apart:Bool} (modest:Bool) (i:Input) (fuel:Nat)
    (hv:(World.plainHolding C.prog os i).variablesB C.prog=true)
    (hr:((World.plainHolding C.prog os i).heap.toList.drop C.prog.globals.size).take ((begin C.prog (fun _ _=>0) default).world.heap.size - C.prog.globals.size) =
     (begin C.prog (fun _ _=>0) default).world.heap.toList.drop C.prog.globals.size)
    (hok:Input.okWideB C.prog (World.plainHolding C.prog os i) f ⟨#[],i.args,[]⟩=true)
    (hx:(match DataW.whole enc C.prog (World.plainHolding C.prog os i).memory fn.params.toList s.vars apart i.args.toList fuel with|some x=>conds.all (PathCond.test C.prog ⟨fn.params.toList,x.1,s.bare.plain.varTypes C.prog,x.2.1⟩) && k H (x.1++x.2.1)|none=>false)=true)
    (hsz:s.bare.sizedB enc C.prog fn apart (World.plainHolding C.prog os i).memory i.args fuel=true) :
    ∃ (w:World) (tape:Tape) (i:Input),w.os=os∧(w.forCall tape i).Shaped C.prog∧i.vars=[]∧Input.okWide C.prog (w.forCall tape i) .any w.heap.size f i ∧
     s.pre6 enc C.prog fn conds apart (w.forCall tape i).memory i.args∧({ modest:=modest }:Assume).holds C.prog (lone (Frame.enter C.prog f i.args .normal) [] (w.forCall tape i)):=by
 cases e:DataW.whole enc C.prog (World.plainHolding C.prog os i).memory fn.params.toList s.vars apart i.args.toList fuel with
 | none=>rw [e] at hx;cases hx
 | some x =>
  rw [e] at hx
  simp only [Bool.and_eq_true] at hx
  exact OpenSpec.witness hk modest i fuel hv hr hok e hx.1 hx.2 hsz
theorem uptoBulk_at {H:Type}:∀ {ds:List (DataW H)} {j:Nat} {d:DataW H},ds[j]?=some d→uptoBulk d≤uptoBulkAll ds
 | [],_,_,h=>by simp at h
 | x::ds,0,d,h=>by simp at h;subst h;simp only [uptoBulk,uptoBulkAll,Rows.uptoBulkAll];omega
 | x::ds,j+1,d,h=>by
  have:=uptoBulk_at (ds:=ds) (j:=j) (by simpa using h)
  simp only [uptoBulk,uptoBulkAll,Rows.uptoBulkAll] at *;omega
theorem upto_le {H:Type} {ds:List (DataW H)} {j:Nat} {d:DataW H} (hk:Rows.uptoSmall H ds=true) (h:ds[j]?=some d):uptoBulk d≤1048576:=by
 have h1:=uptoBulk_at h
 have h2:uptoBulkAll ds≤1048576:=of_decide_eq_true hk
 omega
mutual
def De.cnt:De→Int→Int
 | .mk _ _ p cs es,m=>De.cnts es (Dc.cnts cs (1+p.length) m) m
def Dc.cnts:List Dc→Int→Int→Int
 | [],n,_=>n
 | .mk _ _ _ d::cs,n,m=>if n<m then Dc.cnts cs (n+d.cnt (m - n)) m else n
def De.cnts:List De→Int→Int→Int
 | [],n,_=>n
 | d::es,n,m=>if n<m then De.cnts es (n+d.cnt (m - n)) m else n
end
mutual
theorem De.cnt_b:∀ (d:De) (m:Int),1≤d.cnt m∧d.cnt m≤d.size
 | .mk _ _ p cs es,m=>by
  rw [De.cnt,De.size]
  have h1:=Dc.cnts_b cs (1+p.length) m
  have h2:=De.cnts_b es (Dc.cnts cs (1+p.length) m) m
  omega
theorem Dc.cnts_b:∀ (l:List Dc) (n m:Int),n≤Dc.cnts l n m∧Dc.cnts l n m≤n+Dc.sizes l
 | [],n,_=>by rw [Dc.cnts,Dc.sizes];omega
 | .mk _ _ _ d::cs,n,m=>by
  have h1:=De.cnt_b d (m - n)
  have h2:=Dc.cnts_b cs (n+d.cnt (m - n)) m
  rw [Dc.cnts,Dc.sizes,Dc.size]
  split <;> omega
theorem De.cnts_b:∀ (l:List De) (n m:Int),n≤De.cnts l n m∧De.cnts l n m≤n+De.sizes l
 | [],n,_=>by rw [De.cnts,De.sizes];omega
 | d::cs,n,m=>by
  have h1:=De.cnt_b d (m - n)
  have h2:=De.cnts_b cs (n+d.cnt (m - n)) m
  rw [De.cnts,De.sizes]
  split <;> omega
end
theorem Dc.cnts_ge {l:List Dc} {n m:Int} (h:¬ n<m):Dc.cnts l n m=n:=by
 cases l with
 | nil=>rfl
 | cons x l=>cases x;rw [Dc.cnts,if_neg h]
theorem De.cnts_ge {l:List De} {n m:Int} (h:¬ n<m):De.cnts l n m=n:=by
 cases l with
 | nil=>rfl
 | cons x l=>rw [De.cnts,if_neg h]
theorem Dc.cnts_drop {l:List Dc} {i:Nat} {x:Dc} {n m:Int} (h:l[i]?=some x) (hn:n<m):Dc.cnts (l.drop i) n m=Dc.cnts (l.drop (i+1)) (n+x.d.cnt (m - n)) m:=by
 obtain ⟨k,s,a,d⟩:=x
 rw [Ye h,Dc.cnts,if_pos hn];rfl
theorem De.cnts_drop {l:List De} {i:Nat} {x:De} {n m:Int} (h:l[i]?=some x) (hn:n<m):De.cnts (l.drop i) n m=De.cnts (l.drop (i+1)) (n+x.cnt (m - n)) m:=by
 rw [Ye h,De.cnts,if_pos hn]
def capW (cp:List (List Ato)):Nat:=(cp.map fun c=>1+c.length).sum
theorem capW_take {l:List (List Ato)} {i:Nat} {x:List Ato} (h:l[i]?=some x):capW (l.take (i+1))=capW (l.take i)+(1+x.length):=by
 unfold capW
 rw [List.take_add_one,h]
 simp
theorem capW_le (l:List (List Ato)) (i:Nat):capW (l.take i)≤capW l:=by
 have e:capW l=capW (l.take i)+capW (l.drop i):=by
  unfold capW
  rw [← List.sum_append_nat,← List.map_append,List.take_append_drop]
 omega
mutual
def St.w:St→Nat
 | .mk _ _ _ _ ar fs cp d arms=>1+ar.length+fs.length+d.size+capW cp+St.wss arms
def St.ws:List St→Nat
 | []=>0
 | x::l=>x.w+St.ws l
def St.wss:List (List St)→Nat
 | []=>0
 | x::l=>1+St.ws x+St.wss l
end
theorem St.wss_get:∀ {l:List (List St)} {i:Nat} {x:List St},l[i]?=some x→1+St.ws x≤St.wss l
 | d::l,0,x,h=>by simp at h;subst h;rw [St.wss];omega
 | d::l,i+1,x,h=>by
  have:=St.wss_get (l:=l) (i:=i) (x:=x) (by simpa using h)
  rw [St.wss];omega
mutual
def St.cnt:St→Int→Int→Int
 | .mk _ _ _ _ ar fs cp d arms,n,m=>St.cntss arms (n+(1+ar.length+fs.length+d.cnt m)+capW cp) m
def St.cnts:List St→Int→Int→Int
 | [],n,_=>n
 | x::l,n,m=>if x.cnt n m > m then x.cnt n m else St.cnts l (x.cnt n m) m
def St.cntss:List (List St)→Int→Int→Int
 | [],n,_=>n
 | x::l,n,m=>if n > m then n else St.cntss l (n+(1+St.cnts x 0 (m - n))) m
end
mutual
theorem St.cnt_b:∀ (x:St) (n m:Int),n≤x.cnt n m∧x.cnt n m≤n+x.w
 | .mk _ _ _ _ ar fs cp d arms,n,m=>by
  have h1:=De.cnt_b d m
  have h2:=St.cntss_b arms (n+(1+ar.length+fs.length+d.cnt m)+capW cp) m
  rw [St.cnt,St.w]
  omega
theorem St.cnts_b:∀ (l:List St) (n m:Int),n≤St.cnts l n m∧St.cnts l n m≤n+St.ws l
 | [],n,_=>by rw [St.cnts,St.ws];omega
 | x::l,n,m=>by
  have h1:=St.cnt_b x n m
  have h2:=St.cnts_b l (x.cnt n m) m
  rw [St.cnts,St.ws]
  split <;> omega
theorem St.cntss_b:∀ (l:List (List St)) (n m:Int),n≤St.cntss l n m∧St.cntss l n m≤n+St.wss l
 | [],n,_=>by rw [St.cntss,St.wss];omega
 | x::l,n,m=>by
  have h1:=St.cnts_b x 0 (m - n)
  have h2:=St.cntss_b l (n+(1+St.cnts x 0 (m - n))) m
  rw [St.cntss,St.wss]
  split <;> omega
end
theorem St.cntss_ge {l:List (List St)} {n m:Int} (h:n > m):St.cntss l n m=n:=by
 cases l with
 | nil=>rfl
 | cons x l=>rw [St.cntss,if_pos h]
theorem St.cntss_drop {l:List (List St)} {i:Nat} {x:List St} {n m:Int} (h:l[i]?=some x) (hn:¬ n > m):St.cntss (l.drop i) n m=St.cntss (l.drop (i+1)) (n+(1+St.cnts x 0 (m - n))) m:=by
 rw [Ye h,St.cntss,if_neg hn]
theorem St.cnts_drop {l:List St} {i:Nat} {x:St} {n m:Int} (h:l[i]?=some x):St.cnts (l.drop i) n m=if x.cnt n m > m then x.cnt n m else St.cnts (l.drop (i+1)) (x.cnt n m) m:=by
 rw [Ye h,St.cnts]
-- bulk
theorem nums_bulk (l:List Int):bulkss (nums l)=l.length:=by
 induction l with
 | nil=>rfl
 | cons x l ih=>simp only [nums,List.map_cons,bulkss,bulks,AV.bulk,List.length_cons] at ih ⊢;omega
theorem ato_bulk (l:List Ato):bulkss (Ato.cellss l)=2 * l.length:=by
 induction l with
 | nil=>rfl
 | cons x l ih =>
  obtain ⟨k,n⟩:=x
  simp only [Ato.cellss,List.map_cons,bulkss,Ato.cells,bulks,AV.bulk,List.length_cons] at ih ⊢;omega
theorem atos_bulk (l:List (List Ato)):capW l≤bulkss (Ato.cellsss l):=by
 induction l with
 | nil=>exact Nat.le_refl _
 | cons x l ih =>
  have:=ato_bulk x
  simp only [capW,Ato.cellsss,List.map_cons,List.sum_cons,bulkss,bulks,AV.bulk] at ih ⊢;omega
mutual
theorem De.bulk:∀ d:De,d.size≤bulks d.cells
 | .mk k a p cs es=>by
  have h1:=Dc.bulks cs
  have h2:=De.bulks es
  have h3:=nums_bulk p
  simp only [De.size,De.cells,Go.Proofs.Ytbfogofpgcndfaa.bulks,AV.bulk]
  omega
theorem Dc.bulks:∀ l:List Dc,Dc.sizes l≤bulkss (Dc.cellss l)
 | []=>Nat.zero_le _
 | .mk k s n d::l=>by
  have h1:=De.bulk d
  have h2:=Dc.bulks l
  simp only [Dc.sizes,Dc.size,Dc.cellss,bulkss,Dc.cells,Go.Proofs.Ytbfogofpgcndfaa.bulks,AV.bulk]
  omega
theorem De.bulks:∀ l:List De,De.sizes l≤bulkss (De.cellss l)
 | []=>Nat.zero_le _
 | d::l=>by
  have h1:=De.bulk d
  have h2:=De.bulks l
  simp only [De.sizes,De.cellss,bulkss]
  omega
end
mutual
theorem St.bulk:∀ x:St,x.size≤2 * bulks x.cells∧x.w≤bulks x.cells
 | .mk k t n s ar fs cp d arms=>by
  have h1:=St.bulkss arms
  have h2:=De.bulk d
  have h3:=nums_bulk fs
  have h4:=ato_bulk ar
  have h5:=atos_bulk cp
  simp only [St.size,St.w,St.cells,Go.Proofs.Ytbfogofpgcndfaa.bulks,bulks_app,AV.bulk]
  omega
theorem St.bulks:∀ l:List St,St.sizes l≤2 * bulkss (St.cellss l)∧St.ws l≤bulkss (St.cellss l)
 | []=>⟨Nat.zero_le _,Nat.zero_le _⟩
 | x::l=>by
  have h1:=St.bulk x
  have h2:=St.bulks l
  simp only [St.sizes,St.ws,St.cellss,Go.Proofs.Ytbfogofpgcndfaa.bulkss]
  omega
theorem St.bulkss:∀ l:List (List St),St.sizess l≤2 * bulkss (St.cellsss l)∧St.wss l≤bulkss (St.cellsss l)
 | []=>⟨Nat.zero_le _,Nat.zero_le _⟩
 | x::l=>by
  have h1:=St.bulks x
  have h2:=St.bulkss l
  simp only [St.sizess,St.wss,St.cellsss,Go.Proofs.Ytbfogofpgcndfaa.bulkss,Go.Proofs.Ytbfogofpgcndfaa.bulks,AV.bulk]
  omega
end
open Classical in
noncomputable def firstQ {α:Type} (p:α→Prop):List α→Nat→Int
 | [],_ => -1
 | x::xs,i=>if p x then i else firstQ p xs (i+1)
theorem firstQ_nil {α:Type} (p:α→Prop) (i:Nat):firstQ p [] i = -1:=rfl
theorem firstQ_yes {α:Type} {p:α→Prop} {x:α} {xs:List α} {i:Nat} (h:p x):firstQ p (x::xs) i=i:=by simp [firstQ,h]
theorem firstQ_no {α:Type} {p:α→Prop} {x:α} {xs:List α} {i:Nat} (h:¬ p x):firstQ p (x::xs) i=firstQ p xs (i+1):=by simp [firstQ,h]
theorem firstQ_iff {α:Type} (p:α→Prop):∀ (l:List α) (i:Nat),0≤firstQ p l i↔∃ x∈l,p x
 | [],i=>by simp [firstQ]
 | x::xs,i=>by
  by_cases h:p x
  ·rw [firstQ_yes h];simp [h]
  rw [firstQ_no h,firstQ_iff p xs];simp [h]
theorem not_ex {α:Type} (p:α→Prop) (l:List α):(¬ ∃ x∈l,¬ p x)↔∀ x∈l,p x:=by
 constructor
 ·intro h x hx
  exact Classical.byContradiction fun k=>h ⟨x,hx,k⟩
 rintro h ⟨x,hx,k⟩
 exact k (h x hx)
theorem IdxF_S (p:ByteArray→Prop) (g:FuncId) (fs cs:List AV) (l:List ByteArray) (hg:∀ x∈l,BCall Try.prog g (fs++[(.val (.string x))]++cs) (p x)):PCall Try.prog 72 [.seq 1 (strs l),.clo (.func g) fs cs] (.val (.int .i64 (firstQ p l 0))):=by
 have hl:=strs_len l
 refine Zc Try.func72 V (by kernel_rfl) V (Yq V) ?_
 refine QJ ?_
 refine c_lens (t:=0) V (.seq _ _) (fun hmax=>?_)
 refine QaL ?_
 refine QbP ?_;intro n7
 refine Qv ?_
 apply Zu (rg [(2,5),(8,11)]) (σ:=Nat) (fun zz=>match zz with|i=>[(8,.val (.int .i64 i))]) (fun zz=>match zz with|i=>i≤l.length∧firstQ p (l.drop i) i=firstQ p l 0) (fun zz=>match zz with|i=>l.length - i) (0)
 ·repeat' (first|exact Yt|apply Yr rfl|apply Ys rfl)
 ·exact ⟨by omega,V⟩
 ·exact by2
 rintro i hI
 try dsimp only [List.cons_append,List.nil_append] at hI ⊢
 obtain ⟨hi,hu⟩:=hI
 refine Qw ?_;intro c9 h9
 refine Qg ?_
 obtain ⟨rfl,g9⟩|⟨rfl,g9⟩:=Za h9
 ·refine Q9 ?_
  refine Zd V V (Ym _) by1 ⟨?_,V⟩
  rw [List.drop_eq_nil_of_le by11] at hu
  rw [← hu,firstQ_nil]
 refine Qp ?_
 obtain ⟨y,hxy⟩:=Zh (l:=l) (i:=i) by6
 have hcy:=strs_get hxy
 have hmy:=Yu hxy
 refine Qn ?_
 refine Qu ?_
 rw [Ye hxy] at hu
 refine Qaz ?_
 refine Qa ?_
 refine QcZ ?_
 refine QR ?_
 refine Zb 16 V V V (Zt (xs:=[.tmp 15]) V V V (hg _ hmy) by0 ?_);intro c16 h16
 refine Qd ?_
 obtain ⟨rfl,g16⟩|⟨rfl,g16⟩:=Za h16
 ·refine Qaa ?_
  exact ⟨i+1,⟨by omega,by rw [← hu,firstQ_no g16]⟩,by simp;omega,by2,by1⟩
 refine QaA ?_
 exact Zd V V (Ym _) by1 ⟨by rw [← hu,firstQ_yes g16],V⟩
theorem ConF_S (p:ByteArray→Prop) (g:FuncId) (fs cs:List AV) (l:List ByteArray) (hg:∀ x∈l,BCall Try.prog g (fs++[(.val (.string x))]++cs) (p x)):BCall Try.prog 42 [.seq 1 (strs l),.clo (.func g) fs cs] (∃ x∈l,p x):=by
 have H:=IdxF_S p g fs cs l hg
 have hf:=firstQ_iff p l 0
 refine Zc Try.func42 V (by kernel_rfl) V (Yq V) ?_
 refine QaM ?_
 refine Zb 7 V V V (Zl (xs:=[.tmp 5,.tmp 6]) V V (H) by0 ?_)
 refine Qak ?_;intro c8 h8
 refine Qe ?_
 exact Zd V V (Ym _) by1 ⟨⟨_,h8.trans hf,V⟩,V⟩
theorem Evn_S (p:Prop) (g:FuncId) (fs cs:List AV) (x:ByteArray) (hg:BCall Try.prog g (fs++[(.val (.string x))]++cs) p):BCall Try.prog 43 [(.val (.string x)),.cptr [.clo (.func g) fs cs]] (¬ p):=by
 refine Zc Try.func43 V (by kernel_rfl) V (Yq V) ?_
 refine Qi ?_
 refine QaY ?_
 refine Qa ?_
 refine Zb 6 V V V (Zt (xs:=[.tmp 5]) V V V (hg) by0 ?_);intro c6 h6
 refine QG ?_;intro c7 h7
 try replace h7:=Yg h7 h6
 refine Qe ?_
 exact Zd V V (Ym _) by1 ⟨⟨_,h7,V⟩,V⟩
theorem Ev_S (p:ByteArray→Prop) (g:FuncId) (fs cs:List AV) (l:List ByteArray) (hg:∀ x∈l,BCall Try.prog g (fs++[(.val (.string x))]++cs) (p x)):BCall Try.prog 27 [.seq 1 (strs l),.clo (.func g) fs cs] (∀ x∈l,p x):=by
 have H:=ConF_S (fun x=>¬ p x) 43 [] [.cptr [.clo (.func g) fs cs]] l (fun x hx=>Evn_S (p x) g fs cs x (hg x hx))
 refine Zc Try.func27 V (by kernel_rfl) V (Yq V) ?_
 refine QaZ ?_
 refine Zb 7 V V V (Zk (xs:=[.tmp 5,.tmp 6]) V V (H) by0 ?_);intro c7 h7
 refine QG ?_;intro c8 h8
 try replace h8:=Yg h8 h7
 refine Qe ?_
 exact Zd V V (Ym _) by1 ⟨⟨_,h8.trans (not_ex p l),V⟩,V⟩
theorem IdxF_Ato (p:Ato→Prop) (g:FuncId) (fs cs:List AV) (l:List Ato) (hg:∀ x∈l,BCall Try.prog g (fs++[(.agg (x).cells)]++cs) (p x)):PCall Try.prog 89 [.seq 2 (Ato.cellss l),.clo (.func g) fs cs] (.val (.int .i64 (firstQ p l 0))):=by
 have hl:=Ato.cellss_len l
 refine Zc Try.func89 V (by kernel_rfl) V (Yq V) ?_
 refine QJ ?_
 refine c_lens (t:=0) V (.seq _ _) (fun hmax=>?_)
 refine QaL ?_
 refine Qbv ?_;intro n7
 refine Qv ?_
 apply Zu (rg [(2,5),(8,11)]) (σ:=Nat) (fun zz=>match zz with|i=>[(8,.val (.int .i64 i))]) (fun zz=>match zz with|i=>i≤l.length∧firstQ p (l.drop i) i=firstQ p l 0) (fun zz=>match zz with|i=>l.length - i) (0)
 ·repeat' (first|exact Yt|apply Yr rfl|apply Ys rfl)
 ·exact ⟨by omega,V⟩
 ·exact by2
 rintro i hI
 try dsimp only [List.cons_append,List.nil_append] at hI ⊢
 obtain ⟨hi,hu⟩:=hI
 refine Qw ?_;intro c9 h9
 refine Qg ?_
 obtain ⟨rfl,g9⟩|⟨rfl,g9⟩:=Za h9
 ·refine Q9 ?_
  refine Zd V V (Ym _) by1 ⟨?_,V⟩
  rw [List.drop_eq_nil_of_le by11] at hu
  rw [← hu,firstQ_nil]
 refine Qp ?_
 obtain ⟨⟨yk,yn⟩,hxy⟩:=Zh (l:=l) (i:=i) by6
 have hcy:=Ato.cellss_get hxy
 have hmy:=Yu hxy
 refine Qn ?_
 refine Qu ?_
 rw [Ye hxy] at hu
 refine Qaz ?_
 refine Qa ?_
 refine Zb 14 V V V (Zj V te_42 V (.seq _ _) V V by9 ?_)
 refine Qct ?_
 refine Zb 16 V V V (Zt (xs:=[.tmp 15]) V V V (hg _ hmy) by0 ?_);intro c16 h16
 refine Qd ?_
 obtain ⟨rfl,g16⟩|⟨rfl,g16⟩:=Za h16
 ·refine Qaa ?_
  exact ⟨i+1,⟨by omega,by rw [← hu,firstQ_no g16]⟩,by simp;omega,by2,by1⟩
 refine QaA ?_
 exact Zd V V (Ym _) by1 ⟨by rw [← hu,firstQ_yes g16],V⟩
theorem ConF_Ato (p:Ato→Prop) (g:FuncId) (fs cs:List AV) (l:List Ato) (hg:∀ x∈l,BCall Try.prog g (fs++[(.agg (x).cells)]++cs) (p x)):BCall Try.prog 74 [.seq 2 (Ato.cellss l),.clo (.func g) fs cs] (∃ x∈l,p x):=by
 have H:=IdxF_Ato p g fs cs l hg
 have hf:=firstQ_iff p l 0
 refine Zc Try.func74 V (by kernel_rfl) V (Yq V) ?_
 refine QaM ?_
 refine Zb 7 V V V (Zl (xs:=[.tmp 5,.tmp 6]) V V (H) by0 ?_)
 refine Qak ?_;intro c8 h8
 refine Qe ?_
 exact Zd V V (Ym _) by1 ⟨⟨_,h8.trans hf,V⟩,V⟩
theorem Evn_Ato (p:Prop) (g:FuncId) (fs cs:List AV) (x:Ato) (hg:BCall Try.prog g (fs++[(.agg (x).cells)]++cs) p):BCall Try.prog 75 [(.agg (x).cells),.cptr [.clo (.func g) fs cs]] (¬ p):=by
 obtain ⟨yk,yn⟩:=x
 refine Zc Try.func75 V (by kernel_rfl) V (Yq V) ?_
 refine Qi ?_
 refine Zb 2 V V V (op_boxe (cs':=[_,_]) V V V V ?_);intro b2
 refine QaY ?_
 refine Qc0 ?_
 refine Zb 6 V V V (Zt (xs:=[.tmp 5]) V V V (hg) by0 ?_);intro c6 h6
 refine QG ?_;intro c7 h7
 try replace h7:=Yg h7 h6
 refine Qe ?_
 exact Zd V V (Ym _) by1 ⟨⟨_,h7,V⟩,V⟩
theorem Ev_Ato (p:Ato→Prop) (g:FuncId) (fs cs:List AV) (l:List Ato) (hg:∀ x∈l,BCall Try.prog g (fs++[(.agg (x).cells)]++cs) (p x)):BCall Try.prog 49 [.seq 2 (Ato.cellss l),.clo (.func g) fs cs] (∀ x∈l,p x):=by
 have H:=ConF_Ato (fun x=>¬ p x) 75 [] [.cptr [.clo (.func g) fs cs]] l (fun x hx=>Evn_Ato (p x) g fs cs x (hg x hx))
 refine Zc Try.func49 V (by kernel_rfl) V (Yq V) ?_
 refine QaZ ?_
 refine Zb 7 V V V (Zk (xs:=[.tmp 5,.tmp 6]) V V (H) by0 ?_);intro c7 h7
 refine QG ?_;intro c8 h8
 try replace h8:=Yg h8 h7
 refine Qe ?_
 exact Zd V V (Ym _) by1 ⟨⟨_,h8.trans (not_ex p l),V⟩,V⟩
theorem IdxF_Is (p:Is→Prop) (g:FuncId) (fs cs:List AV) (l:List Is) (hg:∀ x∈l,BCall Try.prog g (fs++[(.agg (x).cells)]++cs) (p x)):PCall Try.prog 73 [.seq 7 (Is.cellss l),.clo (.func g) fs cs] (.val (.int .i64 (firstQ p l 0))):=by
 have hl:=Is.cellss_len l
 refine Zc Try.func73 V (by kernel_rfl) V (Yq V) ?_
 refine QJ ?_
 refine c_lens (t:=0) V (.seq _ _) (fun hmax=>?_)
 refine QaL ?_
 refine Qbw ?_;intro n7
 refine Qv ?_
 apply Zu (rg [(2,5),(8,11)]) (σ:=Nat) (fun zz=>match zz with|i=>[(8,.val (.int .i64 i))]) (fun zz=>match zz with|i=>i≤l.length∧firstQ p (l.drop i) i=firstQ p l 0) (fun zz=>match zz with|i=>l.length - i) (0)
 ·repeat' (first|exact Yt|apply Yr rfl|apply Ys rfl)
 ·exact ⟨by omega,V⟩
 ·exact by2
 rintro i hI
 try dsimp only [List.cons_append,List.nil_append] at hI ⊢
 obtain ⟨hi,hu⟩:=hI
 refine Qw ?_;intro c9 h9
 refine Qg ?_
 obtain ⟨rfl,g9⟩|⟨rfl,g9⟩:=Za h9
 ·refine Q9 ?_
  refine Zd V V (Ym _) by1 ⟨?_,V⟩
  rw [List.drop_eq_nil_of_le by11] at hu
  rw [← hu,firstQ_nil]
 refine Qp ?_
 obtain ⟨⟨yop,ya,yb,yn,yar,yfs,ycp⟩,hxy⟩:=Zh (l:=l) (i:=i) by6
 have hcy:=Is.cellss_get hxy
 have hmy:=Yu hxy
 refine Qn ?_
 refine Qu ?_
 rw [Ye hxy] at hu
 refine Qaz ?_
 refine Qa ?_
 refine Qcu ?_
 refine Qb6 ?_
 refine Zb 16 V V V (Zt (xs:=[.tmp 15]) V V V (hg _ hmy) by0 ?_);intro c16 h16
 refine Qd ?_
 obtain ⟨rfl,g16⟩|⟨rfl,g16⟩:=Za h16
 ·refine Qaa ?_
  exact ⟨i+1,⟨by omega,by rw [← hu,firstQ_no g16]⟩,by simp;omega,by2,by1⟩
 refine QaA ?_
 exact Zd V V (Ym _) by1 ⟨by rw [← hu,firstQ_yes g16],V⟩
theorem ConF_Is (p:Is→Prop) (g:FuncId) (fs cs:List AV) (l:List Is) (hg:∀ x∈l,BCall Try.prog g (fs++[(.agg (x).cells)]++cs) (p x)):BCall Try.prog 44 [.seq 7 (Is.cellss l),.clo (.func g) fs cs] (∃ x∈l,p x):=by
 have H:=IdxF_Is p g fs cs l hg
 have hf:=firstQ_iff p l 0
 refine Zc Try.func44 V (by kernel_rfl) V (Yq V) ?_
 refine QaM ?_
 refine Zb 7 V V V (Zl (xs:=[.tmp 5,.tmp 6]) V V (H) by0 ?_)
 refine Qak ?_;intro c8 h8
 refine Qe ?_
 exact Zd V V (Ym _) by1 ⟨⟨_,h8.trans hf,V⟩,V⟩
theorem Evn_Is (p:Prop) (g:FuncId) (fs cs:List AV) (x:Is) (hg:BCall Try.prog g (fs++[(.agg (x).cells)]++cs) p):BCall Try.prog 45 [(.agg (x).cells),.cptr [.clo (.func g) fs cs]] (¬ p):=by
 obtain ⟨yop,ya,yb,yn,yar,yfs,ycp⟩:=x
 refine Zc Try.func45 V (by kernel_rfl) V (Yq V) ?_
 refine Qi ?_
 refine Zb 2 V V V (op_boxe (cs':=[_,_,_,_,_,_,_]) V V V V ?_);intro b2
 refine QaY ?_
 refine QcY ?_
 refine Zb 6 V V V (Zt (xs:=[.tmp 5]) V V V (hg) by0 ?_);intro c6 h6
 refine QG ?_;intro c7 h7
 try replace h7:=Yg h7 h6
 refine Qe ?_
 exact Zd V V (Ym _) by1 ⟨⟨_,h7,V⟩,V⟩
theorem Ev_Is (p:Is→Prop) (g:FuncId) (fs cs:List AV) (l:List Is) (hg:∀ x∈l,BCall Try.prog g (fs++[(.agg (x).cells)]++cs) (p x)):BCall Try.prog 29 [.seq 7 (Is.cellss l),.clo (.func g) fs cs] (∀ x∈l,p x):=by
 have H:=ConF_Is (fun x=>¬ p x) 45 [] [.cptr [.clo (.func g) fs cs]] l (fun x hx=>Evn_Is (p x) g fs cs x (hg x hx))
 refine Zc Try.func29 V (by kernel_rfl) V (Yq V) ?_
 refine QaZ ?_
 refine Zb 7 V V V (Zk (xs:=[.tmp 5,.tmp 6]) V V (H) by0 ?_);intro c7 h7
 refine QG ?_;intro c8 h8
 try replace h8:=Yg h8 h7
 refine Qe ?_
 exact Zd V V (Ym _) by1 ⟨⟨_,h8.trans (not_ex p l),V⟩,V⟩
theorem IdxF_Fu (p:Fu→Prop) (g:FuncId) (fs cs:List AV) (l:List Fu) (hg:∀ x∈l,BCall Try.prog g (fs++[(.agg (x).cells)]++cs) (p x)):PCall Try.prog 59 [.seq 3 (Fu.cellss l),.clo (.func g) fs cs] (.val (.int .i64 (firstQ p l 0))):=by
 have hl:=Fu.cellss_len l
 refine Zc Try.func59 V (by kernel_rfl) V (Yq V) ?_
 refine QJ ?_
 refine c_lens (t:=0) V (.seq _ _) (fun hmax=>?_)
 refine QaL ?_
 refine QbR ?_;intro n7
 refine Qv ?_
 apply Zu (rg [(2,5),(8,11)]) (σ:=Nat) (fun zz=>match zz with|i=>[(8,.val (.int .i64 i))]) (fun zz=>match zz with|i=>i≤l.length∧firstQ p (l.drop i) i=firstQ p l 0) (fun zz=>match zz with|i=>l.length - i) (0)
 ·repeat' (first|exact Yt|apply Yr rfl|apply Ys rfl)
 ·exact ⟨by omega,V⟩
 ·exact by2
 rintro i hI
 try dsimp only [List.cons_append,List.nil_append] at hI ⊢
 obtain ⟨hi,hu⟩:=hI
 refine Qw ?_;intro c9 h9
 refine Qg ?_
 obtain ⟨rfl,g9⟩|⟨rfl,g9⟩:=Za h9
 ·refine Q9 ?_
  refine Zd V V (Ym _) by1 ⟨?_,V⟩
  rw [List.drop_eq_nil_of_le by11] at hu
  rw [← hu,firstQ_nil]
 refine Qp ?_
 obtain ⟨y,hxy⟩:=Zh (l:=l) (i:=i) by11
 have hcy:=Fu.cellss_get hxy
 have hgy:=hg y (Yu hxy)
 rw [Ye hxy] at hu
 try obtain ⟨ysl,ycp,yb⟩:=y
 simp only [Fu.cells] at hcy
 simp only [Fu.cells] at hgy
 refine Qn ?_
 refine QaK ?_
 refine Qa ?_
 refine Zb 14 V V V (Zj V te_22 V (.seq _ _) V V by9 ?_)
 refine Qb7 ?_
 refine Zb 16 V V V (Zt (xs:=[.tmp 15]) V V V (hgy) by0 ?_);intro c16 h16
 refine Qd ?_
 obtain ⟨rfl,g16⟩|⟨rfl,g16⟩:=Za h16
 ·refine Qaa ?_
  exact ⟨i+1,⟨by omega,by rw [← hu,firstQ_no g16]⟩,by simp;omega,by2,by1⟩
 refine QaA ?_
 exact Zd V V (Ym _) by1 ⟨by rw [← hu,firstQ_yes g16],V⟩
theorem ConF_Fu (p:Fu→Prop) (g:FuncId) (fs cs:List AV) (l:List Fu) (hg:∀ x∈l,BCall Try.prog g (fs++[(.agg (x).cells)]++cs) (p x)):BCall Try.prog 35 [.seq 3 (Fu.cellss l),.clo (.func g) fs cs] (∃ x∈l,p x):=by
 have H:=IdxF_Fu p g fs cs l hg
 have hf:=firstQ_iff p l 0
 refine Zc Try.func35 V (by kernel_rfl) V (Yq V) ?_
 refine QaM ?_
 refine Zb 7 V V V (Zl (xs:=[.tmp 5,.tmp 6]) V V (H) by0 ?_)
 refine Qak ?_;intro c8 h8
 refine Qe ?_
 exact Zd V V (Ym _) by1 ⟨⟨_,h8.trans hf,V⟩,V⟩
theorem EvnA_Fu (p:Prop) (g:FuncId) (fs cs:List AV) (x:Fu) (hg:BCall Try.prog g (fs++[(.agg (x).cells)]++cs) p):BCall Try.prog 36 [(.agg (x).cells),.cptr [.clo (.func g) fs cs]] (¬ p):=by
 obtain ⟨ysl,ycp,yb⟩:=x
 simp only [Fu.cells] at hg ⊢
 refine Zc Try.func36 V (by kernel_rfl) V (Yq V) ?_
 refine Qi ?_
 refine Zb 2 V V V (op_boxe (cs':=[_,_,_]) V V V V ?_);intro b2
 refine QaY ?_
 refine Zb 5 V V V (Zs (cs':=[_,_,_]) (i:=0) V ta_27 V V V V (Zb 6 V V V (Zt (xs:=[.tmp 5]) V V V (hg) by0 ?_)));intro c6 h6
 refine QG ?_;intro c7 h7
 try replace h7:=Yg h7 h6
 refine Qe ?_
 exact Zd V V (Ym _) by1 ⟨⟨_,h7,V⟩,V⟩
theorem EvA_Fu (p:Fu→Prop) (g:FuncId) (fs cs:List AV) (l:List Fu) (hg:∀ x∈l,BCall Try.prog g (fs++[(.agg (x).cells)]++cs) (p x)):BCall Try.prog 20 [.seq 3 (Fu.cellss l),.clo (.func g) fs cs] (∀ x∈l,p x):=by
 have H:=ConF_Fu (fun x=>¬ p x) 36 [] [.cptr [.clo (.func g) fs cs]] l (fun x hx=>EvnA_Fu (p x) g fs cs x (hg x hx))
 refine Zc Try.func20 V (by kernel_rfl) V (Yq V) ?_
 refine QaZ ?_
 refine Zb 7 V V V (Zk (xs:=[.tmp 5,.tmp 6]) V V (H) by0 ?_);intro c7 h7
 refine QG ?_;intro c8 h8
 try replace h8:=Yg h8 h7
 refine Qe ?_
 exact Zd V V (Ym _) by1 ⟨⟨_,h8.trans (not_ex p l),V⟩,V⟩
theorem IdxF_St (p:St→Prop) (g:FuncId) (fs cs:List AV) (l:List St) (hg:∀ x∈l,BCall Try.prog g (fs++[(.agg (x).cells)]++cs) (p x)):PCall Try.prog 78 [.seq 13 (St.cellss l),.clo (.func g) fs cs] (.val (.int .i64 (firstQ p l 0))):=by
 have hl:=St.cellss_len l
 refine Zc Try.func78 V (by kernel_rfl) V (Yq V) ?_
 refine QJ ?_
 refine c_lens (t:=0) V (.seq _ _) (fun hmax=>?_)
 refine QaL ?_
 refine Qb8 ?_;intro n7
 refine Qv ?_
 apply Zu (rg [(2,5),(8,11)]) (σ:=Nat) (fun zz=>match zz with|i=>[(8,.val (.int .i64 i))]) (fun zz=>match zz with|i=>i≤l.length∧firstQ p (l.drop i) i=firstQ p l 0) (fun zz=>match zz with|i=>l.length - i) (0)
 ·repeat' (first|exact Yt|apply Yr rfl|apply Ys rfl)
 ·exact ⟨by omega,V⟩
 ·exact by2
 rintro i hI
 try dsimp only [List.cons_append,List.nil_append] at hI ⊢
 obtain ⟨hi,hu⟩:=hI
 refine Qw ?_;intro c9 h9
 refine Qg ?_
 obtain ⟨rfl,g9⟩|⟨rfl,g9⟩:=Za h9
 ·refine Q9 ?_
  refine Zd V V (Ym _) by1 ⟨?_,V⟩
  rw [List.drop_eq_nil_of_le by11] at hu
  rw [← hu,firstQ_nil]
 refine Qp ?_
 obtain ⟨y,hxy⟩:=Zh (l:=l) (i:=i) by11
 have hcy:=St.cellss_get hxy
 have hgy:=hg y (Yu hxy)
 rw [Ye hxy] at hu
 try obtain ⟨yk,yt,yn,ys,yar,yfs,ycp,⟨ydk,yda,ydp,ydc,yde⟩,yarms⟩:=y
 simp only [St.cells,De.cells,List.cons_append,List.nil_append] at hcy
 simp only [St.cells,De.cells,List.cons_append,List.nil_append] at hgy
 refine Qn ?_
 refine QaK ?_
 refine Qa ?_
 refine Zb 14 V V V (Zj V te_25 V (.seq _ _) V V by9 ?_)
 refine QbS ?_
 refine Zb 16 V V V (Zt (xs:=[.tmp 15]) V V V (hgy) by0 ?_);intro c16 h16
 refine Qd ?_
 obtain ⟨rfl,g16⟩|⟨rfl,g16⟩:=Za h16
 ·refine Qaa ?_
  exact ⟨i+1,⟨by omega,by rw [← hu,firstQ_no g16]⟩,by simp;omega,by2,by1⟩
 refine QaA ?_
 exact Zd V V (Ym _) by1 ⟨by rw [← hu,firstQ_yes g16],V⟩
theorem ConF_St (p:St→Prop) (g:FuncId) (fs cs:List AV) (l:List St) (hg:∀ x∈l,BCall Try.prog g (fs++[(.agg (x).cells)]++cs) (p x)):BCall Try.prog 60 [.seq 13 (St.cellss l),.clo (.func g) fs cs] (∃ x∈l,p x):=by
 have H:=IdxF_St p g fs cs l hg
 have hf:=firstQ_iff p l 0
 refine Zc Try.func60 V (by kernel_rfl) V (Yq V) ?_
 refine QaM ?_
 refine Zb 7 V V V (Zl (xs:=[.tmp 5,.tmp 6]) V V (H) by0 ?_)
 refine Qak ?_;intro c8 h8
 refine Qe ?_
 exact Zd V V (Ym _) by1 ⟨⟨_,h8.trans hf,V⟩,V⟩
theorem EvnA_St (p:Prop) (g:FuncId) (fs cs:List AV) (x:St) (hg:BCall Try.prog g (fs++[(.agg (x).cells)]++cs) p):BCall Try.prog 61 [(.agg (x).cells),.cptr [.clo (.func g) fs cs]] (¬ p):=by
 obtain ⟨yk,yt,yn,ys,yar,yfs,ycp,⟨ydk,yda,ydp,ydc,yde⟩,yarms⟩:=x
 simp only [St.cells,De.cells,List.cons_append,List.nil_append] at hg ⊢
 refine Zc Try.func61 V (by kernel_rfl) V (Yq V) ?_
 refine Qi ?_
 refine Zb 2 V V V (op_boxe (cs':=[_,_,_,_,_,_,_,_,_,_,_,_,_]) V V V V ?_);intro b2
 refine QaY ?_
 refine Qcv ?_
 refine Zb 6 V V V (Zt (xs:=[.tmp 5]) V V V (hg) by0 ?_);intro c6 h6
 refine QG ?_;intro c7 h7
 try replace h7:=Yg h7 h6
 refine Qe ?_
 exact Zd V V (Ym _) by1 ⟨⟨_,h7,V⟩,V⟩
theorem EvA_St (p:St→Prop) (g:FuncId) (fs cs:List AV) (l:List St) (hg:∀ x∈l,BCall Try.prog g (fs++[(.agg (x).cells)]++cs) (p x)):BCall Try.prog 37 [.seq 13 (St.cellss l),.clo (.func g) fs cs] (∀ x∈l,p x):=by
 have H:=ConF_St (fun x=>¬ p x) 61 [] [.cptr [.clo (.func g) fs cs]] l (fun x hx=>EvnA_St (p x) g fs cs x (hg x hx))
 refine Zc Try.func37 V (by kernel_rfl) V (Yq V) ?_
 refine QaZ ?_
 refine Zb 7 V V V (Zk (xs:=[.tmp 5,.tmp 6]) V V (H) by0 ?_);intro c7 h7
 refine QG ?_;intro c8 h8
 try replace h8:=Yg h8 h7
 refine Qe ?_
 exact Zd V V (Ym _) by1 ⟨⟨_,h8.trans (not_ex p l),V⟩,V⟩
theorem IdxF_Ls (p:(List St)→Prop) (g:FuncId) (fs cs:List AV) (l:List (List St)) (hg:∀ x∈l,BCall Try.prog g (fs++[(.seq 13 (St.cellss x))]++cs) (p x)):PCall Try.prog 95 [.seq 1 (St.cellsss l),.clo (.func g) fs cs] (.val (.int .i64 (firstQ p l 0))):=by
 have hl:=St.cellsss_len l
 refine Zc Try.func95 V (by kernel_rfl) V (Yq V) ?_
 refine QJ ?_
 refine c_lens (t:=0) V (.seq _ _) (fun hmax=>?_)
 refine QaL ?_
 refine QbF ?_;intro n7
 refine Qv ?_
 apply Zu (rg [(2,5),(8,11)]) (σ:=Nat) (fun zz=>match zz with|i=>[(8,.val (.int .i64 i))]) (fun zz=>match zz with|i=>i≤l.length∧firstQ p (l.drop i) i=firstQ p l 0) (fun zz=>match zz with|i=>l.length - i) (0)
 ·repeat' (first|exact Yt|apply Yr rfl|apply Ys rfl)
 ·exact ⟨by omega,V⟩
 ·exact by2
 rintro i hI
 try dsimp only [List.cons_append,List.nil_append] at hI ⊢
 obtain ⟨hi,hu⟩:=hI
 refine Qw ?_;intro c9 h9
 refine Qg ?_
 obtain ⟨rfl,g9⟩|⟨rfl,g9⟩:=Za h9
 ·refine Q9 ?_
  refine Zd V V (Ym _) by1 ⟨?_,V⟩
  rw [List.drop_eq_nil_of_le by11] at hu
  rw [← hu,firstQ_nil]
 refine Qp ?_
 obtain ⟨y,hxy⟩:=Zh (l:=l) (i:=i) by11
 have hcy:=St.cellsss_get hxy
 have hgy:=hg y (Yu hxy)
 rw [Ye hxy] at hu
 try obtain y:=y
 refine Qn ?_
 refine QaK ?_
 refine Qa ?_
 refine Zb 14 V V V (Zj V te_49 V (.seq _ _) V V by9 ?_)
 refine QR ?_
 refine Zb 16 V V V (Zt (xs:=[.tmp 15]) V V V (hgy) by0 ?_);intro c16 h16
 refine Qd ?_
 obtain ⟨rfl,g16⟩|⟨rfl,g16⟩:=Za h16
 ·refine Qaa ?_
  exact ⟨i+1,⟨by omega,by rw [← hu,firstQ_no g16]⟩,by simp;omega,by2,by1⟩
 refine QaA ?_
 exact Zd V V (Ym _) by1 ⟨by rw [← hu,firstQ_yes g16],V⟩
theorem ConF_Ls (p:(List St)→Prop) (g:FuncId) (fs cs:List AV) (l:List (List St)) (hg:∀ x∈l,BCall Try.prog g (fs++[(.seq 13 (St.cellss x))]++cs) (p x)):BCall Try.prog 87 [.seq 1 (St.cellsss l),.clo (.func g) fs cs] (∃ x∈l,p x):=by
 have H:=IdxF_Ls p g fs cs l hg
 have hf:=firstQ_iff p l 0
 refine Zc Try.func87 V (by kernel_rfl) V (Yq V) ?_
 refine QaM ?_
 refine Zb 7 V V V (Zl (xs:=[.tmp 5,.tmp 6]) V V (H) by0 ?_)
 refine Qak ?_;intro c8 h8
 refine Qe ?_
 exact Zd V V (Ym _) by1 ⟨⟨_,h8.trans hf,V⟩,V⟩
theorem EvnA_Ls (p:Prop) (g:FuncId) (fs cs:List AV) (x:(List St)) (hg:BCall Try.prog g (fs++[(.seq 13 (St.cellss x))]++cs) p):BCall Try.prog 88 [(.seq 13 (St.cellss x)),.cptr [.clo (.func g) fs cs]] (¬ p):=by
 refine Zc Try.func88 V (by kernel_rfl) V (Yq V) ?_
 refine Qi ?_
 refine QaY ?_
 refine Qa ?_
 refine Zb 6 V V V (Zt (xs:=[.tmp 5]) V V V (hg) by0 ?_);intro c6 h6
 refine QG ?_;intro c7 h7
 try replace h7:=Yg h7 h6
 refine Qe ?_
 exact Zd V V (Ym _) by1 ⟨⟨_,h7,V⟩,V⟩
theorem EvA_Ls (p:(List St)→Prop) (g:FuncId) (fs cs:List AV) (l:List (List St)) (hg:∀ x∈l,BCall Try.prog g (fs++[(.seq 13 (St.cellss x))]++cs) (p x)):BCall Try.prog 70 [.seq 1 (St.cellsss l),.clo (.func g) fs cs] (∀ x∈l,p x):=by
 have H:=ConF_Ls (fun x=>¬ p x) 88 [] [.cptr [.clo (.func g) fs cs]] l (fun x hx=>EvnA_Ls (p x) g fs cs x (hg x hx))
 refine Zc Try.func70 V (by kernel_rfl) V (Yq V) ?_
 refine QaZ ?_
 refine Zb 7 V V V (Zk (xs:=[.tmp 5,.tmp 6]) V V (H) by0 ?_);intro c7 h7
 refine QG ?_;intro c8 h8
 try replace h8:=Yg h8 h7
 refine Qe ?_
 exact Zd V V (Ym _) by1 ⟨⟨_,h8.trans (not_ex p l),V⟩,V⟩
theorem IdxF_I (p:Int→Prop) (g:FuncId) (fs cs:List AV) (l:List Int) (hg:∀ x∈l,BCall Try.prog g (fs++[(.val (.int .i64 x))]++cs) (p x)):PCall Try.prog 90 [.seq 1 (nums l),.clo (.func g) fs cs] (.val (.int .i64 (firstQ p l 0))):=by
 have hl:=nums_len l
 refine Zc Try.func90 V (by kernel_rfl) V (Yq V) ?_
 refine QJ ?_
 refine c_lens (t:=0) V (.seq _ _) (fun hmax=>?_)
 refine QaL ?_
 refine Qa6 ?_;intro n7
 refine Qv ?_
 apply Zu (rg [(2,5),(8,11)]) (σ:=Nat) (fun zz=>match zz with|i=>[(8,.val (.int .i64 i))]) (fun zz=>match zz with|i=>i≤l.length∧firstQ p (l.drop i) i=firstQ p l 0) (fun zz=>match zz with|i=>l.length - i) (0)
 ·repeat' (first|exact Yt|apply Yr rfl|apply Ys rfl)
 ·exact ⟨by omega,V⟩
 ·exact by2
 rintro i hI
 try dsimp only [List.cons_append,List.nil_append] at hI ⊢
 obtain ⟨hi,hu⟩:=hI
 refine Qw ?_;intro c9 h9
 refine Qg ?_
 obtain ⟨rfl,g9⟩|⟨rfl,g9⟩:=Za h9
 ·refine Q9 ?_
  refine Zd V V (Ym _) by1 ⟨?_,V⟩
  rw [List.drop_eq_nil_of_le by11] at hu
  rw [← hu,firstQ_nil]
 refine Qp ?_
 obtain ⟨y,hxy⟩:=Zh (l:=l) (i:=i) by11
 have hcy:=nums_get hxy
 have hgy:=hg y (Yu hxy)
 rw [Ye hxy] at hu
 try obtain y:=y
 refine Qn ?_
 refine QaK ?_
 refine Qa ?_
 refine Qcw ?_
 refine QR ?_
 refine Zb 16 V V V (Zt (xs:=[.tmp 15]) V V V (hgy) by0 ?_);intro c16 h16
 refine Qd ?_
 obtain ⟨rfl,g16⟩|⟨rfl,g16⟩:=Za h16
 ·refine Qaa ?_
  exact ⟨i+1,⟨by omega,by rw [← hu,firstQ_no g16]⟩,by simp;omega,by2,by1⟩
 refine QaA ?_
 exact Zd V V (Ym _) by1 ⟨by rw [← hu,firstQ_yes g16],V⟩
theorem ConF_I (p:Int→Prop) (g:FuncId) (fs cs:List AV) (l:List Int) (hg:∀ x∈l,BCall Try.prog g (fs++[(.val (.int .i64 x))]++cs) (p x)):BCall Try.prog 81 [.seq 1 (nums l),.clo (.func g) fs cs] (∃ x∈l,p x):=by
 have H:=IdxF_I p g fs cs l hg
 have hf:=firstQ_iff p l 0
 refine Zc Try.func81 V (by kernel_rfl) V (Yq V) ?_
 refine QaM ?_
 refine Zb 7 V V V (Zl (xs:=[.tmp 5,.tmp 6]) V V (H) by0 ?_)
 refine Qak ?_;intro c8 h8
 refine Qe ?_
 exact Zd V V (Ym _) by1 ⟨⟨_,h8.trans hf,V⟩,V⟩
theorem EvnA_I (p:Prop) (g:FuncId) (fs cs:List AV) (x:Int) (hg:BCall Try.prog g (fs++[(.val (.int .i64 x))]++cs) p):BCall Try.prog 82 [(.val (.int .i64 x)),.cptr [.clo (.func g) fs cs]] (¬ p):=by
 refine Zc Try.func82 V (by kernel_rfl) V (Yq V) ?_
 refine Qi ?_
 refine QaY ?_
 refine Qa ?_
 refine Zb 6 V V V (Zt (xs:=[.tmp 5]) V V V (hg) by0 ?_);intro c6 h6
 refine QG ?_;intro c7 h7
 try replace h7:=Yg h7 h6
 refine Qe ?_
 exact Zd V V (Ym _) by1 ⟨⟨_,h7,V⟩,V⟩
theorem EvA_I (p:Int→Prop) (g:FuncId) (fs cs:List AV) (l:List Int) (hg:∀ x∈l,BCall Try.prog g (fs++[(.val (.int .i64 x))]++cs) (p x)):BCall Try.prog 67 [.seq 1 (nums l),.clo (.func g) fs cs] (∀ x∈l,p x):=by
 have H:=ConF_I (fun x=>¬ p x) 82 [] [.cptr [.clo (.func g) fs cs]] l (fun x hx=>EvnA_I (p x) g fs cs x (hg x hx))
 refine Zc Try.func67 V (by kernel_rfl) V (Yq V) ?_
 refine QaZ ?_
 refine Zb 7 V V V (Zk (xs:=[.tmp 5,.tmp 6]) V V (H) by0 ?_);intro c7 h7
 refine QG ?_;intro c8 h8
 try replace h8:=Yg h8 h7
 refine Qe ?_
 exact Zd V V (Ym _) by1 ⟨⟨_,h8.trans (not_ex p l),V⟩,V⟩
theorem IdxF_Dc (p:Dc→Prop) (g:FuncId) (fs cs:List AV) (l:List Dc) (hg:∀ x∈l,BCall Try.prog g (fs++[(.agg (x).cells)]++cs) (p x)):PCall Try.prog 96 [.seq 8 (Dc.cellss l),.clo (.func g) fs cs] (.val (.int .i64 (firstQ p l 0))):=by
 have hl:=Dc.cellss_len l
 refine Zc Try.func96 V (by kernel_rfl) V (Yq V) ?_
 refine QJ ?_
 refine c_lens (t:=0) V (.seq _ _) (fun hmax=>?_)
 refine QaL ?_
 refine Qb9 ?_;intro n7
 refine Qv ?_
 apply Zu (rg [(2,5),(8,11)]) (σ:=Nat) (fun zz=>match zz with|i=>[(8,.val (.int .i64 i))]) (fun zz=>match zz with|i=>i≤l.length∧firstQ p (l.drop i) i=firstQ p l 0) (fun zz=>match zz with|i=>l.length - i) (0)
 ·repeat' (first|exact Yt|apply Yr rfl|apply Ys rfl)
 ·exact ⟨by omega,V⟩
 ·exact by2
 rintro i hI
 try dsimp only [List.cons_append,List.nil_append] at hI ⊢
 obtain ⟨hi,hu⟩:=hI
 refine Qw ?_;intro c9 h9
 refine Qg ?_
 obtain ⟨rfl,g9⟩|⟨rfl,g9⟩:=Za h9
 ·refine Q9 ?_
  refine Zd V V (Ym _) by1 ⟨?_,V⟩
  rw [List.drop_eq_nil_of_le by11] at hu
  rw [← hu,firstQ_nil]
 refine Qp ?_
 obtain ⟨y,hxy⟩:=Zh (l:=l) (i:=i) by11
 have hcy:=Dc.cellss_get hxy
 have hgy:=hg y (Yu hxy)
 rw [Ye hxy] at hu
 try obtain ⟨yk,ys,yn,⟨ydk,yda,ydp,ydc,yde⟩⟩:=y
 simp only [Dc.cells,De.cells] at hcy
 simp only [Dc.cells,De.cells] at hgy
 refine Qn ?_
 refine QaK ?_
 refine Qa ?_
 refine Zb 14 V V V (Zj V te_45 V (.seq _ _) V V by9 ?_)
 refine Qcx ?_
 refine Zb 16 V V V (Zt (xs:=[.tmp 15]) V V V (hgy) by0 ?_);intro c16 h16
 refine Qd ?_
 obtain ⟨rfl,g16⟩|⟨rfl,g16⟩:=Za h16
 ·refine Qaa ?_
  exact ⟨i+1,⟨by omega,by rw [← hu,firstQ_no g16]⟩,by simp;omega,by2,by1⟩
 refine QaA ?_
 exact Zd V V (Ym _) by1 ⟨by rw [← hu,firstQ_yes g16],V⟩
theorem ConF_Dc (p:Dc→Prop) (g:FuncId) (fs cs:List AV) (l:List Dc) (hg:∀ x∈l,BCall Try.prog g (fs++[(.agg (x).cells)]++cs) (p x)):BCall Try.prog 91 [.seq 8 (Dc.cellss l),.clo (.func g) fs cs] (∃ x∈l,p x):=by
 have H:=IdxF_Dc p g fs cs l hg
 have hf:=firstQ_iff p l 0
 refine Zc Try.func91 V (by kernel_rfl) V (Yq V) ?_
 refine QaM ?_
 refine Zb 7 V V V (Zl (xs:=[.tmp 5,.tmp 6]) V V (H) by0 ?_)
 refine Qak ?_;intro c8 h8
 refine Qe ?_
 exact Zd V V (Ym _) by1 ⟨⟨_,h8.trans hf,V⟩,V⟩
theorem EvnA_Dc (p:Prop) (g:FuncId) (fs cs:List AV) (x:Dc) (hg:BCall Try.prog g (fs++[(.agg (x).cells)]++cs) p):BCall Try.prog 92 [(.agg (x).cells),.cptr [.clo (.func g) fs cs]] (¬ p):=by
 obtain ⟨yk,ys,yn,⟨ydk,yda,ydp,ydc,yde⟩⟩:=x
 simp only [Dc.cells,De.cells] at hg ⊢
 refine Zc Try.func92 V (by kernel_rfl) V (Yq V) ?_
 refine Qi ?_
 refine Zb 2 V V V (op_boxe (cs':=[_,_,_,_,_,_,_,_]) V V V V ?_);intro b2
 refine QaY ?_
 refine Zb 5 V V V (Zs (cs':=[_,_,_,_,_,_,_,_]) (i:=0) V ta_88 V V V V (Zb 6 V V V (Zt (xs:=[.tmp 5]) V V V (hg) by0 ?_)));intro c6 h6
 refine QG ?_;intro c7 h7
 try replace h7:=Yg h7 h6
 refine Qe ?_
 exact Zd V V (Ym _) by1 ⟨⟨_,h7,V⟩,V⟩
theorem EvA_Dc (p:Dc→Prop) (g:FuncId) (fs cs:List AV) (l:List Dc) (hg:∀ x∈l,BCall Try.prog g (fs++[(.agg (x).cells)]++cs) (p x)):BCall Try.prog 84 [.seq 8 (Dc.cellss l),.clo (.func g) fs cs] (∀ x∈l,p x):=by
 have H:=ConF_Dc (fun x=>¬ p x) 92 [] [.cptr [.clo (.func g) fs cs]] l (fun x hx=>EvnA_Dc (p x) g fs cs x (hg x hx))
 refine Zc Try.func84 V (by kernel_rfl) V (Yq V) ?_
 refine QaZ ?_
 refine Zb 7 V V V (Zk (xs:=[.tmp 5,.tmp 6]) V V (H) by0 ?_);intro c7 h7
 refine QG ?_;intro c8 h8
 try replace h8:=Yg h8 h7
 refine Qe ?_
 exact Zd V V (Ym _) by1 ⟨⟨_,h8.trans (not_ex p l),V⟩,V⟩
theorem IdxF_De (p:De→Prop) (g:FuncId) (fs cs:List AV) (l:List De) (hg:∀ x∈l,BCall Try.prog g (fs++[(.agg (x).cells)]++cs) (p x)):PCall Try.prog 97 [.seq 5 (De.cellss l),.clo (.func g) fs cs] (.val (.int .i64 (firstQ p l 0))):=by
 have hl:=De.cellss_len l
 refine Zc Try.func97 V (by kernel_rfl) V (Yq V) ?_
 refine QJ ?_
 refine c_lens (t:=0) V (.seq _ _) (fun hmax=>?_)
 refine QaL ?_
 refine Qca ?_;intro n7
 refine Qv ?_
 apply Zu (rg [(2,5),(8,11)]) (σ:=Nat) (fun zz=>match zz with|i=>[(8,.val (.int .i64 i))]) (fun zz=>match zz with|i=>i≤l.length∧firstQ p (l.drop i) i=firstQ p l 0) (fun zz=>match zz with|i=>l.length - i) (0)
 ·repeat' (first|exact Yt|apply Yr rfl|apply Ys rfl)
 ·exact ⟨by omega,V⟩
 ·exact by2
 rintro i hI
 try dsimp only [List.cons_append,List.nil_append] at hI ⊢
 obtain ⟨hi,hu⟩:=hI
 refine Qw ?_;intro c9 h9
 refine Qg ?_
 obtain ⟨rfl,g9⟩|⟨rfl,g9⟩:=Za h9
 ·refine Q9 ?_
  refine Zd V V (Ym _) by1 ⟨?_,V⟩
  rw [List.drop_eq_nil_of_le by11] at hu
  rw [← hu,firstQ_nil]
 refine Qp ?_
 obtain ⟨y,hxy⟩:=Zh (l:=l) (i:=i) by11
 have hcy:=De.cellss_get hxy
 have hgy:=hg y (Yu hxy)
 rw [Ye hxy] at hu
 try obtain ⟨ydk,yda,ydp,ydc,yde⟩:=y
 simp only [De.cells] at hcy
 simp only [De.cells] at hgy
 refine Qn ?_
 refine QaK ?_
 refine Qa ?_
 refine Zb 14 V V V (Zj V te_46 V (.seq _ _) V V by9 ?_)
 refine QbG ?_
 refine Zb 16 V V V (Zt (xs:=[.tmp 15]) V V V (hgy) by0 ?_);intro c16 h16
 refine Qd ?_
 obtain ⟨rfl,g16⟩|⟨rfl,g16⟩:=Za h16
 ·refine Qaa ?_
  exact ⟨i+1,⟨by omega,by rw [← hu,firstQ_no g16]⟩,by simp;omega,by2,by1⟩
 refine QaA ?_
 exact Zd V V (Ym _) by1 ⟨by rw [← hu,firstQ_yes g16],V⟩
theorem ConF_De (p:De→Prop) (g:FuncId) (fs cs:List AV) (l:List De) (hg:∀ x∈l,BCall Try.prog g (fs++[(.agg (x).cells)]++cs) (p x)):BCall Try.prog 93 [.seq 5 (De.cellss l),.clo (.func g) fs cs] (∃ x∈l,p x):=by
 have H:=IdxF_De p g fs cs l hg
 have hf:=firstQ_iff p l 0
 refine Zc Try.func93 V (by kernel_rfl) V (Yq V) ?_
 refine QaM ?_
 refine Zb 7 V V V (Zl (xs:=[.tmp 5,.tmp 6]) V V (H) by0 ?_)
 refine Qak ?_;intro c8 h8
 refine Qe ?_
 exact Zd V V (Ym _) by1 ⟨⟨_,h8.trans hf,V⟩,V⟩
theorem EvnA_De (p:Prop) (g:FuncId) (fs cs:List AV) (x:De) (hg:BCall Try.prog g (fs++[(.agg (x).cells)]++cs) p):BCall Try.prog 94 [(.agg (x).cells),.cptr [.clo (.func g) fs cs]] (¬ p):=by
 obtain ⟨ydk,yda,ydp,ydc,yde⟩:=x
 simp only [De.cells] at hg ⊢
 refine Zc Try.func94 V (by kernel_rfl) V (Yq V) ?_
 refine Qi ?_
 refine Zb 2 V V V (op_boxe (cs':=[_,_,_,_,_]) V V V V ?_);intro b2
 refine QaY ?_
 refine Qcy ?_
 refine Zb 6 V V V (Zt (xs:=[.tmp 5]) V V V (hg) by0 ?_);intro c6 h6
 refine QG ?_;intro c7 h7
 try replace h7:=Yg h7 h6
 refine Qe ?_
 exact Zd V V (Ym _) by1 ⟨⟨_,h7,V⟩,V⟩
theorem EvA_De (p:De→Prop) (g:FuncId) (fs cs:List AV) (l:List De) (hg:∀ x∈l,BCall Try.prog g (fs++[(.agg (x).cells)]++cs) (p x)):BCall Try.prog 86 [.seq 5 (De.cellss l),.clo (.func g) fs cs] (∀ x∈l,p x):=by
 have H:=ConF_De (fun x=>¬ p x) 94 [] [.cptr [.clo (.func g) fs cs]] l (fun x hx=>EvnA_De (p x) g fs cs x (hg x hx))
 refine Zc Try.func86 V (by kernel_rfl) V (Yq V) ?_
 refine QaZ ?_
 refine Zb 7 V V V (Zk (xs:=[.tmp 5,.tmp 6]) V V (H) by0 ?_);intro c7 h7
 refine QG ?_;intro c8 h8
 try replace h8:=Yg h8 h7
 refine Qe ?_
 exact Zd V V (Ym _) by1 ⟨⟨_,h8.trans (not_ex p l),V⟩,V⟩
theorem EvnA_Ato (p:Prop) (g:FuncId) (fs cs:List AV) (x:Ato) (hg:BCall Try.prog g (fs++[(.agg (x).cells)]++cs) p):BCall Try.prog 79 [(.agg (x).cells),.cptr [.clo (.func g) fs cs]] (¬ p):=by
 obtain ⟨yk,yn⟩:=x
 simp only [Ato.cells] at hg ⊢
 refine Zc Try.func79 V (by kernel_rfl) V (Yq V) ?_
 refine Qi ?_
 refine Zb 2 V V V (op_boxe (cs':=[_,_]) V V V V ?_);intro b2
 refine QaY ?_
 refine Qc0 ?_
 refine Zb 6 V V V (Zt (xs:=[.tmp 5]) V V V (hg) by0 ?_);intro c6 h6
 refine QG ?_;intro c7 h7
 try replace h7:=Yg h7 h6
 refine Qe ?_
 exact Zd V V (Ym _) by1 ⟨⟨_,h7,V⟩,V⟩
theorem EvA_Ato (p:Ato→Prop) (g:FuncId) (fs cs:List AV) (l:List Ato) (hg:∀ x∈l,BCall Try.prog g (fs++[(.agg (x).cells)]++cs) (p x)):BCall Try.prog 63 [.seq 2 (Ato.cellss l),.clo (.func g) fs cs] (∀ x∈l,p x):=by
 have H:=ConF_Ato (fun x=>¬ p x) 79 [] [.cptr [.clo (.func g) fs cs]] l (fun x hx=>EvnA_Ato (p x) g fs cs x (hg x hx))
 refine Zc Try.func63 V (by kernel_rfl) V (Yq V) ?_
 refine QaZ ?_
 refine Zb 7 V V V (Zk (xs:=[.tmp 5,.tmp 6]) V V (H) by0 ?_);intro c7 h7
 refine QG ?_;intro c8 h8
 try replace h8:=Yg h8 h7
 refine Qe ?_
 exact Zd V V (Ym _) by1 ⟨⟨_,h8.trans (not_ex p l),V⟩,V⟩
def AtomP (f:Cf) (gl:Int) (a:Ato):Prop:=a.k=1∨(0≤a.n∧((a.k=2∧a.n<f.sl)∨(a.k=3∧a.n<f.cp)∨(a.k=4∧a.n<gl)))
def opOk (op:Int):Bool:=decide (1≤op∧op≤15)
def opA (op:Int):Bool:=decide (op=1∨op=2∨op=3∨op=4∨op=5∨op=8∨op=9∨op=10)
def opB (op:Int):Bool:=decide (op=2∨op=13∨op=14)
def opN (op:Int):Bool:=decide (op=3∨op=8∨op=9∨op=12∨op=13)
def opS (op:Int):Bool:=decide (op=13)
def opG (op:Int):Int:=if op=5∨op=6 then 2 else if op=1∨op=7∨op=9∨op=10∨op=11 then 1 else if op=3∨op=8 then -1 else 0
theorem opOk_iff (op:Int):opOk op=true↔1≤op∧op≤15:=by simp [opOk]
def PlaP (c:Cd) (f:Cf) (fr to:Int) (i:Is) (fa fb:Bool):Prop:=(fa=false→i.a=0)∧(fb=false→i.b=0)∧(fa=true→0≤i.a∧((i.op=10→i.a<c.gl)∧(i.op≠10→i.a<f.sl)))∧(fb=true→(i.op=2→0≤i.b∧i.b<c.tx.length)∧(i.op≠2→fr≤i.b∧i.b<to))
def NumP (ps:List Pm) (i:Is) (fn:Bool) (ag:Int):Prop:=(i.op=3→0<i.ar.length∧0≤i.n∧i.n≤65535)∧(i.op=8→1≤i.n∧i.n≤ps.length∧∀ p,ps[(i.n - 1).toNat]?=some p→(i.ar.length:Int)=p.n)∧(i.op=9∨i.op=12→0≤i.n∧i.n≤1048576∧(i.ar.length:Int)=ag)∧(i.op≠3∧i.op≠8∧i.op≠9∧i.op≠12→(fn=true∨i.n=0)∧(i.ar.length:Int)=ag)
def CapP (c:Cd) (f:Cf) (n:Int) (l:List Ato):Prop:=1≤n∧n<c.fu.length∧(∀ g,c.fu[n.toNat]?=some g→(l.length:Int)=g.cp)∧∀ a∈l,AtomP f c.gl a
def FixP (c:Cd) (f:Cf) (i:Is):Prop:=(i.op≠4→i.fs=[]∧i.cp=[])∧(i.op=4→i.fs≠[]∧i.cp.length=i.fs.length∧i.a≤f.sl - i.fs.length∧∀ (k:Nat) n l,i.fs[k]?=some n→i.cp[k]?=some l→CapP c f n l)
def InsP (ps:List Pm) (c:Cd) (f:Cf) (fr to:Int) (i:Is):Prop:=opOk i.op=true∧PlaP c f fr to i (opA i.op) (opB i.op)∧NumP ps i (opN i.op) (opG i.op)∧(∀ a∈i.ar,AtomP f c.gl a)∧FixP c f i
theorem ne_nil_iff {α:Type} (l:List α):l≠[]↔0<l.length:=by cases l <;> simp
theorem iff_f {p:Prop} (h:¬ p):(false=true↔p):=by simp [h]
theorem iff_t {p:Prop} (h:p):(true=true↔p):=by simp [h]
abbrev ckCells (c:Cd) (f:Cf) (fr to:Int) (ps:List Pm):List AV:=c.cells++(f.cells++[.val (.int .i64 fr),.val (.int .i64 to),.seq 9 (Pm.cellss ps)])
theorem within_c (n top:Int):BCall Try.prog 26 [.val (.int .i64 n),.val (.int .i64 top)] (0≤n∧n<top):=by
 refine Zc Try.func26 V (by kernel_rfl) V (Yq V) ?_
 refine Qi ?_
 refine Qu ?_
 refine Zo 4 (0≤n∧n<top) ?_ _ _ V ?_
 ·skip
  refine Qa ?_
  refine Qak ?_;intro c6 h6
  refine Qa ?_
  obtain ⟨rfl,g6⟩|⟨rfl,g6⟩:=Za h6
  ·skip
   refine QM ?_
   refine Yp V ?_ by4 by1
   simp_all;omega
  skip
  refine QE ?_
  refine QaN ?_;intro c10 h10
  refine Qm ?_
  refine Yp V ?_ by4 by1
  simp_all;done
 intro c4 h4
 refine Qs ?_
 exact Zd V V (Ym _) by1 ⟨⟨_,h4,V⟩,V⟩
theorem short_c (s:ByteArray):BCall Try.prog 28 ([]++[.val (.string s)]++[]) (s.size≤1048576):=by
 refine Zc Try.func28 V (by kernel_rfl) V (Yq V) ?_
 refine Qi ?_
 refine Qb ?_
 refine Qr ?_
 refine Zb 4 V V V (op_len_str V tu_9 V (Zb 5 V V V (op_leq V V V ?_)));intro c5 h5
 refine Qe ?_
 exact Zd V V (Ym _) by1 ⟨⟨_,h5.trans by11,V⟩,V⟩
theorem ends_c (i:Is):BCall Try.prog 31 [.agg i.cells] (i.op=6∨i.op=7∨i.op=14∨i.op=15):=by
 obtain ⟨op,a,b,n,ar,fs,cp⟩:=i
 show BCall _ _ _ (op=6∨op=7∨op=14∨op=15)
 refine Zc Try.func31 V (by kernel_rfl) V (Yq V) ?_
 refine Qi ?_
 refine Qbn ?_
 refine Qu ?_
 refine Zo 2 (op=6∨op=7∨op=14∨op=15) ?_ _ _ V ?_
 ·skip
  refine Ql ?_
  refine Qx ?_;intro c5 h5
  refine Qa ?_
  obtain ⟨rfl,g5⟩|⟨rfl,g5⟩:=Za h5
  ·skip
   refine Qab ?_;intro c9 h9
   refine Qh ?_
   obtain ⟨rfl,g9⟩|⟨rfl,g9⟩:=Za h9
   ·skip
    refine Qab ?_;intro c14 h14
    refine Qh ?_
    obtain ⟨rfl,g14⟩|⟨rfl,g14⟩:=Za h14
    ·skip
     refine Qab ?_;intro c19 h19
     refine Qm ?_
     refine Yp V ?_ by4 by1
     simp_all;done
    skip
    refine QM ?_
    refine Yp V ?_ by4 by1
    simp_all;done
   skip
   refine Q4 ?_
   refine QM ?_
   refine Yp V ?_ by4 by1
   simp_all;done
  skip
  refine Q4 ?_
  refine Q4 ?_
  refine QM ?_
  refine Yp V ?_ by4 by1
  simp_all;done
 intro c2 h2
 refine Qs ?_
 exact Zd V V (Ym _) by1 ⟨⟨_,h2,V⟩,V⟩
theorem of_c (op:Int):PCall Try.prog 46 [.val (.int .i64 op)] (.tup [.agg [.val (.bool (opA op)),.val (.bool (opB op)),.val (.bool (opN op)),.val (.bool (opS op)),.val (.int .i64 (opG op))],.val (.bool (opOk op))]):=by
 refine Zc Try.func46 V (by kernel_rfl) V (Yq V) ?_
 refine Qi ?_
 refine Qcz ?_;intro b2
 refine Q3 ?_
 refine Qcz ?_;intro b4
 refine Qg ?_
 refine Qr ?_
 refine Qd ?_
 refine QP ?_
 refine QP ?_
 refine QP ?_
 refine QP ?_
 refine QP ?_
 refine QP ?_
 refine QP ?_
 refine QP ?_
 refine QP ?_
 refine QP ?_
 refine QP ?_
 refine QP ?_
 refine QP ?_
 refine QP ?_
 refine Qo ?_
 refine QK ?_;intro c7 h7
 refine Qb ?_
 obtain ⟨rfl,g7⟩|⟨rfl,g7⟩:=Za h7
 ·refine QaO ?_
  refine QK ?_;intro c9 h9
  refine Qb ?_
  obtain ⟨rfl,g9⟩|⟨rfl,g9⟩:=Za h9
  ·refine Qbd ?_
   refine Qx ?_;intro c10 h10
   refine Qb ?_
   obtain ⟨rfl,g10⟩|⟨rfl,g10⟩:=Za h10
   ·refine Q7 ?_
    refine QK ?_;intro c12 h12
    refine Qb ?_
    obtain ⟨rfl,g12⟩|⟨rfl,g12⟩:=Za h12
    ·refine QaO ?_
     refine QK ?_;intro c14 h14
     refine Qb ?_
     obtain ⟨rfl,g14⟩|⟨rfl,g14⟩:=Za h14
     ·refine Qbd ?_
      refine Qx ?_;intro c15 h15
      refine Qb ?_
      obtain ⟨rfl,g15⟩|⟨rfl,g15⟩:=Za h15
      ·refine Q7 ?_
       refine QK ?_;intro c17 h17
       refine Qb ?_
       obtain ⟨rfl,g17⟩|⟨rfl,g17⟩:=Za h17
       ·refine QaO ?_
        refine QK ?_;intro c19 h19
        refine Qb ?_
        obtain ⟨rfl,g19⟩|⟨rfl,g19⟩:=Za h19
        ·refine Qbd ?_
         refine Qx ?_;intro c20 h20
         refine Qb ?_
         obtain ⟨rfl,g20⟩|⟨rfl,g20⟩:=Za h20
         ·refine Q7 ?_
          refine QK ?_;intro c22 h22
          refine Qb ?_
          obtain ⟨rfl,g22⟩|⟨rfl,g22⟩:=Za h22
          ·refine Q7 ?_
           refine QK ?_;intro c24 h24
           refine Qb ?_
           obtain ⟨rfl,g24⟩|⟨rfl,g24⟩:=Za h24
           ·refine Q7 ?_
            refine QK ?_;intro c26 h26
            refine Qb ?_
            obtain ⟨rfl,g26⟩|⟨rfl,g26⟩:=Za h26
            ·refine Q7 ?_
             refine QK ?_;intro c28 h28
             refine Qb ?_
             obtain ⟨rfl,g28⟩|⟨rfl,g28⟩:=Za h28
             ·refine Q7 ?_
              refine QK ?_;intro c30 h30
              refine Qb ?_
              obtain ⟨rfl,g30⟩|⟨rfl,g30⟩:=Za h30
              ·refine QB ?_
               refine Q2 ?_
               refine Qx ?_;intro c32 h32
               refine Qb ?_
               obtain ⟨rfl,g32⟩|⟨rfl,g32⟩:=Za h32
               ·refine QB ?_
                refine Qj ?_
                refine c_exit ?_
                refine QaB ?_
                refine Qap ?_
                refine x_here ?_
                refine QV ?_
                refine Qy ?_
                refine QbD ?_
                refine QbE ?_
                refine Qe ?_
                refine out_ct (i:=1) V V V V ta_115 V (Le.tup (Yo (Le.agg (Yo (Le.beq ?_) (Yo (Le.beq ?_) (Yo (Le.beq ?_) (Yo (Le.beq ?_) (Yo (Le.ieq ?_) (Yn _))))))) (Yo (Le.beq ?_) (Yn _)))) by1 ⟨V,V⟩
                all_goals first|(subst_vars;rfl)|(simp only [opA,opB,opN,opS,opG,opOk];first|(symm;rw [decide_eq_false_iff_not];omega)|(symm;rw [decide_eq_true_iff];omega)|(repeat' split) <;> omega)
               refine QO ?_
               refine c_exit (x_code ?_)
               refine QaB ?_
               refine QW ?_
               refine Qax ?_
               refine x_here ?_
               refine Qj ?_
               refine c_exit ?_
               refine QaP ?_
               refine out_ct (i:=1) V V V V ta_115 V (Le.tup (Yo (Le.agg (Yo (Le.beq ?_) (Yo (Le.beq ?_) (Yo (Le.beq ?_) (Yo (Le.beq ?_) (Yo (Le.ieq ?_) (Yn _))))))) (Yo (Le.beq ?_) (Yn _)))) by1 ⟨V,V⟩
               all_goals first|(subst_vars;rfl)|(simp only [opA,opB,opN,opS,opG,opOk];first|(symm;rw [decide_eq_false_iff_not];omega)|(symm;rw [decide_eq_true_iff];omega)|(repeat' split) <;> omega)
              refine Qah ?_
              refine QaB ?_
              refine QW ?_
              refine Q8 ?_
              refine Q0 ?_
              refine Qd ?_
              refine c_exit ?_
              refine QW ?_
              refine Q8 ?_
              refine QbD ?_
              refine QbE ?_
              refine Qe ?_
              refine out_ct (i:=1) V V V V ta_115 V (Le.tup (Yo (Le.agg (Yo (Le.beq ?_) (Yo (Le.beq ?_) (Yo (Le.beq ?_) (Yo (Le.beq ?_) (Yo (Le.ieq ?_) (Yn _))))))) (Yo (Le.beq ?_) (Yn _)))) by1 ⟨V,V⟩
              all_goals first|(subst_vars;rfl)|(simp only [opA,opB,opN,opS,opG,opOk];first|(symm;rw [decide_eq_false_iff_not];omega)|(symm;rw [decide_eq_true_iff];omega)|(repeat' split) <;> omega)
             refine Qah ?_
             refine QaB ?_
             refine Qax ?_
             refine Q8 ?_
             refine Q0 ?_
             refine Q0 ?_
             refine Q0 ?_
             refine Qd ?_
             refine c_exit ?_
             refine QW ?_
             refine QaP ?_
             refine out_ct (i:=1) V V V V ta_115 V (Le.tup (Yo (Le.agg (Yo (Le.beq ?_) (Yo (Le.beq ?_) (Yo (Le.beq ?_) (Yo (Le.beq ?_) (Yo (Le.ieq ?_) (Yn _))))))) (Yo (Le.beq ?_) (Yn _)))) by1 ⟨V,V⟩
             all_goals first|(subst_vars;rfl)|(simp only [opA,opB,opN,opS,opG,opOk];first|(symm;rw [decide_eq_false_iff_not];omega)|(symm;rw [decide_eq_true_iff];omega)|(repeat' split) <;> omega)
            refine Qah ?_
            refine QaB ?_
            refine Q8 ?_
            refine Q0 ?_
            refine Qd ?_
            refine c_exit ?_
            refine Qap ?_
            refine Q8 ?_
            refine QbD ?_
            refine QbE ?_
            refine Qe ?_
            refine out_ct (i:=1) V V V V ta_115 V (Le.tup (Yo (Le.agg (Yo (Le.beq ?_) (Yo (Le.beq ?_) (Yo (Le.beq ?_) (Yo (Le.beq ?_) (Yo (Le.ieq ?_) (Yn _))))))) (Yo (Le.beq ?_) (Yn _)))) by1 ⟨V,V⟩
            all_goals first|(subst_vars;rfl)|(simp only [opA,opB,opN,opS,opG,opOk];first|(symm;rw [decide_eq_false_iff_not];omega)|(symm;rw [decide_eq_true_iff];omega)|(repeat' split) <;> omega)
           refine Qah ?_
           refine Qap ?_
           refine QW ?_
           refine Qax ?_
           refine Q8 ?_
           refine Q0 ?_
           refine Qd ?_
           refine c_exit ?_
           refine Qap ?_
           refine QaP ?_
           refine out_ct (i:=1) V V V V ta_115 V (Le.tup (Yo (Le.agg (Yo (Le.beq ?_) (Yo (Le.beq ?_) (Yo (Le.beq ?_) (Yo (Le.beq ?_) (Yo (Le.ieq ?_) (Yn _))))))) (Yo (Le.beq ?_) (Yn _)))) by1 ⟨V,V⟩
           all_goals first|(subst_vars;rfl)|(simp only [opA,opB,opN,opS,opG,opOk];first|(symm;rw [decide_eq_false_iff_not];omega)|(symm;rw [decide_eq_true_iff];omega)|(repeat' split) <;> omega)
          refine Qah ?_
          refine Qap ?_
          refine QW ?_
          refine Q8 ?_
          refine Q0 ?_
          refine Q0 ?_
          refine Qbe ?_
          refine Qap ?_
          refine QW ?_
          refine Q8 ?_
          refine QbD ?_
          refine QbE ?_
          refine Qe ?_
          refine out_ct (i:=1) V V V V ta_115 V (Le.tup (Yo (Le.agg (Yo (Le.beq ?_) (Yo (Le.beq ?_) (Yo (Le.beq ?_) (Yo (Le.beq ?_) (Yo (Le.ieq ?_) (Yn _))))))) (Yo (Le.beq ?_) (Yn _)))) by1 ⟨V,V⟩
          all_goals first|(subst_vars;rfl)|(simp only [opA,opB,opN,opS,opG,opOk];first|(symm;rw [decide_eq_false_iff_not];omega)|(symm;rw [decide_eq_true_iff];omega)|(repeat' split) <;> omega)
         refine Qah ?_
         refine Qap ?_
         refine Qax ?_
         refine Q8 ?_
         refine Q0 ?_
         refine Q0 ?_
         refine Qbe ?_
         refine Qap ?_
         refine QW ?_
         refine QaP ?_
         refine out_ct (i:=1) V V V V ta_115 V (Le.tup (Yo (Le.agg (Yo (Le.beq ?_) (Yo (Le.beq ?_) (Yo (Le.beq ?_) (Yo (Le.beq ?_) (Yo (Le.ieq ?_) (Yn _))))))) (Yo (Le.beq ?_) (Yn _)))) by1 ⟨V,V⟩
         all_goals first|(subst_vars;rfl)|(simp only [opA,opB,opN,opS,opG,opOk];first|(symm;rw [decide_eq_false_iff_not];omega)|(symm;rw [decide_eq_true_iff];omega)|(repeat' split) <;> omega)
        refine Qar ?_
        refine Qah ?_
        refine Qap ?_
        refine Qax ?_
        refine Q8 ?_
        refine Q0 ?_
        refine Q0 ?_
        refine Qbe ?_
        refine Qap ?_
        refine QW ?_
        refine QaP ?_
        refine out_ct (i:=1) V V V V ta_115 V (Le.tup (Yo (Le.agg (Yo (Le.beq ?_) (Yo (Le.beq ?_) (Yo (Le.beq ?_) (Yo (Le.beq ?_) (Yo (Le.ieq ?_) (Yn _))))))) (Yo (Le.beq ?_) (Yn _)))) by1 ⟨V,V⟩
        all_goals first|(subst_vars;rfl)|(simp only [opA,opB,opN,opS,opG,opOk];first|(symm;rw [decide_eq_false_iff_not];omega)|(symm;rw [decide_eq_true_iff];omega)|(repeat' split) <;> omega)
       refine Qah ?_
       refine Qap ?_
       refine Q8 ?_
       refine Q0 ?_
       refine Q0 ?_
       refine Qd ?_
       refine c_exit ?_
       refine QaB ?_
       refine Q8 ?_
       refine QbD ?_
       refine QbE ?_
       refine Qe ?_
       refine out_ct (i:=1) V V V V ta_115 V (Le.tup (Yo (Le.agg (Yo (Le.beq ?_) (Yo (Le.beq ?_) (Yo (Le.beq ?_) (Yo (Le.beq ?_) (Yo (Le.ieq ?_) (Yn _))))))) (Yo (Le.beq ?_) (Yn _)))) by1 ⟨V,V⟩
       all_goals first|(subst_vars;rfl)|(simp only [opA,opB,opN,opS,opG,opOk];first|(symm;rw [decide_eq_false_iff_not];omega)|(symm;rw [decide_eq_true_iff];omega)|(repeat' split) <;> omega)
      refine Qah ?_
      refine QW ?_
      refine Qax ?_
      refine Q8 ?_
      refine Qt ?_
      refine QS ?_
      refine Qbe ?_
      refine QaB ?_
      refine QaP ?_
      refine out_ct (i:=1) V V V V ta_115 V (Le.tup (Yo (Le.agg (Yo (Le.beq ?_) (Yo (Le.beq ?_) (Yo (Le.beq ?_) (Yo (Le.beq ?_) (Yo (Le.ieq ?_) (Yn _))))))) (Yo (Le.beq ?_) (Yn _)))) by1 ⟨V,V⟩
      all_goals first|(subst_vars;rfl)|(simp only [opA,opB,opN,opS,opG,opOk];first|(symm;rw [decide_eq_false_iff_not];omega)|(symm;rw [decide_eq_true_iff];omega)|(repeat' split) <;> omega)
     refine Qar ?_
     refine Qah ?_
     refine QW ?_
     refine Qax ?_
     refine Q8 ?_
     refine Qt ?_
     refine QS ?_
     refine Qbe ?_
     refine QaB ?_
     refine QaP ?_
     refine out_ct (i:=1) V V V V ta_115 V (Le.tup (Yo (Le.agg (Yo (Le.beq ?_) (Yo (Le.beq ?_) (Yo (Le.beq ?_) (Yo (Le.beq ?_) (Yo (Le.ieq ?_) (Yn _))))))) (Yo (Le.beq ?_) (Yn _)))) by1 ⟨V,V⟩
     all_goals first|(subst_vars;rfl)|(simp only [opA,opB,opN,opS,opG,opOk];first|(symm;rw [decide_eq_false_iff_not];omega)|(symm;rw [decide_eq_true_iff];omega)|(repeat' split) <;> omega)
    refine Qah ?_
    refine QW ?_
    refine x_here ?_
    refine Qj ?_
    refine Qk ?_
    refine Qt ?_
    refine QS ?_
    refine QC ?_
    refine Qcs ?_
    refine Qz ?_
    refine go_blk ?_
    refine Q2 ?_
    refine Qt ?_
    refine QS ?_
    refine Qbe ?_
    refine QaB ?_
    refine QaP ?_
    refine out_ct (i:=1) V V V V ta_115 V (Le.tup (Yo (Le.agg (Yo (Le.beq ?_) (Yo (Le.beq ?_) (Yo (Le.beq ?_) (Yo (Le.beq ?_) (Yo (Le.ieq ?_) (Yn _))))))) (Yo (Le.beq ?_) (Yn _)))) by1 ⟨V,V⟩
    all_goals first|(subst_vars;rfl)|(simp only [opA,opB,opN,opS,opG,opOk];first|(symm;rw [decide_eq_false_iff_not];omega)|(symm;rw [decide_eq_true_iff];omega)|(repeat' split) <;> omega)
   refine Qah ?_
   refine Qax ?_
   refine x_here ?_
   refine QV ?_
   refine Qy ?_
   refine Q0 ?_
   refine Qd ?_
   refine Qk ?_
   refine Qt ?_
   refine QS ?_
   refine Qbe ?_
   refine QaB ?_
   refine QW ?_
   refine QaP ?_
   refine out_ct (i:=1) V V V V ta_115 V (Le.tup (Yo (Le.agg (Yo (Le.beq ?_) (Yo (Le.beq ?_) (Yo (Le.beq ?_) (Yo (Le.beq ?_) (Yo (Le.ieq ?_) (Yn _))))))) (Yo (Le.beq ?_) (Yn _)))) by1 ⟨V,V⟩
   all_goals first|(subst_vars;rfl)|(simp only [opA,opB,opN,opS,opG,opOk];first|(symm;rw [decide_eq_false_iff_not];omega)|(symm;rw [decide_eq_true_iff];omega)|(repeat' split) <;> omega)
  refine Qar ?_
  refine Qah ?_
  refine Qax ?_
  refine x_here ?_
  refine QV ?_
  refine Qy ?_
  refine Q0 ?_
  refine Qd ?_
  refine Qk ?_
  refine Qt ?_
  refine QS ?_
  refine Qbe ?_
  refine QaB ?_
  refine QW ?_
  refine QaP ?_
  refine out_ct (i:=1) V V V V ta_115 V (Le.tup (Yo (Le.agg (Yo (Le.beq ?_) (Yo (Le.beq ?_) (Yo (Le.beq ?_) (Yo (Le.beq ?_) (Yo (Le.ieq ?_) (Yn _))))))) (Yo (Le.beq ?_) (Yn _)))) by1 ⟨V,V⟩
  all_goals first|(subst_vars;rfl)|(simp only [opA,opB,opN,opS,opG,opOk];first|(symm;rw [decide_eq_false_iff_not];omega)|(symm;rw [decide_eq_true_iff];omega)|(repeat' split) <;> omega)
 refine Qah ?_
 refine x_here ?_
 refine Qj ?_
 refine Qk ?_
 refine Qt ?_
 refine QS ?_
 refine QC ?_
 refine Qcs ?_
 refine Qz ?_
 refine QaR ?_
 refine Qy ?_
 refine Q0 ?_
 refine Qd ?_
 refine Qk ?_
 refine Qt ?_
 refine QS ?_
 refine Qbe ?_
 refine QaB ?_
 refine QW ?_
 refine QaP ?_
 refine out_ct (i:=1) V V V V ta_115 V (Le.tup (Yo (Le.agg (Yo (Le.beq ?_) (Yo (Le.beq ?_) (Yo (Le.beq ?_) (Yo (Le.beq ?_) (Yo (Le.ieq ?_) (Yn _))))))) (Yo (Le.beq ?_) (Yn _)))) by1 ⟨V,V⟩
 all_goals first|(subst_vars;rfl)|(simp only [opA,opB,opN,opS,opG,opOk];first|(symm;rw [decide_eq_false_iff_not];omega)|(symm;rw [decide_eq_true_iff];omega)|(repeat' split) <;> omega)
theorem atom_c (c:Cd) (f:Cf) (fr to:Int) (ps:List Pm) (a:Ato):BCall Try.prog 50 ([.agg (ckCells c f fr to ps)]++[.agg a.cells]++[]) (AtomP f c.gl a):=by
 obtain ⟨is,fu,tx,gl,ys,no⟩:=c
 obtain ⟨fl,sl,cp⟩:=f
 obtain ⟨k,n⟩:=a
 show BCall _ _ _ (k=1∨(0≤n∧((k=2∧n<sl)∨(k=3∧n<cp)∨(k=4∧n<gl))))
 refine Zc Try.func50 V (by kernel_rfl) V (Yq V) ?_
 refine Qi ?_
 refine QbT ?_
 refine QbU ?_
 refine Q3 ?_
 refine QaS ?_
 refine Qd ?_
 refine QN ?_
 refine QK ?_;intro c9 h9
 refine Qb ?_
 obtain ⟨rfl,g9⟩|⟨rfl,g9⟩:=Za h9
 ·refine QI ?_;intro c11 h11
  refine Qb ?_
  obtain ⟨rfl,g11⟩|⟨rfl,g11⟩:=Za h11
  ·refine QI ?_;intro c16 h16
   refine Qb ?_
   obtain ⟨rfl,g16⟩|⟨rfl,g16⟩:=Za h16
   ·refine QI ?_;intro c21 h21
    refine Qb ?_
    obtain ⟨rfl,g21⟩|⟨rfl,g21⟩:=Za h21
    ·refine QB ?_
     refine QaR ?_
     refine Zo 4 (k=1∨(0≤n∧((k=2∧n<sl)∨(k=3∧n<cp)∨(k=4∧n<gl)))) ?_ _ _ V ?_
     ·skip
      refine Q1 ?_;intro c27 h27
      refine Qa ?_
      obtain ⟨rfl,g27⟩|⟨rfl,g27⟩:=Za h27
      ·skip
       refine Qbf ?_
       refine Yp V ?_ by4 by1
       simp_all;done
      skip
      refine Qc ?_
      refine QaN ?_;intro c32 h32
      refine Qm ?_
      refine Yp V ?_ by4 by1
      simp_all;done
     intro c4 h4
     refine Qs ?_
     exact Zd V V (Ym _) by1 ⟨⟨_,h4,V⟩,V⟩
    refine QaT ?_
    refine QaG ?_
    refine Ql ?_
    refine QaH ?_
    refine QaR ?_
    refine Zo 4 (k=1∨(0≤n∧((k=2∧n<sl)∨(k=3∧n<cp)∨(k=4∧n<gl)))) ?_ _ _ V ?_
    ·skip
     refine Q1 ?_;intro c27 h27
     refine Qa ?_
     obtain ⟨rfl,g27⟩|⟨rfl,g27⟩:=Za h27
     ·skip
      refine Qbf ?_
      refine Yp V ?_ by4 by1
      simp_all;omega
     skip
     refine Qc ?_
     refine QaN ?_;intro c32 h32
     refine Qm ?_
     refine Yp V ?_ by4 by1
     simp_all;done
    intro c4 h4
    refine Qs ?_
    exact Zd V V (Ym _) by1 ⟨⟨_,h4,V⟩,V⟩
   refine QaT ?_
   refine QaG ?_
   refine Ql ?_
   refine QaH ?_
   refine QaR ?_
   refine Zo 4 (k=1∨(0≤n∧((k=2∧n<sl)∨(k=3∧n<cp)∨(k=4∧n<gl)))) ?_ _ _ V ?_
   ·skip
    refine Q1 ?_;intro c27 h27
    refine Qa ?_
    obtain ⟨rfl,g27⟩|⟨rfl,g27⟩:=Za h27
    ·skip
     refine Qbf ?_
     refine Yp V ?_ by4 by1
     simp_all;omega
    skip
    refine Qc ?_
    refine QaN ?_;intro c32 h32
    refine Qm ?_
    refine Yp V ?_ by4 by1
    simp_all;done
   intro c4 h4
   refine Qs ?_
   exact Zd V V (Ym _) by1 ⟨⟨_,h4,V⟩,V⟩
  refine QaT ?_
  refine QaG ?_
  refine Ql ?_
  refine QaH ?_
  refine QaR ?_
  refine Zo 4 (k=1∨(0≤n∧((k=2∧n<sl)∨(k=3∧n<cp)∨(k=4∧n<gl)))) ?_ _ _ V ?_
  ·skip
   refine Q1 ?_;intro c27 h27
   refine Qa ?_
   obtain ⟨rfl,g27⟩|⟨rfl,g27⟩:=Za h27
   ·skip
    refine Qbf ?_
    refine Yp V ?_ by4 by1
    simp_all;omega
   skip
   refine Qc ?_
   refine QaN ?_;intro c32 h32
   refine Qm ?_
   refine Yp V ?_ by4 by1
   simp_all;done
  intro c4 h4
  refine Qs ?_
  exact Zd V V (Ym _) by1 ⟨⟨_,h4,V⟩,V⟩
 refine Qq ?_
 exact Zd V V (Ym _) by1 ⟨⟨_,iff_t (.inl g9),V⟩,V⟩
theorem places_c (c:Cd) (f:Cf) (fr to:Int) (ps:List Pm) (i:Is) (fa fb fn fg:Bool) (ag:Int):BCall Try.prog 47 [.agg (ckCells c f fr to ps),.agg i.cells,.agg [.val (.bool fa),.val (.bool fb),.val (.bool fn),.val (.bool fg),.val (.int .i64 ag)]] (PlaP c f fr to i fa fb):=by
 obtain ⟨is,fu,tx,gl,ys,no⟩:=c
 obtain ⟨fl,sl,cp⟩:=f
 obtain ⟨op,a,b,n,ar,fs,ca⟩:=i
 have hlt:=strs_len tx
 show BCall _ _ _ ((fa=false→a=0)∧(fb=false→b=0)∧(fa=true→0≤a∧((op=10→a<gl)∧(op≠10→a<sl)))∧(fb=true→(op=2→0≤b∧b<tx.length)∧(op≠2→fr≤b∧b<to)))
 refine Zc Try.func47 V (by kernel_rfl) V (Yq V) ?_
 refine Qi ?_
 refine QbT ?_
 refine Qbn ?_
 refine Qbo ?_
 refine Qu ?_
 refine QP ?_
 refine Zo 7 (¬ ((fa=false→a=0)∧(fb=false→b=0))) ?_ _ _ V ?_
 ·skip
  refine Ql ?_
  have h9:(fa=true↔fa=true):=Iff.rfl
  refine QG ?_;intro c10 h10
  try replace h10:=Yg h10 h9
  refine Qa ?_
  obtain ⟨rfl,g10⟩|⟨rfl,g10⟩:=Za h10
  ·skip
   refine Q4 ?_
   refine Qc ?_
   have h18:(fb=true↔fb=true):=Iff.rfl
   refine QU ?_;intro c19 h19
   try replace h19:=Yg h19 h18
   refine QE ?_
   obtain ⟨rfl,g19⟩|⟨rfl,g19⟩:=Za h19
   ·skip
    refine QaI ?_
    refine Qbg ?_
    refine Yp V ?_ by4 by1
    simp_all;done
   skip
   refine Qbh ?_;intro c23 h23
   refine Qbg ?_
   refine Yp V ?_ by4 by1
   simp_all;done
  skip
  refine Qbh ?_;intro c14 h14
  refine Qh ?_
  obtain ⟨rfl,g14⟩|⟨rfl,g14⟩:=Za h14
  ·skip
   refine Qc ?_
   have h18:(fb=true↔fb=true):=Iff.rfl
   refine QU ?_;intro c19 h19
   try replace h19:=Yg h19 h18
   refine QE ?_
   obtain ⟨rfl,g19⟩|⟨rfl,g19⟩:=Za h19
   ·skip
    refine QaI ?_
    refine Qbg ?_
    refine Yp V ?_ by4 by1
    simp_all;done
   skip
   refine Qbh ?_;intro c23 h23
   refine Qbg ?_
   refine Yp V ?_ by4 by1
   simp_all;done
  skip
  refine Qf ?_
  refine Qam ?_
  refine Qam ?_
  refine Qam ?_
  refine Qae ?_
  refine Qm ?_
  refine Yp V ?_ by4 by1
  simp_all;done
 intro c7 h7
 refine Qj ?_
 obtain ⟨rfl,g7⟩|⟨rfl,g7⟩:=Za h7
 ·refine Qai ?_
  refine Qo ?_
  obtain ⟨e1,e2⟩:=Classical.not_not.1 g7
  refine Zo 26 (¬ (fa=true→0≤a∧((op=10→a<gl)∧(op≠10→a<sl)))) ?_ _ _ V ?_
  ·skip
   refine Ql ?_
   have h28:(fa=true↔fa=true):=Iff.rfl
   refine Qa ?_
   obtain ⟨rfl,g28⟩|⟨rfl,g28⟩:=Za h28
   ·skip
    refine QZ ?_
    refine Q4 ?_
    refine Qc ?_
    refine QE ?_
    refine QaI ?_
    refine Qb5 ?_
    refine QE ?_
    refine Qf ?_
    refine QaI ?_
    refine Qbg ?_
    refine Yp V ?_ by4 by1
    simp_all;done
   skip
   refine Qab ?_;intro c32 h32
   refine Qh ?_
   obtain ⟨rfl,g32⟩|⟨rfl,g32⟩:=Za h32
   ·skip
    refine Qf ?_
    refine Q4 ?_
    refine Qc ?_
    refine QE ?_
    refine Qbh ?_;intro c49 h49
    refine Qb5 ?_
    refine QE ?_
    obtain ⟨rfl,g49⟩|⟨rfl,g49⟩:=Za h49
    ·skip
     refine Qf ?_
     refine QaI ?_
     refine Qbg ?_
     refine Yp V ?_ by4 by1
     simp_all;done
    skip
    refine Qc ?_
    refine Qa4 ?_
    refine Qc ?_
    refine Zg 57 rfl rfl rfl rfl rfl (Zk (xs:=[.tmp 53,.tmp 56]) rfl rfl (within_c a sl) by0 ?_);intro c57 h57
    refine QU ?_;intro c58 h58
    try replace h58:=Yg h58 h57
    refine Qbg ?_
    refine Yp V ?_ by4 by1
    simp_all;done
   skip
   refine Qc ?_
   refine Qa4 ?_
   refine Qc ?_
   refine Zg 40 rfl rfl rfl rfl rfl (Zk (xs:=[.tmp 36,.tmp 39]) rfl rfl (within_c a gl) by0 ?_);intro c40 h40
   refine QU ?_;intro c41 h41
   try replace h41:=Yg h41 h40
   refine Qh ?_
   obtain ⟨rfl,g41⟩|⟨rfl,g41⟩:=Za h41
   ·skip
    refine Qc ?_
    refine QE ?_
    refine Qbh ?_;intro c49 h49
    refine Qb5 ?_
    refine QE ?_
    obtain ⟨rfl,g49⟩|⟨rfl,g49⟩:=Za h49
    ·skip
     refine Qf ?_
     refine QaI ?_
     refine Qbg ?_
     refine Yp V ?_ by4 by1
     simp_all;done
    skip
    refine Qc ?_
    refine Qa4 ?_
    refine Qc ?_
    refine Zg 57 rfl rfl rfl rfl rfl (Zk (xs:=[.tmp 53,.tmp 56]) rfl rfl (within_c a sl) by0 ?_);intro c57 h57
    refine QU ?_;intro c58 h58
    try replace h58:=Yg h58 h57
    refine Qbg ?_
    refine Yp V ?_ by4 by1
    simp_all;done
   skip
   refine QaI ?_
   refine Qam ?_
   refine Qam ?_
   refine Qam ?_
   refine Qag ?_
   refine Qam ?_
   refine Qam ?_
   refine Qam ?_
   refine Qam ?_
   refine Qam ?_
   refine Qam ?_
   refine Qam ?_
   refine Qae ?_
   refine Qm ?_
   refine Yp V ?_ by4 by1
   simp_all;done
  intro c26 h26
  refine Qj ?_
  obtain ⟨rfl,g26⟩|⟨rfl,g26⟩:=Za h26
  ·refine Qai ?_
   refine Qo ?_
   have e3:=Classical.not_not.1 g26
   refine Zo 61 (fb=true∧op=2) ?_ _ _ V ?_
   ·skip
    refine Ql ?_
    have h63:(fb=true↔fb=true):=Iff.rfl
    refine Qa ?_
    obtain ⟨rfl,g63⟩|⟨rfl,g63⟩:=Za h63
    ·skip
     refine QM ?_
     refine Yp V ?_ by4 by1
     simp_all;done
    skip
    refine Qab ?_;intro c67 h67
    refine Qm ?_
    refine Yp V ?_ by4 by1
    simp_all;done
   intro c61 h61
   refine Qj ?_
   obtain ⟨rfl,g61⟩|⟨rfl,g61⟩:=Za h61
   ·refine Qai ?_
    refine Qba ?_
    have h78:(fb=true↔fb=true):=Iff.rfl
    refine Qb ?_
    obtain ⟨rfl,g78⟩|⟨rfl,g78⟩:=Za h78
    ·refine QB ?_
     refine go_blk ?_
     refine Q2 ?_
     refine Qe ?_
     exact Zd V V (Ym _) by1 ⟨⟨_,iff_t ⟨e1,e2,e3,fun q=>by cases q⟩,V⟩,V⟩
    refine Qas ?_
    refine Zo 6 (fr≤b∧b<to) ?_ _ _ V ?_
    ·skip
     refine Ql ?_
     refine Q1 ?_;intro c83 h83
     refine Qa ?_
     obtain ⟨rfl,g83⟩|⟨rfl,g83⟩:=Za h83
     ·skip
      refine Qf ?_
      refine Qae ?_
      refine Qm ?_
      refine Yp V ?_ by4 by1
      simp_all;omega
     skip
     refine Qc ?_
     refine Qc ?_
     refine Qbm ?_;intro c89 h89
     refine Qm ?_
     refine Yp V ?_ by4 by1
     simp_all;done
    intro c6 h6
    refine Qs ?_
    exact Zd V V (Ym _) by1 ⟨⟨_,h6.trans ⟨fun q=>⟨e1,e2,e3,fun _=>⟨fun q'=>absurd ⟨V,q'⟩ g61,fun _=>q⟩⟩,fun q=>(q.2.2.2 V).2 (fun q'=>g61 ⟨V,q'⟩)⟩,V⟩,V⟩
   refine Q6 ?_
   refine Ql ?_
   refine QaG ?_
   refine Ql ?_
   refine QbP ?_;intro n74
   refine Zb 75 rfl rfl rfl (Zk (xs:=[.tmp 70,.tmp 74]) rfl rfl (within_c b (strs tx).length) by0 ?_);intro c75 h75
   refine Qe ?_
   exact Zd rfl rfl (Ym _) by1 ⟨⟨_,h75.trans (by rw [hlt];obtain ⟨q1,q2⟩:=g61;exact ⟨fun q=>⟨e1,e2,e3,fun _=>⟨fun _=>q,fun q'=>absurd q2 q'⟩⟩,fun q=>(q.2.2.2 q1).1 q2⟩),rfl⟩,rfl⟩
  refine Qq ?_
  exact Zd V V (Ym _) by1 ⟨⟨_,iff_f (fun e=>g26 e.2.2.1),V⟩,V⟩
 refine Qq ?_
 exact Zd V V (Ym _) by1 ⟨⟨_,iff_f (fun e=>g7 ⟨e.1,e.2.1⟩),V⟩,V⟩
end Go.Proofs.Ytbfogofpgcndfaa
