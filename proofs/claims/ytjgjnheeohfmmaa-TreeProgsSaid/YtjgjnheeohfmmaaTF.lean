/- Facts of the seat's types, one by one, by evaluation. -/
import Derived.Test.YtjgjnheeohfmmaaProg
import Derived.Test.YtjgjnheeohfmmaaAL9
namespace Go.Proofs.Ytjgjnheeohfmmaa
theorem tmix : Try.prog.follows .mixedOrders = true := by kernel_rfl
theorem ta_1 : tyAgg Try.prog 1 = some none := by kernel_rfl
theorem ts_1 : (Try.prog.info? 1).map (·.size) = some 1 := by kernel_rfl
theorem tz_1 : tyZero Try.prog 1 = some .nilFunc := by kernel_rfl
theorem ta_2 : tyAgg Try.prog 2 = some none := by kernel_rfl
theorem ts_2 : (Try.prog.info? 2).map (·.size) = some 1 := by kernel_rfl
theorem tz_2 : tyZero Try.prog 2 = some (.int .i64 0) := by kernel_rfl
theorem tu_2 : Try.prog.underlying 2 = some (.int .i64) := by kernel_rfl
theorem ta_3 : tyAgg Try.prog 3 = some none := by kernel_rfl
theorem ts_3 : (Try.prog.info? 3).map (·.size) = some 1 := by kernel_rfl
theorem tz_3 : tyZero Try.prog 3 = some (.int .i64 0) := by kernel_rfl
theorem tu_3 : Try.prog.underlying 3 = some (.int .i64) := by kernel_rfl
theorem ta_4 : tyAgg Try.prog 4 = some none := by kernel_rfl
theorem ts_4 : (Try.prog.info? 4).map (·.size) = some 1 := by kernel_rfl
theorem tz_4 : tyZero Try.prog 4 = some (.bool false) := by kernel_rfl
theorem tu_4 : Try.prog.underlying 4 = some (.bool) := by kernel_rfl
theorem ta_5 : tyAgg Try.prog 5 = some none := by kernel_rfl
theorem ts_5 : (Try.prog.info? 5).map (·.size) = some 1 := by kernel_rfl
theorem tz_5 : tyZero Try.prog 5 = some (.int .u8 0) := by kernel_rfl
theorem tu_5 : Try.prog.underlying 5 = some (.int .u8) := by kernel_rfl
theorem ta_6 : tyAgg Try.prog 6 = some none := by kernel_rfl
theorem ts_6 : (Try.prog.info? 6).map (·.size) = some 1 := by kernel_rfl
theorem tz_6 : tyZero Try.prog 6 = some (.int .u8 0) := by kernel_rfl
theorem tu_6 : Try.prog.underlying 6 = some (.int .u8) := by kernel_rfl
theorem ta_7 : tyAgg Try.prog 7 = some (some 4) := by kernel_rfl
theorem ts_7 : (Try.prog.info? 7).map (·.size) = some 4 := by kernel_rfl
theorem tz_7 : tyZero Try.prog 7 = some (.agg #[(.int .i64 0), (.int .i64 0), (.bool false), (.int .u8 0)]) := by kernel_rfl
theorem tf_7_0 : tyFld Try.prog 7 0 = some 0 := by kernel_rfl
theorem tf_7_1 : tyFld Try.prog 7 1 = some 1 := by kernel_rfl
theorem tf_7_2 : tyFld Try.prog 7 2 = some 2 := by kernel_rfl
theorem tf_7_3 : tyFld Try.prog 7 3 = some 3 := by kernel_rfl
theorem tfl_7 : tyFlds Try.prog 7 = some [(0, 1), (1, 1), (2, 1), (3, 1)] := by kernel_rfl
theorem ta_8 : tyAgg Try.prog 8 = some (some 4) := by kernel_rfl
theorem ts_8 : (Try.prog.info? 8).map (·.size) = some 4 := by kernel_rfl
theorem tz_8 : tyZero Try.prog 8 = some (.agg #[(.int .i64 0), (.int .i64 0), (.bool false), (.int .u8 0)]) := by kernel_rfl
theorem tf_8_0 : tyFld Try.prog 8 0 = some 0 := by kernel_rfl
theorem tf_8_1 : tyFld Try.prog 8 1 = some 1 := by kernel_rfl
theorem tf_8_2 : tyFld Try.prog 8 2 = some 2 := by kernel_rfl
theorem tf_8_3 : tyFld Try.prog 8 3 = some 3 := by kernel_rfl
theorem tfl_8 : tyFlds Try.prog 8 = some [(0, 1), (1, 1), (2, 1), (3, 1)] := by kernel_rfl
theorem ta_9 : tyAgg Try.prog 9 = some none := by kernel_rfl
theorem ts_9 : (Try.prog.info? 9).map (·.size) = some 1 := by kernel_rfl
theorem tz_9 : tyZero Try.prog 9 = some (.string ⟨#[]⟩) := by kernel_rfl
theorem tu_9 : Try.prog.underlying 9 = some (.string) := by kernel_rfl
theorem ta_10 : tyAgg Try.prog 10 = some none := by kernel_rfl
theorem ts_10 : (Try.prog.info? 10).map (·.size) = some 1 := by kernel_rfl
theorem tz_10 : tyZero Try.prog 10 = some (.string ⟨#[]⟩) := by kernel_rfl
theorem tu_10 : Try.prog.underlying 10 = some (.string) := by kernel_rfl
theorem ta_11 : tyAgg Try.prog 11 = some none := by kernel_rfl
theorem ts_11 : (Try.prog.info? 11).map (·.size) = some 1 := by kernel_rfl
theorem tz_11 : tyZero Try.prog 11 = some (.string ⟨#[]⟩) := by kernel_rfl
theorem tu_11 : Try.prog.underlying 11 = some (.string) := by kernel_rfl
theorem ta_12 : tyAgg Try.prog 12 = some none := by kernel_rfl
theorem ts_12 : (Try.prog.info? 12).map (·.size) = some 1 := by kernel_rfl
theorem tz_12 : tyZero Try.prog 12 = some (.int .u64 0) := by kernel_rfl
theorem tu_12 : Try.prog.underlying 12 = some (.int .u64) := by kernel_rfl
theorem ta_13 : tyAgg Try.prog 13 = some (some 2) := by kernel_rfl
theorem ts_13 : (Try.prog.info? 13).map (·.size) = some 2 := by kernel_rfl
theorem tz_13 : tyZero Try.prog 13 = some (.agg #[(.string ⟨#[]⟩), (.int .u64 0)]) := by kernel_rfl
theorem tf_13_0 : tyFld Try.prog 13 0 = some 0 := by kernel_rfl
theorem tf_13_1 : tyFld Try.prog 13 1 = some 1 := by kernel_rfl
theorem tfl_13 : tyFlds Try.prog 13 = some [(0, 1), (1, 1)] := by kernel_rfl
theorem ta_14 : tyAgg Try.prog 14 = some (some 2) := by kernel_rfl
theorem ts_14 : (Try.prog.info? 14).map (·.size) = some 2 := by kernel_rfl
theorem tz_14 : tyZero Try.prog 14 = some (.agg #[(.string ⟨#[]⟩), (.int .u64 0)]) := by kernel_rfl
theorem tf_14_0 : tyFld Try.prog 14 0 = some 0 := by kernel_rfl
theorem tf_14_1 : tyFld Try.prog 14 1 = some 1 := by kernel_rfl
theorem tfl_14 : tyFlds Try.prog 14 = some [(0, 1), (1, 1)] := by kernel_rfl
theorem ta_15 : tyAgg Try.prog 15 = some none := by kernel_rfl
theorem ts_15 : (Try.prog.info? 15).map (·.size) = some 1 := by kernel_rfl
theorem tz_15 : tyZero Try.prog 15 = some (.pointer none) := by kernel_rfl
theorem tu_15 : Try.prog.underlying 15 = some (.pointer 163) := by kernel_rfl
theorem ta_16 : tyAgg Try.prog 16 = some none := by kernel_rfl
theorem ts_16 : (Try.prog.info? 16).map (·.size) = some 1 := by kernel_rfl
theorem tz_16 : tyZero Try.prog 16 = some (.pointer none) := by kernel_rfl
theorem tu_16 : Try.prog.underlying 16 = some (.pointer 166) := by kernel_rfl
theorem ta_17 : tyAgg Try.prog 17 = some none := by kernel_rfl
theorem ts_17 : (Try.prog.info? 17).map (·.size) = some 1 := by kernel_rfl
theorem tz_17 : tyZero Try.prog 17 = some (.pointer none) := by kernel_rfl
theorem tu_17 : Try.prog.underlying 17 = some (.pointer 176) := by kernel_rfl
theorem ta_18 : tyAgg Try.prog 18 = some (some 1) := by kernel_rfl
theorem ts_18 : (Try.prog.info? 18).map (·.size) = some 1 := by kernel_rfl
theorem tz_18 : tyZero Try.prog 18 = some (.agg #[(.pointer none)]) := by kernel_rfl
theorem tf_18_0 : tyFld Try.prog 18 0 = some 0 := by kernel_rfl
theorem tfl_18 : tyFlds Try.prog 18 = some [(0, 1)] := by kernel_rfl
theorem ta_19 : tyAgg Try.prog 19 = some (some 1) := by kernel_rfl
theorem ts_19 : (Try.prog.info? 19).map (·.size) = some 1 := by kernel_rfl
theorem tz_19 : tyZero Try.prog 19 = some (.agg #[(.pointer none)]) := by kernel_rfl
theorem tf_19_0 : tyFld Try.prog 19 0 = some 0 := by kernel_rfl
theorem tfl_19 : tyFlds Try.prog 19 = some [(0, 1)] := by kernel_rfl
theorem ta_20 : tyAgg Try.prog 20 = some none := by kernel_rfl
theorem ts_20 : (Try.prog.info? 20).map (·.size) = some 1 := by kernel_rfl
theorem tz_20 : tyZero Try.prog 20 = some .nilIface := by kernel_rfl
theorem ta_21 : tyAgg Try.prog 21 = some none := by kernel_rfl
theorem ts_21 : (Try.prog.info? 21).map (·.size) = some 1 := by kernel_rfl
theorem tz_21 : tyZero Try.prog 21 = some (.int .i32 0) := by kernel_rfl
theorem tu_21 : Try.prog.underlying 21 = some (.int .i32) := by kernel_rfl
theorem ta_22 : tyAgg Try.prog 22 = some none := by kernel_rfl
theorem ts_22 : (Try.prog.info? 22).map (·.size) = some 1 := by kernel_rfl
theorem tz_22 : tyZero Try.prog 22 = some (.slice none 0 0) := by kernel_rfl
theorem te_22 : tyElem Try.prog 22 = some (24, 4) := by kernel_rfl
theorem el_22 : ElT Try.prog 22 24 (.agg #[(.int .i64 0), (.string ⟨#[]⟩), (.int .i64 0), (.slice none 0 0)]) 4 56 := ⟨by kernel_rfl, by kernel_rfl, rfl, by decide, by decide⟩
theorem tu_22 : Try.prog.underlying 22 = some (.slice 24) := by kernel_rfl
theorem ta_23 : tyAgg Try.prog 23 = some (some 4) := by kernel_rfl
theorem ts_23 : (Try.prog.info? 23).map (·.size) = some 4 := by kernel_rfl
theorem tz_23 : tyZero Try.prog 23 = some (.agg #[(.int .i64 0), (.string ⟨#[]⟩), (.int .i64 0), (.slice none 0 0)]) := by kernel_rfl
theorem tf_23_0 : tyFld Try.prog 23 0 = some 0 := by kernel_rfl
theorem tf_23_1 : tyFld Try.prog 23 1 = some 1 := by kernel_rfl
theorem tf_23_2 : tyFld Try.prog 23 2 = some 2 := by kernel_rfl
theorem tf_23_3 : tyFld Try.prog 23 3 = some 3 := by kernel_rfl
theorem tfl_23 : tyFlds Try.prog 23 = some [(0, 1), (1, 1), (2, 1), (3, 1)] := by kernel_rfl
theorem ta_24 : tyAgg Try.prog 24 = some (some 4) := by kernel_rfl
theorem ts_24 : (Try.prog.info? 24).map (·.size) = some 4 := by kernel_rfl
theorem tz_24 : tyZero Try.prog 24 = some (.agg #[(.int .i64 0), (.string ⟨#[]⟩), (.int .i64 0), (.slice none 0 0)]) := by kernel_rfl
theorem tf_24_0 : tyFld Try.prog 24 0 = some 0 := by kernel_rfl
theorem tf_24_1 : tyFld Try.prog 24 1 = some 1 := by kernel_rfl
theorem tf_24_2 : tyFld Try.prog 24 2 = some 2 := by kernel_rfl
theorem tf_24_3 : tyFld Try.prog 24 3 = some 3 := by kernel_rfl
theorem tfl_24 : tyFlds Try.prog 24 = some [(0, 1), (1, 1), (2, 1), (3, 1)] := by kernel_rfl
theorem ta_25 : tyAgg Try.prog 25 = some none := by kernel_rfl
theorem ts_25 : (Try.prog.info? 25).map (·.size) = some 1 := by kernel_rfl
theorem tz_25 : tyZero Try.prog 25 = some .nilFunc := by kernel_rfl
theorem ta_26 : tyAgg Try.prog 26 = some none := by kernel_rfl
theorem ts_26 : (Try.prog.info? 26).map (·.size) = some 1 := by kernel_rfl
theorem tz_26 : tyZero Try.prog 26 = some .nilFunc := by kernel_rfl
theorem ta_27 : tyAgg Try.prog 27 = some none := by kernel_rfl
theorem ts_27 : (Try.prog.info? 27).map (·.size) = some 1 := by kernel_rfl
theorem tz_27 : tyZero Try.prog 27 = some (.slice none 0 0) := by kernel_rfl
theorem te_27 : tyElem Try.prog 27 = some (9, 1) := by kernel_rfl
theorem el_27 : ElT Try.prog 27 9 (.string ⟨#[]⟩) 1 16 := ⟨by kernel_rfl, by kernel_rfl, rfl, by decide, by decide⟩
theorem tu_27 : Try.prog.underlying 27 = some (.slice 9) := by kernel_rfl
theorem ta_29 : tyAgg Try.prog 29 = some none := by kernel_rfl
theorem ts_29 : (Try.prog.info? 29).map (·.size) = some 1 := by kernel_rfl
theorem tz_29 : tyZero Try.prog 29 = some .nilFunc := by kernel_rfl
theorem ta_30 : tyAgg Try.prog 30 = some none := by kernel_rfl
theorem ts_30 : (Try.prog.info? 30).map (·.size) = some 1 := by kernel_rfl
theorem tz_30 : tyZero Try.prog 30 = some .nilFunc := by kernel_rfl
theorem ta_31 : tyAgg Try.prog 31 = some none := by kernel_rfl
theorem ts_31 : (Try.prog.info? 31).map (·.size) = some 1 := by kernel_rfl
theorem tz_31 : tyZero Try.prog 31 = some .nilFunc := by kernel_rfl
theorem ta_32 : tyAgg Try.prog 32 = some none := by kernel_rfl
theorem ts_32 : (Try.prog.info? 32).map (·.size) = some 1 := by kernel_rfl
theorem tz_32 : tyZero Try.prog 32 = some .nilFunc := by kernel_rfl
theorem ta_33 : tyAgg Try.prog 33 = some none := by kernel_rfl
theorem ts_33 : (Try.prog.info? 33).map (·.size) = some 1 := by kernel_rfl
theorem tz_33 : tyZero Try.prog 33 = some .nilFunc := by kernel_rfl
theorem ta_34 : tyAgg Try.prog 34 = some none := by kernel_rfl
theorem ts_34 : (Try.prog.info? 34).map (·.size) = some 1 := by kernel_rfl
theorem tz_34 : tyZero Try.prog 34 = some (.slice none 0 0) := by kernel_rfl
theorem te_34 : tyElem Try.prog 34 = some (53, 5) := by kernel_rfl
theorem el_34 : ElT Try.prog 34 53 (.agg #[(.int .i64 0), (.int .i64 0), (.string ⟨#[]⟩), (.int .i64 0), (.slice none 0 0)]) 5 64 := ⟨by kernel_rfl, by kernel_rfl, rfl, by decide, by decide⟩
theorem tu_34 : Try.prog.underlying 34 = some (.slice 53) := by kernel_rfl
theorem ta_35 : tyAgg Try.prog 35 = some (some 3) := by kernel_rfl
theorem ts_35 : (Try.prog.info? 35).map (·.size) = some 3 := by kernel_rfl
theorem tz_35 : tyZero Try.prog 35 = some (.agg #[(.slice none 0 0), (.slice none 0 0), (.slice none 0 0)]) := by kernel_rfl
theorem tf_35_0 : tyFld Try.prog 35 0 = some 0 := by kernel_rfl
theorem tf_35_1 : tyFld Try.prog 35 1 = some 1 := by kernel_rfl
theorem tf_35_2 : tyFld Try.prog 35 2 = some 2 := by kernel_rfl
theorem tfl_35 : tyFlds Try.prog 35 = some [(0, 1), (1, 1), (2, 1)] := by kernel_rfl
theorem ta_36 : tyAgg Try.prog 36 = some (some 3) := by kernel_rfl
theorem ts_36 : (Try.prog.info? 36).map (·.size) = some 3 := by kernel_rfl
theorem tz_36 : tyZero Try.prog 36 = some (.agg #[(.slice none 0 0), (.slice none 0 0), (.slice none 0 0)]) := by kernel_rfl
theorem tf_36_0 : tyFld Try.prog 36 0 = some 0 := by kernel_rfl
theorem tf_36_1 : tyFld Try.prog 36 1 = some 1 := by kernel_rfl
theorem tf_36_2 : tyFld Try.prog 36 2 = some 2 := by kernel_rfl
theorem tfl_36 : tyFlds Try.prog 36 = some [(0, 1), (1, 1), (2, 1)] := by kernel_rfl
theorem ta_37 : tyAgg Try.prog 37 = some none := by kernel_rfl
theorem ts_37 : (Try.prog.info? 37).map (·.size) = some 1 := by kernel_rfl
theorem tz_37 : tyZero Try.prog 37 = some .nilFunc := by kernel_rfl
theorem ta_38 : tyAgg Try.prog 38 = some none := by kernel_rfl
theorem ts_38 : (Try.prog.info? 38).map (·.size) = some 1 := by kernel_rfl
theorem tz_38 : tyZero Try.prog 38 = some .nilFunc := by kernel_rfl
theorem ta_39 : tyAgg Try.prog 39 = some none := by kernel_rfl
theorem ts_39 : (Try.prog.info? 39).map (·.size) = some 1 := by kernel_rfl
theorem tz_39 : tyZero Try.prog 39 = some .nilFunc := by kernel_rfl
theorem ta_40 : tyAgg Try.prog 40 = some none := by kernel_rfl
theorem ts_40 : (Try.prog.info? 40).map (·.size) = some 1 := by kernel_rfl
theorem tz_40 : tyZero Try.prog 40 = some .nilFunc := by kernel_rfl
theorem ta_41 : tyAgg Try.prog 41 = some none := by kernel_rfl
theorem ts_41 : (Try.prog.info? 41).map (·.size) = some 1 := by kernel_rfl
theorem tz_41 : tyZero Try.prog 41 = some .nilFunc := by kernel_rfl
theorem ta_43 : tyAgg Try.prog 43 = some none := by kernel_rfl
theorem ts_43 : (Try.prog.info? 43).map (·.size) = some 1 := by kernel_rfl
theorem tz_43 : tyZero Try.prog 43 = some .nilFunc := by kernel_rfl
theorem ta_44 : tyAgg Try.prog 44 = some none := by kernel_rfl
theorem ts_44 : (Try.prog.info? 44).map (·.size) = some 1 := by kernel_rfl
theorem tz_44 : tyZero Try.prog 44 = some .nilFunc := by kernel_rfl
theorem ta_45 : tyAgg Try.prog 45 = some none := by kernel_rfl
theorem ts_45 : (Try.prog.info? 45).map (·.size) = some 1 := by kernel_rfl
theorem tz_45 : tyZero Try.prog 45 = some .nilFunc := by kernel_rfl
theorem ta_46 : tyAgg Try.prog 46 = some none := by kernel_rfl
theorem ts_46 : (Try.prog.info? 46).map (·.size) = some 1 := by kernel_rfl
theorem tz_46 : tyZero Try.prog 46 = some .nilFunc := by kernel_rfl
theorem ta_47 : tyAgg Try.prog 47 = some none := by kernel_rfl
theorem ts_47 : (Try.prog.info? 47).map (·.size) = some 1 := by kernel_rfl
theorem tz_47 : tyZero Try.prog 47 = some (.slice none 0 0) := by kernel_rfl
theorem te_47 : tyElem Try.prog 47 = some (3, 1) := by kernel_rfl
theorem el_47 : ElT Try.prog 47 3 (.int .i64 0) 1 8 := ⟨by kernel_rfl, by kernel_rfl, rfl, by decide, by decide⟩
theorem tu_47 : Try.prog.underlying 47 = some (.slice 3) := by kernel_rfl
theorem ta_48 : tyAgg Try.prog 48 = some none := by kernel_rfl
theorem ts_48 : (Try.prog.info? 48).map (·.size) = some 1 := by kernel_rfl
theorem tz_48 : tyZero Try.prog 48 = some .nilFunc := by kernel_rfl
theorem ta_49 : tyAgg Try.prog 49 = some none := by kernel_rfl
theorem ts_49 : (Try.prog.info? 49).map (·.size) = some 1 := by kernel_rfl
theorem tz_49 : tyZero Try.prog 49 = some .nilFunc := by kernel_rfl
theorem ta_50 : tyAgg Try.prog 50 = some none := by kernel_rfl
theorem ts_50 : (Try.prog.info? 50).map (·.size) = some 1 := by kernel_rfl
theorem tz_50 : tyZero Try.prog 50 = some .nilFunc := by kernel_rfl
theorem ta_51 : tyAgg Try.prog 51 = some none := by kernel_rfl
theorem ts_51 : (Try.prog.info? 51).map (·.size) = some 1 := by kernel_rfl
theorem tz_51 : tyZero Try.prog 51 = some .nilFunc := by kernel_rfl
theorem ta_52 : tyAgg Try.prog 52 = some (some 5) := by kernel_rfl
theorem ts_52 : (Try.prog.info? 52).map (·.size) = some 5 := by kernel_rfl
theorem tz_52 : tyZero Try.prog 52 = some (.agg #[(.int .i64 0), (.int .i64 0), (.string ⟨#[]⟩), (.int .i64 0), (.slice none 0 0)]) := by kernel_rfl
theorem tf_52_0 : tyFld Try.prog 52 0 = some 0 := by kernel_rfl
theorem tf_52_1 : tyFld Try.prog 52 1 = some 1 := by kernel_rfl
theorem tfl_52 : tyFlds Try.prog 52 = some [(0, 1), (1, 4)] := by kernel_rfl
theorem ta_53 : tyAgg Try.prog 53 = some (some 5) := by kernel_rfl
theorem ts_53 : (Try.prog.info? 53).map (·.size) = some 5 := by kernel_rfl
theorem tz_53 : tyZero Try.prog 53 = some (.agg #[(.int .i64 0), (.int .i64 0), (.string ⟨#[]⟩), (.int .i64 0), (.slice none 0 0)]) := by kernel_rfl
theorem tf_53_0 : tyFld Try.prog 53 0 = some 0 := by kernel_rfl
theorem tf_53_1 : tyFld Try.prog 53 1 = some 1 := by kernel_rfl
theorem tfl_53 : tyFlds Try.prog 53 = some [(0, 1), (1, 4)] := by kernel_rfl
theorem ta_54 : tyAgg Try.prog 54 = some none := by kernel_rfl
theorem ts_54 : (Try.prog.info? 54).map (·.size) = some 1 := by kernel_rfl
theorem tz_54 : tyZero Try.prog 54 = some .nilFunc := by kernel_rfl
theorem ta_55 : tyAgg Try.prog 55 = some none := by kernel_rfl
theorem ts_55 : (Try.prog.info? 55).map (·.size) = some 1 := by kernel_rfl
theorem tz_55 : tyZero Try.prog 55 = some .nilFunc := by kernel_rfl
theorem ta_56 : tyAgg Try.prog 56 = some none := by kernel_rfl
theorem ts_56 : (Try.prog.info? 56).map (·.size) = some 1 := by kernel_rfl
theorem tz_56 : tyZero Try.prog 56 = some (.slice none 0 0) := by kernel_rfl
theorem te_56 : tyElem Try.prog 56 = some (60, 11) := by kernel_rfl
theorem el_56 : ElT Try.prog 56 60 (.agg #[(.int .i64 0), (.string ⟨#[]⟩), (.int .i64 0), (.int .i64 0), (.string ⟨#[]⟩), (.int .i64 0), (.slice none 0 0), (.slice none 0 0), (.slice none 0 0), (.slice none 0 0), (.int .i64 0)]) 11 168 := ⟨by kernel_rfl, by kernel_rfl, rfl, by decide, by decide⟩
theorem tu_56 : Try.prog.underlying 56 = some (.slice 60) := by kernel_rfl
theorem ta_57 : tyAgg Try.prog 57 = some none := by kernel_rfl
theorem ts_57 : (Try.prog.info? 57).map (·.size) = some 1 := by kernel_rfl
theorem tz_57 : tyZero Try.prog 57 = some (.slice none 0 0) := by kernel_rfl
theorem te_57 : tyElem Try.prog 57 = some (70, 16) := by kernel_rfl
theorem el_57 : ElT Try.prog 57 70 (.agg #[(.int .i64 0), (.string ⟨#[]⟩), (.int .i64 0), (.slice none 0 0), (.int .i64 0), (.int .i64 0), (.string ⟨#[]⟩), (.int .i64 0), (.int .i64 0), (.string ⟨#[]⟩), (.int .i64 0), (.slice none 0 0), (.slice none 0 0), (.slice none 0 0), (.slice none 0 0), (.int .i64 0)]) 16 232 := ⟨by kernel_rfl, by kernel_rfl, rfl, by decide, by decide⟩
theorem tu_57 : Try.prog.underlying 57 = some (.slice 70) := by kernel_rfl
theorem ta_58 : tyAgg Try.prog 58 = some none := by kernel_rfl
theorem ts_58 : (Try.prog.info? 58).map (·.size) = some 1 := by kernel_rfl
theorem tz_58 : tyZero Try.prog 58 = some (.slice none 0 0) := by kernel_rfl
theorem te_58 : tyElem Try.prog 58 = some (74, 13) := by kernel_rfl
theorem el_58 : ElT Try.prog 58 74 (.agg #[(.string ⟨#[]⟩), (.int .i64 0), (.string ⟨#[]⟩), (.int .i64 0), (.int .i64 0), (.string ⟨#[]⟩), (.int .i64 0), (.slice none 0 0), (.slice none 0 0), (.slice none 0 0), (.slice none 0 0), (.int .i64 0), (.int .i64 0)]) 13 192 := ⟨by kernel_rfl, by kernel_rfl, rfl, by decide, by decide⟩
theorem tu_58 : Try.prog.underlying 58 = some (.slice 74) := by kernel_rfl
theorem ta_59 : tyAgg Try.prog 59 = some (some 11) := by kernel_rfl
theorem ts_59 : (Try.prog.info? 59).map (·.size) = some 11 := by kernel_rfl
theorem tz_59 : tyZero Try.prog 59 = some (.agg #[(.int .i64 0), (.string ⟨#[]⟩), (.int .i64 0), (.int .i64 0), (.string ⟨#[]⟩), (.int .i64 0), (.slice none 0 0), (.slice none 0 0), (.slice none 0 0), (.slice none 0 0), (.int .i64 0)]) := by kernel_rfl
theorem tf_59_0 : tyFld Try.prog 59 0 = some 0 := by kernel_rfl
theorem tf_59_1 : tyFld Try.prog 59 1 = some 1 := by kernel_rfl
theorem tf_59_2 : tyFld Try.prog 59 2 = some 2 := by kernel_rfl
theorem tf_59_3 : tyFld Try.prog 59 3 = some 3 := by kernel_rfl
theorem tf_59_4 : tyFld Try.prog 59 4 = some 7 := by kernel_rfl
theorem tf_59_5 : tyFld Try.prog 59 5 = some 8 := by kernel_rfl
theorem tf_59_6 : tyFld Try.prog 59 6 = some 9 := by kernel_rfl
theorem tf_59_7 : tyFld Try.prog 59 7 = some 10 := by kernel_rfl
theorem tfl_59 : tyFlds Try.prog 59 = some [(0, 1), (1, 1), (2, 1), (3, 4), (7, 1), (8, 1), (9, 1), (10, 1)] := by kernel_rfl
theorem ta_60 : tyAgg Try.prog 60 = some (some 11) := by kernel_rfl
theorem ts_60 : (Try.prog.info? 60).map (·.size) = some 11 := by kernel_rfl
theorem tz_60 : tyZero Try.prog 60 = some (.agg #[(.int .i64 0), (.string ⟨#[]⟩), (.int .i64 0), (.int .i64 0), (.string ⟨#[]⟩), (.int .i64 0), (.slice none 0 0), (.slice none 0 0), (.slice none 0 0), (.slice none 0 0), (.int .i64 0)]) := by kernel_rfl
theorem tf_60_0 : tyFld Try.prog 60 0 = some 0 := by kernel_rfl
theorem tf_60_1 : tyFld Try.prog 60 1 = some 1 := by kernel_rfl
theorem tf_60_2 : tyFld Try.prog 60 2 = some 2 := by kernel_rfl
theorem tf_60_3 : tyFld Try.prog 60 3 = some 3 := by kernel_rfl
theorem tf_60_4 : tyFld Try.prog 60 4 = some 7 := by kernel_rfl
theorem tf_60_5 : tyFld Try.prog 60 5 = some 8 := by kernel_rfl
theorem tf_60_6 : tyFld Try.prog 60 6 = some 9 := by kernel_rfl
theorem tf_60_7 : tyFld Try.prog 60 7 = some 10 := by kernel_rfl
theorem tfl_60 : tyFlds Try.prog 60 = some [(0, 1), (1, 1), (2, 1), (3, 4), (7, 1), (8, 1), (9, 1), (10, 1)] := by kernel_rfl
theorem ta_61 : tyAgg Try.prog 61 = some none := by kernel_rfl
theorem ts_61 : (Try.prog.info? 61).map (·.size) = some 1 := by kernel_rfl
theorem tz_61 : tyZero Try.prog 61 = some .nilFunc := by kernel_rfl
theorem ta_62 : tyAgg Try.prog 62 = some none := by kernel_rfl
theorem ts_62 : (Try.prog.info? 62).map (·.size) = some 1 := by kernel_rfl
theorem tz_62 : tyZero Try.prog 62 = some .nilFunc := by kernel_rfl
theorem ta_63 : tyAgg Try.prog 63 = some none := by kernel_rfl
theorem ts_63 : (Try.prog.info? 63).map (·.size) = some 1 := by kernel_rfl
theorem tz_63 : tyZero Try.prog 63 = some .nilFunc := by kernel_rfl
theorem ta_64 : tyAgg Try.prog 64 = some none := by kernel_rfl
theorem ts_64 : (Try.prog.info? 64).map (·.size) = some 1 := by kernel_rfl
theorem tz_64 : tyZero Try.prog 64 = some .nilFunc := by kernel_rfl
theorem ta_65 : tyAgg Try.prog 65 = some none := by kernel_rfl
theorem ts_65 : (Try.prog.info? 65).map (·.size) = some 1 := by kernel_rfl
theorem tz_65 : tyZero Try.prog 65 = some .nilFunc := by kernel_rfl
theorem ta_66 : tyAgg Try.prog 66 = some none := by kernel_rfl
theorem ts_66 : (Try.prog.info? 66).map (·.size) = some 1 := by kernel_rfl
theorem tz_66 : tyZero Try.prog 66 = some (.slice none 0 0) := by kernel_rfl
theorem te_66 : tyElem Try.prog 66 = some (68, 5) := by kernel_rfl
theorem el_66 : ElT Try.prog 66 68 (.agg #[(.int .i64 0), (.string ⟨#[]⟩), (.int .i64 0), (.slice none 0 0), (.int .i64 0)]) 5 64 := ⟨by kernel_rfl, by kernel_rfl, rfl, by decide, by decide⟩
theorem tu_66 : Try.prog.underlying 66 = some (.slice 68) := by kernel_rfl
theorem ta_67 : tyAgg Try.prog 67 = some (some 5) := by kernel_rfl
theorem ts_67 : (Try.prog.info? 67).map (·.size) = some 5 := by kernel_rfl
theorem tz_67 : tyZero Try.prog 67 = some (.agg #[(.int .i64 0), (.string ⟨#[]⟩), (.int .i64 0), (.slice none 0 0), (.int .i64 0)]) := by kernel_rfl
theorem tf_67_0 : tyFld Try.prog 67 0 = some 0 := by kernel_rfl
theorem tf_67_1 : tyFld Try.prog 67 1 = some 1 := by kernel_rfl
theorem tf_67_2 : tyFld Try.prog 67 2 = some 2 := by kernel_rfl
theorem tf_67_3 : tyFld Try.prog 67 3 = some 3 := by kernel_rfl
theorem tf_67_4 : tyFld Try.prog 67 4 = some 4 := by kernel_rfl
theorem tfl_67 : tyFlds Try.prog 67 = some [(0, 1), (1, 1), (2, 1), (3, 1), (4, 1)] := by kernel_rfl
theorem ta_68 : tyAgg Try.prog 68 = some (some 5) := by kernel_rfl
theorem ts_68 : (Try.prog.info? 68).map (·.size) = some 5 := by kernel_rfl
theorem tz_68 : tyZero Try.prog 68 = some (.agg #[(.int .i64 0), (.string ⟨#[]⟩), (.int .i64 0), (.slice none 0 0), (.int .i64 0)]) := by kernel_rfl
theorem tf_68_0 : tyFld Try.prog 68 0 = some 0 := by kernel_rfl
theorem tf_68_1 : tyFld Try.prog 68 1 = some 1 := by kernel_rfl
theorem tf_68_2 : tyFld Try.prog 68 2 = some 2 := by kernel_rfl
theorem tf_68_3 : tyFld Try.prog 68 3 = some 3 := by kernel_rfl
theorem tf_68_4 : tyFld Try.prog 68 4 = some 4 := by kernel_rfl
theorem tfl_68 : tyFlds Try.prog 68 = some [(0, 1), (1, 1), (2, 1), (3, 1), (4, 1)] := by kernel_rfl
theorem ta_69 : tyAgg Try.prog 69 = some (some 16) := by kernel_rfl
theorem ts_69 : (Try.prog.info? 69).map (·.size) = some 16 := by kernel_rfl
theorem tz_69 : tyZero Try.prog 69 = some (.agg #[(.int .i64 0), (.string ⟨#[]⟩), (.int .i64 0), (.slice none 0 0), (.int .i64 0), (.int .i64 0), (.string ⟨#[]⟩), (.int .i64 0), (.int .i64 0), (.string ⟨#[]⟩), (.int .i64 0), (.slice none 0 0), (.slice none 0 0), (.slice none 0 0), (.slice none 0 0), (.int .i64 0)]) := by kernel_rfl
theorem tf_69_0 : tyFld Try.prog 69 0 = some 0 := by kernel_rfl
theorem tf_69_1 : tyFld Try.prog 69 1 = some 5 := by kernel_rfl
theorem tfl_69 : tyFlds Try.prog 69 = some [(0, 5), (5, 11)] := by kernel_rfl
theorem ta_70 : tyAgg Try.prog 70 = some (some 16) := by kernel_rfl
theorem ts_70 : (Try.prog.info? 70).map (·.size) = some 16 := by kernel_rfl
theorem tz_70 : tyZero Try.prog 70 = some (.agg #[(.int .i64 0), (.string ⟨#[]⟩), (.int .i64 0), (.slice none 0 0), (.int .i64 0), (.int .i64 0), (.string ⟨#[]⟩), (.int .i64 0), (.int .i64 0), (.string ⟨#[]⟩), (.int .i64 0), (.slice none 0 0), (.slice none 0 0), (.slice none 0 0), (.slice none 0 0), (.int .i64 0)]) := by kernel_rfl
theorem tf_70_0 : tyFld Try.prog 70 0 = some 0 := by kernel_rfl
theorem tf_70_1 : tyFld Try.prog 70 1 = some 5 := by kernel_rfl
theorem tfl_70 : tyFlds Try.prog 70 = some [(0, 5), (5, 11)] := by kernel_rfl
theorem ta_71 : tyAgg Try.prog 71 = some none := by kernel_rfl
theorem ts_71 : (Try.prog.info? 71).map (·.size) = some 1 := by kernel_rfl
theorem tz_71 : tyZero Try.prog 71 = some .nilFunc := by kernel_rfl
theorem ta_72 : tyAgg Try.prog 72 = some none := by kernel_rfl
theorem ts_72 : (Try.prog.info? 72).map (·.size) = some 1 := by kernel_rfl
theorem tz_72 : tyZero Try.prog 72 = some .nilFunc := by kernel_rfl
theorem ta_73 : tyAgg Try.prog 73 = some (some 13) := by kernel_rfl
theorem ts_73 : (Try.prog.info? 73).map (·.size) = some 13 := by kernel_rfl
theorem tz_73 : tyZero Try.prog 73 = some (.agg #[(.string ⟨#[]⟩), (.int .i64 0), (.string ⟨#[]⟩), (.int .i64 0), (.int .i64 0), (.string ⟨#[]⟩), (.int .i64 0), (.slice none 0 0), (.slice none 0 0), (.slice none 0 0), (.slice none 0 0), (.int .i64 0), (.int .i64 0)]) := by kernel_rfl
theorem tf_73_0 : tyFld Try.prog 73 0 = some 0 := by kernel_rfl
theorem tf_73_1 : tyFld Try.prog 73 1 = some 1 := by kernel_rfl
theorem tf_73_2 : tyFld Try.prog 73 2 = some 12 := by kernel_rfl
theorem tfl_73 : tyFlds Try.prog 73 = some [(0, 1), (1, 11), (12, 1)] := by kernel_rfl
theorem ta_74 : tyAgg Try.prog 74 = some (some 13) := by kernel_rfl
theorem ts_74 : (Try.prog.info? 74).map (·.size) = some 13 := by kernel_rfl
theorem tz_74 : tyZero Try.prog 74 = some (.agg #[(.string ⟨#[]⟩), (.int .i64 0), (.string ⟨#[]⟩), (.int .i64 0), (.int .i64 0), (.string ⟨#[]⟩), (.int .i64 0), (.slice none 0 0), (.slice none 0 0), (.slice none 0 0), (.slice none 0 0), (.int .i64 0), (.int .i64 0)]) := by kernel_rfl
theorem tf_74_0 : tyFld Try.prog 74 0 = some 0 := by kernel_rfl
theorem tf_74_1 : tyFld Try.prog 74 1 = some 1 := by kernel_rfl
theorem tf_74_2 : tyFld Try.prog 74 2 = some 12 := by kernel_rfl
theorem tfl_74 : tyFlds Try.prog 74 = some [(0, 1), (1, 11), (12, 1)] := by kernel_rfl
theorem ta_75 : tyAgg Try.prog 75 = some none := by kernel_rfl
theorem ts_75 : (Try.prog.info? 75).map (·.size) = some 1 := by kernel_rfl
theorem tz_75 : tyZero Try.prog 75 = some .nilFunc := by kernel_rfl
theorem ta_76 : tyAgg Try.prog 76 = some none := by kernel_rfl
theorem ts_76 : (Try.prog.info? 76).map (·.size) = some 1 := by kernel_rfl
theorem tz_76 : tyZero Try.prog 76 = some .nilFunc := by kernel_rfl
theorem ta_77 : tyAgg Try.prog 77 = some none := by kernel_rfl
theorem ts_77 : (Try.prog.info? 77).map (·.size) = some 1 := by kernel_rfl
theorem tz_77 : tyZero Try.prog 77 = some (.slice none 0 0) := by kernel_rfl
theorem te_77 : tyElem Try.prog 77 = some (130, 5) := by kernel_rfl
theorem el_77 : ElT Try.prog 77 130 (.agg #[(.string ⟨#[]⟩), (.slice none 0 0), (.slice none 0 0), (.slice none 0 0), (.int .i64 0)]) 5 96 := ⟨by kernel_rfl, by kernel_rfl, rfl, by decide, by decide⟩
theorem tu_77 : Try.prog.underlying 77 = some (.slice 130) := by kernel_rfl
theorem ta_78 : tyAgg Try.prog 78 = some none := by kernel_rfl
theorem ts_78 : (Try.prog.info? 78).map (·.size) = some 1 := by kernel_rfl
theorem tz_78 : tyZero Try.prog 78 = some (.slice none 0 0) := by kernel_rfl
theorem te_78 : tyElem Try.prog 78 = some (124, 6) := by kernel_rfl
theorem el_78 : ElT Try.prog 78 124 (.agg #[(.string ⟨#[]⟩), (.string ⟨#[]⟩), (.slice none 0 0), (.slice none 0 0), (.slice none 0 0), (.int .i64 0)]) 6 112 := ⟨by kernel_rfl, by kernel_rfl, rfl, by decide, by decide⟩
theorem tu_78 : Try.prog.underlying 78 = some (.slice 124) := by kernel_rfl
theorem ta_79 : tyAgg Try.prog 79 = some none := by kernel_rfl
theorem ts_79 : (Try.prog.info? 79).map (·.size) = some 1 := by kernel_rfl
theorem tz_79 : tyZero Try.prog 79 = some (.slice none 0 0) := by kernel_rfl
theorem te_79 : tyElem Try.prog 79 = some (127, 8) := by kernel_rfl
theorem el_79 : ElT Try.prog 79 127 (.agg #[(.string ⟨#[]⟩), (.int .i64 0), (.string ⟨#[]⟩), (.int .i64 0), (.slice none 0 0), (.slice none 0 0), (.slice none 0 0), (.int .i64 0)]) 8 128 := ⟨by kernel_rfl, by kernel_rfl, rfl, by decide, by decide⟩
theorem tu_79 : Try.prog.underlying 79 = some (.slice 127) := by kernel_rfl
theorem ta_80 : tyAgg Try.prog 80 = some (some 4) := by kernel_rfl
theorem ts_80 : (Try.prog.info? 80).map (·.size) = some 4 := by kernel_rfl
theorem tz_80 : tyZero Try.prog 80 = some (.agg #[(.slice none 0 0), (.slice none 0 0), (.slice none 0 0), (.slice none 0 0)]) := by kernel_rfl
theorem tf_80_0 : tyFld Try.prog 80 0 = some 0 := by kernel_rfl
theorem tf_80_1 : tyFld Try.prog 80 1 = some 1 := by kernel_rfl
theorem tf_80_2 : tyFld Try.prog 80 2 = some 2 := by kernel_rfl
theorem tf_80_3 : tyFld Try.prog 80 3 = some 3 := by kernel_rfl
theorem tfl_80 : tyFlds Try.prog 80 = some [(0, 1), (1, 1), (2, 1), (3, 1)] := by kernel_rfl
theorem ta_81 : tyAgg Try.prog 81 = some (some 4) := by kernel_rfl
theorem ts_81 : (Try.prog.info? 81).map (·.size) = some 4 := by kernel_rfl
theorem tz_81 : tyZero Try.prog 81 = some (.agg #[(.slice none 0 0), (.slice none 0 0), (.slice none 0 0), (.slice none 0 0)]) := by kernel_rfl
theorem tf_81_0 : tyFld Try.prog 81 0 = some 0 := by kernel_rfl
theorem tf_81_1 : tyFld Try.prog 81 1 = some 1 := by kernel_rfl
theorem tf_81_2 : tyFld Try.prog 81 2 = some 2 := by kernel_rfl
theorem tf_81_3 : tyFld Try.prog 81 3 = some 3 := by kernel_rfl
theorem tfl_81 : tyFlds Try.prog 81 = some [(0, 1), (1, 1), (2, 1), (3, 1)] := by kernel_rfl
theorem ta_82 : tyAgg Try.prog 82 = some none := by kernel_rfl
theorem ts_82 : (Try.prog.info? 82).map (·.size) = some 1 := by kernel_rfl
theorem tz_82 : tyZero Try.prog 82 = some .nilFunc := by kernel_rfl
theorem ta_83 : tyAgg Try.prog 83 = some none := by kernel_rfl
theorem ts_83 : (Try.prog.info? 83).map (·.size) = some 1 := by kernel_rfl
theorem tz_83 : tyZero Try.prog 83 = some .nilFunc := by kernel_rfl
theorem ta_84 : tyAgg Try.prog 84 = some none := by kernel_rfl
theorem ts_84 : (Try.prog.info? 84).map (·.size) = some 1 := by kernel_rfl
theorem tz_84 : tyZero Try.prog 84 = some .nilFunc := by kernel_rfl
theorem ta_85 : tyAgg Try.prog 85 = some none := by kernel_rfl
theorem ts_85 : (Try.prog.info? 85).map (·.size) = some 1 := by kernel_rfl
theorem tz_85 : tyZero Try.prog 85 = some (.pointer none) := by kernel_rfl
theorem tu_85 : Try.prog.underlying 85 = some (.pointer 87) := by kernel_rfl
theorem ta_86 : tyAgg Try.prog 86 = some (some 2) := by kernel_rfl
theorem ts_86 : (Try.prog.info? 86).map (·.size) = some 2 := by kernel_rfl
theorem tz_86 : tyZero Try.prog 86 = some (.agg #[(.slice none 0 0), (.slice none 0 0)]) := by kernel_rfl
theorem tf_86_0 : tyFld Try.prog 86 0 = some 0 := by kernel_rfl
theorem tf_86_1 : tyFld Try.prog 86 1 = some 1 := by kernel_rfl
theorem tfl_86 : tyFlds Try.prog 86 = some [(0, 1), (1, 1)] := by kernel_rfl
theorem ta_87 : tyAgg Try.prog 87 = some (some 2) := by kernel_rfl
theorem ts_87 : (Try.prog.info? 87).map (·.size) = some 2 := by kernel_rfl
theorem tz_87 : tyZero Try.prog 87 = some (.agg #[(.slice none 0 0), (.slice none 0 0)]) := by kernel_rfl
theorem tf_87_0 : tyFld Try.prog 87 0 = some 0 := by kernel_rfl
theorem tf_87_1 : tyFld Try.prog 87 1 = some 1 := by kernel_rfl
theorem tfl_87 : tyFlds Try.prog 87 = some [(0, 1), (1, 1)] := by kernel_rfl
theorem ta_89 : tyAgg Try.prog 89 = some none := by kernel_rfl
theorem ts_89 : (Try.prog.info? 89).map (·.size) = some 1 := by kernel_rfl
theorem tz_89 : tyZero Try.prog 89 = some .nilFunc := by kernel_rfl
theorem ta_90 : tyAgg Try.prog 90 = some none := by kernel_rfl
theorem ts_90 : (Try.prog.info? 90).map (·.size) = some 1 := by kernel_rfl
theorem tz_90 : tyZero Try.prog 90 = some .nilFunc := by kernel_rfl
theorem ta_91 : tyAgg Try.prog 91 = some none := by kernel_rfl
theorem ts_91 : (Try.prog.info? 91).map (·.size) = some 1 := by kernel_rfl
theorem tz_91 : tyZero Try.prog 91 = some .nilFunc := by kernel_rfl
theorem ta_92 : tyAgg Try.prog 92 = some none := by kernel_rfl
theorem ts_92 : (Try.prog.info? 92).map (·.size) = some 1 := by kernel_rfl
theorem tz_92 : tyZero Try.prog 92 = some .nilFunc := by kernel_rfl
theorem ta_93 : tyAgg Try.prog 93 = some none := by kernel_rfl
theorem ts_93 : (Try.prog.info? 93).map (·.size) = some 1 := by kernel_rfl
theorem tz_93 : tyZero Try.prog 93 = some .nilFunc := by kernel_rfl
theorem ta_94 : tyAgg Try.prog 94 = some none := by kernel_rfl
theorem ts_94 : (Try.prog.info? 94).map (·.size) = some 1 := by kernel_rfl
theorem tz_94 : tyZero Try.prog 94 = some .nilFunc := by kernel_rfl
theorem ta_95 : tyAgg Try.prog 95 = some none := by kernel_rfl
theorem ts_95 : (Try.prog.info? 95).map (·.size) = some 1 := by kernel_rfl
theorem tz_95 : tyZero Try.prog 95 = some .nilFunc := by kernel_rfl
theorem ta_96 : tyAgg Try.prog 96 = some none := by kernel_rfl
theorem ts_96 : (Try.prog.info? 96).map (·.size) = some 1 := by kernel_rfl
theorem tz_96 : tyZero Try.prog 96 = some .nilFunc := by kernel_rfl
theorem ta_97 : tyAgg Try.prog 97 = some none := by kernel_rfl
theorem ts_97 : (Try.prog.info? 97).map (·.size) = some 1 := by kernel_rfl
theorem tz_97 : tyZero Try.prog 97 = some .nilFunc := by kernel_rfl
theorem ta_98 : tyAgg Try.prog 98 = some none := by kernel_rfl
theorem ts_98 : (Try.prog.info? 98).map (·.size) = some 1 := by kernel_rfl
theorem tz_98 : tyZero Try.prog 98 = some .nilFunc := by kernel_rfl
theorem ta_99 : tyAgg Try.prog 99 = some none := by kernel_rfl
theorem ts_99 : (Try.prog.info? 99).map (·.size) = some 1 := by kernel_rfl
theorem tz_99 : tyZero Try.prog 99 = some .nilFunc := by kernel_rfl
theorem ta_100 : tyAgg Try.prog 100 = some none := by kernel_rfl
theorem ts_100 : (Try.prog.info? 100).map (·.size) = some 1 := by kernel_rfl
theorem tz_100 : tyZero Try.prog 100 = some .nilFunc := by kernel_rfl
theorem ta_101 : tyAgg Try.prog 101 = some none := by kernel_rfl
theorem ts_101 : (Try.prog.info? 101).map (·.size) = some 1 := by kernel_rfl
theorem tz_101 : tyZero Try.prog 101 = some .nilFunc := by kernel_rfl
theorem ta_102 : tyAgg Try.prog 102 = some none := by kernel_rfl
theorem ts_102 : (Try.prog.info? 102).map (·.size) = some 1 := by kernel_rfl
theorem tz_102 : tyZero Try.prog 102 = some .nilFunc := by kernel_rfl
theorem ta_103 : tyAgg Try.prog 103 = some none := by kernel_rfl
theorem ts_103 : (Try.prog.info? 103).map (·.size) = some 1 := by kernel_rfl
theorem tz_103 : tyZero Try.prog 103 = some .nilFunc := by kernel_rfl
theorem ta_104 : tyAgg Try.prog 104 = some none := by kernel_rfl
theorem ts_104 : (Try.prog.info? 104).map (·.size) = some 1 := by kernel_rfl
theorem tz_104 : tyZero Try.prog 104 = some .nilFunc := by kernel_rfl
theorem ta_105 : tyAgg Try.prog 105 = some none := by kernel_rfl
theorem ts_105 : (Try.prog.info? 105).map (·.size) = some 1 := by kernel_rfl
theorem tz_105 : tyZero Try.prog 105 = some .nilFunc := by kernel_rfl
theorem ta_106 : tyAgg Try.prog 106 = some none := by kernel_rfl
theorem ts_106 : (Try.prog.info? 106).map (·.size) = some 1 := by kernel_rfl
theorem tz_106 : tyZero Try.prog 106 = some .nilFunc := by kernel_rfl
theorem ta_107 : tyAgg Try.prog 107 = some none := by kernel_rfl
theorem ts_107 : (Try.prog.info? 107).map (·.size) = some 1 := by kernel_rfl
theorem tz_107 : tyZero Try.prog 107 = some .nilFunc := by kernel_rfl
theorem ta_108 : tyAgg Try.prog 108 = some none := by kernel_rfl
theorem ts_108 : (Try.prog.info? 108).map (·.size) = some 1 := by kernel_rfl
theorem tz_108 : tyZero Try.prog 108 = some .nilFunc := by kernel_rfl
theorem ta_109 : tyAgg Try.prog 109 = some none := by kernel_rfl
theorem ts_109 : (Try.prog.info? 109).map (·.size) = some 1 := by kernel_rfl
theorem tz_109 : tyZero Try.prog 109 = some .nilFunc := by kernel_rfl
theorem ta_110 : tyAgg Try.prog 110 = some none := by kernel_rfl
theorem ts_110 : (Try.prog.info? 110).map (·.size) = some 1 := by kernel_rfl
theorem tz_110 : tyZero Try.prog 110 = some .nilFunc := by kernel_rfl
theorem ta_111 : tyAgg Try.prog 111 = some none := by kernel_rfl
theorem ts_111 : (Try.prog.info? 111).map (·.size) = some 1 := by kernel_rfl
theorem tz_111 : tyZero Try.prog 111 = some .nilFunc := by kernel_rfl
theorem ta_112 : tyAgg Try.prog 112 = some none := by kernel_rfl
theorem ts_112 : (Try.prog.info? 112).map (·.size) = some 1 := by kernel_rfl
theorem tz_112 : tyZero Try.prog 112 = some .nilFunc := by kernel_rfl
theorem ta_113 : tyAgg Try.prog 113 = some none := by kernel_rfl
theorem ts_113 : (Try.prog.info? 113).map (·.size) = some 1 := by kernel_rfl
theorem tz_113 : tyZero Try.prog 113 = some .nilFunc := by kernel_rfl
theorem ta_114 : tyAgg Try.prog 114 = some none := by kernel_rfl
theorem ts_114 : (Try.prog.info? 114).map (·.size) = some 1 := by kernel_rfl
theorem tz_114 : tyZero Try.prog 114 = some .nilFunc := by kernel_rfl
theorem ta_115 : tyAgg Try.prog 115 = some none := by kernel_rfl
theorem ts_115 : (Try.prog.info? 115).map (·.size) = some 1 := by kernel_rfl
theorem tz_115 : tyZero Try.prog 115 = some .nilFunc := by kernel_rfl
theorem ta_116 : tyAgg Try.prog 116 = some none := by kernel_rfl
theorem ts_116 : (Try.prog.info? 116).map (·.size) = some 1 := by kernel_rfl
theorem tz_116 : tyZero Try.prog 116 = some (.pointer none) := by kernel_rfl
theorem tu_116 : Try.prog.underlying 116 = some (.pointer 118) := by kernel_rfl
theorem ta_117 : tyAgg Try.prog 117 = some (some 2) := by kernel_rfl
theorem ts_117 : (Try.prog.info? 117).map (·.size) = some 2 := by kernel_rfl
theorem tz_117 : tyZero Try.prog 117 = some (.agg #[(.slice none 0 0), (.slice none 0 0)]) := by kernel_rfl
theorem tf_117_0 : tyFld Try.prog 117 0 = some 0 := by kernel_rfl
theorem tf_117_1 : tyFld Try.prog 117 1 = some 1 := by kernel_rfl
theorem tfl_117 : tyFlds Try.prog 117 = some [(0, 1), (1, 1)] := by kernel_rfl
theorem ta_118 : tyAgg Try.prog 118 = some (some 2) := by kernel_rfl
theorem ts_118 : (Try.prog.info? 118).map (·.size) = some 2 := by kernel_rfl
theorem tz_118 : tyZero Try.prog 118 = some (.agg #[(.slice none 0 0), (.slice none 0 0)]) := by kernel_rfl
theorem tf_118_0 : tyFld Try.prog 118 0 = some 0 := by kernel_rfl
theorem tf_118_1 : tyFld Try.prog 118 1 = some 1 := by kernel_rfl
theorem tfl_118 : tyFlds Try.prog 118 = some [(0, 1), (1, 1)] := by kernel_rfl
theorem ta_119 : tyAgg Try.prog 119 = some none := by kernel_rfl
theorem ts_119 : (Try.prog.info? 119).map (·.size) = some 1 := by kernel_rfl
theorem tz_119 : tyZero Try.prog 119 = some .nilFunc := by kernel_rfl
theorem ta_120 : tyAgg Try.prog 120 = some none := by kernel_rfl
theorem ts_120 : (Try.prog.info? 120).map (·.size) = some 1 := by kernel_rfl
theorem tz_120 : tyZero Try.prog 120 = some .nilFunc := by kernel_rfl
theorem ta_121 : tyAgg Try.prog 121 = some none := by kernel_rfl
theorem ts_121 : (Try.prog.info? 121).map (·.size) = some 1 := by kernel_rfl
theorem tz_121 : tyZero Try.prog 121 = some .nilFunc := by kernel_rfl
theorem ta_122 : tyAgg Try.prog 122 = some none := by kernel_rfl
theorem ts_122 : (Try.prog.info? 122).map (·.size) = some 1 := by kernel_rfl
theorem tz_122 : tyZero Try.prog 122 = some (.slice none 0 0) := by kernel_rfl
theorem te_122 : tyElem Try.prog 122 = some (152, 6) := by kernel_rfl
theorem el_122 : ElT Try.prog 122 152 (.agg #[(.string ⟨#[]⟩), (.int .i64 0), (.string ⟨#[]⟩), (.int .i64 0), (.slice none 0 0), (.int .i64 0)]) 6 80 := ⟨by kernel_rfl, by kernel_rfl, rfl, by decide, by decide⟩
theorem tu_122 : Try.prog.underlying 122 = some (.slice 152) := by kernel_rfl
theorem ta_123 : tyAgg Try.prog 123 = some (some 6) := by kernel_rfl
theorem ts_123 : (Try.prog.info? 123).map (·.size) = some 6 := by kernel_rfl
theorem tz_123 : tyZero Try.prog 123 = some (.agg #[(.string ⟨#[]⟩), (.string ⟨#[]⟩), (.slice none 0 0), (.slice none 0 0), (.slice none 0 0), (.int .i64 0)]) := by kernel_rfl
theorem tf_123_0 : tyFld Try.prog 123 0 = some 0 := by kernel_rfl
theorem tf_123_1 : tyFld Try.prog 123 1 = some 1 := by kernel_rfl
theorem tf_123_2 : tyFld Try.prog 123 2 = some 2 := by kernel_rfl
theorem tf_123_3 : tyFld Try.prog 123 3 = some 3 := by kernel_rfl
theorem tf_123_4 : tyFld Try.prog 123 4 = some 4 := by kernel_rfl
theorem tf_123_5 : tyFld Try.prog 123 5 = some 5 := by kernel_rfl
theorem tfl_123 : tyFlds Try.prog 123 = some [(0, 1), (1, 1), (2, 1), (3, 1), (4, 1), (5, 1)] := by kernel_rfl
theorem ta_124 : tyAgg Try.prog 124 = some (some 6) := by kernel_rfl
theorem ts_124 : (Try.prog.info? 124).map (·.size) = some 6 := by kernel_rfl
theorem tz_124 : tyZero Try.prog 124 = some (.agg #[(.string ⟨#[]⟩), (.string ⟨#[]⟩), (.slice none 0 0), (.slice none 0 0), (.slice none 0 0), (.int .i64 0)]) := by kernel_rfl
theorem tf_124_0 : tyFld Try.prog 124 0 = some 0 := by kernel_rfl
theorem tf_124_1 : tyFld Try.prog 124 1 = some 1 := by kernel_rfl
theorem tf_124_2 : tyFld Try.prog 124 2 = some 2 := by kernel_rfl
theorem tf_124_3 : tyFld Try.prog 124 3 = some 3 := by kernel_rfl
theorem tf_124_4 : tyFld Try.prog 124 4 = some 4 := by kernel_rfl
theorem tf_124_5 : tyFld Try.prog 124 5 = some 5 := by kernel_rfl
theorem tfl_124 : tyFlds Try.prog 124 = some [(0, 1), (1, 1), (2, 1), (3, 1), (4, 1), (5, 1)] := by kernel_rfl
theorem ta_125 : tyAgg Try.prog 125 = some none := by kernel_rfl
theorem ts_125 : (Try.prog.info? 125).map (·.size) = some 1 := by kernel_rfl
theorem tz_125 : tyZero Try.prog 125 = some (.slice none 0 0) := by kernel_rfl
theorem te_125 : tyElem Try.prog 125 = some (157, 5) := by kernel_rfl
theorem el_125 : ElT Try.prog 125 157 (.agg #[(.string ⟨#[]⟩), (.int .i64 0), (.string ⟨#[]⟩), (.int .i64 0), (.slice none 0 0)]) 5 72 := ⟨by kernel_rfl, by kernel_rfl, rfl, by decide, by decide⟩
theorem tu_125 : Try.prog.underlying 125 = some (.slice 157) := by kernel_rfl
theorem ta_126 : tyAgg Try.prog 126 = some (some 8) := by kernel_rfl
theorem ts_126 : (Try.prog.info? 126).map (·.size) = some 8 := by kernel_rfl
theorem tz_126 : tyZero Try.prog 126 = some (.agg #[(.string ⟨#[]⟩), (.int .i64 0), (.string ⟨#[]⟩), (.int .i64 0), (.slice none 0 0), (.slice none 0 0), (.slice none 0 0), (.int .i64 0)]) := by kernel_rfl
theorem tf_126_0 : tyFld Try.prog 126 0 = some 0 := by kernel_rfl
theorem tf_126_1 : tyFld Try.prog 126 1 = some 1 := by kernel_rfl
theorem tf_126_2 : tyFld Try.prog 126 2 = some 5 := by kernel_rfl
theorem tf_126_3 : tyFld Try.prog 126 3 = some 6 := by kernel_rfl
theorem tf_126_4 : tyFld Try.prog 126 4 = some 7 := by kernel_rfl
theorem tfl_126 : tyFlds Try.prog 126 = some [(0, 1), (1, 4), (5, 1), (6, 1), (7, 1)] := by kernel_rfl
theorem ta_127 : tyAgg Try.prog 127 = some (some 8) := by kernel_rfl
theorem ts_127 : (Try.prog.info? 127).map (·.size) = some 8 := by kernel_rfl
theorem tz_127 : tyZero Try.prog 127 = some (.agg #[(.string ⟨#[]⟩), (.int .i64 0), (.string ⟨#[]⟩), (.int .i64 0), (.slice none 0 0), (.slice none 0 0), (.slice none 0 0), (.int .i64 0)]) := by kernel_rfl
theorem tf_127_0 : tyFld Try.prog 127 0 = some 0 := by kernel_rfl
theorem tf_127_1 : tyFld Try.prog 127 1 = some 1 := by kernel_rfl
theorem tf_127_2 : tyFld Try.prog 127 2 = some 5 := by kernel_rfl
theorem tf_127_3 : tyFld Try.prog 127 3 = some 6 := by kernel_rfl
theorem tf_127_4 : tyFld Try.prog 127 4 = some 7 := by kernel_rfl
theorem tfl_127 : tyFlds Try.prog 127 = some [(0, 1), (1, 4), (5, 1), (6, 1), (7, 1)] := by kernel_rfl
theorem ta_128 : tyAgg Try.prog 128 = some none := by kernel_rfl
theorem ts_128 : (Try.prog.info? 128).map (·.size) = some 1 := by kernel_rfl
theorem tz_128 : tyZero Try.prog 128 = some (.slice none 0 0) := by kernel_rfl
theorem te_128 : tyElem Try.prog 128 = some (148, 3) := by kernel_rfl
theorem el_128 : ElT Try.prog 128 148 (.agg #[(.string ⟨#[]⟩), (.slice none 0 0), (.int .i64 0)]) 3 48 := ⟨by kernel_rfl, by kernel_rfl, rfl, by decide, by decide⟩
theorem tu_128 : Try.prog.underlying 128 = some (.slice 148) := by kernel_rfl
theorem ta_129 : tyAgg Try.prog 129 = some (some 5) := by kernel_rfl
theorem ts_129 : (Try.prog.info? 129).map (·.size) = some 5 := by kernel_rfl
theorem tz_129 : tyZero Try.prog 129 = some (.agg #[(.string ⟨#[]⟩), (.slice none 0 0), (.slice none 0 0), (.slice none 0 0), (.int .i64 0)]) := by kernel_rfl
theorem tf_129_0 : tyFld Try.prog 129 0 = some 0 := by kernel_rfl
theorem tf_129_1 : tyFld Try.prog 129 1 = some 1 := by kernel_rfl
theorem tf_129_2 : tyFld Try.prog 129 2 = some 2 := by kernel_rfl
theorem tf_129_3 : tyFld Try.prog 129 3 = some 3 := by kernel_rfl
theorem tf_129_4 : tyFld Try.prog 129 4 = some 4 := by kernel_rfl
theorem tfl_129 : tyFlds Try.prog 129 = some [(0, 1), (1, 1), (2, 1), (3, 1), (4, 1)] := by kernel_rfl
theorem ta_130 : tyAgg Try.prog 130 = some (some 5) := by kernel_rfl
theorem ts_130 : (Try.prog.info? 130).map (·.size) = some 5 := by kernel_rfl
theorem tz_130 : tyZero Try.prog 130 = some (.agg #[(.string ⟨#[]⟩), (.slice none 0 0), (.slice none 0 0), (.slice none 0 0), (.int .i64 0)]) := by kernel_rfl
theorem tf_130_0 : tyFld Try.prog 130 0 = some 0 := by kernel_rfl
theorem tf_130_1 : tyFld Try.prog 130 1 = some 1 := by kernel_rfl
theorem tf_130_2 : tyFld Try.prog 130 2 = some 2 := by kernel_rfl
theorem tf_130_3 : tyFld Try.prog 130 3 = some 3 := by kernel_rfl
theorem tf_130_4 : tyFld Try.prog 130 4 = some 4 := by kernel_rfl
theorem tfl_130 : tyFlds Try.prog 130 = some [(0, 1), (1, 1), (2, 1), (3, 1), (4, 1)] := by kernel_rfl
theorem ta_131 : tyAgg Try.prog 131 = some none := by kernel_rfl
theorem ts_131 : (Try.prog.info? 131).map (·.size) = some 1 := by kernel_rfl
theorem tz_131 : tyZero Try.prog 131 = some .nilFunc := by kernel_rfl
theorem ta_132 : tyAgg Try.prog 132 = some none := by kernel_rfl
theorem ts_132 : (Try.prog.info? 132).map (·.size) = some 1 := by kernel_rfl
theorem tz_132 : tyZero Try.prog 132 = some .nilFunc := by kernel_rfl
theorem ta_133 : tyAgg Try.prog 133 = some none := by kernel_rfl
theorem ts_133 : (Try.prog.info? 133).map (·.size) = some 1 := by kernel_rfl
theorem tz_133 : tyZero Try.prog 133 = some .nilFunc := by kernel_rfl
theorem ta_134 : tyAgg Try.prog 134 = some none := by kernel_rfl
theorem ts_134 : (Try.prog.info? 134).map (·.size) = some 1 := by kernel_rfl
theorem tz_134 : tyZero Try.prog 134 = some .nilFunc := by kernel_rfl
theorem ta_135 : tyAgg Try.prog 135 = some none := by kernel_rfl
theorem ts_135 : (Try.prog.info? 135).map (·.size) = some 1 := by kernel_rfl
theorem tz_135 : tyZero Try.prog 135 = some .nilFunc := by kernel_rfl
theorem ta_136 : tyAgg Try.prog 136 = some none := by kernel_rfl
theorem ts_136 : (Try.prog.info? 136).map (·.size) = some 1 := by kernel_rfl
theorem tz_136 : tyZero Try.prog 136 = some .nilFunc := by kernel_rfl
theorem ta_137 : tyAgg Try.prog 137 = some none := by kernel_rfl
theorem ts_137 : (Try.prog.info? 137).map (·.size) = some 1 := by kernel_rfl
theorem tz_137 : tyZero Try.prog 137 = some .nilFunc := by kernel_rfl
theorem ta_138 : tyAgg Try.prog 138 = some (some 20) := by kernel_rfl
theorem ts_138 : (Try.prog.info? 138).map (·.size) = some 20 := by kernel_rfl
theorem tz_138 : tyZero Try.prog 138 = some (.agg #[(.int .u8 0), (.int .u8 0), (.int .u8 0), (.int .u8 0), (.int .u8 0), (.int .u8 0), (.int .u8 0), (.int .u8 0), (.int .u8 0), (.int .u8 0), (.int .u8 0), (.int .u8 0), (.int .u8 0), (.int .u8 0), (.int .u8 0), (.int .u8 0), (.int .u8 0), (.int .u8 0), (.int .u8 0), (.int .u8 0)]) := by kernel_rfl
theorem ta_139 : tyAgg Try.prog 139 = some none := by kernel_rfl
theorem ts_139 : (Try.prog.info? 139).map (·.size) = some 1 := by kernel_rfl
theorem tz_139 : tyZero Try.prog 139 = some (.int .u64 0) := by kernel_rfl
theorem tu_139 : Try.prog.underlying 139 = some (.int .u64) := by kernel_rfl
theorem ta_140 : tyAgg Try.prog 140 = some none := by kernel_rfl
theorem ts_140 : (Try.prog.info? 140).map (·.size) = some 1 := by kernel_rfl
theorem tz_140 : tyZero Try.prog 140 = some (.slice none 0 0) := by kernel_rfl
theorem te_140 : tyElem Try.prog 140 = some (5, 1) := by kernel_rfl
theorem el_140 : ElT Try.prog 140 5 (.int .u8 0) 1 1 := ⟨by kernel_rfl, by kernel_rfl, rfl, by decide, by decide⟩
theorem tu_140 : Try.prog.underlying 140 = some (.slice 5) := by kernel_rfl
theorem ta_141 : tyAgg Try.prog 141 = some none := by kernel_rfl
theorem ts_141 : (Try.prog.info? 141).map (·.size) = some 1 := by kernel_rfl
theorem tz_141 : tyZero Try.prog 141 = some .nilFunc := by kernel_rfl
theorem ta_142 : tyAgg Try.prog 142 = some none := by kernel_rfl
theorem ts_142 : (Try.prog.info? 142).map (·.size) = some 1 := by kernel_rfl
theorem tz_142 : tyZero Try.prog 142 = some .nilFunc := by kernel_rfl
theorem ta_143 : tyAgg Try.prog 143 = some none := by kernel_rfl
theorem ts_143 : (Try.prog.info? 143).map (·.size) = some 1 := by kernel_rfl
theorem tz_143 : tyZero Try.prog 143 = some .nilFunc := by kernel_rfl
theorem ta_144 : tyAgg Try.prog 144 = some none := by kernel_rfl
theorem ts_144 : (Try.prog.info? 144).map (·.size) = some 1 := by kernel_rfl
theorem tz_144 : tyZero Try.prog 144 = some .nilFunc := by kernel_rfl
theorem ta_145 : tyAgg Try.prog 145 = some none := by kernel_rfl
theorem ts_145 : (Try.prog.info? 145).map (·.size) = some 1 := by kernel_rfl
theorem tz_145 : tyZero Try.prog 145 = some .nilFunc := by kernel_rfl
theorem ta_146 : tyAgg Try.prog 146 = some none := by kernel_rfl
theorem ts_146 : (Try.prog.info? 146).map (·.size) = some 1 := by kernel_rfl
theorem tz_146 : tyZero Try.prog 146 = some .nilFunc := by kernel_rfl
theorem ta_147 : tyAgg Try.prog 147 = some (some 3) := by kernel_rfl
theorem ts_147 : (Try.prog.info? 147).map (·.size) = some 3 := by kernel_rfl
theorem tz_147 : tyZero Try.prog 147 = some (.agg #[(.string ⟨#[]⟩), (.slice none 0 0), (.int .i64 0)]) := by kernel_rfl
theorem tf_147_0 : tyFld Try.prog 147 0 = some 0 := by kernel_rfl
theorem tf_147_1 : tyFld Try.prog 147 1 = some 1 := by kernel_rfl
theorem tf_147_2 : tyFld Try.prog 147 2 = some 2 := by kernel_rfl
theorem tfl_147 : tyFlds Try.prog 147 = some [(0, 1), (1, 1), (2, 1)] := by kernel_rfl
theorem ta_148 : tyAgg Try.prog 148 = some (some 3) := by kernel_rfl
theorem ts_148 : (Try.prog.info? 148).map (·.size) = some 3 := by kernel_rfl
theorem tz_148 : tyZero Try.prog 148 = some (.agg #[(.string ⟨#[]⟩), (.slice none 0 0), (.int .i64 0)]) := by kernel_rfl
theorem tf_148_0 : tyFld Try.prog 148 0 = some 0 := by kernel_rfl
theorem tf_148_1 : tyFld Try.prog 148 1 = some 1 := by kernel_rfl
theorem tf_148_2 : tyFld Try.prog 148 2 = some 2 := by kernel_rfl
theorem tfl_148 : tyFlds Try.prog 148 = some [(0, 1), (1, 1), (2, 1)] := by kernel_rfl
theorem ta_149 : tyAgg Try.prog 149 = some none := by kernel_rfl
theorem ts_149 : (Try.prog.info? 149).map (·.size) = some 1 := by kernel_rfl
theorem tz_149 : tyZero Try.prog 149 = some .nilFunc := by kernel_rfl
theorem ta_150 : tyAgg Try.prog 150 = some none := by kernel_rfl
theorem ts_150 : (Try.prog.info? 150).map (·.size) = some 1 := by kernel_rfl
theorem tz_150 : tyZero Try.prog 150 = some .nilFunc := by kernel_rfl
theorem ta_151 : tyAgg Try.prog 151 = some (some 6) := by kernel_rfl
theorem ts_151 : (Try.prog.info? 151).map (·.size) = some 6 := by kernel_rfl
theorem tz_151 : tyZero Try.prog 151 = some (.agg #[(.string ⟨#[]⟩), (.int .i64 0), (.string ⟨#[]⟩), (.int .i64 0), (.slice none 0 0), (.int .i64 0)]) := by kernel_rfl
theorem tf_151_0 : tyFld Try.prog 151 0 = some 0 := by kernel_rfl
theorem tf_151_1 : tyFld Try.prog 151 1 = some 1 := by kernel_rfl
theorem tf_151_2 : tyFld Try.prog 151 2 = some 5 := by kernel_rfl
theorem tfl_151 : tyFlds Try.prog 151 = some [(0, 1), (1, 4), (5, 1)] := by kernel_rfl
theorem ta_152 : tyAgg Try.prog 152 = some (some 6) := by kernel_rfl
theorem ts_152 : (Try.prog.info? 152).map (·.size) = some 6 := by kernel_rfl
theorem tz_152 : tyZero Try.prog 152 = some (.agg #[(.string ⟨#[]⟩), (.int .i64 0), (.string ⟨#[]⟩), (.int .i64 0), (.slice none 0 0), (.int .i64 0)]) := by kernel_rfl
theorem tf_152_0 : tyFld Try.prog 152 0 = some 0 := by kernel_rfl
theorem tf_152_1 : tyFld Try.prog 152 1 = some 1 := by kernel_rfl
theorem tf_152_2 : tyFld Try.prog 152 2 = some 5 := by kernel_rfl
theorem tfl_152 : tyFlds Try.prog 152 = some [(0, 1), (1, 4), (5, 1)] := by kernel_rfl
theorem ta_153 : tyAgg Try.prog 153 = some none := by kernel_rfl
theorem ts_153 : (Try.prog.info? 153).map (·.size) = some 1 := by kernel_rfl
theorem tz_153 : tyZero Try.prog 153 = some .nilFunc := by kernel_rfl
theorem ta_154 : tyAgg Try.prog 154 = some none := by kernel_rfl
theorem ts_154 : (Try.prog.info? 154).map (·.size) = some 1 := by kernel_rfl
theorem tz_154 : tyZero Try.prog 154 = some .nilFunc := by kernel_rfl
theorem ta_155 : tyAgg Try.prog 155 = some none := by kernel_rfl
theorem ts_155 : (Try.prog.info? 155).map (·.size) = some 1 := by kernel_rfl
theorem tz_155 : tyZero Try.prog 155 = some .nilFunc := by kernel_rfl
theorem ta_156 : tyAgg Try.prog 156 = some (some 5) := by kernel_rfl
theorem ts_156 : (Try.prog.info? 156).map (·.size) = some 5 := by kernel_rfl
theorem tz_156 : tyZero Try.prog 156 = some (.agg #[(.string ⟨#[]⟩), (.int .i64 0), (.string ⟨#[]⟩), (.int .i64 0), (.slice none 0 0)]) := by kernel_rfl
theorem tf_156_0 : tyFld Try.prog 156 0 = some 0 := by kernel_rfl
theorem tf_156_1 : tyFld Try.prog 156 1 = some 1 := by kernel_rfl
theorem tfl_156 : tyFlds Try.prog 156 = some [(0, 1), (1, 4)] := by kernel_rfl
theorem ta_157 : tyAgg Try.prog 157 = some (some 5) := by kernel_rfl
theorem ts_157 : (Try.prog.info? 157).map (·.size) = some 5 := by kernel_rfl
theorem tz_157 : tyZero Try.prog 157 = some (.agg #[(.string ⟨#[]⟩), (.int .i64 0), (.string ⟨#[]⟩), (.int .i64 0), (.slice none 0 0)]) := by kernel_rfl
theorem tf_157_0 : tyFld Try.prog 157 0 = some 0 := by kernel_rfl
theorem tf_157_1 : tyFld Try.prog 157 1 = some 1 := by kernel_rfl
theorem tfl_157 : tyFlds Try.prog 157 = some [(0, 1), (1, 4)] := by kernel_rfl
theorem ta_158 : tyAgg Try.prog 158 = some none := by kernel_rfl
theorem ts_158 : (Try.prog.info? 158).map (·.size) = some 1 := by kernel_rfl
theorem tz_158 : tyZero Try.prog 158 = some .nilFunc := by kernel_rfl
theorem ta_159 : tyAgg Try.prog 159 = some none := by kernel_rfl
theorem ts_159 : (Try.prog.info? 159).map (·.size) = some 1 := by kernel_rfl
theorem tz_159 : tyZero Try.prog 159 = some (.int .u64 0) := by kernel_rfl
theorem tu_159 : Try.prog.underlying 159 = some (.int .u64) := by kernel_rfl
theorem ta_160 : tyAgg Try.prog 160 = some none := by kernel_rfl
theorem ts_160 : (Try.prog.info? 160).map (·.size) = some 1 := by kernel_rfl
theorem tz_160 : tyZero Try.prog 160 = some .nilFunc := by kernel_rfl
theorem ta_161 : tyAgg Try.prog 161 = some none := by kernel_rfl
theorem ts_161 : (Try.prog.info? 161).map (·.size) = some 1 := by kernel_rfl
theorem tz_161 : tyZero Try.prog 161 = some .nilFunc := by kernel_rfl
theorem ta_162 : tyAgg Try.prog 162 = some (some 4) := by kernel_rfl
theorem ts_162 : (Try.prog.info? 162).map (·.size) = some 4 := by kernel_rfl
theorem tz_162 : tyZero Try.prog 162 = some (.agg #[(.pointer none), (.pointer none), (.pointer none), (.string ⟨#[]⟩)]) := by kernel_rfl
theorem tf_162_0 : tyFld Try.prog 162 0 = some 0 := by kernel_rfl
theorem tf_162_1 : tyFld Try.prog 162 1 = some 1 := by kernel_rfl
theorem tf_162_2 : tyFld Try.prog 162 2 = some 2 := by kernel_rfl
theorem tf_162_3 : tyFld Try.prog 162 3 = some 3 := by kernel_rfl
theorem tfl_162 : tyFlds Try.prog 162 = some [(0, 1), (1, 1), (2, 1), (3, 1)] := by kernel_rfl
theorem ta_163 : tyAgg Try.prog 163 = some (some 4) := by kernel_rfl
theorem ts_163 : (Try.prog.info? 163).map (·.size) = some 4 := by kernel_rfl
theorem tz_163 : tyZero Try.prog 163 = some (.agg #[(.pointer none), (.pointer none), (.pointer none), (.string ⟨#[]⟩)]) := by kernel_rfl
theorem tf_163_0 : tyFld Try.prog 163 0 = some 0 := by kernel_rfl
theorem tf_163_1 : tyFld Try.prog 163 1 = some 1 := by kernel_rfl
theorem tf_163_2 : tyFld Try.prog 163 2 = some 2 := by kernel_rfl
theorem tf_163_3 : tyFld Try.prog 163 3 = some 3 := by kernel_rfl
theorem tfl_163 : tyFlds Try.prog 163 = some [(0, 1), (1, 1), (2, 1), (3, 1)] := by kernel_rfl
theorem ta_164 : tyAgg Try.prog 164 = some (some 0) := by kernel_rfl
theorem ts_164 : (Try.prog.info? 164).map (·.size) = some 0 := by kernel_rfl
theorem tz_164 : tyZero Try.prog 164 = some (.agg #[]) := by kernel_rfl
theorem ta_165 : tyAgg Try.prog 165 = some (some 0) := by kernel_rfl
theorem ts_165 : (Try.prog.info? 165).map (·.size) = some 0 := by kernel_rfl
theorem tz_165 : tyZero Try.prog 165 = some (.agg #[]) := by kernel_rfl
theorem tfl_165 : tyFlds Try.prog 165 = some [(0, 0)] := by kernel_rfl
theorem ta_166 : tyAgg Try.prog 166 = some (some 0) := by kernel_rfl
theorem ts_166 : (Try.prog.info? 166).map (·.size) = some 0 := by kernel_rfl
theorem tz_166 : tyZero Try.prog 166 = some (.agg #[]) := by kernel_rfl
theorem tfl_166 : tyFlds Try.prog 166 = some [(0, 0)] := by kernel_rfl
theorem ta_167 : tyAgg Try.prog 167 = some none := by kernel_rfl
theorem ts_167 : (Try.prog.info? 167).map (·.size) = some 1 := by kernel_rfl
theorem tz_167 : tyZero Try.prog 167 = some .nilFunc := by kernel_rfl
theorem ta_168 : tyAgg Try.prog 168 = some none := by kernel_rfl
theorem ts_168 : (Try.prog.info? 168).map (·.size) = some 1 := by kernel_rfl
theorem tz_168 : tyZero Try.prog 168 = some (.int .u32 0) := by kernel_rfl
theorem tu_168 : Try.prog.underlying 168 = some (.int .u32) := by kernel_rfl
theorem ta_169 : tyAgg Try.prog 169 = some none := by kernel_rfl
theorem ts_169 : (Try.prog.info? 169).map (·.size) = some 1 := by kernel_rfl
theorem tz_169 : tyZero Try.prog 169 = some (.int .u8 0) := by kernel_rfl
theorem tu_169 : Try.prog.underlying 169 = some (.int .u8) := by kernel_rfl
theorem ta_170 : tyAgg Try.prog 170 = some none := by kernel_rfl
theorem ts_170 : (Try.prog.info? 170).map (·.size) = some 1 := by kernel_rfl
theorem tz_170 : tyZero Try.prog 170 = some (.int .u8 0) := by kernel_rfl
theorem tu_170 : Try.prog.underlying 170 = some (.int .u8) := by kernel_rfl
theorem ta_171 : tyAgg Try.prog 171 = some none := by kernel_rfl
theorem ts_171 : (Try.prog.info? 171).map (·.size) = some 1 := by kernel_rfl
theorem tz_171 : tyZero Try.prog 171 = some .nilFunc := by kernel_rfl
theorem ta_172 : tyAgg Try.prog 172 = some none := by kernel_rfl
theorem ts_172 : (Try.prog.info? 172).map (·.size) = some 1 := by kernel_rfl
theorem tz_172 : tyZero Try.prog 172 = some (.pointer none) := by kernel_rfl
theorem tu_172 : Try.prog.underlying 172 = some (.pointer 5) := by kernel_rfl
theorem ta_173 : tyAgg Try.prog 173 = some none := by kernel_rfl
theorem ts_173 : (Try.prog.info? 173).map (·.size) = some 1 := by kernel_rfl
theorem tz_173 : tyZero Try.prog 173 = some (.int .i32 0) := by kernel_rfl
theorem tu_173 : Try.prog.underlying 173 = some (.int .i32) := by kernel_rfl
theorem ta_174 : tyAgg Try.prog 174 = some none := by kernel_rfl
theorem ts_174 : (Try.prog.info? 174).map (·.size) = some 1 := by kernel_rfl
theorem tz_174 : tyZero Try.prog 174 = some (.int .i32 0) := by kernel_rfl
theorem tu_174 : Try.prog.underlying 174 = some (.int .i32) := by kernel_rfl
theorem ta_175 : tyAgg Try.prog 175 = some (some 11) := by kernel_rfl
theorem ts_175 : (Try.prog.info? 175).map (·.size) = some 11 := by kernel_rfl
theorem tz_175 : tyZero Try.prog 175 = some (.agg #[(.int .u64 0), (.int .u64 0), (.int .u32 0), (.int .u8 0), (.int .u8 0), (.int .u8 0), (.int .u8 0), .nilFunc, (.pointer none), (.int .i32 0), (.int .i32 0)]) := by kernel_rfl
theorem tf_175_0 : tyFld Try.prog 175 0 = some 0 := by kernel_rfl
theorem tf_175_1 : tyFld Try.prog 175 1 = some 1 := by kernel_rfl
theorem tf_175_2 : tyFld Try.prog 175 2 = some 2 := by kernel_rfl
theorem tf_175_3 : tyFld Try.prog 175 3 = some 3 := by kernel_rfl
theorem tf_175_4 : tyFld Try.prog 175 4 = some 4 := by kernel_rfl
theorem tf_175_5 : tyFld Try.prog 175 5 = some 5 := by kernel_rfl
theorem tf_175_6 : tyFld Try.prog 175 6 = some 6 := by kernel_rfl
theorem tf_175_7 : tyFld Try.prog 175 7 = some 7 := by kernel_rfl
theorem tf_175_8 : tyFld Try.prog 175 8 = some 8 := by kernel_rfl
theorem tf_175_9 : tyFld Try.prog 175 9 = some 9 := by kernel_rfl
theorem tf_175_10 : tyFld Try.prog 175 10 = some 10 := by kernel_rfl
theorem tfl_175 : tyFlds Try.prog 175 = some [(0, 1), (1, 1), (2, 1), (3, 1), (4, 1), (5, 1), (6, 1), (7, 1), (8, 1), (9, 1), (10, 1)] := by kernel_rfl
theorem ta_176 : tyAgg Try.prog 176 = some (some 11) := by kernel_rfl
theorem ts_176 : (Try.prog.info? 176).map (·.size) = some 11 := by kernel_rfl
theorem tz_176 : tyZero Try.prog 176 = some (.agg #[(.int .u64 0), (.int .u64 0), (.int .u32 0), (.int .u8 0), (.int .u8 0), (.int .u8 0), (.int .u8 0), .nilFunc, (.pointer none), (.int .i32 0), (.int .i32 0)]) := by kernel_rfl
theorem tf_176_0 : tyFld Try.prog 176 0 = some 0 := by kernel_rfl
theorem tf_176_1 : tyFld Try.prog 176 1 = some 1 := by kernel_rfl
theorem tf_176_2 : tyFld Try.prog 176 2 = some 2 := by kernel_rfl
theorem tf_176_3 : tyFld Try.prog 176 3 = some 3 := by kernel_rfl
theorem tf_176_4 : tyFld Try.prog 176 4 = some 4 := by kernel_rfl
theorem tf_176_5 : tyFld Try.prog 176 5 = some 5 := by kernel_rfl
theorem tf_176_6 : tyFld Try.prog 176 6 = some 6 := by kernel_rfl
theorem tf_176_7 : tyFld Try.prog 176 7 = some 7 := by kernel_rfl
theorem tf_176_8 : tyFld Try.prog 176 8 = some 8 := by kernel_rfl
theorem tf_176_9 : tyFld Try.prog 176 9 = some 9 := by kernel_rfl
theorem tf_176_10 : tyFld Try.prog 176 10 = some 10 := by kernel_rfl
theorem tfl_176 : tyFlds Try.prog 176 = some [(0, 1), (1, 1), (2, 1), (3, 1), (4, 1), (5, 1), (6, 1), (7, 1), (8, 1), (9, 1), (10, 1)] := by kernel_rfl
end Go.Proofs.Ytjgjnheeohfmmaa
