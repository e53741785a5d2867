/- Facts of the seat's types, one by one, by evaluation. -/
import Derived.Test.YtecpnlhjjmcllaaProg
import Derived.Test.YtecpnlhjjmcllaaAL9
namespace Go.Proofs.Ytecpnlhjjmcllaa
theorem tmix : Try.prog.follows .mixedOrders = true := by kernel_rfl
theorem ta_1 : tyAgg Try.prog 1 = some none := by kernel_rfl
theorem ts_1 : (Try.prog.info? 1).map (·.size) = some 1 := by kernel_rfl
theorem tz_1 : tyZero Try.prog 1 = some .nilFunc := by kernel_rfl
theorem ta_2 : tyAgg Try.prog 2 = some none := by kernel_rfl
theorem ts_2 : (Try.prog.info? 2).map (·.size) = some 1 := by kernel_rfl
theorem tz_2 : tyZero Try.prog 2 = some (.int .i64 0) := by kernel_rfl
theorem tu_2 : Try.prog.underlying 2 = some (.int .i64) := by kernel_rfl
theorem ta_3 : tyAgg Try.prog 3 = some none := by kernel_rfl
theorem ts_3 : (Try.prog.info? 3).map (·.size) = some 1 := by kernel_rfl
theorem tz_3 : tyZero Try.prog 3 = some (.int .i64 0) := by kernel_rfl
theorem tu_3 : Try.prog.underlying 3 = some (.int .i64) := by kernel_rfl
theorem ta_4 : tyAgg Try.prog 4 = some none := by kernel_rfl
theorem ts_4 : (Try.prog.info? 4).map (·.size) = some 1 := by kernel_rfl
theorem tz_4 : tyZero Try.prog 4 = some (.bool false) := by kernel_rfl
theorem tu_4 : Try.prog.underlying 4 = some (.bool) := by kernel_rfl
theorem ta_5 : tyAgg Try.prog 5 = some none := by kernel_rfl
theorem ts_5 : (Try.prog.info? 5).map (·.size) = some 1 := by kernel_rfl
theorem tz_5 : tyZero Try.prog 5 = some (.int .u8 0) := by kernel_rfl
theorem tu_5 : Try.prog.underlying 5 = some (.int .u8) := by kernel_rfl
theorem ta_6 : tyAgg Try.prog 6 = some none := by kernel_rfl
theorem ts_6 : (Try.prog.info? 6).map (·.size) = some 1 := by kernel_rfl
theorem tz_6 : tyZero Try.prog 6 = some (.int .u8 0) := by kernel_rfl
theorem tu_6 : Try.prog.underlying 6 = some (.int .u8) := by kernel_rfl
theorem ta_7 : tyAgg Try.prog 7 = some (some 4) := by kernel_rfl
theorem ts_7 : (Try.prog.info? 7).map (·.size) = some 4 := by kernel_rfl
theorem tz_7 : tyZero Try.prog 7 = some (.agg #[(.int .i64 0), (.int .i64 0), (.bool false), (.int .u8 0)]) := by kernel_rfl
theorem tf_7_0 : tyFld Try.prog 7 0 = some 0 := by kernel_rfl
theorem tf_7_1 : tyFld Try.prog 7 1 = some 1 := by kernel_rfl
theorem tf_7_2 : tyFld Try.prog 7 2 = some 2 := by kernel_rfl
theorem tf_7_3 : tyFld Try.prog 7 3 = some 3 := by kernel_rfl
theorem tfl_7 : tyFlds Try.prog 7 = some [(0, 1), (1, 1), (2, 1), (3, 1)] := by kernel_rfl
theorem ta_8 : tyAgg Try.prog 8 = some (some 4) := by kernel_rfl
theorem ts_8 : (Try.prog.info? 8).map (·.size) = some 4 := by kernel_rfl
theorem tz_8 : tyZero Try.prog 8 = some (.agg #[(.int .i64 0), (.int .i64 0), (.bool false), (.int .u8 0)]) := by kernel_rfl
theorem tf_8_0 : tyFld Try.prog 8 0 = some 0 := by kernel_rfl
theorem tf_8_1 : tyFld Try.prog 8 1 = some 1 := by kernel_rfl
theorem tf_8_2 : tyFld Try.prog 8 2 = some 2 := by kernel_rfl
theorem tf_8_3 : tyFld Try.prog 8 3 = some 3 := by kernel_rfl
theorem tfl_8 : tyFlds Try.prog 8 = some [(0, 1), (1, 1), (2, 1), (3, 1)] := by kernel_rfl
theorem ta_9 : tyAgg Try.prog 9 = some none := by kernel_rfl
theorem ts_9 : (Try.prog.info? 9).map (·.size) = some 1 := by kernel_rfl
theorem tz_9 : tyZero Try.prog 9 = some (.string ⟨#[]⟩) := by kernel_rfl
theorem tu_9 : Try.prog.underlying 9 = some (.string) := by kernel_rfl
theorem ta_10 : tyAgg Try.prog 10 = some none := by kernel_rfl
theorem ts_10 : (Try.prog.info? 10).map (·.size) = some 1 := by kernel_rfl
theorem tz_10 : tyZero Try.prog 10 = some (.string ⟨#[]⟩) := by kernel_rfl
theorem tu_10 : Try.prog.underlying 10 = some (.string) := by kernel_rfl
theorem ta_11 : tyAgg Try.prog 11 = some none := by kernel_rfl
theorem ts_11 : (Try.prog.info? 11).map (·.size) = some 1 := by kernel_rfl
theorem tz_11 : tyZero Try.prog 11 = some (.string ⟨#[]⟩) := by kernel_rfl
theorem tu_11 : Try.prog.underlying 11 = some (.string) := by kernel_rfl
theorem ta_12 : tyAgg Try.prog 12 = some none := by kernel_rfl
theorem ts_12 : (Try.prog.info? 12).map (·.size) = some 1 := by kernel_rfl
theorem tz_12 : tyZero Try.prog 12 = some (.int .u64 0) := by kernel_rfl
theorem tu_12 : Try.prog.underlying 12 = some (.int .u64) := by kernel_rfl
theorem ta_13 : tyAgg Try.prog 13 = some (some 2) := by kernel_rfl
theorem ts_13 : (Try.prog.info? 13).map (·.size) = some 2 := by kernel_rfl
theorem tz_13 : tyZero Try.prog 13 = some (.agg #[(.string ⟨#[]⟩), (.int .u64 0)]) := by kernel_rfl
theorem tf_13_0 : tyFld Try.prog 13 0 = some 0 := by kernel_rfl
theorem tf_13_1 : tyFld Try.prog 13 1 = some 1 := by kernel_rfl
theorem tfl_13 : tyFlds Try.prog 13 = some [(0, 1), (1, 1)] := by kernel_rfl
theorem ta_14 : tyAgg Try.prog 14 = some (some 2) := by kernel_rfl
theorem ts_14 : (Try.prog.info? 14).map (·.size) = some 2 := by kernel_rfl
theorem tz_14 : tyZero Try.prog 14 = some (.agg #[(.string ⟨#[]⟩), (.int .u64 0)]) := by kernel_rfl
theorem tf_14_0 : tyFld Try.prog 14 0 = some 0 := by kernel_rfl
theorem tf_14_1 : tyFld Try.prog 14 1 = some 1 := by kernel_rfl
theorem tfl_14 : tyFlds Try.prog 14 = some [(0, 1), (1, 1)] := by kernel_rfl
theorem ta_15 : tyAgg Try.prog 15 = some none := by kernel_rfl
theorem ts_15 : (Try.prog.info? 15).map (·.size) = some 1 := by kernel_rfl
theorem tz_15 : tyZero Try.prog 15 = some (.pointer none) := by kernel_rfl
theorem tu_15 : Try.prog.underlying 15 = some (.pointer 119) := by kernel_rfl
theorem ta_16 : tyAgg Try.prog 16 = some none := by kernel_rfl
theorem ts_16 : (Try.prog.info? 16).map (·.size) = some 1 := by kernel_rfl
theorem tz_16 : tyZero Try.prog 16 = some (.pointer none) := by kernel_rfl
theorem tu_16 : Try.prog.underlying 16 = some (.pointer 122) := by kernel_rfl
theorem ta_17 : tyAgg Try.prog 17 = some none := by kernel_rfl
theorem ts_17 : (Try.prog.info? 17).map (·.size) = some 1 := by kernel_rfl
theorem tz_17 : tyZero Try.prog 17 = some (.pointer none) := by kernel_rfl
theorem tu_17 : Try.prog.underlying 17 = some (.pointer 131) := by kernel_rfl
theorem ta_18 : tyAgg Try.prog 18 = some (some 1) := by kernel_rfl
theorem ts_18 : (Try.prog.info? 18).map (·.size) = some 1 := by kernel_rfl
theorem tz_18 : tyZero Try.prog 18 = some (.agg #[(.pointer none)]) := by kernel_rfl
theorem tf_18_0 : tyFld Try.prog 18 0 = some 0 := by kernel_rfl
theorem tfl_18 : tyFlds Try.prog 18 = some [(0, 1)] := by kernel_rfl
theorem ta_19 : tyAgg Try.prog 19 = some (some 1) := by kernel_rfl
theorem ts_19 : (Try.prog.info? 19).map (·.size) = some 1 := by kernel_rfl
theorem tz_19 : tyZero Try.prog 19 = some (.agg #[(.pointer none)]) := by kernel_rfl
theorem tf_19_0 : tyFld Try.prog 19 0 = some 0 := by kernel_rfl
theorem tfl_19 : tyFlds Try.prog 19 = some [(0, 1)] := by kernel_rfl
theorem ta_20 : tyAgg Try.prog 20 = some none := by kernel_rfl
theorem ts_20 : (Try.prog.info? 20).map (·.size) = some 1 := by kernel_rfl
theorem tz_20 : tyZero Try.prog 20 = some .nilIface := by kernel_rfl
theorem ta_21 : tyAgg Try.prog 21 = some none := by kernel_rfl
theorem ts_21 : (Try.prog.info? 21).map (·.size) = some 1 := by kernel_rfl
theorem tz_21 : tyZero Try.prog 21 = some (.int .i32 0) := by kernel_rfl
theorem tu_21 : Try.prog.underlying 21 = some (.int .i32) := by kernel_rfl
theorem ta_22 : tyAgg Try.prog 22 = some none := by kernel_rfl
theorem ts_22 : (Try.prog.info? 22).map (·.size) = some 1 := by kernel_rfl
theorem tz_22 : tyZero Try.prog 22 = some (.slice none 0 0) := by kernel_rfl
theorem te_22 : tyElem Try.prog 22 = some (38, 7) := by kernel_rfl
theorem el_22 : ElT Try.prog 22 38 (.agg #[(.int .i64 0), (.int .i64 0), (.int .i64 0), (.int .i64 0), (.int .i64 0), (.slice none 0 0), (.slice none 0 0)]) 7 88 := ⟨by kernel_rfl, by kernel_rfl, rfl, by decide, by decide⟩
theorem tu_22 : Try.prog.underlying 22 = some (.slice 38) := by kernel_rfl
theorem ta_23 : tyAgg Try.prog 23 = some none := by kernel_rfl
theorem ts_23 : (Try.prog.info? 23).map (·.size) = some 1 := by kernel_rfl
theorem tz_23 : tyZero Try.prog 23 = some .nilFunc := by kernel_rfl
theorem ta_24 : tyAgg Try.prog 24 = some none := by kernel_rfl
theorem ts_24 : (Try.prog.info? 24).map (·.size) = some 1 := by kernel_rfl
theorem tz_24 : tyZero Try.prog 24 = some .nilFunc := by kernel_rfl
theorem ta_25 : tyAgg Try.prog 25 = some none := by kernel_rfl
theorem ts_25 : (Try.prog.info? 25).map (·.size) = some 1 := by kernel_rfl
theorem tz_25 : tyZero Try.prog 25 = some (.pointer none) := by kernel_rfl
theorem tu_25 : Try.prog.underlying 25 = some (.pointer 81) := by kernel_rfl
theorem ta_26 : tyAgg Try.prog 26 = some none := by kernel_rfl
theorem ts_26 : (Try.prog.info? 26).map (·.size) = some 1 := by kernel_rfl
theorem tz_26 : tyZero Try.prog 26 = some (.int .i64 0) := by kernel_rfl
theorem tu_26 : Try.prog.underlying 26 = some (.int .i64) := by kernel_rfl
theorem ta_28 : tyAgg Try.prog 28 = some none := by kernel_rfl
theorem ts_28 : (Try.prog.info? 28).map (·.size) = some 1 := by kernel_rfl
theorem tz_28 : tyZero Try.prog 28 = some .nilFunc := by kernel_rfl
theorem ta_29 : tyAgg Try.prog 29 = some none := by kernel_rfl
theorem ts_29 : (Try.prog.info? 29).map (·.size) = some 1 := by kernel_rfl
theorem tz_29 : tyZero Try.prog 29 = some .nilFunc := by kernel_rfl
theorem ta_30 : tyAgg Try.prog 30 = some none := by kernel_rfl
theorem ts_30 : (Try.prog.info? 30).map (·.size) = some 1 := by kernel_rfl
theorem tz_30 : tyZero Try.prog 30 = some (.pointer none) := by kernel_rfl
theorem tu_30 : Try.prog.underlying 30 = some (.pointer 33) := by kernel_rfl
theorem ta_31 : tyAgg Try.prog 31 = some none := by kernel_rfl
theorem ts_31 : (Try.prog.info? 31).map (·.size) = some 1 := by kernel_rfl
theorem tz_31 : tyZero Try.prog 31 = some (.slice none 0 0) := by kernel_rfl
theorem te_31 : tyElem Try.prog 31 = some (86, 4) := by kernel_rfl
theorem el_31 : ElT Try.prog 31 86 (.agg #[(.int .i64 0), (.int .i64 0), (.int .i64 0), (.slice none 0 0)]) 4 48 := ⟨by kernel_rfl, by kernel_rfl, rfl, by decide, by decide⟩
theorem tu_31 : Try.prog.underlying 31 = some (.slice 86) := by kernel_rfl
theorem ta_32 : tyAgg Try.prog 32 = some (some 2) := by kernel_rfl
theorem ts_32 : (Try.prog.info? 32).map (·.size) = some 2 := by kernel_rfl
theorem tz_32 : tyZero Try.prog 32 = some (.agg #[(.int .i64 0), (.slice none 0 0)]) := by kernel_rfl
theorem tf_32_0 : tyFld Try.prog 32 0 = some 0 := by kernel_rfl
theorem tf_32_1 : tyFld Try.prog 32 1 = some 1 := by kernel_rfl
theorem tfl_32 : tyFlds Try.prog 32 = some [(0, 1), (1, 1)] := by kernel_rfl
theorem ta_33 : tyAgg Try.prog 33 = some (some 2) := by kernel_rfl
theorem ts_33 : (Try.prog.info? 33).map (·.size) = some 2 := by kernel_rfl
theorem tz_33 : tyZero Try.prog 33 = some (.agg #[(.int .i64 0), (.slice none 0 0)]) := by kernel_rfl
theorem tf_33_0 : tyFld Try.prog 33 0 = some 0 := by kernel_rfl
theorem tf_33_1 : tyFld Try.prog 33 1 = some 1 := by kernel_rfl
theorem tfl_33 : tyFlds Try.prog 33 = some [(0, 1), (1, 1)] := by kernel_rfl
theorem ta_34 : tyAgg Try.prog 34 = some none := by kernel_rfl
theorem ts_34 : (Try.prog.info? 34).map (·.size) = some 1 := by kernel_rfl
theorem tz_34 : tyZero Try.prog 34 = some (.slice none 0 0) := by kernel_rfl
theorem te_34 : tyElem Try.prog 34 = some (42, 1) := by kernel_rfl
theorem el_34 : ElT Try.prog 34 42 (.int .u64 0) 1 8 := ⟨by kernel_rfl, by kernel_rfl, rfl, by decide, by decide⟩
theorem tu_34 : Try.prog.underlying 34 = some (.slice 42) := by kernel_rfl
theorem ta_35 : tyAgg Try.prog 35 = some none := by kernel_rfl
theorem ts_35 : (Try.prog.info? 35).map (·.size) = some 1 := by kernel_rfl
theorem tz_35 : tyZero Try.prog 35 = some (.slice none 0 0) := by kernel_rfl
theorem te_35 : tyElem Try.prog 35 = some (2, 1) := by kernel_rfl
theorem el_35 : ElT Try.prog 35 2 (.int .i64 0) 1 8 := ⟨by kernel_rfl, by kernel_rfl, rfl, by decide, by decide⟩
theorem tu_35 : Try.prog.underlying 35 = some (.slice 2) := by kernel_rfl
theorem ta_36 : tyAgg Try.prog 36 = some none := by kernel_rfl
theorem ts_36 : (Try.prog.info? 36).map (·.size) = some 1 := by kernel_rfl
theorem tz_36 : tyZero Try.prog 36 = some (.slice none 0 0) := by kernel_rfl
theorem te_36 : tyElem Try.prog 36 = some (3, 1) := by kernel_rfl
theorem el_36 : ElT Try.prog 36 3 (.int .i64 0) 1 8 := ⟨by kernel_rfl, by kernel_rfl, rfl, by decide, by decide⟩
theorem tu_36 : Try.prog.underlying 36 = some (.slice 3) := by kernel_rfl
theorem ta_37 : tyAgg Try.prog 37 = some (some 7) := by kernel_rfl
theorem ts_37 : (Try.prog.info? 37).map (·.size) = some 7 := by kernel_rfl
theorem tz_37 : tyZero Try.prog 37 = some (.agg #[(.int .i64 0), (.int .i64 0), (.int .i64 0), (.int .i64 0), (.int .i64 0), (.slice none 0 0), (.slice none 0 0)]) := by kernel_rfl
theorem tf_37_0 : tyFld Try.prog 37 0 = some 0 := by kernel_rfl
theorem tf_37_1 : tyFld Try.prog 37 1 = some 1 := by kernel_rfl
theorem tf_37_2 : tyFld Try.prog 37 2 = some 2 := by kernel_rfl
theorem tf_37_3 : tyFld Try.prog 37 3 = some 3 := by kernel_rfl
theorem tf_37_4 : tyFld Try.prog 37 4 = some 4 := by kernel_rfl
theorem tf_37_5 : tyFld Try.prog 37 5 = some 5 := by kernel_rfl
theorem tf_37_6 : tyFld Try.prog 37 6 = some 6 := by kernel_rfl
theorem tfl_37 : tyFlds Try.prog 37 = some [(0, 1), (1, 1), (2, 1), (3, 1), (4, 1), (5, 1), (6, 1)] := by kernel_rfl
theorem ta_38 : tyAgg Try.prog 38 = some (some 7) := by kernel_rfl
theorem ts_38 : (Try.prog.info? 38).map (·.size) = some 7 := by kernel_rfl
theorem tz_38 : tyZero Try.prog 38 = some (.agg #[(.int .i64 0), (.int .i64 0), (.int .i64 0), (.int .i64 0), (.int .i64 0), (.slice none 0 0), (.slice none 0 0)]) := by kernel_rfl
theorem tf_38_0 : tyFld Try.prog 38 0 = some 0 := by kernel_rfl
theorem tf_38_1 : tyFld Try.prog 38 1 = some 1 := by kernel_rfl
theorem tf_38_2 : tyFld Try.prog 38 2 = some 2 := by kernel_rfl
theorem tf_38_3 : tyFld Try.prog 38 3 = some 3 := by kernel_rfl
theorem tf_38_4 : tyFld Try.prog 38 4 = some 4 := by kernel_rfl
theorem tf_38_5 : tyFld Try.prog 38 5 = some 5 := by kernel_rfl
theorem tf_38_6 : tyFld Try.prog 38 6 = some 6 := by kernel_rfl
theorem tfl_38 : tyFlds Try.prog 38 = some [(0, 1), (1, 1), (2, 1), (3, 1), (4, 1), (5, 1), (6, 1)] := by kernel_rfl
theorem ta_40 : tyAgg Try.prog 40 = some none := by kernel_rfl
theorem ts_40 : (Try.prog.info? 40).map (·.size) = some 1 := by kernel_rfl
theorem tz_40 : tyZero Try.prog 40 = some .nilFunc := by kernel_rfl
theorem ta_41 : tyAgg Try.prog 41 = some none := by kernel_rfl
theorem ts_41 : (Try.prog.info? 41).map (·.size) = some 1 := by kernel_rfl
theorem tz_41 : tyZero Try.prog 41 = some .nilFunc := by kernel_rfl
theorem ta_42 : tyAgg Try.prog 42 = some none := by kernel_rfl
theorem ts_42 : (Try.prog.info? 42).map (·.size) = some 1 := by kernel_rfl
theorem tz_42 : tyZero Try.prog 42 = some (.int .u64 0) := by kernel_rfl
theorem tu_42 : Try.prog.underlying 42 = some (.int .u64) := by kernel_rfl
theorem ta_43 : tyAgg Try.prog 43 = some none := by kernel_rfl
theorem ts_43 : (Try.prog.info? 43).map (·.size) = some 1 := by kernel_rfl
theorem tz_43 : tyZero Try.prog 43 = some .nilFunc := by kernel_rfl
theorem ta_44 : tyAgg Try.prog 44 = some none := by kernel_rfl
theorem ts_44 : (Try.prog.info? 44).map (·.size) = some 1 := by kernel_rfl
theorem tz_44 : tyZero Try.prog 44 = some .nilFunc := by kernel_rfl
theorem ta_45 : tyAgg Try.prog 45 = some none := by kernel_rfl
theorem ts_45 : (Try.prog.info? 45).map (·.size) = some 1 := by kernel_rfl
theorem tz_45 : tyZero Try.prog 45 = some (.slice none 0 0) := by kernel_rfl
theorem te_45 : tyElem Try.prog 45 = some (34, 1) := by kernel_rfl
theorem el_45 : ElT Try.prog 45 34 (.slice none 0 0) 1 24 := ⟨by kernel_rfl, by kernel_rfl, rfl, by decide, by decide⟩
theorem tu_45 : Try.prog.underlying 45 = some (.slice 34) := by kernel_rfl
theorem ta_47 : tyAgg Try.prog 47 = some none := by kernel_rfl
theorem ts_47 : (Try.prog.info? 47).map (·.size) = some 1 := by kernel_rfl
theorem tz_47 : tyZero Try.prog 47 = some .nilFunc := by kernel_rfl
theorem ta_48 : tyAgg Try.prog 48 = some none := by kernel_rfl
theorem ts_48 : (Try.prog.info? 48).map (·.size) = some 1 := by kernel_rfl
theorem tz_48 : tyZero Try.prog 48 = some .nilFunc := by kernel_rfl
theorem ta_49 : tyAgg Try.prog 49 = some none := by kernel_rfl
theorem ts_49 : (Try.prog.info? 49).map (·.size) = some 1 := by kernel_rfl
theorem tz_49 : tyZero Try.prog 49 = some .nilFunc := by kernel_rfl
theorem ta_50 : tyAgg Try.prog 50 = some none := by kernel_rfl
theorem ts_50 : (Try.prog.info? 50).map (·.size) = some 1 := by kernel_rfl
theorem tz_50 : tyZero Try.prog 50 = some .nilFunc := by kernel_rfl
theorem ta_51 : tyAgg Try.prog 51 = some none := by kernel_rfl
theorem ts_51 : (Try.prog.info? 51).map (·.size) = some 1 := by kernel_rfl
theorem tz_51 : tyZero Try.prog 51 = some .nilFunc := by kernel_rfl
theorem ta_53 : tyAgg Try.prog 53 = some none := by kernel_rfl
theorem ts_53 : (Try.prog.info? 53).map (·.size) = some 1 := by kernel_rfl
theorem tz_53 : tyZero Try.prog 53 = some .nilFunc := by kernel_rfl
theorem ta_54 : tyAgg Try.prog 54 = some none := by kernel_rfl
theorem ts_54 : (Try.prog.info? 54).map (·.size) = some 1 := by kernel_rfl
theorem tz_54 : tyZero Try.prog 54 = some .nilFunc := by kernel_rfl
theorem ta_55 : tyAgg Try.prog 55 = some none := by kernel_rfl
theorem ts_55 : (Try.prog.info? 55).map (·.size) = some 1 := by kernel_rfl
theorem tz_55 : tyZero Try.prog 55 = some .nilFunc := by kernel_rfl
theorem ta_56 : tyAgg Try.prog 56 = some none := by kernel_rfl
theorem ts_56 : (Try.prog.info? 56).map (·.size) = some 1 := by kernel_rfl
theorem tz_56 : tyZero Try.prog 56 = some .nilFunc := by kernel_rfl
theorem ta_57 : tyAgg Try.prog 57 = some none := by kernel_rfl
theorem ts_57 : (Try.prog.info? 57).map (·.size) = some 1 := by kernel_rfl
theorem tz_57 : tyZero Try.prog 57 = some (.slice none 0 0) := by kernel_rfl
theorem te_57 : tyElem Try.prog 57 = some (9, 1) := by kernel_rfl
theorem el_57 : ElT Try.prog 57 9 (.string ⟨#[]⟩) 1 16 := ⟨by kernel_rfl, by kernel_rfl, rfl, by decide, by decide⟩
theorem tu_57 : Try.prog.underlying 57 = some (.slice 9) := by kernel_rfl
theorem ta_58 : tyAgg Try.prog 58 = some none := by kernel_rfl
theorem ts_58 : (Try.prog.info? 58).map (·.size) = some 1 := by kernel_rfl
theorem tz_58 : tyZero Try.prog 58 = some (.slice none 0 0) := by kernel_rfl
theorem te_58 : tyElem Try.prog 58 = some (100, 3) := by kernel_rfl
theorem el_58 : ElT Try.prog 58 100 (.agg #[(.int .i64 0), (.int .i64 0), (.slice none 0 0)]) 3 40 := ⟨by kernel_rfl, by kernel_rfl, rfl, by decide, by decide⟩
theorem tu_58 : Try.prog.underlying 58 = some (.slice 100) := by kernel_rfl
theorem ta_59 : tyAgg Try.prog 59 = some none := by kernel_rfl
theorem ts_59 : (Try.prog.info? 59).map (·.size) = some 1 := by kernel_rfl
theorem tz_59 : tyZero Try.prog 59 = some .nilFunc := by kernel_rfl
theorem ta_61 : tyAgg Try.prog 61 = some none := by kernel_rfl
theorem ts_61 : (Try.prog.info? 61).map (·.size) = some 1 := by kernel_rfl
theorem tz_61 : tyZero Try.prog 61 = some .nilFunc := by kernel_rfl
theorem ta_62 : tyAgg Try.prog 62 = some none := by kernel_rfl
theorem ts_62 : (Try.prog.info? 62).map (·.size) = some 1 := by kernel_rfl
theorem tz_62 : tyZero Try.prog 62 = some .nilFunc := by kernel_rfl
theorem ta_64 : tyAgg Try.prog 64 = some none := by kernel_rfl
theorem ts_64 : (Try.prog.info? 64).map (·.size) = some 1 := by kernel_rfl
theorem tz_64 : tyZero Try.prog 64 = some .nilFunc := by kernel_rfl
theorem ta_65 : tyAgg Try.prog 65 = some none := by kernel_rfl
theorem ts_65 : (Try.prog.info? 65).map (·.size) = some 1 := by kernel_rfl
theorem tz_65 : tyZero Try.prog 65 = some .nilFunc := by kernel_rfl
theorem ta_67 : tyAgg Try.prog 67 = some none := by kernel_rfl
theorem ts_67 : (Try.prog.info? 67).map (·.size) = some 1 := by kernel_rfl
theorem tz_67 : tyZero Try.prog 67 = some .nilFunc := by kernel_rfl
theorem ta_68 : tyAgg Try.prog 68 = some none := by kernel_rfl
theorem ts_68 : (Try.prog.info? 68).map (·.size) = some 1 := by kernel_rfl
theorem tz_68 : tyZero Try.prog 68 = some .nilFunc := by kernel_rfl
theorem ta_69 : tyAgg Try.prog 69 = some none := by kernel_rfl
theorem ts_69 : (Try.prog.info? 69).map (·.size) = some 1 := by kernel_rfl
theorem tz_69 : tyZero Try.prog 69 = some .nilFunc := by kernel_rfl
theorem ta_70 : tyAgg Try.prog 70 = some none := by kernel_rfl
theorem ts_70 : (Try.prog.info? 70).map (·.size) = some 1 := by kernel_rfl
theorem tz_70 : tyZero Try.prog 70 = some .nilFunc := by kernel_rfl
theorem ta_71 : tyAgg Try.prog 71 = some none := by kernel_rfl
theorem ts_71 : (Try.prog.info? 71).map (·.size) = some 1 := by kernel_rfl
theorem tz_71 : tyZero Try.prog 71 = some .nilFunc := by kernel_rfl
theorem ta_72 : tyAgg Try.prog 72 = some none := by kernel_rfl
theorem ts_72 : (Try.prog.info? 72).map (·.size) = some 1 := by kernel_rfl
theorem tz_72 : tyZero Try.prog 72 = some .nilFunc := by kernel_rfl
theorem ta_73 : tyAgg Try.prog 73 = some none := by kernel_rfl
theorem ts_73 : (Try.prog.info? 73).map (·.size) = some 1 := by kernel_rfl
theorem tz_73 : tyZero Try.prog 73 = some .nilFunc := by kernel_rfl
theorem ta_74 : tyAgg Try.prog 74 = some none := by kernel_rfl
theorem ts_74 : (Try.prog.info? 74).map (·.size) = some 1 := by kernel_rfl
theorem tz_74 : tyZero Try.prog 74 = some .nilFunc := by kernel_rfl
theorem ta_75 : tyAgg Try.prog 75 = some none := by kernel_rfl
theorem ts_75 : (Try.prog.info? 75).map (·.size) = some 1 := by kernel_rfl
theorem tz_75 : tyZero Try.prog 75 = some (.slice none 0 0) := by kernel_rfl
theorem te_75 : tyElem Try.prog 75 = some (4, 1) := by kernel_rfl
theorem el_75 : ElT Try.prog 75 4 (.bool false) 1 1 := ⟨by kernel_rfl, by kernel_rfl, rfl, by decide, by decide⟩
theorem tu_75 : Try.prog.underlying 75 = some (.slice 4) := by kernel_rfl
theorem ta_76 : tyAgg Try.prog 76 = some (some 2) := by kernel_rfl
theorem ts_76 : (Try.prog.info? 76).map (·.size) = some 2 := by kernel_rfl
theorem tz_76 : tyZero Try.prog 76 = some (.agg #[(.slice none 0 0), (.slice none 0 0)]) := by kernel_rfl
theorem tf_76_0 : tyFld Try.prog 76 0 = some 0 := by kernel_rfl
theorem tf_76_1 : tyFld Try.prog 76 1 = some 1 := by kernel_rfl
theorem tfl_76 : tyFlds Try.prog 76 = some [(0, 1), (1, 1)] := by kernel_rfl
theorem ta_77 : tyAgg Try.prog 77 = some (some 2) := by kernel_rfl
theorem ts_77 : (Try.prog.info? 77).map (·.size) = some 2 := by kernel_rfl
theorem tz_77 : tyZero Try.prog 77 = some (.agg #[(.slice none 0 0), (.slice none 0 0)]) := by kernel_rfl
theorem tf_77_0 : tyFld Try.prog 77 0 = some 0 := by kernel_rfl
theorem tf_77_1 : tyFld Try.prog 77 1 = some 1 := by kernel_rfl
theorem tfl_77 : tyFlds Try.prog 77 = some [(0, 1), (1, 1)] := by kernel_rfl
theorem ta_78 : tyAgg Try.prog 78 = some none := by kernel_rfl
theorem ts_78 : (Try.prog.info? 78).map (·.size) = some 1 := by kernel_rfl
theorem tz_78 : tyZero Try.prog 78 = some .nilFunc := by kernel_rfl
theorem ta_79 : tyAgg Try.prog 79 = some (some 4) := by kernel_rfl
theorem ts_79 : (Try.prog.info? 79).map (·.size) = some 4 := by kernel_rfl
theorem tz_79 : tyZero Try.prog 79 = some (.agg #[(.slice none 0 0), (.slice none 0 0), (.slice none 0 0), (.slice none 0 0)]) := by kernel_rfl
theorem tu_79 : Try.prog.underlying 79 = some (.array 2 77) := by kernel_rfl
theorem ta_80 : tyAgg Try.prog 80 = some (some 6) := by kernel_rfl
theorem ts_80 : (Try.prog.info? 80).map (·.size) = some 6 := by kernel_rfl
theorem tz_80 : tyZero Try.prog 80 = some (.agg #[(.int .i64 0), (.slice none 0 0), (.slice none 0 0), (.slice none 0 0), (.slice none 0 0), (.int .i64 0)]) := by kernel_rfl
theorem tf_80_0 : tyFld Try.prog 80 0 = some 0 := by kernel_rfl
theorem tf_80_1 : tyFld Try.prog 80 1 = some 1 := by kernel_rfl
theorem tf_80_2 : tyFld Try.prog 80 2 = some 5 := by kernel_rfl
theorem tfl_80 : tyFlds Try.prog 80 = some [(0, 1), (1, 4), (5, 1)] := by kernel_rfl
theorem ta_81 : tyAgg Try.prog 81 = some (some 6) := by kernel_rfl
theorem ts_81 : (Try.prog.info? 81).map (·.size) = some 6 := by kernel_rfl
theorem tz_81 : tyZero Try.prog 81 = some (.agg #[(.int .i64 0), (.slice none 0 0), (.slice none 0 0), (.slice none 0 0), (.slice none 0 0), (.int .i64 0)]) := by kernel_rfl
theorem tf_81_0 : tyFld Try.prog 81 0 = some 0 := by kernel_rfl
theorem tf_81_1 : tyFld Try.prog 81 1 = some 1 := by kernel_rfl
theorem tf_81_2 : tyFld Try.prog 81 2 = some 5 := by kernel_rfl
theorem tfl_81 : tyFlds Try.prog 81 = some [(0, 1), (1, 4), (5, 1)] := by kernel_rfl
theorem ta_82 : tyAgg Try.prog 82 = some none := by kernel_rfl
theorem ts_82 : (Try.prog.info? 82).map (·.size) = some 1 := by kernel_rfl
theorem tz_82 : tyZero Try.prog 82 = some .nilFunc := by kernel_rfl
theorem ta_83 : tyAgg Try.prog 83 = some none := by kernel_rfl
theorem ts_83 : (Try.prog.info? 83).map (·.size) = some 1 := by kernel_rfl
theorem tz_83 : tyZero Try.prog 83 = some .nilFunc := by kernel_rfl
theorem ta_84 : tyAgg Try.prog 84 = some none := by kernel_rfl
theorem ts_84 : (Try.prog.info? 84).map (·.size) = some 1 := by kernel_rfl
theorem tz_84 : tyZero Try.prog 84 = some .nilFunc := by kernel_rfl
theorem ta_85 : tyAgg Try.prog 85 = some (some 4) := by kernel_rfl
theorem ts_85 : (Try.prog.info? 85).map (·.size) = some 4 := by kernel_rfl
theorem tz_85 : tyZero Try.prog 85 = some (.agg #[(.int .i64 0), (.int .i64 0), (.int .i64 0), (.slice none 0 0)]) := by kernel_rfl
theorem tf_85_0 : tyFld Try.prog 85 0 = some 0 := by kernel_rfl
theorem tf_85_1 : tyFld Try.prog 85 1 = some 1 := by kernel_rfl
theorem tf_85_2 : tyFld Try.prog 85 2 = some 2 := by kernel_rfl
theorem tf_85_3 : tyFld Try.prog 85 3 = some 3 := by kernel_rfl
theorem tfl_85 : tyFlds Try.prog 85 = some [(0, 1), (1, 1), (2, 1), (3, 1)] := by kernel_rfl
theorem ta_86 : tyAgg Try.prog 86 = some (some 4) := by kernel_rfl
theorem ts_86 : (Try.prog.info? 86).map (·.size) = some 4 := by kernel_rfl
theorem tz_86 : tyZero Try.prog 86 = some (.agg #[(.int .i64 0), (.int .i64 0), (.int .i64 0), (.slice none 0 0)]) := by kernel_rfl
theorem tf_86_0 : tyFld Try.prog 86 0 = some 0 := by kernel_rfl
theorem tf_86_1 : tyFld Try.prog 86 1 = some 1 := by kernel_rfl
theorem tf_86_2 : tyFld Try.prog 86 2 = some 2 := by kernel_rfl
theorem tf_86_3 : tyFld Try.prog 86 3 = some 3 := by kernel_rfl
theorem tfl_86 : tyFlds Try.prog 86 = some [(0, 1), (1, 1), (2, 1), (3, 1)] := by kernel_rfl
theorem ta_87 : tyAgg Try.prog 87 = some none := by kernel_rfl
theorem ts_87 : (Try.prog.info? 87).map (·.size) = some 1 := by kernel_rfl
theorem tz_87 : tyZero Try.prog 87 = some (.pointer none) := by kernel_rfl
theorem tu_87 : Try.prog.underlying 87 = some (.pointer 77) := by kernel_rfl
theorem ta_88 : tyAgg Try.prog 88 = some none := by kernel_rfl
theorem ts_88 : (Try.prog.info? 88).map (·.size) = some 1 := by kernel_rfl
theorem tz_88 : tyZero Try.prog 88 = some .nilFunc := by kernel_rfl
theorem ta_89 : tyAgg Try.prog 89 = some (some 2) := by kernel_rfl
theorem ts_89 : (Try.prog.info? 89).map (·.size) = some 2 := by kernel_rfl
theorem tz_89 : tyZero Try.prog 89 = some (.agg #[(.pointer none), (.pointer none)]) := by kernel_rfl
theorem tf_89_0 : tyFld Try.prog 89 0 = some 0 := by kernel_rfl
theorem tf_89_1 : tyFld Try.prog 89 1 = some 1 := by kernel_rfl
theorem tfl_89 : tyFlds Try.prog 89 = some [(0, 1), (1, 1)] := by kernel_rfl
theorem ta_90 : tyAgg Try.prog 90 = some (some 2) := by kernel_rfl
theorem ts_90 : (Try.prog.info? 90).map (·.size) = some 2 := by kernel_rfl
theorem tz_90 : tyZero Try.prog 90 = some (.agg #[(.pointer none), (.pointer none)]) := by kernel_rfl
theorem tf_90_0 : tyFld Try.prog 90 0 = some 0 := by kernel_rfl
theorem tf_90_1 : tyFld Try.prog 90 1 = some 1 := by kernel_rfl
theorem tfl_90 : tyFlds Try.prog 90 = some [(0, 1), (1, 1)] := by kernel_rfl
theorem ta_91 : tyAgg Try.prog 91 = some none := by kernel_rfl
theorem ts_91 : (Try.prog.info? 91).map (·.size) = some 1 := by kernel_rfl
theorem tz_91 : tyZero Try.prog 91 = some .nilFunc := by kernel_rfl
theorem ta_93 : tyAgg Try.prog 93 = some none := by kernel_rfl
theorem ts_93 : (Try.prog.info? 93).map (·.size) = some 1 := by kernel_rfl
theorem tz_93 : tyZero Try.prog 93 = some .nilFunc := by kernel_rfl
theorem ta_94 : tyAgg Try.prog 94 = some none := by kernel_rfl
theorem ts_94 : (Try.prog.info? 94).map (·.size) = some 1 := by kernel_rfl
theorem tz_94 : tyZero Try.prog 94 = some .nilFunc := by kernel_rfl
theorem ta_95 : tyAgg Try.prog 95 = some none := by kernel_rfl
theorem ts_95 : (Try.prog.info? 95).map (·.size) = some 1 := by kernel_rfl
theorem tz_95 : tyZero Try.prog 95 = some .nilFunc := by kernel_rfl
theorem ta_96 : tyAgg Try.prog 96 = some none := by kernel_rfl
theorem ts_96 : (Try.prog.info? 96).map (·.size) = some 1 := by kernel_rfl
theorem tz_96 : tyZero Try.prog 96 = some (.pointer none) := by kernel_rfl
theorem tu_96 : Try.prog.underlying 96 = some (.pointer 42) := by kernel_rfl
theorem ta_98 : tyAgg Try.prog 98 = some none := by kernel_rfl
theorem ts_98 : (Try.prog.info? 98).map (·.size) = some 1 := by kernel_rfl
theorem tz_98 : tyZero Try.prog 98 = some .nilFunc := by kernel_rfl
theorem ta_99 : tyAgg Try.prog 99 = some (some 3) := by kernel_rfl
theorem ts_99 : (Try.prog.info? 99).map (·.size) = some 3 := by kernel_rfl
theorem tz_99 : tyZero Try.prog 99 = some (.agg #[(.int .i64 0), (.int .i64 0), (.slice none 0 0)]) := by kernel_rfl
theorem tf_99_0 : tyFld Try.prog 99 0 = some 0 := by kernel_rfl
theorem tf_99_1 : tyFld Try.prog 99 1 = some 1 := by kernel_rfl
theorem tf_99_2 : tyFld Try.prog 99 2 = some 2 := by kernel_rfl
theorem tfl_99 : tyFlds Try.prog 99 = some [(0, 1), (1, 1), (2, 1)] := by kernel_rfl
theorem ta_100 : tyAgg Try.prog 100 = some (some 3) := by kernel_rfl
theorem ts_100 : (Try.prog.info? 100).map (·.size) = some 3 := by kernel_rfl
theorem tz_100 : tyZero Try.prog 100 = some (.agg #[(.int .i64 0), (.int .i64 0), (.slice none 0 0)]) := by kernel_rfl
theorem tf_100_0 : tyFld Try.prog 100 0 = some 0 := by kernel_rfl
theorem tf_100_1 : tyFld Try.prog 100 1 = some 1 := by kernel_rfl
theorem tf_100_2 : tyFld Try.prog 100 2 = some 2 := by kernel_rfl
theorem tfl_100 : tyFlds Try.prog 100 = some [(0, 1), (1, 1), (2, 1)] := by kernel_rfl
theorem ta_102 : tyAgg Try.prog 102 = some none := by kernel_rfl
theorem ts_102 : (Try.prog.info? 102).map (·.size) = some 1 := by kernel_rfl
theorem tz_102 : tyZero Try.prog 102 = some .nilFunc := by kernel_rfl
theorem ta_104 : tyAgg Try.prog 104 = some none := by kernel_rfl
theorem ts_104 : (Try.prog.info? 104).map (·.size) = some 1 := by kernel_rfl
theorem tz_104 : tyZero Try.prog 104 = some .nilFunc := by kernel_rfl
theorem ta_105 : tyAgg Try.prog 105 = some none := by kernel_rfl
theorem ts_105 : (Try.prog.info? 105).map (·.size) = some 1 := by kernel_rfl
theorem tz_105 : tyZero Try.prog 105 = some (.slice none 0 0) := by kernel_rfl
theorem te_105 : tyElem Try.prog 105 = some (5, 1) := by kernel_rfl
theorem el_105 : ElT Try.prog 105 5 (.int .u8 0) 1 1 := ⟨by kernel_rfl, by kernel_rfl, rfl, by decide, by decide⟩
theorem tu_105 : Try.prog.underlying 105 = some (.slice 5) := by kernel_rfl
theorem ta_106 : tyAgg Try.prog 106 = some none := by kernel_rfl
theorem ts_106 : (Try.prog.info? 106).map (·.size) = some 1 := by kernel_rfl
theorem tz_106 : tyZero Try.prog 106 = some .nilFunc := by kernel_rfl
theorem ta_107 : tyAgg Try.prog 107 = some none := by kernel_rfl
theorem ts_107 : (Try.prog.info? 107).map (·.size) = some 1 := by kernel_rfl
theorem tz_107 : tyZero Try.prog 107 = some .nilFunc := by kernel_rfl
theorem ta_109 : tyAgg Try.prog 109 = some none := by kernel_rfl
theorem ts_109 : (Try.prog.info? 109).map (·.size) = some 1 := by kernel_rfl
theorem tz_109 : tyZero Try.prog 109 = some .nilFunc := by kernel_rfl
theorem ta_110 : tyAgg Try.prog 110 = some none := by kernel_rfl
theorem ts_110 : (Try.prog.info? 110).map (·.size) = some 1 := by kernel_rfl
theorem tz_110 : tyZero Try.prog 110 = some .nilFunc := by kernel_rfl
theorem ta_111 : tyAgg Try.prog 111 = some none := by kernel_rfl
theorem ts_111 : (Try.prog.info? 111).map (·.size) = some 1 := by kernel_rfl
theorem tz_111 : tyZero Try.prog 111 = some .nilFunc := by kernel_rfl
theorem ta_112 : tyAgg Try.prog 112 = some none := by kernel_rfl
theorem ts_112 : (Try.prog.info? 112).map (·.size) = some 1 := by kernel_rfl
theorem tz_112 : tyZero Try.prog 112 = some .nilFunc := by kernel_rfl
theorem ta_113 : tyAgg Try.prog 113 = some none := by kernel_rfl
theorem ts_113 : (Try.prog.info? 113).map (·.size) = some 1 := by kernel_rfl
theorem tz_113 : tyZero Try.prog 113 = some (.int .u64 0) := by kernel_rfl
theorem tu_113 : Try.prog.underlying 113 = some (.int .u64) := by kernel_rfl
theorem ta_115 : tyAgg Try.prog 115 = some none := by kernel_rfl
theorem ts_115 : (Try.prog.info? 115).map (·.size) = some 1 := by kernel_rfl
theorem tz_115 : tyZero Try.prog 115 = some .nilFunc := by kernel_rfl
theorem ta_116 : tyAgg Try.prog 116 = some none := by kernel_rfl
theorem ts_116 : (Try.prog.info? 116).map (·.size) = some 1 := by kernel_rfl
theorem tz_116 : tyZero Try.prog 116 = some .nilFunc := by kernel_rfl
theorem ta_117 : tyAgg Try.prog 117 = some none := by kernel_rfl
theorem ts_117 : (Try.prog.info? 117).map (·.size) = some 1 := by kernel_rfl
theorem tz_117 : tyZero Try.prog 117 = some .nilFunc := by kernel_rfl
theorem ta_118 : tyAgg Try.prog 118 = some (some 4) := by kernel_rfl
theorem ts_118 : (Try.prog.info? 118).map (·.size) = some 4 := by kernel_rfl
theorem tz_118 : tyZero Try.prog 118 = some (.agg #[(.pointer none), (.pointer none), (.pointer none), (.string ⟨#[]⟩)]) := by kernel_rfl
theorem tf_118_0 : tyFld Try.prog 118 0 = some 0 := by kernel_rfl
theorem tf_118_1 : tyFld Try.prog 118 1 = some 1 := by kernel_rfl
theorem tf_118_2 : tyFld Try.prog 118 2 = some 2 := by kernel_rfl
theorem tf_118_3 : tyFld Try.prog 118 3 = some 3 := by kernel_rfl
theorem tfl_118 : tyFlds Try.prog 118 = some [(0, 1), (1, 1), (2, 1), (3, 1)] := by kernel_rfl
theorem ta_119 : tyAgg Try.prog 119 = some (some 4) := by kernel_rfl
theorem ts_119 : (Try.prog.info? 119).map (·.size) = some 4 := by kernel_rfl
theorem tz_119 : tyZero Try.prog 119 = some (.agg #[(.pointer none), (.pointer none), (.pointer none), (.string ⟨#[]⟩)]) := by kernel_rfl
theorem tf_119_0 : tyFld Try.prog 119 0 = some 0 := by kernel_rfl
theorem tf_119_1 : tyFld Try.prog 119 1 = some 1 := by kernel_rfl
theorem tf_119_2 : tyFld Try.prog 119 2 = some 2 := by kernel_rfl
theorem tf_119_3 : tyFld Try.prog 119 3 = some 3 := by kernel_rfl
theorem tfl_119 : tyFlds Try.prog 119 = some [(0, 1), (1, 1), (2, 1), (3, 1)] := by kernel_rfl
theorem ta_120 : tyAgg Try.prog 120 = some (some 0) := by kernel_rfl
theorem ts_120 : (Try.prog.info? 120).map (·.size) = some 0 := by kernel_rfl
theorem tz_120 : tyZero Try.prog 120 = some (.agg #[]) := by kernel_rfl
theorem tu_120 : Try.prog.underlying 120 = some (.array 0 16) := by kernel_rfl
theorem ta_121 : tyAgg Try.prog 121 = some (some 0) := by kernel_rfl
theorem ts_121 : (Try.prog.info? 121).map (·.size) = some 0 := by kernel_rfl
theorem tz_121 : tyZero Try.prog 121 = some (.agg #[]) := by kernel_rfl
theorem tfl_121 : tyFlds Try.prog 121 = some [(0, 0)] := by kernel_rfl
theorem ta_122 : tyAgg Try.prog 122 = some (some 0) := by kernel_rfl
theorem ts_122 : (Try.prog.info? 122).map (·.size) = some 0 := by kernel_rfl
theorem tz_122 : tyZero Try.prog 122 = some (.agg #[]) := by kernel_rfl
theorem tfl_122 : tyFlds Try.prog 122 = some [(0, 0)] := by kernel_rfl
theorem ta_123 : tyAgg Try.prog 123 = some none := by kernel_rfl
theorem ts_123 : (Try.prog.info? 123).map (·.size) = some 1 := by kernel_rfl
theorem tz_123 : tyZero Try.prog 123 = some (.int .u32 0) := by kernel_rfl
theorem tu_123 : Try.prog.underlying 123 = some (.int .u32) := by kernel_rfl
theorem ta_124 : tyAgg Try.prog 124 = some none := by kernel_rfl
theorem ts_124 : (Try.prog.info? 124).map (·.size) = some 1 := by kernel_rfl
theorem tz_124 : tyZero Try.prog 124 = some (.int .u8 0) := by kernel_rfl
theorem tu_124 : Try.prog.underlying 124 = some (.int .u8) := by kernel_rfl
theorem ta_125 : tyAgg Try.prog 125 = some none := by kernel_rfl
theorem ts_125 : (Try.prog.info? 125).map (·.size) = some 1 := by kernel_rfl
theorem tz_125 : tyZero Try.prog 125 = some (.int .u8 0) := by kernel_rfl
theorem tu_125 : Try.prog.underlying 125 = some (.int .u8) := by kernel_rfl
theorem ta_126 : tyAgg Try.prog 126 = some none := by kernel_rfl
theorem ts_126 : (Try.prog.info? 126).map (·.size) = some 1 := by kernel_rfl
theorem tz_126 : tyZero Try.prog 126 = some .nilFunc := by kernel_rfl
theorem ta_127 : tyAgg Try.prog 127 = some none := by kernel_rfl
theorem ts_127 : (Try.prog.info? 127).map (·.size) = some 1 := by kernel_rfl
theorem tz_127 : tyZero Try.prog 127 = some (.pointer none) := by kernel_rfl
theorem tu_127 : Try.prog.underlying 127 = some (.pointer 5) := by kernel_rfl
theorem ta_128 : tyAgg Try.prog 128 = some none := by kernel_rfl
theorem ts_128 : (Try.prog.info? 128).map (·.size) = some 1 := by kernel_rfl
theorem tz_128 : tyZero Try.prog 128 = some (.int .i32 0) := by kernel_rfl
theorem tu_128 : Try.prog.underlying 128 = some (.int .i32) := by kernel_rfl
theorem ta_129 : tyAgg Try.prog 129 = some none := by kernel_rfl
theorem ts_129 : (Try.prog.info? 129).map (·.size) = some 1 := by kernel_rfl
theorem tz_129 : tyZero Try.prog 129 = some (.int .i32 0) := by kernel_rfl
theorem tu_129 : Try.prog.underlying 129 = some (.int .i32) := by kernel_rfl
theorem ta_130 : tyAgg Try.prog 130 = some (some 11) := by kernel_rfl
theorem ts_130 : (Try.prog.info? 130).map (·.size) = some 11 := by kernel_rfl
theorem tz_130 : tyZero Try.prog 130 = some (.agg #[(.int .u64 0), (.int .u64 0), (.int .u32 0), (.int .u8 0), (.int .u8 0), (.int .u8 0), (.int .u8 0), .nilFunc, (.pointer none), (.int .i32 0), (.int .i32 0)]) := by kernel_rfl
theorem tf_130_0 : tyFld Try.prog 130 0 = some 0 := by kernel_rfl
theorem tf_130_1 : tyFld Try.prog 130 1 = some 1 := by kernel_rfl
theorem tf_130_2 : tyFld Try.prog 130 2 = some 2 := by kernel_rfl
theorem tf_130_3 : tyFld Try.prog 130 3 = some 3 := by kernel_rfl
theorem tf_130_4 : tyFld Try.prog 130 4 = some 4 := by kernel_rfl
theorem tf_130_5 : tyFld Try.prog 130 5 = some 5 := by kernel_rfl
theorem tf_130_6 : tyFld Try.prog 130 6 = some 6 := by kernel_rfl
theorem tf_130_7 : tyFld Try.prog 130 7 = some 7 := by kernel_rfl
theorem tf_130_8 : tyFld Try.prog 130 8 = some 8 := by kernel_rfl
theorem tf_130_9 : tyFld Try.prog 130 9 = some 9 := by kernel_rfl
theorem tf_130_10 : tyFld Try.prog 130 10 = some 10 := by kernel_rfl
theorem tfl_130 : tyFlds Try.prog 130 = some [(0, 1), (1, 1), (2, 1), (3, 1), (4, 1), (5, 1), (6, 1), (7, 1), (8, 1), (9, 1), (10, 1)] := by kernel_rfl
theorem ta_131 : tyAgg Try.prog 131 = some (some 11) := by kernel_rfl
theorem ts_131 : (Try.prog.info? 131).map (·.size) = some 11 := by kernel_rfl
theorem tz_131 : tyZero Try.prog 131 = some (.agg #[(.int .u64 0), (.int .u64 0), (.int .u32 0), (.int .u8 0), (.int .u8 0), (.int .u8 0), (.int .u8 0), .nilFunc, (.pointer none), (.int .i32 0), (.int .i32 0)]) := by kernel_rfl
theorem tf_131_0 : tyFld Try.prog 131 0 = some 0 := by kernel_rfl
theorem tf_131_1 : tyFld Try.prog 131 1 = some 1 := by kernel_rfl
theorem tf_131_2 : tyFld Try.prog 131 2 = some 2 := by kernel_rfl
theorem tf_131_3 : tyFld Try.prog 131 3 = some 3 := by kernel_rfl
theorem tf_131_4 : tyFld Try.prog 131 4 = some 4 := by kernel_rfl
theorem tf_131_5 : tyFld Try.prog 131 5 = some 5 := by kernel_rfl
theorem tf_131_6 : tyFld Try.prog 131 6 = some 6 := by kernel_rfl
theorem tf_131_7 : tyFld Try.prog 131 7 = some 7 := by kernel_rfl
theorem tf_131_8 : tyFld Try.prog 131 8 = some 8 := by kernel_rfl
theorem tf_131_9 : tyFld Try.prog 131 9 = some 9 := by kernel_rfl
theorem tf_131_10 : tyFld Try.prog 131 10 = some 10 := by kernel_rfl
theorem tfl_131 : tyFlds Try.prog 131 = some [(0, 1), (1, 1), (2, 1), (3, 1), (4, 1), (5, 1), (6, 1), (7, 1), (8, 1), (9, 1), (10, 1)] := by kernel_rfl
end Go.Proofs.Ytecpnlhjjmcllaa
