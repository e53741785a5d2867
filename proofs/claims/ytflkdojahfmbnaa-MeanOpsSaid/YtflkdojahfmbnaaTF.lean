/- Facts of the seat's types, one by one, by evaluation. -/
import Derived.Test.YtflkdojahfmbnaaProg
import Derived.Test.YtflkdojahfmbnaaAL9
namespace Go.Proofs.Ytflkdojahfmbnaa
theorem tmix : Try.prog.follows .mixedOrders = true := by kernel_rfl
theorem ta_1 : tyAgg Try.prog 1 = some none := by kernel_rfl
theorem ts_1 : (Try.prog.info? 1).map (·.size) = some 1 := by kernel_rfl
theorem tz_1 : tyZero Try.prog 1 = some .nilFunc := by kernel_rfl
theorem ta_2 : tyAgg Try.prog 2 = some none := by kernel_rfl
theorem ts_2 : (Try.prog.info? 2).map (·.size) = some 1 := by kernel_rfl
theorem tz_2 : tyZero Try.prog 2 = some (.int .i64 0) := by kernel_rfl
theorem tu_2 : Try.prog.underlying 2 = some (.int .i64) := by kernel_rfl
theorem ta_3 : tyAgg Try.prog 3 = some none := by kernel_rfl
theorem ts_3 : (Try.prog.info? 3).map (·.size) = some 1 := by kernel_rfl
theorem tz_3 : tyZero Try.prog 3 = some (.int .i64 0) := by kernel_rfl
theorem tu_3 : Try.prog.underlying 3 = some (.int .i64) := by kernel_rfl
theorem ta_4 : tyAgg Try.prog 4 = some none := by kernel_rfl
theorem ts_4 : (Try.prog.info? 4).map (·.size) = some 1 := by kernel_rfl
theorem tz_4 : tyZero Try.prog 4 = some (.bool false) := by kernel_rfl
theorem tu_4 : Try.prog.underlying 4 = some (.bool) := by kernel_rfl
theorem ta_5 : tyAgg Try.prog 5 = some none := by kernel_rfl
theorem ts_5 : (Try.prog.info? 5).map (·.size) = some 1 := by kernel_rfl
theorem tz_5 : tyZero Try.prog 5 = some (.int .u8 0) := by kernel_rfl
theorem tu_5 : Try.prog.underlying 5 = some (.int .u8) := by kernel_rfl
theorem ta_6 : tyAgg Try.prog 6 = some none := by kernel_rfl
theorem ts_6 : (Try.prog.info? 6).map (·.size) = some 1 := by kernel_rfl
theorem tz_6 : tyZero Try.prog 6 = some (.int .u8 0) := by kernel_rfl
theorem tu_6 : Try.prog.underlying 6 = some (.int .u8) := by kernel_rfl
theorem ta_7 : tyAgg Try.prog 7 = some (some 4) := by kernel_rfl
theorem ts_7 : (Try.prog.info? 7).map (·.size) = some 4 := by kernel_rfl
theorem tz_7 : tyZero Try.prog 7 = some (.agg #[(.int .i64 0), (.int .i64 0), (.bool false), (.int .u8 0)]) := by kernel_rfl
theorem tf_7_0 : tyFld Try.prog 7 0 = some 0 := by kernel_rfl
theorem tf_7_1 : tyFld Try.prog 7 1 = some 1 := by kernel_rfl
theorem tf_7_2 : tyFld Try.prog 7 2 = some 2 := by kernel_rfl
theorem tf_7_3 : tyFld Try.prog 7 3 = some 3 := by kernel_rfl
theorem tfl_7 : tyFlds Try.prog 7 = some [(0, 1), (1, 1), (2, 1), (3, 1)] := by kernel_rfl
theorem ta_8 : tyAgg Try.prog 8 = some (some 4) := by kernel_rfl
theorem ts_8 : (Try.prog.info? 8).map (·.size) = some 4 := by kernel_rfl
theorem tz_8 : tyZero Try.prog 8 = some (.agg #[(.int .i64 0), (.int .i64 0), (.bool false), (.int .u8 0)]) := by kernel_rfl
theorem tf_8_0 : tyFld Try.prog 8 0 = some 0 := by kernel_rfl
theorem tf_8_1 : tyFld Try.prog 8 1 = some 1 := by kernel_rfl
theorem tf_8_2 : tyFld Try.prog 8 2 = some 2 := by kernel_rfl
theorem tf_8_3 : tyFld Try.prog 8 3 = some 3 := by kernel_rfl
theorem tfl_8 : tyFlds Try.prog 8 = some [(0, 1), (1, 1), (2, 1), (3, 1)] := by kernel_rfl
theorem ta_9 : tyAgg Try.prog 9 = some none := by kernel_rfl
theorem ts_9 : (Try.prog.info? 9).map (·.size) = some 1 := by kernel_rfl
theorem tz_9 : tyZero Try.prog 9 = some (.string ⟨#[]⟩) := by kernel_rfl
theorem tu_9 : Try.prog.underlying 9 = some (.string) := by kernel_rfl
theorem ta_10 : tyAgg Try.prog 10 = some none := by kernel_rfl
theorem ts_10 : (Try.prog.info? 10).map (·.size) = some 1 := by kernel_rfl
theorem tz_10 : tyZero Try.prog 10 = some (.string ⟨#[]⟩) := by kernel_rfl
theorem tu_10 : Try.prog.underlying 10 = some (.string) := by kernel_rfl
theorem ta_11 : tyAgg Try.prog 11 = some none := by kernel_rfl
theorem ts_11 : (Try.prog.info? 11).map (·.size) = some 1 := by kernel_rfl
theorem tz_11 : tyZero Try.prog 11 = some (.string ⟨#[]⟩) := by kernel_rfl
theorem tu_11 : Try.prog.underlying 11 = some (.string) := by kernel_rfl
theorem ta_12 : tyAgg Try.prog 12 = some none := by kernel_rfl
theorem ts_12 : (Try.prog.info? 12).map (·.size) = some 1 := by kernel_rfl
theorem tz_12 : tyZero Try.prog 12 = some (.int .u64 0) := by kernel_rfl
theorem tu_12 : Try.prog.underlying 12 = some (.int .u64) := by kernel_rfl
theorem ta_13 : tyAgg Try.prog 13 = some (some 2) := by kernel_rfl
theorem ts_13 : (Try.prog.info? 13).map (·.size) = some 2 := by kernel_rfl
theorem tz_13 : tyZero Try.prog 13 = some (.agg #[(.string ⟨#[]⟩), (.int .u64 0)]) := by kernel_rfl
theorem tf_13_0 : tyFld Try.prog 13 0 = some 0 := by kernel_rfl
theorem tf_13_1 : tyFld Try.prog 13 1 = some 1 := by kernel_rfl
theorem tfl_13 : tyFlds Try.prog 13 = some [(0, 1), (1, 1)] := by kernel_rfl
theorem ta_14 : tyAgg Try.prog 14 = some (some 2) := by kernel_rfl
theorem ts_14 : (Try.prog.info? 14).map (·.size) = some 2 := by kernel_rfl
theorem tz_14 : tyZero Try.prog 14 = some (.agg #[(.string ⟨#[]⟩), (.int .u64 0)]) := by kernel_rfl
theorem tf_14_0 : tyFld Try.prog 14 0 = some 0 := by kernel_rfl
theorem tf_14_1 : tyFld Try.prog 14 1 = some 1 := by kernel_rfl
theorem tfl_14 : tyFlds Try.prog 14 = some [(0, 1), (1, 1)] := by kernel_rfl
theorem ta_15 : tyAgg Try.prog 15 = some none := by kernel_rfl
theorem ts_15 : (Try.prog.info? 15).map (·.size) = some 1 := by kernel_rfl
theorem tz_15 : tyZero Try.prog 15 = some (.pointer none) := by kernel_rfl
theorem tu_15 : Try.prog.underlying 15 = some (.pointer 114) := by kernel_rfl
theorem ta_16 : tyAgg Try.prog 16 = some none := by kernel_rfl
theorem ts_16 : (Try.prog.info? 16).map (·.size) = some 1 := by kernel_rfl
theorem tz_16 : tyZero Try.prog 16 = some (.pointer none) := by kernel_rfl
theorem tu_16 : Try.prog.underlying 16 = some (.pointer 117) := by kernel_rfl
theorem ta_17 : tyAgg Try.prog 17 = some none := by kernel_rfl
theorem ts_17 : (Try.prog.info? 17).map (·.size) = some 1 := by kernel_rfl
theorem tz_17 : tyZero Try.prog 17 = some (.pointer none) := by kernel_rfl
theorem tu_17 : Try.prog.underlying 17 = some (.pointer 127) := by kernel_rfl
theorem ta_18 : tyAgg Try.prog 18 = some (some 1) := by kernel_rfl
theorem ts_18 : (Try.prog.info? 18).map (·.size) = some 1 := by kernel_rfl
theorem tz_18 : tyZero Try.prog 18 = some (.agg #[(.pointer none)]) := by kernel_rfl
theorem tf_18_0 : tyFld Try.prog 18 0 = some 0 := by kernel_rfl
theorem tfl_18 : tyFlds Try.prog 18 = some [(0, 1)] := by kernel_rfl
theorem ta_19 : tyAgg Try.prog 19 = some (some 1) := by kernel_rfl
theorem ts_19 : (Try.prog.info? 19).map (·.size) = some 1 := by kernel_rfl
theorem tz_19 : tyZero Try.prog 19 = some (.agg #[(.pointer none)]) := by kernel_rfl
theorem tf_19_0 : tyFld Try.prog 19 0 = some 0 := by kernel_rfl
theorem tfl_19 : tyFlds Try.prog 19 = some [(0, 1)] := by kernel_rfl
theorem ta_20 : tyAgg Try.prog 20 = some none := by kernel_rfl
theorem ts_20 : (Try.prog.info? 20).map (·.size) = some 1 := by kernel_rfl
theorem tz_20 : tyZero Try.prog 20 = some .nilIface := by kernel_rfl
theorem ta_21 : tyAgg Try.prog 21 = some none := by kernel_rfl
theorem ts_21 : (Try.prog.info? 21).map (·.size) = some 1 := by kernel_rfl
theorem tz_21 : tyZero Try.prog 21 = some (.int .i32 0) := by kernel_rfl
theorem tu_21 : Try.prog.underlying 21 = some (.int .i32) := by kernel_rfl
theorem ta_22 : tyAgg Try.prog 22 = some none := by kernel_rfl
theorem ts_22 : (Try.prog.info? 22).map (·.size) = some 1 := by kernel_rfl
theorem tz_22 : tyZero Try.prog 22 = some .nilFunc := by kernel_rfl
theorem ta_23 : tyAgg Try.prog 23 = some none := by kernel_rfl
theorem ts_23 : (Try.prog.info? 23).map (·.size) = some 1 := by kernel_rfl
theorem tz_23 : tyZero Try.prog 23 = some (.int .i64 0) := by kernel_rfl
theorem tu_23 : Try.prog.underlying 23 = some (.int .i64) := by kernel_rfl
theorem ta_25 : tyAgg Try.prog 25 = some none := by kernel_rfl
theorem ts_25 : (Try.prog.info? 25).map (·.size) = some 1 := by kernel_rfl
theorem tz_25 : tyZero Try.prog 25 = some .nilFunc := by kernel_rfl
theorem ta_27 : tyAgg Try.prog 27 = some none := by kernel_rfl
theorem ts_27 : (Try.prog.info? 27).map (·.size) = some 1 := by kernel_rfl
theorem tz_27 : tyZero Try.prog 27 = some .nilFunc := by kernel_rfl
theorem ta_28 : tyAgg Try.prog 28 = some none := by kernel_rfl
theorem ts_28 : (Try.prog.info? 28).map (·.size) = some 1 := by kernel_rfl
theorem tz_28 : tyZero Try.prog 28 = some .nilFunc := by kernel_rfl
theorem ta_29 : tyAgg Try.prog 29 = some none := by kernel_rfl
theorem ts_29 : (Try.prog.info? 29).map (·.size) = some 1 := by kernel_rfl
theorem tz_29 : tyZero Try.prog 29 = some (.slice none 0 0) := by kernel_rfl
theorem te_29 : tyElem Try.prog 29 = some (31, 4) := by kernel_rfl
theorem el_29 : ElT Try.prog 29 31 (.agg #[(.int .i64 0), (.string ⟨#[]⟩), (.int .i64 0), (.slice none 0 0)]) 4 56 := ⟨by kernel_rfl, by kernel_rfl, rfl, by decide, by decide⟩
theorem tu_29 : Try.prog.underlying 29 = some (.slice 31) := by kernel_rfl
theorem ta_30 : tyAgg Try.prog 30 = some (some 4) := by kernel_rfl
theorem ts_30 : (Try.prog.info? 30).map (·.size) = some 4 := by kernel_rfl
theorem tz_30 : tyZero Try.prog 30 = some (.agg #[(.int .i64 0), (.string ⟨#[]⟩), (.int .i64 0), (.slice none 0 0)]) := by kernel_rfl
theorem tf_30_0 : tyFld Try.prog 30 0 = some 0 := by kernel_rfl
theorem tf_30_1 : tyFld Try.prog 30 1 = some 1 := by kernel_rfl
theorem tf_30_2 : tyFld Try.prog 30 2 = some 2 := by kernel_rfl
theorem tf_30_3 : tyFld Try.prog 30 3 = some 3 := by kernel_rfl
theorem tfl_30 : tyFlds Try.prog 30 = some [(0, 1), (1, 1), (2, 1), (3, 1)] := by kernel_rfl
theorem ta_31 : tyAgg Try.prog 31 = some (some 4) := by kernel_rfl
theorem ts_31 : (Try.prog.info? 31).map (·.size) = some 4 := by kernel_rfl
theorem tz_31 : tyZero Try.prog 31 = some (.agg #[(.int .i64 0), (.string ⟨#[]⟩), (.int .i64 0), (.slice none 0 0)]) := by kernel_rfl
theorem tf_31_0 : tyFld Try.prog 31 0 = some 0 := by kernel_rfl
theorem tf_31_1 : tyFld Try.prog 31 1 = some 1 := by kernel_rfl
theorem tf_31_2 : tyFld Try.prog 31 2 = some 2 := by kernel_rfl
theorem tf_31_3 : tyFld Try.prog 31 3 = some 3 := by kernel_rfl
theorem tfl_31 : tyFlds Try.prog 31 = some [(0, 1), (1, 1), (2, 1), (3, 1)] := by kernel_rfl
theorem ta_32 : tyAgg Try.prog 32 = some none := by kernel_rfl
theorem ts_32 : (Try.prog.info? 32).map (·.size) = some 1 := by kernel_rfl
theorem tz_32 : tyZero Try.prog 32 = some (.slice none 0 0) := by kernel_rfl
theorem te_32 : tyElem Try.prog 32 = some (36, 11) := by kernel_rfl
theorem el_32 : ElT Try.prog 32 36 (.agg #[(.int .i64 0), (.string ⟨#[]⟩), (.int .i64 0), (.int .i64 0), (.string ⟨#[]⟩), (.int .i64 0), (.slice none 0 0), (.slice none 0 0), (.slice none 0 0), (.slice none 0 0), (.slice none 0 0)]) 11 184 := ⟨by kernel_rfl, by kernel_rfl, rfl, by decide, by decide⟩
theorem tu_32 : Try.prog.underlying 32 = some (.slice 36) := by kernel_rfl
theorem ta_33 : tyAgg Try.prog 33 = some none := by kernel_rfl
theorem ts_33 : (Try.prog.info? 33).map (·.size) = some 1 := by kernel_rfl
theorem tz_33 : tyZero Try.prog 33 = some (.slice none 0 0) := by kernel_rfl
theorem te_33 : tyElem Try.prog 33 = some (99, 16) := by kernel_rfl
theorem el_33 : ElT Try.prog 33 99 (.agg #[(.int .i64 0), (.string ⟨#[]⟩), (.int .i64 0), (.slice none 0 0), (.int .i64 0), (.int .i64 0), (.string ⟨#[]⟩), (.int .i64 0), (.int .i64 0), (.string ⟨#[]⟩), (.int .i64 0), (.slice none 0 0), (.slice none 0 0), (.slice none 0 0), (.slice none 0 0), (.slice none 0 0)]) 16 248 := ⟨by kernel_rfl, by kernel_rfl, rfl, by decide, by decide⟩
theorem tu_33 : Try.prog.underlying 33 = some (.slice 99) := by kernel_rfl
theorem ta_34 : tyAgg Try.prog 34 = some none := by kernel_rfl
theorem ts_34 : (Try.prog.info? 34).map (·.size) = some 1 := by kernel_rfl
theorem tz_34 : tyZero Try.prog 34 = some (.slice none 0 0) := by kernel_rfl
theorem te_34 : tyElem Try.prog 34 = some (42, 17) := by kernel_rfl
theorem el_34 : ElT Try.prog 34 42 (.agg #[(.string ⟨#[]⟩), (.slice none 0 0), (.int .i64 0), (.string ⟨#[]⟩), (.int .i64 0), (.slice none 0 0), (.int .i64 0), (.string ⟨#[]⟩), (.int .i64 0), (.int .i64 0), (.string ⟨#[]⟩), (.int .i64 0), (.slice none 0 0), (.slice none 0 0), (.slice none 0 0), (.slice none 0 0), (.slice none 0 0)]) 17 280 := ⟨by kernel_rfl, by kernel_rfl, rfl, by decide, by decide⟩
theorem tu_34 : Try.prog.underlying 34 = some (.slice 42) := by kernel_rfl
theorem ta_35 : tyAgg Try.prog 35 = some (some 11) := by kernel_rfl
theorem ts_35 : (Try.prog.info? 35).map (·.size) = some 11 := by kernel_rfl
theorem tz_35 : tyZero Try.prog 35 = some (.agg #[(.int .i64 0), (.string ⟨#[]⟩), (.int .i64 0), (.int .i64 0), (.string ⟨#[]⟩), (.int .i64 0), (.slice none 0 0), (.slice none 0 0), (.slice none 0 0), (.slice none 0 0), (.slice none 0 0)]) := by kernel_rfl
theorem tf_35_0 : tyFld Try.prog 35 0 = some 0 := by kernel_rfl
theorem tf_35_1 : tyFld Try.prog 35 1 = some 1 := by kernel_rfl
theorem tf_35_2 : tyFld Try.prog 35 2 = some 2 := by kernel_rfl
theorem tf_35_3 : tyFld Try.prog 35 3 = some 3 := by kernel_rfl
theorem tf_35_4 : tyFld Try.prog 35 4 = some 7 := by kernel_rfl
theorem tf_35_5 : tyFld Try.prog 35 5 = some 8 := by kernel_rfl
theorem tf_35_6 : tyFld Try.prog 35 6 = some 9 := by kernel_rfl
theorem tf_35_7 : tyFld Try.prog 35 7 = some 10 := by kernel_rfl
theorem tfl_35 : tyFlds Try.prog 35 = some [(0, 1), (1, 1), (2, 1), (3, 4), (7, 1), (8, 1), (9, 1), (10, 1)] := by kernel_rfl
theorem ta_36 : tyAgg Try.prog 36 = some (some 11) := by kernel_rfl
theorem ts_36 : (Try.prog.info? 36).map (·.size) = some 11 := by kernel_rfl
theorem tz_36 : tyZero Try.prog 36 = some (.agg #[(.int .i64 0), (.string ⟨#[]⟩), (.int .i64 0), (.int .i64 0), (.string ⟨#[]⟩), (.int .i64 0), (.slice none 0 0), (.slice none 0 0), (.slice none 0 0), (.slice none 0 0), (.slice none 0 0)]) := by kernel_rfl
theorem tf_36_0 : tyFld Try.prog 36 0 = some 0 := by kernel_rfl
theorem tf_36_1 : tyFld Try.prog 36 1 = some 1 := by kernel_rfl
theorem tf_36_2 : tyFld Try.prog 36 2 = some 2 := by kernel_rfl
theorem tf_36_3 : tyFld Try.prog 36 3 = some 3 := by kernel_rfl
theorem tf_36_4 : tyFld Try.prog 36 4 = some 7 := by kernel_rfl
theorem tf_36_5 : tyFld Try.prog 36 5 = some 8 := by kernel_rfl
theorem tf_36_6 : tyFld Try.prog 36 6 = some 9 := by kernel_rfl
theorem tf_36_7 : tyFld Try.prog 36 7 = some 10 := by kernel_rfl
theorem tfl_36 : tyFlds Try.prog 36 = some [(0, 1), (1, 1), (2, 1), (3, 4), (7, 1), (8, 1), (9, 1), (10, 1)] := by kernel_rfl
theorem ta_37 : tyAgg Try.prog 37 = some none := by kernel_rfl
theorem ts_37 : (Try.prog.info? 37).map (·.size) = some 1 := by kernel_rfl
theorem tz_37 : tyZero Try.prog 37 = some (.slice none 0 0) := by kernel_rfl
theorem te_37 : tyElem Try.prog 37 = some (9, 1) := by kernel_rfl
theorem el_37 : ElT Try.prog 37 9 (.string ⟨#[]⟩) 1 16 := ⟨by kernel_rfl, by kernel_rfl, rfl, by decide, by decide⟩
theorem tu_37 : Try.prog.underlying 37 = some (.slice 9) := by kernel_rfl
theorem ta_38 : tyAgg Try.prog 38 = some (some 3) := by kernel_rfl
theorem ts_38 : (Try.prog.info? 38).map (·.size) = some 3 := by kernel_rfl
theorem tz_38 : tyZero Try.prog 38 = some (.agg #[(.slice none 0 0), (.int .i64 0), (.int .i64 0)]) := by kernel_rfl
theorem tf_38_0 : tyFld Try.prog 38 0 = some 0 := by kernel_rfl
theorem tf_38_1 : tyFld Try.prog 38 1 = some 1 := by kernel_rfl
theorem tf_38_2 : tyFld Try.prog 38 2 = some 2 := by kernel_rfl
theorem tfl_38 : tyFlds Try.prog 38 = some [(0, 1), (1, 1), (2, 1)] := by kernel_rfl
theorem ta_39 : tyAgg Try.prog 39 = some (some 3) := by kernel_rfl
theorem ts_39 : (Try.prog.info? 39).map (·.size) = some 3 := by kernel_rfl
theorem tz_39 : tyZero Try.prog 39 = some (.agg #[(.slice none 0 0), (.int .i64 0), (.int .i64 0)]) := by kernel_rfl
theorem tf_39_0 : tyFld Try.prog 39 0 = some 0 := by kernel_rfl
theorem tf_39_1 : tyFld Try.prog 39 1 = some 1 := by kernel_rfl
theorem tf_39_2 : tyFld Try.prog 39 2 = some 2 := by kernel_rfl
theorem tfl_39 : tyFlds Try.prog 39 = some [(0, 1), (1, 1), (2, 1)] := by kernel_rfl
theorem ta_40 : tyAgg Try.prog 40 = some none := by kernel_rfl
theorem ts_40 : (Try.prog.info? 40).map (·.size) = some 1 := by kernel_rfl
theorem tz_40 : tyZero Try.prog 40 = some .nilFunc := by kernel_rfl
theorem ta_41 : tyAgg Try.prog 41 = some (some 17) := by kernel_rfl
theorem ts_41 : (Try.prog.info? 41).map (·.size) = some 17 := by kernel_rfl
theorem tz_41 : tyZero Try.prog 41 = some (.agg #[(.string ⟨#[]⟩), (.slice none 0 0), (.int .i64 0), (.string ⟨#[]⟩), (.int .i64 0), (.slice none 0 0), (.int .i64 0), (.string ⟨#[]⟩), (.int .i64 0), (.int .i64 0), (.string ⟨#[]⟩), (.int .i64 0), (.slice none 0 0), (.slice none 0 0), (.slice none 0 0), (.slice none 0 0), (.slice none 0 0)]) := by kernel_rfl
theorem tf_41_0 : tyFld Try.prog 41 0 = some 0 := by kernel_rfl
theorem tf_41_1 : tyFld Try.prog 41 1 = some 1 := by kernel_rfl
theorem tf_41_2 : tyFld Try.prog 41 2 = some 2 := by kernel_rfl
theorem tf_41_3 : tyFld Try.prog 41 3 = some 6 := by kernel_rfl
theorem tfl_41 : tyFlds Try.prog 41 = some [(0, 1), (1, 1), (2, 4), (6, 11)] := by kernel_rfl
theorem ta_42 : tyAgg Try.prog 42 = some (some 17) := by kernel_rfl
theorem ts_42 : (Try.prog.info? 42).map (·.size) = some 17 := by kernel_rfl
theorem tz_42 : tyZero Try.prog 42 = some (.agg #[(.string ⟨#[]⟩), (.slice none 0 0), (.int .i64 0), (.string ⟨#[]⟩), (.int .i64 0), (.slice none 0 0), (.int .i64 0), (.string ⟨#[]⟩), (.int .i64 0), (.int .i64 0), (.string ⟨#[]⟩), (.int .i64 0), (.slice none 0 0), (.slice none 0 0), (.slice none 0 0), (.slice none 0 0), (.slice none 0 0)]) := by kernel_rfl
theorem tf_42_0 : tyFld Try.prog 42 0 = some 0 := by kernel_rfl
theorem tf_42_1 : tyFld Try.prog 42 1 = some 1 := by kernel_rfl
theorem tf_42_2 : tyFld Try.prog 42 2 = some 2 := by kernel_rfl
theorem tf_42_3 : tyFld Try.prog 42 3 = some 6 := by kernel_rfl
theorem tfl_42 : tyFlds Try.prog 42 = some [(0, 1), (1, 1), (2, 4), (6, 11)] := by kernel_rfl
theorem ta_43 : tyAgg Try.prog 43 = some (some 1) := by kernel_rfl
theorem ts_43 : (Try.prog.info? 43).map (·.size) = some 1 := by kernel_rfl
theorem tz_43 : tyZero Try.prog 43 = some (.agg #[(.slice none 0 0)]) := by kernel_rfl
theorem tf_43_0 : tyFld Try.prog 43 0 = some 0 := by kernel_rfl
theorem tfl_43 : tyFlds Try.prog 43 = some [(0, 1)] := by kernel_rfl
theorem ta_44 : tyAgg Try.prog 44 = some (some 1) := by kernel_rfl
theorem ts_44 : (Try.prog.info? 44).map (·.size) = some 1 := by kernel_rfl
theorem tz_44 : tyZero Try.prog 44 = some (.agg #[(.slice none 0 0)]) := by kernel_rfl
theorem tf_44_0 : tyFld Try.prog 44 0 = some 0 := by kernel_rfl
theorem tfl_44 : tyFlds Try.prog 44 = some [(0, 1)] := by kernel_rfl
theorem ta_45 : tyAgg Try.prog 45 = some none := by kernel_rfl
theorem ts_45 : (Try.prog.info? 45).map (·.size) = some 1 := by kernel_rfl
theorem tz_45 : tyZero Try.prog 45 = some (.int .i64 0) := by kernel_rfl
theorem tu_45 : Try.prog.underlying 45 = some (.int .i64) := by kernel_rfl
theorem ta_46 : tyAgg Try.prog 46 = some none := by kernel_rfl
theorem ts_46 : (Try.prog.info? 46).map (·.size) = some 1 := by kernel_rfl
theorem tz_46 : tyZero Try.prog 46 = some .nilFunc := by kernel_rfl
theorem ta_48 : tyAgg Try.prog 48 = some none := by kernel_rfl
theorem ts_48 : (Try.prog.info? 48).map (·.size) = some 1 := by kernel_rfl
theorem tz_48 : tyZero Try.prog 48 = some .nilFunc := by kernel_rfl
theorem ta_49 : tyAgg Try.prog 49 = some none := by kernel_rfl
theorem ts_49 : (Try.prog.info? 49).map (·.size) = some 1 := by kernel_rfl
theorem tz_49 : tyZero Try.prog 49 = some .nilFunc := by kernel_rfl
theorem ta_51 : tyAgg Try.prog 51 = some none := by kernel_rfl
theorem ts_51 : (Try.prog.info? 51).map (·.size) = some 1 := by kernel_rfl
theorem tz_51 : tyZero Try.prog 51 = some .nilFunc := by kernel_rfl
theorem ta_52 : tyAgg Try.prog 52 = some none := by kernel_rfl
theorem ts_52 : (Try.prog.info? 52).map (·.size) = some 1 := by kernel_rfl
theorem tz_52 : tyZero Try.prog 52 = some .nilFunc := by kernel_rfl
theorem ta_53 : tyAgg Try.prog 53 = some none := by kernel_rfl
theorem ts_53 : (Try.prog.info? 53).map (·.size) = some 1 := by kernel_rfl
theorem tz_53 : tyZero Try.prog 53 = some (.pointer none) := by kernel_rfl
theorem tu_53 : Try.prog.underlying 53 = some (.pointer 57) := by kernel_rfl
theorem ta_54 : tyAgg Try.prog 54 = some none := by kernel_rfl
theorem ts_54 : (Try.prog.info? 54).map (·.size) = some 1 := by kernel_rfl
theorem tz_54 : tyZero Try.prog 54 = some .nilFunc := by kernel_rfl
theorem ta_55 : tyAgg Try.prog 55 = some none := by kernel_rfl
theorem ts_55 : (Try.prog.info? 55).map (·.size) = some 1 := by kernel_rfl
theorem tz_55 : tyZero Try.prog 55 = some (.slice none 0 0) := by kernel_rfl
theorem te_55 : tyElem Try.prog 55 = some (62, 1) := by kernel_rfl
theorem el_55 : ElT Try.prog 55 62 (.pointer none) 1 8 := ⟨by kernel_rfl, by kernel_rfl, rfl, by decide, by decide⟩
theorem tu_55 : Try.prog.underlying 55 = some (.slice 62) := by kernel_rfl
theorem ta_56 : tyAgg Try.prog 56 = some (some 6) := by kernel_rfl
theorem ts_56 : (Try.prog.info? 56).map (·.size) = some 6 := by kernel_rfl
theorem tz_56 : tyZero Try.prog 56 = some (.agg #[(.slice none 0 0), (.slice none 0 0), (.slice none 0 0), (.int .i64 0), (.int .i64 0), (.int .i64 0)]) := by kernel_rfl
theorem tf_56_0 : tyFld Try.prog 56 0 = some 0 := by kernel_rfl
theorem tf_56_1 : tyFld Try.prog 56 1 = some 1 := by kernel_rfl
theorem tf_56_2 : tyFld Try.prog 56 2 = some 2 := by kernel_rfl
theorem tf_56_3 : tyFld Try.prog 56 3 = some 3 := by kernel_rfl
theorem tf_56_4 : tyFld Try.prog 56 4 = some 4 := by kernel_rfl
theorem tf_56_5 : tyFld Try.prog 56 5 = some 5 := by kernel_rfl
theorem tfl_56 : tyFlds Try.prog 56 = some [(0, 1), (1, 1), (2, 1), (3, 1), (4, 1), (5, 1)] := by kernel_rfl
theorem ta_57 : tyAgg Try.prog 57 = some (some 6) := by kernel_rfl
theorem ts_57 : (Try.prog.info? 57).map (·.size) = some 6 := by kernel_rfl
theorem tz_57 : tyZero Try.prog 57 = some (.agg #[(.slice none 0 0), (.slice none 0 0), (.slice none 0 0), (.int .i64 0), (.int .i64 0), (.int .i64 0)]) := by kernel_rfl
theorem tf_57_0 : tyFld Try.prog 57 0 = some 0 := by kernel_rfl
theorem tf_57_1 : tyFld Try.prog 57 1 = some 1 := by kernel_rfl
theorem tf_57_2 : tyFld Try.prog 57 2 = some 2 := by kernel_rfl
theorem tf_57_3 : tyFld Try.prog 57 3 = some 3 := by kernel_rfl
theorem tf_57_4 : tyFld Try.prog 57 4 = some 4 := by kernel_rfl
theorem tf_57_5 : tyFld Try.prog 57 5 = some 5 := by kernel_rfl
theorem tfl_57 : tyFlds Try.prog 57 = some [(0, 1), (1, 1), (2, 1), (3, 1), (4, 1), (5, 1)] := by kernel_rfl
theorem ta_58 : tyAgg Try.prog 58 = some none := by kernel_rfl
theorem ts_58 : (Try.prog.info? 58).map (·.size) = some 1 := by kernel_rfl
theorem tz_58 : tyZero Try.prog 58 = some (.pointer none) := by kernel_rfl
theorem tu_58 : Try.prog.underlying 58 = some (.pointer 61) := by kernel_rfl
theorem ta_59 : tyAgg Try.prog 59 = some none := by kernel_rfl
theorem ts_59 : (Try.prog.info? 59).map (·.size) = some 1 := by kernel_rfl
theorem tz_59 : tyZero Try.prog 59 = some (.map none) := by kernel_rfl
theorem ta_60 : tyAgg Try.prog 60 = some (some 1) := by kernel_rfl
theorem ts_60 : (Try.prog.info? 60).map (·.size) = some 1 := by kernel_rfl
theorem tz_60 : tyZero Try.prog 60 = some (.agg #[(.map none)]) := by kernel_rfl
theorem tf_60_0 : tyFld Try.prog 60 0 = some 0 := by kernel_rfl
theorem tfl_60 : tyFlds Try.prog 60 = some [(0, 1)] := by kernel_rfl
theorem ta_61 : tyAgg Try.prog 61 = some (some 1) := by kernel_rfl
theorem ts_61 : (Try.prog.info? 61).map (·.size) = some 1 := by kernel_rfl
theorem tz_61 : tyZero Try.prog 61 = some (.agg #[(.map none)]) := by kernel_rfl
theorem tf_61_0 : tyFld Try.prog 61 0 = some 0 := by kernel_rfl
theorem tfl_61 : tyFlds Try.prog 61 = some [(0, 1)] := by kernel_rfl
theorem ta_62 : tyAgg Try.prog 62 = some none := by kernel_rfl
theorem ts_62 : (Try.prog.info? 62).map (·.size) = some 1 := by kernel_rfl
theorem tz_62 : tyZero Try.prog 62 = some (.pointer none) := by kernel_rfl
theorem tu_62 : Try.prog.underlying 62 = some (.pointer 71) := by kernel_rfl
theorem ta_63 : tyAgg Try.prog 63 = some none := by kernel_rfl
theorem ts_63 : (Try.prog.info? 63).map (·.size) = some 1 := by kernel_rfl
theorem tz_63 : tyZero Try.prog 63 = some .nilFunc := by kernel_rfl
theorem ta_64 : tyAgg Try.prog 64 = some none := by kernel_rfl
theorem ts_64 : (Try.prog.info? 64).map (·.size) = some 1 := by kernel_rfl
theorem tz_64 : tyZero Try.prog 64 = some .nilFunc := by kernel_rfl
theorem ta_65 : tyAgg Try.prog 65 = some none := by kernel_rfl
theorem ts_65 : (Try.prog.info? 65).map (·.size) = some 1 := by kernel_rfl
theorem tz_65 : tyZero Try.prog 65 = some (.slice none 0 0) := by kernel_rfl
theorem te_65 : tyElem Try.prog 65 = some (69, 6) := by kernel_rfl
theorem el_65 : ElT Try.prog 65 69 (.agg #[(.int .i64 0), (.int .i64 0), (.string ⟨#[]⟩), (.slice none 0 0), (.pointer none), (.pointer none)]) 6 72 := ⟨by kernel_rfl, by kernel_rfl, rfl, by decide, by decide⟩
theorem tu_65 : Try.prog.underlying 65 = some (.slice 69) := by kernel_rfl
theorem ta_66 : tyAgg Try.prog 66 = some none := by kernel_rfl
theorem ts_66 : (Try.prog.info? 66).map (·.size) = some 1 := by kernel_rfl
theorem tz_66 : tyZero Try.prog 66 = some (.pointer none) := by kernel_rfl
theorem tu_66 : Try.prog.underlying 66 = some (.pointer 88) := by kernel_rfl
theorem ta_67 : tyAgg Try.prog 67 = some none := by kernel_rfl
theorem ts_67 : (Try.prog.info? 67).map (·.size) = some 1 := by kernel_rfl
theorem tz_67 : tyZero Try.prog 67 = some (.pointer none) := by kernel_rfl
theorem tu_67 : Try.prog.underlying 67 = some (.pointer 69) := by kernel_rfl
theorem ta_68 : tyAgg Try.prog 68 = some (some 6) := by kernel_rfl
theorem ts_68 : (Try.prog.info? 68).map (·.size) = some 6 := by kernel_rfl
theorem tz_68 : tyZero Try.prog 68 = some (.agg #[(.int .i64 0), (.int .i64 0), (.string ⟨#[]⟩), (.slice none 0 0), (.pointer none), (.pointer none)]) := by kernel_rfl
theorem tf_68_0 : tyFld Try.prog 68 0 = some 0 := by kernel_rfl
theorem tf_68_1 : tyFld Try.prog 68 1 = some 1 := by kernel_rfl
theorem tf_68_2 : tyFld Try.prog 68 2 = some 2 := by kernel_rfl
theorem tf_68_3 : tyFld Try.prog 68 3 = some 3 := by kernel_rfl
theorem tf_68_4 : tyFld Try.prog 68 4 = some 4 := by kernel_rfl
theorem tf_68_5 : tyFld Try.prog 68 5 = some 5 := by kernel_rfl
theorem tfl_68 : tyFlds Try.prog 68 = some [(0, 1), (1, 1), (2, 1), (3, 1), (4, 1), (5, 1)] := by kernel_rfl
theorem ta_69 : tyAgg Try.prog 69 = some (some 6) := by kernel_rfl
theorem ts_69 : (Try.prog.info? 69).map (·.size) = some 6 := by kernel_rfl
theorem tz_69 : tyZero Try.prog 69 = some (.agg #[(.int .i64 0), (.int .i64 0), (.string ⟨#[]⟩), (.slice none 0 0), (.pointer none), (.pointer none)]) := by kernel_rfl
theorem tf_69_0 : tyFld Try.prog 69 0 = some 0 := by kernel_rfl
theorem tf_69_1 : tyFld Try.prog 69 1 = some 1 := by kernel_rfl
theorem tf_69_2 : tyFld Try.prog 69 2 = some 2 := by kernel_rfl
theorem tf_69_3 : tyFld Try.prog 69 3 = some 3 := by kernel_rfl
theorem tf_69_4 : tyFld Try.prog 69 4 = some 4 := by kernel_rfl
theorem tf_69_5 : tyFld Try.prog 69 5 = some 5 := by kernel_rfl
theorem tfl_69 : tyFlds Try.prog 69 = some [(0, 1), (1, 1), (2, 1), (3, 1), (4, 1), (5, 1)] := by kernel_rfl
theorem ta_70 : tyAgg Try.prog 70 = some (some 9) := by kernel_rfl
theorem ts_70 : (Try.prog.info? 70).map (·.size) = some 9 := by kernel_rfl
theorem tz_70 : tyZero Try.prog 70 = some (.agg #[.nilFunc, (.bool false), (.bool false), (.int .i64 0), (.int .i64 0), (.string ⟨#[]⟩), (.slice none 0 0), (.pointer none), (.pointer none)]) := by kernel_rfl
theorem tf_70_0 : tyFld Try.prog 70 0 = some 0 := by kernel_rfl
theorem tf_70_1 : tyFld Try.prog 70 1 = some 1 := by kernel_rfl
theorem tf_70_2 : tyFld Try.prog 70 2 = some 2 := by kernel_rfl
theorem tf_70_3 : tyFld Try.prog 70 3 = some 3 := by kernel_rfl
theorem tfl_70 : tyFlds Try.prog 70 = some [(0, 1), (1, 1), (2, 1), (3, 6)] := by kernel_rfl
theorem ta_71 : tyAgg Try.prog 71 = some (some 9) := by kernel_rfl
theorem ts_71 : (Try.prog.info? 71).map (·.size) = some 9 := by kernel_rfl
theorem tz_71 : tyZero Try.prog 71 = some (.agg #[.nilFunc, (.bool false), (.bool false), (.int .i64 0), (.int .i64 0), (.string ⟨#[]⟩), (.slice none 0 0), (.pointer none), (.pointer none)]) := by kernel_rfl
theorem tf_71_0 : tyFld Try.prog 71 0 = some 0 := by kernel_rfl
theorem tf_71_1 : tyFld Try.prog 71 1 = some 1 := by kernel_rfl
theorem tf_71_2 : tyFld Try.prog 71 2 = some 2 := by kernel_rfl
theorem tf_71_3 : tyFld Try.prog 71 3 = some 3 := by kernel_rfl
theorem tfl_71 : tyFlds Try.prog 71 = some [(0, 1), (1, 1), (2, 1), (3, 6)] := by kernel_rfl
theorem ta_73 : tyAgg Try.prog 73 = some none := by kernel_rfl
theorem ts_73 : (Try.prog.info? 73).map (·.size) = some 1 := by kernel_rfl
theorem tz_73 : tyZero Try.prog 73 = some .nilFunc := by kernel_rfl
theorem ta_74 : tyAgg Try.prog 74 = some none := by kernel_rfl
theorem ts_74 : (Try.prog.info? 74).map (·.size) = some 1 := by kernel_rfl
theorem tz_74 : tyZero Try.prog 74 = some .nilFunc := by kernel_rfl
theorem ta_75 : tyAgg Try.prog 75 = some none := by kernel_rfl
theorem ts_75 : (Try.prog.info? 75).map (·.size) = some 1 := by kernel_rfl
theorem tz_75 : tyZero Try.prog 75 = some .nilFunc := by kernel_rfl
theorem ta_76 : tyAgg Try.prog 76 = some none := by kernel_rfl
theorem ts_76 : (Try.prog.info? 76).map (·.size) = some 1 := by kernel_rfl
theorem tz_76 : tyZero Try.prog 76 = some (.int .u64 0) := by kernel_rfl
theorem tu_76 : Try.prog.underlying 76 = some (.int .u64) := by kernel_rfl
theorem ta_77 : tyAgg Try.prog 77 = some none := by kernel_rfl
theorem ts_77 : (Try.prog.info? 77).map (·.size) = some 1 := by kernel_rfl
theorem tz_77 : tyZero Try.prog 77 = some .nilFunc := by kernel_rfl
theorem ta_78 : tyAgg Try.prog 78 = some none := by kernel_rfl
theorem ts_78 : (Try.prog.info? 78).map (·.size) = some 1 := by kernel_rfl
theorem tz_78 : tyZero Try.prog 78 = some .nilFunc := by kernel_rfl
theorem ta_79 : tyAgg Try.prog 79 = some none := by kernel_rfl
theorem ts_79 : (Try.prog.info? 79).map (·.size) = some 1 := by kernel_rfl
theorem tz_79 : tyZero Try.prog 79 = some .nilFunc := by kernel_rfl
theorem ta_80 : tyAgg Try.prog 80 = some none := by kernel_rfl
theorem ts_80 : (Try.prog.info? 80).map (·.size) = some 1 := by kernel_rfl
theorem tz_80 : tyZero Try.prog 80 = some .nilFunc := by kernel_rfl
theorem ta_81 : tyAgg Try.prog 81 = some none := by kernel_rfl
theorem ts_81 : (Try.prog.info? 81).map (·.size) = some 1 := by kernel_rfl
theorem tz_81 : tyZero Try.prog 81 = some .nilFunc := by kernel_rfl
theorem ta_82 : tyAgg Try.prog 82 = some none := by kernel_rfl
theorem ts_82 : (Try.prog.info? 82).map (·.size) = some 1 := by kernel_rfl
theorem tz_82 : tyZero Try.prog 82 = some (.pointer none) := by kernel_rfl
theorem tu_82 : Try.prog.underlying 82 = some (.pointer 93) := by kernel_rfl
theorem ta_83 : tyAgg Try.prog 83 = some none := by kernel_rfl
theorem ts_83 : (Try.prog.info? 83).map (·.size) = some 1 := by kernel_rfl
theorem tz_83 : tyZero Try.prog 83 = some (.slice none 0 0) := by kernel_rfl
theorem te_83 : tyElem Try.prog 83 = some (64, 1) := by kernel_rfl
theorem el_83 : ElT Try.prog 83 64 .nilFunc 1 8 := ⟨by kernel_rfl, by kernel_rfl, rfl, by decide, by decide⟩
theorem tu_83 : Try.prog.underlying 83 = some (.slice 64) := by kernel_rfl
theorem ta_84 : tyAgg Try.prog 84 = some none := by kernel_rfl
theorem ts_84 : (Try.prog.info? 84).map (·.size) = some 1 := by kernel_rfl
theorem tz_84 : tyZero Try.prog 84 = some .nilFunc := by kernel_rfl
theorem ta_85 : tyAgg Try.prog 85 = some none := by kernel_rfl
theorem ts_85 : (Try.prog.info? 85).map (·.size) = some 1 := by kernel_rfl
theorem tz_85 : tyZero Try.prog 85 = some .nilFunc := by kernel_rfl
theorem ta_86 : tyAgg Try.prog 86 = some none := by kernel_rfl
theorem ts_86 : (Try.prog.info? 86).map (·.size) = some 1 := by kernel_rfl
theorem tz_86 : tyZero Try.prog 86 = some .nilFunc := by kernel_rfl
theorem ta_87 : tyAgg Try.prog 87 = some (some 2) := by kernel_rfl
theorem ts_87 : (Try.prog.info? 87).map (·.size) = some 2 := by kernel_rfl
theorem tz_87 : tyZero Try.prog 87 = some (.agg #[.nilFunc, (.pointer none)]) := by kernel_rfl
theorem tf_87_0 : tyFld Try.prog 87 0 = some 0 := by kernel_rfl
theorem tf_87_1 : tyFld Try.prog 87 1 = some 1 := by kernel_rfl
theorem tfl_87 : tyFlds Try.prog 87 = some [(0, 1), (1, 1)] := by kernel_rfl
theorem ta_88 : tyAgg Try.prog 88 = some (some 2) := by kernel_rfl
theorem ts_88 : (Try.prog.info? 88).map (·.size) = some 2 := by kernel_rfl
theorem tz_88 : tyZero Try.prog 88 = some (.agg #[.nilFunc, (.pointer none)]) := by kernel_rfl
theorem tf_88_0 : tyFld Try.prog 88 0 = some 0 := by kernel_rfl
theorem tf_88_1 : tyFld Try.prog 88 1 = some 1 := by kernel_rfl
theorem tfl_88 : tyFlds Try.prog 88 = some [(0, 1), (1, 1)] := by kernel_rfl
theorem ta_89 : tyAgg Try.prog 89 = some none := by kernel_rfl
theorem ts_89 : (Try.prog.info? 89).map (·.size) = some 1 := by kernel_rfl
theorem tz_89 : tyZero Try.prog 89 = some .nilFunc := by kernel_rfl
theorem ta_91 : tyAgg Try.prog 91 = some none := by kernel_rfl
theorem ts_91 : (Try.prog.info? 91).map (·.size) = some 1 := by kernel_rfl
theorem tz_91 : tyZero Try.prog 91 = some (.int .u64 0) := by kernel_rfl
theorem tu_91 : Try.prog.underlying 91 = some (.int .u64) := by kernel_rfl
theorem ta_92 : tyAgg Try.prog 92 = some (some 7) := by kernel_rfl
theorem ts_92 : (Try.prog.info? 92).map (·.size) = some 7 := by kernel_rfl
theorem tz_92 : tyZero Try.prog 92 = some (.agg #[(.int .i64 0), (.int .i64 0), (.string ⟨#[]⟩), (.slice none 0 0), (.pointer none), (.pointer none), (.pointer none)]) := by kernel_rfl
theorem tf_92_0 : tyFld Try.prog 92 0 = some 0 := by kernel_rfl
theorem tf_92_1 : tyFld Try.prog 92 1 = some 6 := by kernel_rfl
theorem tfl_92 : tyFlds Try.prog 92 = some [(0, 6), (6, 1)] := by kernel_rfl
theorem ta_93 : tyAgg Try.prog 93 = some (some 7) := by kernel_rfl
theorem ts_93 : (Try.prog.info? 93).map (·.size) = some 7 := by kernel_rfl
theorem tz_93 : tyZero Try.prog 93 = some (.agg #[(.int .i64 0), (.int .i64 0), (.string ⟨#[]⟩), (.slice none 0 0), (.pointer none), (.pointer none), (.pointer none)]) := by kernel_rfl
theorem tf_93_0 : tyFld Try.prog 93 0 = some 0 := by kernel_rfl
theorem tf_93_1 : tyFld Try.prog 93 1 = some 6 := by kernel_rfl
theorem tfl_93 : tyFlds Try.prog 93 = some [(0, 6), (6, 1)] := by kernel_rfl
theorem ta_94 : tyAgg Try.prog 94 = some none := by kernel_rfl
theorem ts_94 : (Try.prog.info? 94).map (·.size) = some 1 := by kernel_rfl
theorem tz_94 : tyZero Try.prog 94 = some (.slice none 0 0) := by kernel_rfl
theorem te_94 : tyElem Try.prog 94 = some (66, 1) := by kernel_rfl
theorem el_94 : ElT Try.prog 94 66 (.pointer none) 1 8 := ⟨by kernel_rfl, by kernel_rfl, rfl, by decide, by decide⟩
theorem tu_94 : Try.prog.underlying 94 = some (.slice 66) := by kernel_rfl
theorem ta_95 : tyAgg Try.prog 95 = some none := by kernel_rfl
theorem ts_95 : (Try.prog.info? 95).map (·.size) = some 1 := by kernel_rfl
theorem tz_95 : tyZero Try.prog 95 = some (.slice none 0 0) := by kernel_rfl
theorem te_95 : tyElem Try.prog 95 = some (97, 5) := by kernel_rfl
theorem el_95 : ElT Try.prog 95 97 (.agg #[(.int .i64 0), (.string ⟨#[]⟩), (.int .i64 0), (.slice none 0 0), (.int .i64 0)]) 5 64 := ⟨by kernel_rfl, by kernel_rfl, rfl, by decide, by decide⟩
theorem tu_95 : Try.prog.underlying 95 = some (.slice 97) := by kernel_rfl
theorem ta_96 : tyAgg Try.prog 96 = some (some 5) := by kernel_rfl
theorem ts_96 : (Try.prog.info? 96).map (·.size) = some 5 := by kernel_rfl
theorem tz_96 : tyZero Try.prog 96 = some (.agg #[(.int .i64 0), (.string ⟨#[]⟩), (.int .i64 0), (.slice none 0 0), (.int .i64 0)]) := by kernel_rfl
theorem tf_96_0 : tyFld Try.prog 96 0 = some 0 := by kernel_rfl
theorem tf_96_1 : tyFld Try.prog 96 1 = some 1 := by kernel_rfl
theorem tf_96_2 : tyFld Try.prog 96 2 = some 2 := by kernel_rfl
theorem tf_96_3 : tyFld Try.prog 96 3 = some 3 := by kernel_rfl
theorem tf_96_4 : tyFld Try.prog 96 4 = some 4 := by kernel_rfl
theorem tfl_96 : tyFlds Try.prog 96 = some [(0, 1), (1, 1), (2, 1), (3, 1), (4, 1)] := by kernel_rfl
theorem ta_97 : tyAgg Try.prog 97 = some (some 5) := by kernel_rfl
theorem ts_97 : (Try.prog.info? 97).map (·.size) = some 5 := by kernel_rfl
theorem tz_97 : tyZero Try.prog 97 = some (.agg #[(.int .i64 0), (.string ⟨#[]⟩), (.int .i64 0), (.slice none 0 0), (.int .i64 0)]) := by kernel_rfl
theorem tf_97_0 : tyFld Try.prog 97 0 = some 0 := by kernel_rfl
theorem tf_97_1 : tyFld Try.prog 97 1 = some 1 := by kernel_rfl
theorem tf_97_2 : tyFld Try.prog 97 2 = some 2 := by kernel_rfl
theorem tf_97_3 : tyFld Try.prog 97 3 = some 3 := by kernel_rfl
theorem tf_97_4 : tyFld Try.prog 97 4 = some 4 := by kernel_rfl
theorem tfl_97 : tyFlds Try.prog 97 = some [(0, 1), (1, 1), (2, 1), (3, 1), (4, 1)] := by kernel_rfl
theorem ta_98 : tyAgg Try.prog 98 = some (some 16) := by kernel_rfl
theorem ts_98 : (Try.prog.info? 98).map (·.size) = some 16 := by kernel_rfl
theorem tz_98 : tyZero Try.prog 98 = some (.agg #[(.int .i64 0), (.string ⟨#[]⟩), (.int .i64 0), (.slice none 0 0), (.int .i64 0), (.int .i64 0), (.string ⟨#[]⟩), (.int .i64 0), (.int .i64 0), (.string ⟨#[]⟩), (.int .i64 0), (.slice none 0 0), (.slice none 0 0), (.slice none 0 0), (.slice none 0 0), (.slice none 0 0)]) := by kernel_rfl
theorem tf_98_0 : tyFld Try.prog 98 0 = some 0 := by kernel_rfl
theorem tf_98_1 : tyFld Try.prog 98 1 = some 5 := by kernel_rfl
theorem tfl_98 : tyFlds Try.prog 98 = some [(0, 5), (5, 11)] := by kernel_rfl
theorem ta_99 : tyAgg Try.prog 99 = some (some 16) := by kernel_rfl
theorem ts_99 : (Try.prog.info? 99).map (·.size) = some 16 := by kernel_rfl
theorem tz_99 : tyZero Try.prog 99 = some (.agg #[(.int .i64 0), (.string ⟨#[]⟩), (.int .i64 0), (.slice none 0 0), (.int .i64 0), (.int .i64 0), (.string ⟨#[]⟩), (.int .i64 0), (.int .i64 0), (.string ⟨#[]⟩), (.int .i64 0), (.slice none 0 0), (.slice none 0 0), (.slice none 0 0), (.slice none 0 0), (.slice none 0 0)]) := by kernel_rfl
theorem tf_99_0 : tyFld Try.prog 99 0 = some 0 := by kernel_rfl
theorem tf_99_1 : tyFld Try.prog 99 1 = some 5 := by kernel_rfl
theorem tfl_99 : tyFlds Try.prog 99 = some [(0, 5), (5, 11)] := by kernel_rfl
theorem ta_100 : tyAgg Try.prog 100 = some none := by kernel_rfl
theorem ts_100 : (Try.prog.info? 100).map (·.size) = some 1 := by kernel_rfl
theorem tz_100 : tyZero Try.prog 100 = some .nilFunc := by kernel_rfl
theorem ta_102 : tyAgg Try.prog 102 = some none := by kernel_rfl
theorem ts_102 : (Try.prog.info? 102).map (·.size) = some 1 := by kernel_rfl
theorem tz_102 : tyZero Try.prog 102 = some .nilFunc := by kernel_rfl
theorem ta_103 : tyAgg Try.prog 103 = some none := by kernel_rfl
theorem ts_103 : (Try.prog.info? 103).map (·.size) = some 1 := by kernel_rfl
theorem tz_103 : tyZero Try.prog 103 = some .nilFunc := by kernel_rfl
theorem ta_104 : tyAgg Try.prog 104 = some none := by kernel_rfl
theorem ts_104 : (Try.prog.info? 104).map (·.size) = some 1 := by kernel_rfl
theorem tz_104 : tyZero Try.prog 104 = some .nilFunc := by kernel_rfl
theorem ta_105 : tyAgg Try.prog 105 = some none := by kernel_rfl
theorem ts_105 : (Try.prog.info? 105).map (·.size) = some 1 := by kernel_rfl
theorem tz_105 : tyZero Try.prog 105 = some .nilFunc := by kernel_rfl
theorem ta_106 : tyAgg Try.prog 106 = some none := by kernel_rfl
theorem ts_106 : (Try.prog.info? 106).map (·.size) = some 1 := by kernel_rfl
theorem tz_106 : tyZero Try.prog 106 = some .nilFunc := by kernel_rfl
theorem ta_107 : tyAgg Try.prog 107 = some none := by kernel_rfl
theorem ts_107 : (Try.prog.info? 107).map (·.size) = some 1 := by kernel_rfl
theorem tz_107 : tyZero Try.prog 107 = some (.slice none 0 0) := by kernel_rfl
theorem te_107 : tyElem Try.prog 107 = some (3, 1) := by kernel_rfl
theorem el_107 : ElT Try.prog 107 3 (.int .i64 0) 1 8 := ⟨by kernel_rfl, by kernel_rfl, rfl, by decide, by decide⟩
theorem tu_107 : Try.prog.underlying 107 = some (.slice 3) := by kernel_rfl
theorem ta_108 : tyAgg Try.prog 108 = some none := by kernel_rfl
theorem ts_108 : (Try.prog.info? 108).map (·.size) = some 1 := by kernel_rfl
theorem tz_108 : tyZero Try.prog 108 = some .nilFunc := by kernel_rfl
theorem ta_109 : tyAgg Try.prog 109 = some none := by kernel_rfl
theorem ts_109 : (Try.prog.info? 109).map (·.size) = some 1 := by kernel_rfl
theorem tz_109 : tyZero Try.prog 109 = some .nilFunc := by kernel_rfl
theorem ta_110 : tyAgg Try.prog 110 = some (some 20) := by kernel_rfl
theorem ts_110 : (Try.prog.info? 110).map (·.size) = some 20 := by kernel_rfl
theorem tz_110 : tyZero Try.prog 110 = some (.agg #[(.int .u8 0), (.int .u8 0), (.int .u8 0), (.int .u8 0), (.int .u8 0), (.int .u8 0), (.int .u8 0), (.int .u8 0), (.int .u8 0), (.int .u8 0), (.int .u8 0), (.int .u8 0), (.int .u8 0), (.int .u8 0), (.int .u8 0), (.int .u8 0), (.int .u8 0), (.int .u8 0), (.int .u8 0), (.int .u8 0)]) := by kernel_rfl
theorem tu_110 : Try.prog.underlying 110 = some (.array 20 5) := by kernel_rfl
theorem ta_111 : tyAgg Try.prog 111 = some none := by kernel_rfl
theorem ts_111 : (Try.prog.info? 111).map (·.size) = some 1 := by kernel_rfl
theorem tz_111 : tyZero Try.prog 111 = some (.slice none 0 0) := by kernel_rfl
theorem te_111 : tyElem Try.prog 111 = some (5, 1) := by kernel_rfl
theorem el_111 : ElT Try.prog 111 5 (.int .u8 0) 1 1 := ⟨by kernel_rfl, by kernel_rfl, rfl, by decide, by decide⟩
theorem tu_111 : Try.prog.underlying 111 = some (.slice 5) := by kernel_rfl
theorem ta_112 : tyAgg Try.prog 112 = some none := by kernel_rfl
theorem ts_112 : (Try.prog.info? 112).map (·.size) = some 1 := by kernel_rfl
theorem tz_112 : tyZero Try.prog 112 = some .nilFunc := by kernel_rfl
theorem ta_113 : tyAgg Try.prog 113 = some (some 4) := by kernel_rfl
theorem ts_113 : (Try.prog.info? 113).map (·.size) = some 4 := by kernel_rfl
theorem tz_113 : tyZero Try.prog 113 = some (.agg #[(.pointer none), (.pointer none), (.pointer none), (.string ⟨#[]⟩)]) := by kernel_rfl
theorem tf_113_0 : tyFld Try.prog 113 0 = some 0 := by kernel_rfl
theorem tf_113_1 : tyFld Try.prog 113 1 = some 1 := by kernel_rfl
theorem tf_113_2 : tyFld Try.prog 113 2 = some 2 := by kernel_rfl
theorem tf_113_3 : tyFld Try.prog 113 3 = some 3 := by kernel_rfl
theorem tfl_113 : tyFlds Try.prog 113 = some [(0, 1), (1, 1), (2, 1), (3, 1)] := by kernel_rfl
theorem ta_114 : tyAgg Try.prog 114 = some (some 4) := by kernel_rfl
theorem ts_114 : (Try.prog.info? 114).map (·.size) = some 4 := by kernel_rfl
theorem tz_114 : tyZero Try.prog 114 = some (.agg #[(.pointer none), (.pointer none), (.pointer none), (.string ⟨#[]⟩)]) := by kernel_rfl
theorem tf_114_0 : tyFld Try.prog 114 0 = some 0 := by kernel_rfl
theorem tf_114_1 : tyFld Try.prog 114 1 = some 1 := by kernel_rfl
theorem tf_114_2 : tyFld Try.prog 114 2 = some 2 := by kernel_rfl
theorem tf_114_3 : tyFld Try.prog 114 3 = some 3 := by kernel_rfl
theorem tfl_114 : tyFlds Try.prog 114 = some [(0, 1), (1, 1), (2, 1), (3, 1)] := by kernel_rfl
theorem ta_115 : tyAgg Try.prog 115 = some (some 0) := by kernel_rfl
theorem ts_115 : (Try.prog.info? 115).map (·.size) = some 0 := by kernel_rfl
theorem tz_115 : tyZero Try.prog 115 = some (.agg #[]) := by kernel_rfl
theorem tu_115 : Try.prog.underlying 115 = some (.array 0 16) := by kernel_rfl
theorem ta_116 : tyAgg Try.prog 116 = some (some 0) := by kernel_rfl
theorem ts_116 : (Try.prog.info? 116).map (·.size) = some 0 := by kernel_rfl
theorem tz_116 : tyZero Try.prog 116 = some (.agg #[]) := by kernel_rfl
theorem tfl_116 : tyFlds Try.prog 116 = some [(0, 0)] := by kernel_rfl
theorem ta_117 : tyAgg Try.prog 117 = some (some 0) := by kernel_rfl
theorem ts_117 : (Try.prog.info? 117).map (·.size) = some 0 := by kernel_rfl
theorem tz_117 : tyZero Try.prog 117 = some (.agg #[]) := by kernel_rfl
theorem tfl_117 : tyFlds Try.prog 117 = some [(0, 0)] := by kernel_rfl
theorem ta_118 : tyAgg Try.prog 118 = some none := by kernel_rfl
theorem ts_118 : (Try.prog.info? 118).map (·.size) = some 1 := by kernel_rfl
theorem tz_118 : tyZero Try.prog 118 = some .nilFunc := by kernel_rfl
theorem ta_119 : tyAgg Try.prog 119 = some none := by kernel_rfl
theorem ts_119 : (Try.prog.info? 119).map (·.size) = some 1 := by kernel_rfl
theorem tz_119 : tyZero Try.prog 119 = some (.int .u32 0) := by kernel_rfl
theorem tu_119 : Try.prog.underlying 119 = some (.int .u32) := by kernel_rfl
theorem ta_120 : tyAgg Try.prog 120 = some none := by kernel_rfl
theorem ts_120 : (Try.prog.info? 120).map (·.size) = some 1 := by kernel_rfl
theorem tz_120 : tyZero Try.prog 120 = some (.int .u8 0) := by kernel_rfl
theorem tu_120 : Try.prog.underlying 120 = some (.int .u8) := by kernel_rfl
theorem ta_121 : tyAgg Try.prog 121 = some none := by kernel_rfl
theorem ts_121 : (Try.prog.info? 121).map (·.size) = some 1 := by kernel_rfl
theorem tz_121 : tyZero Try.prog 121 = some (.int .u8 0) := by kernel_rfl
theorem tu_121 : Try.prog.underlying 121 = some (.int .u8) := by kernel_rfl
theorem ta_122 : tyAgg Try.prog 122 = some none := by kernel_rfl
theorem ts_122 : (Try.prog.info? 122).map (·.size) = some 1 := by kernel_rfl
theorem tz_122 : tyZero Try.prog 122 = some .nilFunc := by kernel_rfl
theorem ta_123 : tyAgg Try.prog 123 = some none := by kernel_rfl
theorem ts_123 : (Try.prog.info? 123).map (·.size) = some 1 := by kernel_rfl
theorem tz_123 : tyZero Try.prog 123 = some (.pointer none) := by kernel_rfl
theorem tu_123 : Try.prog.underlying 123 = some (.pointer 5) := by kernel_rfl
theorem ta_124 : tyAgg Try.prog 124 = some none := by kernel_rfl
theorem ts_124 : (Try.prog.info? 124).map (·.size) = some 1 := by kernel_rfl
theorem tz_124 : tyZero Try.prog 124 = some (.int .i32 0) := by kernel_rfl
theorem tu_124 : Try.prog.underlying 124 = some (.int .i32) := by kernel_rfl
theorem ta_125 : tyAgg Try.prog 125 = some none := by kernel_rfl
theorem ts_125 : (Try.prog.info? 125).map (·.size) = some 1 := by kernel_rfl
theorem tz_125 : tyZero Try.prog 125 = some (.int .i32 0) := by kernel_rfl
theorem tu_125 : Try.prog.underlying 125 = some (.int .i32) := by kernel_rfl
theorem ta_126 : tyAgg Try.prog 126 = some (some 11) := by kernel_rfl
theorem ts_126 : (Try.prog.info? 126).map (·.size) = some 11 := by kernel_rfl
theorem tz_126 : tyZero Try.prog 126 = some (.agg #[(.int .u64 0), (.int .u64 0), (.int .u32 0), (.int .u8 0), (.int .u8 0), (.int .u8 0), (.int .u8 0), .nilFunc, (.pointer none), (.int .i32 0), (.int .i32 0)]) := by kernel_rfl
theorem tf_126_0 : tyFld Try.prog 126 0 = some 0 := by kernel_rfl
theorem tf_126_1 : tyFld Try.prog 126 1 = some 1 := by kernel_rfl
theorem tf_126_2 : tyFld Try.prog 126 2 = some 2 := by kernel_rfl
theorem tf_126_3 : tyFld Try.prog 126 3 = some 3 := by kernel_rfl
theorem tf_126_4 : tyFld Try.prog 126 4 = some 4 := by kernel_rfl
theorem tf_126_5 : tyFld Try.prog 126 5 = some 5 := by kernel_rfl
theorem tf_126_6 : tyFld Try.prog 126 6 = some 6 := by kernel_rfl
theorem tf_126_7 : tyFld Try.prog 126 7 = some 7 := by kernel_rfl
theorem tf_126_8 : tyFld Try.prog 126 8 = some 8 := by kernel_rfl
theorem tf_126_9 : tyFld Try.prog 126 9 = some 9 := by kernel_rfl
theorem tf_126_10 : tyFld Try.prog 126 10 = some 10 := by kernel_rfl
theorem tfl_126 : tyFlds Try.prog 126 = some [(0, 1), (1, 1), (2, 1), (3, 1), (4, 1), (5, 1), (6, 1), (7, 1), (8, 1), (9, 1), (10, 1)] := by kernel_rfl
theorem ta_127 : tyAgg Try.prog 127 = some (some 11) := by kernel_rfl
theorem ts_127 : (Try.prog.info? 127).map (·.size) = some 11 := by kernel_rfl
theorem tz_127 : tyZero Try.prog 127 = some (.agg #[(.int .u64 0), (.int .u64 0), (.int .u32 0), (.int .u8 0), (.int .u8 0), (.int .u8 0), (.int .u8 0), .nilFunc, (.pointer none), (.int .i32 0), (.int .i32 0)]) := by kernel_rfl
theorem tf_127_0 : tyFld Try.prog 127 0 = some 0 := by kernel_rfl
theorem tf_127_1 : tyFld Try.prog 127 1 = some 1 := by kernel_rfl
theorem tf_127_2 : tyFld Try.prog 127 2 = some 2 := by kernel_rfl
theorem tf_127_3 : tyFld Try.prog 127 3 = some 3 := by kernel_rfl
theorem tf_127_4 : tyFld Try.prog 127 4 = some 4 := by kernel_rfl
theorem tf_127_5 : tyFld Try.prog 127 5 = some 5 := by kernel_rfl
theorem tf_127_6 : tyFld Try.prog 127 6 = some 6 := by kernel_rfl
theorem tf_127_7 : tyFld Try.prog 127 7 = some 7 := by kernel_rfl
theorem tf_127_8 : tyFld Try.prog 127 8 = some 8 := by kernel_rfl
theorem tf_127_9 : tyFld Try.prog 127 9 = some 9 := by kernel_rfl
theorem tf_127_10 : tyFld Try.prog 127 10 = some 10 := by kernel_rfl
theorem tfl_127 : tyFlds Try.prog 127 = some [(0, 1), (1, 1), (2, 1), (3, 1), (4, 1), (5, 1), (6, 1), (7, 1), (8, 1), (9, 1), (10, 1)] := by kernel_rfl
end Go.Proofs.Ytflkdojahfmbnaa
