/- Facts of the seat's types, one by one, by evaluation. -/
import Derived.Test.YtadhakcmfkghbaaProg
import Derived.Test.YtadhakcmfkghbaaAL9
namespace Go.Proofs.Ytadhakcmfkghbaa
theorem tmix : Try.prog.follows .mixedOrders = true := by kernel_rfl
theorem ta_2 : tyAgg Try.prog 2 = some none := by kernel_rfl
theorem tu_2 : Try.prog.underlying 2 = some (.int .i64) := by kernel_rfl
theorem ta_3 : tyAgg Try.prog 3 = some none := by kernel_rfl
theorem ts_3 : (Try.prog.info? 3).map (·.size) = some 1 := by kernel_rfl
theorem tu_3 : Try.prog.underlying 3 = some (.int .i64) := by kernel_rfl
theorem ta_4 : tyAgg Try.prog 4 = some none := by kernel_rfl
theorem ts_4 : (Try.prog.info? 4).map (·.size) = some 1 := by kernel_rfl
theorem tu_4 : Try.prog.underlying 4 = some (.bool) := by kernel_rfl
theorem ta_5 : tyAgg Try.prog 5 = some none := by kernel_rfl
theorem tu_5 : Try.prog.underlying 5 = some (.int .u8) := by kernel_rfl
theorem ta_9 : tyAgg Try.prog 9 = some none := by kernel_rfl
theorem tu_9 : Try.prog.underlying 9 = some (.string) := by kernel_rfl
theorem ta_22 : tyAgg Try.prog 22 = some none := by kernel_rfl
theorem te_22 : tyElem Try.prog 22 = some (46, 7) := by kernel_rfl
theorem el_22 : ElT Try.prog 22 46 (.agg #[(.int .i64 0), (.int .i64 0), (.int .i64 0), (.int .i64 0), (.slice none 0 0), (.slice none 0 0), (.slice none 0 0)]) 7 104 := ⟨by kernel_rfl, by kernel_rfl, rfl, by decide, by decide⟩
theorem tu_22 : Try.prog.underlying 22 = some (.slice 46) := by kernel_rfl
theorem ta_23 : tyAgg Try.prog 23 = some none := by kernel_rfl
theorem te_23 : tyElem Try.prog 23 = some (39, 3) := by kernel_rfl
theorem el_23 : ElT Try.prog 23 39 (.agg #[(.int .i64 0), (.int .i64 0), (.int .i64 0)]) 3 24 := ⟨by kernel_rfl, by kernel_rfl, rfl, by decide, by decide⟩
theorem tu_23 : Try.prog.underlying 23 = some (.slice 39) := by kernel_rfl
theorem ta_24 : tyAgg Try.prog 24 = some none := by kernel_rfl
theorem ts_24 : (Try.prog.info? 24).map (·.size) = some 1 := by kernel_rfl
theorem tz_24 : tyZero Try.prog 24 = some (.slice none 0 0) := by kernel_rfl
theorem te_24 : tyElem Try.prog 24 = some (9, 1) := by kernel_rfl
theorem el_24 : ElT Try.prog 24 9 (.string ⟨#[]⟩) 1 16 := ⟨by kernel_rfl, by kernel_rfl, rfl, by decide, by decide⟩
theorem tu_24 : Try.prog.underlying 24 = some (.slice 9) := by kernel_rfl
theorem ta_26 : tyAgg Try.prog 26 = some (some 6) := by kernel_rfl
theorem ts_26 : (Try.prog.info? 26).map (·.size) = some 6 := by kernel_rfl
theorem tz_26 : tyZero Try.prog 26 = some (.agg #[(.slice none 0 0), (.slice none 0 0), (.slice none 0 0), (.int .i64 0), (.int .i64 0), (.int .i64 0)]) := by kernel_rfl
theorem tf_26_0 : tyFld Try.prog 26 0 = some 0 := by kernel_rfl
theorem tf_26_1 : tyFld Try.prog 26 1 = some 1 := by kernel_rfl
theorem tf_26_2 : tyFld Try.prog 26 2 = some 2 := by kernel_rfl
theorem tf_26_3 : tyFld Try.prog 26 3 = some 3 := by kernel_rfl
theorem tf_26_4 : tyFld Try.prog 26 4 = some 4 := by kernel_rfl
theorem tf_26_5 : tyFld Try.prog 26 5 = some 5 := by kernel_rfl
theorem tfl_26 : tyFlds Try.prog 26 = some [(0, 1), (1, 1), (2, 1), (3, 1), (4, 1), (5, 1)] := by kernel_rfl
theorem ta_31 : tyAgg Try.prog 31 = some none := by kernel_rfl
theorem ts_31 : (Try.prog.info? 31).map (·.size) = some 1 := by kernel_rfl
theorem te_31 : tyElem Try.prog 31 = some (5, 1) := by kernel_rfl
theorem el_31 : ElT Try.prog 31 5 (.int .u8 0) 1 1 := ⟨by kernel_rfl, by kernel_rfl, rfl, by decide, by decide⟩
theorem tu_31 : Try.prog.underlying 31 = some (.slice 5) := by kernel_rfl
theorem ta_39 : tyAgg Try.prog 39 = some (some 3) := by kernel_rfl
theorem ts_39 : (Try.prog.info? 39).map (·.size) = some 3 := by kernel_rfl
theorem tz_39 : tyZero Try.prog 39 = some (.agg #[(.int .i64 0), (.int .i64 0), (.int .i64 0)]) := by kernel_rfl
theorem tf_39_0 : tyFld Try.prog 39 0 = some 0 := by kernel_rfl
theorem tf_39_1 : tyFld Try.prog 39 1 = some 1 := by kernel_rfl
theorem tf_39_2 : tyFld Try.prog 39 2 = some 2 := by kernel_rfl
theorem tfl_39 : tyFlds Try.prog 39 = some [(0, 1), (1, 1), (2, 1)] := by kernel_rfl
theorem ta_41 : tyAgg Try.prog 41 = some (some 2) := by kernel_rfl
theorem ts_41 : (Try.prog.info? 41).map (·.size) = some 2 := by kernel_rfl
theorem tz_41 : tyZero Try.prog 41 = some (.agg #[(.int .i64 0), (.int .i64 0)]) := by kernel_rfl
theorem tf_41_0 : tyFld Try.prog 41 0 = some 0 := by kernel_rfl
theorem tf_41_1 : tyFld Try.prog 41 1 = some 1 := by kernel_rfl
theorem tfl_41 : tyFlds Try.prog 41 = some [(0, 1), (1, 1)] := by kernel_rfl
theorem ta_42 : tyAgg Try.prog 42 = some none := by kernel_rfl
theorem te_42 : tyElem Try.prog 42 = some (41, 2) := by kernel_rfl
theorem el_42 : ElT Try.prog 42 41 (.agg #[(.int .i64 0), (.int .i64 0)]) 2 16 := ⟨by kernel_rfl, by kernel_rfl, rfl, by decide, by decide⟩
theorem tu_42 : Try.prog.underlying 42 = some (.slice 41) := by kernel_rfl
theorem ta_43 : tyAgg Try.prog 43 = some none := by kernel_rfl
theorem te_43 : tyElem Try.prog 43 = some (3, 1) := by kernel_rfl
theorem tu_43 : Try.prog.underlying 43 = some (.slice 3) := by kernel_rfl
theorem ta_44 : tyAgg Try.prog 44 = some none := by kernel_rfl
theorem te_44 : tyElem Try.prog 44 = some (42, 1) := by kernel_rfl
theorem tu_44 : Try.prog.underlying 44 = some (.slice 42) := by kernel_rfl
theorem ta_46 : tyAgg Try.prog 46 = some (some 7) := by kernel_rfl
theorem ts_46 : (Try.prog.info? 46).map (·.size) = some 7 := by kernel_rfl
theorem tz_46 : tyZero Try.prog 46 = some (.agg #[(.int .i64 0), (.int .i64 0), (.int .i64 0), (.int .i64 0), (.slice none 0 0), (.slice none 0 0), (.slice none 0 0)]) := by kernel_rfl
theorem tf_46_0 : tyFld Try.prog 46 0 = some 0 := by kernel_rfl
theorem tf_46_1 : tyFld Try.prog 46 1 = some 1 := by kernel_rfl
theorem tf_46_2 : tyFld Try.prog 46 2 = some 2 := by kernel_rfl
theorem tf_46_3 : tyFld Try.prog 46 3 = some 3 := by kernel_rfl
theorem tf_46_4 : tyFld Try.prog 46 4 = some 4 := by kernel_rfl
theorem tf_46_5 : tyFld Try.prog 46 5 = some 5 := by kernel_rfl
theorem tf_46_6 : tyFld Try.prog 46 6 = some 6 := by kernel_rfl
theorem tfl_46 : tyFlds Try.prog 46 = some [(0, 1), (1, 1), (2, 1), (3, 1), (4, 1), (5, 1), (6, 1)] := by kernel_rfl
theorem ta_49 : tyAgg Try.prog 49 = some none := by kernel_rfl
theorem ta_50 : tyAgg Try.prog 50 = some none := by kernel_rfl
theorem te_50 : tyElem Try.prog 50 = some (89, 9) := by kernel_rfl
theorem el_50 : ElT Try.prog 50 89 (.agg #[(.string ⟨#[]⟩), (.int .i64 0), (.int .i64 0), (.slice none 0 0), (.slice none 0 0), (.int .i64 0), (.string ⟨#[]⟩), (.int .i64 0), (.slice none 0 0)]) 9 136 := ⟨by kernel_rfl, by kernel_rfl, rfl, by decide, by decide⟩
theorem tu_50 : Try.prog.underlying 50 = some (.slice 89) := by kernel_rfl
theorem ta_53 : tyAgg Try.prog 53 = some (some 12) := by kernel_rfl
theorem ts_53 : (Try.prog.info? 53).map (·.size) = some 12 := by kernel_rfl
theorem tz_53 : tyZero Try.prog 53 = some (.agg #[(.slice none 0 0), (.slice none 0 0), (.slice none 0 0), (.int .i64 0), (.int .i64 0), (.int .i64 0), (.int .i64 0), (.int .i64 0), (.int .i64 0), (.int .i64 0), (.int .i64 0), (.slice none 0 0)]) := by kernel_rfl
theorem tf_53_0 : tyFld Try.prog 53 0 = some 0 := by kernel_rfl
theorem tf_53_1 : tyFld Try.prog 53 1 = some 6 := by kernel_rfl
theorem tf_53_2 : tyFld Try.prog 53 2 = some 9 := by kernel_rfl
theorem tf_53_3 : tyFld Try.prog 53 3 = some 10 := by kernel_rfl
theorem tf_53_4 : tyFld Try.prog 53 4 = some 11 := by kernel_rfl
theorem tfl_53 : tyFlds Try.prog 53 = some [(0, 6), (6, 3), (9, 1), (10, 1), (11, 1)] := by kernel_rfl
theorem ta_55 : tyAgg Try.prog 55 = some none := by kernel_rfl
theorem ta_57 : tyAgg Try.prog 57 = some none := by kernel_rfl
theorem ts_57 : (Try.prog.info? 57).map (·.size) = some 1 := by kernel_rfl
theorem tz_57 : tyZero Try.prog 57 = some .nilFunc := by kernel_rfl
theorem tz_66 : tyZero Try.prog 66 = some (.agg #[(.slice none 0 0)]) := by kernel_rfl
theorem tf_66_0 : tyFld Try.prog 66 0 = some 0 := by kernel_rfl
theorem tfl_66 : tyFlds Try.prog 66 = some [(0, 1)] := by kernel_rfl
theorem ta_75 : tyAgg Try.prog 75 = some none := by kernel_rfl
theorem te_75 : tyElem Try.prog 75 = some (77, 4) := by kernel_rfl
theorem el_75 : ElT Try.prog 75 77 (.agg #[(.int .i64 0), (.string ⟨#[]⟩), (.int .i64 0), (.slice none 0 0)]) 4 56 := ⟨by kernel_rfl, by kernel_rfl, rfl, by decide, by decide⟩
theorem tu_75 : Try.prog.underlying 75 = some (.slice 77) := by kernel_rfl
theorem ta_77 : tyAgg Try.prog 77 = some (some 4) := by kernel_rfl
theorem ts_77 : (Try.prog.info? 77).map (·.size) = some 4 := by kernel_rfl
theorem tz_77 : tyZero Try.prog 77 = some (.agg #[(.int .i64 0), (.string ⟨#[]⟩), (.int .i64 0), (.slice none 0 0)]) := by kernel_rfl
theorem tf_77_0 : tyFld Try.prog 77 0 = some 0 := by kernel_rfl
theorem tf_77_1 : tyFld Try.prog 77 1 = some 1 := by kernel_rfl
theorem tf_77_3 : tyFld Try.prog 77 3 = some 3 := by kernel_rfl
theorem tfl_77 : tyFlds Try.prog 77 = some [(0, 1), (1, 1), (2, 1), (3, 1)] := by kernel_rfl
theorem ta_79 : tyAgg Try.prog 79 = some (some 5) := by kernel_rfl
theorem ts_79 : (Try.prog.info? 79).map (·.size) = some 5 := by kernel_rfl
theorem tz_79 : tyZero Try.prog 79 = some (.agg #[(.string ⟨#[]⟩), (.int .i64 0), (.string ⟨#[]⟩), (.int .i64 0), (.slice none 0 0)]) := by kernel_rfl
theorem tf_79_0 : tyFld Try.prog 79 0 = some 0 := by kernel_rfl
theorem tf_79_1 : tyFld Try.prog 79 1 = some 1 := by kernel_rfl
theorem tfl_79 : tyFlds Try.prog 79 = some [(0, 1), (1, 4)] := by kernel_rfl
theorem ta_80 : tyAgg Try.prog 80 = some (some 85) := by kernel_rfl
theorem ts_80 : (Try.prog.info? 80).map (·.size) = some 85 := by kernel_rfl
theorem tz_80 : tyZero Try.prog 80 = some (.agg #[(.string ⟨#[]⟩), (.int .i64 0), (.string ⟨#[]⟩), (.int .i64 0), (.slice none 0 0), (.string ⟨#[]⟩), (.int .i64 0), (.string ⟨#[]⟩), (.int .i64 0), (.slice none 0 0), (.string ⟨#[]⟩), (.int .i64 0), (.string ⟨#[]⟩), (.int .i64 0), (.slice none 0 0), (.string ⟨#[]⟩), (.int .i64 0), (.string ⟨#[]⟩), (.int .i64 0), (.slice none 0 0), (.string ⟨#[]⟩), (.int .i64 0), (.string ⟨#[]⟩), (.int .i64 0), (.slice none 0 0), (.string ⟨#[]⟩), (.int .i64 0), (.string ⟨#[]⟩), (.int .i64 0), (.slice none 0 0), (.string ⟨#[]⟩), (.int .i64 0), (.string ⟨#[]⟩), (.int .i64 0), (.slice none 0 0), (.string ⟨#[]⟩), (.int .i64 0), (.string ⟨#[]⟩), (.int .i64 0), (.slice none 0 0), (.string ⟨#[]⟩), (.int .i64 0), (.string ⟨#[]⟩), (.int .i64 0), (.slice none 0 0), (.string ⟨#[]⟩), (.int .i64 0), (.string ⟨#[]⟩), (.int .i64 0), (.slice none 0 0), (.string ⟨#[]⟩), (.int .i64 0), (.string ⟨#[]⟩), (.int .i64 0), (.slice none 0 0), (.string ⟨#[]⟩), (.int .i64 0), (.string ⟨#[]⟩), (.int .i64 0), (.slice none 0 0), (.string ⟨#[]⟩), (.int .i64 0), (.string ⟨#[]⟩), (.int .i64 0), (.slice none 0 0), (.string ⟨#[]⟩), (.int .i64 0), (.string ⟨#[]⟩), (.int .i64 0), (.slice none 0 0), (.string ⟨#[]⟩), (.int .i64 0), (.string ⟨#[]⟩), (.int .i64 0), (.slice none 0 0), (.string ⟨#[]⟩), (.int .i64 0), (.string ⟨#[]⟩), (.int .i64 0), (.slice none 0 0), (.string ⟨#[]⟩), (.int .i64 0), (.string ⟨#[]⟩), (.int .i64 0), (.slice none 0 0)]) := by kernel_rfl
theorem tu_80 : Try.prog.underlying 80 = some (.array 17 79) := by kernel_rfl
theorem tz_87 : tyZero Try.prog 87 = some (.agg #[(.slice none 0 0), (.slice none 0 0), (.int .i64 0), (.string ⟨#[]⟩), (.int .i64 0), (.slice none 0 0)]) := by kernel_rfl
theorem tfl_87 : tyFlds Try.prog 87 = some [(0, 1), (1, 1), (2, 4)] := by kernel_rfl
theorem tz_89 : tyZero Try.prog 89 = some (.agg #[(.string ⟨#[]⟩), (.int .i64 0), (.int .i64 0), (.slice none 0 0), (.slice none 0 0), (.int .i64 0), (.string ⟨#[]⟩), (.int .i64 0), (.slice none 0 0)]) := by kernel_rfl
theorem tf_89_2 : tyFld Try.prog 89 2 = some 2 := by kernel_rfl
theorem tfl_89 : tyFlds Try.prog 89 = some [(0, 1), (1, 1), (2, 1), (3, 6)] := by kernel_rfl
theorem ta_91 : tyAgg Try.prog 91 = some (some 5) := by kernel_rfl
theorem ts_91 : (Try.prog.info? 91).map (·.size) = some 5 := by kernel_rfl
theorem tz_91 : tyZero Try.prog 91 = some (.agg #[(.bool false), (.bool false), (.bool false), (.bool false), (.int .i64 0)]) := by kernel_rfl
theorem tf_91_0 : tyFld Try.prog 91 0 = some 0 := by kernel_rfl
theorem tf_91_1 : tyFld Try.prog 91 1 = some 1 := by kernel_rfl
theorem tf_91_2 : tyFld Try.prog 91 2 = some 2 := by kernel_rfl
theorem tf_91_3 : tyFld Try.prog 91 3 = some 3 := by kernel_rfl
theorem tf_91_4 : tyFld Try.prog 91 4 = some 4 := by kernel_rfl
theorem ta_96 : tyAgg Try.prog 96 = some none := by kernel_rfl
theorem tu_102 : Try.prog.underlying 102 = some (.int .u64) := by kernel_rfl
end Go.Proofs.Ytadhakcmfkghbaa
