/- TypesMatch: matching is the document's, and so are the names of variables. No condition. -/
import Derived.Test.YtjgjnheeohfmmaaChecked
import Derived.Test.YtjgjnheeohfmmaaRows
import Derived.Test.YtjgjnheeohfmmaaT08
import Derived.Test.YtjgjnheeohfmmaaB08k
import Derived.Test.YtjgjnheeohfmmaaB08r
import Derived.Test.YtjgjnheeohfmmaaB01r
namespace Go.Proofs.Ytjgjnheeohfmmaa
open Go.ChangeShapes Go.WideShapes Go.ChangeAt Go.RowKit
theorem match_facts (t u : Ty) (h1 : t.small 100 = true) (h2 : u.small 100 = true) : ∃ (vs : List ByteArray) (us : List Ty) (c : Bool), PCall Try.prog 14 [.agg t.cells, .agg u.cells] (.tup [.seq 1 (strs vs), .seq 4 (Ty.cellss us), .val (.bool c)]) ∧ PCall Try.prog 15 [.agg t.cells, .agg u.cells] (.tup [.seq 1 (strs vs), .seq 4 (Ty.cellss us), .val (.bool c)]) := by
  obtain ⟨hs, hv⟩ := Ty.small_size (by omega) h1
  obtain ⟨hs2, _⟩ := Ty.small_size (by omega) h2
  have A := Match_c t u hv (by omega) (by omega)
  have B := rMatch_c t u hv (by omega)
  cases hm : mt ([], []) t u with
  | none =>
    refine ⟨[], [], false, A.mono ?_, B.mono ?_⟩ <;>
    · rintro v M' ⟨rfl, h⟩
      rcases h with ⟨st, e, rfl⟩ | ⟨e, rfl⟩
      · rw [hm] at e; cases e
      · exact ⟨rfl, rfl⟩
  | some st =>
    refine ⟨st.1, st.2, true, A.mono ?_, B.mono ?_⟩ <;>
    · rintro v M' ⟨rfl, h⟩
      rcases h with ⟨st, e, rfl⟩ | ⟨e, rfl⟩
      · rw [hm] at e; cases e; exact ⟨rfl, rfl⟩
      · rw [hm] at e; cases e
set_option maxRecDepth 100000 in
theorem TypesMatch_c (t u : Ty) (x : Int) (hx : x ≤ 9223372036854775807) : ACall Try.prog 3 [.agg t.cells, .agg u.cells, .val (.int .i64 x)] [] (fun v _ => v = .val (.bool true)) := by
  have HF := match_facts t u
  have HSm := Small_c t 100 (by omega) (by omega)
  have HSn := Small_c u 100 (by omega) (by omega)
  have HL := Letter_c x hx
  have HR := rLetter_c x hx
  generalize letter x = lx at HL HR
  generalize t.small 100 = bt at HF HSm
  generalize u.small 100 = bu at HF HSn
  obtain ⟨k, s, n, ks⟩ := t
  obtain ⟨k2, s2, n2, ks2⟩ := u
  refine ACall.enter Try.func3 rfl (by kernel_rfl) rfl (Nat.le_of_ble_eq_true rfl) ?_
  refine c_start ?_
  refine c_seq ?_
  refine c_region ?_
  refine AOps.st 3 rfl rfl rfl (op_box rfl rfl rfl ?_); intro b3
  refine AOps.st 4 rfl rfl rfl (op_box rfl rfl rfl ?_); intro b4
  refine AOps.st 6 rfl rfl rfl (op_assign rfl rfl ?_)
  refine AOps.nil ?_
  refine go_code ?_
  refine c_seq ?_
  refine c_seq ?_
  refine c_region ?_
  refine AOps.st 13 rfl rfl rfl (op_callp (xs := []) rfl rfl (awake08_c) (by first | exact Les.refl _ | (repeat' (first | exact Les.refl _ | refine Les.cons ?_ ?_ | exact Le.refl _ | exact Le.own _ _ _ | exact Le.nil _ | refine Le.agg ?_))) ?_)
  refine AOps.st 14 rfl rfl rfl (op_notc rfl rfl ?_); intro c14 h14
  try replace h14 := nott h14 h13
  refine AOps.nil ?_
  refine go_code ?_
  rcases bool_split h14 with ⟨rfl, g14⟩ | ⟨rfl, g14⟩
  · refine c_cond_f rfl ?_
    refine c_skip ?_
    refine go_code ?_
    refine c_seq ?_
    refine c_seq ?_
    refine c_bool 22 (¬ bt = true ∨ ¬ bu = true) ?_ _ _ rfl ?_
    · skip
      first | (refine AOps.st 15 rfl rfl rfl (op_load_m (i := 0) rfl ta_24 rfl rfl rfl rfl ?_)) | (refine AOps.st 15 rfl rfl rfl (op_load_m (i := 1) rfl ta_24 rfl rfl rfl rfl ?_)) | (refine AOps.st 15 rfl rfl rfl (op_load_m (i := 2) rfl ta_24 rfl rfl rfl rfl ?_)) | (refine AOps.st 15 rfl rfl rfl (op_load_m (i := 3) rfl ta_24 rfl rfl rfl rfl ?_)) | (refine AOps.st 15 rfl rfl rfl (op_load_m (i := 4) rfl ta_24 rfl rfl rfl rfl ?_)) | (refine AOps.st 15 rfl rfl rfl (op_load_m (i := 5) rfl ta_24 rfl rfl rfl rfl ?_)) | (refine AOps.st 15 rfl rfl rfl (op_load_c rfl ta_24 rfl rfl rfl ?_))
      refine AOps.st 16 rfl rfl rfl (op_callb (xs := [.tmp 15, .const (.int .i64 100)]) rfl rfl (HSm) (by first | exact Les.refl _ | (repeat' (first | exact Les.refl _ | refine Les.cons ?_ ?_ | exact Le.refl _ | exact Le.own _ _ _ | exact Le.nil _ | refine Le.agg ?_))) ?_); intro c16 h16
      refine AOps.st 17 rfl rfl rfl (op_notc rfl rfl ?_); intro c17 h17
      try replace h17 := nott h17 h16
      refine AOps.st 18 rfl rfl rfl (op_move rfl rfl ?_)
      rcases bool_split h17 with ⟨rfl, g17⟩ | ⟨rfl, g17⟩
      · skip
        first | (refine AOps.gt 19 rfl rfl rfl rfl rfl (op_load_m (i := 0) rfl ta_24 rfl rfl rfl rfl ?_)) | (refine AOps.gt 19 rfl rfl rfl rfl rfl (op_load_m (i := 1) rfl ta_24 rfl rfl rfl rfl ?_)) | (refine AOps.gt 19 rfl rfl rfl rfl rfl (op_load_m (i := 2) rfl ta_24 rfl rfl rfl rfl ?_)) | (refine AOps.gt 19 rfl rfl rfl rfl rfl (op_load_m (i := 3) rfl ta_24 rfl rfl rfl rfl ?_)) | (refine AOps.gt 19 rfl rfl rfl rfl rfl (op_load_m (i := 4) rfl ta_24 rfl rfl rfl rfl ?_)) | (refine AOps.gt 19 rfl rfl rfl rfl rfl (op_load_m (i := 5) rfl ta_24 rfl rfl rfl rfl ?_)) | (refine AOps.gt 19 rfl rfl rfl rfl rfl (op_load_c rfl ta_24 rfl rfl rfl ?_))
        refine AOps.gt 20 rfl rfl rfl rfl rfl (op_callb (xs := [.tmp 19, .const (.int .i64 100)]) rfl rfl (HSn) (by first | exact Les.refl _ | (repeat' (first | exact Les.refl _ | refine Les.cons ?_ ?_ | exact Le.refl _ | exact Le.own _ _ _ | exact Le.nil _ | refine Le.agg ?_))) ?_); intro c20 h20
        refine AOps.gt 21 rfl rfl rfl rfl rfl (op_notc rfl rfl ?_); intro c21 h21
        try replace h21 := nott h21 h20
        refine AOps.st 22 rfl rfl rfl (op_pick rfl rfl rfl ?_)
        refine AOps.nil ?_
        refine BoolQ.mk rfl ?_ (by repeat' (first | exact SLe.wo _ _ | exact SLe.refl _ | refine SLe.fresh rfl ?_)) (by first | exact MLe.none _ | exact MLe.refl _ | (repeat' (first | exact MLe.nil | exact MLe.refl _ | refine MLe.cons _ ?_ | refine MLe.drop _ ?_)))
        clear HF HSm HSn
        simp_all
      · skip
        refine AOps.gf 19 rfl rfl rfl rfl rfl ?_
        refine AOps.gf 20 rfl rfl rfl rfl rfl ?_
        refine AOps.gf 21 rfl rfl rfl rfl rfl ?_
        refine AOps.st 22 rfl rfl rfl (op_pick rfl rfl rfl ?_)
        refine AOps.nil ?_
        refine BoolQ.mk rfl ?_ (by repeat' (first | exact SLe.wo _ _ | exact SLe.refl _ | refine SLe.fresh rfl ?_)) (by first | exact MLe.none _ | exact MLe.refl _ | (repeat' (first | exact MLe.nil | exact MLe.refl _ | refine MLe.cons _ ?_ | refine MLe.drop _ ?_)))
        clear HF HSm HSn
        simp_all
    intro c22 h22
    refine go_code ?_
    rcases bool_split h22 with ⟨rfl, g22⟩ | ⟨rfl, g22⟩
    · refine c_cond_f rfl ?_
      refine c_skip ?_
      refine go_code ?_
      refine c_seq ?_
      have hbt : bt = true := Classical.not_not.1 (fun q => g22 (Or.inl q))
      have hbu : bu = true := Classical.not_not.1 (fun q => g22 (Or.inr q))
      obtain ⟨vs, us, cc, HM, HQ⟩ := HF hbt hbu
      clear HF HSm HSn
      refine c_region ?_
      first | (refine AOps.st 24 rfl rfl rfl (op_load_m (i := 0) rfl ta_24 rfl rfl rfl rfl ?_)) | (refine AOps.st 24 rfl rfl rfl (op_load_m (i := 1) rfl ta_24 rfl rfl rfl rfl ?_)) | (refine AOps.st 24 rfl rfl rfl (op_load_m (i := 2) rfl ta_24 rfl rfl rfl rfl ?_)) | (refine AOps.st 24 rfl rfl rfl (op_load_m (i := 3) rfl ta_24 rfl rfl rfl rfl ?_)) | (refine AOps.st 24 rfl rfl rfl (op_load_m (i := 4) rfl ta_24 rfl rfl rfl rfl ?_)) | (refine AOps.st 24 rfl rfl rfl (op_load_m (i := 5) rfl ta_24 rfl rfl rfl rfl ?_)) | (refine AOps.st 24 rfl rfl rfl (op_load_c rfl ta_24 rfl rfl rfl ?_))
      first | (refine AOps.st 25 rfl rfl rfl (op_load_m (i := 0) rfl ta_24 rfl rfl rfl rfl ?_)) | (refine AOps.st 25 rfl rfl rfl (op_load_m (i := 1) rfl ta_24 rfl rfl rfl rfl ?_)) | (refine AOps.st 25 rfl rfl rfl (op_load_m (i := 2) rfl ta_24 rfl rfl rfl rfl ?_)) | (refine AOps.st 25 rfl rfl rfl (op_load_m (i := 3) rfl ta_24 rfl rfl rfl rfl ?_)) | (refine AOps.st 25 rfl rfl rfl (op_load_m (i := 4) rfl ta_24 rfl rfl rfl rfl ?_)) | (refine AOps.st 25 rfl rfl rfl (op_load_m (i := 5) rfl ta_24 rfl rfl rfl rfl ?_)) | (refine AOps.st 25 rfl rfl rfl (op_load_c rfl ta_24 rfl rfl rfl ?_))
      refine AOps.st 26 rfl rfl rfl (op_callp (xs := [.tmp 24, .tmp 25]) rfl rfl (HM) (by first | exact Les.refl _ | (repeat' (first | exact Les.refl _ | refine Les.cons ?_ ?_ | exact Le.refl _ | exact Le.own _ _ _ | exact Le.nil _ | refine Le.agg ?_))) ?_)
      refine AOps.st 23 rfl rfl rfl (op_move rfl rfl ?_)
      refine AOps.st 27 rfl rfl rfl (op_extract rfl rfl rfl ?_)
      refine AOps.st 28 rfl rfl rfl (op_extract rfl rfl rfl ?_)
      refine AOps.st 29 rfl rfl rfl (op_extract rfl rfl rfl ?_)
      refine AOps.st 7 rfl rfl rfl (op_assign rfl rfl ?_)
      refine AOps.st 8 rfl rfl rfl (op_assign rfl rfl ?_)
      refine AOps.st 9 rfl rfl rfl (op_assign rfl rfl ?_)
      refine AOps.nil ?_
      refine go_code ?_
      refine c_seq ?_
      refine c_region ?_
      first | (refine AOps.st 31 rfl rfl rfl (op_load_m (i := 0) rfl ta_24 rfl rfl rfl rfl ?_)) | (refine AOps.st 31 rfl rfl rfl (op_load_m (i := 1) rfl ta_24 rfl rfl rfl rfl ?_)) | (refine AOps.st 31 rfl rfl rfl (op_load_m (i := 2) rfl ta_24 rfl rfl rfl rfl ?_)) | (refine AOps.st 31 rfl rfl rfl (op_load_m (i := 3) rfl ta_24 rfl rfl rfl rfl ?_)) | (refine AOps.st 31 rfl rfl rfl (op_load_m (i := 4) rfl ta_24 rfl rfl rfl rfl ?_)) | (refine AOps.st 31 rfl rfl rfl (op_load_m (i := 5) rfl ta_24 rfl rfl rfl rfl ?_)) | (refine AOps.st 31 rfl rfl rfl (op_load_c rfl ta_24 rfl rfl rfl ?_))
      first | (refine AOps.st 32 rfl rfl rfl (op_load_m (i := 0) rfl ta_24 rfl rfl rfl rfl ?_)) | (refine AOps.st 32 rfl rfl rfl (op_load_m (i := 1) rfl ta_24 rfl rfl rfl rfl ?_)) | (refine AOps.st 32 rfl rfl rfl (op_load_m (i := 2) rfl ta_24 rfl rfl rfl rfl ?_)) | (refine AOps.st 32 rfl rfl rfl (op_load_m (i := 3) rfl ta_24 rfl rfl rfl rfl ?_)) | (refine AOps.st 32 rfl rfl rfl (op_load_m (i := 4) rfl ta_24 rfl rfl rfl rfl ?_)) | (refine AOps.st 32 rfl rfl rfl (op_load_m (i := 5) rfl ta_24 rfl rfl rfl rfl ?_)) | (refine AOps.st 32 rfl rfl rfl (op_load_c rfl ta_24 rfl rfl rfl ?_))
      refine AOps.st 33 rfl rfl rfl (op_callp (xs := [.tmp 31, .tmp 32]) rfl rfl (HQ) (by first | exact Les.refl _ | (repeat' (first | exact Les.refl _ | refine Les.cons ?_ ?_ | exact Le.refl _ | exact Le.own _ _ _ | exact Le.nil _ | refine Le.agg ?_))) ?_)
      refine AOps.st 30 rfl rfl rfl (op_move rfl rfl ?_)
      refine AOps.st 34 rfl rfl rfl (op_extract rfl rfl rfl ?_)
      refine AOps.st 35 rfl rfl rfl (op_extract rfl rfl rfl ?_)
      refine AOps.st 36 rfl rfl rfl (op_extract rfl rfl rfl ?_)
      refine AOps.st 10 rfl rfl rfl (op_assign rfl rfl ?_)
      refine AOps.st 11 rfl rfl rfl (op_assign rfl rfl ?_)
      refine AOps.st 12 rfl rfl rfl (op_assign rfl rfl ?_)
      refine AOps.nil ?_
      refine go_code ?_
      refine c_seq ?_
      refine c_bool 6 (True) ?_ _ _ rfl ?_
      · skip
        refine AOps.st 37 rfl rfl rfl (op_move rfl rfl ?_)
        refine AOps.st 38 rfl rfl rfl (op_move rfl rfl ?_)
        refine AOps.st 39 rfl rfl rfl (op_beqlc rfl tu_4 rfl rfl ?_); intro c39 h39
        refine AOps.st 40 rfl rfl rfl (op_move rfl rfl ?_)
        rcases bool_split h39 with ⟨rfl, g39⟩ | ⟨rfl, g39⟩
        · skip
          refine AOps.gf 41 rfl rfl rfl rfl rfl ?_
          refine AOps.gf 42 rfl rfl rfl rfl rfl ?_
          refine AOps.gf 43 rfl rfl rfl rfl rfl ?_
          refine AOps.st 44 rfl rfl rfl (op_pick rfl rfl rfl ?_)
          refine AOps.st 45 rfl rfl rfl (op_move rfl rfl ?_)
          refine AOps.gf 46 rfl rfl rfl rfl rfl ?_
          refine AOps.gf 47 rfl rfl rfl rfl rfl ?_
          refine AOps.gf 48 rfl rfl rfl rfl rfl ?_
          refine AOps.st 49 rfl rfl rfl (op_pick rfl rfl rfl ?_)
          refine AOps.st 50 rfl rfl rfl (op_move rfl rfl ?_)
          refine AOps.gf 51 rfl rfl rfl rfl rfl ?_
          refine AOps.gf 52 rfl rfl rfl rfl rfl ?_
          refine AOps.gf 53 rfl rfl rfl rfl rfl ?_
          refine AOps.gf 54 rfl rfl rfl rfl rfl ?_
          refine AOps.gf 55 rfl rfl rfl rfl rfl ?_
          refine AOps.st 56 rfl rfl rfl (op_pick rfl rfl rfl ?_)
          refine AOps.st 6 rfl rfl rfl (op_assign rfl rfl ?_)
          refine AOps.nil ?_
          refine BoolQ.mk rfl ?_ (by repeat' (first | exact SLe.wo _ _ | exact SLe.refl _ | refine SLe.fresh rfl ?_)) (by first | exact MLe.none _ | exact MLe.refl _ | (repeat' (first | exact MLe.nil | exact MLe.refl _ | refine MLe.cons _ ?_ | refine MLe.drop _ ?_)))
          first | exact absurd rfl g39 | exact iff_t trivial | exact ⟨fun _ => trivial, fun _ => h55.2 rfl⟩ | (exfalso; simp_all; done)
        · skip
          refine AOps.gt 41 rfl rfl rfl rfl rfl (op_move rfl rfl ?_)
          refine AOps.gt 42 rfl rfl rfl rfl rfl (op_move rfl rfl ?_)
          refine AOps.gt 43 rfl rfl rfl rfl rfl (op_callp (xs := [.tmp 41, .tmp 42]) rfl rfl ((Texts_c vs vs).yes rfl) (by first | exact Les.refl _ | (repeat' (first | exact Les.refl _ | refine Les.cons ?_ ?_ | exact Le.refl _ | exact Le.own _ _ _ | exact Le.nil _ | refine Le.agg ?_))) ?_)
          refine AOps.st 44 rfl rfl rfl (op_pick rfl rfl rfl ?_)
          refine AOps.st 45 rfl rfl rfl (op_move rfl rfl ?_)
          refine AOps.gt 46 rfl rfl rfl rfl rfl (op_move rfl rfl ?_)
          refine AOps.gt 47 rfl rfl rfl rfl rfl (op_move rfl rfl ?_)
          refine AOps.gt 48 rfl rfl rfl rfl rfl (op_callp (xs := [.tmp 46, .tmp 47]) rfl rfl ((SameTypes_c us us).yes rfl) (by first | exact Les.refl _ | (repeat' (first | exact Les.refl _ | refine Les.cons ?_ ?_ | exact Le.refl _ | exact Le.own _ _ _ | exact Le.nil _ | refine Le.agg ?_))) ?_)
          refine AOps.st 49 rfl rfl rfl (op_pick rfl rfl rfl ?_)
          refine AOps.st 50 rfl rfl rfl (op_move rfl rfl ?_)
          refine AOps.gt 51 rfl rfl rfl rfl rfl (op_move rfl rfl ?_)
          refine AOps.gt 52 rfl rfl rfl rfl rfl (op_callp (xs := [.tmp 51]) rfl rfl (HL) (by first | exact Les.refl _ | (repeat' (first | exact Les.refl _ | refine Les.cons ?_ ?_ | exact Le.refl _ | exact Le.own _ _ _ | exact Le.nil _ | refine Le.agg ?_))) ?_)
          refine AOps.gt 53 rfl rfl rfl rfl rfl (op_move rfl rfl ?_)
          refine AOps.gt 54 rfl rfl rfl rfl rfl (op_callp (xs := [.tmp 53]) rfl rfl (HR) (by first | exact Les.refl _ | (repeat' (first | exact Les.refl _ | refine Les.cons ?_ ?_ | exact Le.refl _ | exact Le.own _ _ _ | exact Le.nil _ | refine Le.agg ?_))) ?_)
          refine AOps.gt 55 rfl rfl rfl rfl rfl (op_seql rfl rfl rfl ?_); intro c55 h55
          refine AOps.st 56 rfl rfl rfl (op_pick rfl rfl rfl ?_)
          refine AOps.st 6 rfl rfl rfl (op_assign rfl rfl ?_)
          refine AOps.nil ?_
          refine BoolQ.mk rfl ?_ (by repeat' (first | exact SLe.wo _ _ | exact SLe.refl _ | refine SLe.fresh rfl ?_)) (by first | exact MLe.none _ | exact MLe.refl _ | (repeat' (first | exact MLe.nil | exact MLe.refl _ | refine MLe.cons _ ?_ | refine MLe.drop _ ?_)))
          first | exact absurd rfl g39 | exact iff_t trivial | exact ⟨fun _ => trivial, fun _ => h55.2 rfl⟩ | (exfalso; simp_all; done)
      intro c6 h6
      refine go_code ?_
      refine c_ret ?_
      exact out_tmp rfl rfl (Le.refl _) (MLe.refl _) (by rw [h6.2 trivial])
    · refine c_cond_t rfl ?_
      refine c_seq ?_
      refine c_region ?_
      refine AOps.st 6 rfl rfl rfl (op_assign rfl rfl ?_)
      refine AOps.nil ?_
      refine go_code ?_
      refine c_ret ?_
      exact out_tmp rfl rfl (Le.refl _) (MLe.refl _) rfl
  · refine c_cond_t rfl ?_
    refine c_seq ?_
    exact absurd g14 (by simp)
theorem typesMatch_own : ownKnob Try.prog.godebug = none := by kernel_rfl
theorem typesMatch_laidOut : laidOutB Try.prog = true := by kernel_rfl
set_option maxRecDepth 100000 in
theorem typesMatch_lifted (os : Os) (started : os.Started) (H : Type) (enc : TypeId × Value → H) :
    ReturnsInHanded {} Try.checked os 3 .any (Rows.typesMatchSpec.pre6 enc Try.prog Try.f3 Rows.typesMatchRow.domain false) (Rows.typesMatchSpec.post enc Try.prog Try.f3 false true false false) := by
  refine returnsInHanded_of_change_sized (C := Try.checked) typesMatch_own started (by kernel_rfl) Try.func3
    (ChangeSpec.witness6 (enc := enc) (C := Try.checked) false ⟨#[], #[.agg #[.int .i64 0, .string ⟨#[]⟩, .int .i64 0, .slice none 0 0], .agg #[.int .i64 0, .string ⟨#[]⟩, .int .i64 0, .slice none 0 0], .int .i64 0], []⟩ 8 (by kernel_rfl) (by kernel_rfl) (by kernel_rfl) (by kernel_rfl)) ?_
  intro W base args ds gs before hval0 hW hcnd hsz0 _
  have hval : ∀ (j : Nat) t v, Try.f3.params[j]? = some t → args[j]? = some v → Value.okWide Try.prog W .any base t v := hval0
  have hsz : (DataW.weightsEach Try.prog (Try.f3.params.toList ++ Rows.typesMatchSpec.plain.varTypes Try.prog) (ds ++ gs)).all (· ≤ reachBytes) = true := hsz0
  have hW' := hW
  obtain ⟨p, q, hA0, hV, rfl, hfz, hnd⟩ := hW
  have hA : DataW.TrodAll enc Try.prog W 0 (fun _ => true) true Try.f3.params.toList args.toList ds p := hA0
  rw [Try.params3] at hA hval hsz
  obtain ⟨rfl, rfl⟩ := trodVars_none hV
  obtain ⟨v0, v1, v2, d0, d1, d2, p0, p1, p2, rfl, rfl, rfl, h0, h1, h2⟩ := trodAll_three hA
  obtain ⟨f0, c0, s0, r0, o0⟩ := open_one closed08 (by decide) h0
  obtain ⟨u, rfl⟩ := shape_ty _ _ s0
  obtain ⟨f1, c1, s1, r1, o1⟩ := open_one closed08 (by decide) h1
  obtain ⟨u', rfl⟩ := shape_ty _ _ s1
  obtain ⟨x, rfl, rfl, rfl, w_x⟩ := open_int Try.underlying3 (hval 2 3 v2 rfl rfl) h2
  refine (law_run (TypesMatch_c u u' x (by simp [Lit.wf, IntKind.max, IntKind.min, IntKind.signed, IntKind.bits] at w_x; omega)) (.cons (rel_agg' (by cases u; simp [Ty.cells]) r0 o0) (.cons (rel_agg' (by cases u'; simp [Ty.cells]) r1 o1) (.cons (.val _) .nil)))).mono fun e W' ⟨he, hb⟩ => ?_
  subst he
  exact ⟨_, rfl, law_post (tb := 4) typesMatch_laidOut (by kernel_rfl) (by kernel_rfl) Try.underlying4 rfl rfl rfl rfl hW' hb⟩
theorem typesMatch_holds : Rows.TypesMatchSaid :=
  OpenClaim.holds_of_wide 3 Try.f3 rfl rfl rfl rfl rfl rfl rfl ⟨rfl, rfl, rfl, rfl, rfl⟩ rfl rfl rfl rfl rfl (by kernel_rfl) Try.func3 (by kernel_rfl)
    (of_decide_eq_true (by kernel_rfl)) (by unfold Func.isWrapper; first | (rw [if_pos (by decide +kernel)]; kernel_rfl) | (rw [if_neg (by decide +kernel)]; exact ⟨rfl, rfl⟩))
    (fun os started H enc _ => typesMatch_lifted os started H enc)
#print axioms typesMatch_holds
end Go.Proofs.Ytjgjnheeohfmmaa
