/- WordBack returns true for every input: what was made is opened as it was, and an address's word is neither an integer's nor a head. -/
import Derived.Test.YthibocdpbekbcaaLWTexts
import Derived.Lib.SmallJoins
namespace Go.Proofs.Ythibocdpbekbcaa
open Go.ChangeShapes Go.WideShapes Go.ChangeAt Go.RowKit Go.Joins
theorem tOk_pack (s : ByteArray) : tOk (packL (bytesN s)) (s.size : Int) = true ∧ tS (packL (bytesN s)) (s.size : Int) = s := by
  have h1 : bytesOf (packL (bytesN s)) s.size = bytesN s := by
    have := bytes_pack (bytesN s) (bytesN_lt s)
    rwa [bytesN_len] at this
  have hok : tOk (packL (bytesN s)) (s.size : Int) = true := by
    unfold tOk
    rw [packL_len, bytesN_len, Int.toNat_natCast, h1]
    simp; omega
  refine ⟨hok, ?_⟩
  unfold tS
  rw [hok, Int.toNat_natCast]
  unfold unpS
  rw [if_pos rfl, h1, strN_bytesN]
theorem Unpack_back (s : ByteArray) (ao : Option Addr) (cap : Nat) (w : World) (ha : SlAt w ao 1 ((s.size + 7) / 8) (u64s (packL (bytesN s)))) (hs : s.size ≤ 500) :
    Calls Try.prog 36 #[.slice ao ((s.size + 7) / 8) cap, .int .i64 (s.size : Int)] w fun e w' => e = .returned (.tuple #[.string s, .int .i64 0]) ∧ Below w.heap.size w w' := by
  refine (Unpack_any ao _ cap _ _ w ha (packL_lt _ (bytesN_lt s)) (by omega)).mono ?_
  rintro e w' ⟨rfl, hb⟩
  exact ⟨by rw [(tOk_pack s).1, (tOk_pack s).2]; rfl, hb⟩
set_option maxHeartbeats 1000000 in
theorem WordBack_long (n k t z : Int) (s : ByteArray) (w : World) (hs : 500 < s.size) : Calls Try.prog 11 #[.int .i64 n, .agg #[.int .i64 k, .int .i64 t, .int .i64 z], .string s] w fun e w' => e = .returned (.bool true) ∧ Below w.heap.size w w' := by
  go_enter Try.func11, Try.ntmps11
  go_wp2_with (first | (go_at_call 15; refine (awake02 _).mono ?_; rintro e w1 ⟨rfl, hb⟩; have c0 : w1.cell? ⟨w.heap.size, 0, none⟩ = some (.int .i64 k) := (hb.cell (by simp)).trans (by simp); have c1 : w1.cell? ⟨w.heap.size, 1, none⟩ = some (.int .i64 t) := (hb.cell (by simp)).trans (by simp); have c2 : w1.cell? ⟨w.heap.size, 2, none⟩ = some (.int .i64 z) := (hb.cell (by simp)).trans (by simp)))
  go_ret
  exact ⟨rfl, ((Below.refl _ _).alloc (Nat.le_refl _) _).trans (hb.mono (by simp))⟩
set_option maxHeartbeats 1000000 in
theorem WordBack_00 (n k t z : Int) (s : ByteArray) (w : World) (hs : s.size ≤ 500) (k1 : -9223372036854775808 ≤ k) (k2 : k ≤ 9223372036854775807) (t1 : -9223372036854775808 ≤ t) (t2 : t ≤ 9223372036854775807) (s1 : -9223372036854775808 ≤ z) (s2 : z ≤ 9223372036854775807) (hh : headOk k t z = false) (hp : ptrOk z = false) : Calls Try.prog 11 #[.int .i64 n, .agg #[.int .i64 k, .int .i64 t, .int .i64 z], .string s] w fun e w' => e = .returned (.bool true) ∧ Below w.heap.size w w' := by
  have e1 := (back_int n).1
  have e2 := (back_int n).2
  have e3 : okE (headOk k t z) = 2 := by rw [hh]; rfl
  have e4 : okE (ptrOk z) = 2 := by rw [hp]; rfl
  clear hh hp
  go_enter Try.func11, Try.ntmps11
  go_wp2_with (first | (go_at_call 15; refine (awake02 _).mono ?_; rintro e w1 ⟨rfl, hb⟩; have c0 : w1.cell? ⟨w.heap.size, 0, none⟩ = some (.int .i64 k) := (hb.cell (by simp)).trans (by simp); have c1 : w1.cell? ⟨w.heap.size, 1, none⟩ = some (.int .i64 t) := (hb.cell (by simp)).trans (by simp); have c2 : w1.cell? ⟨w.heap.size, 2, none⟩ = some (.int .i64 z) := (hb.cell (by simp)).trans (by simp)) | (go_at_call 18; refine (wInt_c _ _).mono ?_; rintro e w' ⟨rfl, rfl⟩) | (go_at_call 16; refine (ToInt_c _ _ (intW_lo _) (intW_hi _)).mono ?_; rintro e w' ⟨rfl, rfl⟩) | (go_at_call 46; refine (Wrap_c _ _).mono ?_; rintro e w' ⟨rfl, rfl⟩) | (go_at_call 25; refine (Head_c _ _ _ _ k1 k2 t1 t2 s1 s2).mono ?_; rintro e w' ⟨rfl, rfl⟩) | (go_at_call 21; refine (Ptr_c _ _ s1 s2).mono ?_; rintro e w' ⟨rfl, rfl⟩) | (go_at_call 39; refine (Pack_s s _ (by omega)).mono ?_; rintro e w2 ⟨ao2, c2x, rfl, hs2, hb2⟩) | (go_at_call 36; refine (Unpack_back s ao2 c2x _ hs2 hs).mono ?_; rintro e w3 ⟨rfl, hb3⟩))
  go_ret
  exact ⟨rfl, (((Below.refl _ _).alloc (Nat.le_refl _) _).trans ((bel_trans (bel_trans hb hb2) hb3).mono (by simp)))⟩
set_option maxHeartbeats 1000000 in
theorem WordBack_01 (n k t z : Int) (s : ByteArray) (w : World) (hs : s.size ≤ 500) (k1 : -9223372036854775808 ≤ k) (k2 : k ≤ 9223372036854775807) (t1 : -9223372036854775808 ≤ t) (t2 : t ≤ 9223372036854775807) (s1 : -9223372036854775808 ≤ z) (s2 : z ≤ 9223372036854775807) (hh : headOk k t z = false) (hp : ptrOk z = true) : Calls Try.prog 11 #[.int .i64 n, .agg #[.int .i64 k, .int .i64 t, .int .i64 z], .string s] w fun e w' => e = .returned (.bool true) ∧ Below w.heap.size w w' := by
  have e1 := (back_int n).1
  have e2 := (back_int n).2
  have e3 : okE (headOk k t z) = 2 := by rw [hh]; rfl
  have e4 : okE (ptrOk z) = 0 := by rw [hp]; rfl
  obtain ⟨g1, g2, g3, g4⟩ := back_ptr z hp
  clear hh hp
  go_enter Try.func11, Try.ntmps11
  go_wp2_with (first | (go_at_call 15; refine (awake02 _).mono ?_; rintro e w1 ⟨rfl, hb⟩; have c0 : w1.cell? ⟨w.heap.size, 0, none⟩ = some (.int .i64 k) := (hb.cell (by simp)).trans (by simp); have c1 : w1.cell? ⟨w.heap.size, 1, none⟩ = some (.int .i64 t) := (hb.cell (by simp)).trans (by simp); have c2 : w1.cell? ⟨w.heap.size, 2, none⟩ = some (.int .i64 z) := (hb.cell (by simp)).trans (by simp)) | (go_at_call 18; refine (wInt_c _ _).mono ?_; rintro e w' ⟨rfl, rfl⟩) | (go_at_call 16; refine (ToInt_c _ _ (intW_lo _) (intW_hi _)).mono ?_; rintro e w' ⟨rfl, rfl⟩) | (go_at_call 46; refine (Wrap_c _ _).mono ?_; rintro e w' ⟨rfl, rfl⟩) | (go_at_call 25; refine (Head_c _ _ _ _ k1 k2 t1 t2 s1 s2).mono ?_; rintro e w' ⟨rfl, rfl⟩) | (go_at_call 21; refine (Ptr_c _ _ s1 s2).mono ?_; rintro e w' ⟨rfl, rfl⟩) | (go_at_call 27; with_reducible refine (Open_c (ptrW z) _ (ptrW_lo _) (ptrW_hi _)).mono ?_; rintro e w' ⟨rfl, rfl⟩) | (go_at_call 23; refine (At_c _ _ (ptrW_lo _) (ptrW_hi _)).mono ?_; rintro e w' ⟨rfl, rfl⟩) | (go_at_call 20; refine (IsInt_c _ _ (ptrW_lo _) (ptrW_hi _)).mono ?_; rintro e w' ⟨rfl, rfl⟩) | (go_at_call 39; refine (Pack_s s _ (by omega)).mono ?_; rintro e w2 ⟨ao2, c2x, rfl, hs2, hb2⟩) | (go_at_call 36; refine (Unpack_back s ao2 c2x _ hs2 hs).mono ?_; rintro e w3 ⟨rfl, hb3⟩))
  go_ret
  exact ⟨rfl, (((Below.refl _ _).alloc (Nat.le_refl _) _).trans ((bel_trans (bel_trans hb hb2) hb3).mono (by simp)))⟩
set_option maxHeartbeats 1000000 in
theorem WordBack_10 (n k t z : Int) (s : ByteArray) (w : World) (hs : s.size ≤ 500) (k1 : -9223372036854775808 ≤ k) (k2 : k ≤ 9223372036854775807) (t1 : -9223372036854775808 ≤ t) (t2 : t ≤ 9223372036854775807) (s1 : -9223372036854775808 ≤ z) (s2 : z ≤ 9223372036854775807) (hh : headOk k t z = true) (hp : ptrOk z = false) : Calls Try.prog 11 #[.int .i64 n, .agg #[.int .i64 k, .int .i64 t, .int .i64 z], .string s] w fun e w' => e = .returned (.bool true) ∧ Below w.heap.size w w' := by
  have e1 := (back_int n).1
  have e2 := (back_int n).2
  have e3 : okE (headOk k t z) = 0 := by rw [hh]; rfl
  have e4 : okE (ptrOk z) = 2 := by rw [hp]; rfl
  obtain ⟨f1, f2, f3, f4⟩ := back_head k t z hh
  clear hh hp
  go_enter Try.func11, Try.ntmps11
  go_wp2_with (first | (go_at_call 15; refine (awake02 _).mono ?_; rintro e w1 ⟨rfl, hb⟩; have c0 : w1.cell? ⟨w.heap.size, 0, none⟩ = some (.int .i64 k) := (hb.cell (by simp)).trans (by simp); have c1 : w1.cell? ⟨w.heap.size, 1, none⟩ = some (.int .i64 t) := (hb.cell (by simp)).trans (by simp); have c2 : w1.cell? ⟨w.heap.size, 2, none⟩ = some (.int .i64 z) := (hb.cell (by simp)).trans (by simp)) | (go_at_call 18; refine (wInt_c _ _).mono ?_; rintro e w' ⟨rfl, rfl⟩) | (go_at_call 16; refine (ToInt_c _ _ (intW_lo _) (intW_hi _)).mono ?_; rintro e w' ⟨rfl, rfl⟩) | (go_at_call 46; refine (Wrap_c _ _).mono ?_; rintro e w' ⟨rfl, rfl⟩) | (go_at_call 25; refine (Head_c _ _ _ _ k1 k2 t1 t2 s1 s2).mono ?_; rintro e w' ⟨rfl, rfl⟩) | (go_at_call 21; refine (Ptr_c _ _ s1 s2).mono ?_; rintro e w' ⟨rfl, rfl⟩) | (go_at_call 27; with_reducible refine (Open_c (headW k t z) _ (headW_lo _ _ _) (headW_hi _ _ _)).mono ?_; rintro e w' ⟨rfl, rfl⟩) | (go_at_call 39; refine (Pack_s s _ (by omega)).mono ?_; rintro e w2 ⟨ao2, c2x, rfl, hs2, hb2⟩) | (go_at_call 36; refine (Unpack_back s ao2 c2x _ hs2 hs).mono ?_; rintro e w3 ⟨rfl, hb3⟩))
  go_ret
  exact ⟨rfl, (((Below.refl _ _).alloc (Nat.le_refl _) _).trans ((bel_trans (bel_trans hb hb2) hb3).mono (by simp)))⟩
set_option maxHeartbeats 1000000 in
theorem WordBack_11 (n k t z : Int) (s : ByteArray) (w : World) (hs : s.size ≤ 500) (k1 : -9223372036854775808 ≤ k) (k2 : k ≤ 9223372036854775807) (t1 : -9223372036854775808 ≤ t) (t2 : t ≤ 9223372036854775807) (s1 : -9223372036854775808 ≤ z) (s2 : z ≤ 9223372036854775807) (hh : headOk k t z = true) (hp : ptrOk z = true) : Calls Try.prog 11 #[.int .i64 n, .agg #[.int .i64 k, .int .i64 t, .int .i64 z], .string s] w fun e w' => e = .returned (.bool true) ∧ Below w.heap.size w w' := by
  have e1 := (back_int n).1
  have e2 := (back_int n).2
  have e3 : okE (headOk k t z) = 0 := by rw [hh]; rfl
  have e4 : okE (ptrOk z) = 0 := by rw [hp]; rfl
  obtain ⟨f1, f2, f3, f4⟩ := back_head k t z hh
  obtain ⟨g1, g2, g3, g4⟩ := back_ptr z hp
  clear hh hp
  go_enter Try.func11, Try.ntmps11
  go_wp2_with (first | (go_at_call 15; refine (awake02 _).mono ?_; rintro e w1 ⟨rfl, hb⟩; have c0 : w1.cell? ⟨w.heap.size, 0, none⟩ = some (.int .i64 k) := (hb.cell (by simp)).trans (by simp); have c1 : w1.cell? ⟨w.heap.size, 1, none⟩ = some (.int .i64 t) := (hb.cell (by simp)).trans (by simp); have c2 : w1.cell? ⟨w.heap.size, 2, none⟩ = some (.int .i64 z) := (hb.cell (by simp)).trans (by simp)) | (go_at_call 18; refine (wInt_c _ _).mono ?_; rintro e w' ⟨rfl, rfl⟩) | (go_at_call 16; refine (ToInt_c _ _ (intW_lo _) (intW_hi _)).mono ?_; rintro e w' ⟨rfl, rfl⟩) | (go_at_call 46; refine (Wrap_c _ _).mono ?_; rintro e w' ⟨rfl, rfl⟩) | (go_at_call 25; refine (Head_c _ _ _ _ k1 k2 t1 t2 s1 s2).mono ?_; rintro e w' ⟨rfl, rfl⟩) | (go_at_call 21; refine (Ptr_c _ _ s1 s2).mono ?_; rintro e w' ⟨rfl, rfl⟩) | (go_at_call 27; with_reducible refine (Open_c (headW k t z) _ (headW_lo _ _ _) (headW_hi _ _ _)).mono ?_; rintro e w' ⟨rfl, rfl⟩) | (go_at_call 27; with_reducible refine (Open_c (ptrW z) _ (ptrW_lo _) (ptrW_hi _)).mono ?_; rintro e w' ⟨rfl, rfl⟩) | (go_at_call 23; refine (At_c _ _ (ptrW_lo _) (ptrW_hi _)).mono ?_; rintro e w' ⟨rfl, rfl⟩) | (go_at_call 20; refine (IsInt_c _ _ (ptrW_lo _) (ptrW_hi _)).mono ?_; rintro e w' ⟨rfl, rfl⟩) | (go_at_call 39; refine (Pack_s s _ (by omega)).mono ?_; rintro e w2 ⟨ao2, c2x, rfl, hs2, hb2⟩) | (go_at_call 36; refine (Unpack_back s ao2 c2x _ hs2 hs).mono ?_; rintro e w3 ⟨rfl, hb3⟩))
  go_ret
  exact ⟨rfl, (((Below.refl _ _).alloc (Nat.le_refl _) _).trans ((bel_trans (bel_trans hb hb2) hb3).mono (by simp)))⟩
theorem WordBack_c (n k t z : Int) (s : ByteArray) (w : World) (k1 : -9223372036854775808 ≤ k) (k2 : k ≤ 9223372036854775807) (t1 : -9223372036854775808 ≤ t) (t2 : t ≤ 9223372036854775807) (s1 : -9223372036854775808 ≤ z) (s2 : z ≤ 9223372036854775807) : Calls Try.prog 11 #[.int .i64 n, .agg #[.int .i64 k, .int .i64 t, .int .i64 z], .string s] w fun e w' => e = .returned (.bool true) ∧ Below w.heap.size w w' := by
  by_cases hs : 500 < s.size
  · exact WordBack_long n k t z s w hs
  · cases hh : headOk k t z
    · cases hp : ptrOk z
      · exact WordBack_00 n k t z s w (by omega) k1 k2 t1 t2 s1 s2 hh hp
      · exact WordBack_01 n k t z s w (by omega) k1 k2 t1 t2 s1 s2 hh hp
    · cases hp : ptrOk z
      · exact WordBack_10 n k t z s w (by omega) k1 k2 t1 t2 s1 s2 hh hp
      · exact WordBack_11 n k t z s w (by omega) k1 k2 t1 t2 s1 s2 hh hp
theorem cellsParts : Try.prog.cellsOf 38 = 3 := by kernel_rfl
theorem wordBack_own : ownKnob Try.prog.godebug = none := by kernel_rfl
theorem wordBack_laidOut : laidOutB Try.prog = true := by kernel_rfl
set_option maxRecDepth 100000 in
theorem wordBack_lifted (os : Os) (started : os.Started) (H : Type) (enc : TypeId × Value → H) :
    ReturnsInHanded {} Try.checked os 11 .any (Rows.wordBackSpec.pre6 enc Try.prog Try.f11 Rows.wordBackRow.domain false) (Rows.wordBackSpec.post enc Try.prog Try.f11 false true false false) := by
  refine returnsInHanded_of_change_sized (C := Try.checked) wordBack_own started (by kernel_rfl) Try.func11
    (ChangeSpec.witness6 (enc := enc) (C := Try.checked) false ⟨#[], #[.int .i64 0, .agg #[.int .i64 0, .int .i64 0, .int .i64 0], .string ⟨#[]⟩], []⟩ 8 (by kernel_rfl) (by kernel_rfl) (by kernel_rfl) (by kernel_rfl)) ?_
  intro W base args ds gs before hval0 hW hcnd hsz0 _
  have hval : ∀ (j : Nat) t v, Try.f11.params[j]? = some t → args[j]? = some v → Value.okWide Try.prog W .any base t v := hval0
  have hsz : (DataW.weightsEach Try.prog (Try.f11.params.toList ++ Rows.wordBackSpec.plain.varTypes Try.prog) (ds ++ gs)).all (· ≤ reachBytes) = true := hsz0
  have hW' := hW
  obtain ⟨p, q, hA0, hV, rfl, hfz, hnd⟩ := hW
  have hA : DataW.TrodAll enc Try.prog W 0 (fun _ => true) true Try.f11.params.toList args.toList ds p := hA0
  rw [Try.params11] at hA hval hsz
  obtain ⟨rfl, rfl⟩ := trodVars_none hV
  obtain ⟨v0, v1, v2, d0, d1, d2, p0, p1, p2, rfl, rfl, rfl, h0, h1, h2⟩ := trodAll_three hA
  obtain ⟨n, rfl, rfl, rfl, w_n⟩ := open_int Try.underlying2 (hval 0 2 v0 rfl rfl) h0
  obtain ⟨c0, c1, c2, y0, y1, y2, m, rfl, rfl, rfl, hy0, hy1, hy2⟩ := open_agg3 Try.underlying38 (by kernel_rfl) cellsParts (hval 1 38 v1 rfl rfl) h1
  obtain ⟨k, e0, rfl, wk⟩ := DataW.trod_int Try.underlying3 hy0
  obtain ⟨t, e1, rfl, wt⟩ := DataW.trod_int Try.underlying3 hy1
  obtain ⟨z, e2, rfl, ws⟩ := DataW.trod_int Try.underlying3 hy2
  simp at e0 e1 e2
  subst e0 e1 e2
  obtain ⟨s, rfl, rfl, rfl, hs⟩ := Go.ChangeMaps.open_string Try.underlying9 (hval 2 9 v2 rfl rfl) h2
  have bd_k := Go.bounds_i64 wk
  have bd_t := Go.bounds_i64 wt
  have bd_s := Go.bounds_i64 ws
  refine (WordBack_c n k t z s W (by omega) (by omega) (by omega) (by omega) (by omega) (by omega)).mono fun e W' ⟨he, hb⟩ => ?_
  subst he
  exact ⟨_, rfl, law_post (tb := 4) wordBack_laidOut (by kernel_rfl) (by kernel_rfl) Try.underlying4 rfl rfl rfl rfl hW' hb⟩
theorem wordBack_holds : Rows.WordBackSaid :=
  OpenClaim.holds_of_wide 11 Try.f11 rfl rfl rfl rfl rfl rfl rfl ⟨rfl, rfl, rfl, rfl, rfl⟩ rfl rfl rfl rfl rfl (by kernel_rfl) Try.func11 (by kernel_rfl)
    (of_decide_eq_true (by kernel_rfl)) (by unfold Func.isWrapper; first | (rw [if_pos (by decide +kernel)]; kernel_rfl) | (rw [if_neg (by decide +kernel)]; exact ⟨rfl, rfl⟩))
    (fun os started H enc _ => wordBack_lifted os started H enc)
#print axioms wordBack_holds
end Go.Proofs.Ythibocdpbekbcaa
