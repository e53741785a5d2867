/- EqualFunc, same, match -/
import Derived.Test.YtjgjnheeohfmmaaB08t
import Derived.Test.YtjgjnheeohfmmaaPM
namespace Go.Proofs.Ytjgjnheeohfmmaa
open Go.RowKit
set_option maxRecDepth 100000 in
theorem EqF_c {A : Type} (G : A → Mem → Prop) (D : A → Nat → Prop) (step : A → Ty → Ty → Option A) (f : FuncId) (fs cs : List AV) (xs ys : List Ty)
    (hf : ∀ (acc : A) (i : Nat) (x y : Ty) (M : Mem), xs[i]? = some x → ys[i]? = some y → D acc i → G acc M → ACall Try.prog f (fs ++ [.agg x.cells, .agg y.cells] ++ cs) M (fun v M' => ∃ c : Bool, v = .val (.bool c) ∧ (c = true → ∃ acc', step acc x y = some acc' ∧ D acc' (i + 1) ∧ G acc' M') ∧ (c = false → step acc x y = none)))
    (acc : A) (M : Mem) (hD : D acc 0) (hG : G acc M) :
    ACall Try.prog 109 [.seq 4 (Ty.cellss xs), .seq 4 (Ty.cellss ys), .clo (.func f) fs cs] M (fun v M' => ∃ c : Bool, v = .val (.bool c) ∧ (c = true → ∃ acc', eqFold step acc xs ys = some acc' ∧ D acc' xs.length ∧ G acc' M') ∧ (c = false → eqFold step acc xs ys = none)) := by
  have hlx := Ty.cellss_len xs
  have hly := Ty.cellss_len ys
  refine ACall.enter Try.func109 rfl (by kernel_rfl) rfl (Nat.le_of_ble_eq_true rfl) ?_
  refine c_start ?_
  refine c_lens (t := 0) rfl (.seq _ _) (fun hmax => ?_)
  refine c_seq ?_
  refine c_region ?_
  refine AOps.st 6 rfl rfl rfl (op_assign rfl rfl ?_)
  refine AOps.nil ?_
  refine go_code ?_
  refine c_seq ?_
  refine c_seq ?_
  refine c_region ?_
  refine AOps.st 10 rfl rfl rfl (op_move rfl rfl ?_)
  first | (refine AOps.st 11 rfl rfl rfl (op_len rfl tu_22 rfl (.seq _ _) (fun n11 => ?_))) | (refine AOps.st 11 rfl rfl rfl (op_len rfl tu_22 rfl (.own _ _ _) (fun n11 => ?_))) | (refine AOps.st 11 rfl rfl rfl (op_len rfl tu_22 rfl (.nil 0) (fun n11 => ?_))) | (refine AOps.st 11 rfl rfl rfl (op_len_arr rfl tu_22 rfl ?_))
  refine AOps.st 12 rfl rfl rfl (op_move rfl rfl ?_)
  first | (refine AOps.st 13 rfl rfl rfl (op_len rfl tu_22 rfl (.seq _ _) (fun n13 => ?_))) | (refine AOps.st 13 rfl rfl rfl (op_len rfl tu_22 rfl (.own _ _ _) (fun n13 => ?_))) | (refine AOps.st 13 rfl rfl rfl (op_len rfl tu_22 rfl (.nil 0) (fun n13 => ?_))) | (refine AOps.st 13 rfl rfl rfl (op_len_arr rfl tu_22 rfl ?_))
  refine AOps.st 14 rfl rfl rfl (op_neq rfl rfl rfl ?_); intro c14 h14
  refine AOps.nil ?_
  refine go_code ?_
  rcases bool_split h14 with ⟨rfl, g14⟩ | ⟨rfl, g14⟩
  · refine c_cond_f rfl ?_
    refine c_skip ?_
    refine go_code ?_
    refine c_seq ?_
    refine c_seq ?_
    refine c_region ?_
    refine AOps.st 15 rfl rfl rfl (op_move rfl rfl ?_)
    first | (refine AOps.st 16 rfl rfl rfl (op_len rfl tu_22 rfl (.seq _ _) (fun n16 => ?_))) | (refine AOps.st 16 rfl rfl rfl (op_len rfl tu_22 rfl (.own _ _ _) (fun n16 => ?_))) | (refine AOps.st 16 rfl rfl rfl (op_len rfl tu_22 rfl (.nil 0) (fun n16 => ?_))) | (refine AOps.st 16 rfl rfl rfl (op_len_arr rfl tu_22 rfl ?_))
    refine AOps.st 17 rfl rfl rfl (op_move rfl rfl ?_)
    refine AOps.nil ?_
    refine go_code ?_
    refine c_block ?_
    refine c_loop (σ := Nat × A × Mem) (fun zz => match zz with | (i, a, Ms) => [(1, .seq 4 (Ty.cellss ys)), (2, .clo (.func f) fs cs), (15, .seq 4 (Ty.cellss xs)), (16, .val (.int .i64 (Ty.cellss xs).length)), (17, .val (.int .i64 i))]) (fun zz => match zz with | (i, a, Ms) => Ms) (fun zz => match zz with | (i, a, Ms) => i ≤ xs.length ∧ D a i ∧ G a Ms ∧ eqFold step a (xs.drop i) (ys.drop i) = eqFold step acc xs ys) (fun zz => match zz with | (i, a, Ms) => xs.length - i) ((0, acc, M)) ?_ ?_ ?_ ?_
    · exact ⟨by omega, hD, hG, rfl⟩
    · exact (by repeat' (first | exact SLe.nil _ | refine SLe.cons rfl ?_ ?_ | exact Le.refl _ | exact Le.own _ _ _ | exact Le.nil _))
    · exact (by first | exact MLe.none _ | exact MLe.refl _ | (repeat' (first | exact MLe.nil | exact MLe.refl _ | refine MLe.cons _ ?_ | refine MLe.drop _ ?_)))
    rintro ⟨i, a, Ms⟩ hI
    try dsimp only at hI ⊢
    obtain ⟨hi, hDi, hGi, he⟩ := hI
    refine c_seq ?_
    refine c_region ?_
    refine AOps.st 18 rfl rfl rfl (op_lss rfl rfl rfl ?_); intro c18 h18
    refine AOps.nil ?_
    refine go_code ?_
    refine c_seq ?_
    rcases bool_split h18 with ⟨rfl, g18⟩ | ⟨rfl, g18⟩
    · refine c_cond_f rfl ?_
      refine c_exit ?_
      refine x_code ?_
      refine x_lp ?_
      refine x_here ?_
      refine go_code ?_
      refine c_seq ?_
      refine c_region ?_
      refine AOps.st 6 rfl rfl rfl (op_assign rfl rfl ?_)
      refine AOps.nil ?_
      refine go_code ?_
      refine c_ret ?_
      rw [eqFold_nil step a (by omega) (by omega)] at he
      obtain rfl : i = xs.length := by omega
      exact out_tmp rfl rfl (Le.refl _) (MLe.refl _) ⟨true, rfl, fun _ => ⟨a, he.symm, hDi, hGi⟩, fun e => (by cases e)⟩
    · refine c_cond_t rfl ?_
      refine c_skip ?_
      refine go_code ?_
      refine c_seq ?_
      refine c_block ?_
      refine c_seq ?_
      obtain ⟨⟨k1, s1, n1, ks1⟩, hx⟩ := get_some (l := xs) (i := i) (by omega)
      obtain ⟨⟨k2, s2, n2, ks2⟩, hy⟩ := get_some (l := ys) (i := i) (by omega)
      have hcx := Ty.cellss_get hx
      have hcy := Ty.cellss_get hy
      rw [eqFold_cons step a hx hy] at he
      refine c_region ?_
      refine AOps.st 19 rfl rfl rfl (op_move rfl rfl ?_)
      first | (refine AOps.st 20 rfl rfl rfl (op_index rfl te_22 rfl (.seq _ _) rfl rfl (by assumption) ?_)) | (refine AOps.st 20 rfl rfl rfl (op_index (i := 0) rfl te_22 rfl (.seq _ _) rfl rfl (by first | rfl | assumption) ?_)) | (refine AOps.st 20 rfl rfl rfl (op_index (i := 1) rfl te_22 rfl (.seq _ _) rfl rfl (by first | rfl | assumption) ?_)) | (refine AOps.st 20 rfl rfl rfl (op_index rfl te_22 rfl (.own _ _ _) rfl rfl (by assumption) ?_)) | (refine AOps.st 20 rfl rfl rfl (op_index (i := 0) rfl te_22 rfl (.own _ _ _) rfl rfl (by first | rfl | assumption) ?_)) | (refine AOps.st 20 rfl rfl rfl (op_index (i := 1) rfl te_22 rfl (.own _ _ _) rfl rfl (by first | rfl | assumption) ?_)) | (refine AOps.st 20 rfl rfl rfl (op_index_arr rfl te_22 rfl rfl rfl (by omega) ?_))
      first | (refine AOps.st 21 rfl rfl rfl (op_load_m (i := 0) rfl ta_24 rfl rfl rfl rfl ?_)) | (refine AOps.st 21 rfl rfl rfl (op_load_m (i := 1) rfl ta_24 rfl rfl rfl rfl ?_)) | (refine AOps.st 21 rfl rfl rfl (op_load_m (i := 2) rfl ta_24 rfl rfl rfl rfl ?_)) | (refine AOps.st 21 rfl rfl rfl (op_load_m (i := 3) rfl ta_24 rfl rfl rfl rfl ?_)) | (refine AOps.st 21 rfl rfl rfl (op_load_m (i := 4) rfl ta_24 rfl rfl rfl rfl ?_)) | (refine AOps.st 21 rfl rfl rfl (op_load_m (i := 5) rfl ta_24 rfl rfl rfl rfl ?_)) | (refine AOps.st 21 rfl rfl rfl (op_load_c rfl ta_24 rfl rfl rfl ?_))
      refine AOps.st 8 rfl rfl rfl (op_alloc rfl tz_24 rfl ?_); intro b8
      refine AOps.st 7 rfl rfl rfl (op_assign rfl rfl ?_)
      first | (refine AOps.st0 rfl rfl (op_store (i := 0) rfl ts_24 rfl rfl rfl rfl rfl (Nat.le_of_ble_eq_true rfl) rfl ?_)) | (refine AOps.st0 rfl rfl (op_store (i := 1) rfl ts_24 rfl rfl rfl rfl rfl (Nat.le_of_ble_eq_true rfl) rfl ?_)) | (refine AOps.st0 rfl rfl (op_store (i := 2) rfl ts_24 rfl rfl rfl rfl rfl (Nat.le_of_ble_eq_true rfl) rfl ?_)) | (refine AOps.st0 rfl rfl (op_store (i := 3) rfl ts_24 rfl rfl rfl rfl rfl (Nat.le_of_ble_eq_true rfl) rfl ?_)) | (refine AOps.st0 rfl rfl (op_store (i := 4) rfl ts_24 rfl rfl rfl rfl rfl (Nat.le_of_ble_eq_true rfl) rfl ?_)) | (refine AOps.st0 rfl rfl (op_store (i := 5) rfl ts_24 rfl rfl rfl rfl rfl (Nat.le_of_ble_eq_true rfl) rfl ?_))
      refine AOps.nil ?_
      refine go_code ?_
      refine c_seq ?_
      refine c_region ?_
      refine AOps.st 22 rfl rfl rfl (op_move rfl rfl ?_)
      refine AOps.st 23 rfl rfl rfl (op_move rfl rfl ?_)
      first | (refine AOps.st 24 rfl rfl rfl (op_index rfl te_22 rfl (.seq _ _) rfl rfl (by assumption) ?_)) | (refine AOps.st 24 rfl rfl rfl (op_index (i := 0) rfl te_22 rfl (.seq _ _) rfl rfl (by first | rfl | assumption) ?_)) | (refine AOps.st 24 rfl rfl rfl (op_index (i := 1) rfl te_22 rfl (.seq _ _) rfl rfl (by first | rfl | assumption) ?_)) | (refine AOps.st 24 rfl rfl rfl (op_index rfl te_22 rfl (.own _ _ _) rfl rfl (by assumption) ?_)) | (refine AOps.st 24 rfl rfl rfl (op_index (i := 0) rfl te_22 rfl (.own _ _ _) rfl rfl (by first | rfl | assumption) ?_)) | (refine AOps.st 24 rfl rfl rfl (op_index (i := 1) rfl te_22 rfl (.own _ _ _) rfl rfl (by first | rfl | assumption) ?_)) | (refine AOps.st 24 rfl rfl rfl (op_index_arr rfl te_22 rfl rfl rfl (by omega) ?_))
      first | (refine AOps.st 25 rfl rfl rfl (op_load_m (i := 0) rfl ta_24 rfl rfl rfl rfl ?_)) | (refine AOps.st 25 rfl rfl rfl (op_load_m (i := 1) rfl ta_24 rfl rfl rfl rfl ?_)) | (refine AOps.st 25 rfl rfl rfl (op_load_m (i := 2) rfl ta_24 rfl rfl rfl rfl ?_)) | (refine AOps.st 25 rfl rfl rfl (op_load_m (i := 3) rfl ta_24 rfl rfl rfl rfl ?_)) | (refine AOps.st 25 rfl rfl rfl (op_load_m (i := 4) rfl ta_24 rfl rfl rfl rfl ?_)) | (refine AOps.st 25 rfl rfl rfl (op_load_m (i := 5) rfl ta_24 rfl rfl rfl rfl ?_)) | (refine AOps.st 25 rfl rfl rfl (op_load_c rfl ta_24 rfl rfl rfl ?_))
      refine AOps.st 9 rfl rfl rfl (op_alloc rfl tz_24 rfl ?_); intro b9
      first | (refine AOps.st0 rfl rfl (op_store (i := 0) rfl ts_24 rfl rfl rfl rfl rfl (Nat.le_of_ble_eq_true rfl) rfl ?_)) | (refine AOps.st0 rfl rfl (op_store (i := 1) rfl ts_24 rfl rfl rfl rfl rfl (Nat.le_of_ble_eq_true rfl) rfl ?_)) | (refine AOps.st0 rfl rfl (op_store (i := 2) rfl ts_24 rfl rfl rfl rfl rfl (Nat.le_of_ble_eq_true rfl) rfl ?_)) | (refine AOps.st0 rfl rfl (op_store (i := 3) rfl ts_24 rfl rfl rfl rfl rfl (Nat.le_of_ble_eq_true rfl) rfl ?_)) | (refine AOps.st0 rfl rfl (op_store (i := 4) rfl ts_24 rfl rfl rfl rfl rfl (Nat.le_of_ble_eq_true rfl) rfl ?_)) | (refine AOps.st0 rfl rfl (op_store (i := 5) rfl ts_24 rfl rfl rfl rfl rfl (Nat.le_of_ble_eq_true rfl) rfl ?_))
      refine AOps.nil ?_
      refine go_code ?_
      refine c_seq ?_
      refine c_region ?_
      refine AOps.st 26 rfl rfl rfl (op_move rfl rfl ?_)
      first | (refine AOps.st 27 rfl rfl rfl (op_load_m (i := 0) rfl ta_24 rfl rfl rfl rfl ?_)) | (refine AOps.st 27 rfl rfl rfl (op_load_m (i := 1) rfl ta_24 rfl rfl rfl rfl ?_)) | (refine AOps.st 27 rfl rfl rfl (op_load_m (i := 2) rfl ta_24 rfl rfl rfl rfl ?_)) | (refine AOps.st 27 rfl rfl rfl (op_load_m (i := 3) rfl ta_24 rfl rfl rfl rfl ?_)) | (refine AOps.st 27 rfl rfl rfl (op_load_m (i := 4) rfl ta_24 rfl rfl rfl rfl ?_)) | (refine AOps.st 27 rfl rfl rfl (op_load_m (i := 5) rfl ta_24 rfl rfl rfl rfl ?_)) | (refine AOps.st 27 rfl rfl rfl (op_load_c rfl ta_24 rfl rfl rfl ?_))
      first | (refine AOps.st 28 rfl rfl rfl (op_load_m (i := 0) rfl ta_24 rfl rfl rfl rfl ?_)) | (refine AOps.st 28 rfl rfl rfl (op_load_m (i := 1) rfl ta_24 rfl rfl rfl rfl ?_)) | (refine AOps.st 28 rfl rfl rfl (op_load_m (i := 2) rfl ta_24 rfl rfl rfl rfl ?_)) | (refine AOps.st 28 rfl rfl rfl (op_load_m (i := 3) rfl ta_24 rfl rfl rfl rfl ?_)) | (refine AOps.st 28 rfl rfl rfl (op_load_m (i := 4) rfl ta_24 rfl rfl rfl rfl ?_)) | (refine AOps.st 28 rfl rfl rfl (op_load_m (i := 5) rfl ta_24 rfl rfl rfl rfl ?_)) | (refine AOps.st 28 rfl rfl rfl (op_load_c rfl ta_24 rfl rfl rfl ?_))
      refine AOps.st 29 rfl rfl rfl (op_callvm (xs := [.tmp 27, .tmp 28])  [.loc b9 _, .loc b8 _] rfl rfl rfl rfl (hf a i _ _ Ms hx hy hDi hGi) (Les.refl _) (fun v29 M29 h29 => ?_))
      obtain ⟨c29, rfl, hyes, hno⟩ := h29
      refine AOps.st 30 rfl rfl rfl (op_notc rfl rfl ?_); intro c30 h30
      try replace h30 := nott h30 h29
      refine AOps.nil ?_
      refine go_code ?_
      rcases bool_split h30 with ⟨rfl, g30⟩ | ⟨rfl, g30⟩
      · refine c_cond_f rfl ?_
        refine c_skip ?_
        refine go_blk ?_
        refine go_code ?_
        refine c_region ?_
        first | (refine AOps.st 31 rfl rfl rfl (op_add rfl rfl rfl (IntWalk.i64_in _ (by omega)) ?_)) | (refine AOps.st 31 rfl rfl rfl (op_add rfl rfl rfl rfl ?_))
        refine AOps.st 17 rfl rfl rfl (op_move rfl rfl ?_)
        refine AOps.nil ?_
        refine go_lp ?_
        obtain ⟨a', h1, h2, h3⟩ := hyes (by simpa using g30)
        rw [h1] at he
        exact ⟨(i + 1, a', M29), ⟨by simp; omega, h2, h3, he⟩, by simp; omega, (by repeat' (first | exact SLe.nil _ | refine SLe.cons rfl ?_ ?_ | exact Le.refl _ | exact Le.own _ _ _ | exact Le.nil _)), MLe.drop _ (MLe.drop _ (MLe.refl _))⟩
      · refine c_cond_t rfl ?_
        refine c_seq ?_
        refine c_region ?_
        refine AOps.st 6 rfl rfl rfl (op_assign rfl rfl ?_)
        refine AOps.nil ?_
        refine go_code ?_
        refine c_ret ?_
        rw [hno g30] at he
        exact out_tmp rfl rfl (Le.refl _) (MLe.drop _ (MLe.drop _ (MLe.refl _))) ⟨false, rfl, fun e => (by cases e), fun _ => he.symm⟩
  · refine c_cond_t rfl ?_
    refine c_seq ?_
    refine c_region ?_
    refine AOps.st 6 rfl rfl rfl (op_assign rfl rfl ?_)
    refine AOps.nil ?_
    refine go_code ?_
    refine c_ret ?_
    exact out_tmp rfl rfl (Le.refl _) (MLe.refl _) ⟨false, rfl, fun e => (by cases e), fun _ => eqFold_len step xs ys acc (by omega)⟩
set_option maxRecDepth 100000 in
theorem same_c (d : Nat) : ∀ a b : Ty, a.size ≤ d → BCall Try.prog 108 [.agg a.cells, .agg b.cells] (a = b) := by
  induction d with
  | zero => intro a b hd; have := Ty.size_pos a; omega
  | succ d ih =>
    rintro ⟨k1, s1, n1, ks1⟩ ⟨k2, s2, n2, ks2⟩ hd
    rw [Ty.size] at hd
    have E : BCall Try.prog 109 [.seq 4 (Ty.cellss ks1), .seq 4 (Ty.cellss ks2), .clo (.func 108) [] []] (ks1 = ks2) := by
      have := EqF_c (fun (_ : Unit) M => M = []) (fun _ _ => True) sameStep 108 [] [] ks1 ks2 (fun acc i x y M hx hy _ hM => by
        subst hM
        have hs := Ty.size_at hx
        refine (ih x y (by omega)).mono ?_
        rintro v M' ⟨⟨c, hc, rfl⟩, rfl⟩
        refine ⟨c, rfl, fun e => ⟨(), by unfold sameStep; rw [if_pos (hc.1 e)], trivial, rfl⟩, fun e => ?_⟩
        unfold sameStep
        rw [if_neg (fun q => by rw [hc.2 q] at e; cases e)]) () [] trivial rfl
      refine this.weak ?_
      rintro v M' ⟨c, rfl, hy, hn⟩
      refine ⟨_, [], Le.refl _, MLe.none _, ⟨c, ?_, rfl⟩, rfl⟩
      rw [← same_fold]
      cases c
      · simp [hn rfl]
      · obtain ⟨_, h, _⟩ := hy rfl
        simp [h]
    refine ACall.enter Try.func108 rfl (by kernel_rfl) rfl (Nat.le_of_ble_eq_true rfl) ?_
    refine c_start ?_
    refine c_seq ?_
    refine c_region ?_
    refine AOps.st 2 rfl rfl rfl (op_box rfl rfl rfl ?_); intro b2
    refine AOps.st 3 rfl rfl rfl (op_box rfl rfl rfl ?_); intro b3
    refine AOps.st 4 rfl rfl rfl (op_assign rfl rfl ?_)
    refine AOps.nil ?_
    refine go_code ?_
    refine c_seq ?_
    refine c_bool 4 (Ty.mk k1 s1 n1 ks1 = Ty.mk k2 s2 n2 ks2) ?_ _ _ rfl ?_
    · skip
      first | (refine AOps.st 5 rfl rfl rfl (op_fieldAddr_m rfl tf_24_0 rfl ?_)) | (refine AOps.st 5 rfl rfl rfl (op_fieldAddr_c rfl tf_24_0 rfl rfl ?_))
      first | (refine AOps.st 6 rfl rfl rfl (op_load_m1 (i := 0) rfl ta_3 rfl rfl rfl ?_)) | (refine AOps.st 6 rfl rfl rfl (op_load_m1 (i := 1) rfl ta_3 rfl rfl rfl ?_)) | (refine AOps.st 6 rfl rfl rfl (op_load_m1 (i := 2) rfl ta_3 rfl rfl rfl ?_)) | (refine AOps.st 6 rfl rfl rfl (op_load_m1 (i := 3) rfl ta_3 rfl rfl rfl ?_)) | (refine AOps.st 6 rfl rfl rfl (op_load_m1 (i := 4) rfl ta_3 rfl rfl rfl ?_)) | (refine AOps.st 6 rfl rfl rfl (op_load_m1 (i := 5) rfl ta_3 rfl rfl rfl ?_)) | (refine AOps.st 6 rfl rfl rfl (op_load_c1 rfl ta_3 rfl rfl ?_))
      first | (refine AOps.st 7 rfl rfl rfl (op_fieldAddr_m rfl tf_24_0 rfl ?_)) | (refine AOps.st 7 rfl rfl rfl (op_fieldAddr_c rfl tf_24_0 rfl rfl ?_))
      first | (refine AOps.st 8 rfl rfl rfl (op_load_m1 (i := 0) rfl ta_3 rfl rfl rfl ?_)) | (refine AOps.st 8 rfl rfl rfl (op_load_m1 (i := 1) rfl ta_3 rfl rfl rfl ?_)) | (refine AOps.st 8 rfl rfl rfl (op_load_m1 (i := 2) rfl ta_3 rfl rfl rfl ?_)) | (refine AOps.st 8 rfl rfl rfl (op_load_m1 (i := 3) rfl ta_3 rfl rfl rfl ?_)) | (refine AOps.st 8 rfl rfl rfl (op_load_m1 (i := 4) rfl ta_3 rfl rfl rfl ?_)) | (refine AOps.st 8 rfl rfl rfl (op_load_m1 (i := 5) rfl ta_3 rfl rfl rfl ?_)) | (refine AOps.st 8 rfl rfl rfl (op_load_c1 rfl ta_3 rfl rfl ?_))
      refine AOps.st 9 rfl rfl rfl (op_eql rfl rfl rfl ?_); intro c9 h9
      refine AOps.st 10 rfl rfl rfl (op_move rfl rfl ?_)
      rcases bool_split h9 with ⟨rfl, g9⟩ | ⟨rfl, g9⟩
      · skip
        refine AOps.gf 11 rfl rfl rfl rfl rfl ?_
        refine AOps.gf 12 rfl rfl rfl rfl rfl ?_
        refine AOps.gf 13 rfl rfl rfl rfl rfl ?_
        refine AOps.gf 14 rfl rfl rfl rfl rfl ?_
        refine AOps.gf 15 rfl rfl rfl rfl rfl ?_
        refine AOps.st 16 rfl rfl rfl (op_pick rfl rfl rfl ?_)
        refine AOps.st 17 rfl rfl rfl (op_move rfl rfl ?_)
        refine AOps.gf 18 rfl rfl rfl rfl rfl ?_
        refine AOps.gf 19 rfl rfl rfl rfl rfl ?_
        refine AOps.gf 20 rfl rfl rfl rfl rfl ?_
        refine AOps.gf 21 rfl rfl rfl rfl rfl ?_
        refine AOps.gf 22 rfl rfl rfl rfl rfl ?_
        refine AOps.st 23 rfl rfl rfl (op_pick rfl rfl rfl ?_)
        refine AOps.st 24 rfl rfl rfl (op_move rfl rfl ?_)
        refine AOps.gf 25 rfl rfl rfl rfl rfl ?_
        refine AOps.gf 26 rfl rfl rfl rfl rfl ?_
        refine AOps.gf 27 rfl rfl rfl rfl rfl ?_
        refine AOps.gf 28 rfl rfl rfl rfl rfl ?_
        refine AOps.gf 29 rfl rfl rfl rfl rfl ?_
        refine AOps.st 30 rfl rfl rfl (op_pick rfl rfl rfl ?_)
        refine AOps.st 4 rfl rfl rfl (op_assign rfl rfl ?_)
        refine AOps.nil ?_
        refine BoolQ.mk rfl ?_ (by repeat' (first | exact SLe.refl _ | refine SLe.fresh rfl ?_)) (by first | exact MLe.none _ | exact MLe.refl _ | (repeat' (first | exact MLe.nil | exact MLe.refl _ | refine MLe.cons _ ?_ | refine MLe.drop _ ?_)))
        simp_all
      · skip
        first | (refine AOps.gt 11 rfl rfl rfl rfl rfl (op_fieldAddr_m rfl tf_24_1 rfl ?_)) | (refine AOps.gt 11 rfl rfl rfl rfl rfl (op_fieldAddr_c rfl tf_24_1 rfl rfl ?_))
        first | (refine AOps.gt 12 rfl rfl rfl rfl rfl (op_load_m1 (i := 0) rfl ta_9 rfl rfl rfl ?_)) | (refine AOps.gt 12 rfl rfl rfl rfl rfl (op_load_m1 (i := 1) rfl ta_9 rfl rfl rfl ?_)) | (refine AOps.gt 12 rfl rfl rfl rfl rfl (op_load_m1 (i := 2) rfl ta_9 rfl rfl rfl ?_)) | (refine AOps.gt 12 rfl rfl rfl rfl rfl (op_load_m1 (i := 3) rfl ta_9 rfl rfl rfl ?_)) | (refine AOps.gt 12 rfl rfl rfl rfl rfl (op_load_m1 (i := 4) rfl ta_9 rfl rfl rfl ?_)) | (refine AOps.gt 12 rfl rfl rfl rfl rfl (op_load_m1 (i := 5) rfl ta_9 rfl rfl rfl ?_)) | (refine AOps.gt 12 rfl rfl rfl rfl rfl (op_load_c1 rfl ta_9 rfl rfl ?_))
        first | (refine AOps.gt 13 rfl rfl rfl rfl rfl (op_fieldAddr_m rfl tf_24_1 rfl ?_)) | (refine AOps.gt 13 rfl rfl rfl rfl rfl (op_fieldAddr_c rfl tf_24_1 rfl rfl ?_))
        first | (refine AOps.gt 14 rfl rfl rfl rfl rfl (op_load_m1 (i := 0) rfl ta_9 rfl rfl rfl ?_)) | (refine AOps.gt 14 rfl rfl rfl rfl rfl (op_load_m1 (i := 1) rfl ta_9 rfl rfl rfl ?_)) | (refine AOps.gt 14 rfl rfl rfl rfl rfl (op_load_m1 (i := 2) rfl ta_9 rfl rfl rfl ?_)) | (refine AOps.gt 14 rfl rfl rfl rfl rfl (op_load_m1 (i := 3) rfl ta_9 rfl rfl rfl ?_)) | (refine AOps.gt 14 rfl rfl rfl rfl rfl (op_load_m1 (i := 4) rfl ta_9 rfl rfl rfl ?_)) | (refine AOps.gt 14 rfl rfl rfl rfl rfl (op_load_m1 (i := 5) rfl ta_9 rfl rfl rfl ?_)) | (refine AOps.gt 14 rfl rfl rfl rfl rfl (op_load_c1 rfl ta_9 rfl rfl ?_))
        refine AOps.gt 15 rfl rfl rfl rfl rfl (op_seql rfl rfl rfl ?_); intro c15 h15
        refine AOps.st 16 rfl rfl rfl (op_pick rfl rfl rfl ?_)
        refine AOps.st 17 rfl rfl rfl (op_move rfl rfl ?_)
        rcases bool_split h15 with ⟨rfl, g15⟩ | ⟨rfl, g15⟩
        · skip
          refine AOps.gf 18 rfl rfl rfl rfl rfl ?_
          refine AOps.gf 19 rfl rfl rfl rfl rfl ?_
          refine AOps.gf 20 rfl rfl rfl rfl rfl ?_
          refine AOps.gf 21 rfl rfl rfl rfl rfl ?_
          refine AOps.gf 22 rfl rfl rfl rfl rfl ?_
          refine AOps.st 23 rfl rfl rfl (op_pick rfl rfl rfl ?_)
          refine AOps.st 24 rfl rfl rfl (op_move rfl rfl ?_)
          refine AOps.gf 25 rfl rfl rfl rfl rfl ?_
          refine AOps.gf 26 rfl rfl rfl rfl rfl ?_
          refine AOps.gf 27 rfl rfl rfl rfl rfl ?_
          refine AOps.gf 28 rfl rfl rfl rfl rfl ?_
          refine AOps.gf 29 rfl rfl rfl rfl rfl ?_
          refine AOps.st 30 rfl rfl rfl (op_pick rfl rfl rfl ?_)
          refine AOps.st 4 rfl rfl rfl (op_assign rfl rfl ?_)
          refine AOps.nil ?_
          refine BoolQ.mk rfl ?_ (by repeat' (first | exact SLe.refl _ | refine SLe.fresh rfl ?_)) (by first | exact MLe.none _ | exact MLe.refl _ | (repeat' (first | exact MLe.nil | exact MLe.refl _ | refine MLe.cons _ ?_ | refine MLe.drop _ ?_)))
          simp_all
        · skip
          first | (refine AOps.gt 18 rfl rfl rfl rfl rfl (op_fieldAddr_m rfl tf_24_2 rfl ?_)) | (refine AOps.gt 18 rfl rfl rfl rfl rfl (op_fieldAddr_c rfl tf_24_2 rfl rfl ?_))
          first | (refine AOps.gt 19 rfl rfl rfl rfl rfl (op_load_m1 (i := 0) rfl ta_3 rfl rfl rfl ?_)) | (refine AOps.gt 19 rfl rfl rfl rfl rfl (op_load_m1 (i := 1) rfl ta_3 rfl rfl rfl ?_)) | (refine AOps.gt 19 rfl rfl rfl rfl rfl (op_load_m1 (i := 2) rfl ta_3 rfl rfl rfl ?_)) | (refine AOps.gt 19 rfl rfl rfl rfl rfl (op_load_m1 (i := 3) rfl ta_3 rfl rfl rfl ?_)) | (refine AOps.gt 19 rfl rfl rfl rfl rfl (op_load_m1 (i := 4) rfl ta_3 rfl rfl rfl ?_)) | (refine AOps.gt 19 rfl rfl rfl rfl rfl (op_load_m1 (i := 5) rfl ta_3 rfl rfl rfl ?_)) | (refine AOps.gt 19 rfl rfl rfl rfl rfl (op_load_c1 rfl ta_3 rfl rfl ?_))
          first | (refine AOps.gt 20 rfl rfl rfl rfl rfl (op_fieldAddr_m rfl tf_24_2 rfl ?_)) | (refine AOps.gt 20 rfl rfl rfl rfl rfl (op_fieldAddr_c rfl tf_24_2 rfl rfl ?_))
          first | (refine AOps.gt 21 rfl rfl rfl rfl rfl (op_load_m1 (i := 0) rfl ta_3 rfl rfl rfl ?_)) | (refine AOps.gt 21 rfl rfl rfl rfl rfl (op_load_m1 (i := 1) rfl ta_3 rfl rfl rfl ?_)) | (refine AOps.gt 21 rfl rfl rfl rfl rfl (op_load_m1 (i := 2) rfl ta_3 rfl rfl rfl ?_)) | (refine AOps.gt 21 rfl rfl rfl rfl rfl (op_load_m1 (i := 3) rfl ta_3 rfl rfl rfl ?_)) | (refine AOps.gt 21 rfl rfl rfl rfl rfl (op_load_m1 (i := 4) rfl ta_3 rfl rfl rfl ?_)) | (refine AOps.gt 21 rfl rfl rfl rfl rfl (op_load_m1 (i := 5) rfl ta_3 rfl rfl rfl ?_)) | (refine AOps.gt 21 rfl rfl rfl rfl rfl (op_load_c1 rfl ta_3 rfl rfl ?_))
          refine AOps.gt 22 rfl rfl rfl rfl rfl (op_eql rfl rfl rfl ?_); intro c22 h22
          refine AOps.st 23 rfl rfl rfl (op_pick rfl rfl rfl ?_)
          refine AOps.st 24 rfl rfl rfl (op_move rfl rfl ?_)
          rcases bool_split h22 with ⟨rfl, g22⟩ | ⟨rfl, g22⟩
          · skip
            refine AOps.gf 25 rfl rfl rfl rfl rfl ?_
            refine AOps.gf 26 rfl rfl rfl rfl rfl ?_
            refine AOps.gf 27 rfl rfl rfl rfl rfl ?_
            refine AOps.gf 28 rfl rfl rfl rfl rfl ?_
            refine AOps.gf 29 rfl rfl rfl rfl rfl ?_
            refine AOps.st 30 rfl rfl rfl (op_pick rfl rfl rfl ?_)
            refine AOps.st 4 rfl rfl rfl (op_assign rfl rfl ?_)
            refine AOps.nil ?_
            refine BoolQ.mk rfl ?_ (by repeat' (first | exact SLe.refl _ | refine SLe.fresh rfl ?_)) (by first | exact MLe.none _ | exact MLe.refl _ | (repeat' (first | exact MLe.nil | exact MLe.refl _ | refine MLe.cons _ ?_ | refine MLe.drop _ ?_)))
            simp_all
          · skip
            first | (refine AOps.gt 25 rfl rfl rfl rfl rfl (op_fieldAddr_m rfl tf_24_3 rfl ?_)) | (refine AOps.gt 25 rfl rfl rfl rfl rfl (op_fieldAddr_c rfl tf_24_3 rfl rfl ?_))
            first | (refine AOps.gt 26 rfl rfl rfl rfl rfl (op_load_m1 (i := 0) rfl ta_22 rfl rfl rfl ?_)) | (refine AOps.gt 26 rfl rfl rfl rfl rfl (op_load_m1 (i := 1) rfl ta_22 rfl rfl rfl ?_)) | (refine AOps.gt 26 rfl rfl rfl rfl rfl (op_load_m1 (i := 2) rfl ta_22 rfl rfl rfl ?_)) | (refine AOps.gt 26 rfl rfl rfl rfl rfl (op_load_m1 (i := 3) rfl ta_22 rfl rfl rfl ?_)) | (refine AOps.gt 26 rfl rfl rfl rfl rfl (op_load_m1 (i := 4) rfl ta_22 rfl rfl rfl ?_)) | (refine AOps.gt 26 rfl rfl rfl rfl rfl (op_load_m1 (i := 5) rfl ta_22 rfl rfl rfl ?_)) | (refine AOps.gt 26 rfl rfl rfl rfl rfl (op_load_c1 rfl ta_22 rfl rfl ?_))
            first | (refine AOps.gt 27 rfl rfl rfl rfl rfl (op_fieldAddr_m rfl tf_24_3 rfl ?_)) | (refine AOps.gt 27 rfl rfl rfl rfl rfl (op_fieldAddr_c rfl tf_24_3 rfl rfl ?_))
            first | (refine AOps.gt 28 rfl rfl rfl rfl rfl (op_load_m1 (i := 0) rfl ta_22 rfl rfl rfl ?_)) | (refine AOps.gt 28 rfl rfl rfl rfl rfl (op_load_m1 (i := 1) rfl ta_22 rfl rfl rfl ?_)) | (refine AOps.gt 28 rfl rfl rfl rfl rfl (op_load_m1 (i := 2) rfl ta_22 rfl rfl rfl ?_)) | (refine AOps.gt 28 rfl rfl rfl rfl rfl (op_load_m1 (i := 3) rfl ta_22 rfl rfl rfl ?_)) | (refine AOps.gt 28 rfl rfl rfl rfl rfl (op_load_m1 (i := 4) rfl ta_22 rfl rfl rfl ?_)) | (refine AOps.gt 28 rfl rfl rfl rfl rfl (op_load_m1 (i := 5) rfl ta_22 rfl rfl rfl ?_)) | (refine AOps.gt 28 rfl rfl rfl rfl rfl (op_load_c1 rfl ta_22 rfl rfl ?_))
            refine AOps.gt 29 rfl rfl rfl rfl rfl (op_callb (xs := [.tmp 26, .tmp 28, .func 108]) rfl rfl (E) (by first | exact Les.refl _ | (repeat' (first | exact Les.refl _ | refine Les.cons ?_ ?_ | exact Le.refl _ | exact Le.own _ _ _ | exact Le.nil _ | refine Le.agg ?_))) ?_); intro c29 h29
            refine AOps.st 30 rfl rfl rfl (op_pick rfl rfl rfl ?_)
            refine AOps.st 4 rfl rfl rfl (op_assign rfl rfl ?_)
            refine AOps.nil ?_
            refine BoolQ.mk rfl ?_ (by repeat' (first | exact SLe.refl _ | refine SLe.fresh rfl ?_)) (by first | exact MLe.none _ | exact MLe.refl _ | (repeat' (first | exact MLe.nil | exact MLe.refl _ | refine MLe.cons _ ?_ | refine MLe.drop _ ?_)))
            simp_all
    intro c4 h4
    refine go_code ?_
    refine c_ret ?_
    exact out_tmp rfl rfl (Le.refl _) (by first | exact MLe.none _ | exact MLe.refl _ | (repeat' (first | exact MLe.nil | exact MLe.refl _ | refine MLe.cons _ ?_ | refine MLe.drop _ ?_))) ⟨⟨_, h4, rfl⟩, rfl⟩
/-- the matcher in memory -/
def GT (bm : Nat) (st : MSt) (M : Mem) : Prop := ∃ u1 u2, M = [.loc bm [.own u1 1 (strs st.1), .own u2 4 (Ty.cellss st.2)], .own 9 1 u1, .own 24 4 u2]
theorem mt_var {st : MSt} {s : ByteArray} {n : Int} {ks : List Ty} {b : Ty} : mt st (.mk 1 s n ks) b = if 0 ≤ firstAt s st.1 0 then (if st.2[(firstAt s st.1 0).toNat]? = some b then some st else none) else some (st.1 ++ [s], st.2 ++ [b]) := by rw [mt, if_pos rfl]
theorem mt_con {st : MSt} {k : Int} {s : ByteArray} {n : Int} {ks : List Ty} {b : Ty} (h : k ≠ 1) : mt st (.mk k s n ks) b = if k = b.kind ∧ s = b.name ∧ n = b.num then mts st ks b.kids else none := by rw [mt, if_neg h]
set_option maxRecDepth 100000 in
theorem match_c (bm : Nat) (d : Nat) : ∀ (a b : Ty) (st : MSt) (M : Mem), a.size ≤ d → a.VarOk → b.size ≤ 1000000 → st.1.length = st.2.length → st.1.length + a.size ≤ 2000000 → GT bm st M →
    ACall Try.prog 61 [.ptr bm 0, .agg a.cells, .agg b.cells] M (fun v M' => ∃ c : Bool, v = .val (.bool c) ∧ (c = true → ∃ st', mt st a b = some st' ∧ GT bm st' M') ∧ (c = false → mt st a b = none)) := by
  induction d with
  | zero => intro a b st M hd; have := Ty.size_pos a; omega
  | succ d ih =>
    rintro ⟨k1, s1, n1, ks1⟩ ⟨k2, s2, n2, ks2⟩ ⟨nms, tys⟩ M hd hv hb hst hbd ⟨u1, u2, rfl⟩
    have hv' := hv
    obtain ⟨_, _, _, _, hvk, hvs⟩ := hv
    rw [Ty.size] at hd hbd
    simp only at hst hbd
    have hln := strs_len nms
    have hlt := Ty.cellss_len tys
    have hfl := firstAt_lt s1 nms 0
    have hb0 := hb
    rw [Ty.size] at hb
    have E := EqF_c (GT bm) (fun acc i => acc.1.length = acc.2.length ∧ acc.1.length + Ty.sizes (ks1.drop i) ≤ 2000000) mt 61 [.ptr bm 0] [] ks1 ks2 (fun acc i x y M hx hy hD hG => by
      have hs := Ty.size_at hx
      have hs2 := Ty.size_at hy
      rw [drop_at hx, Ty.sizes] at hD
      refine (ih x y acc M (by omega) (hvs x (List.mem_of_getElem? hx)) (by omega) hD.1 (by omega) hG).mono ?_
      rintro v M' ⟨c, rfl, h1, h2⟩
      refine ⟨c, rfl, fun e => ?_, h2⟩
      obtain ⟨st', h3, h4⟩ := h1 e
      have := mt_len x acc st' y h3 hD.1
      exact ⟨st', h3, ⟨this.1, by omega⟩, h4⟩) (nms, tys) _ ⟨hst, by simp only [List.drop_zero]; omega⟩ ⟨u1, u2, rfl⟩
    rw [← mts_fold] at E
    refine ACall.enter Try.func61 rfl (by kernel_rfl) rfl (Nat.le_of_ble_eq_true rfl) ?_
    refine c_start ?_
    refine c_seq ?_
    refine c_region ?_
    refine AOps.st 4 rfl rfl rfl (op_box rfl rfl rfl ?_); intro b4
    refine AOps.st 5 rfl rfl rfl (op_box rfl rfl rfl ?_); intro b5
    refine AOps.st 6 rfl rfl rfl (op_assign rfl rfl ?_)
    refine AOps.nil ?_
    refine go_code ?_
    refine c_seq ?_
    refine c_seq ?_
    refine c_region ?_
    first | (refine AOps.st 8 rfl rfl rfl (op_fieldAddr_m rfl tf_24_0 rfl ?_)) | (refine AOps.st 8 rfl rfl rfl (op_fieldAddr_c rfl tf_24_0 rfl rfl ?_))
    first | (refine AOps.st 9 rfl rfl rfl (op_load_m1 (i := 0) rfl ta_3 rfl rfl rfl ?_)) | (refine AOps.st 9 rfl rfl rfl (op_load_m1 (i := 1) rfl ta_3 rfl rfl rfl ?_)) | (refine AOps.st 9 rfl rfl rfl (op_load_m1 (i := 2) rfl ta_3 rfl rfl rfl ?_)) | (refine AOps.st 9 rfl rfl rfl (op_load_m1 (i := 3) rfl ta_3 rfl rfl rfl ?_)) | (refine AOps.st 9 rfl rfl rfl (op_load_m1 (i := 4) rfl ta_3 rfl rfl rfl ?_)) | (refine AOps.st 9 rfl rfl rfl (op_load_m1 (i := 5) rfl ta_3 rfl rfl rfl ?_)) | (refine AOps.st 9 rfl rfl rfl (op_load_c1 rfl ta_3 rfl rfl ?_))
    refine AOps.st 10 rfl rfl rfl (op_eql rfl rfl rfl ?_); intro c10 h10
    refine AOps.nil ?_
    refine go_code ?_
    rcases bool_split h10 with ⟨rfl, g10⟩ | ⟨rfl, g10⟩
    · refine c_cond_f rfl ?_
      refine c_skip ?_
      refine go_code ?_
      refine c_seq ?_
      refine c_region ?_
      first | (refine AOps.st 83 rfl rfl rfl (op_fieldAddr_m rfl tf_24_0 rfl ?_)) | (refine AOps.st 83 rfl rfl rfl (op_fieldAddr_c rfl tf_24_0 rfl rfl ?_))
      first | (refine AOps.st 84 rfl rfl rfl (op_load_m1 (i := 0) rfl ta_3 rfl rfl rfl ?_)) | (refine AOps.st 84 rfl rfl rfl (op_load_m1 (i := 1) rfl ta_3 rfl rfl rfl ?_)) | (refine AOps.st 84 rfl rfl rfl (op_load_m1 (i := 2) rfl ta_3 rfl rfl rfl ?_)) | (refine AOps.st 84 rfl rfl rfl (op_load_m1 (i := 3) rfl ta_3 rfl rfl rfl ?_)) | (refine AOps.st 84 rfl rfl rfl (op_load_m1 (i := 4) rfl ta_3 rfl rfl rfl ?_)) | (refine AOps.st 84 rfl rfl rfl (op_load_m1 (i := 5) rfl ta_3 rfl rfl rfl ?_)) | (refine AOps.st 84 rfl rfl rfl (op_load_c1 rfl ta_3 rfl rfl ?_))
      first | (refine AOps.st 85 rfl rfl rfl (op_fieldAddr_m rfl tf_24_0 rfl ?_)) | (refine AOps.st 85 rfl rfl rfl (op_fieldAddr_c rfl tf_24_0 rfl rfl ?_))
      first | (refine AOps.st 86 rfl rfl rfl (op_load_m1 (i := 0) rfl ta_3 rfl rfl rfl ?_)) | (refine AOps.st 86 rfl rfl rfl (op_load_m1 (i := 1) rfl ta_3 rfl rfl rfl ?_)) | (refine AOps.st 86 rfl rfl rfl (op_load_m1 (i := 2) rfl ta_3 rfl rfl rfl ?_)) | (refine AOps.st 86 rfl rfl rfl (op_load_m1 (i := 3) rfl ta_3 rfl rfl rfl ?_)) | (refine AOps.st 86 rfl rfl rfl (op_load_m1 (i := 4) rfl ta_3 rfl rfl rfl ?_)) | (refine AOps.st 86 rfl rfl rfl (op_load_m1 (i := 5) rfl ta_3 rfl rfl rfl ?_)) | (refine AOps.st 86 rfl rfl rfl (op_load_c1 rfl ta_3 rfl rfl ?_))
      refine AOps.st 87 rfl rfl rfl (op_eql rfl rfl rfl ?_); intro c87 h87
      refine AOps.st 88 rfl rfl rfl (op_move rfl rfl ?_)
      rcases bool_split h87 with ⟨rfl, g87⟩ | ⟨rfl, g87⟩
      · skip
        refine AOps.gf 89 rfl rfl rfl rfl rfl ?_
        refine AOps.gf 90 rfl rfl rfl rfl rfl ?_
        refine AOps.gf 91 rfl rfl rfl rfl rfl ?_
        refine AOps.gf 92 rfl rfl rfl rfl rfl ?_
        refine AOps.gf 93 rfl rfl rfl rfl rfl ?_
        refine AOps.st 94 rfl rfl rfl (op_pick rfl rfl rfl ?_)
        refine AOps.st 95 rfl rfl rfl (op_move rfl rfl ?_)
        refine AOps.gf 96 rfl rfl rfl rfl rfl ?_
        refine AOps.gf 97 rfl rfl rfl rfl rfl ?_
        refine AOps.gf 98 rfl rfl rfl rfl rfl ?_
        refine AOps.gf 99 rfl rfl rfl rfl rfl ?_
        refine AOps.gf 100 rfl rfl rfl rfl rfl ?_
        refine AOps.st 101 rfl rfl rfl (op_pick rfl rfl rfl ?_)
        refine AOps.st 102 rfl rfl rfl (op_move rfl rfl ?_)
        refine AOps.gf 103 rfl rfl rfl rfl rfl ?_
        refine AOps.gf 104 rfl rfl rfl rfl rfl ?_
        refine AOps.gf 105 rfl rfl rfl rfl rfl ?_
        refine AOps.gf 106 rfl rfl rfl rfl rfl ?_
        refine AOps.gf 107 rfl rfl rfl rfl rfl ?_
        refine AOps.gf 108 rfl rfl rfl rfl rfl ?_
        refine AOps.gf 109 rfl rfl rfl rfl rfl ?_
        refine AOps.st 110 rfl rfl rfl (op_pick rfl rfl rfl ?_)
        refine AOps.st 6 rfl rfl rfl (op_assign rfl rfl ?_)
        refine AOps.nil ?_
        refine go_code ?_
        refine c_ret ?_
        first
          | exact out_tmp rfl rfl (Le.refl _) (MLe.drop _ (MLe.drop _ (MLe.refl _))) ⟨c109, rfl, fun e => (by rw [mt_con g10, if_pos ⟨g87, g93, g100⟩]; obtain ⟨a, q1, _, q2⟩ := hyes e; exact ⟨a, q1, q2⟩), fun e => (by rw [mt_con g10, if_pos ⟨g87, g93, g100⟩]; exact hno e)⟩
          | exact out_tmp rfl rfl (Le.refl _) (MLe.refl _) ⟨false, rfl, fun e => (by cases e), fun _ => (by rw [mt_con g10, if_neg (fun q => g87 q.1)])⟩
          | exact out_tmp rfl rfl (Le.refl _) (MLe.refl _) ⟨false, rfl, fun e => (by cases e), fun _ => (by rw [mt_con g10, if_neg (fun q => g93 q.2.1)])⟩
          | exact out_tmp rfl rfl (Le.refl _) (MLe.refl _) ⟨false, rfl, fun e => (by cases e), fun _ => (by rw [mt_con g10, if_neg (fun q => g100 q.2.2)])⟩
      · skip
        first | (refine AOps.gt 89 rfl rfl rfl rfl rfl (op_fieldAddr_m rfl tf_24_1 rfl ?_)) | (refine AOps.gt 89 rfl rfl rfl rfl rfl (op_fieldAddr_c rfl tf_24_1 rfl rfl ?_))
        first | (refine AOps.gt 90 rfl rfl rfl rfl rfl (op_load_m1 (i := 0) rfl ta_9 rfl rfl rfl ?_)) | (refine AOps.gt 90 rfl rfl rfl rfl rfl (op_load_m1 (i := 1) rfl ta_9 rfl rfl rfl ?_)) | (refine AOps.gt 90 rfl rfl rfl rfl rfl (op_load_m1 (i := 2) rfl ta_9 rfl rfl rfl ?_)) | (refine AOps.gt 90 rfl rfl rfl rfl rfl (op_load_m1 (i := 3) rfl ta_9 rfl rfl rfl ?_)) | (refine AOps.gt 90 rfl rfl rfl rfl rfl (op_load_m1 (i := 4) rfl ta_9 rfl rfl rfl ?_)) | (refine AOps.gt 90 rfl rfl rfl rfl rfl (op_load_m1 (i := 5) rfl ta_9 rfl rfl rfl ?_)) | (refine AOps.gt 90 rfl rfl rfl rfl rfl (op_load_c1 rfl ta_9 rfl rfl ?_))
        first | (refine AOps.gt 91 rfl rfl rfl rfl rfl (op_fieldAddr_m rfl tf_24_1 rfl ?_)) | (refine AOps.gt 91 rfl rfl rfl rfl rfl (op_fieldAddr_c rfl tf_24_1 rfl rfl ?_))
        first | (refine AOps.gt 92 rfl rfl rfl rfl rfl (op_load_m1 (i := 0) rfl ta_9 rfl rfl rfl ?_)) | (refine AOps.gt 92 rfl rfl rfl rfl rfl (op_load_m1 (i := 1) rfl ta_9 rfl rfl rfl ?_)) | (refine AOps.gt 92 rfl rfl rfl rfl rfl (op_load_m1 (i := 2) rfl ta_9 rfl rfl rfl ?_)) | (refine AOps.gt 92 rfl rfl rfl rfl rfl (op_load_m1 (i := 3) rfl ta_9 rfl rfl rfl ?_)) | (refine AOps.gt 92 rfl rfl rfl rfl rfl (op_load_m1 (i := 4) rfl ta_9 rfl rfl rfl ?_)) | (refine AOps.gt 92 rfl rfl rfl rfl rfl (op_load_m1 (i := 5) rfl ta_9 rfl rfl rfl ?_)) | (refine AOps.gt 92 rfl rfl rfl rfl rfl (op_load_c1 rfl ta_9 rfl rfl ?_))
        refine AOps.gt 93 rfl rfl rfl rfl rfl (op_seql rfl rfl rfl ?_); intro c93 h93
        refine AOps.st 94 rfl rfl rfl (op_pick rfl rfl rfl ?_)
        refine AOps.st 95 rfl rfl rfl (op_move rfl rfl ?_)
        rcases bool_split h93 with ⟨rfl, g93⟩ | ⟨rfl, g93⟩
        · skip
          refine AOps.gf 96 rfl rfl rfl rfl rfl ?_
          refine AOps.gf 97 rfl rfl rfl rfl rfl ?_
          refine AOps.gf 98 rfl rfl rfl rfl rfl ?_
          refine AOps.gf 99 rfl rfl rfl rfl rfl ?_
          refine AOps.gf 100 rfl rfl rfl rfl rfl ?_
          refine AOps.st 101 rfl rfl rfl (op_pick rfl rfl rfl ?_)
          refine AOps.st 102 rfl rfl rfl (op_move rfl rfl ?_)
          refine AOps.gf 103 rfl rfl rfl rfl rfl ?_
          refine AOps.gf 104 rfl rfl rfl rfl rfl ?_
          refine AOps.gf 105 rfl rfl rfl rfl rfl ?_
          refine AOps.gf 106 rfl rfl rfl rfl rfl ?_
          refine AOps.gf 107 rfl rfl rfl rfl rfl ?_
          refine AOps.gf 108 rfl rfl rfl rfl rfl ?_
          refine AOps.gf 109 rfl rfl rfl rfl rfl ?_
          refine AOps.st 110 rfl rfl rfl (op_pick rfl rfl rfl ?_)
          refine AOps.st 6 rfl rfl rfl (op_assign rfl rfl ?_)
          refine AOps.nil ?_
          refine go_code ?_
          refine c_ret ?_
          first
            | exact out_tmp rfl rfl (Le.refl _) (MLe.drop _ (MLe.drop _ (MLe.refl _))) ⟨c109, rfl, fun e => (by rw [mt_con g10, if_pos ⟨g87, g93, g100⟩]; obtain ⟨a, q1, _, q2⟩ := hyes e; exact ⟨a, q1, q2⟩), fun e => (by rw [mt_con g10, if_pos ⟨g87, g93, g100⟩]; exact hno e)⟩
            | exact out_tmp rfl rfl (Le.refl _) (MLe.refl _) ⟨false, rfl, fun e => (by cases e), fun _ => (by rw [mt_con g10, if_neg (fun q => g87 q.1)])⟩
            | exact out_tmp rfl rfl (Le.refl _) (MLe.refl _) ⟨false, rfl, fun e => (by cases e), fun _ => (by rw [mt_con g10, if_neg (fun q => g93 q.2.1)])⟩
            | exact out_tmp rfl rfl (Le.refl _) (MLe.refl _) ⟨false, rfl, fun e => (by cases e), fun _ => (by rw [mt_con g10, if_neg (fun q => g100 q.2.2)])⟩
        · skip
          first | (refine AOps.gt 96 rfl rfl rfl rfl rfl (op_fieldAddr_m rfl tf_24_2 rfl ?_)) | (refine AOps.gt 96 rfl rfl rfl rfl rfl (op_fieldAddr_c rfl tf_24_2 rfl rfl ?_))
          first | (refine AOps.gt 97 rfl rfl rfl rfl rfl (op_load_m1 (i := 0) rfl ta_3 rfl rfl rfl ?_)) | (refine AOps.gt 97 rfl rfl rfl rfl rfl (op_load_m1 (i := 1) rfl ta_3 rfl rfl rfl ?_)) | (refine AOps.gt 97 rfl rfl rfl rfl rfl (op_load_m1 (i := 2) rfl ta_3 rfl rfl rfl ?_)) | (refine AOps.gt 97 rfl rfl rfl rfl rfl (op_load_m1 (i := 3) rfl ta_3 rfl rfl rfl ?_)) | (refine AOps.gt 97 rfl rfl rfl rfl rfl (op_load_m1 (i := 4) rfl ta_3 rfl rfl rfl ?_)) | (refine AOps.gt 97 rfl rfl rfl rfl rfl (op_load_m1 (i := 5) rfl ta_3 rfl rfl rfl ?_)) | (refine AOps.gt 97 rfl rfl rfl rfl rfl (op_load_c1 rfl ta_3 rfl rfl ?_))
          first | (refine AOps.gt 98 rfl rfl rfl rfl rfl (op_fieldAddr_m rfl tf_24_2 rfl ?_)) | (refine AOps.gt 98 rfl rfl rfl rfl rfl (op_fieldAddr_c rfl tf_24_2 rfl rfl ?_))
          first | (refine AOps.gt 99 rfl rfl rfl rfl rfl (op_load_m1 (i := 0) rfl ta_3 rfl rfl rfl ?_)) | (refine AOps.gt 99 rfl rfl rfl rfl rfl (op_load_m1 (i := 1) rfl ta_3 rfl rfl rfl ?_)) | (refine AOps.gt 99 rfl rfl rfl rfl rfl (op_load_m1 (i := 2) rfl ta_3 rfl rfl rfl ?_)) | (refine AOps.gt 99 rfl rfl rfl rfl rfl (op_load_m1 (i := 3) rfl ta_3 rfl rfl rfl ?_)) | (refine AOps.gt 99 rfl rfl rfl rfl rfl (op_load_m1 (i := 4) rfl ta_3 rfl rfl rfl ?_)) | (refine AOps.gt 99 rfl rfl rfl rfl rfl (op_load_m1 (i := 5) rfl ta_3 rfl rfl rfl ?_)) | (refine AOps.gt 99 rfl rfl rfl rfl rfl (op_load_c1 rfl ta_3 rfl rfl ?_))
          refine AOps.gt 100 rfl rfl rfl rfl rfl (op_eql rfl rfl rfl ?_); intro c100 h100
          refine AOps.st 101 rfl rfl rfl (op_pick rfl rfl rfl ?_)
          refine AOps.st 102 rfl rfl rfl (op_move rfl rfl ?_)
          rcases bool_split h100 with ⟨rfl, g100⟩ | ⟨rfl, g100⟩
          · skip
            refine AOps.gf 103 rfl rfl rfl rfl rfl ?_
            refine AOps.gf 104 rfl rfl rfl rfl rfl ?_
            refine AOps.gf 105 rfl rfl rfl rfl rfl ?_
            refine AOps.gf 106 rfl rfl rfl rfl rfl ?_
            refine AOps.gf 107 rfl rfl rfl rfl rfl ?_
            refine AOps.gf 108 rfl rfl rfl rfl rfl ?_
            refine AOps.gf 109 rfl rfl rfl rfl rfl ?_
            refine AOps.st 110 rfl rfl rfl (op_pick rfl rfl rfl ?_)
            refine AOps.st 6 rfl rfl rfl (op_assign rfl rfl ?_)
            refine AOps.nil ?_
            refine go_code ?_
            refine c_ret ?_
            first
              | exact out_tmp rfl rfl (Le.refl _) (MLe.drop _ (MLe.drop _ (MLe.refl _))) ⟨c109, rfl, fun e => (by rw [mt_con g10, if_pos ⟨g87, g93, g100⟩]; obtain ⟨a, q1, _, q2⟩ := hyes e; exact ⟨a, q1, q2⟩), fun e => (by rw [mt_con g10, if_pos ⟨g87, g93, g100⟩]; exact hno e)⟩
              | exact out_tmp rfl rfl (Le.refl _) (MLe.refl _) ⟨false, rfl, fun e => (by cases e), fun _ => (by rw [mt_con g10, if_neg (fun q => g87 q.1)])⟩
              | exact out_tmp rfl rfl (Le.refl _) (MLe.refl _) ⟨false, rfl, fun e => (by cases e), fun _ => (by rw [mt_con g10, if_neg (fun q => g93 q.2.1)])⟩
              | exact out_tmp rfl rfl (Le.refl _) (MLe.refl _) ⟨false, rfl, fun e => (by cases e), fun _ => (by rw [mt_con g10, if_neg (fun q => g100 q.2.2)])⟩
          · skip
            first | (refine AOps.gt 103 rfl rfl rfl rfl rfl (op_fieldAddr_m rfl tf_24_3 rfl ?_)) | (refine AOps.gt 103 rfl rfl rfl rfl rfl (op_fieldAddr_c rfl tf_24_3 rfl rfl ?_))
            first | (refine AOps.gt 104 rfl rfl rfl rfl rfl (op_load_m1 (i := 0) rfl ta_22 rfl rfl rfl ?_)) | (refine AOps.gt 104 rfl rfl rfl rfl rfl (op_load_m1 (i := 1) rfl ta_22 rfl rfl rfl ?_)) | (refine AOps.gt 104 rfl rfl rfl rfl rfl (op_load_m1 (i := 2) rfl ta_22 rfl rfl rfl ?_)) | (refine AOps.gt 104 rfl rfl rfl rfl rfl (op_load_m1 (i := 3) rfl ta_22 rfl rfl rfl ?_)) | (refine AOps.gt 104 rfl rfl rfl rfl rfl (op_load_m1 (i := 4) rfl ta_22 rfl rfl rfl ?_)) | (refine AOps.gt 104 rfl rfl rfl rfl rfl (op_load_m1 (i := 5) rfl ta_22 rfl rfl rfl ?_)) | (refine AOps.gt 104 rfl rfl rfl rfl rfl (op_load_c1 rfl ta_22 rfl rfl ?_))
            first | (refine AOps.gt 105 rfl rfl rfl rfl rfl (op_fieldAddr_m rfl tf_24_3 rfl ?_)) | (refine AOps.gt 105 rfl rfl rfl rfl rfl (op_fieldAddr_c rfl tf_24_3 rfl rfl ?_))
            first | (refine AOps.gt 106 rfl rfl rfl rfl rfl (op_load_m1 (i := 0) rfl ta_22 rfl rfl rfl ?_)) | (refine AOps.gt 106 rfl rfl rfl rfl rfl (op_load_m1 (i := 1) rfl ta_22 rfl rfl rfl ?_)) | (refine AOps.gt 106 rfl rfl rfl rfl rfl (op_load_m1 (i := 2) rfl ta_22 rfl rfl rfl ?_)) | (refine AOps.gt 106 rfl rfl rfl rfl rfl (op_load_m1 (i := 3) rfl ta_22 rfl rfl rfl ?_)) | (refine AOps.gt 106 rfl rfl rfl rfl rfl (op_load_m1 (i := 4) rfl ta_22 rfl rfl rfl ?_)) | (refine AOps.gt 106 rfl rfl rfl rfl rfl (op_load_m1 (i := 5) rfl ta_22 rfl rfl rfl ?_)) | (refine AOps.gt 106 rfl rfl rfl rfl rfl (op_load_c1 rfl ta_22 rfl rfl ?_))
            refine AOps.gt 107 rfl rfl rfl rfl rfl (op_move rfl rfl ?_)
            refine AOps.gt 108 rfl rfl rfl rfl rfl (op_makeFunc (fs := [.tmp 107]) (cs := []) rfl rfl rfl ?_)
            refine AOps.gt 109 rfl rfl rfl rfl rfl (op_callm (xs := [.tmp 104, .tmp 106, .tmp 108])  [.loc b5 _, .loc b4 _] rfl rfl rfl E (Les.refl _) (fun v109 M109 h109 => ?_))
            obtain ⟨c109, rfl, hyes, hno⟩ := h109
            refine AOps.st 110 rfl rfl rfl (op_pick rfl rfl rfl ?_)
            refine AOps.st 6 rfl rfl rfl (op_assign rfl rfl ?_)
            refine AOps.nil ?_
            refine go_code ?_
            refine c_ret ?_
            first
              | exact out_tmp rfl rfl (Le.refl _) (MLe.drop _ (MLe.drop _ (MLe.refl _))) ⟨c109, rfl, fun e => (by rw [mt_con g10, if_pos ⟨g87, g93, g100⟩]; obtain ⟨a, q1, _, q2⟩ := hyes e; exact ⟨a, q1, q2⟩), fun e => (by rw [mt_con g10, if_pos ⟨g87, g93, g100⟩]; exact hno e)⟩
              | exact out_tmp rfl rfl (Le.refl _) (MLe.refl _) ⟨false, rfl, fun e => (by cases e), fun _ => (by rw [mt_con g10, if_neg (fun q => g87 q.1)])⟩
              | exact out_tmp rfl rfl (Le.refl _) (MLe.refl _) ⟨false, rfl, fun e => (by cases e), fun _ => (by rw [mt_con g10, if_neg (fun q => g93 q.2.1)])⟩
              | exact out_tmp rfl rfl (Le.refl _) (MLe.refl _) ⟨false, rfl, fun e => (by cases e), fun _ => (by rw [mt_con g10, if_neg (fun q => g100 q.2.2)])⟩
    · refine c_cond_t rfl ?_
      refine c_seq ?_
      refine c_seq ?_
      refine c_drawn tmix rfl ?_
      refine DOps.st 11 rfl rfl (op_move rfl rfl ⟨rfl, rfl⟩) ?_
      first | (refine DOps.st 12 rfl rfl (op_nilCheck_m rfl rfl ⟨rfl, rfl⟩) ?_) | (refine DOps.st 12 rfl rfl (op_nilCheck_c rfl rfl ⟨rfl, rfl⟩) ?_) | (refine DOps.st 12 rfl rfl (op_nilCheck_f rfl rfl ⟨rfl, rfl⟩) ?_)
      first | (refine DOps.st 13 rfl rfl (op_fieldAddr_m rfl tf_87_0 rfl ⟨rfl, rfl⟩) ?_) | (refine DOps.st 13 rfl rfl (op_fieldAddr_c rfl tf_87_0 rfl rfl ⟨rfl, rfl⟩) ?_)
      first | (refine DOps.st 14 rfl rfl (op_load_m1 (i := 0) rfl ta_27 rfl rfl rfl ⟨rfl, rfl⟩) ?_) | (refine DOps.st 14 rfl rfl (op_load_m1 (i := 1) rfl ta_27 rfl rfl rfl ⟨rfl, rfl⟩) ?_) | (refine DOps.st 14 rfl rfl (op_load_m1 (i := 2) rfl ta_27 rfl rfl rfl ⟨rfl, rfl⟩) ?_) | (refine DOps.st 14 rfl rfl (op_load_m1 (i := 3) rfl ta_27 rfl rfl rfl ⟨rfl, rfl⟩) ?_) | (refine DOps.st 14 rfl rfl (op_load_m1 (i := 4) rfl ta_27 rfl rfl rfl ⟨rfl, rfl⟩) ?_) | (refine DOps.st 14 rfl rfl (op_load_m1 (i := 5) rfl ta_27 rfl rfl rfl ⟨rfl, rfl⟩) ?_) | (refine DOps.st 14 rfl rfl (op_load_c1 rfl ta_27 rfl rfl ⟨rfl, rfl⟩) ?_)
      first | (refine DOps.st 15 rfl rfl (op_fieldAddr_m rfl tf_24_1 rfl ⟨rfl, rfl⟩) ?_) | (refine DOps.st 15 rfl rfl (op_fieldAddr_c rfl tf_24_1 rfl rfl ⟨rfl, rfl⟩) ?_)
      first | (refine DOps.st 16 rfl rfl (op_load_m1 (i := 0) rfl ta_9 rfl rfl rfl ⟨rfl, rfl⟩) ?_) | (refine DOps.st 16 rfl rfl (op_load_m1 (i := 1) rfl ta_9 rfl rfl rfl ⟨rfl, rfl⟩) ?_) | (refine DOps.st 16 rfl rfl (op_load_m1 (i := 2) rfl ta_9 rfl rfl rfl ⟨rfl, rfl⟩) ?_) | (refine DOps.st 16 rfl rfl (op_load_m1 (i := 3) rfl ta_9 rfl rfl rfl ⟨rfl, rfl⟩) ?_) | (refine DOps.st 16 rfl rfl (op_load_m1 (i := 4) rfl ta_9 rfl rfl rfl ⟨rfl, rfl⟩) ?_) | (refine DOps.st 16 rfl rfl (op_load_m1 (i := 5) rfl ta_9 rfl rfl rfl ⟨rfl, rfl⟩) ?_) | (refine DOps.st 16 rfl rfl (op_load_c1 rfl ta_9 rfl rfl ⟨rfl, rfl⟩) ?_)
      refine DOps.st 17 rfl rfl (op_callp (xs := [.tmp 14, .tmp 16]) rfl rfl (IndexS_c nms s1) (by first | exact Les.refl _ | (repeat' (first | exact Les.refl _ | refine Les.cons ?_ ?_ | exact Le.refl _ | exact Le.own _ _ _ | exact Le.nil _ | refine Le.agg ?_))) ⟨rfl, rfl⟩) ?_
      refine DOps.st 7 rfl rfl (op_assign rfl rfl ⟨rfl, rfl⟩) ?_
      show AGo _ _ _ _ _ _
      refine go_code ?_
      refine c_seq ?_
      refine c_region ?_
      refine AOps.st 18 rfl rfl rfl (op_move rfl rfl ?_)
      refine AOps.st 19 rfl rfl rfl (op_geq rfl rfl rfl ?_); intro c19 h19
      refine AOps.nil ?_
      refine go_code ?_
      rcases bool_split h19 with ⟨rfl, g19⟩ | ⟨rfl, g19⟩
      · refine c_cond_f rfl ?_
        refine c_skip ?_
        refine go_code ?_
        refine c_seq ?_
        refine c_drawnE [0, 1, 2, 3, 4, 5, 6, 7, 8, 10, 11, 12, 13, 14, 9, 15, 16, 17, 18, 19, 20, 21, 22, 23] [9, 17, 20, 23] [[], [], [], [2], [2, 3], [2, 3, 4], [], [6], [6, 7], [2, 3, 4, 5, 6, 7, 8], [], [10], [10, 11], [10, 11, 12], [], [2, 3, 4, 5, 6, 7, 8, 9, 14], [2, 3, 4, 5, 6, 7, 8, 9, 14, 15], [2, 3, 4, 5, 6, 7, 8, 9, 10, 11, 12, 13, 14, 15, 16], [0, 2, 3, 4, 5, 6, 7, 8, 9, 10, 11, 12, 13, 14, 15, 16, 17], [0, 2, 3, 4, 5, 6, 7, 8, 9, 10, 11, 12, 13, 14, 15, 16, 17, 18], [0, 2, 3, 4, 5, 6, 7, 8, 9, 10, 11, 12, 13, 14, 15, 16, 17, 18, 19], [0, 1, 2, 3, 4, 5, 6, 7, 8, 9, 10, 11, 12, 13, 14, 15, 16, 17, 18, 19, 20], [0, 1, 2, 3, 4, 5, 6, 7, 8, 9, 10, 11, 12, 13, 14, 15, 16, 17, 18, 19, 20, 21], [0, 1, 2, 3, 4, 5, 6, 7, 8, 9, 10, 11, 12, 13, 14, 15, 16, 17, 18, 19, 20, 21, 22]] tmix rfl ?_
        refine EOps.d 29 (none) (i := 0) rfl rfl rfl rfl rfl (op_move rfl rfl ⟨rfl, rfl⟩) ?_
        refine EOps.d 30 (none) (i := 1) rfl rfl rfl rfl rfl (op_move rfl rfl ⟨rfl, rfl⟩) ?_
        refine EOps.d 31 (none) (i := 2) rfl rfl rfl rfl rfl (op_move rfl rfl ⟨rfl, rfl⟩) ?_
        first | (refine EOps.d 32 (none) (i := 3) rfl rfl rfl rfl rfl (op_nilCheck_m rfl rfl ⟨rfl, rfl⟩) ?_) | (refine EOps.d 32 (none) (i := 3) rfl rfl rfl rfl rfl (op_nilCheck_c rfl rfl ⟨rfl, rfl⟩) ?_) | (refine EOps.d 32 (none) (i := 3) rfl rfl rfl rfl rfl (op_nilCheck_f rfl rfl ⟨rfl, rfl⟩) ?_)
        first | (refine EOps.d 33 (none) (i := 4) rfl rfl rfl rfl rfl (op_fieldAddr_m rfl tf_87_0 rfl ⟨rfl, rfl⟩) ?_) | (refine EOps.d 33 (none) (i := 4) rfl rfl rfl rfl rfl (op_fieldAddr_c rfl tf_87_0 rfl rfl ⟨rfl, rfl⟩) ?_)
        first | (refine EOps.d 34 (some 0) (i := 5) rfl rfl rfl rfl rfl (op_load_m1 (i := 0) rfl ta_27 rfl rfl rfl ⟨rfl, rfl⟩) ?_) | (refine EOps.d 34 (some 1) (i := 5) rfl rfl rfl rfl rfl (op_load_m1 (i := 0) rfl ta_27 rfl rfl rfl ⟨rfl, rfl⟩) ?_) | (refine EOps.d 34 (some 2) (i := 5) rfl rfl rfl rfl rfl (op_load_m1 (i := 0) rfl ta_27 rfl rfl rfl ⟨rfl, rfl⟩) ?_) | (refine EOps.d 34 (some 3) (i := 5) rfl rfl rfl rfl rfl (op_load_m1 (i := 0) rfl ta_27 rfl rfl rfl ⟨rfl, rfl⟩) ?_) | (refine EOps.d 34 (some 4) (i := 5) rfl rfl rfl rfl rfl (op_load_m1 (i := 0) rfl ta_27 rfl rfl rfl ⟨rfl, rfl⟩) ?_) | (refine EOps.d 34 (some 5) (i := 5) rfl rfl rfl rfl rfl (op_load_m1 (i := 0) rfl ta_27 rfl rfl rfl ⟨rfl, rfl⟩) ?_) | (refine EOps.d 34 (none) (i := 5) rfl rfl rfl rfl rfl (op_load_c1 rfl ta_27 rfl rfl ⟨rfl, rfl⟩) ?_)
        first | (refine EOps.d 35 (none) (i := 6) rfl rfl rfl rfl rfl (op_fieldAddr_m rfl tf_24_1 rfl ⟨rfl, rfl⟩) ?_) | (refine EOps.d 35 (none) (i := 6) rfl rfl rfl rfl rfl (op_fieldAddr_c rfl tf_24_1 rfl rfl ⟨rfl, rfl⟩) ?_)
        first | (refine EOps.d 36 (some 0) (i := 7) rfl rfl rfl rfl rfl (op_load_m1 (i := 0) rfl ta_9 rfl rfl rfl ⟨rfl, rfl⟩) ?_) | (refine EOps.d 36 (some 1) (i := 7) rfl rfl rfl rfl rfl (op_load_m1 (i := 0) rfl ta_9 rfl rfl rfl ⟨rfl, rfl⟩) ?_) | (refine EOps.d 36 (some 2) (i := 7) rfl rfl rfl rfl rfl (op_load_m1 (i := 0) rfl ta_9 rfl rfl rfl ⟨rfl, rfl⟩) ?_) | (refine EOps.d 36 (some 3) (i := 7) rfl rfl rfl rfl rfl (op_load_m1 (i := 0) rfl ta_9 rfl rfl rfl ⟨rfl, rfl⟩) ?_) | (refine EOps.d 36 (some 4) (i := 7) rfl rfl rfl rfl rfl (op_load_m1 (i := 0) rfl ta_9 rfl rfl rfl ⟨rfl, rfl⟩) ?_) | (refine EOps.d 36 (some 5) (i := 7) rfl rfl rfl rfl rfl (op_load_m1 (i := 0) rfl ta_9 rfl rfl rfl ⟨rfl, rfl⟩) ?_) | (refine EOps.d 36 (none) (i := 7) rfl rfl rfl rfl rfl (op_load_c1 rfl ta_9 rfl rfl ⟨rfl, rfl⟩) ?_)
        refine EOps.d 37 (none) (i := 8) rfl rfl rfl rfl rfl (op_buildSlice (xs := [.tmp 36]) el_27 rfl rfl rfl rfl rfl rfl (Nat.le_of_ble_eq_true rfl) ⟨rfl, rfl⟩) ?_
        refine EOps.d 39 (none) (i := 10) rfl rfl rfl rfl rfl (op_move rfl rfl ⟨rfl, rfl⟩) ?_
        first | (refine EOps.d 40 (none) (i := 11) rfl rfl rfl rfl rfl (op_nilCheck_m rfl rfl ⟨rfl, rfl⟩) ?_) | (refine EOps.d 40 (none) (i := 11) rfl rfl rfl rfl rfl (op_nilCheck_c rfl rfl ⟨rfl, rfl⟩) ?_) | (refine EOps.d 40 (none) (i := 11) rfl rfl rfl rfl rfl (op_nilCheck_f rfl rfl ⟨rfl, rfl⟩) ?_)
        first | (refine EOps.d 41 (none) (i := 12) rfl rfl rfl rfl rfl (op_fieldAddr_m rfl tf_87_1 rfl ⟨rfl, rfl⟩) ?_) | (refine EOps.d 41 (none) (i := 12) rfl rfl rfl rfl rfl (op_fieldAddr_c rfl tf_87_1 rfl rfl ⟨rfl, rfl⟩) ?_)
        first | (refine EOps.d 42 (some 0) (i := 13) rfl rfl rfl rfl rfl (op_load_m1 (i := 0) rfl ta_22 rfl rfl rfl ⟨rfl, rfl⟩) ?_) | (refine EOps.d 42 (some 1) (i := 13) rfl rfl rfl rfl rfl (op_load_m1 (i := 0) rfl ta_22 rfl rfl rfl ⟨rfl, rfl⟩) ?_) | (refine EOps.d 42 (some 2) (i := 13) rfl rfl rfl rfl rfl (op_load_m1 (i := 0) rfl ta_22 rfl rfl rfl ⟨rfl, rfl⟩) ?_) | (refine EOps.d 42 (some 3) (i := 13) rfl rfl rfl rfl rfl (op_load_m1 (i := 0) rfl ta_22 rfl rfl rfl ⟨rfl, rfl⟩) ?_) | (refine EOps.d 42 (some 4) (i := 13) rfl rfl rfl rfl rfl (op_load_m1 (i := 0) rfl ta_22 rfl rfl rfl ⟨rfl, rfl⟩) ?_) | (refine EOps.d 42 (some 5) (i := 13) rfl rfl rfl rfl rfl (op_load_m1 (i := 0) rfl ta_22 rfl rfl rfl ⟨rfl, rfl⟩) ?_) | (refine EOps.d 42 (none) (i := 13) rfl rfl rfl rfl rfl (op_load_c1 rfl ta_22 rfl rfl ⟨rfl, rfl⟩) ?_)
        first | (refine EOps.d 43 (some 0) (i := 14) rfl rfl rfl rfl rfl (op_load_m (i := 0) rfl ta_24 rfl rfl rfl rfl ⟨rfl, rfl⟩) ?_) | (refine EOps.d 43 (some 1) (i := 14) rfl rfl rfl rfl rfl (op_load_m (i := 0) rfl ta_24 rfl rfl rfl rfl ⟨rfl, rfl⟩) ?_) | (refine EOps.d 43 (some 2) (i := 14) rfl rfl rfl rfl rfl (op_load_m (i := 0) rfl ta_24 rfl rfl rfl rfl ⟨rfl, rfl⟩) ?_) | (refine EOps.d 43 (some 3) (i := 14) rfl rfl rfl rfl rfl (op_load_m (i := 0) rfl ta_24 rfl rfl rfl rfl ⟨rfl, rfl⟩) ?_) | (refine EOps.d 43 (some 4) (i := 14) rfl rfl rfl rfl rfl (op_load_m (i := 0) rfl ta_24 rfl rfl rfl rfl ⟨rfl, rfl⟩) ?_) | (refine EOps.d 43 (some 5) (i := 14) rfl rfl rfl rfl rfl (op_load_m (i := 0) rfl ta_24 rfl rfl rfl rfl ⟨rfl, rfl⟩) ?_) | (refine EOps.d 43 (none) (i := 14) rfl rfl rfl rfl rfl (op_load_c rfl ta_24 rfl rfl rfl ⟨rfl, rfl⟩) ?_)
        first | (refine EOps.w 0 (i := 9) rfl rfl rfl rfl rfl (op_append (i := 0) el_27 rfl rfl rfl rfl (.seq _ _) (by simp; omega) (fun u38 => ⟨_, rfl, ?_⟩))) | (refine EOps.w 1 (i := 9) rfl rfl rfl rfl rfl (op_append (i := 0) el_27 rfl rfl rfl rfl (.seq _ _) (by simp; omega) (fun u38 => ⟨_, rfl, ?_⟩))) | (refine EOps.w 2 (i := 9) rfl rfl rfl rfl rfl (op_append (i := 0) el_27 rfl rfl rfl rfl (.seq _ _) (by simp; omega) (fun u38 => ⟨_, rfl, ?_⟩))) | (refine EOps.w 3 (i := 9) rfl rfl rfl rfl rfl (op_append (i := 0) el_27 rfl rfl rfl rfl (.seq _ _) (by simp; omega) (fun u38 => ⟨_, rfl, ?_⟩))) | (refine EOps.w 4 (i := 9) rfl rfl rfl rfl rfl (op_append (i := 0) el_27 rfl rfl rfl rfl (.seq _ _) (by simp; omega) (fun u38 => ⟨_, rfl, ?_⟩))) | (refine EOps.w 0 (i := 9) rfl rfl rfl rfl rfl (op_append (i := 0) el_27 rfl rfl rfl rfl (.own _ _ _) (by simp; omega) (fun u38 => ⟨_, rfl, ?_⟩))) | (refine EOps.w 1 (i := 9) rfl rfl rfl rfl rfl (op_append (i := 0) el_27 rfl rfl rfl rfl (.own _ _ _) (by simp; omega) (fun u38 => ⟨_, rfl, ?_⟩))) | (refine EOps.w 2 (i := 9) rfl rfl rfl rfl rfl (op_append (i := 0) el_27 rfl rfl rfl rfl (.own _ _ _) (by simp; omega) (fun u38 => ⟨_, rfl, ?_⟩))) | (refine EOps.w 3 (i := 9) rfl rfl rfl rfl rfl (op_append (i := 0) el_27 rfl rfl rfl rfl (.own _ _ _) (by simp; omega) (fun u38 => ⟨_, rfl, ?_⟩))) | (refine EOps.w 4 (i := 9) rfl rfl rfl rfl rfl (op_append (i := 0) el_27 rfl rfl rfl rfl (.own _ _ _) (by simp; omega) (fun u38 => ⟨_, rfl, ?_⟩))) | (refine EOps.w 0 (i := 9) rfl rfl rfl rfl rfl (op_append (i := 0) el_27 rfl rfl rfl rfl (.nil _) (by simp; omega) (fun u38 => ⟨_, rfl, ?_⟩))) | (refine EOps.w 1 (i := 9) rfl rfl rfl rfl rfl (op_append (i := 0) el_27 rfl rfl rfl rfl (.nil _) (by simp; omega) (fun u38 => ⟨_, rfl, ?_⟩))) | (refine EOps.w 2 (i := 9) rfl rfl rfl rfl rfl (op_append (i := 0) el_27 rfl rfl rfl rfl (.nil _) (by simp; omega) (fun u38 => ⟨_, rfl, ?_⟩))) | (refine EOps.w 3 (i := 9) rfl rfl rfl rfl rfl (op_append (i := 0) el_27 rfl rfl rfl rfl (.nil _) (by simp; omega) (fun u38 => ⟨_, rfl, ?_⟩))) | (refine EOps.w 4 (i := 9) rfl rfl rfl rfl rfl (op_append (i := 0) el_27 rfl rfl rfl rfl (.nil _) (by simp; omega) (fun u38 => ⟨_, rfl, ?_⟩))) | (refine EOps.nw (i := 9) rfl rfl rfl (op_append_nil el_27 rfl rfl rfl (.seq _ _) (by simp; omega) (fun u38 => ⟨_, rfl, ?_⟩))) | (refine EOps.nw (i := 9) rfl rfl rfl (op_append_nil el_27 rfl rfl rfl (.own _ _ _) (by simp; omega) (fun u38 => ⟨_, rfl, ?_⟩))) | (refine EOps.nw (i := 9) rfl rfl rfl (op_append_nil el_27 rfl rfl rfl (.nil _) (by simp; omega) (fun u38 => ⟨_, rfl, ?_⟩)))
        refine EOps.d 44 (none) (i := 15) rfl rfl rfl rfl rfl (op_callp (xs := [.tmp 43, .func 68]) rfl rfl (copy_c (.mk k2 s2 n2 ks2) hb0) (by first | exact Les.refl _ | (repeat' (first | exact Les.refl _ | refine Les.cons ?_ ?_ | exact Le.refl _ | exact Le.own _ _ _ | exact Le.nil _ | refine Le.agg ?_))) ⟨rfl, rfl⟩) ?_
        refine EOps.d 45 (none) (i := 16) rfl rfl rfl rfl rfl (op_buildSlice (xs := [.tmp 44]) el_22 rfl rfl rfl rfl rfl rfl (Nat.le_of_ble_eq_true rfl) ⟨rfl, rfl⟩) ?_
        first | (refine EOps.w 0 (i := 17) rfl rfl rfl rfl rfl (op_append (i := 0) el_22 rfl rfl rfl rfl (.seq _ _) (by simp; omega) (fun u46 => ⟨_, rfl, ?_⟩))) | (refine EOps.w 1 (i := 17) rfl rfl rfl rfl rfl (op_append (i := 0) el_22 rfl rfl rfl rfl (.seq _ _) (by simp; omega) (fun u46 => ⟨_, rfl, ?_⟩))) | (refine EOps.w 2 (i := 17) rfl rfl rfl rfl rfl (op_append (i := 0) el_22 rfl rfl rfl rfl (.seq _ _) (by simp; omega) (fun u46 => ⟨_, rfl, ?_⟩))) | (refine EOps.w 3 (i := 17) rfl rfl rfl rfl rfl (op_append (i := 0) el_22 rfl rfl rfl rfl (.seq _ _) (by simp; omega) (fun u46 => ⟨_, rfl, ?_⟩))) | (refine EOps.w 4 (i := 17) rfl rfl rfl rfl rfl (op_append (i := 0) el_22 rfl rfl rfl rfl (.seq _ _) (by simp; omega) (fun u46 => ⟨_, rfl, ?_⟩))) | (refine EOps.w 0 (i := 17) rfl rfl rfl rfl rfl (op_append (i := 0) el_22 rfl rfl rfl rfl (.own _ _ _) (by simp; omega) (fun u46 => ⟨_, rfl, ?_⟩))) | (refine EOps.w 1 (i := 17) rfl rfl rfl rfl rfl (op_append (i := 0) el_22 rfl rfl rfl rfl (.own _ _ _) (by simp; omega) (fun u46 => ⟨_, rfl, ?_⟩))) | (refine EOps.w 2 (i := 17) rfl rfl rfl rfl rfl (op_append (i := 0) el_22 rfl rfl rfl rfl (.own _ _ _) (by simp; omega) (fun u46 => ⟨_, rfl, ?_⟩))) | (refine EOps.w 3 (i := 17) rfl rfl rfl rfl rfl (op_append (i := 0) el_22 rfl rfl rfl rfl (.own _ _ _) (by simp; omega) (fun u46 => ⟨_, rfl, ?_⟩))) | (refine EOps.w 4 (i := 17) rfl rfl rfl rfl rfl (op_append (i := 0) el_22 rfl rfl rfl rfl (.own _ _ _) (by simp; omega) (fun u46 => ⟨_, rfl, ?_⟩))) | (refine EOps.w 0 (i := 17) rfl rfl rfl rfl rfl (op_append (i := 0) el_22 rfl rfl rfl rfl (.nil _) (by simp; omega) (fun u46 => ⟨_, rfl, ?_⟩))) | (refine EOps.w 1 (i := 17) rfl rfl rfl rfl rfl (op_append (i := 0) el_22 rfl rfl rfl rfl (.nil _) (by simp; omega) (fun u46 => ⟨_, rfl, ?_⟩))) | (refine EOps.w 2 (i := 17) rfl rfl rfl rfl rfl (op_append (i := 0) el_22 rfl rfl rfl rfl (.nil _) (by simp; omega) (fun u46 => ⟨_, rfl, ?_⟩))) | (refine EOps.w 3 (i := 17) rfl rfl rfl rfl rfl (op_append (i := 0) el_22 rfl rfl rfl rfl (.nil _) (by simp; omega) (fun u46 => ⟨_, rfl, ?_⟩))) | (refine EOps.w 4 (i := 17) rfl rfl rfl rfl rfl (op_append (i := 0) el_22 rfl rfl rfl rfl (.nil _) (by simp; omega) (fun u46 => ⟨_, rfl, ?_⟩))) | (refine EOps.nw (i := 17) rfl rfl rfl (op_append_nil el_22 rfl rfl rfl (.seq _ _) (by simp; omega) (fun u46 => ⟨_, rfl, ?_⟩))) | (refine EOps.nw (i := 17) rfl rfl rfl (op_append_nil el_22 rfl rfl rfl (.own _ _ _) (by simp; omega) (fun u46 => ⟨_, rfl, ?_⟩))) | (refine EOps.nw (i := 17) rfl rfl rfl (op_append_nil el_22 rfl rfl rfl (.nil _) (by simp; omega) (fun u46 => ⟨_, rfl, ?_⟩)))
        first | (refine EOps.d 47 (none) (i := 18) rfl rfl rfl rfl rfl (op_nilCheck_m rfl rfl ⟨rfl, rfl⟩) ?_) | (refine EOps.d 47 (none) (i := 18) rfl rfl rfl rfl rfl (op_nilCheck_c rfl rfl ⟨rfl, rfl⟩) ?_) | (refine EOps.d 47 (none) (i := 18) rfl rfl rfl rfl rfl (op_nilCheck_f rfl rfl ⟨rfl, rfl⟩) ?_)
        first | (refine EOps.d 48 (none) (i := 19) rfl rfl rfl rfl rfl (op_fieldAddr_m rfl tf_87_0 rfl ⟨rfl, rfl⟩) ?_) | (refine EOps.d 48 (none) (i := 19) rfl rfl rfl rfl rfl (op_fieldAddr_c rfl tf_87_0 rfl rfl ⟨rfl, rfl⟩) ?_)
        first | (refine EOps.w 0 (i := 20) rfl rfl rfl rfl rfl (op_store (i := 0) rfl ts_27 rfl rfl rfl rfl rfl (Nat.le_of_ble_eq_true rfl) rfl ⟨_, rfl, ?_⟩)) | (refine EOps.w 1 (i := 20) rfl rfl rfl rfl rfl (op_store (i := 0) rfl ts_27 rfl rfl rfl rfl rfl (Nat.le_of_ble_eq_true rfl) rfl ⟨_, rfl, ?_⟩)) | (refine EOps.w 2 (i := 20) rfl rfl rfl rfl rfl (op_store (i := 0) rfl ts_27 rfl rfl rfl rfl rfl (Nat.le_of_ble_eq_true rfl) rfl ⟨_, rfl, ?_⟩)) | (refine EOps.w 3 (i := 20) rfl rfl rfl rfl rfl (op_store (i := 0) rfl ts_27 rfl rfl rfl rfl rfl (Nat.le_of_ble_eq_true rfl) rfl ⟨_, rfl, ?_⟩)) | (refine EOps.w 4 (i := 20) rfl rfl rfl rfl rfl (op_store (i := 0) rfl ts_27 rfl rfl rfl rfl rfl (Nat.le_of_ble_eq_true rfl) rfl ⟨_, rfl, ?_⟩)) | (refine EOps.w 5 (i := 20) rfl rfl rfl rfl rfl (op_store (i := 0) rfl ts_27 rfl rfl rfl rfl rfl (Nat.le_of_ble_eq_true rfl) rfl ⟨_, rfl, ?_⟩))
        first | (refine EOps.d 49 (none) (i := 21) rfl rfl rfl rfl rfl (op_nilCheck_m rfl rfl ⟨rfl, rfl⟩) ?_) | (refine EOps.d 49 (none) (i := 21) rfl rfl rfl rfl rfl (op_nilCheck_c rfl rfl ⟨rfl, rfl⟩) ?_) | (refine EOps.d 49 (none) (i := 21) rfl rfl rfl rfl rfl (op_nilCheck_f rfl rfl ⟨rfl, rfl⟩) ?_)
        first | (refine EOps.d 50 (none) (i := 22) rfl rfl rfl rfl rfl (op_fieldAddr_m rfl tf_87_1 rfl ⟨rfl, rfl⟩) ?_) | (refine EOps.d 50 (none) (i := 22) rfl rfl rfl rfl rfl (op_fieldAddr_c rfl tf_87_1 rfl rfl ⟨rfl, rfl⟩) ?_)
        first | (refine EOps.w 0 (i := 23) rfl rfl rfl rfl rfl (op_store (i := 0) rfl ts_22 rfl rfl rfl rfl rfl (Nat.le_of_ble_eq_true rfl) rfl ⟨_, rfl, ?_⟩)) | (refine EOps.w 1 (i := 23) rfl rfl rfl rfl rfl (op_store (i := 0) rfl ts_22 rfl rfl rfl rfl rfl (Nat.le_of_ble_eq_true rfl) rfl ⟨_, rfl, ?_⟩)) | (refine EOps.w 2 (i := 23) rfl rfl rfl rfl rfl (op_store (i := 0) rfl ts_22 rfl rfl rfl rfl rfl (Nat.le_of_ble_eq_true rfl) rfl ⟨_, rfl, ?_⟩)) | (refine EOps.w 3 (i := 23) rfl rfl rfl rfl rfl (op_store (i := 0) rfl ts_22 rfl rfl rfl rfl rfl (Nat.le_of_ble_eq_true rfl) rfl ⟨_, rfl, ?_⟩)) | (refine EOps.w 4 (i := 23) rfl rfl rfl rfl rfl (op_store (i := 0) rfl ts_22 rfl rfl rfl rfl rfl (Nat.le_of_ble_eq_true rfl) rfl ⟨_, rfl, ?_⟩)) | (refine EOps.w 5 (i := 23) rfl rfl rfl rfl rfl (op_store (i := 0) rfl ts_22 rfl rfl rfl rfl rfl (Nat.le_of_ble_eq_true rfl) rfl ⟨_, rfl, ?_⟩))
        show AGo _ _ _ _ _ _
        refine go_code ?_
        refine c_seq ?_
        refine c_seq ?_
        refine c_region ?_
        first | (refine AOps.st 51 rfl rfl rfl (op_fieldAddr_m rfl tf_24_3 rfl ?_)) | (refine AOps.st 51 rfl rfl rfl (op_fieldAddr_c rfl tf_24_3 rfl rfl ?_))
        first | (refine AOps.st 52 rfl rfl rfl (op_load_m1 (i := 0) rfl ta_22 rfl rfl rfl ?_)) | (refine AOps.st 52 rfl rfl rfl (op_load_m1 (i := 1) rfl ta_22 rfl rfl rfl ?_)) | (refine AOps.st 52 rfl rfl rfl (op_load_m1 (i := 2) rfl ta_22 rfl rfl rfl ?_)) | (refine AOps.st 52 rfl rfl rfl (op_load_m1 (i := 3) rfl ta_22 rfl rfl rfl ?_)) | (refine AOps.st 52 rfl rfl rfl (op_load_m1 (i := 4) rfl ta_22 rfl rfl rfl ?_)) | (refine AOps.st 52 rfl rfl rfl (op_load_m1 (i := 5) rfl ta_22 rfl rfl rfl ?_)) | (refine AOps.st 52 rfl rfl rfl (op_load_c1 rfl ta_22 rfl rfl ?_))
        first | (refine AOps.st 53 rfl rfl rfl (op_len rfl tu_22 rfl (.seq _ _) (fun n53 => ?_))) | (refine AOps.st 53 rfl rfl rfl (op_len rfl tu_22 rfl (.own _ _ _) (fun n53 => ?_))) | (refine AOps.st 53 rfl rfl rfl (op_len rfl tu_22 rfl (.nil 0) (fun n53 => ?_))) | (refine AOps.st 53 rfl rfl rfl (op_len_arr rfl tu_22 rfl ?_))
        refine AOps.st 54 rfl rfl rfl (op_eql rfl rfl rfl ?_); intro c54 h54
        refine AOps.nil ?_
        refine go_code ?_
        rcases bool_split h54 with ⟨rfl, g54⟩ | ⟨rfl, g54⟩
        · refine c_cond_f rfl ?_
          refine c_skip ?_
          refine go_code ?_
          refine c_seq ?_
          exact absurd (by rw [(hvk g10).1]; rfl) g54
        · refine c_cond_t rfl ?_
          refine c_seq ?_
          refine c_region ?_
          refine AOps.st 6 rfl rfl rfl (op_assign rfl rfl ?_)
          refine AOps.nil ?_
          refine go_code ?_
          refine c_ret ?_
          refine out_tmp rfl rfl (Le.refl _) (M' := [.loc bm [.own u38 1 (strs (nms ++ [s1])), .own u46 4 (Ty.cellss (tys ++ [.mk k2 s2 n2 ks2]))], .own 9 1 u38, .own 24 4 u46]) (MLe.drop _ (MLe.drop _ (MLe.loc _ (Les.cons (Le.own_eq (strs_snoc _ _)) (Les.cons (Le.own_eq (by rw [Ty.cellss_app]; rfl)) (Les.refl _))) (MLe.refl _)))) ⟨true, rfl, fun _ => ⟨(nms ++ [s1], tys ++ [.mk k2 s2 n2 ks2]), ?_, u38, u46, rfl⟩, fun e => (by cases e)⟩
          rw [g10, mt_var, if_neg g19]
      · refine c_cond_t rfl ?_
        refine c_seq ?_
        obtain ⟨j, hj⟩ : ∃ j : Nat, firstAt s1 nms 0 = j := ⟨(firstAt s1 nms 0).toNat, by omega⟩
        obtain ⟨⟨yk, ys, yn, yks⟩, hy⟩ := get_some (l := tys) (i := j) (by omega)
        have hcy := Ty.cellss_get hy
        rw [hj]
        refine c_drawn tmix rfl ?_
        refine DOps.st 20 rfl rfl (op_move rfl rfl ⟨rfl, rfl⟩) ?_
        first | (refine DOps.st 21 rfl rfl (op_nilCheck_m rfl rfl ⟨rfl, rfl⟩) ?_) | (refine DOps.st 21 rfl rfl (op_nilCheck_c rfl rfl ⟨rfl, rfl⟩) ?_) | (refine DOps.st 21 rfl rfl (op_nilCheck_f rfl rfl ⟨rfl, rfl⟩) ?_)
        first | (refine DOps.st 22 rfl rfl (op_fieldAddr_m rfl tf_87_1 rfl ⟨rfl, rfl⟩) ?_) | (refine DOps.st 22 rfl rfl (op_fieldAddr_c rfl tf_87_1 rfl rfl ⟨rfl, rfl⟩) ?_)
        first | (refine DOps.st 23 rfl rfl (op_load_m1 (i := 0) rfl ta_22 rfl rfl rfl ⟨rfl, rfl⟩) ?_) | (refine DOps.st 23 rfl rfl (op_load_m1 (i := 1) rfl ta_22 rfl rfl rfl ⟨rfl, rfl⟩) ?_) | (refine DOps.st 23 rfl rfl (op_load_m1 (i := 2) rfl ta_22 rfl rfl rfl ⟨rfl, rfl⟩) ?_) | (refine DOps.st 23 rfl rfl (op_load_m1 (i := 3) rfl ta_22 rfl rfl rfl ⟨rfl, rfl⟩) ?_) | (refine DOps.st 23 rfl rfl (op_load_m1 (i := 4) rfl ta_22 rfl rfl rfl ⟨rfl, rfl⟩) ?_) | (refine DOps.st 23 rfl rfl (op_load_m1 (i := 5) rfl ta_22 rfl rfl rfl ⟨rfl, rfl⟩) ?_) | (refine DOps.st 23 rfl rfl (op_load_c1 rfl ta_22 rfl rfl ⟨rfl, rfl⟩) ?_)
        refine DOps.st 24 rfl rfl (op_move rfl rfl ⟨rfl, rfl⟩) ?_
        first | (refine DOps.st 25 rfl rfl (op_index rfl te_22 rfl (.seq _ _) rfl rfl (by assumption) ⟨rfl, rfl⟩) ?_) | (refine DOps.st 25 rfl rfl (op_index (i := 0) rfl te_22 rfl (.seq _ _) rfl rfl (by first | rfl | assumption) ⟨rfl, rfl⟩) ?_) | (refine DOps.st 25 rfl rfl (op_index (i := 1) rfl te_22 rfl (.seq _ _) rfl rfl (by first | rfl | assumption) ⟨rfl, rfl⟩) ?_) | (refine DOps.st 25 rfl rfl (op_index rfl te_22 rfl (.own _ _ _) rfl rfl (by assumption) ⟨rfl, rfl⟩) ?_) | (refine DOps.st 25 rfl rfl (op_index (i := 0) rfl te_22 rfl (.own _ _ _) rfl rfl (by first | rfl | assumption) ⟨rfl, rfl⟩) ?_) | (refine DOps.st 25 rfl rfl (op_index (i := 1) rfl te_22 rfl (.own _ _ _) rfl rfl (by first | rfl | assumption) ⟨rfl, rfl⟩) ?_) | (refine DOps.st 25 rfl rfl (op_index_arr rfl te_22 rfl rfl rfl (by omega) ⟨rfl, rfl⟩) ?_)
        first | (refine DOps.st 26 rfl rfl (op_load_m (i := 0) rfl ta_24 rfl rfl rfl rfl ⟨rfl, rfl⟩) ?_) | (refine DOps.st 26 rfl rfl (op_load_m (i := 1) rfl ta_24 rfl rfl rfl rfl ⟨rfl, rfl⟩) ?_) | (refine DOps.st 26 rfl rfl (op_load_m (i := 2) rfl ta_24 rfl rfl rfl rfl ⟨rfl, rfl⟩) ?_) | (refine DOps.st 26 rfl rfl (op_load_m (i := 3) rfl ta_24 rfl rfl rfl rfl ⟨rfl, rfl⟩) ?_) | (refine DOps.st 26 rfl rfl (op_load_m (i := 4) rfl ta_24 rfl rfl rfl rfl ⟨rfl, rfl⟩) ?_) | (refine DOps.st 26 rfl rfl (op_load_m (i := 5) rfl ta_24 rfl rfl rfl rfl ⟨rfl, rfl⟩) ?_) | (refine DOps.st 26 rfl rfl (op_load_c rfl ta_24 rfl rfl rfl ⟨rfl, rfl⟩) ?_)
        first | (refine DOps.st 27 rfl rfl (op_load_m (i := 0) rfl ta_24 rfl rfl rfl rfl ⟨rfl, rfl⟩) ?_) | (refine DOps.st 27 rfl rfl (op_load_m (i := 1) rfl ta_24 rfl rfl rfl rfl ⟨rfl, rfl⟩) ?_) | (refine DOps.st 27 rfl rfl (op_load_m (i := 2) rfl ta_24 rfl rfl rfl rfl ⟨rfl, rfl⟩) ?_) | (refine DOps.st 27 rfl rfl (op_load_m (i := 3) rfl ta_24 rfl rfl rfl rfl ⟨rfl, rfl⟩) ?_) | (refine DOps.st 27 rfl rfl (op_load_m (i := 4) rfl ta_24 rfl rfl rfl rfl ⟨rfl, rfl⟩) ?_) | (refine DOps.st 27 rfl rfl (op_load_m (i := 5) rfl ta_24 rfl rfl rfl rfl ⟨rfl, rfl⟩) ?_) | (refine DOps.st 27 rfl rfl (op_load_c rfl ta_24 rfl rfl rfl ⟨rfl, rfl⟩) ?_)
        refine DOps.cm 28 rfl rfl (fun _ q => op_callb (xs := [.tmp 26, .tmp 27]) rfl rfl (same_c _ (.mk yk ys yn yks) (.mk k2 s2 n2 ks2) (Nat.le_refl _)) (by first | exact Les.refl _ | (repeat' (first | exact Les.refl _ | refine Les.cons ?_ ?_ | exact Le.refl _ | exact Le.own _ _ _ | exact Le.nil _ | refine Le.agg ?_))) q) ?_; intro c28 h28
        refine DOps.st 6 rfl rfl (op_assign rfl rfl ⟨rfl, rfl⟩) ?_
        show AGo _ _ _ _ _ _
        refine go_code ?_
        refine c_ret ?_
        refine out_tmp rfl rfl (Le.refl _) (MLe.drop _ (MLe.drop _ (MLe.refl _))) ⟨c28, rfl, fun e => ⟨(nms, tys), ?_, u1, u2, rfl⟩, fun e => ?_⟩
        · rw [g10, mt_var, if_pos (by simp only [hj]; omega)]
          simp only [hj, Int.toNat_natCast, hy]
          rw [if_pos (by rw [h28.1 e])]
        · rw [g10, mt_var, if_pos (by simp only [hj]; omega)]
          simp only [hj, Int.toNat_natCast, hy]
          rw [if_neg (fun q => by rw [h28.2 (by simpa using q)] at e; cases e)]
theorem MImp.ownNil2 (b : Nat) (e1 e2 : TypeId) (m1 m2 : Nat) (M : Mem) : MImp (.loc b [.val (.slice none 0 0), .val (.slice none 0 0)] :: M) (.loc b [.own (.slice none 0 0) m1 [], .own (.slice none 0 0) m2 []] :: .own e1 m1 (.slice none 0 0) :: .own e2 m2 (.slice none 0 0) :: M) := fun B F Mf w x => by
  have h := (x.ownNil e2 m2).ownNil e1 m1
  have h2 : Inv B F (.own e1 m1 (.slice none 0 0) :: .own e2 m2 (.slice none 0 0) :: .loc b [.own (.slice none 0 0) m1 [], .own (.slice none 0 0) m2 []] :: (M ++ Mf)) w := by
    refine ⟨h.base, h.fix, fun r hr => ?_, ?_⟩
    · simp only [List.mem_cons] at hr
      rcases hr with rfl | rfl | rfl | hr
      · exact h.ok _ (by simp)
      · exact h.ok _ (by simp)
      · obtain ⟨h1, h2, vs, T, h3, h4, h5⟩ := h.ok (.loc b [.val (.slice none 0 0), .val (.slice none 0 0)]) (by simp)
        refine ⟨h1, h2, vs, T, h3, ?_, h5⟩
        cases h4 with
        | cons k ks =>
          cases ks with
          | cons k2 ks =>
            cases ks
            cases k
            cases k2
            exact .cons (.own _ (.seq0 m1 none 0 (fun _ => rfl))) (.cons (.own _ (.seq0 m2 none 0 (fun _ => rfl))) .nil)
      · exact h.ok r (by simp [hr])
    · have := h.far
      rw [far_map] at this ⊢
      simpa [Res.blk] using this
  refine h2.perm ?_
  have e := List.perm_append_comm (l₁ := [Res.own e1 m1 (.slice none 0 0), Res.own e2 m2 (.slice none 0 0)]) (l₂ := [Res.loc b [.own (.slice none 0 0) m1 [], .own (.slice none 0 0) m2 []]])
  simpa using e.append_right (M ++ Mf)
set_option maxRecDepth 100000 in
theorem Match_c (a b : Ty) (hv : a.VarOk) (ha : a.size ≤ 1000000) (hb : b.size ≤ 1000000) : ACall Try.prog 14 [.agg a.cells, .agg b.cells] [] (fun v M' => [] = M' ∧ ((∃ st, mt ([], []) a b = some st ∧ v = .tup [.seq 1 (strs st.1), .seq 4 (Ty.cellss st.2), .val (.bool true)]) ∨ (mt ([], []) a b = none ∧ v = .tup [.seq 1 (strs []), .seq 4 (Ty.cellss []), .val (.bool false)]))) := by
  have W := fun (bm : Nat) (M : Mem) (hG : GT bm ([], []) M) => match_c bm a.size a b ([], []) M (Nat.le_refl _) hv hb rfl (by simp; omega) hG
  obtain ⟨k1, s1, n1, ks1⟩ := a
  obtain ⟨k2, s2, n2, ks2⟩ := b
  refine ACall.enter Try.func14 rfl (by kernel_rfl) rfl (Nat.le_of_ble_eq_true rfl) ?_
  refine c_start ?_
  refine c_seq ?_
  refine c_region ?_
  refine AOps.st 2 rfl rfl rfl (op_box rfl rfl rfl ?_); intro b2
  refine AOps.st 3 rfl rfl rfl (op_box rfl rfl rfl ?_); intro b3
  refine AOps.st 4 rfl rfl rfl (op_assign rfl rfl ?_)
  refine AOps.st 5 rfl rfl rfl (op_assign rfl rfl ?_)
  refine AOps.st 6 rfl rfl rfl (op_assign rfl rfl ?_)
  refine AOps.nil ?_
  refine go_code ?_
  refine c_seq ?_
  refine c_region ?_
  refine AOps.st 8 rfl rfl rfl (op_build (ns := []) (xs := []) rfl tz_87 rfl tfl_87 rfl rfl rfl rfl ?_)
  refine AOps.st 9 rfl rfl rfl (op_box rfl rfl rfl ?_); intro b9
  refine AOps.st 7 rfl rfl rfl (op_assign rfl rfl ?_)
  refine AOps.nil ?_
  refine go_code ?_
  refine c_seq ?_
  refine c_seq ?_
  refine c_mem ((MImp.ownNil2 b9 9 24 1 4 _).trans (MImp.perm (by simpa using List.perm_append_comm (l₁ := [_, _, _]) (l₂ := [_, _])))) ?_
  refine c_region ?_
  refine AOps.st 10 rfl rfl rfl (op_move rfl rfl ?_)
  first | (refine AOps.st 11 rfl rfl rfl (op_load_m (i := 0) rfl ta_24 rfl rfl rfl rfl ?_)) | (refine AOps.st 11 rfl rfl rfl (op_load_m (i := 1) rfl ta_24 rfl rfl rfl rfl ?_)) | (refine AOps.st 11 rfl rfl rfl (op_load_m (i := 2) rfl ta_24 rfl rfl rfl rfl ?_)) | (refine AOps.st 11 rfl rfl rfl (op_load_m (i := 3) rfl ta_24 rfl rfl rfl rfl ?_)) | (refine AOps.st 11 rfl rfl rfl (op_load_m (i := 4) rfl ta_24 rfl rfl rfl rfl ?_)) | (refine AOps.st 11 rfl rfl rfl (op_load_m (i := 5) rfl ta_24 rfl rfl rfl rfl ?_)) | (refine AOps.st 11 rfl rfl rfl (op_load_c rfl ta_24 rfl rfl rfl ?_))
  first | (refine AOps.st 12 rfl rfl rfl (op_load_m (i := 0) rfl ta_24 rfl rfl rfl rfl ?_)) | (refine AOps.st 12 rfl rfl rfl (op_load_m (i := 1) rfl ta_24 rfl rfl rfl rfl ?_)) | (refine AOps.st 12 rfl rfl rfl (op_load_m (i := 2) rfl ta_24 rfl rfl rfl rfl ?_)) | (refine AOps.st 12 rfl rfl rfl (op_load_m (i := 3) rfl ta_24 rfl rfl rfl rfl ?_)) | (refine AOps.st 12 rfl rfl rfl (op_load_m (i := 4) rfl ta_24 rfl rfl rfl rfl ?_)) | (refine AOps.st 12 rfl rfl rfl (op_load_m (i := 5) rfl ta_24 rfl rfl rfl rfl ?_)) | (refine AOps.st 12 rfl rfl rfl (op_load_c rfl ta_24 rfl rfl rfl ?_))
  refine AOps.st 13 rfl rfl rfl (op_callm (xs := [.tmp 10, .tmp 11, .tmp 12])  [.loc b3 _, .loc b2 _] rfl rfl rfl (W b9 _ ⟨.slice none 0 0, .slice none 0 0, rfl⟩) (by first | exact Les.refl _ | (repeat' (first | exact Les.refl _ | refine Les.cons ?_ ?_ | exact Le.refl _ | exact Le.own _ _ _ | exact Le.nil _ | refine Le.agg ?_))) (fun v13 M13 h13 => ?_))
  obtain ⟨c13, rfl, hyes, hno⟩ := h13
  refine AOps.st 14 rfl rfl rfl (op_notc rfl rfl ?_); intro c14 h14
  try replace h14 := nott h14 h13
  refine AOps.nil ?_
  refine go_code ?_
  rcases bool_split h14 with ⟨rfl, g14⟩ | ⟨rfl, g14⟩
  · refine c_cond_f rfl ?_
    refine c_skip ?_
    refine go_code ?_
    refine c_seq ?_
    obtain ⟨st, hm, u1, u2, rfl⟩ := hyes (by simpa using g14)
    refine c_drawn tmix rfl ?_
    refine DOps.st 15 rfl rfl (op_move rfl rfl ⟨rfl, rfl⟩) ?_
    first | (refine DOps.st 16 rfl rfl (op_nilCheck_m rfl rfl ⟨rfl, rfl⟩) ?_) | (refine DOps.st 16 rfl rfl (op_nilCheck_c rfl rfl ⟨rfl, rfl⟩) ?_) | (refine DOps.st 16 rfl rfl (op_nilCheck_f rfl rfl ⟨rfl, rfl⟩) ?_)
    first | (refine DOps.st 17 rfl rfl (op_fieldAddr_m rfl tf_87_0 rfl ⟨rfl, rfl⟩) ?_) | (refine DOps.st 17 rfl rfl (op_fieldAddr_c rfl tf_87_0 rfl rfl ⟨rfl, rfl⟩) ?_)
    first | (refine DOps.st 18 rfl rfl (op_load_m1 (i := 0) rfl ta_27 rfl rfl rfl ⟨rfl, rfl⟩) ?_) | (refine DOps.st 18 rfl rfl (op_load_m1 (i := 1) rfl ta_27 rfl rfl rfl ⟨rfl, rfl⟩) ?_) | (refine DOps.st 18 rfl rfl (op_load_m1 (i := 2) rfl ta_27 rfl rfl rfl ⟨rfl, rfl⟩) ?_) | (refine DOps.st 18 rfl rfl (op_load_m1 (i := 3) rfl ta_27 rfl rfl rfl ⟨rfl, rfl⟩) ?_) | (refine DOps.st 18 rfl rfl (op_load_m1 (i := 4) rfl ta_27 rfl rfl rfl ⟨rfl, rfl⟩) ?_) | (refine DOps.st 18 rfl rfl (op_load_m1 (i := 5) rfl ta_27 rfl rfl rfl ⟨rfl, rfl⟩) ?_) | (refine DOps.st 18 rfl rfl (op_load_c1 rfl ta_27 rfl rfl ⟨rfl, rfl⟩) ?_)
    refine DOps.st 19 rfl rfl (op_move rfl rfl ⟨rfl, rfl⟩) ?_
    first | (refine DOps.st 20 rfl rfl (op_nilCheck_m rfl rfl ⟨rfl, rfl⟩) ?_) | (refine DOps.st 20 rfl rfl (op_nilCheck_c rfl rfl ⟨rfl, rfl⟩) ?_) | (refine DOps.st 20 rfl rfl (op_nilCheck_f rfl rfl ⟨rfl, rfl⟩) ?_)
    first | (refine DOps.st 21 rfl rfl (op_fieldAddr_m rfl tf_87_1 rfl ⟨rfl, rfl⟩) ?_) | (refine DOps.st 21 rfl rfl (op_fieldAddr_c rfl tf_87_1 rfl rfl ⟨rfl, rfl⟩) ?_)
    first | (refine DOps.st 22 rfl rfl (op_load_m1 (i := 0) rfl ta_22 rfl rfl rfl ⟨rfl, rfl⟩) ?_) | (refine DOps.st 22 rfl rfl (op_load_m1 (i := 1) rfl ta_22 rfl rfl rfl ⟨rfl, rfl⟩) ?_) | (refine DOps.st 22 rfl rfl (op_load_m1 (i := 2) rfl ta_22 rfl rfl rfl ⟨rfl, rfl⟩) ?_) | (refine DOps.st 22 rfl rfl (op_load_m1 (i := 3) rfl ta_22 rfl rfl rfl ⟨rfl, rfl⟩) ?_) | (refine DOps.st 22 rfl rfl (op_load_m1 (i := 4) rfl ta_22 rfl rfl rfl ⟨rfl, rfl⟩) ?_) | (refine DOps.st 22 rfl rfl (op_load_m1 (i := 5) rfl ta_22 rfl rfl rfl ⟨rfl, rfl⟩) ?_) | (refine DOps.st 22 rfl rfl (op_load_c1 rfl ta_22 rfl rfl ⟨rfl, rfl⟩) ?_)
    refine DOps.st 4 rfl rfl (op_assign rfl rfl ⟨rfl, rfl⟩) ?_
    refine DOps.st 5 rfl rfl (op_assign rfl rfl ⟨rfl, rfl⟩) ?_
    refine DOps.st 6 rfl rfl (op_assign rfl rfl ⟨rfl, rfl⟩) ?_
    show AGo _ _ _ _ _ _
    refine go_code ?_
    refine c_ret ?_
    exact out_ttt rfl rfl rfl rfl (Le.tup (Les.cons (Le.own _ _ _) (Les.cons (Le.own _ _ _) (Les.refl _)))) (MLe.none _) ⟨rfl, .inl ⟨st, hm, rfl⟩⟩
  · refine c_cond_t rfl ?_
    refine c_seq ?_
    refine c_region ?_
    refine AOps.st 4 rfl rfl rfl (op_assign rfl rfl ?_)
    refine AOps.st 5 rfl rfl rfl (op_assign rfl rfl ?_)
    refine AOps.st 6 rfl rfl rfl (op_assign rfl rfl ?_)
    refine AOps.nil ?_
    refine go_code ?_
    refine c_ret ?_
    exact out_ttt rfl rfl rfl rfl (Le.tup (Les.cons (Le.nil _) (Les.cons (Le.nil _) (Les.refl _)))) (MLe.none _) ⟨rfl, .inr ⟨hno g14, rfl⟩⟩
end Go.Proofs.Ytjgjnheeohfmmaa
