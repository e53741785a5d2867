/- tree.Value, cognateref05.Value; cognatelaw05.Awake -/
import Derived.Test.YtjgjnheeohfmmaaB05x
import Derived.Test.YtjgjnheeohfmmaaB05i
namespace Go.Proofs.Ytjgjnheeohfmmaa
open Go.RowKit
theorem two_of {α : Type} {l : List α} (h : l.length = 2) : ∃ a b, l = [a, b] := by
  match l, h with
  | [a, b], _ => exact ⟨a, b, rfl⟩
theorem one_of {α : Type} {l : List α} (h : l.length = 1) : ∃ a, l = [a] := by
  match l, h with
  | [a], _ => exact ⟨a, rfl⟩
theorem one_opt (l : List Ex) : ∃ x, l.length = 1 → l = [x] := by
  by_cases h : l.length = 1
  · obtain ⟨x, rfl⟩ := one_of h
    exact ⟨x, fun _ => rfl⟩
  · exact ⟨⟨0, ⟨#[]⟩, 0, ⟨0, ⟨#[]⟩, 0, []⟩, [], [], [], 0⟩, fun q => absurd q h⟩
theorem two_opt (l : List Ex) : ∃ x y, l.length = 2 → l = [x, y] := by
  by_cases h : l.length = 2
  · obtain ⟨x, y, rfl⟩ := two_of h
    exact ⟨x, y, fun _ => rfl⟩
  · exact ⟨⟨0, ⟨#[]⟩, 0, ⟨0, ⟨#[]⟩, 0, []⟩, [], [], [], 0⟩, ⟨0, ⟨#[]⟩, 0, ⟨0, ⟨#[]⟩, 0, []⟩, [], [], [], 0⟩, fun q => absurd q h⟩
set_option maxHeartbeats 4000000 in
set_option maxRecDepth 100000 in
theorem tValue_c (e : Ex) : BCall Try.prog 54 [.agg e.cells] e.Val := by
  obtain ⟨k, s, n, ⟨tk, ts, tn, tks⟩, ks, al, bs, p⟩ := e
  have IH : ∀ x ∈ ks, BCall Try.prog 54 [.agg x.cells] x.Val := fun x hx => tValue_c x
  have hl := Ex.cellss_len ks
  rw [Ex.val_iff]
  refine ACall.enter Try.func54 rfl (by kernel_rfl) rfl (Nat.le_of_ble_eq_true rfl) ?_
  refine c_start ?_
  refine c_seq ?_
  refine c_region ?_
  refine AOps.st 1 rfl rfl rfl (op_boxc (cs' := [_, _, _, _, _, _, _, _, _, _, _]) rfl rfl rfl rfl ?_)
  refine AOps.st 2 rfl rfl rfl (op_assign rfl rfl ?_)
  refine AOps.nil ?_
  refine go_code ?_
  refine c_seq ?_
  refine c_seq ?_
  refine c_region ?_
  refine AOps.st 4 rfl rfl rfl (op_fieldAddr_c rfl tf_60_0 rfl rfl ?_)
  refine AOps.st 5 rfl rfl rfl (op_load_c1 rfl ta_3 rfl rfl ?_)
  refine AOps.nil ?_
  refine go_code ?_
  refine c_block ?_
  refine c_seq ?_
  refine c_seq ?_
  refine c_region ?_
  refine AOps.st 7 rfl rfl rfl (op_eql rfl rfl rfl ?_); intro c7 h7
  refine AOps.st 6 rfl rfl rfl (op_assign rfl rfl ?_)
  refine AOps.nil ?_
  refine go_code ?_
  rcases bool_split h7 with ⟨rfl, g7⟩ | ⟨rfl, g7⟩
  · refine c_cond_f rfl ?_
    refine c_seq ?_
    refine c_region ?_
    refine AOps.st 8 rfl rfl rfl (op_eql rfl rfl rfl ?_); intro c8 h8
    refine AOps.st 6 rfl rfl rfl (op_assign rfl rfl ?_)
    refine AOps.nil ?_
    refine go_code ?_
    rcases bool_split h8 with ⟨rfl, g8⟩ | ⟨rfl, g8⟩
    · refine c_cond_f rfl ?_
      refine c_seq ?_
      refine c_region ?_
      refine AOps.st 9 rfl rfl rfl (op_eql rfl rfl rfl ?_); intro c9 h9
      refine AOps.st 6 rfl rfl rfl (op_assign rfl rfl ?_)
      refine AOps.nil ?_
      refine go_code ?_
      rcases bool_split h9 with ⟨rfl, g9⟩ | ⟨rfl, g9⟩
      · refine c_cond_f rfl ?_
        refine c_region ?_
        refine AOps.st 10 rfl rfl rfl (op_eql rfl rfl rfl ?_); intro c10 h10
        refine AOps.st 6 rfl rfl rfl (op_assign rfl rfl ?_)
        refine AOps.nil ?_
        refine go_code ?_
        rcases bool_split h10 with ⟨rfl, g10⟩ | ⟨rfl, g10⟩
        · refine c_cond_f rfl ?_
          refine c_seq ?_
          refine c_region ?_
          refine AOps.st 12 rfl rfl rfl (op_eql rfl rfl rfl ?_); intro c12 h12
          refine AOps.st 11 rfl rfl rfl (op_assign rfl rfl ?_)
          refine AOps.nil ?_
          refine go_code ?_
          rcases bool_split h12 with ⟨rfl, g12⟩ | ⟨rfl, g12⟩
          · refine c_cond_f rfl ?_
            refine c_seq ?_
            refine c_region ?_
            refine AOps.st 41 rfl rfl rfl (op_eql rfl rfl rfl ?_); intro c41 h41
            refine AOps.st 40 rfl rfl rfl (op_assign rfl rfl ?_)
            refine AOps.nil ?_
            refine go_code ?_
            rcases bool_split h41 with ⟨rfl, g41⟩ | ⟨rfl, g41⟩
            · refine c_cond_f rfl ?_
              refine c_skip ?_
              refine go_blk ?_
              refine go_code ?_
              refine c_seq ?_
              refine c_region ?_
              refine AOps.st 2 rfl rfl rfl (op_assign rfl rfl ?_)
              refine AOps.nil ?_
              refine go_code ?_
              refine c_ret ?_
              refine out_tmp rfl rfl (Le.refl _) (by first | exact MLe.none _ | exact MLe.refl _ | (repeat' (first | exact MLe.nil | exact MLe.refl _ | refine MLe.cons _ ?_ | refine MLe.drop _ ?_))) ⟨⟨_, iff_f ?_, rfl⟩, rfl⟩
              rintro (h | ⟨h, _⟩ | ⟨h, _⟩) <;> omega
            · refine c_cond_t rfl ?_
              refine c_seq ?_
              obtain ⟨⟨xk, xs, xn, ⟨xtk, xts, xtn, xtks⟩, xks, xal, xbs, xp⟩, hx0⟩ := one_opt ks
              have HX : ks.length = 1 → BCall Try.prog 54 [.agg (Ex.mk xk xs xn ⟨xtk, xts, xtn, xtks⟩ xks xal xbs xp).cells] (Ex.mk xk xs xn ⟨xtk, xts, xtn, xtks⟩ xks xal xbs xp).Val := fun h => IH _ (by rw [hx0 h]; simp)
              refine c_bool 2 (ks.length = 1 ∧ (Ex.mk xk xs xn ⟨xtk, xts, xtn, xtks⟩ xks xal xbs xp).Val) ?_ _ _ rfl ?_
              · skip
                refine AOps.st 42 rfl rfl rfl (op_fieldAddr_c rfl tf_60_4 rfl rfl ?_)
                refine AOps.st 43 rfl rfl rfl (op_load_c1 rfl ta_56 rfl rfl ?_)
                refine AOps.st 44 rfl rfl rfl (op_len rfl tu_56 rfl (.seq _ _) (fun n44 => ?_))
                refine AOps.st 45 rfl rfl rfl (op_eql rfl rfl rfl ?_); intro c45 h45
                refine AOps.st 46 rfl rfl rfl (op_move rfl rfl ?_)
                rcases bool_split h45 with ⟨rfl, g45⟩ | ⟨rfl, g45⟩
                · skip
                  refine AOps.gf 47 rfl rfl rfl rfl rfl ?_
                  refine AOps.gf 48 rfl rfl rfl rfl rfl ?_
                  refine AOps.gf 49 rfl rfl rfl rfl rfl ?_
                  refine AOps.gf 50 rfl rfl rfl rfl rfl ?_
                  refine AOps.gf 51 rfl rfl rfl rfl rfl ?_
                  refine AOps.st 52 rfl rfl rfl (op_pick rfl rfl rfl ?_)
                  refine AOps.st 2 rfl rfl rfl (op_assign rfl rfl ?_)
                  refine AOps.nil ?_
                  refine BoolQ.mk rfl ?_ (by repeat' (first | exact SLe.wo _ _ | exact SLe.refl _ | refine SLe.fresh rfl ?_)) (by first | exact MLe.none _ | exact MLe.refl _ | (repeat' (first | exact MLe.nil | exact MLe.refl _ | refine MLe.cons _ ?_ | refine MLe.drop _ ?_)))
                  first | (simp_all; done) | (simp_all; omega)
                · skip
                  refine AOps.gt 47 rfl rfl rfl rfl rfl (op_fieldAddr_c rfl tf_60_4 rfl rfl ?_)
                  refine AOps.gt 48 rfl rfl rfl rfl rfl (op_load_c1 rfl ta_56 rfl rfl ?_)
                  refine AOps.gt 49 rfl rfl rfl rfl rfl (op_index rfl te_56 rfl (.seq _ _) rfl rfl ((by rw [hx0 (by omega)]; rfl)) ?_)
                  first | (refine AOps.gt 50 rfl rfl rfl rfl rfl (op_load_m (cs' := [_, _, _, _, _, _, _, _, _, _, _]) (i := 0) rfl ta_60 rfl rfl rfl rfl ?_)) | (refine AOps.gt 50 rfl rfl rfl rfl rfl (op_load_m (cs' := [_, _, _, _, _, _, _, _, _, _, _]) (i := 1) rfl ta_60 rfl rfl rfl rfl ?_)) | (refine AOps.gt 50 rfl rfl rfl rfl rfl (op_load_m (cs' := [_, _, _, _, _, _, _, _, _, _, _]) (i := 2) rfl ta_60 rfl rfl rfl rfl ?_)) | (refine AOps.gt 50 rfl rfl rfl rfl rfl (op_load_m (cs' := [_, _, _, _, _, _, _, _, _, _, _]) (i := 3) rfl ta_60 rfl rfl rfl rfl ?_)) | (refine AOps.gt 50 rfl rfl rfl rfl rfl (op_load_m (cs' := [_, _, _, _, _, _, _, _, _, _, _]) (i := 4) rfl ta_60 rfl rfl rfl rfl ?_)) | (refine AOps.gt 50 rfl rfl rfl rfl rfl (op_load_m (cs' := [_, _, _, _, _, _, _, _, _, _, _]) (i := 5) rfl ta_60 rfl rfl rfl rfl ?_)) | (refine AOps.gt 50 rfl rfl rfl rfl rfl (op_load_c (cs' := [_, _, _, _, _, _, _, _, _, _, _]) rfl ta_60 rfl rfl rfl ?_))
                  refine AOps.gt 51 rfl rfl rfl rfl rfl (op_callb (xs := [.tmp 50]) rfl rfl ((HX (by omega))) (by first | exact Les.refl _ | (repeat' (first | exact Les.refl _ | refine Les.cons ?_ ?_ | exact Le.refl _ | exact Le.own _ _ _ | exact Le.nil _ | refine Le.agg ?_))) ?_); intro c51 h51
                  refine AOps.st 52 rfl rfl rfl (op_pick rfl rfl rfl ?_)
                  refine AOps.st 2 rfl rfl rfl (op_assign rfl rfl ?_)
                  refine AOps.nil ?_
                  refine BoolQ.mk rfl ?_ (by repeat' (first | exact SLe.wo _ _ | exact SLe.refl _ | refine SLe.fresh rfl ?_)) (by first | exact MLe.none _ | exact MLe.refl _ | (repeat' (first | exact MLe.nil | exact MLe.refl _ | refine MLe.cons _ ?_ | refine MLe.drop _ ?_)))
                  first | (simp_all; done) | (simp_all; omega)
              intro c2 h2
              refine go_code ?_
              refine c_ret ?_
              refine out_tmp rfl rfl (Le.refl _) (by first | exact MLe.none _ | exact MLe.refl _ | (repeat' (first | exact MLe.nil | exact MLe.refl _ | refine MLe.cons _ ?_ | refine MLe.drop _ ?_))) ⟨⟨_, h2.trans ⟨fun q => .inr (.inl ⟨by omega, _, hx0 q.1, q.2⟩), ?_⟩, rfl⟩, rfl⟩
              rintro (h | ⟨_, x, e, q⟩ | ⟨h, _⟩)
              · omega
              · subst e
                have := hx0 rfl
                simp only [List.cons.injEq, and_true] at this
                subst this
                exact ⟨rfl, q⟩
              · omega
          · refine c_cond_t rfl ?_
            refine c_seq ?_
            refine c_seq ?_
            refine c_region ?_
            refine AOps.st 13 rfl rfl rfl (op_fieldAddr_c rfl tf_60_4 rfl rfl ?_)
            refine AOps.st 14 rfl rfl rfl (op_load_c1 rfl ta_56 rfl rfl ?_)
            refine AOps.st 15 rfl rfl rfl (op_len rfl tu_56 rfl (.seq _ _) (fun n15 => ?_))
            refine AOps.st 16 rfl rfl rfl (op_neq rfl rfl rfl ?_); intro c16 h16
            refine AOps.nil ?_
            refine go_code ?_
            rcases bool_split h16 with ⟨rfl, g16⟩ | ⟨rfl, g16⟩
            · refine c_cond_f rfl ?_
              refine c_skip ?_
              refine go_code ?_
              refine c_seq ?_
              obtain ⟨⟨xk, xs, xn, ⟨xtk, xts, xtn, xtks⟩, xks, xal, xbs, xp⟩, ⟨yk, yt, yn, ⟨ytk, yts, ytn, ytks⟩, yks, yal, ybs, yp⟩, rfl⟩ := two_of (l := ks) (by omega)
              have H1 := IH _ (List.mem_cons_self)
              have H2 := IH ⟨yk, yt, yn, ⟨ytk, yts, ytn, ytks⟩, yks, yal, ybs, yp⟩ (by simp)
              refine c_region ?_
              refine AOps.st 17 rfl rfl rfl (op_fieldAddr_c rfl tf_60_4 rfl rfl ?_)
              refine AOps.st 18 rfl rfl rfl (op_load_c1 rfl ta_56 rfl rfl ?_)
              first | (refine AOps.st 19 rfl rfl rfl (op_index rfl te_56 rfl (.seq _ _) rfl rfl (by assumption) ?_)) | (refine AOps.st 19 rfl rfl rfl (op_index (i := 0) rfl te_56 rfl (.seq _ _) rfl rfl (by first | rfl | assumption) ?_))
              first | (refine AOps.st 20 rfl rfl rfl (op_load_m (cs' := [_, _, _, _, _, _, _, _, _, _, _]) (i := 0) rfl ta_60 rfl rfl rfl rfl ?_)) | (refine AOps.st 20 rfl rfl rfl (op_load_m (cs' := [_, _, _, _, _, _, _, _, _, _, _]) (i := 1) rfl ta_60 rfl rfl rfl rfl ?_)) | (refine AOps.st 20 rfl rfl rfl (op_load_m (cs' := [_, _, _, _, _, _, _, _, _, _, _]) (i := 2) rfl ta_60 rfl rfl rfl rfl ?_)) | (refine AOps.st 20 rfl rfl rfl (op_load_m (cs' := [_, _, _, _, _, _, _, _, _, _, _]) (i := 3) rfl ta_60 rfl rfl rfl rfl ?_)) | (refine AOps.st 20 rfl rfl rfl (op_load_m (cs' := [_, _, _, _, _, _, _, _, _, _, _]) (i := 4) rfl ta_60 rfl rfl rfl rfl ?_)) | (refine AOps.st 20 rfl rfl rfl (op_load_m (cs' := [_, _, _, _, _, _, _, _, _, _, _]) (i := 5) rfl ta_60 rfl rfl rfl rfl ?_)) | (refine AOps.st 20 rfl rfl rfl (op_load_c (cs' := [_, _, _, _, _, _, _, _, _, _, _]) rfl ta_60 rfl rfl rfl ?_))
              refine AOps.st 3 rfl rfl rfl (op_alloce (cs' := [_, _, _, _, _, _, _, _, _, _, _]) rfl tz_60 rfl rfl ?_); intro b3
              refine AOps.st0 rfl rfl (op_store (cs' := [_, _, _, _, _, _, _, _, _, _, _]) (i := 0) rfl ts_60 rfl rfl rfl rfl rfl (Nat.le_of_ble_eq_true rfl) rfl ?_)
              refine AOps.nil ?_
              refine go_code ?_
              refine c_seq ?_
              refine c_bool 2 ((xk = 4 ∨ xk = 5 ∧ Ex.Val ⟨xk, xs, xn, ⟨xtk, xts, xtn, xtks⟩, xks, xal, xbs, xp⟩) ∧ Ex.Val ⟨yk, yt, yn, ⟨ytk, yts, ytn, ytks⟩, yks, yal, ybs, yp⟩) ?_ _ _ rfl ?_
              · skip
                refine AOps.st 21 rfl rfl rfl (op_fieldAddr_m rfl tf_60_0 rfl ?_)
                refine AOps.st 22 rfl rfl rfl (op_load_m1 (i := 0) rfl ta_3 rfl rfl rfl ?_)
                refine AOps.st 23 rfl rfl rfl (op_eql rfl rfl rfl ?_); intro c23 h23
                refine AOps.st 24 rfl rfl rfl (op_move rfl rfl ?_)
                rcases bool_split h23 with ⟨rfl, g23⟩ | ⟨rfl, g23⟩
                · skip
                  refine AOps.gt 25 rfl rfl rfl rfl rfl (op_fieldAddr_m rfl tf_60_0 rfl ?_)
                  refine AOps.gt 26 rfl rfl rfl rfl rfl (op_load_m1 (i := 0) rfl ta_3 rfl rfl rfl ?_)
                  refine AOps.gt 27 rfl rfl rfl rfl rfl (op_eql rfl rfl rfl ?_); intro c27 h27
                  refine AOps.gt 28 rfl rfl rfl rfl rfl (op_move rfl rfl ?_)
                  rcases bool_split h27 with ⟨rfl, g27⟩ | ⟨rfl, g27⟩
                  · skip
                    refine AOps.gf 29 rfl rfl rfl rfl rfl ?_
                    refine AOps.gf 30 rfl rfl rfl rfl rfl ?_
                    refine AOps.gt 31 rfl rfl rfl rfl rfl (op_pick rfl rfl rfl ?_)
                    refine AOps.st 32 rfl rfl rfl (op_pick rfl rfl rfl ?_)
                    refine AOps.st 33 rfl rfl rfl (op_move rfl rfl ?_)
                    refine AOps.gf 34 rfl rfl rfl rfl rfl ?_
                    refine AOps.gf 35 rfl rfl rfl rfl rfl ?_
                    refine AOps.gf 36 rfl rfl rfl rfl rfl ?_
                    refine AOps.gf 37 rfl rfl rfl rfl rfl ?_
                    refine AOps.gf 38 rfl rfl rfl rfl rfl ?_
                    refine AOps.st 39 rfl rfl rfl (op_pick rfl rfl rfl ?_)
                    refine AOps.st 2 rfl rfl rfl (op_assign rfl rfl ?_)
                    refine AOps.nil ?_
                    refine BoolQ.mk rfl ?_ (by repeat' (first | exact SLe.wo _ _ | exact SLe.refl _ | refine SLe.fresh rfl ?_)) (by first | exact MLe.none _ | exact MLe.refl _ | (repeat' (first | exact MLe.nil | exact MLe.refl _ | refine MLe.cons _ ?_ | refine MLe.drop _ ?_)))
                    simp_all; done
                  · skip
                    refine AOps.gt 29 rfl rfl rfl rfl rfl (op_load_m (cs' := [_, _, _, _, _, _, _, _, _, _, _]) (i := 0) rfl ta_60 rfl rfl rfl rfl ?_)
                    refine AOps.gt 30 rfl rfl rfl rfl rfl (op_callb (xs := [.tmp 29]) rfl rfl (H1) (by first | exact Les.refl _ | (repeat' (first | exact Les.refl _ | refine Les.cons ?_ ?_ | exact Le.refl _ | exact Le.own _ _ _ | exact Le.nil _ | refine Le.agg ?_))) ?_); intro c30 h30
                    refine AOps.gt 31 rfl rfl rfl rfl rfl (op_pick rfl rfl rfl ?_)
                    refine AOps.st 32 rfl rfl rfl (op_pick rfl rfl rfl ?_)
                    refine AOps.st 33 rfl rfl rfl (op_move rfl rfl ?_)
                    rcases bool_split h30 with ⟨rfl, g30⟩ | ⟨rfl, g30⟩
                    · skip
                      refine AOps.gf 34 rfl rfl rfl rfl rfl ?_
                      refine AOps.gf 35 rfl rfl rfl rfl rfl ?_
                      refine AOps.gf 36 rfl rfl rfl rfl rfl ?_
                      refine AOps.gf 37 rfl rfl rfl rfl rfl ?_
                      refine AOps.gf 38 rfl rfl rfl rfl rfl ?_
                      refine AOps.st 39 rfl rfl rfl (op_pick rfl rfl rfl ?_)
                      refine AOps.st 2 rfl rfl rfl (op_assign rfl rfl ?_)
                      refine AOps.nil ?_
                      refine BoolQ.mk rfl ?_ (by repeat' (first | exact SLe.wo _ _ | exact SLe.refl _ | refine SLe.fresh rfl ?_)) (by first | exact MLe.none _ | exact MLe.refl _ | (repeat' (first | exact MLe.nil | exact MLe.refl _ | refine MLe.cons _ ?_ | refine MLe.drop _ ?_)))
                      simp_all; done
                    · skip
                      refine AOps.gt 34 rfl rfl rfl rfl rfl (op_fieldAddr_c rfl tf_60_4 rfl rfl ?_)
                      refine AOps.gt 35 rfl rfl rfl rfl rfl (op_load_c1 rfl ta_56 rfl rfl ?_)
                      first | (refine AOps.gt 36 rfl rfl rfl rfl rfl (op_index rfl te_56 rfl (.seq _ _) rfl rfl (by assumption) ?_)) | (refine AOps.gt 36 rfl rfl rfl rfl rfl (op_index (i := 0) rfl te_56 rfl (.seq _ _) rfl rfl (by first | rfl | assumption) ?_)) | (refine AOps.gt 36 rfl rfl rfl rfl rfl (op_index (i := 1) rfl te_56 rfl (.seq _ _) rfl rfl (by first | rfl | assumption) ?_))
                      first | (refine AOps.gt 37 rfl rfl rfl rfl rfl (op_load_m (cs' := [_, _, _, _, _, _, _, _, _, _, _]) (i := 0) rfl ta_60 rfl rfl rfl rfl ?_)) | (refine AOps.gt 37 rfl rfl rfl rfl rfl (op_load_m (cs' := [_, _, _, _, _, _, _, _, _, _, _]) (i := 1) rfl ta_60 rfl rfl rfl rfl ?_)) | (refine AOps.gt 37 rfl rfl rfl rfl rfl (op_load_m (cs' := [_, _, _, _, _, _, _, _, _, _, _]) (i := 2) rfl ta_60 rfl rfl rfl rfl ?_)) | (refine AOps.gt 37 rfl rfl rfl rfl rfl (op_load_m (cs' := [_, _, _, _, _, _, _, _, _, _, _]) (i := 3) rfl ta_60 rfl rfl rfl rfl ?_)) | (refine AOps.gt 37 rfl rfl rfl rfl rfl (op_load_m (cs' := [_, _, _, _, _, _, _, _, _, _, _]) (i := 4) rfl ta_60 rfl rfl rfl rfl ?_)) | (refine AOps.gt 37 rfl rfl rfl rfl rfl (op_load_m (cs' := [_, _, _, _, _, _, _, _, _, _, _]) (i := 5) rfl ta_60 rfl rfl rfl rfl ?_)) | (refine AOps.gt 37 rfl rfl rfl rfl rfl (op_load_c (cs' := [_, _, _, _, _, _, _, _, _, _, _]) rfl ta_60 rfl rfl rfl ?_))
                      refine AOps.gt 38 rfl rfl rfl rfl rfl (op_callb (xs := [.tmp 37]) rfl rfl (H2) (by first | exact Les.refl _ | (repeat' (first | exact Les.refl _ | refine Les.cons ?_ ?_ | exact Le.refl _ | exact Le.own _ _ _ | exact Le.nil _ | refine Le.agg ?_))) ?_); intro c38 h38
                      refine AOps.st 39 rfl rfl rfl (op_pick rfl rfl rfl ?_)
                      refine AOps.st 2 rfl rfl rfl (op_assign rfl rfl ?_)
                      refine AOps.nil ?_
                      refine BoolQ.mk rfl ?_ (by repeat' (first | exact SLe.wo _ _ | exact SLe.refl _ | refine SLe.fresh rfl ?_)) (by first | exact MLe.none _ | exact MLe.refl _ | (repeat' (first | exact MLe.nil | exact MLe.refl _ | refine MLe.cons _ ?_ | refine MLe.drop _ ?_)))
                      simp_all; done
                · skip
                  refine AOps.gf 25 rfl rfl rfl rfl rfl ?_
                  refine AOps.gf 26 rfl rfl rfl rfl rfl ?_
                  refine AOps.gf 27 rfl rfl rfl rfl rfl ?_
                  refine AOps.gf 28 rfl rfl rfl rfl rfl ?_
                  refine AOps.gu 29 rfl rfl rfl rfl rfl ?_
                  refine AOps.gu 30 rfl rfl rfl rfl rfl ?_
                  refine AOps.gf 31 rfl rfl rfl rfl rfl ?_
                  refine AOps.st 32 rfl rfl rfl (op_pick rfl rfl rfl ?_)
                  refine AOps.st 33 rfl rfl rfl (op_move rfl rfl ?_)
                  refine AOps.gt 34 rfl rfl rfl rfl rfl (op_fieldAddr_c rfl tf_60_4 rfl rfl ?_)
                  refine AOps.gt 35 rfl rfl rfl rfl rfl (op_load_c1 rfl ta_56 rfl rfl ?_)
                  first | (refine AOps.gt 36 rfl rfl rfl rfl rfl (op_index rfl te_56 rfl (.seq _ _) rfl rfl (by assumption) ?_)) | (refine AOps.gt 36 rfl rfl rfl rfl rfl (op_index (i := 0) rfl te_56 rfl (.seq _ _) rfl rfl (by first | rfl | assumption) ?_)) | (refine AOps.gt 36 rfl rfl rfl rfl rfl (op_index (i := 1) rfl te_56 rfl (.seq _ _) rfl rfl (by first | rfl | assumption) ?_))
                  first | (refine AOps.gt 37 rfl rfl rfl rfl rfl (op_load_m (cs' := [_, _, _, _, _, _, _, _, _, _, _]) (i := 0) rfl ta_60 rfl rfl rfl rfl ?_)) | (refine AOps.gt 37 rfl rfl rfl rfl rfl (op_load_m (cs' := [_, _, _, _, _, _, _, _, _, _, _]) (i := 1) rfl ta_60 rfl rfl rfl rfl ?_)) | (refine AOps.gt 37 rfl rfl rfl rfl rfl (op_load_m (cs' := [_, _, _, _, _, _, _, _, _, _, _]) (i := 2) rfl ta_60 rfl rfl rfl rfl ?_)) | (refine AOps.gt 37 rfl rfl rfl rfl rfl (op_load_m (cs' := [_, _, _, _, _, _, _, _, _, _, _]) (i := 3) rfl ta_60 rfl rfl rfl rfl ?_)) | (refine AOps.gt 37 rfl rfl rfl rfl rfl (op_load_m (cs' := [_, _, _, _, _, _, _, _, _, _, _]) (i := 4) rfl ta_60 rfl rfl rfl rfl ?_)) | (refine AOps.gt 37 rfl rfl rfl rfl rfl (op_load_m (cs' := [_, _, _, _, _, _, _, _, _, _, _]) (i := 5) rfl ta_60 rfl rfl rfl rfl ?_)) | (refine AOps.gt 37 rfl rfl rfl rfl rfl (op_load_c (cs' := [_, _, _, _, _, _, _, _, _, _, _]) rfl ta_60 rfl rfl rfl ?_))
                  refine AOps.gt 38 rfl rfl rfl rfl rfl (op_callb (xs := [.tmp 37]) rfl rfl (H2) (by first | exact Les.refl _ | (repeat' (first | exact Les.refl _ | refine Les.cons ?_ ?_ | exact Le.refl _ | exact Le.own _ _ _ | exact Le.nil _ | refine Le.agg ?_))) ?_); intro c38 h38
                  refine AOps.st 39 rfl rfl rfl (op_pick rfl rfl rfl ?_)
                  refine AOps.st 2 rfl rfl rfl (op_assign rfl rfl ?_)
                  refine AOps.nil ?_
                  refine BoolQ.mk rfl ?_ (by repeat' (first | exact SLe.wo _ _ | exact SLe.refl _ | refine SLe.fresh rfl ?_)) (by first | exact MLe.none _ | exact MLe.refl _ | (repeat' (first | exact MLe.nil | exact MLe.refl _ | refine MLe.cons _ ?_ | refine MLe.drop _ ?_)))
                  simp_all; done
              intro c2 h2
              refine go_code ?_
              refine c_ret ?_
              refine out_tmp rfl rfl (Le.refl _) (by first | exact MLe.none _ | exact MLe.refl _ | (repeat' (first | exact MLe.nil | exact MLe.refl _ | refine MLe.cons _ ?_ | refine MLe.drop _ ?_))) ⟨⟨_, h2.trans ⟨fun q => .inr (.inr ⟨g12, _, _, rfl, q⟩), ?_⟩, rfl⟩, rfl⟩
              rintro (h | ⟨h, _⟩ | ⟨_, f, x, e, q⟩)
              · omega
              · omega
              · simp only [List.cons.injEq, and_true] at e
                obtain ⟨rfl, rfl⟩ := e
                exact q
            · refine c_cond_t rfl ?_
              refine c_seq ?_
              refine c_region ?_
              refine AOps.st 2 rfl rfl rfl (op_assign rfl rfl ?_)
              refine AOps.nil ?_
              refine go_code ?_
              refine c_ret ?_
              refine out_tmp rfl rfl (Le.refl _) (by first | exact MLe.none _ | exact MLe.refl _ | (repeat' (first | exact MLe.nil | exact MLe.refl _ | refine MLe.cons _ ?_ | refine MLe.drop _ ?_))) ⟨⟨_, iff_f ?_, rfl⟩, rfl⟩
              rintro (h | ⟨h, _⟩ | ⟨_, f, x, rfl, _⟩)
              · omega
              · omega
              · simp at hl; omega
        · refine c_cond_t rfl ?_
          refine c_seq ?_
          refine c_region ?_
          refine AOps.st 2 rfl rfl rfl (op_assign rfl rfl ?_)
          refine AOps.nil ?_
          refine go_code ?_
          refine c_ret ?_
          exact out_tmp rfl rfl (Le.refl _) (by first | exact MLe.none _ | exact MLe.refl _ | (repeat' (first | exact MLe.nil | exact MLe.refl _ | refine MLe.cons _ ?_ | refine MLe.drop _ ?_))) ⟨⟨_, iff_t (.inl (by omega)), rfl⟩, rfl⟩
      · refine c_cond_t rfl ?_
        refine c_skip ?_
        refine go_code ?_
        refine c_cond_t rfl ?_
        refine c_seq ?_
        refine c_region ?_
        refine AOps.st 2 rfl rfl rfl (op_assign rfl rfl ?_)
        refine AOps.nil ?_
        refine go_code ?_
        refine c_ret ?_
        exact out_tmp rfl rfl (Le.refl _) (by first | exact MLe.none _ | exact MLe.refl _ | (repeat' (first | exact MLe.nil | exact MLe.refl _ | refine MLe.cons _ ?_ | refine MLe.drop _ ?_))) ⟨⟨_, iff_t (.inl (by omega)), rfl⟩, rfl⟩
    · refine c_cond_t rfl ?_
      refine c_skip ?_
      refine go_code ?_
      refine c_cond_t rfl ?_
      refine c_seq ?_
      refine c_region ?_
      refine AOps.st 2 rfl rfl rfl (op_assign rfl rfl ?_)
      refine AOps.nil ?_
      refine go_code ?_
      refine c_ret ?_
      exact out_tmp rfl rfl (Le.refl _) (by first | exact MLe.none _ | exact MLe.refl _ | (repeat' (first | exact MLe.nil | exact MLe.refl _ | refine MLe.cons _ ?_ | refine MLe.drop _ ?_))) ⟨⟨_, iff_t (.inl (by omega)), rfl⟩, rfl⟩
  · refine c_cond_t rfl ?_
    refine c_skip ?_
    refine go_code ?_
    refine c_cond_t rfl ?_
    refine c_seq ?_
    refine c_region ?_
    refine AOps.st 2 rfl rfl rfl (op_assign rfl rfl ?_)
    refine AOps.nil ?_
    refine go_code ?_
    refine c_ret ?_
    exact out_tmp rfl rfl (Le.refl _) (by first | exact MLe.none _ | exact MLe.refl _ | (repeat' (first | exact MLe.nil | exact MLe.refl _ | refine MLe.cons _ ?_ | refine MLe.drop _ ?_))) ⟨⟨_, iff_t (.inl (by omega)), rfl⟩, rfl⟩
termination_by SizeOf.sizeOf e
decreasing_by exact Ex.lt_kid hx
set_option maxHeartbeats 4000000 in
set_option maxRecDepth 100000 in
theorem rValue_c (e : Ex) : BCall Try.prog 55 [.agg e.cells] e.Val := by
  obtain ⟨k, s, n, ⟨tk, ts, tn, tks⟩, ks, al, bs, p⟩ := e
  have IH : ∀ x ∈ ks, BCall Try.prog 55 [.agg x.cells] x.Val := fun x hx => rValue_c x
  have hl := Ex.cellss_len ks
  rw [Ex.val_iff]
  obtain ⟨⟨xk, xs, xn, ⟨xtk, xts, xtn, xtks⟩, xks, xal, xbs, xp⟩, hx0⟩ := one_opt ks
  have HX : ks.length = 1 → BCall Try.prog 55 [.agg (Ex.mk xk xs xn ⟨xtk, xts, xtn, xtks⟩ xks xal xbs xp).cells] (Ex.mk xk xs xn ⟨xtk, xts, xtn, xtks⟩ xks xal xbs xp).Val := fun h => IH _ (by rw [hx0 h]; simp)
  obtain ⟨⟨zk, zs, zn, ⟨ztk, zts, ztn, ztks⟩, zks, zal, zbs, zp⟩, ⟨yk, yt, yn, ⟨ytk, yts, ytn, ytks⟩, yks, yal, ybs, yp⟩, hy0⟩ := two_opt ks
  have HZ : ks.length = 2 → BCall Try.prog 55 [.agg (Ex.mk zk zs zn ⟨ztk, zts, ztn, ztks⟩ zks zal zbs zp).cells] (Ex.mk zk zs zn ⟨ztk, zts, ztn, ztks⟩ zks zal zbs zp).Val := fun h => IH _ (by rw [hy0 h]; simp)
  have HY : ks.length = 2 → BCall Try.prog 55 [.agg (Ex.mk yk yt yn ⟨ytk, yts, ytn, ytks⟩ yks yal ybs yp).cells] (Ex.mk yk yt yn ⟨ytk, yts, ytn, ytks⟩ yks yal ybs yp).Val := fun h => IH _ (by rw [hy0 h]; simp)
  refine ACall.enter Try.func55 rfl (by kernel_rfl) rfl (Nat.le_of_ble_eq_true rfl) ?_
  refine c_start ?_
  refine c_seq ?_
  refine c_region ?_
  refine AOps.st 1 rfl rfl rfl (op_boxc (cs' := [_, _, _, _, _, _, _, _, _, _, _]) rfl rfl rfl rfl ?_)
  refine AOps.st 2 rfl rfl rfl (op_assign rfl rfl ?_)
  refine AOps.nil ?_
  refine go_code ?_
  refine c_seq ?_
  refine c_seq ?_
  refine c_bool 21 (k = 2 ∨ k = 3 ∨ k = 4 ∨ k = 6) ?_ _ _ rfl ?_
  · skip
    refine AOps.st 4 rfl rfl rfl (op_fieldAddr_c rfl tf_60_0 rfl rfl ?_)
    refine AOps.st 5 rfl rfl rfl (op_load_c1 rfl ta_3 rfl rfl ?_)
    refine AOps.st 6 rfl rfl rfl (op_eql rfl rfl rfl ?_); intro c6 h6
    refine AOps.st 7 rfl rfl rfl (op_move rfl rfl ?_)
    rcases bool_split h6 with ⟨rfl, g6⟩ | ⟨rfl, g6⟩
    · skip
      refine AOps.gt 8 rfl rfl rfl rfl rfl (op_fieldAddr_c rfl tf_60_0 rfl rfl ?_)
      refine AOps.gt 9 rfl rfl rfl rfl rfl (op_load_c1 rfl ta_3 rfl rfl ?_)
      refine AOps.gt 10 rfl rfl rfl rfl rfl (op_eql rfl rfl rfl ?_); intro c10 h10
      refine AOps.st 11 rfl rfl rfl (op_pick rfl rfl rfl ?_)
      refine AOps.st 12 rfl rfl rfl (op_move rfl rfl ?_)
      rcases bool_split h10 with ⟨rfl, g10⟩ | ⟨rfl, g10⟩
      · skip
        refine AOps.gt 13 rfl rfl rfl rfl rfl (op_fieldAddr_c rfl tf_60_0 rfl rfl ?_)
        refine AOps.gt 14 rfl rfl rfl rfl rfl (op_load_c1 rfl ta_3 rfl rfl ?_)
        refine AOps.gt 15 rfl rfl rfl rfl rfl (op_eql rfl rfl rfl ?_); intro c15 h15
        refine AOps.st 16 rfl rfl rfl (op_pick rfl rfl rfl ?_)
        refine AOps.st 17 rfl rfl rfl (op_move rfl rfl ?_)
        rcases bool_split h15 with ⟨rfl, g15⟩ | ⟨rfl, g15⟩
        · skip
          refine AOps.gt 18 rfl rfl rfl rfl rfl (op_fieldAddr_c rfl tf_60_0 rfl rfl ?_)
          refine AOps.gt 19 rfl rfl rfl rfl rfl (op_load_c1 rfl ta_3 rfl rfl ?_)
          refine AOps.gt 20 rfl rfl rfl rfl rfl (op_eql rfl rfl rfl ?_); intro c20 h20
          refine AOps.st 21 rfl rfl rfl (op_pick rfl rfl rfl ?_)
          refine AOps.nil ?_
          refine BoolQ.mk rfl ?_ (by repeat' (first | exact SLe.wo _ _ | exact SLe.refl _ | refine SLe.fresh rfl ?_)) (by first | exact MLe.none _ | exact MLe.refl _ | (repeat' (first | exact MLe.nil | exact MLe.refl _ | refine MLe.cons _ ?_ | refine MLe.drop _ ?_)))
          simp_all; done
        · skip
          refine AOps.gf 18 rfl rfl rfl rfl rfl ?_
          refine AOps.gf 19 rfl rfl rfl rfl rfl ?_
          refine AOps.gf 20 rfl rfl rfl rfl rfl ?_
          refine AOps.st 21 rfl rfl rfl (op_pick rfl rfl rfl ?_)
          refine AOps.nil ?_
          refine BoolQ.mk rfl ?_ (by repeat' (first | exact SLe.wo _ _ | exact SLe.refl _ | refine SLe.fresh rfl ?_)) (by first | exact MLe.none _ | exact MLe.refl _ | (repeat' (first | exact MLe.nil | exact MLe.refl _ | refine MLe.cons _ ?_ | refine MLe.drop _ ?_)))
          simp_all; done
      · skip
        refine AOps.gf 13 rfl rfl rfl rfl rfl ?_
        refine AOps.gf 14 rfl rfl rfl rfl rfl ?_
        refine AOps.gf 15 rfl rfl rfl rfl rfl ?_
        refine AOps.st 16 rfl rfl rfl (op_pick rfl rfl rfl ?_)
        refine AOps.st 17 rfl rfl rfl (op_move rfl rfl ?_)
        refine AOps.gf 18 rfl rfl rfl rfl rfl ?_
        refine AOps.gf 19 rfl rfl rfl rfl rfl ?_
        refine AOps.gf 20 rfl rfl rfl rfl rfl ?_
        refine AOps.st 21 rfl rfl rfl (op_pick rfl rfl rfl ?_)
        refine AOps.nil ?_
        refine BoolQ.mk rfl ?_ (by repeat' (first | exact SLe.wo _ _ | exact SLe.refl _ | refine SLe.fresh rfl ?_)) (by first | exact MLe.none _ | exact MLe.refl _ | (repeat' (first | exact MLe.nil | exact MLe.refl _ | refine MLe.cons _ ?_ | refine MLe.drop _ ?_)))
        simp_all; done
    · skip
      refine AOps.gf 8 rfl rfl rfl rfl rfl ?_
      refine AOps.gf 9 rfl rfl rfl rfl rfl ?_
      refine AOps.gf 10 rfl rfl rfl rfl rfl ?_
      refine AOps.st 11 rfl rfl rfl (op_pick rfl rfl rfl ?_)
      refine AOps.st 12 rfl rfl rfl (op_move rfl rfl ?_)
      refine AOps.gf 13 rfl rfl rfl rfl rfl ?_
      refine AOps.gf 14 rfl rfl rfl rfl rfl ?_
      refine AOps.gf 15 rfl rfl rfl rfl rfl ?_
      refine AOps.st 16 rfl rfl rfl (op_pick rfl rfl rfl ?_)
      refine AOps.st 17 rfl rfl rfl (op_move rfl rfl ?_)
      refine AOps.gf 18 rfl rfl rfl rfl rfl ?_
      refine AOps.gf 19 rfl rfl rfl rfl rfl ?_
      refine AOps.gf 20 rfl rfl rfl rfl rfl ?_
      refine AOps.st 21 rfl rfl rfl (op_pick rfl rfl rfl ?_)
      refine AOps.nil ?_
      refine BoolQ.mk rfl ?_ (by repeat' (first | exact SLe.wo _ _ | exact SLe.refl _ | refine SLe.fresh rfl ?_)) (by first | exact MLe.none _ | exact MLe.refl _ | (repeat' (first | exact MLe.nil | exact MLe.refl _ | refine MLe.cons _ ?_ | refine MLe.drop _ ?_)))
      simp_all; done
  intro c21 h21
  refine go_code ?_
  rcases bool_split h21 with ⟨rfl, g21⟩ | ⟨rfl, g21⟩
  · refine c_cond_f rfl ?_
    refine c_skip ?_
    refine go_code ?_
    refine c_seq ?_
    refine c_seq ?_
    refine c_region ?_
    refine AOps.st 22 rfl rfl rfl (op_fieldAddr_c rfl tf_60_0 rfl rfl ?_)
    refine AOps.st 23 rfl rfl rfl (op_load_c1 rfl ta_3 rfl rfl ?_)
    refine AOps.st 24 rfl rfl rfl (op_eql rfl rfl rfl ?_); intro c24 h24
    refine AOps.nil ?_
    refine go_code ?_
    rcases bool_split h24 with ⟨rfl, g24⟩ | ⟨rfl, g24⟩
    · refine c_cond_f rfl ?_
      refine c_skip ?_
      refine go_code ?_
      refine c_seq ?_
      refine c_seq ?_
      refine c_bool 52 (¬ (k = 5 ∧ ks.length = 2 ∧ (Ex.mk yk yt yn ⟨ytk, yts, ytn, ytks⟩ yks yal ybs yp).Val)) ?_ _ _ rfl ?_
      · skip
        refine AOps.st 36 rfl rfl rfl (op_fieldAddr_c rfl tf_60_0 rfl rfl ?_)
        refine AOps.st 37 rfl rfl rfl (op_load_c1 rfl ta_3 rfl rfl ?_)
        refine AOps.st 38 rfl rfl rfl (op_neq rfl rfl rfl ?_); intro c38 h38
        refine AOps.st 39 rfl rfl rfl (op_move rfl rfl ?_)
        rcases bool_split h38 with ⟨rfl, g38⟩ | ⟨rfl, g38⟩
        · skip
          refine AOps.gt 40 rfl rfl rfl rfl rfl (op_fieldAddr_c rfl tf_60_4 rfl rfl ?_)
          refine AOps.gt 41 rfl rfl rfl rfl rfl (op_load_c1 rfl ta_56 rfl rfl ?_)
          refine AOps.gt 42 rfl rfl rfl rfl rfl (op_len rfl tu_56 rfl (.seq _ _) (fun n42 => ?_))
          refine AOps.gt 43 rfl rfl rfl rfl rfl (op_neq rfl rfl rfl ?_); intro c43 h43
          refine AOps.st 44 rfl rfl rfl (op_pick rfl rfl rfl ?_)
          refine AOps.st 45 rfl rfl rfl (op_move rfl rfl ?_)
          rcases bool_split h43 with ⟨rfl, g43⟩ | ⟨rfl, g43⟩
          · skip
            refine AOps.gt 46 rfl rfl rfl rfl rfl (op_fieldAddr_c rfl tf_60_4 rfl rfl ?_)
            refine AOps.gt 47 rfl rfl rfl rfl rfl (op_load_c1 rfl ta_56 rfl rfl ?_)
            refine AOps.gt 48 rfl rfl rfl rfl rfl (op_index rfl te_56 rfl (.seq _ _) rfl rfl ((by rw [hy0 (by omega)]; rfl)) ?_)
            first | (refine AOps.gt 49 rfl rfl rfl rfl rfl (op_load_m (cs' := [_, _, _, _, _, _, _, _, _, _, _]) (i := 0) rfl ta_60 rfl rfl rfl rfl ?_)) | (refine AOps.gt 49 rfl rfl rfl rfl rfl (op_load_m (cs' := [_, _, _, _, _, _, _, _, _, _, _]) (i := 1) rfl ta_60 rfl rfl rfl rfl ?_)) | (refine AOps.gt 49 rfl rfl rfl rfl rfl (op_load_m (cs' := [_, _, _, _, _, _, _, _, _, _, _]) (i := 2) rfl ta_60 rfl rfl rfl rfl ?_)) | (refine AOps.gt 49 rfl rfl rfl rfl rfl (op_load_m (cs' := [_, _, _, _, _, _, _, _, _, _, _]) (i := 3) rfl ta_60 rfl rfl rfl rfl ?_)) | (refine AOps.gt 49 rfl rfl rfl rfl rfl (op_load_m (cs' := [_, _, _, _, _, _, _, _, _, _, _]) (i := 4) rfl ta_60 rfl rfl rfl rfl ?_)) | (refine AOps.gt 49 rfl rfl rfl rfl rfl (op_load_m (cs' := [_, _, _, _, _, _, _, _, _, _, _]) (i := 5) rfl ta_60 rfl rfl rfl rfl ?_)) | (refine AOps.gt 49 rfl rfl rfl rfl rfl (op_load_c (cs' := [_, _, _, _, _, _, _, _, _, _, _]) rfl ta_60 rfl rfl rfl ?_))
            refine AOps.gt 50 rfl rfl rfl rfl rfl (op_callb (xs := [.tmp 49]) rfl rfl ((HY (by omega))) (by first | exact Les.refl _ | (repeat' (first | exact Les.refl _ | refine Les.cons ?_ ?_ | exact Le.refl _ | exact Le.own _ _ _ | exact Le.nil _ | refine Le.agg ?_))) ?_); intro c50 h50
            refine AOps.gt 51 rfl rfl rfl rfl rfl (op_notc rfl rfl ?_); intro c51 h51
            try replace h51 := nott h51 h50
            refine AOps.st 52 rfl rfl rfl (op_pick rfl rfl rfl ?_)
            refine AOps.nil ?_
            refine BoolQ.mk rfl ?_ (by repeat' (first | exact SLe.wo _ _ | exact SLe.refl _ | refine SLe.fresh rfl ?_)) (by first | exact MLe.none _ | exact MLe.refl _ | (repeat' (first | exact MLe.nil | exact MLe.refl _ | refine MLe.cons _ ?_ | refine MLe.drop _ ?_)))
            first | (simp_all; done) | (simp_all; omega)
          · skip
            refine AOps.gf 46 rfl rfl rfl rfl rfl ?_
            refine AOps.gf 47 rfl rfl rfl rfl rfl ?_
            refine AOps.gf 48 rfl rfl rfl rfl rfl ?_
            refine AOps.gf 49 rfl rfl rfl rfl rfl ?_
            refine AOps.gf 50 rfl rfl rfl rfl rfl ?_
            refine AOps.gf 51 rfl rfl rfl rfl rfl ?_
            refine AOps.st 52 rfl rfl rfl (op_pick rfl rfl rfl ?_)
            refine AOps.nil ?_
            refine BoolQ.mk rfl ?_ (by repeat' (first | exact SLe.wo _ _ | exact SLe.refl _ | refine SLe.fresh rfl ?_)) (by first | exact MLe.none _ | exact MLe.refl _ | (repeat' (first | exact MLe.nil | exact MLe.refl _ | refine MLe.cons _ ?_ | refine MLe.drop _ ?_)))
            first | (simp_all; done) | (simp_all; omega)
        · skip
          refine AOps.gf 40 rfl rfl rfl rfl rfl ?_
          refine AOps.gf 41 rfl rfl rfl rfl rfl ?_
          refine AOps.gf 42 rfl rfl rfl rfl rfl ?_
          refine AOps.gf 43 rfl rfl rfl rfl rfl ?_
          refine AOps.st 44 rfl rfl rfl (op_pick rfl rfl rfl ?_)
          refine AOps.st 45 rfl rfl rfl (op_move rfl rfl ?_)
          refine AOps.gf 46 rfl rfl rfl rfl rfl ?_
          refine AOps.gf 47 rfl rfl rfl rfl rfl ?_
          refine AOps.gf 48 rfl rfl rfl rfl rfl ?_
          refine AOps.gf 49 rfl rfl rfl rfl rfl ?_
          refine AOps.gf 50 rfl rfl rfl rfl rfl ?_
          refine AOps.gf 51 rfl rfl rfl rfl rfl ?_
          refine AOps.st 52 rfl rfl rfl (op_pick rfl rfl rfl ?_)
          refine AOps.nil ?_
          refine BoolQ.mk rfl ?_ (by repeat' (first | exact SLe.wo _ _ | exact SLe.refl _ | refine SLe.fresh rfl ?_)) (by first | exact MLe.none _ | exact MLe.refl _ | (repeat' (first | exact MLe.nil | exact MLe.refl _ | refine MLe.cons _ ?_ | refine MLe.drop _ ?_)))
          simp_all; done
      intro c52 h52
      refine go_code ?_
      rcases bool_split h52 with ⟨rfl, g52⟩ | ⟨rfl, g52⟩
      · refine c_cond_f rfl ?_
        refine c_skip ?_
        refine go_code ?_
        refine c_seq ?_
        obtain ⟨g1, g2, g3⟩ := Classical.not_not.1 g52
        have hks := hy0 g2
        subst hks
        refine c_region ?_
        refine AOps.st 53 rfl rfl rfl (op_fieldAddr_c rfl tf_60_4 rfl rfl ?_)
        refine AOps.st 54 rfl rfl rfl (op_load_c1 rfl ta_56 rfl rfl ?_)
        refine AOps.st 55 rfl rfl rfl (op_index rfl te_56 rfl (.seq _ _) rfl rfl (rfl) ?_)
        first | (refine AOps.st 56 rfl rfl rfl (op_load_m (cs' := [_, _, _, _, _, _, _, _, _, _, _]) (i := 0) rfl ta_60 rfl rfl rfl rfl ?_)) | (refine AOps.st 56 rfl rfl rfl (op_load_m (cs' := [_, _, _, _, _, _, _, _, _, _, _]) (i := 1) rfl ta_60 rfl rfl rfl rfl ?_)) | (refine AOps.st 56 rfl rfl rfl (op_load_m (cs' := [_, _, _, _, _, _, _, _, _, _, _]) (i := 2) rfl ta_60 rfl rfl rfl rfl ?_)) | (refine AOps.st 56 rfl rfl rfl (op_load_m (cs' := [_, _, _, _, _, _, _, _, _, _, _]) (i := 3) rfl ta_60 rfl rfl rfl rfl ?_)) | (refine AOps.st 56 rfl rfl rfl (op_load_m (cs' := [_, _, _, _, _, _, _, _, _, _, _]) (i := 4) rfl ta_60 rfl rfl rfl rfl ?_)) | (refine AOps.st 56 rfl rfl rfl (op_load_m (cs' := [_, _, _, _, _, _, _, _, _, _, _]) (i := 5) rfl ta_60 rfl rfl rfl rfl ?_)) | (refine AOps.st 56 rfl rfl rfl (op_load_c (cs' := [_, _, _, _, _, _, _, _, _, _, _]) rfl ta_60 rfl rfl rfl ?_))
        refine AOps.st 3 rfl rfl rfl (op_alloce (cs' := [_, _, _, _, _, _, _, _, _, _, _]) rfl tz_60 rfl rfl ?_); intro b3
        refine AOps.st0 rfl rfl (op_store (cs' := [_, _, _, _, _, _, _, _, _, _, _]) (i := 0) rfl ts_60 rfl rfl rfl rfl rfl (Nat.le_of_ble_eq_true rfl) rfl ?_)
        refine AOps.nil ?_
        refine go_code ?_
        refine c_seq ?_
        refine c_bool 2 (zk = 4 ∨ zk = 5 ∧ (Ex.mk zk zs zn ⟨ztk, zts, ztn, ztks⟩ zks zal zbs zp).Val) ?_ _ _ rfl ?_
        · skip
          refine AOps.st 57 rfl rfl rfl (op_fieldAddr_m rfl tf_60_0 rfl ?_)
          refine AOps.st 58 rfl rfl rfl (op_load_m1 (i := 0) rfl ta_3 rfl rfl rfl ?_)
          refine AOps.st 59 rfl rfl rfl (op_eql rfl rfl rfl ?_); intro c59 h59
          refine AOps.st 60 rfl rfl rfl (op_move rfl rfl ?_)
          rcases bool_split h59 with ⟨rfl, g59⟩ | ⟨rfl, g59⟩
          · skip
            refine AOps.gt 61 rfl rfl rfl rfl rfl (op_fieldAddr_m rfl tf_60_0 rfl ?_)
            refine AOps.gt 62 rfl rfl rfl rfl rfl (op_load_m1 (i := 0) rfl ta_3 rfl rfl rfl ?_)
            refine AOps.gt 63 rfl rfl rfl rfl rfl (op_eql rfl rfl rfl ?_); intro c63 h63
            refine AOps.gt 64 rfl rfl rfl rfl rfl (op_move rfl rfl ?_)
            rcases bool_split h63 with ⟨rfl, g63⟩ | ⟨rfl, g63⟩
            · skip
              refine AOps.gf 65 rfl rfl rfl rfl rfl ?_
              refine AOps.gf 66 rfl rfl rfl rfl rfl ?_
              refine AOps.gt 67 rfl rfl rfl rfl rfl (op_pick rfl rfl rfl ?_)
              refine AOps.st 68 rfl rfl rfl (op_pick rfl rfl rfl ?_)
              refine AOps.st 2 rfl rfl rfl (op_assign rfl rfl ?_)
              refine AOps.nil ?_
              refine BoolQ.mk rfl ?_ (by repeat' (first | exact SLe.wo _ _ | exact SLe.refl _ | refine SLe.fresh rfl ?_)) (by first | exact MLe.none _ | exact MLe.refl _ | (repeat' (first | exact MLe.nil | exact MLe.refl _ | refine MLe.cons _ ?_ | refine MLe.drop _ ?_)))
              simp_all; done
            · skip
              refine AOps.gt 65 rfl rfl rfl rfl rfl (op_load_m (cs' := [_, _, _, _, _, _, _, _, _, _, _]) (i := 0) rfl ta_60 rfl rfl rfl rfl ?_)
              refine AOps.gt 66 rfl rfl rfl rfl rfl (op_callb (xs := [.tmp 65]) rfl rfl ((HZ rfl)) (by first | exact Les.refl _ | (repeat' (first | exact Les.refl _ | refine Les.cons ?_ ?_ | exact Le.refl _ | exact Le.own _ _ _ | exact Le.nil _ | refine Le.agg ?_))) ?_); intro c66 h66
              refine AOps.gt 67 rfl rfl rfl rfl rfl (op_pick rfl rfl rfl ?_)
              refine AOps.st 68 rfl rfl rfl (op_pick rfl rfl rfl ?_)
              refine AOps.st 2 rfl rfl rfl (op_assign rfl rfl ?_)
              refine AOps.nil ?_
              refine BoolQ.mk rfl ?_ (by repeat' (first | exact SLe.wo _ _ | exact SLe.refl _ | refine SLe.fresh rfl ?_)) (by first | exact MLe.none _ | exact MLe.refl _ | (repeat' (first | exact MLe.nil | exact MLe.refl _ | refine MLe.cons _ ?_ | refine MLe.drop _ ?_)))
              simp_all; done
          · skip
            refine AOps.gf 61 rfl rfl rfl rfl rfl ?_
            refine AOps.gf 62 rfl rfl rfl rfl rfl ?_
            refine AOps.gf 63 rfl rfl rfl rfl rfl ?_
            refine AOps.gf 64 rfl rfl rfl rfl rfl ?_
            refine AOps.gu 65 rfl rfl rfl rfl rfl ?_
            refine AOps.gu 66 rfl rfl rfl rfl rfl ?_
            refine AOps.gf 67 rfl rfl rfl rfl rfl ?_
            refine AOps.st 68 rfl rfl rfl (op_pick rfl rfl rfl ?_)
            refine AOps.st 2 rfl rfl rfl (op_assign rfl rfl ?_)
            refine AOps.nil ?_
            refine BoolQ.mk rfl ?_ (by repeat' (first | exact SLe.wo _ _ | exact SLe.refl _ | refine SLe.fresh rfl ?_)) (by first | exact MLe.none _ | exact MLe.refl _ | (repeat' (first | exact MLe.nil | exact MLe.refl _ | refine MLe.cons _ ?_ | refine MLe.drop _ ?_)))
            simp_all; done
        intro c2 h2
        refine go_code ?_
        refine c_ret ?_
        refine out_tmp rfl rfl (Le.refl _) (by first | exact MLe.none _ | exact MLe.refl _ | (repeat' (first | exact MLe.nil | exact MLe.refl _ | refine MLe.cons _ ?_ | refine MLe.drop _ ?_))) ⟨⟨_, h2.trans ⟨fun q => .inr (.inr ⟨g1, _, _, rfl, q, g3⟩), ?_⟩, rfl⟩, rfl⟩
        rintro (h | ⟨h, _⟩ | ⟨_, f, x, e, q⟩)
        · omega
        · omega
        · simp only [List.cons.injEq, and_true] at e
          obtain ⟨rfl, rfl⟩ := e
          exact q.1
      · refine c_cond_t rfl ?_
        refine c_seq ?_
        refine c_region ?_
        refine AOps.st 2 rfl rfl rfl (op_assign rfl rfl ?_)
        refine AOps.nil ?_
        refine go_code ?_
        refine c_ret ?_
        refine out_tmp rfl rfl (Le.refl _) (by first | exact MLe.none _ | exact MLe.refl _ | (repeat' (first | exact MLe.nil | exact MLe.refl _ | refine MLe.cons _ ?_ | refine MLe.drop _ ?_))) ⟨⟨_, iff_f ?_, rfl⟩, rfl⟩
        rintro (h | ⟨h, _⟩ | ⟨h, f, x, e, _, q⟩)
        · omega
        · omega
        · subst e
          have := hy0 rfl
          simp only [List.cons.injEq, and_true] at this
          obtain ⟨rfl, rfl⟩ := this
          exact g52 ⟨h, rfl, q⟩
    · refine c_cond_t rfl ?_
      refine c_seq ?_
      refine c_bool 2 (ks.length = 1 ∧ (Ex.mk xk xs xn ⟨xtk, xts, xtn, xtks⟩ xks xal xbs xp).Val) ?_ _ _ rfl ?_
      · skip
        refine AOps.st 25 rfl rfl rfl (op_fieldAddr_c rfl tf_60_4 rfl rfl ?_)
        refine AOps.st 26 rfl rfl rfl (op_load_c1 rfl ta_56 rfl rfl ?_)
        refine AOps.st 27 rfl rfl rfl (op_len rfl tu_56 rfl (.seq _ _) (fun n27 => ?_))
        refine AOps.st 28 rfl rfl rfl (op_eql rfl rfl rfl ?_); intro c28 h28
        refine AOps.st 29 rfl rfl rfl (op_move rfl rfl ?_)
        rcases bool_split h28 with ⟨rfl, g28⟩ | ⟨rfl, g28⟩
        · skip
          refine AOps.gf 30 rfl rfl rfl rfl rfl ?_
          refine AOps.gf 31 rfl rfl rfl rfl rfl ?_
          refine AOps.gf 32 rfl rfl rfl rfl rfl ?_
          refine AOps.gf 33 rfl rfl rfl rfl rfl ?_
          refine AOps.gf 34 rfl rfl rfl rfl rfl ?_
          refine AOps.st 35 rfl rfl rfl (op_pick rfl rfl rfl ?_)
          refine AOps.st 2 rfl rfl rfl (op_assign rfl rfl ?_)
          refine AOps.nil ?_
          refine BoolQ.mk rfl ?_ (by repeat' (first | exact SLe.wo _ _ | exact SLe.refl _ | refine SLe.fresh rfl ?_)) (by first | exact MLe.none _ | exact MLe.refl _ | (repeat' (first | exact MLe.nil | exact MLe.refl _ | refine MLe.cons _ ?_ | refine MLe.drop _ ?_)))
          first | (simp_all; done) | (simp_all; omega)
        · skip
          refine AOps.gt 30 rfl rfl rfl rfl rfl (op_fieldAddr_c rfl tf_60_4 rfl rfl ?_)
          refine AOps.gt 31 rfl rfl rfl rfl rfl (op_load_c1 rfl ta_56 rfl rfl ?_)
          refine AOps.gt 32 rfl rfl rfl rfl rfl (op_index rfl te_56 rfl (.seq _ _) rfl rfl ((by rw [hx0 (by omega)]; rfl)) ?_)
          first | (refine AOps.gt 33 rfl rfl rfl rfl rfl (op_load_m (cs' := [_, _, _, _, _, _, _, _, _, _, _]) (i := 0) rfl ta_60 rfl rfl rfl rfl ?_)) | (refine AOps.gt 33 rfl rfl rfl rfl rfl (op_load_m (cs' := [_, _, _, _, _, _, _, _, _, _, _]) (i := 1) rfl ta_60 rfl rfl rfl rfl ?_)) | (refine AOps.gt 33 rfl rfl rfl rfl rfl (op_load_m (cs' := [_, _, _, _, _, _, _, _, _, _, _]) (i := 2) rfl ta_60 rfl rfl rfl rfl ?_)) | (refine AOps.gt 33 rfl rfl rfl rfl rfl (op_load_m (cs' := [_, _, _, _, _, _, _, _, _, _, _]) (i := 3) rfl ta_60 rfl rfl rfl rfl ?_)) | (refine AOps.gt 33 rfl rfl rfl rfl rfl (op_load_m (cs' := [_, _, _, _, _, _, _, _, _, _, _]) (i := 4) rfl ta_60 rfl rfl rfl rfl ?_)) | (refine AOps.gt 33 rfl rfl rfl rfl rfl (op_load_m (cs' := [_, _, _, _, _, _, _, _, _, _, _]) (i := 5) rfl ta_60 rfl rfl rfl rfl ?_)) | (refine AOps.gt 33 rfl rfl rfl rfl rfl (op_load_c (cs' := [_, _, _, _, _, _, _, _, _, _, _]) rfl ta_60 rfl rfl rfl ?_))
          refine AOps.gt 34 rfl rfl rfl rfl rfl (op_callb (xs := [.tmp 33]) rfl rfl ((HX (by omega))) (by first | exact Les.refl _ | (repeat' (first | exact Les.refl _ | refine Les.cons ?_ ?_ | exact Le.refl _ | exact Le.own _ _ _ | exact Le.nil _ | refine Le.agg ?_))) ?_); intro c34 h34
          refine AOps.st 35 rfl rfl rfl (op_pick rfl rfl rfl ?_)
          refine AOps.st 2 rfl rfl rfl (op_assign rfl rfl ?_)
          refine AOps.nil ?_
          refine BoolQ.mk rfl ?_ (by repeat' (first | exact SLe.wo _ _ | exact SLe.refl _ | refine SLe.fresh rfl ?_)) (by first | exact MLe.none _ | exact MLe.refl _ | (repeat' (first | exact MLe.nil | exact MLe.refl _ | refine MLe.cons _ ?_ | refine MLe.drop _ ?_)))
          first | (simp_all; done) | (simp_all; omega)
      intro c2 h2
      refine go_code ?_
      refine c_ret ?_
      refine out_tmp rfl rfl (Le.refl _) (by first | exact MLe.none _ | exact MLe.refl _ | (repeat' (first | exact MLe.nil | exact MLe.refl _ | refine MLe.cons _ ?_ | refine MLe.drop _ ?_))) ⟨⟨_, h2.trans ⟨fun q => .inr (.inl ⟨by omega, _, hx0 q.1, q.2⟩), ?_⟩, rfl⟩, rfl⟩
      rintro (h | ⟨_, x, e, q⟩ | ⟨h, _⟩)
      · omega
      · subst e
        have := hx0 rfl
        simp only [List.cons.injEq, and_true] at this
        subst this
        exact ⟨rfl, q⟩
      · omega
  · refine c_cond_t rfl ?_
    refine c_seq ?_
    refine c_region ?_
    refine AOps.st 2 rfl rfl rfl (op_assign rfl rfl ?_)
    refine AOps.nil ?_
    refine go_code ?_
    refine c_ret ?_
    exact out_tmp rfl rfl (Le.refl _) (by first | exact MLe.none _ | exact MLe.refl _ | (repeat' (first | exact MLe.nil | exact MLe.refl _ | refine MLe.cons _ ?_ | refine MLe.drop _ ?_))) ⟨⟨_, iff_t (.inl (by omega)), rfl⟩, rfl⟩
termination_by SizeOf.sizeOf e
decreasing_by exact Ex.lt_kid hx
end Go.Proofs.Ytjgjnheeohfmmaa
