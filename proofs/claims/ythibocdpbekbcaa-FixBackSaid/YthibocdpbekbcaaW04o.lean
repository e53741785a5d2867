/- fix.Order -/
import Derived.Test.YthibocdpbekbcaaW04n
import Derived.Test.YthibocdpbekbcaaP04o
import Derived.Test.YthibocdpbekbcaaW02a
namespace Go.Proofs.Ythibocdpbekbcaa
open Go.RowKit
theorem infoInt : (Try.prog.info? 3).map (fun i => (i.zero, i.size, i.bytes)) = some (some (.int .i64 0), 1, 8) := by kernel_rfl
theorem elemInt : ElemT Try.prog 62 3 (.int .i64 0) 1 8 := ⟨Try.underlying62, infoInt, rfl, by omega, by omega⟩
def intsN (l : List Nat) : List Value := l.map fun n : Nat => Value.int .i64 (n : Int)
def strsV (l : List ByteArray) : List Value := l.map Value.string
def lvAt (ss : List ByteArray) (i : Nat) : Nat := lvl (ss.getD i ByteArray.empty).toList
def slLen : Value → Nat
  | .slice _ n _ => n
  | _ => 0
theorem intsN_snoc (l : List Nat) (x : Nat) : intsN (l ++ [x]) = intsN l ++ [.int .i64 (x : Int)] := by simp [intsN]
theorem runTo_step {L : Nat → Nat} {i : Nat} {st out st' out' : List Nat} (h : runTo L i = some (st, out)) (h2 : downF L (L i) st out = some (st', out')) : runTo L (i + 1) = some (i :: st', out') := by
  rw [runTo, h]; simp [h2]
set_option maxRecDepth 100000 in
set_option maxHeartbeats 4000000 in
theorem Order_c (ao : Option Addr) (n ca : Nat) (ss : List ByteArray) (w : World) (ha : SlAt w ao 1 n (strsV ss)) (hn : n ≤ 1000000) :
    Calls Try.prog 49 #[.slice ao n ca] w fun e w' => Below w.heap.size w w' ∧
      ((∃ st out v, runTo (lvAt ss) n = some (st, out) ∧ e = .returned (.tuple #[v, .int .i64 0, .int .i64 0]) ∧ w'.ownsRow w.heap.size 3 1 v n (intsN (out ++ st))) ∨
       (∃ (i : Nat) (st out : List Nat), i < n ∧ runTo (lvAt ss) i = some (st, out) ∧ downF (lvAt ss) (lvAt ss i) st out = none ∧ e = .returned (.tuple #[.slice none 0 0, .int .i64 (i : Nat), .int .i64 112]))) := by
  have lx : ss.length = n := by have := ha.len; simpa [strsV] using this
  have LX := Lib.hid lx
  clear lx
  go_enter Try.func49, Try.ntmps49
  go_wp2_with fail
  go_loopw [5, 6, 17] (fun vo vw vi wr => ∃ (i : Nat) (st out : List Nat), i ≤ n ∧ vi = .int .i64 i ∧ runTo (lvAt ss) i = some (st, out) ∧ wr.ownsRow w.heap.size 3 1 vo out.length (intsN out) ∧ wr.ownsRow w.heap.size 3 1 vw st.length (intsN st.reverse) ∧ Apart vo vw ∧ Below w.heap.size w wr) (fun _ _ vi _ => n - (intOf vi).toNat)
  case atStart => exact ⟨0, [], [], Nat.zero_le _, rfl, rfl, World.ownsRow_nil _ _ _ _, World.ownsRow_nil _ _ _ _, Apart.nil_left _, Below.refl _ _⟩
  case round =>
    obtain ⟨i, st, out, hi, rfl, hrun, hoo, how, hap, hbel⟩ := hrel
    have HR := Lib.hid hrun
    clear hrun
    by_cases hin : i < n
    · obtain ⟨ba, oa, ea, hca⟩ := (ha.below hbel).get (by omega)
      subst ea
      have hil : i < ss.length := by rw [LX.out]; exact hin
      have c1 : wr.cell? ⟨ba, oa + i, none⟩ = some (.string (ss.getD i ByteArray.empty)) := by
        rw [hca i (by omega)]; simp [strsV, hil]
      have lc : ∀ w, _ := Level_c (ss.getD i ByteArray.empty)
      have hlv : lvl (ss.getD i ByteArray.empty).toList = lvAt ss i := rfl
      rw [hlv] at lc
      obtain ⟨s, hs⟩ : ∃ s, s = ss.getD i ByteArray.empty := ⟨_, rfl⟩
      rw [← hs] at c1 lc
      have LC := Lib.hid lc
      have HCA := Lib.hid hca
      clear hs lc hlv hca
      have hb1 := lvl_le (ss.getD i ByteArray.empty).toList
      have d1 : decide ((i : Int) < (n : Int)) = true := by simp; omega
      have d2 : decide (i < n) = true := by simp; omega
      go_wp2_with (go_at_call 52; refine (LC.out _).mono ?_; rintro e w1 ⟨rfl, rfl⟩)
      go_step3
      go_wp2_with (go_at_call 52; refine (LC.out _).mono ?_; rintro e w1 ⟨rfl, rfl⟩)
      go_step3
      go_wp2_with fail
      obtain ⟨wo, rfl⟩ : ∃ wo : World, wo = wr := ⟨_, rfl⟩
      have hlenr := runTo_len i HR.out
      go_loopw [5, 6] (fun vo vw wi => ∃ (st' out' : List Nat), downF (lvAt ss) (lvAt ss i) st' out' = downF (lvAt ss) (lvAt ss i) st out ∧ st'.length + out'.length = i ∧ (∀ x ∈ st', x < i) ∧ slLen vw = st'.length ∧ wi.ownsRow w.heap.size 3 1 vo out'.length (intsN out') ∧ wi.ownsRow w.heap.size 3 1 vw st'.length (intsN st'.reverse) ∧ Apart vo vw ∧ Below w.heap.size w wi) (fun _ vw _ => slLen vw)
      case atStart => exact ⟨st, out, rfl, hlenr.1, hlenr.2.1, by obtain ⟨aw, cw, hv, _⟩ := SlAt.of_own how; rw [hv]; rfl, hoo, how, hap, hbel⟩
      case round =>
        obtain ⟨st', out', hdown, hlen', hlt', hsl', hoo', how', hap', hbel'⟩ := hrel
        have HD := Lib.hid hdown
        have HLT := Lib.hid hlt'
        have HSL := Lib.hid hsl'
        have HLEN := Lib.hid hlen'
        clear hdown hlt' hsl' hlen' hlenr
        obtain ⟨wi, rfl⟩ : ∃ wi : World, wi = wr := ⟨_, rfl⟩
        cases st' with
        | nil =>
          obtain ⟨aw, cw, hv, _⟩ := SlAt.of_own how'
          have hv' : _ = Value.slice aw 0 cw := hv
          subst hv'
          have HRES : downF (lvAt ss) (lvAt ss i) st out = some ([], out') := by rw [← HD.out]; rfl
          have HRES := Lib.hid HRES
          have hnn : ([] : List Nat).length ≤ 100000000000 := by simp
          go_wp2_with (at_builtin; go_must (refine wpList_app elemInt rfl (.tmp 75) (.tmp 77) rfl w.heap.size w.heap.size w _ _ _ rfl (how'.alloc _) wi.heap.size [.int .i64 (i : Int)] rfl rfl (by simp) (one_int _ _) hnn (hbel'.alloc hbel'.size _) (Nat.le_refl _) (Nat.le_trans hbel'.size (by simp)) ?_); intro vx wx hownx hbelx hgx)
          have hox : wx.ownsRow w.heap.size 3 1 _ out'.length (intsN out') := hap'.symm.kept (hoo'.alloc _) hgx.1
          have hapx := (hap'.symm.grow (hoo'.alloc _) hgx.2).symm
          clear hoo' how' hap'
          have hstep := runTo_step HR.out HRES.out
          have HST := Lib.hid hstep
          clear hstep
          go_wp2_with fail
          rw [Exit.noGoto_normal]
          go_wp2_with fail
          go_roundw
          case rel =>
            refine ⟨i + 1, _, _, by omega, by go_num, HST.out, hox, ?_, hapx, hbelx⟩
            simp only [List.reverse_cons, List.length_cons, intsN_snoc] at hownx ⊢
            exact hownx
          case measure => simp [intOf]; omega
        | cons top rest =>
          obtain ⟨g, cw, hv, hcell⟩ := own_form how' (by simp)
          subst hv
          have c2 : wi.cell? ⟨g, rest.length, none⟩ = some (.int .i64 (top : Int)) := by
            rw [hcell rest.length (by simp)]
            simp [intsN]
          have htop : top < i := HLT.out top (by simp)
          have htl : top < ss.length := by omega
          have c3 : wi.cell? ⟨ba, oa + top, none⟩ = some (.string (ss.getD top ByteArray.empty)) := by
            obtain ⟨b', o', e', hc'⟩ := (ha.below hbel').get (by omega)
            simp only [Option.some.injEq, Addr.mk.injEq, and_true] at e'
            obtain ⟨rfl, rfl⟩ := e'
            rw [hc' top (by omega)]; simp [strsV, htl]
          have lc2 : ∀ w, _ := Level_c (ss.getD top ByteArray.empty)
          have hlv2 : lvl (ss.getD top ByteArray.empty).toList = lvAt ss top := rfl
          rw [hlv2] at lc2
          obtain ⟨s2, hs2⟩ : ∃ s2, s2 = ss.getD top ByteArray.empty := ⟨_, rfl⟩
          rw [← hs2] at c3 lc2
          have LC2 := Lib.hid lc2
          clear hs2 lc2 hlv2 hcell
          have hlen2 := HLEN.out
          simp only [List.length_cons] at hlen2 how' hap' ⊢
          have hsd := sideN_le (lvAt ss i)
          have i1 : (0 : Int) ≤ (top : Int) := by omega
          have i2 : (top : Int) < (n : Int) := by omega
          have i3 : rest.length + 1 ≤ cw := by
            rcases how'.2 with ⟨h, _⟩ | ⟨g', cap', cur, hv, _, _, hc, _⟩
            · cases h
            · cases hv; exact hc
          have hnn : rest.length + 1 ≤ 100000000000 := by omega
          have hno : out'.length ≤ 100000000000 := by omega
          have HSD := hsd
          by_cases hA : lvAt ss top < lvAt ss i
          · have f1 : decide (((lvAt ss top : Nat) : Int) < ((lvAt ss i : Nat) : Int)) = true := by simp; omega
            have f1' : decide (lvAt ss top < lvAt ss i) = true := by simp; omega
            have HRES := Lib.hid (show downF (lvAt ss) (lvAt ss i) st out = some (top :: rest, out') by rw [← HD.out]; exact downF_stop (Or.inl hA))
            go_wp2_with (first | (go_at_call 52; refine (LC2.out _).mono ?_; rintro e w1 ⟨rfl, rfl⟩) | (at_builtin; refine wpList_app elemInt rfl (.tmp 75) (.tmp 77) rfl w.heap.size w.heap.size w _ _ _ rfl (how'.alloc _) wi.heap.size [.int .i64 (i : Int)] rfl rfl (by simp) (one_int _ _) hnn (hbel'.alloc hbel'.size _) (Nat.le_refl _) (Nat.le_trans hbel'.size (by simp)) ?_; intro vx wx hownx hbelx hgx))
            have hox : wx.ownsRow w.heap.size 3 1 _ out'.length (intsN out') := hap'.symm.kept (hoo'.alloc _) hgx.1
            have hapx := (hap'.symm.grow (hoo'.alloc _) hgx.2).symm
            clear hoo' how' hap'
            have HST := Lib.hid (runTo_step HR.out HRES.out)
            go_wp2_with fail
            rw [Exit.noGoto_normal]
            go_wp2_with fail
            go_roundw
            case rel =>
              refine ⟨i + 1, _, _, by omega, by go_num, HST.out, hox, ?_, hapx, hbelx⟩
              simp only [List.reverse_cons, List.length_cons, intsN_snoc] at hownx ⊢
              exact hownx
            case measure => simp [intOf]; omega
          · have f1 : decide (((lvAt ss top : Nat) : Int) < ((lvAt ss i : Nat) : Int)) = false := by simp; omega
            have f1' : decide (lvAt ss top < lvAt ss i) = false := by simp; omega
            by_cases hB : lvAt ss top = lvAt ss i
            · have f2 : (((lvAt ss top : Nat) : Int) == ((lvAt ss i : Nat) : Int)) = true := by rw [hB]; simp
              by_cases hs2 : sideN (lvAt ss i) = 2
              · have f3 : (((sideN (lvAt ss i) : Nat) : Int) == 2) = true := by rw [hs2]; rfl
                have HRES := Lib.hid (show downF (lvAt ss) (lvAt ss i) st out = some (top :: rest, out') by rw [← HD.out]; exact downF_stop (Or.inr ⟨hB, hs2⟩))
                have HB := Lib.hid hB
                have HS2 := Lib.hid hs2
                clear hB hs2
                go_wp2_with (first | (go_at_call 52; refine (LC2.out _).mono ?_; rintro e w1 ⟨rfl, rfl⟩) | (at_builtin; refine wpList_app elemInt rfl (.tmp 75) (.tmp 77) rfl w.heap.size w.heap.size w _ _ _ rfl (how'.alloc _) wi.heap.size [.int .i64 (i : Int)] rfl rfl (by simp) (one_int _ _) hnn (hbel'.alloc hbel'.size _) (Nat.le_refl _) (Nat.le_trans hbel'.size (by simp)) ?_; intro vx wx hownx hbelx hgx))
                have hox : wx.ownsRow w.heap.size 3 1 _ out'.length (intsN out') := hap'.symm.kept (hoo'.alloc _) hgx.1
                have hapx := (hap'.symm.grow (hoo'.alloc _) hgx.2).symm
                clear hoo' how' hap'
                have HST := Lib.hid (runTo_step HR.out HRES.out)
                go_wp2_with fail
                rw [Exit.noGoto_normal]
                go_wp2_with fail
                go_roundw
                case rel =>
                  refine ⟨i + 1, _, _, by omega, by go_num, HST.out, hox, ?_, hapx, hbelx⟩
                  simp only [List.reverse_cons, List.length_cons, intsN_snoc] at hownx ⊢
                  exact hownx
                case measure => simp [intOf]; omega
              · have f3 : (((sideN (lvAt ss i) : Nat) : Int) == 2) = false := by simp; omega
                by_cases hs0 : sideN (lvAt ss i) = 0
                · have f4 : (((sideN (lvAt ss i) : Nat) : Int) == 0) = true := by rw [hs0]; rfl
                  have HRES := Lib.hid (show downF (lvAt ss) (lvAt ss i) st out = none by rw [← HD.out]; exact downF_clash (by omega) ⟨hB, hs0⟩)
                  have HB := Lib.hid hB
                  have HS0 := Lib.hid hs0
                  clear hB hs0
                  go_wp2_with (first | (go_at_call 52; refine (LC2.out _).mono ?_; rintro e w1 ⟨rfl, rfl⟩))
                  rw [Exit.noGoto_ret]
                  go_wp2_with fail
                  go_ret3
                  exact ⟨hbel', Or.inr ⟨i, st, out, hin, HR.out, HRES.out, rfl⟩⟩
                · have f4 : (((sideN (lvAt ss i) : Nat) : Int) == 0) = false := by simp; omega
                  have HRES := Lib.hid (show downF (lvAt ss) (lvAt ss i) st out = downF (lvAt ss) (lvAt ss i) rest (out' ++ [top]) by rw [← HD.out]; exact downF_pop (by omega) (by omega))
                  have HB := Lib.hid hB
                  clear hB
                  go_wp2_with (first | (go_at_call 52; refine (LC2.out _).mono ?_; rintro e w1 ⟨rfl, rfl⟩) | (at_builtin; go_must (refine wpList_app elemInt rfl (.tmp 66) (.tmp 68) rfl w.heap.size w.heap.size w _ _ _ rfl (hoo'.alloc _) wi.heap.size [.int .i64 (top : Int)] rfl rfl (by simp) (one_int _ _) hno (hbel'.alloc hbel'.size _) (Nat.le_refl _) (Nat.le_trans hbel'.size (by simp)) ?_); intro vx wx hownx hbelx hgx))
                  have hwx := hap'.kept (how'.alloc _) hgx.1
                  have hapx := hap'.grow (how'.alloc _) hgx.2
                  clear hoo' how' hap'
                  go_wp2_with fail
                  go_roundw
                  case rel =>
                    refine ⟨rest, out' ++ [top], ?_, ?_, ?_, rfl, ?_, ?_, ?_, hbelx⟩
                    · rw [← HRES.out]
                    · simp; omega
                    · intro x hx; exact HLT.out x (by simp [hx])
                    · rw [intsN_snoc, List.length_append]; exact hownx
                    · refine ownsRow_pop (last := [.int .i64 (top : Int)]) (by simp [intsN]) ?_
                      rw [List.reverse_cons, intsN_snoc] at hwx
                      exact hwx
                    · exact hapx
                  case measure => simp [slLen]
            · have f2 : (((lvAt ss top : Nat) : Int) == ((lvAt ss i : Nat) : Int)) = false := by simp; omega
              have HRES := Lib.hid (show downF (lvAt ss) (lvAt ss i) st out = downF (lvAt ss) (lvAt ss i) rest (out' ++ [top]) by rw [← HD.out]; exact downF_pop (by omega) (by omega))
              go_wp2_with (first | (go_at_call 52; refine (LC2.out _).mono ?_; rintro e w1 ⟨rfl, rfl⟩) | (at_builtin; go_must (refine wpList_app elemInt rfl (.tmp 66) (.tmp 68) rfl w.heap.size w.heap.size w _ _ _ rfl (hoo'.alloc _) wi.heap.size [.int .i64 (top : Int)] rfl rfl (by simp) (one_int _ _) hno (hbel'.alloc hbel'.size _) (Nat.le_refl _) (Nat.le_trans hbel'.size (by simp)) ?_); intro vx wx hownx hbelx hgx))
              have hwx := hap'.kept (how'.alloc _) hgx.1
              have hapx := hap'.grow (how'.alloc _) hgx.2
              clear hoo' how' hap'
              go_wp2_with fail
              go_roundw
              case rel =>
                refine ⟨rest, out' ++ [top], ?_, ?_, ?_, rfl, ?_, ?_, ?_, hbelx⟩
                · rw [← HRES.out]
                · simp; omega
                · intro x hx; exact HLT.out x (by simp [hx])
                · rw [intsN_snoc, List.length_append]; exact hownx
                · refine ownsRow_pop (last := [.int .i64 (top : Int)]) (by simp [intsN]) ?_
                  rw [List.reverse_cons, intsN_snoc] at hwx
                  exact hwx
                · exact hapx
              case measure => simp [slLen]
    · have hie : i = n := by omega
      subst hie
      have hlenr := (runTo_len i HR.out).1
      obtain ⟨aw, cw, hv, hsw⟩ := SlAt.of_own how
      subst hv
      have HLR := Lib.hid hlenr
      have hst : st.length ≤ i := by omega
      clear hlenr
      go_wp2_with fail
      obtain ⟨wo, rfl⟩ : ∃ wo : World, wo = wr := ⟨_, rfl⟩
      go_loopw [5, 14] (fun vo vk wi => ∃ j : Nat, j ≤ st.length ∧ vk = .int .i64 ((j : Int) - 1) ∧ wi.ownsRow w.heap.size 3 1 vo (out.length + (st.length - j)) (intsN (out ++ st.take (st.length - j))) ∧ wi.ownsRow w.heap.size 3 1 (.slice aw st.length cw) st.length (intsN st.reverse) ∧ Apart vo (.slice aw st.length cw) ∧ Below w.heap.size w wi) (fun _ vk _ => (intOf vk + 1).toNat)
      case atStart => exact ⟨st.length, Nat.le_refl _, rfl, by simpa using hoo, how, hap, hbel⟩
      case round =>
        obtain ⟨j, hj, rfl, hoo', how', hap', hbel'⟩ := hrel
        obtain ⟨wi, rfl⟩ : ∃ wi : World, wi = wr := ⟨_, rfl⟩
        by_cases hj0 : j = 0
        · subst hj0
          go_wp2_with fail
          go_ret3
          refine ⟨hbel', Or.inl ⟨st, out, _, HR.out, rfl, ?_⟩⟩
          have e1 : out.length + (st.length - 0) = i := by have := HLR.out; omega
          rw [Nat.sub_zero, List.take_length] at hoo'
          rw [show out.length + st.length = i from by have := HLR.out; omega] at hoo'
          exact hoo'
        · obtain ⟨k, rfl⟩ : ∃ k, j = k + 1 := ⟨j - 1, by omega⟩
          rw [show ((k + 1 : Nat) : Int) - 1 = (k : Int) from by omega]
          obtain ⟨g, hag, hcell⟩ : ∃ g, aw = some ⟨g, 0, none⟩ ∧ wi.cell? ⟨g, k, none⟩ = some (.int .i64 (st.getD (st.length - (k + 1)) 0 : Nat)) := by
            obtain ⟨g, cap, hv, hc⟩ := own_form how' (by omega)
            cases hv
            refine ⟨g, rfl, ?_⟩
            rw [hc k (by omega)]
            have hk : k < st.reverse.length := by simp; omega
            have hk2 : st.length - (k + 1) < st.length := by omega
            simp only [intsN, List.getElem?_map, List.getElem?_eq_getElem hk, Option.map_some, List.getElem_reverse, List.getD, List.getElem?_eq_getElem hk2, Option.getD_some]
            congr 4
            omega
          subst hag
          obtain ⟨x, hx⟩ : ∃ x, x = st.getD (st.length - (k + 1)) 0 := ⟨_, rfl⟩
          rw [← hx] at hcell
          have HX := Lib.hid hx
          clear hx
          have hno : out.length + (st.length - (k + 1)) ≤ 100000000000 := by have := HLR.out; omega
          have HOO := hoo'
          go_wp2_with (at_builtin; refine wpList_app elemInt rfl (.tmp 87) (.tmp 92) rfl w.heap.size w.heap.size w _ _ _ rfl (hoo'.alloc _) wi.heap.size [.int .i64 (x : Int)] rfl rfl (by simp) (one_int _ _) hno (hbel'.alloc hbel'.size _) (Nat.le_refl _) (Nat.le_trans hbel'.size (by simp)) ?_; intro vx wx hownx hbelx hgx)
          have hwx := hap'.kept (how'.alloc _) hgx.1
          have hapx := hap'.grow (how'.alloc _) hgx.2
          clear hoo' how' hap' HOO
          go_wp2_with fail
          go_roundw
          case rel =>
            refine ⟨k, by omega, rfl, ?_, hwx, hapx, hbelx⟩
            have e1 : out.length + (st.length - (k + 1)) + 1 = out.length + (st.length - k) := by omega
            have e2 : intsN (out ++ st.take (st.length - (k + 1))) ++ [.int .i64 (x : Int)] = intsN (out ++ st.take (st.length - k)) := by
              have hk2 : st.length - (k + 1) < st.length := by omega
              rw [show st.length - k = (st.length - (k + 1)) + 1 from by omega, List.take_succ_eq_append_getElem hk2, ← List.append_assoc, intsN_snoc, HX.out]
              simp [List.getD, hk2]
            rw [e1, e2] at hownx
            exact hownx
          case measure => simp [intOf]
end Go.Proofs.Ythibocdpbekbcaa
