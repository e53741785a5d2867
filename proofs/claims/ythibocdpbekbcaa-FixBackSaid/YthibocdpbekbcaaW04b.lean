/- The walk of cognatelaw04.FixBack, its state in memory. -/
import Derived.Test.YthibocdpbekbcaaW04a
import Derived.Test.YthibocdpbekbcaaP04b
import Derived.Deep.QuietTactic
import Derived.BigQuiet
import Derived.Deep.DeepCutAuto
import Derived.Deep.LoopGhost
import Derived.Deep.CutBlock
import Derived.Deep.RegionWith
namespace Go.Proofs.Ythibocdpbekbcaa
open Go.RowKit
/-- two rows of n + 1 numbers, in blocks gt and gl, hold the groups -/
structure GrAt (w : World) (B gt gl n : Nat) (g : Gr) : Prop where
  ct : ∀ j, j ≤ n → w.cell? ⟨gt, j, none⟩ = some (.int .i64 (g.top j))
  cl : ∀ j, j ≤ n → w.cell? ⟨gl, j, none⟩ = some (.int .i64 (g.last j))
  ft : ∀ j, w.frozen? ⟨gt, j, none⟩ = false
  fl : ∀ j, w.frozen? ⟨gl, j, none⟩ = false
  ne : gt ≠ gl
  bt : B ≤ gt
  bl : B ≤ gl
theorem cell_set {w : World} {b o b' o' : Nat} {x y : Value} (h : w.cell? ⟨b', o', none⟩ = some y) : (w.setCell ⟨b, o, none⟩ x).cell? ⟨b', o', none⟩ = some (if b' = b ∧ o' = o then x else y) := by
  by_cases e : b' = b ∧ o' = o
  · obtain ⟨rfl, rfl⟩ := e
    rw [if_pos ⟨rfl, rfl⟩]
    exact World.cell?_setCell_same' _ _ _ (by rw [h]; rfl)
  · rw [if_neg e, World.cell?_setCell_other]
    · exact h
    · intro hh; apply e; cases hh; exact ⟨rfl, rfl⟩
theorem GrAt.setTop {w : World} {B gt gl n : Nat} {g : Gr} (h : GrAt w B gt gl n g) (j : Nat) (x : Int) : GrAt (w.setCell ⟨gt, j, none⟩ (.int .i64 x)) B gt gl n { g with top := fun k => if k = j then x else g.top k } := by
  refine ⟨fun k hk => ?_, fun k hk => ?_, fun k => by rw [World.frozen?_setCell]; exact h.ft k, fun k => by rw [World.frozen?_setCell]; exact h.fl k, h.ne, h.bt, h.bl⟩
  · rw [cell_set (h.ct k hk)]
    by_cases e : k = j
    · simp [e]
    · simp [e]
  · rw [cell_set (h.cl k hk), if_neg (fun hh => h.ne hh.1.symm)]
theorem GrAt.setLast {w : World} {B gt gl n : Nat} {g : Gr} (h : GrAt w B gt gl n g) (j : Nat) (x : Int) : GrAt (w.setCell ⟨gl, j, none⟩ (.int .i64 x)) B gt gl n { g with last := fun k => if k = j then x else g.last k } := by
  refine ⟨fun k hk => ?_, fun k hk => ?_, fun k => by rw [World.frozen?_setCell]; exact h.ft k, fun k => by rw [World.frozen?_setCell]; exact h.fl k, h.ne, h.bt, h.bl⟩
  · rw [cell_set (h.ct k hk), if_neg (fun hh => h.ne hh.1)]
  · rw [cell_set (h.cl k hk)]
    by_cases e : k = j
    · simp [e]
    · simp [e]
theorem GrAt.congr {w : World} {B gt gl n : Nat} {g g' : Gr} (h : GrAt w B gt gl n g) (ht : ∀ j, j ≤ n → g.top j = g'.top j) (hl : ∀ j, j ≤ n → g.last j = g'.last j) : GrAt w B gt gl n g' :=
  ⟨fun j hj => by rw [← ht j hj]; exact h.ct j hj, fun j hj => by rw [← hl j hj]; exact h.cl j hj, h.ft, h.fl, h.ne, h.bt, h.bl⟩
theorem GrAt.drewN {w : World} {B gt gl n : Nat} {g : Gr} (h : GrAt w B gt gl n g) (m : Nat) : GrAt (w.drewN m) B gt gl n g :=
  ⟨h.ct, h.cl, h.ft, h.fl, h.ne, h.bt, h.bl⟩
def gr0 : Gr := { top := fun _ => -1, last := fun j => (j : Int) }
theorem Needs_f (s t : ByteArray) (r : Bool) (w : World) (h : needs (lvl s.toList) (lvl t.toList) r = false) : Calls Try.prog 55 #[.string s, .string t, .bool r] w fun e w' => e = .returned (.bool false) ∧ w' = w :=
  (Needs_c s t r w).mono fun _ _ ⟨he, hw⟩ => ⟨by rw [he, h], hw.symm⟩
theorem grown_none_own {w w' : World} {base : Nat} {e : TypeId} {size : Nat} {v : Value} {n : Nat} {xs : List Value} (h : w.ownsRow base e size v n xs) (hg : w.grownBy w' none) : w'.ownsRow base e size v n xs := by
  refine h.kept hg ?_
  cases hv : v.ownBlock with
  | none => exact Or.inl rfl
  | some k => exact Or.inr (by simp)
theorem Order_sl (ao : Option Addr) (n ca : Nat) (ss : List ByteArray) (w : World) (ha : SlAt w ao 1 n (strsV ss)) (hn : n ≤ 1000000) (h : ∀ j, j < n → ¬ clashAt (lvAt ss) j) :
    Calls Try.prog 49 #[.slice ao n ca] w fun e w' => ∃ a' c', e = .returned (.tuple #[.slice a' n c', .int .i64 0, .int .i64 0]) ∧ SlAt w' a' 1 n (intsN (ord (lvAt ss) 0 n)) ∧ Below w.heap.size w w' := by
  refine (Order_c ao n ca ss w ha hn).mono ?_
  rintro e w' ⟨hb, ⟨st, out, v, hr, rfl, hown⟩ | ⟨i, st, out, hi, hr, hd, rfl⟩⟩
  · obtain ⟨a', c', hv, hsl⟩ := SlAt.of_own hown
    rw [(order_ok _ hr).1] at hsl
    exact ⟨a', c', by rw [hv], hsl, hb⟩
  · exact absurd (order_clash _ hr hd).1 (h i hi)
def grTo (k : Nat) : Gr := { top := fun j => if j < k then -1 else 0, last := fun j => if j < k then (j : Int) else 0 }
theorem row_zero {w : World} {base g n : Nat} {e : TypeId} (h : w.ownsRow base e 1 (.slice (some ⟨g, 0, none⟩) (n + 1) (n + 1)) (n + 1) (madeCells (Value.int IntKind.i64 0).cells ((n + 1) * 1)).toList) : ∀ j, j ≤ n → w.cell? ⟨g, j, none⟩ = some (.int .i64 0) := by
  intro j hj
  rw [h.cellAt j (by omega)]
  have e : (madeCells (Value.int IntKind.i64 0).cells ((n + 1) * 1)).toList = List.replicate (n + 1) (Value.int .i64 0) := by rw [Nat.mul_one]; exact toList_madeCells_one _ _
  rw [e, List.getElem?_replicate, if_pos (by omega)]
/-- the groups while those from A + 1 on, below k, are laid to A -/
def Gr.mid (g : Gr) (i A : Nat) (E : Int) (k : Nat) : Gr :=
  { top := fun x => if x = A then (i : Int) else g.top x
    last := fun x => if x = A then E else if A < x ∧ x < k then (A : Int) else g.last x }
theorem take_run (g : Gr) (l : List Nat) (k : Nat) (h : k < l.length) : g.run (l.take (k + 1)) = (g.run (l.take k)).step l[k] := by
  rw [List.take_succ_eq_append_getElem h, Gr.run, Gr.run, List.foldl_append]; rfl
set_option maxRecDepth 100000 in
set_option maxHeartbeats 8000000 in
theorem FixBack_ok (ao : Option Addr) (n ca : Nat) (ss : List ByteArray) (w : World) (ha : SlAt w ao 1 n (strsV ss)) (hn : n ≤ 100) (hc : ∀ j, j < n → ¬ clashAt (lvAt ss) j) : Calls Try.prog 13 #[.slice ao n ca] w fun e w' => e = .returned (.bool true) ∧ Below w.heap.size w w' := by
  obtain ⟨i0, hi, hz0, hz1, hz2⟩ := info_parts infoInt
  have hb8 : i0.bytes * (n + 1) ≤ 281474976710656 := by rw [hz2]; omega
  have HZ0 := Lib.hid hz0
  have HZ1 := Lib.hid hz1
  have HI := Lib.hid hi
  clear hz0 hz1 hi hz2
  have HC := Lib.hid hc
  clear hc
  have lo : (ord (lvAt ss) 0 n).length = n := ord_len _ 0 n (by omega)
  have hseg := seg (lvAt ss) n HC.out n 0 n gr0 (by omega) (by omega) (by omega) (fun j _ _ => ⟨rfl, rfl⟩)
  obtain ⟨l, hl⟩ : ∃ l, l = ord (lvAt ss) 0 n := ⟨_, rfl⟩
  rw [← hl] at lo hseg
  have HL := Lib.hid hl
  have LO := Lib.hid lo
  have HOK := Lib.hid hseg.1
  have HEND := Lib.hid hseg.2.1
  clear hl lo hseg
  have g0 : ((n : Int) != (n : Int)) = false := by simp
  have g1 : decide (100 < (n : Int)) = false := by simp; omega
  have g2 : decide (100 < n) = false := by simp; omega
  go_enter Try.func13, Try.ntmps13
  go_wp2_with fail
  refine (awake04 _).mono ?_
  rintro e w1 ⟨rfl, hb1⟩
  go_wp2_with fail
  refine (Order_sl ao n ca ss _ (ha.below hb1) (by omega) HC.out).mono ?_
  rintro e wm ⟨al, cl, rfl, hsl, hb2⟩
  have hbm := bel_trans hb1 hb2
  rw [← HL.out] at hsl
  have ham := ha.below hbm
  go_wp2_with (first | (at_make; refine wpList_make_full _ rfl (.tmp 38) (.tmp 38) 62 rfl wm.heap.size 3 i0 (.int .i64 0) 1 Try.underlying62 HI.out HZ0.out HZ1.out .i64 .i64 _ _ (n + 1) rfl rfl (by omega) (by omega) hb8 (by unfold maxLen; omega) (Nat.le_refl _) ?_; intro w3 hown3 hgrow3) | (at_make; refine wpList_make_full _ rfl (.tmp 42) (.tmp 42) 62 rfl wm.heap.size 3 i0 (.int .i64 0) 1 Try.underlying62 HI.out HZ0.out HZ1.out .i64 .i64 _ _ (n + 1) rfl rfl (by omega) (by omega) hb8 (by unfold maxLen; omega) (hgrow3.size) ?_; intro w4 hown4 hgrow4))
  have hgl : wm.heap.size < w3.heap.size := own_block_lt hown3 _ rfl
  have hb3 : Below wm.heap.size wm w3 := (Below.refl _ _).grown hgrow3 (Nat.le_refl _) (by simp)
  have hb4 : Below wm.heap.size wm w4 := hb3.grown hgrow4 hb3.size (by simp)
  have hown3' := grown_none_own hown3 hgrow4
  have hG0 : GrAt w4 wm.heap.size wm.heap.size w3.heap.size n (grTo 0) :=
    ⟨fun j hj => row_zero hown3' j hj, fun j hj => row_zero hown4 j hj, hown3'.frozenAt, hown4.frozenAt, by omega, Nat.le_refl _, by omega⟩
  clear hown3 hown4 hgrow3 hgrow4 hown3' hb3
  generalize w3.heap.size = gl at *
  obtain ⟨gt, hgt⟩ : ∃ gt, gt = wm.heap.size := ⟨_, rfl⟩
  go_loopw [46] (fun vi wr => ∃ k : Nat, k ≤ n + 1 ∧ vi = .int .i64 k ∧ GrAt wr wm.heap.size wm.heap.size gl n (grTo k) ∧ Below wm.heap.size wm wr) (fun vi _ => n + 1 - (intOf vi).toNat)
  case atStart => exact ⟨0, Nat.zero_le _, rfl, hG0, hb4⟩
  case round =>
    obtain ⟨k, hk, rfl, hG, hbel⟩ := hrel
    by_cases hkn : k < n + 1
    · have c1 := hG.ct k (by omega)
      have c2 := hG.cl k (by omega)
      have f1 := hG.ft k
      have f2 := hG.fl k
      have c2' : (wr.setCell ⟨wm.heap.size, k, none⟩ (.int .i64 (-1))).cell? ⟨gl, k, none⟩ = some (.int .i64 ((grTo k).last k)) := (hG.setTop k (-1)).cl k (by omega)
      go_wp2_with fail
      go_roundw
      case rel =>
        refine ⟨k + 1, by omega, by go_num, ((hG.setTop k (-1)).setLast k (k : Int)).congr ?_ ?_, (hbel.setCell (by exact Nat.le_refl _) _).setCell (by exact hG.bl) _⟩
        · intro j hj
          simp only [grTo]
          by_cases e : j = k
          · subst e; simp
          · rw [if_neg e]
            by_cases h : j < k
            · rw [if_pos h, if_pos (by omega)]
            · rw [if_neg h, if_neg (by omega)]
        · intro j hj
          simp only [grTo]
          by_cases e : j = k
          · subst e; simp
          · rw [if_neg e]
            by_cases h : j < k
            · rw [if_pos h, if_pos (by omega)]
            · rw [if_neg h, if_neg (by omega)]
      case measure => simp [intOf]; omega
    · have hke : k = n + 1 := by omega
      subst hke
      have hG1 : GrAt wr wm.heap.size wm.heap.size gl n (gr0.run (l.take 0)) := hG.congr (fun j hj => by simp [grTo, gr0, Gr.run]; omega) (fun j hj => by simp [grTo, gr0, Gr.run]; omega)
      clear hG
      go_wp2_with fail
      clear hG0 hb4
      go_loopg [59] n (fun gk vi wr => ∃ k : Nat, k ≤ n ∧ gk = n - k ∧ vi = .int .i64 k ∧ GrAt wr wm.heap.size wm.heap.size gl n (gr0.run (l.take k)) ∧ Below wm.heap.size wm wr)
      case atStart => exact ⟨0, Nat.zero_le _, rfl, rfl, hG1, hbel⟩
      case round =>
        obtain ⟨k, hk, rfl, rfl, hG, hbel'⟩ := hrel
        by_cases hkn : k < n
        · have hkl : k < l.length := by rw [LO.out]; exact hkn
          have hok := HOK.out k hkl
          have hnext := take_run gr0 l k hkl
          obtain ⟨bl, ol, el, hcl⟩ := (hsl.below hbel').get (by omega)
          subst el
          have c1 : wr.cell? ⟨bl, ol + k, none⟩ = some (.int .i64 (l.getD k 0 : Nat)) := by rw [hcl k (by omega)]; simp [intsN, hkl]
          have hget : l.getD k 0 = l[k] := by simp [List.getD, hkl]
          rw [hget] at c1
          obtain ⟨i, hi⟩ : ∃ i, i = l[k] := ⟨_, rfl⟩
          obtain ⟨g, hg⟩ : ∃ g, g = gr0.run (l.take k) := ⟨_, rfl⟩
          rw [← hg] at hok hnext hG
          rw [← hi] at hok hnext c1
          have HN := Lib.hid hnext
          clear hcl hget hi hg hnext hG1 hbel
          obtain ⟨ba, oa, ea, -⟩ := (ham.below hbel').get (by omega)
          subst ea
          have hin := hok.inr
          have hAi := hok.lft
          obtain ⟨A, hA⟩ : ∃ A, A = g.from i := ⟨_, rfl⟩
          have HA := Lib.hid hA
          rw [← hA] at hAi
          have lA : g.last A = (i : Int) := by rw [hA]; exact hok.alone
          have li : A < i → g.last i = (A : Int) := by rw [hA]; exact hok.back
          have lb1 := hok.far
          have lb2 := hok.farn
          have htl := hok.topl
          have htr := hok.topr
          rw [← hA] at htl
          clear hA hok
          have HLI := Lib.hid li
          have HTL := Lib.hid htl
          have HTR := Lib.hid htr
          have cA := hG.cl A (by omega)
          have ci := hG.cl i (by omega)
          have ctA := hG.ct A (by omega)
          have ctb := hG.ct (i + 1) (by omega)
          have clb := hG.cl (i + 1) (by omega)
          rw [lA] at cA
          have LA := Lib.hid lA
          clear li lA htl htr
          have d1 : decide ((i : Int) < 0) = false := by simp
          have d2 : decide ((n : Int) ≤ (i : Int)) = false := by simp; omega
          have d2' : decide (n ≤ i) = false := by simp; omega
          go_upto_block 4 with (fail)
          go_cut [11] (fun s wx => s = .int .i64 (A : Int) ∧ wr = wx)
          case first =>
            by_cases hAe : A = i
            · subst hAe
              have q1 : ((A : Int) != (A : Int)) = false := by simp
              go_wp2_with fail
              go_loopg [11] 0 (fun gk va wx => gk = 0 ∧ wx = wr ∧ va = .int .i64 (A : Int))
              case atStart => exact ⟨rfl, rfl, rfl⟩
              case round =>
                obtain ⟨rfl, rfl, rfl⟩ := hrel
                go_wp2_with fail
                go_meet
                exact ⟨rfl, rfl⟩
            · have li := HLI.out (by omega)
              rw [li] at ci
              have q1 : ((A : Int) != (i : Int)) = true := by rw [bne_iff_ne]; omega
              have q2 : decide ((A : Int) < (i : Int)) = true := by simp; omega
              have q3 : ((i : Int) != (A : Int)) = true := by rw [bne_iff_ne]; omega
              have q4 : decide ((i : Int) < (A : Int)) = false := by simp; omega
              have q5 : decide (i < A) = false := by simp; omega
              have q6 : decide (A < i) = true := by simp; omega
              clear li
              go_wp2_with fail
              go_loopg [11] 1 (fun gk va wx => wx = wr ∧ ((gk = 1 ∧ va = .int .i64 (i : Int)) ∨ (gk = 0 ∧ va = .int .i64 (A : Int))))
              case atStart => exact ⟨rfl, Or.inl ⟨rfl, rfl⟩⟩
              case round =>
                rcases hrel with ⟨rfl, ⟨rfl, rfl⟩ | ⟨rfl, rfl⟩⟩
                · go_wp2_with fail
                  go_roundg 0
                  case measure => omega
                  case rel => exact ⟨rfl, Or.inr ⟨rfl, rfl⟩⟩
                · go_wp2_with fail
                  go_meet
                  exact ⟨rfl, rfl⟩
          case rest =>
            obtain ⟨rfl, rfl⟩ := hcut
            have csi := str_at (ham.below hbel') hin
            obtain ⟨si, hsi⟩ : ∃ s, s = ss.getD i ByteArray.empty := ⟨_, rfl⟩
            rw [← hsi] at csi
            have HSI := Lib.hid hsi
            clear hsi
            go_upto_region 26 with (fail)
            go_cut [139] (fun s wx => s = .bool false ∧ ∃ m, wx = wr.drewN m)
            case first =>
              rcases HTL.out with hl | hl
              · rcases HTR.out with hr | hr
                · skip
                  rw [hl] at ctA
                  clear hl
                  rw [hr] at ctb
                  clear hr
                  go_quiet (fail)
                  all_goals go_wp2_with fail
                  all_goals go_meet
                  all_goals exact ⟨rfl, _, rfl⟩
                · skip
                  rw [hl] at ctA
                  clear hl
                  obtain ⟨tr, h1r, h3r, h4r⟩ := hr
                  rw [h3r] at ctb
                  have r1 := str_at (ham.below hbel') h1r
                  have r2 : decide ((0 : Int) ≤ (tr : Int)) = true := by simp
                  have r4 : (tr : Int) < (n : Int) := by omega
                  have NR := Lib.hid h4r
                  obtain ⟨str, hstr⟩ : ∃ s, s = ss.getD tr ByteArray.empty := ⟨_, rfl⟩
                  have HSTR := Lib.hid hstr
                  rw [← hstr] at r1
                  clear h3r h4r hstr
                  go_quiet (first | (go_at_call_of 55 (Value.bool true); exact Calls.quiet_of_same (Needs_f si str true _ (by rw [HSI.out, HSTR.out]; exact NR.out))))
                  all_goals go_wp2_with fail
                  all_goals go_meet
                  all_goals exact ⟨rfl, _, rfl⟩
              · rcases HTR.out with hr | hr
                · skip
                  obtain ⟨tl, h1l, h2l, h3l, h4l⟩ := hl
                  rw [h3l] at ctA
                  have p1 := str_at (ham.below hbel') h1l
                  have p2 : decide ((0 : Int) ≤ (tl : Int)) = true := by simp
                  have p3 : ((tl : Int) == (i : Int)) = false := by simp; omega
                  have p4 : (tl : Int) < (n : Int) := by omega
                  have NL := Lib.hid h4l
                  obtain ⟨stl, hstl⟩ : ∃ s, s = ss.getD tl ByteArray.empty := ⟨_, rfl⟩
                  have HSTL := Lib.hid hstl
                  rw [← hstl] at p1
                  clear h3l h4l hstl
                  rw [hr] at ctb
                  clear hr
                  go_quiet (first | (go_at_call_of 55 (Value.bool false); exact Calls.quiet_of_same (Needs_f si stl false _ (by rw [HSI.out, HSTL.out]; exact NL.out))))
                  all_goals go_wp2_with fail
                  all_goals go_meet
                  all_goals exact ⟨rfl, _, rfl⟩
                · skip
                  obtain ⟨tl, h1l, h2l, h3l, h4l⟩ := hl
                  rw [h3l] at ctA
                  have p1 := str_at (ham.below hbel') h1l
                  have p2 : decide ((0 : Int) ≤ (tl : Int)) = true := by simp
                  have p3 : ((tl : Int) == (i : Int)) = false := by simp; omega
                  have p4 : (tl : Int) < (n : Int) := by omega
                  have NL := Lib.hid h4l
                  obtain ⟨stl, hstl⟩ : ∃ s, s = ss.getD tl ByteArray.empty := ⟨_, rfl⟩
                  have HSTL := Lib.hid hstl
                  rw [← hstl] at p1
                  clear h3l h4l hstl
                  obtain ⟨tr, h1r, h3r, h4r⟩ := hr
                  rw [h3r] at ctb
                  have r1 := str_at (ham.below hbel') h1r
                  have r2 : decide ((0 : Int) ≤ (tr : Int)) = true := by simp
                  have r4 : (tr : Int) < (n : Int) := by omega
                  have NR := Lib.hid h4r
                  obtain ⟨str, hstr⟩ : ∃ s, s = ss.getD tr ByteArray.empty := ⟨_, rfl⟩
                  have HSTR := Lib.hid hstr
                  rw [← hstr] at r1
                  clear h3r h4r hstr
                  go_quiet (first | (go_at_call_of 55 (Value.bool false); exact Calls.quiet_of_same (Needs_f si stl false _ (by rw [HSI.out, HSTL.out]; exact NL.out))) | (go_at_call_of 55 (Value.bool true); exact Calls.quiet_of_same (Needs_f si str true _ (by rw [HSI.out, HSTR.out]; exact NR.out))))
                  all_goals go_wp2_with fail
                  all_goals go_meet
                  all_goals exact ⟨rfl, _, rfl⟩
            case rest =>
              obtain ⟨rfl, m, rfl⟩ := hcut
              have hGd := hG.drewN m
              have hbd := below_drewN hbel' m
              clear c1 cA ci ctA ctb clb csi hG hbel'
              generalize wr.drewN m = wd at *
              obtain ⟨E, hE⟩ : ∃ E : Nat, g.last (i + 1) = (E : Int) := ⟨(g.last (i + 1)).toNat, by omega⟩
              have clb := hGd.cl (i + 1) (by omega)
              rw [hE] at clb lb1 lb2
              have HE := Lib.hid hE
              clear hE
              have e1 : i + 1 ≤ E := by omega
              have e2 : E ≤ n := by omega
              have ctA := hGd.ct A (by omega)
              have ftA := hGd.ft A
              have clA := (hGd.setTop A (i : Int)).cl A (by omega)
              have flA := (hGd.setTop A (i : Int)).fl A
              have d5 : decide ((E : Int) < (i : Int) + 1) = false := by simp; omega
              go_wp2_with fail
              go_loopg [14] (E - A) (fun gk vk wx => ∃ kk : Nat, A + 1 ≤ kk ∧ kk ≤ E + 1 ∧ gk = E + 1 - kk ∧ vk = .int .i64 (kk : Int) ∧ GrAt wx wm.heap.size wm.heap.size gl n (g.mid i A E kk) ∧ Below wm.heap.size wm wx)
              case atStart =>
                refine ⟨A + 1, by omega, by omega, by omega, by go_num, ((hGd.setTop A (i : Int)).setLast A (E : Int)).congr ?_ ?_, (hbd.setCell (by exact hGd.bt) _).setCell (by exact hGd.bl) _⟩
                · intro j hj; rfl
                · intro j hj
                  simp only [Gr.mid]
                  by_cases e : j = A
                  · rw [if_pos e, if_pos e]
                  · rw [if_neg e, if_neg e, if_neg (by omega)]
              case round =>
                obtain ⟨kk, k1, k2, rfl, rfl, hGm, hbx⟩ := hrel
                by_cases hke : kk ≤ E
                · have cK := hGm.cl kk (by omega)
                  have fK := hGm.fl kk
                  go_wp2_with fail
                  go_roundg (E + 1 - (kk + 1))
                  case measure => omega
                  case rel =>
                    refine ⟨kk + 1, by omega, by omega, rfl, by go_num, (hGm.setLast kk (A : Int)).congr ?_ ?_, hbx.setCell (by exact hGm.bl) _⟩
                    · intro j hj; rfl
                    · intro j hj
                      simp only [Gr.mid]
                      by_cases e : j = kk
                      · rw [if_pos e, if_neg (by omega), if_pos (by omega)]
                      · rw [if_neg e]
                        by_cases e' : j = A
                        · rw [if_pos e', if_pos e']
                        · rw [if_neg e', if_neg e']
                          by_cases e3 : A < j ∧ j < kk
                          · rw [if_pos e3, if_pos (by omega)]
                          · rw [if_neg e3, if_neg (by omega)]
                · have hkk : kk = E + 1 := by omega
                  subst hkk
                  go_wp2_with fail
                  go_roundg (n - (k + 1))
                  case measure => omega
                  case rel =>
                    refine ⟨k + 1, by omega, rfl, by go_num, ?_, hbx⟩
                    rw [HN.out]
                    refine hGm.congr ?_ ?_
                    · intro j hj
                      simp only [Gr.mid, Gr.step, ← HA.out]
                    · intro j hj
                      simp only [Gr.mid, Gr.step, ← HA.out, HE.out]
                      by_cases e' : j = A
                      · rw [if_pos e', if_pos e']
                      · rw [if_neg e', if_neg e']
                        by_cases e3 : A < j ∧ j < E + 1
                        · rw [if_pos e3, if_pos (by omega)]
                        · rw [if_neg e3, if_neg (by omega)]
        · have hke : k = n := by omega
          subst hke
          have cl0 := hG.cl 0 (by omega)
          rw [List.take_of_length_le (by rw [LO.out]; exact Nat.le_refl _), HEND.out] at cl0
          have hbz := bel_trans hbm hbel'
          by_cases h0 : k = 0
          · subst h0
            go_wp2_with fail
            go_ret
            exact ⟨rfl, hbz⟩
          · have h0' : ((k : Int) == 0) = false := by simp; omega
            go_wp2_with fail
            go_ret
            exact ⟨rfl, hbz⟩
end Go.Proofs.Ythibocdpbekbcaa
