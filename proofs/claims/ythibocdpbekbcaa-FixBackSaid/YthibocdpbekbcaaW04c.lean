/- cognateref04.Clash and Order -/
import Derived.Test.YthibocdpbekbcaaW04o
import Derived.Test.YthibocdpbekbcaaP04p
namespace Go.Proofs.Ythibocdpbekbcaa
open Go.RowKit
def ClashRes (L : Nat → Nat) (n : Nat) (c : Int) : Prop := (c = -1 ∧ ∀ j, j < n → ¬ clashAt L j) ∨ ∃ k : Nat, k < n ∧ c = k ∧ clashAt L k ∧ ∀ j, j < k → ¬ clashAt L j
theorem str_at {w : World} {b off n : Nat} {ss : List ByteArray} (h : SlAt w (some ⟨b, off, none⟩) 1 n (strsV ss)) {i : Nat} (hi : i < n) : w.cell? ⟨b, off + i, none⟩ = some (.string (ss.getD i ByteArray.empty)) := by
  obtain ⟨b', o', e', hc'⟩ := h.get (by omega)
  simp only [Option.some.injEq, Addr.mk.injEq, and_true] at e'
  obtain ⟨rfl, rfl⟩ := e'
  have hl : i < ss.length := by have := h.len; simp [strsV] at this; omega
  rw [hc' i (by omega)]; simp [strsV, hl]
theorem rLevel_at (ss : List ByteArray) (i : Nat) (w : World) : Calls Try.prog 53 #[.string (ss.getD i ByteArray.empty)] w fun e w' => e = .returned (.int .i64 (lvAt ss i : Nat)) ∧ Below w.heap.size w w' := rLevel_c _ w
set_option maxRecDepth 100000 in
set_option maxHeartbeats 4000000 in
theorem Clash_c (ao : Option Addr) (n ca : Nat) (ss : List ByteArray) (w : World) (ha : SlAt w ao 1 n (strsV ss)) (hn : n ≤ 1000000) :
    Calls Try.prog 50 #[.slice ao n ca] w fun e w' => ∃ c, e = .returned (.int .i64 c) ∧ ClashRes (lvAt ss) n c ∧ Below w.heap.size w w' := by
  go_enter Try.func50, Try.ntmps50
  go_wp2_with fail
  go_loopw [3, 4] (fun vk _ wr => ∃ k : Nat, k ≤ n ∧ vk = .int .i64 k ∧ (∀ j, j < k → ¬ clashAt (lvAt ss) j) ∧ Below w.heap.size w wr) (fun vk _ _ => n - (intOf vk).toNat)
  case atStart => exact ⟨0, Nat.zero_le _, rfl, fun j h => by omega, Below.refl _ _⟩
  case round =>
    obtain ⟨k, hk, rfl, hmiss, hbel⟩ := hrel
    have HM := Lib.hid hmiss
    clear hmiss
    by_cases hkn : k < n
    · obtain ⟨ba, oa, ea, -⟩ := (ha.below hbel).get (by omega)
      subst ea
      have c1 := str_at (ha.below hbel) hkn
      have lc := rLevel_at ss k
      obtain ⟨s, hs⟩ : ∃ s, s = ss.getD k ByteArray.empty := ⟨_, rfl⟩
      rw [← hs] at c1 lc
      have LC := Lib.hid lc
      clear hs lc
      have d1 : decide ((k : Int) < (n : Int)) = true := by simp; omega
      have d2 : decide (k < n) = true := by simp; omega
      by_cases h4 : lvAt ss k = 4
      · have f1 : (((lvAt ss k : Nat) : Int) != 4) = false := by rw [h4]; rfl
        have H4 := Lib.hid h4
        clear h4
        go_wp2_with (go_at_call 53; refine (LC.out _).mono ?_; rintro e w1 ⟨rfl, hb1⟩)
        have hbel1 := below_chain hbel hb1 hbel.size
        have HAW := (ha.below hbel).below hb1
        clear c1
        obtain ⟨wo, rfl⟩ : ∃ wo : World, wo = w1 := ⟨_, rfl⟩
        go_loopw [4] (fun vi wr => ∃ i : Nat, i ≤ k ∧ vi = .int .i64 ((i : Int) - 1) ∧ (∀ j, i ≤ j → j < k → 4 < lvAt ss j) ∧ Below wo.heap.size wo wr) (fun vi _ => (intOf vi + 1).toNat)
        case atStart => exact ⟨k, Nat.le_refl _, rfl, fun j h1 h2 => by omega, Below.refl _ _⟩
        case round =>
          obtain ⟨i, hi, rfl, hgt, hbi⟩ := hrel
          have HG := Lib.hid hgt
          clear hgt
          have hbz := bel_trans hbel1 hbi
          cases i with
          | zero =>
            go_wp2_with fail
            go_roundw
            case rel => exact ⟨k + 1, by omega, by go_num, fun j hj => by
              by_cases e : j = k
              · subst e
                rintro ⟨_, m, m1, m2, _⟩
                have := HG.out m (by omega) m1; omega
              · exact HM.out j (by omega), hbz⟩
            case measure => simp [intOf]; omega
          | succ i =>
            rw [show ((i + 1 : Nat) : Int) - 1 = (i : Int) from by omega]
            have hiw := HAW.below hbi
            have c2 := str_at hiw (show i < n by omega)
            have lc2 := rLevel_at ss i
            obtain ⟨s2, hs2⟩ : ∃ s2, s2 = ss.getD i ByteArray.empty := ⟨_, rfl⟩
            rw [← hs2] at c2 lc2
            have LC2 := Lib.hid lc2
            have i2 : (i : Int) < (n : Int) := by omega
            by_cases hgt4 : 4 < lvAt ss i
            · have f2 : decide ((4 : Int) < ((lvAt ss i : Nat) : Int)) = true := by simp; omega
              clear hs2 lc2
              go_wp2_with (go_at_call 53; refine (LC2.out _).mono ?_; rintro e w2 ⟨rfl, hb2⟩)
              go_roundw
              case rel => exact ⟨i, by omega, rfl, fun j h1 h2 => by
                by_cases e : j = i
                · subst e; exact hgt4
                · exact HG.out j (by omega) h2, bel_trans hbi hb2⟩
              case measure => simp [intOf]
            · have f2 : decide ((4 : Int) < ((lvAt ss i : Nat) : Int)) = false := by simp; omega
              clear lc2
              have HS2 := Lib.hid hs2
              clear hs2
              by_cases he4 : lvAt ss i = 4
              · have f3 : (((lvAt ss i : Nat) : Int) == 4) = true := by rw [he4]; rfl
                have HE4 := Lib.hid he4
                clear he4
                go_wp2_with (go_at_call 53; refine (LC2.out _).mono ?_; rintro e w2 ⟨rfl, hb2⟩; have c3 := str_at (hiw.below hb2) (show i < n by omega); rw [← HS2.out] at c3)
                refine (LC2.out _).mono ?_
                rintro e w3 ⟨rfl, hb3⟩
                go_wp2_with fail
                go_ret
                exact ⟨_, rfl, Or.inr ⟨k, hkn, rfl, ⟨H4.out, i, by omega, HE4.out, fun j h1 h2 => HG.out j (by omega) h2⟩, HM.out⟩, bel_trans (bel_trans hbz hb2) hb3⟩
              · have f3 : (((lvAt ss i : Nat) : Int) == 4) = false := by simp; omega
                go_wp2_with (go_at_call 53; refine (LC2.out _).mono ?_; rintro e w2 ⟨rfl, hb2⟩; have c3 := str_at (hiw.below hb2) (show i < n by omega); rw [← HS2.out] at c3)
                refine (LC2.out _).mono ?_
                rintro e w3 ⟨rfl, hb3⟩
                go_wp2_with fail
                go_roundw
                case rel => exact ⟨k + 1, by omega, by go_num, fun j hj => by
                  by_cases e : j = k
                  · subst e
                    rintro ⟨_, m, m1, m2, m3⟩
                    by_cases h1 : i < m
                    · have := HG.out m (by omega) m1; omega
                    · by_cases h2 : m = i
                      · subst h2; exact he4 m2
                      · have := m3 i (by omega) (by omega); omega
                  · exact HM.out j (by omega), bel_trans (bel_trans hbz hb2) hb3⟩
                case measure => simp [intOf]; omega
      · have f1 : (((lvAt ss k : Nat) : Int) != 4) = true := by rw [bne_iff_ne]; omega
        go_wp2_with (go_at_call 53; refine (LC.out _).mono ?_; rintro e w1 ⟨rfl, hb1⟩)
        go_roundw
        case rel => exact ⟨k + 1, by omega, by go_num, fun j hj => by
          by_cases e : j = k
          · subst e; rintro ⟨h, _⟩; exact h4 h
          · exact HM.out j (by omega), bel_trans hbel hb1⟩
        case measure => simp [intOf]; omega
    · have hke : k = n := by omega
      subst hke
      go_wp2_with fail
      go_ret
      exact ⟨_, rfl, Or.inl ⟨rfl, HM.out⟩, hbel⟩
theorem ord_lt (L : Nat → Nat) : ∀ (f a b : Nat), a ≤ b → b - a ≤ f → (ordR L f a b).length = b - a
  | 0, a, b, h, h1 => by simp [ordR]; omega
  | f + 1, a, b, h, h1 => by
    rw [ordR]
    split
    · simp; omega
    · have hr := rootTo_in L a (b - a - 1)
      simp only [List.length_append, List.length_cons, List.length_nil]
      rw [ord_lt L f a _ (by omega) (by omega), ord_lt L f _ b (by omega) (by omega)]
      omega
theorem ord_len (L : Nat → Nat) (a b : Nat) (h : a ≤ b) : (ord L a b).length = b - a := ord_lt L (b - a) a b h (Nat.le_refl _)
theorem one_ints (l : List Nat) : ∀ u ∈ intsN l, u.oneCell' = true := by
  intro u hu
  simp only [intsN, List.mem_map] at hu
  obtain ⟨n, _, rfl⟩ := hu
  rfl
set_option maxRecDepth 100000 in
set_option maxHeartbeats 4000000 in
theorem rOrder_c (ss : List ByteArray) (ca n : Nat) (hn : n ≤ 1000000) (d : Nat) : ∀ (a b : Nat) (ao : Option Addr) (w : World), a ≤ b → b ≤ n → b - a ≤ d → SlAt w ao 1 n (strsV ss) →
    Calls Try.prog 51 #[.slice ao n ca, .int .i64 (a : Nat), .int .i64 (b : Nat)] w fun e w' => ∃ v, e = .returned v ∧ w'.ownsRow w.heap.size 3 1 v (b - a) (intsN (ord (lvAt ss) a b)) ∧ Below w.heap.size w w' := by
  induction d with
  | zero =>
    intro a b ao w hab hbn hd ha
    have e : a = b := by omega
    subst e
    have f : (((a : Nat) : Int) == ((a : Nat) : Int)) = true := by simp
    go_enter Try.func51, Try.ntmps51
    go_wp2_with fail
    go_ret
    exact ⟨_, rfl, by rw [ord_nil, Nat.sub_self]; exact World.ownsRow_nil _ _ _ _, Below.refl _ _⟩
  | succ d ih =>
    intro a b ao w hab hbn hd ha
    by_cases e : a = b
    · subst e
      have f : (((a : Nat) : Int) == ((a : Nat) : Int)) = true := by simp
      go_enter Try.func51, Try.ntmps51
      go_wp2_with fail
      go_ret
      exact ⟨_, rfl, by rw [ord_nil, Nat.sub_self]; exact World.ownsRow_nil _ _ _ _, Below.refl _ _⟩
    · have f : (((a : Nat) : Int) == ((b : Nat) : Int)) = false := by simp; omega
      have IH := Lib.hid ih
      clear ih
      obtain ⟨ba, oa, ea, -⟩ := ha.get (by omega)
      subst ea
      go_enter Try.func51, Try.ntmps51
      go_wp2_with fail
      go_loopw [7, 8] (fun vt vi wr => ∃ k : Nat, a + 1 + k ≤ b ∧ vi = .int .i64 ((a + 1 + k : Nat) : Int) ∧ vt = .int .i64 (rootTo (lvAt ss) a k : Nat) ∧ Below w.heap.size w wr) (fun _ vi _ => b - (intOf vi).toNat)
      case atStart => exact ⟨0, by omega, by go_num, rfl, Below.refl _ _⟩
      case round =>
        obtain ⟨k, hk, rfl, rfl, hbel⟩ := hrel
        have hr := rootTo_in (lvAt ss) a k
        by_cases hkb : a + 1 + k < b
        · have c1 := str_at (ha.below hbel) (show rootTo (lvAt ss) a k < n by omega)
          have lc1 := rLevel_at ss (rootTo (lvAt ss) a k)
          have lc2 := rLevel_at ss (a + 1 + k)
          obtain ⟨r, hrr⟩ : ∃ r, r = rootTo (lvAt ss) a k := ⟨_, rfl⟩
          obtain ⟨i, hii⟩ : ∃ i, i = a + 1 + k := ⟨_, rfl⟩
          rw [← hrr] at c1 lc1 hr ⊢
          rw [← hii] at lc2 ⊢
          have hib : i < b := by omega
          have hrb : r < i := by omega
          have HRR := Lib.hid hrr
          have HI := Lib.hid hii
          obtain ⟨s1, hs1⟩ : ∃ s1, s1 = ss.getD r ByteArray.empty := ⟨_, rfl⟩
          obtain ⟨s2, hs2⟩ : ∃ s2, s2 = ss.getD i ByteArray.empty := ⟨_, rfl⟩
          rw [← hs1] at c1 lc1
          rw [← hs2] at lc2
          have HS2 := Lib.hid hs2
          have LC1 := Lib.hid lc1
          have LC2 := Lib.hid lc2
          clear hs1 hs2 lc1 lc2 hrr hii
          have d1 : decide ((i : Int) < (b : Int)) = true := by simp; omega
          have d2 : decide (i < b) = true := by simp; omega
          have hsd := sideN_le (lvAt ss r)
          by_cases hA : lvAt ss i < lvAt ss r
          · have f1 : decide (((lvAt ss i : Nat) : Int) < ((lvAt ss r : Nat) : Int)) = true := by simp; omega
            have f1' : decide (lvAt ss i < lvAt ss r) = true := by simp; omega
            go_wp2_with fail
            refine (LC1.out _).mono ?_
            rintro e w1 ⟨rfl, hb1⟩
            have c2 := str_at ((ha.below hbel).below hb1) (show i < n by omega)
            rw [← HS2.out] at c2
            go_wp2_with fail
            refine (LC2.out _).mono ?_
            rintro e w2 ⟨rfl, hb2⟩
            go_wp2_with (fail)
            go_roundw
            case rel => exact ⟨k + 1, by omega, by rw [HI.out]; go_num, by rw [rootTo, if_pos (by rw [← HRR.out, ← HI.out]; exact Or.inl hA), HI.out], bel_trans (bel_trans hbel hb1) hb2⟩
            case measure => simp [intOf]; omega
          · have f1 : decide (((lvAt ss i : Nat) : Int) < ((lvAt ss r : Nat) : Int)) = false := by simp; omega
            have f1' : decide (lvAt ss i < lvAt ss r) = false := by simp; omega
            by_cases hB : lvAt ss i = lvAt ss r
            · have f2 : (((lvAt ss i : Nat) : Int) == ((lvAt ss r : Nat) : Int)) = true := by rw [hB]; simp
              have HB := Lib.hid hB
              clear hB
              by_cases hs1 : sideN (lvAt ss r) = 1
              · have f3 : (((sideN (lvAt ss r) : Nat) : Int) == 1) = true := by rw [hs1]; rfl
                have HS1 := Lib.hid hs1
                clear hs1
                go_wp2_with fail
                refine (LC1.out _).mono ?_
                rintro e w1 ⟨rfl, hb1⟩
                have c2 := str_at ((ha.below hbel).below hb1) (show i < n by omega)
                rw [← HS2.out] at c2
                go_wp2_with fail
                refine (LC2.out _).mono ?_
                rintro e w2 ⟨rfl, hb2⟩
                go_wp2_with (go_at_call 54; refine (Side_c (lvAt ss r) _).mono ?_; rintro e w3 ⟨rfl, rfl⟩)
                go_roundw
                case rel => exact ⟨k + 1, by omega, by rw [HI.out]; go_num, by rw [rootTo, if_pos (by rw [← HRR.out, ← HI.out]; exact Or.inr ⟨HB.out, HS1.out⟩), HI.out], bel_trans (bel_trans hbel hb1) hb2⟩
                case measure => simp [intOf]; omega
              · have f3 : (((sideN (lvAt ss r) : Nat) : Int) == 1) = false := by simp; omega
                go_wp2_with fail
                refine (LC1.out _).mono ?_
                rintro e w1 ⟨rfl, hb1⟩
                have c2 := str_at ((ha.below hbel).below hb1) (show i < n by omega)
                rw [← HS2.out] at c2
                go_wp2_with fail
                refine (LC2.out _).mono ?_
                rintro e w2 ⟨rfl, hb2⟩
                go_wp2_with (go_at_call 54; refine (Side_c (lvAt ss r) _).mono ?_; rintro e w3 ⟨rfl, rfl⟩)
                go_roundw
                case rel => exact ⟨k + 1, by omega, by rw [HI.out]; go_num, by rw [rootTo, if_neg (by rw [← HRR.out, ← HI.out]; rintro (q | ⟨_, q⟩); exact hA q; exact hs1 q), HRR.out], bel_trans (bel_trans hbel hb1) hb2⟩
                case measure => simp [intOf]; omega
            · have f2 : (((lvAt ss i : Nat) : Int) == ((lvAt ss r : Nat) : Int)) = false := by simp; omega
              go_wp2_with fail
              refine (LC1.out _).mono ?_
              rintro e w1 ⟨rfl, hb1⟩
              have c2 := str_at ((ha.below hbel).below hb1) (show i < n by omega)
              rw [← HS2.out] at c2
              go_wp2_with fail
              refine (LC2.out _).mono ?_
              rintro e w2 ⟨rfl, hb2⟩
              go_wp2_with (fail)
              go_roundw
              case rel => exact ⟨k + 1, by omega, by rw [HI.out]; go_num, by rw [rootTo, if_neg (by rw [← HRR.out, ← HI.out]; rintro (q | ⟨q, _⟩); exact hA q; exact hB q), HRR.out], bel_trans (bel_trans hbel hb1) hb2⟩
              case measure => simp [intOf]; omega
        · have hkk : k = b - a - 1 := by omega
          have hord := ord_root (lvAt ss) a b (by omega)
          rw [← hkk] at hord
          obtain ⟨r, hrr⟩ : ∃ r, r = rootTo (lvAt ss) a k := ⟨_, rfl⟩
          rw [← hrr] at hr hord ⊢
          have HO := Lib.hid hord
          have hrb : r < b := by omega
          have har : a ≤ r := hr.1
          clear hrr hord hkk hr
          have haw := ha.below hbel
          go_wp2_with fail
          refine (IH.out a r _ _ har (by omega) (by omega) haw).mono ?_
          rintro e w1 ⟨v1, rfl, hown1, hb1⟩
          have hbel1 := bel_trans hbel hb1
          go_wp2_with (at_builtin; refine wpList_apps elemInt rfl (.tmp 47) (.tmp 51) rfl w.heap.size w.heap.size w (.slice none 0 0) 0 [] rfl (World.ownsRow_nil _ _ _ _) v1 (r - a) _ rfl (Src.of_own hown1) (one_ints _) (by omega) hbel1 (Nat.le_refl _) hbel1.size ?_; intro v2 w2 hown2 hbel2 hg2)
          have haw2 : SlAt w2 _ 1 n (strsV ss) := ha.below hbel2
          rw [show ((r : Int) + 1) = ((r + 1 : Nat) : Int) from by omega]
          refine (IH.out (r + 1) b _ _ (by omega) (by omega) (by omega) haw2).mono ?_
          rintro e w3 ⟨v3, rfl, hown3, hb3⟩
          have hbel3 := bel_trans hbel2 hb3
          have hown2' := own_below hown2 hb3
          rw [← show ((r : Int) + 1) = ((r + 1 : Nat) : Int) from by omega]
          clear hown1 hown2
          go_wp2_with (first | (at_builtin; refine wpList_apps elemInt rfl (.tmp 53) (.tmp 58) rfl w.heap.size w.heap.size w v2 _ _ rfl hown2' v3 (b - (r + 1)) _ rfl (Src.of_own hown3) (one_ints _) (by omega) hbel3 (Nat.le_refl _) hbel3.size ?_; intro v4 w4 hown4 hbel4 hg4) | (at_builtin; refine wpList_app elemInt rfl (.tmp 60) (.tmp 62) rfl w.heap.size w.heap.size w v4 _ _ rfl (hown4.alloc _) w4.heap.size [.int .i64 (r : Int)] rfl rfl (by simp) (one_int _ _) (by omega) (hbel4.alloc hbel4.size _) (Nat.le_refl _) (Nat.le_trans hbel4.size (by simp)) ?_; intro v5 w5 hown5 hbel5 hg5))
          go_ret
          refine ⟨_, rfl, ?_, hbel5⟩
          rw [HO.out, intsN_snoc]
          have e1 : 0 + (r - a) + (b - (r + 1)) + 1 = b - a := by omega
          rw [e1] at hown5
          have e2 : [] ++ intsN (ord (lvAt ss) a r) ++ intsN (ord (lvAt ss) (r + 1) b) = intsN (ord (lvAt ss) a r ++ ord (lvAt ss) (r + 1) b) := by simp [intsN]
          rw [e2] at hown5
          exact hown5
end Go.Proofs.Ythibocdpbekbcaa
