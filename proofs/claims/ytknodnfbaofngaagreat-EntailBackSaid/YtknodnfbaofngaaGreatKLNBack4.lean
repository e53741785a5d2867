/- Parts of a proof: the document's lexer: one, names and signs; the document's lexer: one, digits; the document's lexer: one, Scan; the document's lexer: Scan; the document's parser: it goes on, and never comes out of the tokens; the document's parser: it goes on: expressions, declarations; how many tokens there are; what is parsed is not too much; small functions of layers 5 and 8: Has, HasInt, Index, Contains, IsFun, fun, Fun, Con, Clone, kids; Args, Answer, All, Vars, Metas of the document; Args of the program; cognatelaw08.count, Small; All, Vars, Metas of the document; Args of the program; smalls; The logic of trees, part 19: calls that turn one piece of the memory; a nil as a slice of the call's own.; the document's declarations: Arity, Class, Method, Inst, names, vars; the document's declarations: Right, Method; the document's declarations: over, Above; the document's declarations: Above, Bound, binds; the document's declarations: datas; Matching, in plain words.; Matching what was put in: the plain law. -/
import Derived.Test.YtknodnfbaofngaaGreatKLNBack3
set_option maxRecDepth 100000
set_option maxHeartbeats 4000000
namespace Go.Proofs.YtknodnfbaofngaaGreat
open Go.RowKit
def nameO (a : Int) (c k : Nat) (w : ByteArray) : Tok × Int × Int := if 40 < k then (⟨0, w, 0, a⟩, 0, 104) else (⟨kindT c w, w, 0, a⟩, a + k, 0)
theorem oneL_A {a : Int} {c : Nat} {r : List Nat} (h1 : c ≠ 34) (h2 : ¬ digitC c = true) (h3 : smallC c = true ∨ greatC c = true) : oneL a (c :: r) = nameO a c (run 1 (c :: r)) (strN ((c :: r).take (run 1 (c :: r)))) := by
 rw [oneL, if_neg h1, if_neg h2]
 simp only [if_pos h3]
 rw [if_neg (by rintro ⟨q, _⟩; exact q (h3.elim .inl fun x => .inr (.inl x)))]; rfl
theorem oneL_B {a : Int} {c : Nat} {r : List Nat} (h1 : c ≠ 34) (h2 : ¬ digitC c = true) (h3 : ¬ (smallC c = true ∨ greatC c = true)) (h4 : signC c = true) : oneL a (c :: r) = nameO a c (run 3 (c :: r)) (strN ((c :: r).take (run 3 (c :: r)))) := by
 rw [oneL, if_neg h1, if_neg h2]
 simp only [if_neg h3, if_pos h4]
 rw [if_neg (by rintro ⟨q, _⟩; exact q (.inr (.inr h4)))]; rfl
theorem oneL_C {a : Int} {c : Nat} {r : List Nat} (h1 : c ≠ 34) (h2 : ¬ digitC c = true) (h3 : ¬ (smallC c = true ∨ greatC c = true)) (h4 : ¬ signC c = true) : oneL a (c :: r) = if markT (strN ((c :: r).take 1)) = false then (tok0 a, 0, 101) else nameO a c 1 (strN ((c :: r).take 1)) := by
 rw [oneL, if_neg h1, if_neg h2]
 simp only [if_neg h3, if_neg h4]
 by_cases q : markT (strN ((c :: r).take 1)) = false
 ·rw [if_pos ⟨by rintro (x | x | x); exact h3 (.inl x); exact h3 (.inr x); exact h4 x, q⟩, if_pos q]
 rw [if_neg (fun x => q x.2), if_neg q]; rfl
theorem run_pos {k c : Nat} {l : List Nat} (h : kindC k c = true) : 1 ≤ run k (c :: l) := by rw [run, if_pos h]; omega
theorem one_A (s : ByteArray) (hs : s.size ≤ 60000) (at_ : Nat) (ha : at_ < s.size) (b : UInt8) (hb : s[at_]? = some b) (h1 : b.toNat ≠ 34) (h2 : ¬ digitC b.toNat = true) (hc : smallC b.toNat = true ∨ greatC b.toNat = true) : PCall Tryz.prog 103 [.val (.string s), .val (.int .i64 at_)] (oneR (oneL at_ (rst s at_))) := by
 obtain ⟨b', hb', hr, _⟩ := Wx ha
 obtain rfl : b' = b := by rw [hb] at hb'; cases hb'; rfl
 have HE := end_c s hs at_ 1 (by omega) (by omega) (by omega)
 have HD := digit_c
 have HSm := small_c
 have HG := great_c
 have HS := sign_c
 have HM := Mark_c
 have HKy := Key_c
 have hO : oneL at_ (rst s at_) = nameO at_ b'.toNat (run 1 (rst s at_)) (strN ((rst s at_).take (run 1 (rst s at_)))) := by rw [hr]; exact oneL_A h1 h2 hc
 have hle := run_le 1 (rst s at_)
 rw [rst_len] at hle
 generalize hkk : run 1 (rst s at_) = k at *
 have hk := rst_cut s at_ (at_ + k)
 rw [show at_ + k - at_ = k by omega] at hk
 rw [← hk] at hO
 clear hk
 have hsz : (s.extract at_ (at_ + k)).size = k := by simp [ByteArray.size_extract]; omega
 generalize hw : s.extract at_ (at_ + k) = w at *
 refine Zw Tryz.func103 V (by kernel_rfl) V (Uf V) ?_
 refine Yf (Zg (Zc (Za 4 V V V (Zy (cs' := [_, _, _, _]) V Wj V V ?_)))); intro b4
 refine Za 5 V V V (Ze V V (Za 6 V V V (Ze V V (Vs (Zb (Zg (Zc (Za 17 V V V (Zd V V (Za 18 V V V (Zd V V (Za 19 V V V (Xg V Ws V V V (hb') (Za 7 V V V (Ze V V (Vs (Zb (Zg (Zc (Za 20 V V V (Zd V V (Za 21 V V V (Yl (ns := [3]) (xs := [.tmp 20]) V Wj V tfl_97 V V V V (Za 8 V V V (Zy (cs' := [_, _, _, _]) V Wj V V ?_))))))))))))))))))))))))); intro b8
 refine Zs V V (Zq (cs' := [_, _, _, _]) (i := 0) V Xk V V V V V (Uf V) V (Vs (Zb (Zg (Zg (Zc (Za 22 V V V (Zd V V (Za 23 V V V (Yr V V V ?_)))))))))); intro c23 h23
 refine Vs (Zb ?_)
 rcases Zi h23 with ⟨rfl, g23⟩ | ⟨rfl, g23⟩
 ·refine Zr V (Zv (Zb (Zg (Zg (Zc (Za 39 V V V (Zd V V (Za 40 V V V (Yg (xs := [.tmp 39]) V V (HD _) by1 ?_))))))))); intro c40 h40
  refine Vs (Zb ?_)
  rcases Zi h40 with ⟨rfl, g40⟩ | ⟨rfl, g40⟩
  ·refine Zr V (Zv (Zb (Zg (Zc (Za 78 V V V (Zd V V (Za 79 V V V (Yx V V V (Uj _ (by omega)) ?_))))))))
   refine Za 16 V V V (Ze V V (Vs (Zb (Zg (Zg (Xl 85 (smallC b'.toNat = true ∨ greatC b'.toNat = true) ?_ _ _ V ?_))))))
   ·skip
    refine Za 80 V V V (Zd V V (Za 81 V V V (Yg (xs := [.tmp 80]) V V (HSm _) by1 ?_))); intro c81 h81
    refine Za 82 V V V (Zd V V ?_)
    rcases Zi h81 with ⟨rfl, g81⟩ | ⟨rfl, g81⟩
    ·skip
     refine Zl 83 V V V V V (Zd V V (Zl 84 V V V V V (Yg (xs := [.tmp 83]) V V (HG _) by1 ?_))); intro c84 h84
     refine Za 85 V V V (Zn V V V (Vs (Ud V ?_ by5 by3)))
     simp_all; done
    skip
    refine Zk 83 V V V V V (Zk 84 V V V V V (Za 85 V V V (Zn V V V (Vs (Ud V ?_ by5 by3)))))
    simp_all; done
   intro c85 h85
   refine Zb ?_
   rcases Zi h85 with ⟨rfl, g85⟩ | ⟨rfl, g85⟩
   ·exact absurd hc g85
   refine Zt V ?_
   skip
   refine Zc (Za 86 V V V (Zd V V (Za 87 V V V (Zd V V (Za 88 V V V (Ym (xs := [.tmp 86, .tmp 87, .const (.int .i64 1)]) V V (HE) by1 ?_))))))
   refine Za 16 V V V (Ze V V (Vs (Zb (Zg (Zc (Za 101 V V V (Zd V V (Za 102 V V V (Zd V V (Za 103 V V V (Zd V V (Za 104 rfl rfl rfl (op_substr rfl Ws rfl rfl rfl (i := at_) (j := at_ + k) rfl rfl (by omega) (by omega) ?_)))))))))))))
   refine Za 105 V V V (Zh V Xh V (Zs V V (Zq (cs' := [_, _, _, _]) (i := 0) V ts_9 V V V V V (Uf V) V (Vs (Zb (Zg (Zg ?_)))))))
   rw [hw]
   refine Zc (Za 106 V V V (Zh V Xh V (Za 107 V V V (Zp (i := 0) V Xb V V V (Za 108 V V V (Xs V Ws V (Za 109 V V V (Ww V V V ?_)))))))); intro c109 h109
   refine Vs (Zb ?_)
   rcases Zi h109 with ⟨rfl, g109⟩ | ⟨rfl, g109⟩
   ·refine Zr V (Zv (Zb (Zg (Zc (Za 111 V V V (Zh V Xf V (Zs V V (Zq (cs' := [_, _, _, _]) (i := 0) V Wh V V V V V (Uf V) V (Vs (Zb (Zg (Zg (Zc (Za 112 V V V (Zd V V (Za 113 V V V (Yg (xs := [.tmp 112]) V V (HG _) by1 ?_))))))))))))))))); intro c113 h113
    refine Vs (Zb ?_)
    rcases Zi h113 with ⟨rfl, g113⟩ | ⟨rfl, g113⟩
    ·refine Zr V (Zv (Zb (Zg (Zg (Zc (Za 115 V V V (Zd V V (Za 116 V V V (Yg (xs := [.tmp 115]) V V (HS _) by1 ?_))))))))); intro c116 h116
     refine Vs (Zb ?_)
     rcases Zi h116 with ⟨rfl, g116⟩ | ⟨rfl, g116⟩
     ·refine Zr V (Zv (Zb (Zg (Zg (Zc (Za 118 V V V (Zh V Xh V (Za 119 V V V (Zp (i := 0) V Xb V V V (Za 120 V V V (Yg (xs := [.tmp 119]) V V (HKy _) by1 ?_))))))))))); intro c120 h120
      refine Vs (Zb ?_)
      rcases Zi h120 with ⟨rfl, g120⟩ | ⟨rfl, g120⟩
      ·refine Zr V (Zv (Zb (Zg (Zg (Zc (Za 122 V V V (Zh V Xh V (Za 123 V V V (Zp (i := 0) V Xb V V V (Za 124 V V V (Yg (xs := [.tmp 123]) V V (HM _) by1 ?_))))))))))); intro c124 h124
       refine Vs (Zb ?_)
       rcases Zi h124 with ⟨rfl, g124⟩ | ⟨rfl, g124⟩
       ·refine Zr V (Zv (Zb (Zg (Zc (Za 126 V V V (Zx (cs' := [_, _, _, _]) (i := 0) V Yq V V V V (Za 127 V V V (Zd V V (Zs V V (Zq (cs' := [_, _, _, _]) (i := 1) V Xk V V V V V (Uf V) V (Za 5 V V V (Ze V V (Za 6 V V V (Ze V V (Vs (Zb (Ya ?_)))))))))))))))))
        first | refine Yp (i := 1) V V V V V Yq V (Vz _) by3 ⟨?_, V⟩ | refine Yp (i := 0) V V V V V Yq V (Vz _) by3 ⟨?_, V⟩
        rw [hO, nameO, if_neg (by clear hO; omega)]
        simp [oneR, Tok.av, kindT, g113, g116, g120, g124]; done
       refine Zt V (Zc (Za 125 V V V (Zh V Xf V (Zs V V (Zq (cs' := [_, _, _, _]) (i := 0) V Wh V V V V V (Uf V) V (Vs (Zb (Zg (Zc (Za 126 V V V (Zx (cs' := [_, _, _, _]) (i := 0) V Yq V V V V (Za 127 V V V (Zd V V (Zs V V (Zq (cs' := [_, _, _, _]) (i := 1) V Xk V V V V V (Uf V) V (Za 5 V V V (Ze V V (Za 6 V V V (Ze V V (Vs (Zb (Ya ?_))))))))))))))))))))))
       first | refine Yp (i := 1) V V V V V Yq V (Vz _) by3 ⟨?_, V⟩ | refine Yp (i := 0) V V V V V Yq V (Vz _) by3 ⟨?_, V⟩
       rw [hO, nameO, if_neg (by clear hO; omega)]
       simp [oneR, Tok.av, kindT, g124]; done
      refine Zt V (Zc (Za 121 V V V (Zh V Xf V (Zs V V (Zq (cs' := [_, _, _, _]) (i := 0) V Wh V V V V V (Uf V) V (Vs (Zb (Zg (Zg (Zc (Za 122 V V V (Zh V Xh V (Za 123 V V V (Zp (i := 0) V Xb V V V (Za 124 V V V (Yg (xs := [.tmp 123]) V V (HM _) by1 ?_)))))))))))))))); intro c124 h124
      refine Vs (Zb ?_)
      rcases Zi h124 with ⟨rfl, g124⟩ | ⟨rfl, g124⟩
      ·refine Zr V (Zv (Zb (Zg (Zc (Za 126 V V V (Zx (cs' := [_, _, _, _]) (i := 0) V Yq V V V V (Za 127 V V V (Zd V V (Zs V V (Zq (cs' := [_, _, _, _]) (i := 1) V Xk V V V V V (Uf V) V (Za 5 V V V (Ze V V (Za 6 V V V (Ze V V (Vs (Zb (Ya ?_)))))))))))))))))
       first | refine Yp (i := 1) V V V V V Yq V (Vz _) by3 ⟨?_, V⟩ | refine Yp (i := 0) V V V V V Yq V (Vz _) by3 ⟨?_, V⟩
       rw [hO, nameO, if_neg (by clear hO; omega)]
       simp [oneR, Tok.av, kindT, g120, g124]; done
      refine Zt V (Zc (Za 125 V V V (Zh V Xf V (Zs V V (Zq (cs' := [_, _, _, _]) (i := 0) V Wh V V V V V (Uf V) V (Vs (Zb (Zg (Zc (Za 126 V V V (Zx (cs' := [_, _, _, _]) (i := 0) V Yq V V V V (Za 127 V V V (Zd V V (Zs V V (Zq (cs' := [_, _, _, _]) (i := 1) V Xk V V V V V (Uf V) V (Za 5 V V V (Ze V V (Za 6 V V V (Ze V V (Vs (Zb (Ya ?_))))))))))))))))))))))
      first | refine Yp (i := 1) V V V V V Yq V (Vz _) by3 ⟨?_, V⟩ | refine Yp (i := 0) V V V V V Yq V (Vz _) by3 ⟨?_, V⟩
      rw [hO, nameO, if_neg (by clear hO; omega)]
      simp [oneR, Tok.av, kindT, g124]; done
     refine Zt V (Zc (Za 117 V V V (Zh V Xf V (Zs V V (Zq (cs' := [_, _, _, _]) (i := 0) V Wh V V V V V (Uf V) V (Vs (Zb (Zg (Zg (Zc (Za 118 V V V (Zh V Xh V (Za 119 V V V (Zp (i := 0) V Xb V V V (Za 120 V V V (Yg (xs := [.tmp 119]) V V (HKy _) by1 ?_)))))))))))))))); intro c120 h120
     refine Vs (Zb ?_)
     rcases Zi h120 with ⟨rfl, g120⟩ | ⟨rfl, g120⟩
     ·refine Zr V (Zv (Zb (Zg (Zg (Zc (Za 122 V V V (Zh V Xh V (Za 123 V V V (Zp (i := 0) V Xb V V V (Za 124 V V V (Yg (xs := [.tmp 123]) V V (HM _) by1 ?_))))))))))); intro c124 h124
      refine Vs (Zb ?_)
      rcases Zi h124 with ⟨rfl, g124⟩ | ⟨rfl, g124⟩
      ·refine Zr V (Zv (Zb (Zg (Zc (Za 126 V V V (Zx (cs' := [_, _, _, _]) (i := 0) V Yq V V V V (Za 127 V V V (Zd V V (Zs V V (Zq (cs' := [_, _, _, _]) (i := 1) V Xk V V V V V (Uf V) V (Za 5 V V V (Ze V V (Za 6 V V V (Ze V V (Vs (Zb (Ya ?_)))))))))))))))))
       first | refine Yp (i := 1) V V V V V Yq V (Vz _) by3 ⟨?_, V⟩ | refine Yp (i := 0) V V V V V Yq V (Vz _) by3 ⟨?_, V⟩
       rw [hO, nameO, if_neg (by clear hO; omega)]
       simp [oneR, Tok.av, kindT, g116, g120, g124]; done
      refine Zt V (Zc (Za 125 V V V (Zh V Xf V (Zs V V (Zq (cs' := [_, _, _, _]) (i := 0) V Wh V V V V V (Uf V) V (Vs (Zb (Zg (Zc (Za 126 V V V (Zx (cs' := [_, _, _, _]) (i := 0) V Yq V V V V (Za 127 V V V (Zd V V (Zs V V (Zq (cs' := [_, _, _, _]) (i := 1) V Xk V V V V V (Uf V) V (Za 5 V V V (Ze V V (Za 6 V V V (Ze V V (Vs (Zb (Ya ?_))))))))))))))))))))))
      first | refine Yp (i := 1) V V V V V Yq V (Vz _) by3 ⟨?_, V⟩ | refine Yp (i := 0) V V V V V Yq V (Vz _) by3 ⟨?_, V⟩
      rw [hO, nameO, if_neg (by clear hO; omega)]
      simp [oneR, Tok.av, kindT, g124]; done
     refine Zt V (Zc (Za 121 V V V (Zh V Xf V (Zs V V (Zq (cs' := [_, _, _, _]) (i := 0) V Wh V V V V V (Uf V) V (Vs (Zb (Zg (Zg (Zc (Za 122 V V V (Zh V Xh V (Za 123 V V V (Zp (i := 0) V Xb V V V (Za 124 V V V (Yg (xs := [.tmp 123]) V V (HM _) by1 ?_)))))))))))))))); intro c124 h124
     refine Vs (Zb ?_)
     rcases Zi h124 with ⟨rfl, g124⟩ | ⟨rfl, g124⟩
     ·refine Zr V (Zv (Zb (Zg (Zc (Za 126 V V V (Zx (cs' := [_, _, _, _]) (i := 0) V Yq V V V V (Za 127 V V V (Zd V V (Zs V V (Zq (cs' := [_, _, _, _]) (i := 1) V Xk V V V V V (Uf V) V (Za 5 V V V (Ze V V (Za 6 V V V (Ze V V (Vs (Zb (Ya ?_)))))))))))))))))
      first | refine Yp (i := 1) V V V V V Yq V (Vz _) by3 ⟨?_, V⟩ | refine Yp (i := 0) V V V V V Yq V (Vz _) by3 ⟨?_, V⟩
      rw [hO, nameO, if_neg (by clear hO; omega)]
      simp [oneR, Tok.av, kindT, g120, g124]; done
     refine Zt V (Zc (Za 125 V V V (Zh V Xf V (Zs V V (Zq (cs' := [_, _, _, _]) (i := 0) V Wh V V V V V (Uf V) V (Vs (Zb (Zg (Zc (Za 126 V V V (Zx (cs' := [_, _, _, _]) (i := 0) V Yq V V V V (Za 127 V V V (Zd V V (Zs V V (Zq (cs' := [_, _, _, _]) (i := 1) V Xk V V V V V (Uf V) V (Za 5 V V V (Ze V V (Za 6 V V V (Ze V V (Vs (Zb (Ya ?_))))))))))))))))))))))
     first | refine Yp (i := 1) V V V V V Yq V (Vz _) by3 ⟨?_, V⟩ | refine Yp (i := 0) V V V V V Yq V (Vz _) by3 ⟨?_, V⟩
     rw [hO, nameO, if_neg (by clear hO; omega)]
     simp [oneR, Tok.av, kindT, g124]; done
    refine Zt V (Zc (Za 114 V V V (Zh V Xf V (Zs V V (Zq (cs' := [_, _, _, _]) (i := 0) V Wh V V V V V (Uf V) V (Vs (Zb (Zg (Zg (Zc (Za 115 V V V (Zd V V (Za 116 V V V (Yg (xs := [.tmp 115]) V V (HS _) by1 ?_)))))))))))))); intro c116 h116
    refine Vs (Zb ?_)
    rcases Zi h116 with ⟨rfl, g116⟩ | ⟨rfl, g116⟩
    ·refine Zr V (Zv (Zb (Zg (Zg (Zc (Za 118 V V V (Zh V Xh V (Za 119 V V V (Zp (i := 0) V Xb V V V (Za 120 V V V (Yg (xs := [.tmp 119]) V V (HKy _) by1 ?_))))))))))); intro c120 h120
     refine Vs (Zb ?_)
     rcases Zi h120 with ⟨rfl, g120⟩ | ⟨rfl, g120⟩
     ·refine Zr V (Zv (Zb (Zg (Zg (Zc (Za 122 V V V (Zh V Xh V (Za 123 V V V (Zp (i := 0) V Xb V V V (Za 124 V V V (Yg (xs := [.tmp 123]) V V (HM _) by1 ?_))))))))))); intro c124 h124
      refine Vs (Zb ?_)
      rcases Zi h124 with ⟨rfl, g124⟩ | ⟨rfl, g124⟩
      ·refine Zr V (Zv (Zb (Zg (Zc (Za 126 V V V (Zx (cs' := [_, _, _, _]) (i := 0) V Yq V V V V (Za 127 V V V (Zd V V (Zs V V (Zq (cs' := [_, _, _, _]) (i := 1) V Xk V V V V V (Uf V) V (Za 5 V V V (Ze V V (Za 6 V V V (Ze V V (Vs (Zb (Ya ?_)))))))))))))))))
       first | refine Yp (i := 1) V V V V V Yq V (Vz _) by3 ⟨?_, V⟩ | refine Yp (i := 0) V V V V V Yq V (Vz _) by3 ⟨?_, V⟩
       rw [hO, nameO, if_neg (by clear hO; omega)]
       simp [oneR, Tok.av, kindT, g113, g116, g120, g124]; done
      refine Zt V (Zc (Za 125 V V V (Zh V Xf V (Zs V V (Zq (cs' := [_, _, _, _]) (i := 0) V Wh V V V V V (Uf V) V (Vs (Zb (Zg (Zc (Za 126 V V V (Zx (cs' := [_, _, _, _]) (i := 0) V Yq V V V V (Za 127 V V V (Zd V V (Zs V V (Zq (cs' := [_, _, _, _]) (i := 1) V Xk V V V V V (Uf V) V (Za 5 V V V (Ze V V (Za 6 V V V (Ze V V (Vs (Zb (Ya ?_))))))))))))))))))))))
      first | refine Yp (i := 1) V V V V V Yq V (Vz _) by3 ⟨?_, V⟩ | refine Yp (i := 0) V V V V V Yq V (Vz _) by3 ⟨?_, V⟩
      rw [hO, nameO, if_neg (by clear hO; omega)]
      simp [oneR, Tok.av, kindT, g124]; done
     refine Zt V (Zc (Za 121 V V V (Zh V Xf V (Zs V V (Zq (cs' := [_, _, _, _]) (i := 0) V Wh V V V V V (Uf V) V (Vs (Zb (Zg (Zg (Zc (Za 122 V V V (Zh V Xh V (Za 123 V V V (Zp (i := 0) V Xb V V V (Za 124 V V V (Yg (xs := [.tmp 123]) V V (HM _) by1 ?_)))))))))))))))); intro c124 h124
     refine Vs (Zb ?_)
     rcases Zi h124 with ⟨rfl, g124⟩ | ⟨rfl, g124⟩
     ·refine Zr V (Zv (Zb (Zg (Zc (Za 126 V V V (Zx (cs' := [_, _, _, _]) (i := 0) V Yq V V V V (Za 127 V V V (Zd V V (Zs V V (Zq (cs' := [_, _, _, _]) (i := 1) V Xk V V V V V (Uf V) V (Za 5 V V V (Ze V V (Za 6 V V V (Ze V V (Vs (Zb (Ya ?_)))))))))))))))))
      first | refine Yp (i := 1) V V V V V Yq V (Vz _) by3 ⟨?_, V⟩ | refine Yp (i := 0) V V V V V Yq V (Vz _) by3 ⟨?_, V⟩
      rw [hO, nameO, if_neg (by clear hO; omega)]
      simp [oneR, Tok.av, kindT, g120, g124]; done
     refine Zt V (Zc (Za 125 V V V (Zh V Xf V (Zs V V (Zq (cs' := [_, _, _, _]) (i := 0) V Wh V V V V V (Uf V) V (Vs (Zb (Zg (Zc (Za 126 V V V (Zx (cs' := [_, _, _, _]) (i := 0) V Yq V V V V (Za 127 V V V (Zd V V (Zs V V (Zq (cs' := [_, _, _, _]) (i := 1) V Xk V V V V V (Uf V) V (Za 5 V V V (Ze V V (Za 6 V V V (Ze V V (Vs (Zb (Ya ?_))))))))))))))))))))))
     first | refine Yp (i := 1) V V V V V Yq V (Vz _) by3 ⟨?_, V⟩ | refine Yp (i := 0) V V V V V Yq V (Vz _) by3 ⟨?_, V⟩
     rw [hO, nameO, if_neg (by clear hO; omega)]
     simp [oneR, Tok.av, kindT, g124]; done
    refine Zt V (Zc (Za 117 V V V (Zh V Xf V (Zs V V (Zq (cs' := [_, _, _, _]) (i := 0) V Wh V V V V V (Uf V) V (Vs (Zb (Zg (Zg (Zc (Za 118 V V V (Zh V Xh V (Za 119 V V V (Zp (i := 0) V Xb V V V (Za 120 V V V (Yg (xs := [.tmp 119]) V V (HKy _) by1 ?_)))))))))))))))); intro c120 h120
    refine Vs (Zb ?_)
    rcases Zi h120 with ⟨rfl, g120⟩ | ⟨rfl, g120⟩
    ·refine Zr V (Zv (Zb (Zg (Zg (Zc (Za 122 V V V (Zh V Xh V (Za 123 V V V (Zp (i := 0) V Xb V V V (Za 124 V V V (Yg (xs := [.tmp 123]) V V (HM _) by1 ?_))))))))))); intro c124 h124
     refine Vs (Zb ?_)
     rcases Zi h124 with ⟨rfl, g124⟩ | ⟨rfl, g124⟩
     ·refine Zr V (Zv (Zb (Zg (Zc (Za 126 V V V (Zx (cs' := [_, _, _, _]) (i := 0) V Yq V V V V (Za 127 V V V (Zd V V (Zs V V (Zq (cs' := [_, _, _, _]) (i := 1) V Xk V V V V V (Uf V) V (Za 5 V V V (Ze V V (Za 6 V V V (Ze V V (Vs (Zb (Ya ?_)))))))))))))))))
      first | refine Yp (i := 1) V V V V V Yq V (Vz _) by3 ⟨?_, V⟩ | refine Yp (i := 0) V V V V V Yq V (Vz _) by3 ⟨?_, V⟩
      rw [hO, nameO, if_neg (by clear hO; omega)]
      simp [oneR, Tok.av, kindT, g116, g120, g124]; done
     refine Zt V (Zc (Za 125 V V V (Zh V Xf V (Zs V V (Zq (cs' := [_, _, _, _]) (i := 0) V Wh V V V V V (Uf V) V (Vs (Zb (Zg (Zc (Za 126 V V V (Zx (cs' := [_, _, _, _]) (i := 0) V Yq V V V V (Za 127 V V V (Zd V V (Zs V V (Zq (cs' := [_, _, _, _]) (i := 1) V Xk V V V V V (Uf V) V (Za 5 V V V (Ze V V (Za 6 V V V (Ze V V (Vs (Zb (Ya ?_))))))))))))))))))))))
     first | refine Yp (i := 1) V V V V V Yq V (Vz _) by3 ⟨?_, V⟩ | refine Yp (i := 0) V V V V V Yq V (Vz _) by3 ⟨?_, V⟩
     rw [hO, nameO, if_neg (by clear hO; omega)]
     simp [oneR, Tok.av, kindT, g124]; done
    refine Zt V (Zc (Za 121 V V V (Zh V Xf V (Zs V V (Zq (cs' := [_, _, _, _]) (i := 0) V Wh V V V V V (Uf V) V (Vs (Zb (Zg (Zg (Zc (Za 122 V V V (Zh V Xh V (Za 123 V V V (Zp (i := 0) V Xb V V V (Za 124 V V V (Yg (xs := [.tmp 123]) V V (HM _) by1 ?_)))))))))))))))); intro c124 h124
    refine Vs (Zb ?_)
    rcases Zi h124 with ⟨rfl, g124⟩ | ⟨rfl, g124⟩
    ·refine Zr V (Zv (Zb (Zg (Zc (Za 126 V V V (Zx (cs' := [_, _, _, _]) (i := 0) V Yq V V V V (Za 127 V V V (Zd V V (Zs V V (Zq (cs' := [_, _, _, _]) (i := 1) V Xk V V V V V (Uf V) V (Za 5 V V V (Ze V V (Za 6 V V V (Ze V V (Vs (Zb (Ya ?_)))))))))))))))))
     first | refine Yp (i := 1) V V V V V Yq V (Vz _) by3 ⟨?_, V⟩ | refine Yp (i := 0) V V V V V Yq V (Vz _) by3 ⟨?_, V⟩
     rw [hO, nameO, if_neg (by clear hO; omega)]
     simp [oneR, Tok.av, kindT, g120, g124]; done
    refine Zt V (Zc (Za 125 V V V (Zh V Xf V (Zs V V (Zq (cs' := [_, _, _, _]) (i := 0) V Wh V V V V V (Uf V) V (Vs (Zb (Zg (Zc (Za 126 V V V (Zx (cs' := [_, _, _, _]) (i := 0) V Yq V V V V (Za 127 V V V (Zd V V (Zs V V (Zq (cs' := [_, _, _, _]) (i := 1) V Xk V V V V V (Uf V) V (Za 5 V V V (Ze V V (Za 6 V V V (Ze V V (Vs (Zb (Ya ?_))))))))))))))))))))))
    first | refine Yp (i := 1) V V V V V Yq V (Vz _) by3 ⟨?_, V⟩ | refine Yp (i := 0) V V V V V Yq V (Vz _) by3 ⟨?_, V⟩
    rw [hO, nameO, if_neg (by clear hO; omega)]
    simp [oneR, Tok.av, kindT, g124]; done
   refine Zt V (Zg (Zc (Za 110 V V V (Zx (cs' := [_, _, _, _]) (i := 0) V Yq V V V V (Zs V V (Zq (cs' := [_, _, _, _]) (i := 1) V Xk V V V V V (Uf V) V (Za 5 V V V (Ze V V (Za 6 V V V (Ze V V (Vs (Zb (Ya ?_)))))))))))))
   first | refine Yp (i := 1) V V V V V Yq V (Vz _) by3 ⟨?_, V⟩ | refine Yp (i := 0) V V V V V Yq V (Vz _) by3 ⟨?_, V⟩
   rw [hO, nameO, if_pos (by clear hO; omega)]; rfl
  exact absurd g40 h2
 omega
theorem one_B (s : ByteArray) (hs : s.size ≤ 60000) (at_ : Nat) (ha : at_ < s.size) (b : UInt8) (hb : s[at_]? = some b) (h1 : b.toNat ≠ 34) (h2 : ¬ digitC b.toNat = true) (hc : ¬ (smallC b.toNat = true ∨ greatC b.toNat = true)) (hc2 : signC b.toNat = true) : PCall Tryz.prog 103 [.val (.string s), .val (.int .i64 at_)] (oneR (oneL at_ (rst s at_))) := by
 obtain ⟨b', hb', hr, _⟩ := Wx ha
 obtain rfl : b' = b := by rw [hb] at hb'; cases hb'; rfl
 have HE := end_c s hs at_ 3 (by omega) (by omega) (by omega)
 have HD := digit_c
 have HSm := small_c
 have HG := great_c
 have HS := sign_c
 have HM := Mark_c
 have HKy := Key_c
 have hO : oneL at_ (rst s at_) = nameO at_ b'.toNat (run 3 (rst s at_)) (strN ((rst s at_).take (run 3 (rst s at_)))) := by rw [hr]; exact oneL_B h1 h2 hc hc2
 have hle := run_le 3 (rst s at_)
 rw [rst_len] at hle
 generalize hkk : run 3 (rst s at_) = k at *
 have hk := rst_cut s at_ (at_ + k)
 rw [show at_ + k - at_ = k by omega] at hk
 rw [← hk] at hO
 clear hk
 have hsz : (s.extract at_ (at_ + k)).size = k := by simp [ByteArray.size_extract]; omega
 generalize hw : s.extract at_ (at_ + k) = w at *
 refine Zw Tryz.func103 V (by kernel_rfl) V (Uf V) ?_
 refine Yf (Zg (Zc (Za 4 V V V (Zy (cs' := [_, _, _, _]) V Wj V V ?_)))); intro b4
 refine Za 5 V V V (Ze V V (Za 6 V V V (Ze V V (Vs (Zb (Zg (Zc (Za 17 V V V (Zd V V (Za 18 V V V (Zd V V (Za 19 V V V (Xg V Ws V V V (hb') (Za 7 V V V (Ze V V (Vs (Zb (Zg (Zc (Za 20 V V V (Zd V V (Za 21 V V V (Yl (ns := [3]) (xs := [.tmp 20]) V Wj V tfl_97 V V V V (Za 8 V V V (Zy (cs' := [_, _, _, _]) V Wj V V ?_))))))))))))))))))))))))); intro b8
 refine Zs V V (Zq (cs' := [_, _, _, _]) (i := 0) V Xk V V V V V (Uf V) V (Vs (Zb (Zg (Zg (Zc (Za 22 V V V (Zd V V (Za 23 V V V (Yr V V V ?_)))))))))); intro c23 h23
 refine Vs (Zb ?_)
 rcases Zi h23 with ⟨rfl, g23⟩ | ⟨rfl, g23⟩
 ·refine Zr V (Zv (Zb (Zg (Zg (Zc (Za 39 V V V (Zd V V (Za 40 V V V (Yg (xs := [.tmp 39]) V V (HD _) by1 ?_))))))))); intro c40 h40
  refine Vs (Zb ?_)
  rcases Zi h40 with ⟨rfl, g40⟩ | ⟨rfl, g40⟩
  ·refine Zr V (Zv (Zb (Zg (Zc (Za 78 V V V (Zd V V (Za 79 V V V (Yx V V V (Uj _ (by omega)) ?_))))))))
   refine Za 16 V V V (Ze V V (Vs (Zb (Zg (Zg (Xl 85 (smallC b'.toNat = true ∨ greatC b'.toNat = true) ?_ _ _ V ?_))))))
   ·skip
    refine Za 80 V V V (Zd V V (Za 81 V V V (Yg (xs := [.tmp 80]) V V (HSm _) by1 ?_))); intro c81 h81
    refine Za 82 V V V (Zd V V ?_)
    rcases Zi h81 with ⟨rfl, g81⟩ | ⟨rfl, g81⟩
    ·skip
     refine Zl 83 V V V V V (Zd V V (Zl 84 V V V V V (Yg (xs := [.tmp 83]) V V (HG _) by1 ?_))); intro c84 h84
     refine Za 85 V V V (Zn V V V (Vs (Ud V ?_ by5 by3)))
     simp_all; done
    skip
    refine Zk 83 V V V V V (Zk 84 V V V V V (Za 85 V V V (Zn V V V (Vs (Ud V ?_ by5 by3)))))
    simp_all; done
   intro c85 h85
   refine Zb ?_
   rcases Zi h85 with ⟨rfl, g85⟩ | ⟨rfl, g85⟩
   ·refine Zr V (Zg (Zc (Za 89 V V V (Zd V V (Za 90 V V V (Yg (xs := [.tmp 89]) V V (HS _) by1 ?_)))))); intro c90 h90
    refine Vs (Zb ?_)
    rcases Zi h90 with ⟨rfl, g90⟩ | ⟨rfl, g90⟩
    ·exact absurd hc2 g90
    refine Zt V (Zc (Za 91 V V V (Zd V V (Za 92 V V V (Zd V V (Za 93 V V V (Ym (xs := [.tmp 91, .tmp 92, .const (.int .i64 3)]) V V (HE) by1 ?_)))))))
    refine Za 16 V V V (Ze V V (Vs (Zb (Zg (Zc (Za 101 V V V (Zd V V (Za 102 V V V (Zd V V (Za 103 V V V (Zd V V (Za 104 rfl rfl rfl (op_substr rfl Ws rfl rfl rfl (i := at_) (j := at_ + k) rfl rfl (by omega) (by omega) ?_)))))))))))))
    refine Za 105 V V V (Zh V Xh V (Zs V V (Zq (cs' := [_, _, _, _]) (i := 0) V ts_9 V V V V V (Uf V) V (Vs (Zb (Zg (Zg ?_)))))))
    rw [hw]
    refine Zc (Za 106 V V V (Zh V Xh V (Za 107 V V V (Zp (i := 0) V Xb V V V (Za 108 V V V (Xs V Ws V (Za 109 V V V (Ww V V V ?_)))))))); intro c109 h109
    refine Vs (Zb ?_)
    rcases Zi h109 with ⟨rfl, g109⟩ | ⟨rfl, g109⟩
    ·refine Zr V (Zv (Zb (Zg (Zc (Za 111 V V V (Zh V Xf V (Zs V V (Zq (cs' := [_, _, _, _]) (i := 0) V Wh V V V V V (Uf V) V (Vs (Zb (Zg (Zg (Zc (Za 112 V V V (Zd V V (Za 113 V V V (Yg (xs := [.tmp 112]) V V (HG _) by1 ?_))))))))))))))))); intro c113 h113
     refine Vs (Zb ?_)
     rcases Zi h113 with ⟨rfl, g113⟩ | ⟨rfl, g113⟩
     ·refine Zr V (Zv (Zb (Zg (Zg (Zc (Za 115 V V V (Zd V V (Za 116 V V V (Yg (xs := [.tmp 115]) V V (HS _) by1 ?_))))))))); intro c116 h116
      refine Vs (Zb ?_)
      rcases Zi h116 with ⟨rfl, g116⟩ | ⟨rfl, g116⟩
      ·refine Zr V (Zv (Zb (Zg (Zg (Zc (Za 118 V V V (Zh V Xh V (Za 119 V V V (Zp (i := 0) V Xb V V V (Za 120 V V V (Yg (xs := [.tmp 119]) V V (HKy _) by1 ?_))))))))))); intro c120 h120
       refine Vs (Zb ?_)
       rcases Zi h120 with ⟨rfl, g120⟩ | ⟨rfl, g120⟩
       ·refine Zr V (Zv (Zb (Zg (Zg (Zc (Za 122 V V V (Zh V Xh V (Za 123 V V V (Zp (i := 0) V Xb V V V (Za 124 V V V (Yg (xs := [.tmp 123]) V V (HM _) by1 ?_))))))))))); intro c124 h124
        refine Vs (Zb ?_)
        rcases Zi h124 with ⟨rfl, g124⟩ | ⟨rfl, g124⟩
        ·refine Zr V (Zv (Zb (Zg (Zc (Za 126 V V V (Zx (cs' := [_, _, _, _]) (i := 0) V Yq V V V V (Za 127 V V V (Zd V V (Zs V V (Zq (cs' := [_, _, _, _]) (i := 1) V Xk V V V V V (Uf V) V (Za 5 V V V (Ze V V (Za 6 V V V (Ze V V (Vs (Zb (Ya ?_)))))))))))))))))
         first | refine Yp (i := 1) V V V V V Yq V (Vz _) by3 ⟨?_, V⟩ | refine Yp (i := 0) V V V V V Yq V (Vz _) by3 ⟨?_, V⟩
         rw [hO, nameO, if_neg (by clear hO; omega)]
         simp [oneR, Tok.av, kindT, g113, g116, g120, g124]; done
        refine Zt V (Zc (Za 125 V V V (Zh V Xf V (Zs V V (Zq (cs' := [_, _, _, _]) (i := 0) V Wh V V V V V (Uf V) V (Vs (Zb (Zg (Zc (Za 126 V V V (Zx (cs' := [_, _, _, _]) (i := 0) V Yq V V V V (Za 127 V V V (Zd V V (Zs V V (Zq (cs' := [_, _, _, _]) (i := 1) V Xk V V V V V (Uf V) V (Za 5 V V V (Ze V V (Za 6 V V V (Ze V V (Vs (Zb (Ya ?_))))))))))))))))))))))
        first | refine Yp (i := 1) V V V V V Yq V (Vz _) by3 ⟨?_, V⟩ | refine Yp (i := 0) V V V V V Yq V (Vz _) by3 ⟨?_, V⟩
        rw [hO, nameO, if_neg (by clear hO; omega)]
        simp [oneR, Tok.av, kindT, g124]; done
       refine Zt V (Zc (Za 121 V V V (Zh V Xf V (Zs V V (Zq (cs' := [_, _, _, _]) (i := 0) V Wh V V V V V (Uf V) V (Vs (Zb (Zg (Zg (Zc (Za 122 V V V (Zh V Xh V (Za 123 V V V (Zp (i := 0) V Xb V V V (Za 124 V V V (Yg (xs := [.tmp 123]) V V (HM _) by1 ?_)))))))))))))))); intro c124 h124
       refine Vs (Zb ?_)
       rcases Zi h124 with ⟨rfl, g124⟩ | ⟨rfl, g124⟩
       ·refine Zr V (Zv (Zb (Zg (Zc (Za 126 V V V (Zx (cs' := [_, _, _, _]) (i := 0) V Yq V V V V (Za 127 V V V (Zd V V (Zs V V (Zq (cs' := [_, _, _, _]) (i := 1) V Xk V V V V V (Uf V) V (Za 5 V V V (Ze V V (Za 6 V V V (Ze V V (Vs (Zb (Ya ?_)))))))))))))))))
        first | refine Yp (i := 1) V V V V V Yq V (Vz _) by3 ⟨?_, V⟩ | refine Yp (i := 0) V V V V V Yq V (Vz _) by3 ⟨?_, V⟩
        rw [hO, nameO, if_neg (by clear hO; omega)]
        simp [oneR, Tok.av, kindT, g120, g124]; done
       refine Zt V (Zc (Za 125 V V V (Zh V Xf V (Zs V V (Zq (cs' := [_, _, _, _]) (i := 0) V Wh V V V V V (Uf V) V (Vs (Zb (Zg (Zc (Za 126 V V V (Zx (cs' := [_, _, _, _]) (i := 0) V Yq V V V V (Za 127 V V V (Zd V V (Zs V V (Zq (cs' := [_, _, _, _]) (i := 1) V Xk V V V V V (Uf V) V (Za 5 V V V (Ze V V (Za 6 V V V (Ze V V (Vs (Zb (Ya ?_))))))))))))))))))))))
       first | refine Yp (i := 1) V V V V V Yq V (Vz _) by3 ⟨?_, V⟩ | refine Yp (i := 0) V V V V V Yq V (Vz _) by3 ⟨?_, V⟩
       rw [hO, nameO, if_neg (by clear hO; omega)]
       simp [oneR, Tok.av, kindT, g124]; done
      refine Zt V (Zc (Za 117 V V V (Zh V Xf V (Zs V V (Zq (cs' := [_, _, _, _]) (i := 0) V Wh V V V V V (Uf V) V (Vs (Zb (Zg (Zg (Zc (Za 118 V V V (Zh V Xh V (Za 119 V V V (Zp (i := 0) V Xb V V V (Za 120 V V V (Yg (xs := [.tmp 119]) V V (HKy _) by1 ?_)))))))))))))))); intro c120 h120
      refine Vs (Zb ?_)
      rcases Zi h120 with ⟨rfl, g120⟩ | ⟨rfl, g120⟩
      ·refine Zr V (Zv (Zb (Zg (Zg (Zc (Za 122 V V V (Zh V Xh V (Za 123 V V V (Zp (i := 0) V Xb V V V (Za 124 V V V (Yg (xs := [.tmp 123]) V V (HM _) by1 ?_))))))))))); intro c124 h124
       refine Vs (Zb ?_)
       rcases Zi h124 with ⟨rfl, g124⟩ | ⟨rfl, g124⟩
       ·refine Zr V (Zv (Zb (Zg (Zc (Za 126 V V V (Zx (cs' := [_, _, _, _]) (i := 0) V Yq V V V V (Za 127 V V V (Zd V V (Zs V V (Zq (cs' := [_, _, _, _]) (i := 1) V Xk V V V V V (Uf V) V (Za 5 V V V (Ze V V (Za 6 V V V (Ze V V (Vs (Zb (Ya ?_)))))))))))))))))
        first | refine Yp (i := 1) V V V V V Yq V (Vz _) by3 ⟨?_, V⟩ | refine Yp (i := 0) V V V V V Yq V (Vz _) by3 ⟨?_, V⟩
        rw [hO, nameO, if_neg (by clear hO; omega)]
        simp [oneR, Tok.av, kindT, g116, g120, g124]; done
       refine Zt V (Zc (Za 125 V V V (Zh V Xf V (Zs V V (Zq (cs' := [_, _, _, _]) (i := 0) V Wh V V V V V (Uf V) V (Vs (Zb (Zg (Zc (Za 126 V V V (Zx (cs' := [_, _, _, _]) (i := 0) V Yq V V V V (Za 127 V V V (Zd V V (Zs V V (Zq (cs' := [_, _, _, _]) (i := 1) V Xk V V V V V (Uf V) V (Za 5 V V V (Ze V V (Za 6 V V V (Ze V V (Vs (Zb (Ya ?_))))))))))))))))))))))
       first | refine Yp (i := 1) V V V V V Yq V (Vz _) by3 ⟨?_, V⟩ | refine Yp (i := 0) V V V V V Yq V (Vz _) by3 ⟨?_, V⟩
       rw [hO, nameO, if_neg (by clear hO; omega)]
       simp [oneR, Tok.av, kindT, g124]; done
      refine Zt V (Zc (Za 121 V V V (Zh V Xf V (Zs V V (Zq (cs' := [_, _, _, _]) (i := 0) V Wh V V V V V (Uf V) V (Vs (Zb (Zg (Zg (Zc (Za 122 V V V (Zh V Xh V (Za 123 V V V (Zp (i := 0) V Xb V V V (Za 124 V V V (Yg (xs := [.tmp 123]) V V (HM _) by1 ?_)))))))))))))))); intro c124 h124
      refine Vs (Zb ?_)
      rcases Zi h124 with ⟨rfl, g124⟩ | ⟨rfl, g124⟩
      ·refine Zr V (Zv (Zb (Zg (Zc (Za 126 V V V (Zx (cs' := [_, _, _, _]) (i := 0) V Yq V V V V (Za 127 V V V (Zd V V (Zs V V (Zq (cs' := [_, _, _, _]) (i := 1) V Xk V V V V V (Uf V) V (Za 5 V V V (Ze V V (Za 6 V V V (Ze V V (Vs (Zb (Ya ?_)))))))))))))))))
       first | refine Yp (i := 1) V V V V V Yq V (Vz _) by3 ⟨?_, V⟩ | refine Yp (i := 0) V V V V V Yq V (Vz _) by3 ⟨?_, V⟩
       rw [hO, nameO, if_neg (by clear hO; omega)]
       simp [oneR, Tok.av, kindT, g120, g124]; done
      refine Zt V (Zc (Za 125 V V V (Zh V Xf V (Zs V V (Zq (cs' := [_, _, _, _]) (i := 0) V Wh V V V V V (Uf V) V (Vs (Zb (Zg (Zc (Za 126 V V V (Zx (cs' := [_, _, _, _]) (i := 0) V Yq V V V V (Za 127 V V V (Zd V V (Zs V V (Zq (cs' := [_, _, _, _]) (i := 1) V Xk V V V V V (Uf V) V (Za 5 V V V (Ze V V (Za 6 V V V (Ze V V (Vs (Zb (Ya ?_))))))))))))))))))))))
      first | refine Yp (i := 1) V V V V V Yq V (Vz _) by3 ⟨?_, V⟩ | refine Yp (i := 0) V V V V V Yq V (Vz _) by3 ⟨?_, V⟩
      rw [hO, nameO, if_neg (by clear hO; omega)]
      simp [oneR, Tok.av, kindT, g124]; done
     refine Zt V (Zc (Za 114 V V V (Zh V Xf V (Zs V V (Zq (cs' := [_, _, _, _]) (i := 0) V Wh V V V V V (Uf V) V (Vs (Zb (Zg (Zg (Zc (Za 115 V V V (Zd V V (Za 116 V V V (Yg (xs := [.tmp 115]) V V (HS _) by1 ?_)))))))))))))); intro c116 h116
     refine Vs (Zb ?_)
     rcases Zi h116 with ⟨rfl, g116⟩ | ⟨rfl, g116⟩
     ·refine Zr V (Zv (Zb (Zg (Zg (Zc (Za 118 V V V (Zh V Xh V (Za 119 V V V (Zp (i := 0) V Xb V V V (Za 120 V V V (Yg (xs := [.tmp 119]) V V (HKy _) by1 ?_))))))))))); intro c120 h120
      refine Vs (Zb ?_)
      rcases Zi h120 with ⟨rfl, g120⟩ | ⟨rfl, g120⟩
      ·refine Zr V (Zv (Zb (Zg (Zg (Zc (Za 122 V V V (Zh V Xh V (Za 123 V V V (Zp (i := 0) V Xb V V V (Za 124 V V V (Yg (xs := [.tmp 123]) V V (HM _) by1 ?_))))))))))); intro c124 h124
       refine Vs (Zb ?_)
       rcases Zi h124 with ⟨rfl, g124⟩ | ⟨rfl, g124⟩
       ·refine Zr V (Zv (Zb (Zg (Zc (Za 126 V V V (Zx (cs' := [_, _, _, _]) (i := 0) V Yq V V V V (Za 127 V V V (Zd V V (Zs V V (Zq (cs' := [_, _, _, _]) (i := 1) V Xk V V V V V (Uf V) V (Za 5 V V V (Ze V V (Za 6 V V V (Ze V V (Vs (Zb (Ya ?_)))))))))))))))))
        first | refine Yp (i := 1) V V V V V Yq V (Vz _) by3 ⟨?_, V⟩ | refine Yp (i := 0) V V V V V Yq V (Vz _) by3 ⟨?_, V⟩
        rw [hO, nameO, if_neg (by clear hO; omega)]
        simp [oneR, Tok.av, kindT, g113, g116, g120, g124]; done
       refine Zt V (Zc (Za 125 V V V (Zh V Xf V (Zs V V (Zq (cs' := [_, _, _, _]) (i := 0) V Wh V V V V V (Uf V) V (Vs (Zb (Zg (Zc (Za 126 V V V (Zx (cs' := [_, _, _, _]) (i := 0) V Yq V V V V (Za 127 V V V (Zd V V (Zs V V (Zq (cs' := [_, _, _, _]) (i := 1) V Xk V V V V V (Uf V) V (Za 5 V V V (Ze V V (Za 6 V V V (Ze V V (Vs (Zb (Ya ?_))))))))))))))))))))))
       first | refine Yp (i := 1) V V V V V Yq V (Vz _) by3 ⟨?_, V⟩ | refine Yp (i := 0) V V V V V Yq V (Vz _) by3 ⟨?_, V⟩
       rw [hO, nameO, if_neg (by clear hO; omega)]
       simp [oneR, Tok.av, kindT, g124]; done
      refine Zt V (Zc (Za 121 V V V (Zh V Xf V (Zs V V (Zq (cs' := [_, _, _, _]) (i := 0) V Wh V V V V V (Uf V) V (Vs (Zb (Zg (Zg (Zc (Za 122 V V V (Zh V Xh V (Za 123 V V V (Zp (i := 0) V Xb V V V (Za 124 V V V (Yg (xs := [.tmp 123]) V V (HM _) by1 ?_)))))))))))))))); intro c124 h124
      refine Vs (Zb ?_)
      rcases Zi h124 with ⟨rfl, g124⟩ | ⟨rfl, g124⟩
      ·refine Zr V (Zv (Zb (Zg (Zc (Za 126 V V V (Zx (cs' := [_, _, _, _]) (i := 0) V Yq V V V V (Za 127 V V V (Zd V V (Zs V V (Zq (cs' := [_, _, _, _]) (i := 1) V Xk V V V V V (Uf V) V (Za 5 V V V (Ze V V (Za 6 V V V (Ze V V (Vs (Zb (Ya ?_)))))))))))))))))
       first | refine Yp (i := 1) V V V V V Yq V (Vz _) by3 ⟨?_, V⟩ | refine Yp (i := 0) V V V V V Yq V (Vz _) by3 ⟨?_, V⟩
       rw [hO, nameO, if_neg (by clear hO; omega)]
       simp [oneR, Tok.av, kindT, g120, g124]; done
      refine Zt V (Zc (Za 125 V V V (Zh V Xf V (Zs V V (Zq (cs' := [_, _, _, _]) (i := 0) V Wh V V V V V (Uf V) V (Vs (Zb (Zg (Zc (Za 126 V V V (Zx (cs' := [_, _, _, _]) (i := 0) V Yq V V V V (Za 127 V V V (Zd V V (Zs V V (Zq (cs' := [_, _, _, _]) (i := 1) V Xk V V V V V (Uf V) V (Za 5 V V V (Ze V V (Za 6 V V V (Ze V V (Vs (Zb (Ya ?_))))))))))))))))))))))
      first | refine Yp (i := 1) V V V V V Yq V (Vz _) by3 ⟨?_, V⟩ | refine Yp (i := 0) V V V V V Yq V (Vz _) by3 ⟨?_, V⟩
      rw [hO, nameO, if_neg (by clear hO; omega)]
      simp [oneR, Tok.av, kindT, g124]; done
     refine Zt V (Zc (Za 117 V V V (Zh V Xf V (Zs V V (Zq (cs' := [_, _, _, _]) (i := 0) V Wh V V V V V (Uf V) V (Vs (Zb (Zg (Zg (Zc (Za 118 V V V (Zh V Xh V (Za 119 V V V (Zp (i := 0) V Xb V V V (Za 120 V V V (Yg (xs := [.tmp 119]) V V (HKy _) by1 ?_)))))))))))))))); intro c120 h120
     refine Vs (Zb ?_)
     rcases Zi h120 with ⟨rfl, g120⟩ | ⟨rfl, g120⟩
     ·refine Zr V (Zv (Zb (Zg (Zg (Zc (Za 122 V V V (Zh V Xh V (Za 123 V V V (Zp (i := 0) V Xb V V V (Za 124 V V V (Yg (xs := [.tmp 123]) V V (HM _) by1 ?_))))))))))); intro c124 h124
      refine Vs (Zb ?_)
      rcases Zi h124 with ⟨rfl, g124⟩ | ⟨rfl, g124⟩
      ·refine Zr V (Zv (Zb (Zg (Zc (Za 126 V V V (Zx (cs' := [_, _, _, _]) (i := 0) V Yq V V V V (Za 127 V V V (Zd V V (Zs V V (Zq (cs' := [_, _, _, _]) (i := 1) V Xk V V V V V (Uf V) V (Za 5 V V V (Ze V V (Za 6 V V V (Ze V V (Vs (Zb (Ya ?_)))))))))))))))))
       first | refine Yp (i := 1) V V V V V Yq V (Vz _) by3 ⟨?_, V⟩ | refine Yp (i := 0) V V V V V Yq V (Vz _) by3 ⟨?_, V⟩
       rw [hO, nameO, if_neg (by clear hO; omega)]
       simp [oneR, Tok.av, kindT, g116, g120, g124]; done
      refine Zt V (Zc (Za 125 V V V (Zh V Xf V (Zs V V (Zq (cs' := [_, _, _, _]) (i := 0) V Wh V V V V V (Uf V) V (Vs (Zb (Zg (Zc (Za 126 V V V (Zx (cs' := [_, _, _, _]) (i := 0) V Yq V V V V (Za 127 V V V (Zd V V (Zs V V (Zq (cs' := [_, _, _, _]) (i := 1) V Xk V V V V V (Uf V) V (Za 5 V V V (Ze V V (Za 6 V V V (Ze V V (Vs (Zb (Ya ?_))))))))))))))))))))))
      first | refine Yp (i := 1) V V V V V Yq V (Vz _) by3 ⟨?_, V⟩ | refine Yp (i := 0) V V V V V Yq V (Vz _) by3 ⟨?_, V⟩
      rw [hO, nameO, if_neg (by clear hO; omega)]
      simp [oneR, Tok.av, kindT, g124]; done
     refine Zt V (Zc (Za 121 V V V (Zh V Xf V (Zs V V (Zq (cs' := [_, _, _, _]) (i := 0) V Wh V V V V V (Uf V) V (Vs (Zb (Zg (Zg (Zc (Za 122 V V V (Zh V Xh V (Za 123 V V V (Zp (i := 0) V Xb V V V (Za 124 V V V (Yg (xs := [.tmp 123]) V V (HM _) by1 ?_)))))))))))))))); intro c124 h124
     refine Vs (Zb ?_)
     rcases Zi h124 with ⟨rfl, g124⟩ | ⟨rfl, g124⟩
     ·refine Zr V (Zv (Zb (Zg (Zc (Za 126 V V V (Zx (cs' := [_, _, _, _]) (i := 0) V Yq V V V V (Za 127 V V V (Zd V V (Zs V V (Zq (cs' := [_, _, _, _]) (i := 1) V Xk V V V V V (Uf V) V (Za 5 V V V (Ze V V (Za 6 V V V (Ze V V (Vs (Zb (Ya ?_)))))))))))))))))
      first | refine Yp (i := 1) V V V V V Yq V (Vz _) by3 ⟨?_, V⟩ | refine Yp (i := 0) V V V V V Yq V (Vz _) by3 ⟨?_, V⟩
      rw [hO, nameO, if_neg (by clear hO; omega)]
      simp [oneR, Tok.av, kindT, g120, g124]; done
     refine Zt V (Zc (Za 125 V V V (Zh V Xf V (Zs V V (Zq (cs' := [_, _, _, _]) (i := 0) V Wh V V V V V (Uf V) V (Vs (Zb (Zg (Zc (Za 126 V V V (Zx (cs' := [_, _, _, _]) (i := 0) V Yq V V V V (Za 127 V V V (Zd V V (Zs V V (Zq (cs' := [_, _, _, _]) (i := 1) V Xk V V V V V (Uf V) V (Za 5 V V V (Ze V V (Za 6 V V V (Ze V V (Vs (Zb (Ya ?_))))))))))))))))))))))
     first | refine Yp (i := 1) V V V V V Yq V (Vz _) by3 ⟨?_, V⟩ | refine Yp (i := 0) V V V V V Yq V (Vz _) by3 ⟨?_, V⟩
     rw [hO, nameO, if_neg (by clear hO; omega)]
     simp [oneR, Tok.av, kindT, g124]; done
    refine Zt V (Zg (Zc (Za 110 V V V (Zx (cs' := [_, _, _, _]) (i := 0) V Yq V V V V (Zs V V (Zq (cs' := [_, _, _, _]) (i := 1) V Xk V V V V V (Uf V) V (Za 5 V V V (Ze V V (Za 6 V V V (Ze V V (Vs (Zb (Ya ?_)))))))))))))
    first | refine Yp (i := 1) V V V V V Yq V (Vz _) by3 ⟨?_, V⟩ | refine Yp (i := 0) V V V V V Yq V (Vz _) by3 ⟨?_, V⟩
    rw [hO, nameO, if_pos (by clear hO; omega)]; rfl
   exact absurd g85 hc
  exact absurd g40 h2
 omega
theorem one_C (s : ByteArray) (hs : s.size ≤ 60000) (at_ : Nat) (ha : at_ < s.size) (b : UInt8) (hb : s[at_]? = some b) (h1 : b.toNat ≠ 34) (h2 : ¬ digitC b.toNat = true) (hc : ¬ (smallC b.toNat = true ∨ greatC b.toNat = true)) (hc2 : ¬ signC b.toNat = true) : PCall Tryz.prog 103 [.val (.string s), .val (.int .i64 at_)] (oneR (oneL at_ (rst s at_))) := by
 obtain ⟨b', hb', hr, _⟩ := Wx ha
 obtain rfl : b' = b := by rw [hb] at hb'; cases hb'; rfl
 have HD := digit_c
 have HSm := small_c
 have HG := great_c
 have HS := sign_c
 have HM := Mark_c
 have HKy := Key_c
 have hO : oneL at_ (rst s at_) = if markT (strN ((rst s at_).take 1)) = false then (tok0 at_, 0, 101) else nameO at_ b'.toNat 1 (strN ((rst s at_).take 1)) := by rw [hr]; exact oneL_C h1 h2 hc hc2
 have hk := rst_cut s at_ (at_ + 1)
 rw [show at_ + 1 - at_ = 1 by omega] at hk
 rw [← hk] at hO
 clear hk
 have hsz : (s.extract at_ (at_ + 1)).size = 1 := by simp [ByteArray.size_extract]; omega
 generalize hw : s.extract at_ (at_ + 1) = w at *
 refine Zw Tryz.func103 V (by kernel_rfl) V (Uf V) ?_
 refine Yf (Zg (Zc (Za 4 V V V (Zy (cs' := [_, _, _, _]) V Wj V V ?_)))); intro b4
 refine Za 5 V V V (Ze V V (Za 6 V V V (Ze V V (Vs (Zb (Zg (Zc (Za 17 V V V (Zd V V (Za 18 V V V (Zd V V (Za 19 V V V (Xg V Ws V V V (hb') (Za 7 V V V (Ze V V (Vs (Zb (Zg (Zc (Za 20 V V V (Zd V V (Za 21 V V V (Yl (ns := [3]) (xs := [.tmp 20]) V Wj V tfl_97 V V V V (Za 8 V V V (Zy (cs' := [_, _, _, _]) V Wj V V ?_))))))))))))))))))))))))); intro b8
 refine Zs V V (Zq (cs' := [_, _, _, _]) (i := 0) V Xk V V V V V (Uf V) V (Vs (Zb (Zg (Zg (Zc (Za 22 V V V (Zd V V (Za 23 V V V (Yr V V V ?_)))))))))); intro c23 h23
 refine Vs (Zb ?_)
 rcases Zi h23 with ⟨rfl, g23⟩ | ⟨rfl, g23⟩
 ·refine Zr V (Zv (Zb (Zg (Zg (Zc (Za 39 V V V (Zd V V (Za 40 V V V (Yg (xs := [.tmp 39]) V V (HD _) by1 ?_))))))))); intro c40 h40
  refine Vs (Zb ?_)
  rcases Zi h40 with ⟨rfl, g40⟩ | ⟨rfl, g40⟩
  ·refine Zr V (Zv (Zb (Zg (Zc (Za 78 V V V (Zd V V (Za 79 V V V (Yx V V V (Uj _ (by omega)) ?_))))))))
   refine Za 16 V V V (Ze V V (Vs (Zb (Zg (Zg (Xl 85 (smallC b'.toNat = true ∨ greatC b'.toNat = true) ?_ _ _ V ?_))))))
   ·skip
    refine Za 80 V V V (Zd V V (Za 81 V V V (Yg (xs := [.tmp 80]) V V (HSm _) by1 ?_))); intro c81 h81
    refine Za 82 V V V (Zd V V ?_)
    rcases Zi h81 with ⟨rfl, g81⟩ | ⟨rfl, g81⟩
    ·skip
     refine Zl 83 V V V V V (Zd V V (Zl 84 V V V V V (Yg (xs := [.tmp 83]) V V (HG _) by1 ?_))); intro c84 h84
     refine Za 85 V V V (Zn V V V (Vs (Ud V ?_ by5 by3)))
     simp_all; done
    skip
    refine Zk 83 V V V V V (Zk 84 V V V V V (Za 85 V V V (Zn V V V (Vs (Ud V ?_ by5 by3)))))
    simp_all; done
   intro c85 h85
   refine Zb ?_
   rcases Zi h85 with ⟨rfl, g85⟩ | ⟨rfl, g85⟩
   ·refine Zr V (Zg (Zc (Za 89 V V V (Zd V V (Za 90 V V V (Yg (xs := [.tmp 89]) V V (HS _) by1 ?_)))))); intro c90 h90
    refine Vs (Zb ?_)
    rcases Zi h90 with ⟨rfl, g90⟩ | ⟨rfl, g90⟩
    ·refine Zr V (Zg (Zc (Za 94 V V V (Zd V V (Za 95 V V V (Zd V V (Za 96 V V V (Zd V V (Za 97 rfl rfl rfl (op_substr rfl Ws rfl rfl rfl (i := at_) (j := at_ + 1) rfl (by omega) (by omega) (by omega) ?_))))))))))
     refine Za 98 V V V (Yg (xs := [.tmp 97]) V V (HM _) by1 ?_); intro c98 h98
     refine Za 99 V V V (Xr V V ?_); intro c99 h99
     try replace h99 := nott h99 h98
     refine Vs (Zb ?_)
     rcases Zi h99 with ⟨rfl, g99⟩ | ⟨rfl, g99⟩
     ·refine Zr V (Zv (Zb (Zg ?_)))
      have hm : ¬ markT w = false := by clear hO HD HSm HG HS HM HKy; simp_all
      refine Zc (Za 101 V V V (Zd V V (Za 102 V V V (Zd V V (Za 103 V V V (Zd V V (Za 104 rfl rfl rfl (op_substr rfl Ws rfl rfl rfl (i := at_) (j := at_ + 1) rfl (by omega) (by omega) (by omega) ?_))))))))
      refine Za 105 V V V (Zh V Xh V (Zs V V (Zq (cs' := [_, _, _, _]) (i := 0) V ts_9 V V V V V (Uf V) V (Vs (Zb (Zg (Zg ?_)))))))
      rw [hw]
      refine Zc (Za 106 V V V (Zh V Xh V (Za 107 V V V (Zp (i := 0) V Xb V V V (Za 108 V V V (Xs V Ws V (Za 109 V V V (Ww V V V ?_)))))))); intro c109 h109
      refine Vs (Zb ?_)
      rcases Zi h109 with ⟨rfl, g109⟩ | ⟨rfl, g109⟩
      ·refine Zr V (Zv (Zb (Zg (Zc (Za 111 V V V (Zh V Xf V (Zs V V (Zq (cs' := [_, _, _, _]) (i := 0) V Wh V V V V V (Uf V) V (Vs (Zb (Zg (Zg (Zc (Za 112 V V V (Zd V V (Za 113 V V V (Yg (xs := [.tmp 112]) V V (HG _) by1 ?_))))))))))))))))); intro c113 h113
       refine Vs (Zb ?_)
       rcases Zi h113 with ⟨rfl, g113⟩ | ⟨rfl, g113⟩
       ·refine Zr V (Zv (Zb (Zg (Zg (Zc (Za 115 V V V (Zd V V (Za 116 V V V (Yg (xs := [.tmp 115]) V V (HS _) by1 ?_))))))))); intro c116 h116
        refine Vs (Zb ?_)
        rcases Zi h116 with ⟨rfl, g116⟩ | ⟨rfl, g116⟩
        ·refine Zr V (Zv (Zb (Zg (Zg (Zc (Za 118 V V V (Zh V Xh V (Za 119 V V V (Zp (i := 0) V Xb V V V (Za 120 V V V (Yg (xs := [.tmp 119]) V V (HKy _) by1 ?_))))))))))); intro c120 h120
         refine Vs (Zb ?_)
         rcases Zi h120 with ⟨rfl, g120⟩ | ⟨rfl, g120⟩
         ·refine Zr V (Zv (Zb (Zg (Zg (Zc (Za 122 V V V (Zh V Xh V (Za 123 V V V (Zp (i := 0) V Xb V V V (Za 124 V V V (Yg (xs := [.tmp 123]) V V (HM _) by1 ?_))))))))))); intro c124 h124
          refine Vs (Zb ?_)
          rcases Zi h124 with ⟨rfl, g124⟩ | ⟨rfl, g124⟩
          ·refine Zr V (Zv (Zb (Zg (Zc (Za 126 V V V (Zx (cs' := [_, _, _, _]) (i := 0) V Yq V V V V (Za 127 V V V (Zd V V (Zs V V (Zq (cs' := [_, _, _, _]) (i := 1) V Xk V V V V V (Uf V) V (Za 5 V V V (Ze V V (Za 6 V V V (Ze V V (Vs (Zb (Ya ?_)))))))))))))))))
           first | refine Yp (i := 1) V V V V V Yq V (Vz _) by3 ⟨?_, V⟩ | refine Yp (i := 0) V V V V V Yq V (Vz _) by3 ⟨?_, V⟩
           rw [hO, if_neg hm, nameO, if_neg (by clear hO; omega)]
           simp [oneR, Tok.av, kindT, g113, g116, g120, g124]; done
          refine Zt V (Zc (Za 125 V V V (Zh V Xf V (Zs V V (Zq (cs' := [_, _, _, _]) (i := 0) V Wh V V V V V (Uf V) V (Vs (Zb (Zg (Zc (Za 126 V V V (Zx (cs' := [_, _, _, _]) (i := 0) V Yq V V V V (Za 127 V V V (Zd V V (Zs V V (Zq (cs' := [_, _, _, _]) (i := 1) V Xk V V V V V (Uf V) V (Za 5 V V V (Ze V V (Za 6 V V V (Ze V V (Vs (Zb (Ya ?_))))))))))))))))))))))
          first | refine Yp (i := 1) V V V V V Yq V (Vz _) by3 ⟨?_, V⟩ | refine Yp (i := 0) V V V V V Yq V (Vz _) by3 ⟨?_, V⟩
          rw [hO, if_neg hm, nameO, if_neg (by clear hO; omega)]
          simp [oneR, Tok.av, kindT, g124]; done
         refine Zt V (Zc (Za 121 V V V (Zh V Xf V (Zs V V (Zq (cs' := [_, _, _, _]) (i := 0) V Wh V V V V V (Uf V) V (Vs (Zb (Zg (Zg (Zc (Za 122 V V V (Zh V Xh V (Za 123 V V V (Zp (i := 0) V Xb V V V (Za 124 V V V (Yg (xs := [.tmp 123]) V V (HM _) by1 ?_)))))))))))))))); intro c124 h124
         refine Vs (Zb ?_)
         rcases Zi h124 with ⟨rfl, g124⟩ | ⟨rfl, g124⟩
         ·refine Zr V (Zv (Zb (Zg (Zc (Za 126 V V V (Zx (cs' := [_, _, _, _]) (i := 0) V Yq V V V V (Za 127 V V V (Zd V V (Zs V V (Zq (cs' := [_, _, _, _]) (i := 1) V Xk V V V V V (Uf V) V (Za 5 V V V (Ze V V (Za 6 V V V (Ze V V (Vs (Zb (Ya ?_)))))))))))))))))
          first | refine Yp (i := 1) V V V V V Yq V (Vz _) by3 ⟨?_, V⟩ | refine Yp (i := 0) V V V V V Yq V (Vz _) by3 ⟨?_, V⟩
          rw [hO, if_neg hm, nameO, if_neg (by clear hO; omega)]
          simp [oneR, Tok.av, kindT, g120, g124]; done
         refine Zt V (Zc (Za 125 V V V (Zh V Xf V (Zs V V (Zq (cs' := [_, _, _, _]) (i := 0) V Wh V V V V V (Uf V) V (Vs (Zb (Zg (Zc (Za 126 V V V (Zx (cs' := [_, _, _, _]) (i := 0) V Yq V V V V (Za 127 V V V (Zd V V (Zs V V (Zq (cs' := [_, _, _, _]) (i := 1) V Xk V V V V V (Uf V) V (Za 5 V V V (Ze V V (Za 6 V V V (Ze V V (Vs (Zb (Ya ?_))))))))))))))))))))))
         first | refine Yp (i := 1) V V V V V Yq V (Vz _) by3 ⟨?_, V⟩ | refine Yp (i := 0) V V V V V Yq V (Vz _) by3 ⟨?_, V⟩
         rw [hO, if_neg hm, nameO, if_neg (by clear hO; omega)]
         simp [oneR, Tok.av, kindT, g124]; done
        refine Zt V (Zc (Za 117 V V V (Zh V Xf V (Zs V V (Zq (cs' := [_, _, _, _]) (i := 0) V Wh V V V V V (Uf V) V (Vs (Zb (Zg (Zg (Zc (Za 118 V V V (Zh V Xh V (Za 119 V V V (Zp (i := 0) V Xb V V V (Za 120 V V V (Yg (xs := [.tmp 119]) V V (HKy _) by1 ?_)))))))))))))))); intro c120 h120
        refine Vs (Zb ?_)
        rcases Zi h120 with ⟨rfl, g120⟩ | ⟨rfl, g120⟩
        ·refine Zr V (Zv (Zb (Zg (Zg (Zc (Za 122 V V V (Zh V Xh V (Za 123 V V V (Zp (i := 0) V Xb V V V (Za 124 V V V (Yg (xs := [.tmp 123]) V V (HM _) by1 ?_))))))))))); intro c124 h124
         refine Vs (Zb ?_)
         rcases Zi h124 with ⟨rfl, g124⟩ | ⟨rfl, g124⟩
         ·refine Zr V (Zv (Zb (Zg (Zc (Za 126 V V V (Zx (cs' := [_, _, _, _]) (i := 0) V Yq V V V V (Za 127 V V V (Zd V V (Zs V V (Zq (cs' := [_, _, _, _]) (i := 1) V Xk V V V V V (Uf V) V (Za 5 V V V (Ze V V (Za 6 V V V (Ze V V (Vs (Zb (Ya ?_)))))))))))))))))
          first | refine Yp (i := 1) V V V V V Yq V (Vz _) by3 ⟨?_, V⟩ | refine Yp (i := 0) V V V V V Yq V (Vz _) by3 ⟨?_, V⟩
          rw [hO, if_neg hm, nameO, if_neg (by clear hO; omega)]
          simp [oneR, Tok.av, kindT, g116, g120, g124]; done
         refine Zt V (Zc (Za 125 V V V (Zh V Xf V (Zs V V (Zq (cs' := [_, _, _, _]) (i := 0) V Wh V V V V V (Uf V) V (Vs (Zb (Zg (Zc (Za 126 V V V (Zx (cs' := [_, _, _, _]) (i := 0) V Yq V V V V (Za 127 V V V (Zd V V (Zs V V (Zq (cs' := [_, _, _, _]) (i := 1) V Xk V V V V V (Uf V) V (Za 5 V V V (Ze V V (Za 6 V V V (Ze V V (Vs (Zb (Ya ?_))))))))))))))))))))))
         first | refine Yp (i := 1) V V V V V Yq V (Vz _) by3 ⟨?_, V⟩ | refine Yp (i := 0) V V V V V Yq V (Vz _) by3 ⟨?_, V⟩
         rw [hO, if_neg hm, nameO, if_neg (by clear hO; omega)]
         simp [oneR, Tok.av, kindT, g124]; done
        refine Zt V (Zc (Za 121 V V V (Zh V Xf V (Zs V V (Zq (cs' := [_, _, _, _]) (i := 0) V Wh V V V V V (Uf V) V (Vs (Zb (Zg (Zg (Zc (Za 122 V V V (Zh V Xh V (Za 123 V V V (Zp (i := 0) V Xb V V V (Za 124 V V V (Yg (xs := [.tmp 123]) V V (HM _) by1 ?_)))))))))))))))); intro c124 h124
        refine Vs (Zb ?_)
        rcases Zi h124 with ⟨rfl, g124⟩ | ⟨rfl, g124⟩
        ·refine Zr V (Zv (Zb (Zg (Zc (Za 126 V V V (Zx (cs' := [_, _, _, _]) (i := 0) V Yq V V V V (Za 127 V V V (Zd V V (Zs V V (Zq (cs' := [_, _, _, _]) (i := 1) V Xk V V V V V (Uf V) V (Za 5 V V V (Ze V V (Za 6 V V V (Ze V V (Vs (Zb (Ya ?_)))))))))))))))))
         first | refine Yp (i := 1) V V V V V Yq V (Vz _) by3 ⟨?_, V⟩ | refine Yp (i := 0) V V V V V Yq V (Vz _) by3 ⟨?_, V⟩
         rw [hO, if_neg hm, nameO, if_neg (by clear hO; omega)]
         simp [oneR, Tok.av, kindT, g120, g124]; done
        refine Zt V (Zc (Za 125 V V V (Zh V Xf V (Zs V V (Zq (cs' := [_, _, _, _]) (i := 0) V Wh V V V V V (Uf V) V (Vs (Zb (Zg (Zc (Za 126 V V V (Zx (cs' := [_, _, _, _]) (i := 0) V Yq V V V V (Za 127 V V V (Zd V V (Zs V V (Zq (cs' := [_, _, _, _]) (i := 1) V Xk V V V V V (Uf V) V (Za 5 V V V (Ze V V (Za 6 V V V (Ze V V (Vs (Zb (Ya ?_))))))))))))))))))))))
        first | refine Yp (i := 1) V V V V V Yq V (Vz _) by3 ⟨?_, V⟩ | refine Yp (i := 0) V V V V V Yq V (Vz _) by3 ⟨?_, V⟩
        rw [hO, if_neg hm, nameO, if_neg (by clear hO; omega)]
        simp [oneR, Tok.av, kindT, g124]; done
       refine Zt V (Zc (Za 114 V V V (Zh V Xf V (Zs V V (Zq (cs' := [_, _, _, _]) (i := 0) V Wh V V V V V (Uf V) V (Vs (Zb (Zg (Zg (Zc (Za 115 V V V (Zd V V (Za 116 V V V (Yg (xs := [.tmp 115]) V V (HS _) by1 ?_)))))))))))))); intro c116 h116
       refine Vs (Zb ?_)
       rcases Zi h116 with ⟨rfl, g116⟩ | ⟨rfl, g116⟩
       ·refine Zr V (Zv (Zb (Zg (Zg (Zc (Za 118 V V V (Zh V Xh V (Za 119 V V V (Zp (i := 0) V Xb V V V (Za 120 V V V (Yg (xs := [.tmp 119]) V V (HKy _) by1 ?_))))))))))); intro c120 h120
        refine Vs (Zb ?_)
        rcases Zi h120 with ⟨rfl, g120⟩ | ⟨rfl, g120⟩
        ·refine Zr V (Zv (Zb (Zg (Zg (Zc (Za 122 V V V (Zh V Xh V (Za 123 V V V (Zp (i := 0) V Xb V V V (Za 124 V V V (Yg (xs := [.tmp 123]) V V (HM _) by1 ?_))))))))))); intro c124 h124
         refine Vs (Zb ?_)
         rcases Zi h124 with ⟨rfl, g124⟩ | ⟨rfl, g124⟩
         ·refine Zr V (Zv (Zb (Zg (Zc (Za 126 V V V (Zx (cs' := [_, _, _, _]) (i := 0) V Yq V V V V (Za 127 V V V (Zd V V (Zs V V (Zq (cs' := [_, _, _, _]) (i := 1) V Xk V V V V V (Uf V) V (Za 5 V V V (Ze V V (Za 6 V V V (Ze V V (Vs (Zb (Ya ?_)))))))))))))))))
          first | refine Yp (i := 1) V V V V V Yq V (Vz _) by3 ⟨?_, V⟩ | refine Yp (i := 0) V V V V V Yq V (Vz _) by3 ⟨?_, V⟩
          rw [hO, if_neg hm, nameO, if_neg (by clear hO; omega)]
          simp [oneR, Tok.av, kindT, g113, g116, g120, g124]; done
         refine Zt V (Zc (Za 125 V V V (Zh V Xf V (Zs V V (Zq (cs' := [_, _, _, _]) (i := 0) V Wh V V V V V (Uf V) V (Vs (Zb (Zg (Zc (Za 126 V V V (Zx (cs' := [_, _, _, _]) (i := 0) V Yq V V V V (Za 127 V V V (Zd V V (Zs V V (Zq (cs' := [_, _, _, _]) (i := 1) V Xk V V V V V (Uf V) V (Za 5 V V V (Ze V V (Za 6 V V V (Ze V V (Vs (Zb (Ya ?_))))))))))))))))))))))
         first | refine Yp (i := 1) V V V V V Yq V (Vz _) by3 ⟨?_, V⟩ | refine Yp (i := 0) V V V V V Yq V (Vz _) by3 ⟨?_, V⟩
         rw [hO, if_neg hm, nameO, if_neg (by clear hO; omega)]
         simp [oneR, Tok.av, kindT, g124]; done
        refine Zt V (Zc (Za 121 V V V (Zh V Xf V (Zs V V (Zq (cs' := [_, _, _, _]) (i := 0) V Wh V V V V V (Uf V) V (Vs (Zb (Zg (Zg (Zc (Za 122 V V V (Zh V Xh V (Za 123 V V V (Zp (i := 0) V Xb V V V (Za 124 V V V (Yg (xs := [.tmp 123]) V V (HM _) by1 ?_)))))))))))))))); intro c124 h124
        refine Vs (Zb ?_)
        rcases Zi h124 with ⟨rfl, g124⟩ | ⟨rfl, g124⟩
        ·refine Zr V (Zv (Zb (Zg (Zc (Za 126 V V V (Zx (cs' := [_, _, _, _]) (i := 0) V Yq V V V V (Za 127 V V V (Zd V V (Zs V V (Zq (cs' := [_, _, _, _]) (i := 1) V Xk V V V V V (Uf V) V (Za 5 V V V (Ze V V (Za 6 V V V (Ze V V (Vs (Zb (Ya ?_)))))))))))))))))
         first | refine Yp (i := 1) V V V V V Yq V (Vz _) by3 ⟨?_, V⟩ | refine Yp (i := 0) V V V V V Yq V (Vz _) by3 ⟨?_, V⟩
         rw [hO, if_neg hm, nameO, if_neg (by clear hO; omega)]
         simp [oneR, Tok.av, kindT, g120, g124]; done
        refine Zt V (Zc (Za 125 V V V (Zh V Xf V (Zs V V (Zq (cs' := [_, _, _, _]) (i := 0) V Wh V V V V V (Uf V) V (Vs (Zb (Zg (Zc (Za 126 V V V (Zx (cs' := [_, _, _, _]) (i := 0) V Yq V V V V (Za 127 V V V (Zd V V (Zs V V (Zq (cs' := [_, _, _, _]) (i := 1) V Xk V V V V V (Uf V) V (Za 5 V V V (Ze V V (Za 6 V V V (Ze V V (Vs (Zb (Ya ?_))))))))))))))))))))))
        first | refine Yp (i := 1) V V V V V Yq V (Vz _) by3 ⟨?_, V⟩ | refine Yp (i := 0) V V V V V Yq V (Vz _) by3 ⟨?_, V⟩
        rw [hO, if_neg hm, nameO, if_neg (by clear hO; omega)]
        simp [oneR, Tok.av, kindT, g124]; done
       refine Zt V (Zc (Za 117 V V V (Zh V Xf V (Zs V V (Zq (cs' := [_, _, _, _]) (i := 0) V Wh V V V V V (Uf V) V (Vs (Zb (Zg (Zg (Zc (Za 118 V V V (Zh V Xh V (Za 119 V V V (Zp (i := 0) V Xb V V V (Za 120 V V V (Yg (xs := [.tmp 119]) V V (HKy _) by1 ?_)))))))))))))))); intro c120 h120
       refine Vs (Zb ?_)
       rcases Zi h120 with ⟨rfl, g120⟩ | ⟨rfl, g120⟩
       ·refine Zr V (Zv (Zb (Zg (Zg (Zc (Za 122 V V V (Zh V Xh V (Za 123 V V V (Zp (i := 0) V Xb V V V (Za 124 V V V (Yg (xs := [.tmp 123]) V V (HM _) by1 ?_))))))))))); intro c124 h124
        refine Vs (Zb ?_)
        rcases Zi h124 with ⟨rfl, g124⟩ | ⟨rfl, g124⟩
        ·refine Zr V (Zv (Zb (Zg (Zc (Za 126 V V V (Zx (cs' := [_, _, _, _]) (i := 0) V Yq V V V V (Za 127 V V V (Zd V V (Zs V V (Zq (cs' := [_, _, _, _]) (i := 1) V Xk V V V V V (Uf V) V (Za 5 V V V (Ze V V (Za 6 V V V (Ze V V (Vs (Zb (Ya ?_)))))))))))))))))
         first | refine Yp (i := 1) V V V V V Yq V (Vz _) by3 ⟨?_, V⟩ | refine Yp (i := 0) V V V V V Yq V (Vz _) by3 ⟨?_, V⟩
         rw [hO, if_neg hm, nameO, if_neg (by clear hO; omega)]
         simp [oneR, Tok.av, kindT, g116, g120, g124]; done
        refine Zt V (Zc (Za 125 V V V (Zh V Xf V (Zs V V (Zq (cs' := [_, _, _, _]) (i := 0) V Wh V V V V V (Uf V) V (Vs (Zb (Zg (Zc (Za 126 V V V (Zx (cs' := [_, _, _, _]) (i := 0) V Yq V V V V (Za 127 V V V (Zd V V (Zs V V (Zq (cs' := [_, _, _, _]) (i := 1) V Xk V V V V V (Uf V) V (Za 5 V V V (Ze V V (Za 6 V V V (Ze V V (Vs (Zb (Ya ?_))))))))))))))))))))))
        first | refine Yp (i := 1) V V V V V Yq V (Vz _) by3 ⟨?_, V⟩ | refine Yp (i := 0) V V V V V Yq V (Vz _) by3 ⟨?_, V⟩
        rw [hO, if_neg hm, nameO, if_neg (by clear hO; omega)]
        simp [oneR, Tok.av, kindT, g124]; done
       refine Zt V (Zc (Za 121 V V V (Zh V Xf V (Zs V V (Zq (cs' := [_, _, _, _]) (i := 0) V Wh V V V V V (Uf V) V (Vs (Zb (Zg (Zg (Zc (Za 122 V V V (Zh V Xh V (Za 123 V V V (Zp (i := 0) V Xb V V V (Za 124 V V V (Yg (xs := [.tmp 123]) V V (HM _) by1 ?_)))))))))))))))); intro c124 h124
       refine Vs (Zb ?_)
       rcases Zi h124 with ⟨rfl, g124⟩ | ⟨rfl, g124⟩
       ·refine Zr V (Zv (Zb (Zg (Zc (Za 126 V V V (Zx (cs' := [_, _, _, _]) (i := 0) V Yq V V V V (Za 127 V V V (Zd V V (Zs V V (Zq (cs' := [_, _, _, _]) (i := 1) V Xk V V V V V (Uf V) V (Za 5 V V V (Ze V V (Za 6 V V V (Ze V V (Vs (Zb (Ya ?_)))))))))))))))))
        first | refine Yp (i := 1) V V V V V Yq V (Vz _) by3 ⟨?_, V⟩ | refine Yp (i := 0) V V V V V Yq V (Vz _) by3 ⟨?_, V⟩
        rw [hO, if_neg hm, nameO, if_neg (by clear hO; omega)]
        simp [oneR, Tok.av, kindT, g120, g124]; done
       refine Zt V (Zc (Za 125 V V V (Zh V Xf V (Zs V V (Zq (cs' := [_, _, _, _]) (i := 0) V Wh V V V V V (Uf V) V (Vs (Zb (Zg (Zc (Za 126 V V V (Zx (cs' := [_, _, _, _]) (i := 0) V Yq V V V V (Za 127 V V V (Zd V V (Zs V V (Zq (cs' := [_, _, _, _]) (i := 1) V Xk V V V V V (Uf V) V (Za 5 V V V (Ze V V (Za 6 V V V (Ze V V (Vs (Zb (Ya ?_))))))))))))))))))))))
       first | refine Yp (i := 1) V V V V V Yq V (Vz _) by3 ⟨?_, V⟩ | refine Yp (i := 0) V V V V V Yq V (Vz _) by3 ⟨?_, V⟩
       rw [hO, if_neg hm, nameO, if_neg (by clear hO; omega)]
       simp [oneR, Tok.av, kindT, g124]; done
      refine Zt V (Zg (Zc (Za 110 V V V (Zx (cs' := [_, _, _, _]) (i := 0) V Yq V V V V (Zs V V (Zq (cs' := [_, _, _, _]) (i := 1) V Xk V V V V V (Uf V) V (Za 5 V V V (Ze V V (Za 6 V V V (Ze V V (Vs (Zb (Ya ?_)))))))))))))
      first | refine Yp (i := 1) V V V V V Yq V (Vz _) by3 ⟨?_, V⟩ | refine Yp (i := 0) V V V V V Yq V (Vz _) by3 ⟨?_, V⟩
      exfalso; clear hO; omega
     refine Zt V (Zg (Zc (Za 100 V V V (Zx (cs' := [_, _, _, _]) (i := 0) V Yq V V V V (Zs V V (Zq (cs' := [_, _, _, _]) (i := 1) V Xk V V V V V (Uf V) V (Za 5 V V V (Ze V V (Za 6 V V V (Ze V V (Vs (Zb (Ya ?_)))))))))))))
     first | refine Yp (i := 1) V V V V V Yq V (Vz _) by3 ⟨?_, V⟩ | refine Yp (i := 0) V V V V V Yq V (Vz _) by3 ⟨?_, V⟩
     have hm : markT w = false := by clear hO; simp_all
     rw [hO, if_pos hm]; rfl
    exact absurd g90 hc2
   exact absurd g85 hc
  exact absurd g40 h2
 omega
def mid (s : ByteArray) (f n : Nat) : List Nat := (rst s f).take (n - f)
theorem mid_cons {s : ByteArray} {f n : Nat} {b : Nat} (hf : f < n) (hr : rst s f = b :: rst s (f + 1)) : mid s f n = b :: mid s (f + 1) n := by
 unfold mid; rw [hr, show n - f = (n - (f + 1)) + 1 by omega, List.take_succ_cons]
theorem mid_len (s : ByteArray) (f n : Nat) (h : n ≤ s.size) : (mid s f n).length = n - f := by unfold mid; rw [List.length_take, rst_len]; omega
theorem mid_drop (s : ByteArray) (f n z : Nat) : (mid s f n).drop z = mid s (f + z) n := by
 unfold mid; rw [List.drop_take, rst_drop, show n - f - z = n - (f + z) by omega]
theorem run_all (k : Nat) : ∀ l : List Nat, ∀ x ∈ l.take (run k l), kindC k x = true
 | [], x, hx => by simp at hx
 | c :: l, x, hx => by
  unfold run at hx
  by_cases q : kindC k c = true
  ·rw [if_pos q, List.take_succ_cons] at hx
   rcases List.mem_cons.1 hx with rfl | hx
   ·exact q
   exact run_all k l x hx
  rw [if_neg q] at hx; simp at hx
theorem zeros_48 {l : List Nat} (h : l ≠ []) : zeros (48 :: l) = zeros l + 1 := by rw [zeros, if_pos ⟨rfl, h⟩]
theorem zeros_no {c : Nat} {l : List Nat} (h : ¬ (c = 48 ∧ l ≠ [])) : zeros (c :: l) = 0 := by rw [zeros, if_neg h]
theorem bytes_ext (s : ByteArray) (f n : Nat) : rst (s.extract f n) 0 = mid s f n := by
 unfold rst
 rw [List.drop_zero, rst_cut s f n, bytesN_strN _ (fun x hx => rst_lt s f x (List.mem_of_mem_take hx))]; rfl
theorem parse_mid (s : ByteArray) (hs : s.size ≤ 60000) (f n : Nat) (hn : n ≤ s.size) (hf : f < n) (hd : ∀ x ∈ mid s f n, 48 ≤ x ∧ x ≤ 57) (hz : ∀ l, mid s f n = 48 :: l → l = []) : PCall Tryz.prog 117 [.val (.string (s.extract f n))] (parR (parL (mid s f n))) := by
 have hsz : (s.extract f n).size = n - f := by simp [ByteArray.size_extract]; omega
 have hb := bytes_ext s f n
 have hmem : ∀ (i : Nat) (b : UInt8), (s.extract f n)[i]? = some b → i < (s.extract f n).size ∧ b.toNat ∈ mid s f n ∧ (i = 0 → ∃ l, mid s f n = b.toNat :: l ∧ l.length + 1 = n - f) := by
  intro i b h
  have hi : i < (s.extract f n).size := by
   rcases Nat.lt_or_ge i (s.extract f n).size with q | q
   ·exact q
   rw [getElem?_neg (s.extract f n) i (Nat.not_lt.2 q)] at h; cases h
  obtain ⟨b', h1, h2, _⟩ := Wx hi
  rw [h] at h1; cases h1
  refine ⟨hi, ?_, ?_⟩
  ·have : b.toNat ∈ rst (s.extract f n) i := by rw [h2]; exact List.mem_cons_self
   rw [← hb]; unfold rst; rw [List.drop_zero]; exact List.mem_of_mem_drop this
  rintro rfl
  rw [hb] at h2
  refine ⟨_, h2, ?_⟩
  have := mid_len s f n hn
  rw [h2] at this
  simpa using this
 have H := rParse_c (s.extract f n) (by omega) (by omega) (fun i b h => hd _ (hmem i b h).2.1) (fun b h h48 => by
  obtain ⟨l, hl, hle⟩ := (hmem 0 b h).2.2 rfl
  rw [h48] at hl
  rw [hz l hl] at hle
  simp at hle; omega)
 rw [hb] at H
 exact H
def digO (a : Int) (k : Nat) (z : List Nat) : Tok × Int × Int := match parL z with
 | none => (tok0 a, 0, 102)
 | some v => (⟨3, strN z, v, a⟩, a + k, 0)
theorem oneL_D {a : Int} {c : Nat} {r : List Nat} (h1 : c ≠ 34) (h2 : digitC c = true) : oneL a (c :: r) = digO a (run 2 (c :: r)) (((c :: r).take (run 2 (c :: r))).drop (zeros ((c :: r).take (run 2 (c :: r))))) := by
 rw [oneL, if_neg h1, if_pos h2]
 dsimp only [digO]
 cases parL (((c :: r).take (run 2 (c :: r))).drop (zeros ((c :: r).take (run 2 (c :: r))))) <;> rfl
theorem zeros_lt : ∀ l : List Nat, l ≠ [] → zeros l < l.length
 | [], h => absurd rfl h
 | c :: l, _ => by
  unfold zeros
  by_cases q : c = 48 ∧ l ≠ []
  ·rw [if_pos q]; have := zeros_lt l q.2; simp; omega
  rw [if_neg q]; simp
theorem zeros_head : ∀ l m : List Nat, l.drop (zeros l) = 48 :: m → m = []
 | [], m, h => by simp at h
 | c :: l, m, h => by
  unfold zeros at h
  by_cases q : c = 48 ∧ l ≠ []
  ·rw [if_pos q] at h; exact zeros_head l m (by simpa using h)
  rw [if_neg q] at h
  simp at h
  obtain ⟨rfl, rfl⟩ := h
  exact Classical.byContradiction fun e => q ⟨V, e⟩
theorem one_digit (s : ByteArray) (hs : s.size ≤ 60000) (at_ : Nat) (ha : at_ < s.size) (b : UInt8) (hb : s[at_]? = some b) (h2 : digitC b.toNat = true) : PCall Tryz.prog 103 [.val (.string s), .val (.int .i64 at_)] (oneR (oneL at_ (rst s at_))) := by
 obtain ⟨b', hb', hr, _⟩ := Wx ha
 obtain rfl : b' = b := by rw [hb] at hb'; cases hb'; rfl
 have h1 : b'.toNat ≠ 34 := by have := (digitC_iff _).1 h2; omega
 have HE := end_c s hs at_ 2 (by omega) (by omega) (by omega)
 have HD := digit_c
 have hle := run_le 2 (rst s at_)
 rw [rst_len] at hle
 have hk1 : 1 ≤ run 2 (rst s at_) := by rw [hr]; exact run_pos h2
 have hall := run_all 2 (rst s at_)
 have hD := oneL_D (a := at_) (r := rst s (at_ + 1)) h1 h2
 rw [← hr] at hD
 obtain ⟨n, hn⟩ : ∃ n, n = at_ + run 2 (rst s at_) := ⟨_, rfl⟩
 have hm : (rst s at_).take (run 2 (rst s at_)) = mid s at_ n := by unfold mid; rw [hn, show at_ + run 2 (rst s at_) - at_ = run 2 (rst s at_) by omega]
 have hns : n ≤ s.size := by omega
 have hml := mid_len s at_ n hns
 have hzl := zeros_lt (mid s at_ n) (fun e => by rw [e] at hml; simp at hml; omega)
 rw [hm] at hall
 rw [hm, mid_drop] at hD
 have hzh := zeros_head (mid s at_ n)
 rw [mid_drop] at hzh
 have hk : ((run 2 (rst s at_) : Nat) : Int) = n - at_ := by omega
 rw [← hn] at HE
 obtain ⟨F, hFF⟩ : ∃ F, at_ + zeros (mid s at_ n) = F := ⟨_, rfl⟩
 rw [hFF] at hzh hD
 have hFn : F < n := by omega
 have HP := parse_mid s hs F n hns hFn (fun x hx => by
  have hx2 : x ∈ mid s at_ n := by
   rw [show mid s F n = (mid s at_ n).drop (zeros (mid s at_ n)) by rw [mid_drop, hFF]] at hx
   exact List.mem_of_mem_drop hx
  have := hall x hx2
  exact (digitC_iff x).1 this) hzh
 have hO : oneL at_ (rst s at_) = match parL (mid s F n) with
     | none => (tok0 at_, 0, 102)
     | some v => (⟨3, s.extract F n, v, at_⟩, n, 0) := by
  rw [hD, digO, show strN (mid s F n) = s.extract F n from (rst_cut s F n).symm]
  cases parL (mid s F n) with
  | none => rfl
  | some v => simp only []; congr 2; omega
 clear hD hall hm hk hle hk1
 cases hp : parL (mid s F n) with
 | none =>
  rw [hp] at HP hO
  simp only [parR] at HP hO
  refine Zw Tryz.func103 V (by kernel_rfl) V (Uf V) ?_
  refine Yf (Zg (Zc (Za 4 V V V (Zy (cs' := [_, _, _, _]) V Wj V V ?_)))); intro b4
  refine Za 5 V V V (Ze V V (Za 6 V V V (Ze V V (Vs (Zb (Zg (Zc (Za 17 V V V (Zd V V (Za 18 V V V (Zd V V (Za 19 V V V (Xg V Ws V V V (hb') (Za 7 V V V (Ze V V (Vs (Zb (Zg (Zc (Za 20 V V V (Zd V V (Za 21 V V V (Yl (ns := [3]) (xs := [.tmp 20]) V Wj V tfl_97 V V V V (Za 8 V V V (Zy (cs' := [_, _, _, _]) V Wj V V ?_))))))))))))))))))))))))); intro b8
  refine Zs V V (Zq (cs' := [_, _, _, _]) (i := 0) V Xk V V V V V (Uf V) V (Vs (Zb (Zg (Zg (Zc (Za 22 V V V (Zd V V (Za 23 V V V (Yr V V V ?_)))))))))); intro c23 h23
  refine Vs (Zb ?_)
  rcases Zi h23 with ⟨rfl, g23⟩ | ⟨rfl, g23⟩
  ·refine Zr V (Zv (Zb (Zg (Zg (Zc (Za 39 V V V (Zd V V (Za 40 V V V (Yg (xs := [.tmp 39]) V V (HD _) by1 ?_))))))))); intro c40 h40
   refine Vs (Zb ?_)
   rcases Zi h40 with ⟨rfl, g40⟩ | ⟨rfl, g40⟩
   ·exact absurd h2 g40
   refine Zt V (Zg (Zc (Za 41 V V V (Zd V V (Za 42 V V V (Zd V V (Za 43 V V V (Ym (xs := [.tmp 41, .tmp 42, .const (.int .i64 2)]) V V (HE) by1 ?_))))))))
   refine Za 12 V V V (Ze V V (Vs (Zb (Zg (Zc (Za 44 V V V (Zd V V (Za 13 V V V (Ze V V (Vs (Zb (Zg (Zz ?_)))))))))))))
   apply Xm [2, 3, 9, 10, 11, 13, 17, 18, 19, 20, 21, 22, 23, 24, 25, 26, 27, 28, 29, 30, 31, 32, 33, 34, 35, 36, 37, 38, 39, 40, 41, 42, 43, 44, 45, 46, 47, 48, 49, 50, 51, 52, 53, 54, 55, 56] (σ := Nat) (fun zz => match zz with | f => [(13, .val (.int .i64 f))]) (fun zz => match zz with | f => at_ ≤ f ∧ f + 1 ≤ n ∧ zeros (mid s at_ n) = f - at_ + zeros (mid s f n)) (fun zz => match zz with | f => n - f) (at_)
   ·repeat' (first | exact Ui | apply Ug rfl | apply Uh rfl)
   ·exact ⟨Nat.le_refl _, by omega, by simp⟩
   ·exact by4
   rintro f hI
   try dsimp only [List.cons_append, List.nil_append] at hI ⊢
   obtain ⟨hf1, hf2, hz⟩ := hI
   refine Zg (Zg ?_)
   obtain ⟨d, hd, hrd, hdl⟩ := Wx (s := s) (i := f) (by omega)
   have hmc := mid_cons (n := n) (by omega) hrd
   refine Xl 54 (f + 1 < n ∧ d.toNat = 48) ?_ _ _ V ?_
   ·skip
    refine Za 45 V V V (Zd V V (Za 46 V V V (Zd V V (Za 47 V V V (op_sub V V V (Uj _ (by omega)) ?_)))))
    refine Za 48 V V V (Yu V V V ?_); intro c48 h48
    refine Za 49 V V V (Zd V V ?_)
    rcases Zi h48 with ⟨rfl, g48⟩ | ⟨rfl, g48⟩
    ·skip
     refine Zk 50 V V V V V (Zk 51 V V V V V (Zk 52 V V V V V (Zk 53 V V V V V (Za 54 V V V (Zn V V V (Vs (Ud V ?_ by5 by3)))))))
     clear HE HD HP hz; first | (simp_all; done) | (simp_all; omega) | grind
    skip
    refine Zl 50 V V V V V (Zd V V (Zl 51 V V V V V (Zd V V (Zl 52 V V V V V (Xg V Ws V V V (hd) (Zl 53 V V V V V (Yr V V V ?_))))))); intro c53 h53
    refine Za 54 V V V (Zn V V V (Vs (Ud V ?_ by5 by3)))
    clear HE HD HP hz; first | (simp_all; done) | (simp_all; omega) | grind
   intro c54 h54
   refine Zb ?_
   rcases Zi h54 with ⟨rfl, g54⟩ | ⟨rfl, g54⟩
   ·refine Zr V (Xc (Xe (Xv (Xd (Zb (Zg ?_))))))
    have hzz : zeros (mid s f n) = 0 := by
     rw [hmc]
     refine zeros_no fun q => g54 ⟨?_, q.1⟩
     rcases Nat.lt_or_ge (f + 1) n with q2 | q2
     ·exact q2
     exact absurd (by have := mid_len s (f + 1) n hns; exact List.eq_nil_of_length_eq_zero (by omega)) q.2
    have hF : F = f := by rw [← hFF, hz, hzz]; omega
    subst hF
    refine Zc (Za 58 V V V (Zd V V (Za 59 V V V (Zd V V (Za 60 V V V (Zd V V (Za 61 rfl rfl rfl (op_substr rfl Ws rfl rfl rfl (i := F) (j := n) rfl rfl (by omega) (by omega) ?_))))))))
    refine Za 62 V V V (Ym (xs := [.tmp 61]) V V (HP) by1 ?_)
    refine Za 57 V V V (Zd V V (Za 63 V V V (Yv V V V (Za 64 V V V (Yv V V V (Za 14 V V V (Ze V V (Za 15 V V V (Ze V V (Vs (Zb (Zg (Zg (Zc (Za 65 V V V (Zd V V (Za 66 V V V (Xq V V V ?_)))))))))))))))))); intro c66 h66
    refine Vs (Zb ?_)
    rcases Zi h66 with ⟨rfl, g66⟩ | ⟨rfl, g66⟩
    ·omega
    refine Zt V (Zg (Zc (Za 67 V V V (Zx (cs' := [_, _, _, _]) (i := 0) V Yq V V V V (Zs V V (Zq (cs' := [_, _, _, _]) (i := 1) V Xk V V V V V (Uf V) V (Za 5 V V V (Ze V V (Za 6 V V V (Ze V V (Vs (Zb (Ya ?_)))))))))))))
    first | refine Yp (i := 1) V V V V V Yq V (Vz _) by3 ⟨?_, V⟩ | refine Yp (i := 0) V V V V V Yq V (Vz _) by3 ⟨?_, V⟩
    rw [hO]; rfl
   refine Zt V (Zv (Zb (Zz (Zc (Za 55 V V V (Zd V V (Za 56 V V V (Yx V V V (Uj _ (by omega)) ?_))))))))
   refine Za 13 V V V (Ze V V (Vs (Yt (Yz ?_))))
   have hne : mid s (f + 1) n ≠ [] := fun e => by
    have := mid_len s (f + 1) n hns
    rw [e] at this; simp at this; omega
   rw [hmc, g54.2, zeros_48 hne] at hz
   exact ⟨f + 1, ⟨by omega, by omega, by omega⟩, by simp; omega, by4, by3⟩
  omega
 | some v =>
  rw [hp] at HP hO
  simp only [parR] at HP hO
  refine Zw Tryz.func103 V (by kernel_rfl) V (Uf V) ?_
  refine Yf (Zg (Zc (Za 4 V V V (Zy (cs' := [_, _, _, _]) V Wj V V ?_)))); intro b4
  refine Za 5 V V V (Ze V V (Za 6 V V V (Ze V V (Vs (Zb (Zg (Zc (Za 17 V V V (Zd V V (Za 18 V V V (Zd V V (Za 19 V V V (Xg V Ws V V V (hb') (Za 7 V V V (Ze V V (Vs (Zb (Zg (Zc (Za 20 V V V (Zd V V (Za 21 V V V (Yl (ns := [3]) (xs := [.tmp 20]) V Wj V tfl_97 V V V V (Za 8 V V V (Zy (cs' := [_, _, _, _]) V Wj V V ?_))))))))))))))))))))))))); intro b8
  refine Zs V V (Zq (cs' := [_, _, _, _]) (i := 0) V Xk V V V V V (Uf V) V (Vs (Zb (Zg (Zg (Zc (Za 22 V V V (Zd V V (Za 23 V V V (Yr V V V ?_)))))))))); intro c23 h23
  refine Vs (Zb ?_)
  rcases Zi h23 with ⟨rfl, g23⟩ | ⟨rfl, g23⟩
  ·refine Zr V (Zv (Zb (Zg (Zg (Zc (Za 39 V V V (Zd V V (Za 40 V V V (Yg (xs := [.tmp 39]) V V (HD _) by1 ?_))))))))); intro c40 h40
   refine Vs (Zb ?_)
   rcases Zi h40 with ⟨rfl, g40⟩ | ⟨rfl, g40⟩
   ·exact absurd h2 g40
   refine Zt V (Zg (Zc (Za 41 V V V (Zd V V (Za 42 V V V (Zd V V (Za 43 V V V (Ym (xs := [.tmp 41, .tmp 42, .const (.int .i64 2)]) V V (HE) by1 ?_))))))))
   refine Za 12 V V V (Ze V V (Vs (Zb (Zg (Zc (Za 44 V V V (Zd V V (Za 13 V V V (Ze V V (Vs (Zb (Zg (Zz ?_)))))))))))))
   apply Xm [2, 3, 9, 10, 11, 13, 17, 18, 19, 20, 21, 22, 23, 24, 25, 26, 27, 28, 29, 30, 31, 32, 33, 34, 35, 36, 37, 38, 39, 40, 41, 42, 43, 44, 45, 46, 47, 48, 49, 50, 51, 52, 53, 54, 55, 56] (σ := Nat) (fun zz => match zz with | f => [(13, .val (.int .i64 f))]) (fun zz => match zz with | f => at_ ≤ f ∧ f + 1 ≤ n ∧ zeros (mid s at_ n) = f - at_ + zeros (mid s f n)) (fun zz => match zz with | f => n - f) (at_)
   ·repeat' (first | exact Ui | apply Ug rfl | apply Uh rfl)
   ·exact ⟨Nat.le_refl _, by omega, by simp⟩
   ·exact by4
   rintro f hI
   try dsimp only [List.cons_append, List.nil_append] at hI ⊢
   obtain ⟨hf1, hf2, hz⟩ := hI
   refine Zg (Zg ?_)
   obtain ⟨d, hd, hrd, hdl⟩ := Wx (s := s) (i := f) (by omega)
   have hmc := mid_cons (n := n) (by omega) hrd
   refine Xl 54 (f + 1 < n ∧ d.toNat = 48) ?_ _ _ V ?_
   ·skip
    refine Za 45 V V V (Zd V V (Za 46 V V V (Zd V V (Za 47 V V V (op_sub V V V (Uj _ (by omega)) ?_)))))
    refine Za 48 V V V (Yu V V V ?_); intro c48 h48
    refine Za 49 V V V (Zd V V ?_)
    rcases Zi h48 with ⟨rfl, g48⟩ | ⟨rfl, g48⟩
    ·skip
     refine Zk 50 V V V V V (Zk 51 V V V V V (Zk 52 V V V V V (Zk 53 V V V V V (Za 54 V V V (Zn V V V (Vs (Ud V ?_ by5 by3)))))))
     clear HE HD HP hz; first | (simp_all; done) | (simp_all; omega) | grind
    skip
    refine Zl 50 V V V V V (Zd V V (Zl 51 V V V V V (Zd V V (Zl 52 V V V V V (Xg V Ws V V V (hd) (Zl 53 V V V V V (Yr V V V ?_))))))); intro c53 h53
    refine Za 54 V V V (Zn V V V (Vs (Ud V ?_ by5 by3)))
    clear HE HD HP hz; first | (simp_all; done) | (simp_all; omega) | grind
   intro c54 h54
   refine Zb ?_
   rcases Zi h54 with ⟨rfl, g54⟩ | ⟨rfl, g54⟩
   ·refine Zr V (Xc (Xe (Xv (Xd (Zb (Zg ?_))))))
    have hzz : zeros (mid s f n) = 0 := by
     rw [hmc]
     refine zeros_no fun q => g54 ⟨?_, q.1⟩
     rcases Nat.lt_or_ge (f + 1) n with q2 | q2
     ·exact q2
     exact absurd (by have := mid_len s (f + 1) n hns; exact List.eq_nil_of_length_eq_zero (by omega)) q.2
    have hF : F = f := by rw [← hFF, hz, hzz]; omega
    subst hF
    refine Zc (Za 58 V V V (Zd V V (Za 59 V V V (Zd V V (Za 60 V V V (Zd V V (Za 61 rfl rfl rfl (op_substr rfl Ws rfl rfl rfl (i := F) (j := n) rfl rfl (by omega) (by omega) ?_))))))))
    refine Za 62 V V V (Ym (xs := [.tmp 61]) V V (HP) by1 ?_)
    refine Za 57 V V V (Zd V V (Za 63 V V V (Yv V V V (Za 64 V V V (Yv V V V (Za 14 V V V (Ze V V (Za 15 V V V (Ze V V (Vs (Zb (Zg (Zg (Zc (Za 65 V V V (Zd V V (Za 66 V V V (Xq V V V ?_)))))))))))))))))); intro c66 h66
    refine Vs (Zb ?_)
    rcases Zi h66 with ⟨rfl, g66⟩ | ⟨rfl, g66⟩
    ·refine Zr V (Zv (Zb (Zg (Zc (Za 68 V V V (Zh V Xf V (Zs V V (Zq (cs' := [_, _, _, _]) (i := 0) V Wh V V V V V (Uf V) V (Vs (Zb (Zg (Zc (Za 69 V V V (Zd V V (Za 70 V V V (Zh V tf_97_2 V (Zs V V (Zq (cs' := [_, _, _, _]) (i := 0) V ts_2 V V V V V (Uf V) V (Vs (Zb (Zg (Zc (Za 71 V V V (Zd V V (Za 72 V V V (Zd V V (Za 73 V V V (Zd V V (Za 74 rfl rfl rfl (op_substr rfl Ws rfl rfl rfl (i := F) (j := n) rfl rfl (by omega) (by omega) ?_))))))))))))))))))))))))))))))
     refine Za 75 V V V (Zh V Xh V (Zs V V (Zq (cs' := [_, _, _, _]) (i := 0) V ts_9 V V V V V (Uf V) V (Vs (Zb (Zg (Zc (Za 76 V V V (Zx (cs' := [_, _, _, _]) (i := 0) V Yq V V V V (Za 77 V V V (Zd V V (Zs V V (Zq (cs' := [_, _, _, _]) (i := 1) V Xk V V V V V (Uf V) V (Za 5 V V V (Ze V V (Za 6 V V V (Ze V V (Vs (Zb (Ya ?_))))))))))))))))))))
     first | refine Yp (i := 1) V V V V V Yq V (Vz _) by3 ⟨?_, V⟩ | refine Yp (i := 0) V V V V V Yq V (Vz _) by3 ⟨?_, V⟩
     rw [hO]; rfl
    omega
   refine Zt V (Zv (Zb (Zz (Zc (Za 55 V V V (Zd V V (Za 56 V V V (Yx V V V (Uj _ (by omega)) ?_))))))))
   refine Za 13 V V V (Ze V V (Vs (Yt (Yz ?_))))
   have hne : mid s (f + 1) n ≠ [] := fun e => by
    have := mid_len s (f + 1) n hns
    rw [e] at this; simp at this; omega
   rw [hmc, g54.2, zeros_48 hne] at hz
   exact ⟨f + 1, ⟨by omega, by omega, by omega⟩, by simp; omega, by4, by3⟩
  omega
theorem one_c (s : ByteArray) (hs : s.size ≤ 60000) (at_ : Nat) (ha : at_ < s.size) : PCall Tryz.prog 103 [.val (.string s), .val (.int .i64 at_)] (oneR (oneL at_ (rst s at_))) := by
 obtain ⟨b, hb, hr, _⟩ := Wx ha
 by_cases q1 : b.toNat = 34
 ·rw [hr]; exact one_text s hs at_ ha b hb q1
 by_cases q2 : digitC b.toNat = true
 ·exact one_digit s hs at_ ha b hb q2
 by_cases q3 : smallC b.toNat = true ∨ greatC b.toNat = true
 ·exact one_A s hs at_ ha b hb q1 q2 q3
 by_cases q4 : signC b.toNat = true
 ·exact one_B s hs at_ ha b hb q1 q2 q3 q4
 exact one_C s hs at_ ha b hb q1 q2 q3 q4
theorem txL_le : ∀ (l : List Nat) (r : List Nat × Nat), txL l = some r → 1 ≤ r.2 ∧ r.2 ≤ l.length
 | [], r, h => by simp [txL] at h
 | [c], r, h => by
  rw [txL.eq_def] at h
  simp only [] at h
  split at h
  ·cases h; simp
  split at h
  ·cases h
  split at h
  ·cases h
  simp [txL] at h
 | c :: d :: l, r, h => by
  by_cases h1 : c = 34
  ·subst h1; rw [tx_end] at h; cases h; simp
  by_cases h2 : c = 10
  ·subst h2; rw [tx_10] at h; cases h
  by_cases h3 : c = 92
  ·subst h3
   rw [tx_esc] at h
   cases hu : unesc d with
   | none => rw [hu] at h; cases h
   | some x =>
    rw [hu] at h
    simp only [] at h
    cases ht : txL l with
    | none => rw [ht] at h; cases h
    | some y =>
     rw [ht] at h; cases h
     have := txL_le l y ht
     simp; omega
  rw [tx_more _ h1 h2 h3] at h
  cases ht : txL (d :: l) with
  | none => rw [ht] at h; cases h
  | some y =>
   rw [ht] at h; cases h
   have := txL_le (d :: l) y ht
   simp at this ⊢; omega
theorem oneL_le (a : Int) (c : Nat) (r : List Nat) (h : (oneL a (c :: r)).2.2 = 0) : a + 1 ≤ (oneL a (c :: r)).2.1 ∧ (oneL a (c :: r)).2.1 ≤ a + (c :: r).length := by
 by_cases h1 : c = 34
 ·rw [oneL, if_pos h1] at h ⊢
  cases ht : txL r with
  | none => rw [ht] at h; simp at h
  | some y =>
   have := txL_le r y ht
   simp; omega
 have hl1 := run_le 1 (c :: r)
 have hl2 := run_le 2 (c :: r)
 have hl3 := run_le 3 (c :: r)
 by_cases h2 : digitC c = true
 ·have := run_pos (k := 2) (c := c) (l := r) h2
  rw [oneL_D h1 h2, digO] at h ⊢
  revert h
  cases parL (((c :: r).take (run 2 (c :: r))).drop (zeros ((c :: r).take (run 2 (c :: r))))) with
  | none => intro h; simp at h
  | some v => intro _; simp only []; omega
 have nm : ∀ k w, 1 ≤ k → k ≤ (c :: r).length → (nameO a c k w).2.2 = 0 → a + 1 ≤ (nameO a c k w).2.1 ∧ (nameO a c k w).2.1 ≤ a + (c :: r).length := by
  intro k w k1 k2 h
  unfold nameO at h ⊢
  by_cases q : 40 < k
  ·rw [if_pos q] at h; simp at h
  rw [if_neg q]; simp only []; omega
 by_cases h3 : smallC c = true ∨ greatC c = true
 ·have hp := run_pos (k := 1) (c := c) (l := r) (by rw [kindC, if_pos rfl, nameC_iff]; rcases h3 with q | q; exact .inl q; exact .inr (.inl q))
  rw [oneL_A h1 h2 h3] at h ⊢
  exact nm _ _ hp hl1 h
 by_cases h4 : signC c = true
 ·have hp := run_pos (k := 3) (c := c) (l := r) (by rw [kindC, if_neg (by decide), if_neg (by decide)]; exact h4)
  rw [oneL_B h1 h2 h3 h4] at h ⊢
  exact nm _ _ hp hl3 h
 rw [oneL_C h1 h2 h3 h4] at h ⊢
 by_cases q : markT (strN ((c :: r).take 1)) = false
 ·rw [if_pos q] at h; simp at h
 rw [if_neg q] at h ⊢
 exact nm _ _ (Nat.le_refl _) (by simp) h
def scanR (o : List Tok × Int × Int) : AV := .tup [.seq 4 (o.1.map Tok.av), .val (.int .i64 o.2.1), .val (.int .i64 o.2.2)]
theorem lexF_nil (f : Nat) (i : Int) (acc : List Tok) : lexF f i [] acc = (acc ++ [tok0 i], 0, 0) := by cases f <;> rfl
theorem lexF_bad {f : Nat} {i : Int} {c : Nat} {l : List Nat} {acc : List Tok} (h : (oneL i (c :: l)).2.2 ≠ 0) : lexF (f + 1) i (c :: l) acc = ([], (oneL i (c :: l)).2.2, i) := by
 rw [lexF]; simp only [if_pos h]
theorem lexF_go {f : Nat} {i : Int} {c : Nat} {l : List Nat} {acc : List Tok} (h : (oneL i (c :: l)).2.2 = 0) : lexF (f + 1) i (c :: l) acc = lexF f ((oneL i (c :: l)).2.1 + ovr false ((c :: l).drop ((oneL i (c :: l)).2.1 - i).toNat)) (((c :: l).drop ((oneL i (c :: l)).2.1 - i).toNat).drop (ovr false ((c :: l).drop ((oneL i (c :: l)).2.1 - i).toNat))) (acc ++ [(oneL i (c :: l)).1]) := by
 rw [lexF]; simp only [if_neg (fun q : (oneL i (c :: l)).2.2 ≠ 0 => q h)]
theorem Scan_long (s : ByteArray) (hs : 60000 < s.size) : PCall Tryz.prog 78 [.val (.string s)] (scanR (scanT s)) := by
 have hO : scanT s = ([], 3, 0) := by rw [scanT, if_pos hs]
 refine Zw Tryz.func78 V (by kernel_rfl) V (Uf V) ?_
 refine Yf (Zg (Zc (Za 2 V V V (Ze V V (Za 3 V V V (Ze V V (Za 4 V V V (Ze V V (Vs (Zb (Zg (Zg (Zc (Za 11 V V V (Zd V V (Za 12 V V V (Xs V Ws V (Za 13 V V V (Ww V V V ?_))))))))))))))))))); intro c13 h13
 refine Vs (Zb ?_)
 rcases Zi h13 with ⟨rfl, g13⟩ | ⟨rfl, g13⟩
 ·omega
 refine Zt V (Zg (Zc (Za 2 V V V (Ze V V (Za 3 V V V (Ze V V (Za 4 V V V (Ze V V (Vs (Zb (Ya ?_)))))))))))
 exact out_ttt (v' := scanR ([], 3, 0)) V V V V (Le.tup (Ub (Le.nil _) (Ua _))) by3 ⟨by rw [hO], V⟩
theorem Scan_short (s : ByteArray) (hs : s.size ≤ 60000) : PCall Tryz.prog 78 [.val (.string s)] (scanR (scanT s)) := by
 have HB := bad_c s hs
 have HO := over_c s hs 0 (Nat.zero_le _)
 have hol := ovr_le false (rst s 0)
 rw [rst_len] at hol
 have hO : scanT s = if 0 ≤ badF (s.size + 1) 0 (rst s 0) then ([], 100, badF (s.size + 1) 0 (rst s 0)) else lexF (s.size + 1) (ovr false (rst s 0)) (rst s (ovr false (rst s 0))) [] := by
  rw [scanT, if_neg (by omega), rst_drop, Nat.zero_add]
 rw [Nat.zero_add] at HO
 generalize badF (s.size + 1) 0 (rst s 0) = bd at *
 generalize hov : ovr false (rst s 0) = o0 at *
 refine Zw Tryz.func78 V (by kernel_rfl) V (Uf V) ?_
 refine Yf (Zg (Zc (Za 2 V V V (Ze V V (Za 3 V V V (Ze V V (Za 4 V V V (Ze V V (Vs (Zb (Zg (Zg (Zc (Za 11 V V V (Zd V V (Za 12 V V V (Xs V Ws V (Za 13 V V V (Ww V V V ?_))))))))))))))))))); intro c13 h13
 refine Vs (Zb ?_)
 rcases Zi h13 with ⟨rfl, g13⟩ | ⟨rfl, g13⟩
 ·refine Zr V (Zv (Zb (Zg (Zc (Za 14 V V V (Zd V V (Za 15 V V V (Ym (xs := [.tmp 14]) V V (HB) by1 ?_))))))))
  refine Za 5 V V V (Ze V V (Vs (Zb (Zg (Zg (Zc (Za 16 V V V (Zd V V (Za 17 V V V (Wa V V V ?_)))))))))); intro c17 h17
  refine Vs (Zb ?_)
  rcases Zi h17 with ⟨rfl, g17⟩ | ⟨rfl, g17⟩
  ·refine Zr V (Zv (Zb (Zg (Zc (Za 6 V V V (Ze V V (Vs (Zb (Zg ?_)))))))))
   rw [if_neg (by omega)] at hO
   refine ACode.ownNil (t := 6) 97 4 V (Zc (Za 19 V V V (Zd V V (Za 20 V V V (Ym (xs := [.tmp 19, .const (.int .i64 0)]) V V (HO) by1 ?_)))))
   refine Za 7 V V V (Ze V V (Vs (Zb (Zg (Zz ?_)))))
   apply Wg [1, 2, 3, 4, 5, 6, 7, 8, 9, 10, 11, 12, 13, 14, 15, 16, 17, 18, 19, 20, 21, 22, 23, 24, 25, 26, 27, 28, 29, 30, 31, 32, 33, 34, 35, 36, 37, 38, 39, 40, 41, 42] (σ := Nat × Nat × List Tok × Value) (fun zz => match zz with | (i, f, acc, u) => [(6, .own u 4 (acc.map Tok.av)), (7, .val (.int .i64 i))]) (fun zz => match zz with | (i, f, acc, u) => [.own 97 4 u]) (fun zz => match zz with | (i, f, acc, u) => i ≤ s.size ∧ s.size - i < f ∧ acc.length ≤ i ∧ scanT s = lexF f i (rst s i) acc) (fun zz => match zz with | (i, f, acc, u) => s.size - i) ((o0, s.size + 1, [], .slice none 0 0))
   ·repeat' (first | exact Ui | apply Ug rfl | apply Uh rfl)
   ·exact ⟨by omega, by omega, Nat.zero_le _, hO⟩
   ·exact (by repeat' (first | exact SLe.nil _ | refine Uc V ?_ ?_ | exact Vz _ | exact Le.own _ _ _ | exact Le.nil _ | (refine Ue ?_; rfl) | (refine Le.own_seq ?_; rfl) | (refine Le.seq_eq ?_; rfl)))
   ·exact by3
   rintro ⟨i, f, acc, u⟩ hI
   try dsimp only [List.cons_append, List.nil_append] at hI ⊢
   obtain ⟨h1, h2, h3, hu⟩ := hI
   have hle : (acc.map Tok.av).length ≤ 100000 := by rw [List.length_map]; omega
   refine Zg (Zg (Zc (Za 21 V V V (Zd V V (Za 22 V V V (Zd V V (Za 23 V V V (Xs V Ws V (Za 24 V V V (Yu V V V ?_)))))))))); intro c24 h24
   refine Vs (Zb ?_)
   rcases Zi h24 with ⟨rfl, g24⟩ | ⟨rfl, g24⟩
   ·refine Zr V (Xc (Xe (Xv (Xd (Zb (Zg (Zc (Za 43 V V V (Zd V V (Za 44 V V V (Zd V V (Za 45 V V V (Xs V Ws V (Za 46 V V V (Yl (ns := [3]) (xs := [.tmp 45]) V Wj V tfl_97 V V V V (Za 47 V V V (Ye (xs := [.tmp 46]) el_93 V V V V V V (Uf V) (Za 48 V V V (Xj (i := 0) el_93 V V V V (.seq _ _) by6 ?_)))))))))))))))))))
    intro u48
    refine Za 2 V V V (Ze V V (Za 3 V V V (Ze V V (Za 4 V V V (Ze V V (Vs (Zb (Ya ?_))))))))
    have hi : s.size = i := by omega
    refine out_ttt (v' := scanR (acc ++ [tok0 i], 0, 0)) V V V V (Le.tup (Ub (Le.own_seq ?_) (Ua _))) by3 ⟨?_, V⟩
    ·simp [Tok.av, tok0, AV.cells, hi]; rfl
    rw [hu, rst_nil (by omega), lexF_nil]
   refine Zt V (Zv (Zb (Zz (Zg ?_))))
   obtain ⟨b, _, hr, _⟩ := Wx (s := s) (i := i) (by omega)
   have H1 := one_c s hs i (by omega)
   obtain ⟨f, rfl⟩ : ∃ f', f = f' + 1 := ⟨f - 1, by omega⟩
   have hb0 := lexF_bad (f := f) (i := i) (c := b.toNat) (l := rst s (i + 1)) (acc := acc)
   have hg0 := lexF_go (f := f) (i := i) (c := b.toNat) (l := rst s (i + 1)) (acc := acc)
   have hl0 := oneL_le i b.toNat (rst s (i + 1))
   rw [← hr] at hb0 hg0 hl0
   rw [rst_len] at hl0
   obtain ⟨⟨⟨tk, tt, tn, ta⟩, nx, e⟩, ho⟩ : ∃ o, oneL i (rst s i) = o := ⟨_, rfl⟩
   rw [ho] at H1 hb0 hg0 hl0
   simp only [oneR, Tok.av] at H1 hb0 hg0 hl0
   refine Zc (Za 26 V V V (Zd V V (Za 27 V V V (Zd V V (Za 28 V V V (Ym (xs := [.tmp 26, .tmp 27]) V V (H1) by1 ?_))))))
   refine Za 25 V V V (Zd V V (Za 29 V V V (Yv V V V (Za 30 V V V (Yv V V V (Za 31 V V V (Yv V V V (Za 8 V V V (Zy (cs' := [_, _, _, _]) V Wj V V ?_))))))))); intro b8
   refine Zs V V (Zq (cs' := [_, _, _, _]) (i := 0) V Xk V V V V V (Uf V) V (Za 9 V V V (Ze V V (Za 10 V V V (Ze V V (Vs (Zb (Zg (Zg (Zc (Za 32 V V V (Zd V V (Za 33 V V V (Xq V V V ?_)))))))))))))); intro c33 h33
   refine Vs (Zb ?_)
   rcases Zi h33 with ⟨rfl, g33⟩ | ⟨rfl, g33⟩
   ·refine Zr V (Zv (Zb (Zg ?_)))
    have he : e = 0 := Classical.not_not.1 g33
    have hl1 := hl0 he
    have hg1 := hg0 he
    obtain ⟨m, rfl⟩ : ∃ m : Nat, nx = m := ⟨nx.toNat, by omega⟩
    have hol2 := ovr_le false (rst s m)
    rw [rst_len] at hol2
    rw [rst_drop, show i + ((m : Int) - i).toNat = m by omega, rst_drop] at hg1
    refine Zc (Za 36 V V V (Zd V V (Za 37 V V V (Zx (cs' := [_, _, _, _]) (i := 0) V Yq V V V V (Za 38 V V V (Ye (xs := [.tmp 37]) el_93 V V V V V V (Uf V) (Za 39 V V V (Xj (i := 1) el_93 V V V V (.seq _ _) by6 ?_))))))))
    intro u39
    refine Za 6 V V V (Ze V V (Vs (Zb (Zc (Za 40 V V V (Zd V V (Za 41 V V V (Zd V V (Za 42 V V V (Ym (xs := [.tmp 40, .tmp 41]) V V (over_c s hs m (by omega)) by1 ?_))))))))))
    refine Za 7 V V V (Ze V V (Vs (Yt (Yz ?_))))
    refine ⟨(m + ovr false (rst s m), f, acc ++ [⟨tk, tt, tn, ta⟩], u39), ⟨(by show m + ovr false (rst s m) ≤ s.size; omega), (by show s.size - (m + ovr false (rst s m)) < f; omega), (by simp; omega), (by rw [hu, hg1]; rfl)⟩, (by show s.size - (m + ovr false (rst s m)) < s.size - i; omega), Uc V (Ue (by simp [Tok.av, AV.cells])) by4, by3⟩
   refine Zt V (Zg (Zc (Za 34 V V V (Zd V V (Za 35 V V V (Zd V V (Za 2 V V V (Ze V V (Za 3 V V V (Ze V V (Za 4 V V V (Ze V V (Vs (Zb (Ya ?_)))))))))))))))
   exact out_ttt (v' := scanR ([], e, i)) V V V V (Le.tup (Ub (Le.nil _) (Ua _))) by3 ⟨by rw [hu, hb0 g33], V⟩
  refine Zt V (Zg (Zc (Za 18 V V V (Zd V V (Za 2 V V V (Ze V V (Za 3 V V V (Ze V V (Za 4 V V V (Ze V V (Vs (Zb (Ya ?_)))))))))))))
  exact out_ttt (v' := scanR ([], 100, bd)) V V V V (Le.tup (Ub (Le.nil _) (Ua _))) by3 ⟨by rw [hO, if_pos (by omega)], V⟩
 omega
theorem Scan_c (s : ByteArray) : PCall Tryz.prog 78 [.val (.string s)] (scanR (scanT s)) := by
 by_cases q : 60000 < s.size
 ·exact Scan_long s q
 exact Scan_short s (by omega)
end Go.Proofs.YtknodnfbaofngaaGreat
namespace Go.Proofs.YtknodnfbaofngaaGreat
def POk (L : List Tok) (n : Nat) (p : PS) : Prop := p.at_ ≤ L.length ∧ 0 ≤ p.lv ∧ p.lv ≤ 301 ∧ (p.e = 0 → 301 ≤ p.lv + n ∧ p.lv ≤ 300)
def Adv (L : List Tok) (p p' : PS) : Prop := p.at_ ≤ p'.at_ ∧ p'.at_ ≤ L.length ∧ p.lv ≤ p'.lv ∧ p'.lv ≤ 301 ∧ (p'.e = 0 → p.e = 0 ∧ p'.lv = p.lv)
section
variable {L : List Tok} {n : Nat} {p p' p'' : PS}
theorem Adv.trans (h : Adv L p p') (k : Adv L p' p'') : Adv L p p'' := by
 unfold Adv at *; exact ⟨by omega, k.2.1, by omega, k.2.2.2.1, fun e => ⟨(h.2.2.2.2 (k.2.2.2.2 e).1).1, by rw [(k.2.2.2.2 e).2, (h.2.2.2.2 (k.2.2.2.2 e).1).2]⟩⟩
theorem Adv.ok (h : Adv L p p') (k : POk L n p) : POk L n p' := by
 unfold Adv POk at *
 refine ⟨h.2.1, by omega, h.2.2.2.1, fun e => ?_⟩
 obtain ⟨e1, e2⟩ := h.2.2.2.2 e
 rw [e2]; exact k.2.2.2 e1
theorem POk.refl (k : POk L n p) : Adv L p p := by
 unfold POk at k; exact ⟨Nat.le_refl _, k.1, Int.le_refl _, k.2.2.1, fun e => ⟨e, rfl⟩⟩
theorem POk.up {m : Nat} (k : POk L n p) (h : 301 ≤ m) : POk L m p := by
 unfold POk at *; exact ⟨k.1, k.2.1, k.2.2.1, fun e => ⟨by omega, (k.2.2.2 e).2⟩⟩
theorem is_k {s : ByteArray} (h : isP L p s = true) : 6 ≤ (nxt L p).k ∧ (nxt L p).t = s := by unfold isP at h; simpa using h
theorem is_lt {s : ByteArray} (h : isP L p s = true) : p.e = 0 ∧ p.at_ < L.length := Vr (by have := (is_k h).1; omega)
theorem Vh (k : POk L n p) (h : p.at_ < L.length) : Adv L p (stepP p) := by
 unfold POk at k; exact ⟨Nat.le_succ _, h, Int.le_refl _, k.2.2.1, fun e => ⟨e, rfl⟩⟩
theorem Xo {s : ByteArray} (k : POk L n p) (h : isP L p s = true) : Adv L p (stepP p) := Vh k (is_lt h).2
theorem fail_ne {e wh : Int} (h : e ≠ 0) : (failP p e wh).e ≠ 0 := by
 unfold failP; split
 ·exact h
 assumption
theorem fail_adv {e wh : Int} (k : POk L n p) (h : e ≠ 0) : Adv L p (failP p e wh) := by
 have h1 : (failP p e wh).at_ = p.at_ := by unfold failP; split <;> rfl
 have h2 : (failP p e wh).lv = p.lv := by unfold failP; split <;> rfl
 have h3 := fail_ne (p := p) (wh := wh) h
 unfold POk at k
 exact ⟨by omega, by omega, by omega, by omega, fun e => absurd e h3⟩
theorem Yo {kind : Int} {s : ByteArray} (hk : kind ≠ 0) (k : POk L n p) : Adv L p (takeP L p kind s).2 := by
 unfold takeP
 by_cases q : p.e ≠ 0
 ·rw [if_pos q]; exact k.refl
 rw [if_neg q]
 by_cases q2 : (kind < 6 ∧ (nxt L p).k ≠ kind) ∨ (6 ≤ kind ∧ ((nxt L p).k < 6 ∨ (nxt L p).t ≠ s))
 ·rw [if_pos q2]; exact fail_adv k (by decide)
 rw [if_neg q2]; exact Vh k (Vr (by omega)).2
theorem take_is {kind : Int} {s : ByteArray} (h : isP L p s = true) (hk : 6 ≤ kind) : takeP L p kind s = (nxt L p, stepP p) := by
 obtain ⟨h1, h2⟩ := is_k h
 unfold takeP
 rw [if_neg (by rw [(is_lt h).1]; simp), if_neg]
 rintro (q | q)
 ·omega
 rcases q.2 with q | q
 ·omega
 exact q h2
theorem take_k {kind : Int} {s : ByteArray} (h : (nxt L p).k = kind) (h0 : kind ≠ 0) (hk : kind < 6) : takeP L p kind s = (nxt L p, stepP p) := by
 unfold takeP
 rw [if_neg (by rw [(Vr (L := L) (p := p) (by omega)).1]; simp), if_neg]
 rintro (q | q)
 ·exact q.2 h
 omega
theorem deeper_ok (k : POk L (n + 1) p) (he : p.e = 0) : POk L n (deeperP L p) := by
 unfold POk at *
 obtain ⟨k1, k2, k3, k4⟩ := k
 have k4 := k4 he
 unfold deeperP
 by_cases q : 300 < p.lv + 1
 ·rw [if_pos q]
  have h3 := fail_ne (p := { p with lv := p.lv + 1 }) (e := 111) (wh := (nxt L { p with lv := p.lv + 1 }).a) (by decide)
  have h1 : ∀ e wh, (failP { p with lv := p.lv + 1 } e wh).at_ = p.at_ := fun e wh => by unfold failP; split <;> rfl
  have h2 : ∀ e wh, (failP { p with lv := p.lv + 1 } e wh).lv = p.lv + 1 := fun e wh => by unfold failP; split <;> rfl
  exact ⟨by rw [h1]; exact k1, by rw [h2]; omega, by rw [h2]; omega, fun e => absurd e h3⟩
 rw [if_neg q]
 exact ⟨k1, by show 0 ≤ p.lv + 1; omega, by show p.lv + 1 ≤ 301; omega, fun _ => ⟨by show 301 ≤ p.lv + 1 + n; omega, by show p.lv + 1 ≤ 300; omega⟩⟩
theorem deeper_at : (deeperP L p).at_ = p.at_ ∧ (deeperP L p).lv = p.lv + 1 := by
 unfold deeperP
 split
 ·exact ⟨by unfold failP; split <;> rfl, by unfold failP; split <;> rfl⟩
 exact ⟨V, V⟩
theorem dec_adv {r : PS} (he : p.e = 0) (h : Adv L (deeperP L p) r) : Adv L p (decP r) := by
 obtain ⟨d1, d2⟩ := deeper_at (L := L) (p := p)
 unfold Adv at *
 obtain ⟨h1, h2, h3, h4, h5⟩ := h
 refine ⟨by show p.at_ ≤ r.at_; omega, h2, by show p.lv ≤ r.lv - 1; omega, by show r.lv - 1 ≤ 301; omega, fun e => ⟨he, ?_⟩⟩
 have := h5 e
 show r.lv - 1 = p.lv
 omega
theorem name_adv (k : POk L n p) : Adv L p (nameP L p).2 := by
 unfold nameP
 by_cases h : isP L p kLP = true
 ·rw [if_pos h]
  have a1 := Xo k h
  have a2 := Yo (kind := 5) (s := kE) (by decide) (a1.ok k)
  exact (a1.trans a2).trans (Yo (kind := 7) (by decide) ((a1.trans a2).ok k))
 rw [if_neg h]; exact Yo (by decide) k
theorem uppersL_adv : ∀ (f : Nat) (p : PS) (acc : List ByteArray), POk L n p → Adv L p (uppersL L f p acc).2
 | 0, p, acc, k => k.refl
 | f + 1, p, acc, k => by
  unfold uppersL
  by_cases h : isP L p kComma = true
  ·rw [if_pos h]
   have a1 := Xo k h
   have a2 := a1.trans (Yo (kind := 2) (s := kE) (by decide) (a1.ok k))
   exact a2.trans (uppersL_adv f _ _ (a2.ok k))
  rw [if_neg h]; exact k.refl
theorem uppers_adv (k : POk L n p) : Adv L p (uppersP L p).2 := by
 have a1 := Yo (L := L) (kind := 2) (s := kE) (by decide) k
 exact a1.trans (uppersL_adv _ _ _ (a1.ok k))
section types
variable {T : PS → Ty × PS} (HT : ∀ p, POk L n p → Adv L p (T p).2)
include HT
theorem atype_adv (k : POk L n p) : Adv L p (atypeG L T p).2 := by
 unfold atypeG
 by_cases h : (nxt L p).k = 2
 ·rw [if_pos h]; exact Vh k (Vr (by omega)).2
 by_cases h1 : (nxt L p).k = 1
 ·rw [if_neg h, if_pos h1]; exact Vh k (Vr (by omega)).2
 rw [if_neg h, if_neg h1]
 have a1 := Yo (L := L) (kind := 7) (s := kLP) (by decide) k
 by_cases h2 : isP L (takeP L p 7 kLP).2 kRP = true
 ·rw [if_pos h2]; exact a1.trans (Xo (a1.ok k) h2)
 rw [if_neg h2]
 have a2 := a1.trans (HT _ (a1.ok k))
 exact a2.trans (Yo (by decide) (a2.ok k))
theorem atype_lt (k : POk L n p) (hs : startsP L 0 p) : p.at_ + 1 ≤ (atypeG L T p).2.at_ := by
 unfold atypeG
 by_cases h : (nxt L p).k = 2
 ·rw [if_pos h]; exact Nat.le_refl _
 by_cases h1 : (nxt L p).k = 1
 ·rw [if_neg h, if_pos h1]; exact Nat.le_refl _
 rw [if_neg h, if_neg h1]
 have hl : isP L p kLP = true := by
  unfold startsP at hs
  rcases hs with q | q | q | q | q | q
  ·exact absurd q h1
  ·exact absurd q h
  ·exact q
  ·omega
  ·omega
  omega
 have e1 := take_is (kind := 7) hl (by decide)
 rw [e1]
 have a1 := Xo k hl
 by_cases h2 : isP L (stepP p) kRP = true
 ·rw [if_pos h2]; have := Xo (a1.ok k) h2; exact Nat.le_succ _
 rw [if_neg h2]
 have a2 := HT _ (a1.ok k)
 have a3 := a2.trans (Yo (kind := 7) (s := kRP) (by decide) (a2.ok (a1.ok k)))
 exact a3.1
theorem typesL_adv : ∀ (f : Nat) (p : PS) (acc : List Ty), POk L n p → Adv L p (typesL L T f p acc).2
 | 0, p, acc, k => k.refl
 | f + 1, p, acc, k => by
  unfold typesL
  by_cases h : startsP L 0 p
  ·rw [if_pos h]
   have a1 := atype_adv HT k
   exact a1.trans (typesL_adv f _ _ (a1.ok k))
  rw [if_neg h]; exact k.refl
theorem typeH_adv (k : POk L n p) : Adv L p (typeH L T p).2 := by
 unfold typeH
 by_cases h : (nxt L p).k = 2
 ·rw [if_pos h]
  have a1 := Vh k (Vr (L := L) (p := p) (by omega)).2
  exact a1.trans (typesL_adv HT _ _ _ (a1.ok k))
 rw [if_neg h]; exact atype_adv HT k
end types
theorem typeF_adv : ∀ (n : Nat) (p : PS), POk L n p → Adv L p (typeF L n p).2
 | 0, p, k => k.refl
 | n + 1, p, k => by
  unfold typeF
  by_cases he : p.e ≠ 0
  ·rw [if_pos he]; exact k.refl
  rw [if_neg he]
  have he : p.e = 0 := Classical.not_not.1 he
  have kq := deeper_ok k he
  have HT := typeF_adv n
  have a1 := typeH_adv HT kq
  unfold typeR
  by_cases h : isP L (typeH L (typeF L n) (deeperP L p)).2 kArrow = true
  ·rw [if_pos h]
   have a2 := a1.trans (Xo (a1.ok kq) h)
   exact dec_adv he (a2.trans (HT _ (a2.ok kq)))
  rw [if_neg h]; exact dec_adv he a1
theorem typeP_adv (k : POk L n p) : Adv L p (typeP L p).2 := typeF_adv 302 p (k.up (by decide))
section pats
variable {T : PS → Pa × PS} (HT : ∀ p, POk L n p → Adv L p (T p).2)
include HT
theorem apat_adv (k : POk L n p) : Adv L p (apatG L T p).2 := by
 unfold apatG
 by_cases h : (nxt L p).k = 2
 ·rw [if_pos h]; exact Vh k (Vr (by omega)).2
 by_cases h1 : (nxt L p).k = 1
 ·rw [if_neg h, if_pos h1]; exact Vh k (Vr (by omega)).2
 by_cases h3 : (nxt L p).k = 3
 ·rw [if_neg h, if_neg h1, if_pos h3]; exact Vh k (Vr (by omega)).2
 by_cases h4 : isP L p kUn = true
 ·rw [if_neg h, if_neg h1, if_neg h3, if_pos h4]; exact Xo k h4
 rw [if_neg h, if_neg h1, if_neg h3, if_neg h4]
 have a1 := Yo (L := L) (kind := 7) (s := kLP) (by decide) k
 by_cases h2 : isP L (takeP L p 7 kLP).2 kRP = true
 ·rw [if_pos h2]; exact a1.trans (Xo (a1.ok k) h2)
 rw [if_neg h2]
 have a2 := a1.trans (HT _ (a1.ok k))
 exact a2.trans (Yo (by decide) (a2.ok k))
theorem apat_lt (k : POk L n p) (hs : startsP L 1 p) : p.at_ + 1 ≤ (apatG L T p).2.at_ := by
 unfold apatG
 by_cases h : (nxt L p).k = 2
 ·rw [if_pos h]; exact Nat.le_refl _
 by_cases h1 : (nxt L p).k = 1
 ·rw [if_neg h, if_pos h1]; exact Nat.le_refl _
 by_cases h3 : (nxt L p).k = 3
 ·rw [if_neg h, if_neg h1, if_pos h3]; exact Nat.le_refl _
 by_cases h4 : isP L p kUn = true
 ·rw [if_neg h, if_neg h1, if_neg h3, if_pos h4]; exact Nat.le_refl _
 rw [if_neg h, if_neg h1, if_neg h3, if_neg h4]
 have hl : isP L p kLP = true := by
  unfold startsP at hs
  rcases hs with q | q | q | q | q | q
  ·exact absurd q h1
  ·exact absurd q h
  ·exact q
  ·exact absurd q.2 h3
  ·exact absurd q.2 h4
  omega
 have e1 := take_is (kind := 7) hl (by decide)
 rw [e1]
 have a1 := Xo k hl
 by_cases h2 : isP L (stepP p) kRP = true
 ·rw [if_pos h2]; exact Nat.le_succ _
 rw [if_neg h2]
 have a2 := HT _ (a1.ok k)
 have a3 := a2.trans (Yo (kind := 7) (s := kRP) (by decide) (a2.ok (a1.ok k)))
 exact a3.1
theorem patsL_adv : ∀ (f : Nat) (p : PS) (acc : List Pa), POk L n p → Adv L p (patsL L T f p acc).2
 | 0, p, acc, k => k.refl
 | f + 1, p, acc, k => by
  unfold patsL
  by_cases h : startsP L 1 p
  ·rw [if_pos h]
   have a1 := apat_adv HT k
   exact a1.trans (patsL_adv f _ _ (a1.ok k))
  rw [if_neg h]; exact k.refl
end pats
theorem patF_adv : ∀ (n : Nat) (p : PS), POk L n p → Adv L p (patF L n p).2
 | 0, p, k => k.refl
 | n + 1, p, k => by
  unfold patF
  by_cases he : p.e ≠ 0
  ·rw [if_pos he]; exact k.refl
  rw [if_neg he]
  have he : p.e = 0 := Classical.not_not.1 he
  have kq := deeper_ok k he
  have HT := patF_adv n
  by_cases h : (nxt L (deeperP L p)).k = 2
  ·rw [if_pos h]
   have a1 := Vh kq (Vr (L := L) (p := deeperP L p) (by omega)).2
   exact dec_adv he (a1.trans (patsL_adv HT _ _ _ (a1.ok kq)))
  rw [if_neg h]; exact dec_adv he (apat_adv HT kq)
theorem patP_adv (k : POk L n p) : Adv L p (patP L p).2 := patF_adv 302 p (k.up (by decide))
end
section
variable {L : List Tok} {n : Nat} {p p' p'' : PS}
section exps
variable {E : PS → Ex × PS} (HE : ∀ p, POk L n p → Adv L p (E p).2)
include HE
theorem bindG_adv (k : POk L n p) : Adv L p (bindG L E p).2 := by
 unfold bindG
 have a1 := name_adv k
 have a2 := a1.trans (Yo (kind := 7) (s := kEq) (by decide) (a1.ok k))
 exact a2.trans (HE _ (a2.ok k))
theorem bindsL_adv : ∀ (f : Nat) (p : PS) (acc : List Bi), POk L n p → Adv L p (bindsL L E f p acc).2
 | 0, p, acc, k => k.refl
 | f + 1, p, acc, k => by
  unfold bindsL
  by_cases h : isP L p kAnd = true
  ·rw [if_pos h]
   have a1 := Xo k h
   have a2 := a1.trans (bindG_adv HE (a1.ok k))
   exact a2.trans (bindsL_adv f _ _ (a2.ok k))
  rw [if_neg h]; exact k.refl
theorem lambda_adv : ∀ (f : Nat) (p : PS) (a : Int), POk L n p → Adv L p (lambdaG L E f p a).2
 | 0, p, a, k => k.refl
 | f + 1, p, a, k => by
  unfold lambdaG
  have a1 := Yo (L := L) (kind := 1) (s := kE) (by decide) k
  by_cases h : (nxt L (takeP L p 1 kE).2).k = 1
  ·rw [if_pos h]; exact a1.trans (lambda_adv f _ _ (a1.ok k))
  rw [if_neg h]
  have a2 := a1.trans (Yo (kind := 7) (s := kArrow) (by decide) (a1.ok k))
  exact a2.trans (HE _ (a2.ok k))
theorem altG_adv (k : POk L n p) : Adv L p (altG L E p).2 := by
 unfold altG
 have a1 := patP_adv k
 have a2 := a1.trans (Yo (kind := 7) (s := kArrow) (by decide) (a1.ok k))
 exact a2.trans (HE _ (a2.ok k))
theorem altsL_adv : ∀ (f : Nat) (p : PS) (acc : List Al), POk L n p → Adv L p (altsL L E f p acc).2
 | 0, p, acc, k => k.refl
 | f + 1, p, acc, k => by
  unfold altsL
  by_cases he : p.e ≠ 0
  ·rw [if_pos he]; exact k.refl
  rw [if_neg he]
  have a1 := altG_adv HE k
  by_cases h : isP L (altG L E p).2 kBar = true
  ·rw [if_pos h]
   have a2 := a1.trans (Xo (a1.ok k) h)
   exact a2.trans (altsL_adv f _ _ (a2.ok k))
  rw [if_neg h]; exact a1
theorem caseG_adv (a : Int) (k : POk L n p) : Adv L p (caseG L E a p).2 := by
 have a1 := HE _ k
 have a2 := a1.trans (Yo (kind := 6) (s := kOf) (by decide) (a1.ok k))
 have a3 := a2.trans (altsL_adv HE (L.length + 1) _ [] (a2.ok k))
 exact a3.trans (Yo (kind := 6) (s := kEnd) (by decide) (a3.ok k))
omit HE in
theorem annG_adv {a : Int} {x : Ex × PS} (k : POk L n p) (h : Adv L p x.2) : Adv L p (annG L a x).2 := by
 unfold annG
 by_cases h1 : isP L x.2 kColon = true
 ·rw [if_pos h1]
  have a1 := h.trans (Xo (h.ok k) h1)
  have a2 := a1.trans (typeP_adv (a1.ok k))
  exact a2.trans (Yo (by decide) (a2.ok k))
 rw [if_neg h1]; exact h.trans (Yo (by decide) (h.ok k))
theorem atom_adv (k : POk L n p) : Adv L p (atomG L E p).2 := by
 unfold atomG
 by_cases h1 : (nxt L p).k = 1
 ·rw [if_pos h1]; exact Vh k (Vr (by omega)).2
 by_cases h2 : (nxt L p).k = 2
 ·rw [if_neg h1, if_pos h2]; exact Vh k (Vr (by omega)).2
 by_cases h3 : (nxt L p).k = 3
 ·rw [if_neg h1, if_neg h2, if_pos h3]; exact Vh k (Vr (by omega)).2
 by_cases h4 : (nxt L p).k = 4
 ·rw [if_neg h1, if_neg h2, if_neg h3, if_pos h4]; exact Vh k (Vr (by omega)).2
 by_cases h5 : isP L p kCase = true
 ·rw [if_neg h1, if_neg h2, if_neg h3, if_neg h4, if_pos h5]
  have a1 := Xo k h5
  exact a1.trans (caseG_adv HE _ (a1.ok k))
 rw [if_neg h1, if_neg h2, if_neg h3, if_neg h4, if_neg h5]
 have a1 := Yo (L := L) (kind := 7) (s := kLP) (by decide) k
 by_cases h6 : isP L (takeP L p 7 kLP).2 kRP = true
 ·rw [if_pos h6]; exact a1.trans (Xo (a1.ok k) h6)
 by_cases h7 : (nxt L (takeP L p 7 kLP).2).k = 5
 ·rw [if_neg h6, if_pos h7]
  have a2 := a1.trans (Yo (kind := 5) (s := kE) (by decide) (a1.ok k))
  exact a2.trans (Yo (by decide) (a2.ok k))
 rw [if_neg h6, if_neg h7]
 exact annG_adv k (a1.trans (HE _ (a1.ok k)))
theorem atom_lt (k : POk L n p) (hs : startsP L 2 p) : p.at_ + 1 ≤ (atomG L E p).2.at_ := by
 unfold atomG
 by_cases h1 : (nxt L p).k = 1
 ·rw [if_pos h1]; exact Nat.le_refl _
 by_cases h2 : (nxt L p).k = 2
 ·rw [if_neg h1, if_pos h2]; exact Nat.le_refl _
 by_cases h3 : (nxt L p).k = 3
 ·rw [if_neg h1, if_neg h2, if_pos h3]; exact Nat.le_refl _
 by_cases h4 : (nxt L p).k = 4
 ·rw [if_neg h1, if_neg h2, if_neg h3, if_pos h4]; exact Nat.le_refl _
 by_cases h5 : isP L p kCase = true
 ·rw [if_neg h1, if_neg h2, if_neg h3, if_neg h4, if_pos h5]
  have a1 := Xo k h5
  exact (caseG_adv HE _ (a1.ok k)).1
 rw [if_neg h1, if_neg h2, if_neg h3, if_neg h4, if_neg h5]
 have hl : isP L p kLP = true := by
  unfold startsP at hs
  rcases hs with q | q | q | q | q | q
  ·exact absurd q h1
  ·exact absurd q h2
  ·exact q
  ·exact absurd q.2 h3
  ·omega
  rcases q.2 with q | q
  ·exact absurd q h4
  exact absurd q h5
 have e1 := take_is (kind := 7) hl (by decide)
 rw [e1]
 have a1 := Xo k hl
 have k1 := a1.ok k
 by_cases h6 : isP L (stepP p) kRP = true
 ·rw [if_pos h6]; exact Nat.le_succ _
 by_cases h7 : (nxt L (stepP p)).k = 5
 ·rw [if_neg h6, if_pos h7]
  have a2 := Yo (L := L) (kind := 5) (s := kE) (by decide) k1
  have a3 := a2.trans (Yo (kind := 7) (s := kRP) (by decide) (a2.ok k1))
  exact a3.1
 rw [if_neg h6, if_neg h7]
 exact (annG_adv (a := (nxt L p).a) k1 (HE _ k1)).1
theorem appsL_adv (a : Int) : ∀ (f : Nat) (p : PS) (x : Ex), POk L n p → Adv L p (appsL L E a f p x).2
 | 0, p, x, k => k.refl
 | f + 1, p, x, k => by
  unfold appsL
  by_cases h : startsP L 2 p
  ·rw [if_pos h]
   have a1 := atom_adv HE k
   exact a1.trans (appsL_adv a f _ _ (a1.ok k))
  rw [if_neg h]; exact k.refl
theorem letG_adv (a m : Int) (k : POk L n p) : Adv L p (letG L E a m p).2 := by
 have a1 := bindG_adv HE k
 have a2 := a1.trans (bindsL_adv HE (L.length + 1) _ [(bindG L E p).1] (a1.ok k))
 have a3 := a2.trans (Yo (kind := 6) (s := kIn) (by decide) (a2.ok k))
 exact a3.trans (HE _ (a3.ok k))
theorem ifG_adv (a : Int) (k : POk L n p) : Adv L p (ifG L E a p).2 := by
 have a1 := HE _ k
 have a2 := a1.trans (Yo (kind := 6) (s := kThen) (by decide) (a1.ok k))
 have a3 := a2.trans (HE _ (a2.ok k))
 have a4 := a3.trans (Yo (kind := 6) (s := kElse) (by decide) (a3.ok k))
 exact a4.trans (HE _ (a4.ok k))
theorem operand_adv (k : POk L n p) : Adv L p (operandG L E p).2 := by
 unfold operandG
 by_cases h1 : isP L p kBack = true
 ·rw [if_pos h1]
  have a1 := Xo k h1
  exact a1.trans (lambda_adv HE _ _ _ (a1.ok k))
 by_cases h2 : isP L p kLet = true
 ·rw [if_neg h1, if_pos h2]
  have a1 := Xo k h2
  by_cases h3 : isP L (stepP p) kRec = true
  ·rw [if_pos h3]
   have a2 := a1.trans (Xo (a1.ok k) h3)
   exact a2.trans (letG_adv HE _ _ (a2.ok k))
  rw [if_neg h3]; exact a1.trans (letG_adv HE _ _ (a1.ok k))
 by_cases h3 : isP L p kIf = true
 ·rw [if_neg h1, if_neg h2, if_pos h3]
  have a1 := Xo k h3
  exact a1.trans (ifG_adv HE _ (a1.ok k))
 rw [if_neg h1, if_neg h2, if_neg h3]
 have a1 := atom_adv HE k
 exact a1.trans (appsL_adv HE _ _ _ _ (a1.ok k))
theorem opsL_adv : ∀ (f : Nat) (p : PS) (l : List Ex) (o : List Tok), POk L n p → Adv L p (opsL L E f p l o).2
 | 0, p, l, o, k => k.refl
 | f + 1, p, l, o, k => by
  unfold opsL
  by_cases h : (nxt L p).k = 5
  ·rw [if_pos h]
   have a1 := Yo (L := L) (kind := 5) (s := kE) (by decide) k
   have a2 := a1.trans (operand_adv HE (a1.ok k))
   exact a2.trans (opsL_adv f _ _ _ (a2.ok k))
  rw [if_neg h]; exact k.refl
end exps
theorem join_adv {y : (List Ex × List Tok) × PS} (k : POk L (n + 1) p) (he : p.e = 0) (h : Adv L (deeperP L p) y.2) : Adv L p (joinE y).2 := by
 have kq := deeper_ok k he
 obtain ⟨d1, d2⟩ := deeper_at (L := L) (p := p)
 unfold joinE
 by_cases h1 : y.2.e ≠ 0
 ·rw [if_pos h1]
  unfold Adv at *
  exact ⟨by dsimp only; omega, h.2.1, by dsimp only; omega, h.2.2.2.1, fun e => absurd e h1⟩
 rw [if_neg h1]
 by_cases h2 : 0 ≤ clashP y.1.2
 ·rw [if_pos h2]
  have a := h.trans (fail_adv (e := 112) (wh := ((y.1.2[(clashP y.1.2).toNat]?).getD (tok0 0)).a) (h.ok kq) (by decide))
  have hn := fail_ne (p := y.2) (e := 112) (wh := ((y.1.2[(clashP y.1.2).toNat]?).getD (tok0 0)).a) (by decide)
  unfold Adv at *
  exact ⟨by dsimp only; omega, a.2.1, by dsimp only; omega, a.2.2.2.1, fun e => absurd e hn⟩
 rw [if_neg h2]; exact dec_adv he h
theorem expF_adv : ∀ (n : Nat) (p : PS), POk L n p → Adv L p (expF L n p).2
 | 0, p, k => k.refl
 | n + 1, p, k => by
  unfold expF
  by_cases he : p.e ≠ 0
  ·rw [if_pos he]; exact k.refl
  rw [if_neg he]
  have he : p.e = 0 := Classical.not_not.1 he
  have kq := deeper_ok k he
  have HE := expF_adv n
  have a1 := operand_adv HE kq
  exact join_adv k he (a1.trans (opsL_adv HE _ _ _ _ (a1.ok kq)))
theorem expP_adv (k : POk L n p) : Adv L p (expP L p).2 := expF_adv 302 p (k.up (by decide))
theorem expP_adv' : ∀ p, POk L 302 p → Adv L p (expP L p).2 := fun _ k => expP_adv k
theorem typeP_adv' : ∀ p, POk L 302 p → Adv L p (typeP L p).2 := fun _ k => typeP_adv k
theorem bindP_adv (k : POk L 302 p) : Adv L p (bindP L p).2 := bindG_adv expP_adv' k
theorem paramsL_adv : ∀ (f : Nat) (p : PS) (acc : List ByteArray), POk L n p → Adv L p (paramsL L f p acc).2
 | 0, p, acc, k => k.refl
 | f + 1, p, acc, k => by
  unfold paramsL
  by_cases h : (nxt L p).k = 1
  ·rw [if_pos h]
   have a1 := Yo (L := L) (kind := 1) (s := kE) (by decide) k
   exact a1.trans (paramsL_adv f _ _ (a1.ok k))
  rw [if_neg h]; exact k.refl
theorem con_adv (k : POk L 302 p) : Adv L p (conP L p).2 := by
 have a1 := Yo (L := L) (kind := 2) (s := kE) (by decide) k
 exact a1.trans (typesL_adv typeP_adv' (L.length + 1) _ [] (a1.ok k))
theorem consL_adv : ∀ (f : Nat) (p : PS) (acc : List Cn), POk L 302 p → Adv L p (consL L f p acc).2
 | 0, p, acc, k => k.refl
 | f + 1, p, acc, k => by
  unfold consL
  by_cases he : p.e ≠ 0
  ·rw [if_pos he]; exact k.refl
  rw [if_neg he]
  have a1 := con_adv k
  by_cases h : isP L (conP L p).2 kBar = true
  ·rw [if_pos h]
   have a2 := a1.trans (Xo (a1.ok k) h)
   exact a2.trans (consL_adv f _ _ (a2.ok k))
  rw [if_neg h]; exact a1
theorem deriv_adv (k : POk L n p) : Adv L p (derivP L p).2 := by
 unfold derivP
 by_cases h : isP L p kDeriv = true
 ·rw [if_pos h]
  have a1 := Xo k h
  have a2 := a1.trans (Yo (kind := 7) (s := kLP) (by decide) (a1.ok k))
  have a3 := a2.trans (uppers_adv (a2.ok k))
  exact a3.trans (Yo (by decide) (a3.ok k))
 rw [if_neg h]; exact k.refl
theorem data_adv (k : POk L 302 p) : Adv L p (dataP L p).2 := by
 have a1 := Yo (L := L) (kind := 2) (s := kE) (by decide) k
 have a2 := a1.trans (paramsL_adv (L.length + 1) _ [] (a1.ok k))
 have a3 := a2.trans (Yo (kind := 7) (s := kEq) (by decide) (a2.ok k))
 have a4 := a3.trans (consL_adv (L.length + 1) _ [] (a3.ok k))
 exact a4.trans (deriv_adv (a4.ok k))
theorem clsL_adv : ∀ (f : Nat) (p : PS) (ms : List Me) (ds : List Bi), POk L 302 p → Adv L p (clsL L f p ms ds).2
 | 0, p, ms, ds, k => k.refl
 | f + 1, p, ms, ds, k => by
  unfold clsL
  by_cases he : p.e ≠ 0
  ·rw [if_pos he]; exact k.refl
  rw [if_neg he]
  by_cases h : isP L p kEnd = true
  ·rw [if_pos h]; exact Xo k h
  rw [if_neg h]
  by_cases h2 : isP L p kDef = true
  ·rw [if_pos h2]
   have a1 := Xo k h2
   have a2 := a1.trans (bindP_adv (a1.ok k))
   have a3 := a2.trans (Yo (kind := 7) (s := kSemi) (by decide) (a2.ok k))
   exact a3.trans (clsL_adv f _ _ _ (a3.ok k))
  rw [if_neg h2]
  have a1 := name_adv k
  have a2 := a1.trans (Yo (kind := 7) (s := kColon) (by decide) (a1.ok k))
  have a3 := a2.trans (typeP_adv (a2.ok k))
  have a4 := a3.trans (Yo (kind := 7) (s := kSemi) (by decide) (a3.ok k))
  exact a4.trans (clsL_adv f _ _ _ (a4.ok k))
theorem supers_adv (k : POk L n p) : Adv L p (supersP L p).2 := by
 unfold supersP
 by_cases h : isP L p kFrom = true
 ·rw [if_pos h]
  have a1 := Xo k h
  exact a1.trans (uppers_adv (a1.ok k))
 rw [if_neg h]; exact k.refl
theorem class_adv (k : POk L 302 p) : Adv L p (classP L p).2 := by
 have a1 := Yo (L := L) (kind := 2) (s := kE) (by decide) k
 have a2 := a1.trans (Yo (kind := 1) (s := kE) (by decide) (a1.ok k))
 have a3 := a2.trans (supers_adv (a2.ok k))
 have a4 := a3.trans (Yo (kind := 6) (s := kWhere) (by decide) (a3.ok k))
 exact a4.trans (clsL_adv (L.length + 1) _ [] [] (a4.ok k))
theorem pred_adv (k : POk L n p) : Adv L p (predP L p).2 := by
 have a1 := Yo (L := L) (kind := 2) (s := kE) (by decide) k
 exact a1.trans (Yo (kind := 1) (s := kE) (by decide) (a1.ok k))
theorem ctxL_adv : ∀ (f : Nat) (p : PS) (acc : List Pr), POk L n p → Adv L p (ctxL L f p acc).2
 | 0, p, acc, k => k.refl
 | f + 1, p, acc, k => by
  unfold ctxL
  by_cases he : p.e ≠ 0
  ·rw [if_pos he]; exact k.refl
  rw [if_neg he]
  have a1 := pred_adv k
  by_cases h : isP L (predP L p).2 kComma = true
  ·rw [if_pos h]
   have a2 := a1.trans (Xo (a1.ok k) h)
   exact a2.trans (ctxL_adv f _ _ (a2.ok k))
  rw [if_neg h]; exact a1
theorem ctx_adv (k : POk L n p) : Adv L p (ctxP L p).2 := by
 unfold ctxP
 by_cases h : isP L p kFrom = true
 ·rw [if_pos h]
  have a1 := Xo k h
  exact a1.trans (ctxL_adv _ _ _ (a1.ok k))
 rw [if_neg h]; exact k.refl
theorem insL_adv : ∀ (f : Nat) (p : PS) (bs : List Bi), POk L 302 p → Adv L p (insL L f p bs).2
 | 0, p, bs, k => k.refl
 | f + 1, p, bs, k => by
  unfold insL
  by_cases he : p.e ≠ 0
  ·rw [if_pos he]; exact k.refl
  rw [if_neg he]
  by_cases h : isP L p kEnd = true
  ·rw [if_pos h]; exact Xo k h
  rw [if_neg h]
  have a1 := Yo (L := L) (kind := 6) (s := kDef) (by decide) k
  have a2 := a1.trans (bindP_adv (a1.ok k))
  have a3 := a2.trans (Yo (kind := 7) (s := kSemi) (by decide) (a2.ok k))
  exact a3.trans (insL_adv f _ _ (a3.ok k))
theorem inst_adv (k : POk L 302 p) : Adv L p (instP L p).2 := by
 have a1 := Yo (L := L) (kind := 2) (s := kE) (by decide) k
 have a2 := a1.trans (atype_adv typeP_adv' (a1.ok k))
 have a3 := a2.trans (ctx_adv (a2.ok k))
 have a4 := a3.trans (Yo (kind := 6) (s := kWhere) (by decide) (a3.ok k))
 exact a4.trans (insL_adv (L.length + 1) _ [] (a4.ok k))
theorem decl_adv (x : Pg) (k : POk L 302 p) : Adv L p (declP L p x).2 := by
 unfold declP
 by_cases h1 : isP L p kData = true
 ·rw [if_pos h1]; have a := Xo k h1; exact a.trans (data_adv (a.ok k))
 by_cases h2 : isP L p kClass = true
 ·rw [if_neg h1, if_pos h2]; have a := Xo k h2; exact a.trans (class_adv (a.ok k))
 by_cases h3 : isP L p kInst = true
 ·rw [if_neg h1, if_neg h2, if_pos h3]; have a := Xo k h3; exact a.trans (inst_adv (a.ok k))
 rw [if_neg h1, if_neg h2, if_neg h3]
 have a1 := Yo (L := L) (kind := 6) (s := kDef) (by decide) k
 exact a1.trans (bindP_adv (a1.ok k))
end
theorem lexF_len : ∀ (f : Nat) (i : Int) (l : List Nat) (acc : List Tok), (lexF f i l acc).1.length ≤ acc.length + l.length + 1
 | 0, i, [], acc => by rw [lexF_nil]; simp
 | 0, i, _ :: _, acc => by simp [lexF]
 | f + 1, i, [], acc => by rw [lexF_nil]; simp
 | f + 1, i, c :: l, acc => by
  by_cases h : (oneL i (c :: l)).2.2 ≠ 0
  ·rw [lexF_bad h]; simp
  have h := Classical.not_not.1 h
  rw [lexF_go h]
  obtain ⟨h1, h2⟩ := oneL_le i c l h
  have := lexF_len f ((oneL i (c :: l)).2.1 + ovr false ((c :: l).drop ((oneL i (c :: l)).2.1 - i).toNat)) (((c :: l).drop ((oneL i (c :: l)).2.1 - i).toNat).drop (ovr false ((c :: l).drop ((oneL i (c :: l)).2.1 - i).toNat))) (acc ++ [(oneL i (c :: l)).1])
  simp only [List.length_append, List.length_drop, List.length_cons, List.length_nil] at this ⊢
  omega
theorem scanT_len (s : ByteArray) : (scanT s).1.length ≤ 60001 := by
 unfold scanT
 split
 ·simp
 split
 ·simp
 have h := lexF_len (s.size + 1) (ovr false (rst s 0)) ((rst s 0).drop (ovr false (rst s 0))) []
 rw [List.length_drop, rst_len] at h
 simp only [List.length_nil] at h
 omega
section
variable {L : List Tok} {n : Nat}
def TyB (L : List Tok) (n : Nat) (T : PS → Ty × PS) : Prop := ∀ p, POk L n p → (T p).1.size + 2 * p.at_ ≤ 2 * (T p).2.at_ + 1
theorem atype_size {T : PS → Ty × PS} (HT : TyB L n T) (HA : ∀ p, POk L n p → Adv L p (T p).2) {p : PS} (k : POk L n p) : (atypeG L T p).1.size + 2 * p.at_ ≤ 2 * (atypeG L T p).2.at_ + 1 ∧ (startsP L 0 p → (atypeG L T p).1.size + 2 * p.at_ ≤ 2 * (atypeG L T p).2.at_) := by
 have h1s : ∀ k s, (Ty.mk k s 0 []).size = 1 := fun k s => by simp [Ty.size, Ty.sizes]
 unfold atypeG
 by_cases h : (nxt L p).k = 2
 ·rw [if_pos h]
  have : (stepP p).at_ = p.at_ + 1 := rfl
  simp only [h1s]
  exact ⟨by omega, fun _ => by omega⟩
 by_cases h1 : (nxt L p).k = 1
 ·rw [if_neg h, if_pos h1]
  have : (stepP p).at_ = p.at_ + 1 := rfl
  simp only [h1s]
  exact ⟨by omega, fun _ => by omega⟩
 rw [if_neg h, if_neg h1]
 have hst : startsP L 0 p → isP L p kLP = true := fun hs => by
  unfold startsP at hs
  rcases hs with q | q | q | q | q | q
  ·exact absurd q h1
  ·exact absurd q h
  ·exact q
  ·omega
  ·omega
  omega
 have a1 := Yo (L := L) (kind := 7) (s := kLP) (by decide) k
 have b1 := a1.1
 have hs1 : startsP L 0 p → (takeP L p 7 kLP).2.at_ = p.at_ + 1 := fun hs => by rw [take_is (hst hs) (by decide)]; rfl
 by_cases h2 : isP L (takeP L p 7 kLP).2 kRP = true
 ·rw [if_pos h2]
  have : (stepP (takeP L p 7 kLP).2).at_ = (takeP L p 7 kLP).2.at_ + 1 := rfl
  simp only [h1s]
  exact ⟨by omega, fun hs => by have := hs1 hs; omega⟩
 rw [if_neg h2]
 have k1 := a1.ok k
 have hT := HT _ k1
 have k2 := (HA _ k1).ok k1
 have b3 := (Yo (L := L) (kind := 7) (s := kRP) (by decide) k2).1
 exact ⟨by dsimp only; omega, fun hs => by have := hs1 hs; dsimp only; omega⟩
theorem typesL_size {T : PS → Ty × PS} (HT : TyB L n T) (HA : ∀ p, POk L n p → Adv L p (T p).2) : ∀ (f : Nat) (p : PS) (acc : List Ty), POk L n p → Ty.sizes (typesL L T f p acc).1 + 2 * p.at_ ≤ Ty.sizes acc + 2 * (typesL L T f p acc).2.at_
 | 0, p, acc, k => Nat.le_refl _
 | f + 1, p, acc, k => by
  unfold typesL
  by_cases h : startsP L 0 p
  ·rw [if_pos h]
   have h1 := (atype_size HT HA k).2 h
   have a1 := atype_adv HA k
   have := typesL_size HT HA f (atypeG L T p).2 (acc ++ [(atypeG L T p).1]) (a1.ok k)
   rw [Ty.sizes_app] at this
   simp only [Ty.sizes] at this
   omega
  rw [if_neg h]; exact Nat.le_refl _
theorem typeF_size : ∀ n : Nat, TyB L n (typeF L n)
 | 0, p, k => by simp [typeF, ty0, Ty.size, Ty.sizes]; omega
 | n + 1, p, k => by
  unfold typeF
  by_cases he : p.e ≠ 0
  ·rw [if_pos he]; simp [ty0, Ty.size, Ty.sizes]; omega
  rw [if_neg he]
  have he : p.e = 0 := Classical.not_not.1 he
  have kq := deeper_ok k he
  have HA := typeF_adv (L := L) n
  have HT := typeF_size n
  have a1 := typeH_adv HA kq
  have hd : (deeperP L p).at_ = p.at_ := deeper_at.1
  have hH : (typeH L (typeF L n) (deeperP L p)).1.size + 2 * p.at_ ≤ 2 * (typeH L (typeF L n) (deeperP L p)).2.at_ + 1 := by
   unfold typeH
   by_cases h : (nxt L (deeperP L p)).k = 2
   ·rw [if_pos h]
    have ks := (Vh kq (Vr (L := L) (p := deeperP L p) (by omega)).2).ok kq
    have := typesL_size HT HA (L.length + 1) (stepP (deeperP L p)) [] ks
    have e1 : (stepP (deeperP L p)).at_ = (deeperP L p).at_ + 1 := rfl
    simp only [Ty.size, Ty.sizes] at this ⊢
    omega
   rw [if_neg h]
   have := (atype_size HT HA kq).1
   omega
  have kH := a1.ok kq
  unfold typeR
  by_cases h : isP L (typeH L (typeF L n) (deeperP L p)).2 kArrow = true
  ·rw [if_pos h]
   have ka := (Xo kH h).ok kH
   have h2 := HT _ ka
   have e1 : (stepP (typeH L (typeF L n) (deeperP L p)).2).at_ = (typeH L (typeF L n) (deeperP L p)).2.at_ + 1 := rfl
   have e2 : ∀ q : PS, (decP q).at_ = q.at_ := fun q => rfl
   simp only [Ty.size, Ty.sizes, e2]
   omega
  rw [if_neg h]
  have e2 : ∀ q : PS, (decP q).at_ = q.at_ := fun q => rfl
  simp only [e2]
  exact hH
theorem typeP_size {p : PS} (k : POk L n p) : (typeP L p).1.size ≤ 2 * L.length + 1 := by
 have h := typeF_size (L := L) 302 p (k.up (by decide))
 have h2 := (typeP_adv k).2.1
 unfold typeP at h2 ⊢
 omega
theorem atypeP_size {p : PS} (k : POk L 302 p) : (atypeG L (typeP L) p).1.size ≤ 2 * L.length + 1 := by
 have h := (atype_size (T := typeP L) (fun q kq => typeF_size (L := L) 302 q kq) typeP_adv' k).1
 have h2 := (atype_adv typeP_adv' k).2.1
 omega
theorem uppersL_len : ∀ (f : Nat) (p : PS) (acc : List ByteArray), (uppersL L f p acc).1.length ≤ acc.length + f
 | 0, p, acc => Nat.le_refl _
 | f + 1, p, acc => by
  unfold uppersL
  split
  ·have := uppersL_len f (takeP L (stepP p) 2 kE).2 (acc ++ [(takeP L (stepP p) 2 kE).1.t])
   simp only [List.length_append, List.length_singleton] at this
   omega
  dsimp only; omega
theorem uppers_len (p : PS) : (uppersP L p).1.length ≤ L.length + 2 := by
 have := uppersL_len (L := L) (L.length + 1) (takeP L p 2 kE).2 [(takeP L p 2 kE).1.t]
 simp only [List.length_singleton] at this
 unfold uppersP; omega
theorem paramsL_len : ∀ (f : Nat) (p : PS) (acc : List ByteArray), (paramsL L f p acc).1.length ≤ acc.length + f
 | 0, p, acc => Nat.le_refl _
 | f + 1, p, acc => by
  unfold paramsL
  split
  ·have := paramsL_len f (takeP L p 1 kE).2 (acc ++ [(takeP L p 1 kE).1.t])
   simp only [List.length_append, List.length_singleton] at this
   omega
  dsimp only; omega
theorem consL_len : ∀ (f : Nat) (p : PS) (acc : List Cn), (consL L f p acc).1.length ≤ acc.length + f
 | 0, p, acc => Nat.le_refl _
 | f + 1, p, acc => by
  unfold consL
  split
  ·dsimp only; omega
  split
  ·have := consL_len f (stepP (conP L p).2) (acc ++ [(conP L p).1])
   simp only [List.length_append, List.length_singleton] at this
   omega
  simp only [List.length_append, List.length_singleton]; omega
theorem clsL_len : ∀ (f : Nat) (p : PS) (ms : List Me) (ds : List Bi), (clsL L f p ms ds).1.1.length ≤ ms.length + f ∧ (clsL L f p ms ds).1.2.length ≤ ds.length + f
 | 0, p, ms, ds => ⟨Nat.le_refl _, Nat.le_refl _⟩
 | f + 1, p, ms, ds => by
  unfold clsL
  split
  ·exact ⟨by dsimp only; omega, by dsimp only; omega⟩
  split
  ·exact ⟨by dsimp only; omega, by dsimp only; omega⟩
  split
  ·have := clsL_len f (takeP L (bindP L (stepP p)).2 7 kSemi).2 ms (ds ++ [(bindP L (stepP p)).1])
   simp only [List.length_append, List.length_singleton] at this
   omega
  have := clsL_len f (takeP L (typeP L (takeP L (nameP L p).2 7 kColon).2).2 7 kSemi).2 (ms ++ [.mk (nameP L p).1.t (typeP L (takeP L (nameP L p).2 7 kColon).2).1 (nameP L p).1.a]) ds
  simp only [List.length_append, List.length_singleton] at this
  omega
theorem clsL_mt {B : Nat} (hB : 2 * L.length + 1 ≤ B) : ∀ (f : Nat) (p : PS) (ms : List Me) (ds : List Bi), POk L 302 p → (∀ m ∈ ms, m.t.size ≤ B) → ∀ m ∈ (clsL L f p ms ds).1.1, m.t.size ≤ B
 | 0, p, ms, ds, k, h => h
 | f + 1, p, ms, ds, k, h => by
  unfold clsL
  by_cases he : p.e ≠ 0
  ·rw [if_pos he]; exact h
  rw [if_neg he]
  by_cases h1 : isP L p kEnd = true
  ·rw [if_pos h1]; exact h
  rw [if_neg h1]
  by_cases h2 : isP L p kDef = true
  ·rw [if_pos h2]
   have a1 := Xo k h2
   have a2 := a1.trans (bindP_adv (a1.ok k))
   have a3 := a2.trans (Yo (kind := 7) (s := kSemi) (by decide) (a2.ok k))
   exact clsL_mt hB f _ _ _ (a3.ok k) h
  rw [if_neg h2]
  have a1 := name_adv k
  have a2 := a1.trans (Yo (kind := 7) (s := kColon) (by decide) (a1.ok k))
  have hs := typeP_size (a2.ok k)
  have a3 := a2.trans (typeP_adv (a2.ok k))
  have a4 := a3.trans (Yo (kind := 7) (s := kSemi) (by decide) (a3.ok k))
  refine clsL_mt hB f _ _ _ (a4.ok k) (fun m hm => ?_)
  rcases List.mem_append.1 hm with q | q
  ·exact h m q
  rw [List.mem_singleton.1 q]; exact Nat.le_trans hs hB
theorem ctxL_len : ∀ (f : Nat) (p : PS) (acc : List Pr), (ctxL L f p acc).1.length ≤ acc.length + f
 | 0, p, acc => Nat.le_refl _
 | f + 1, p, acc => by
  unfold ctxL
  split
  ·dsimp only; omega
  split
  ·have := ctxL_len f (stepP (predP L p).2) (acc ++ [(predP L p).1])
   simp only [List.length_append, List.length_singleton] at this
   omega
  simp only [List.length_append, List.length_singleton]; omega
def CtxV (l : List Pr) : Prop := ∀ p ∈ l, ∃ c s, p = .mk c (.mk 1 s 0 [])
theorem ctxL_var : ∀ (f : Nat) (p : PS) (acc : List Pr), CtxV acc → CtxV (ctxL L f p acc).1
 | 0, p, acc, h => h
 | f + 1, p, acc, h => by
  have hs : CtxV (acc ++ [(predP L p).1]) := fun x hx => by
   rcases List.mem_append.1 hx with q | q
   ·exact h x q
   rw [List.mem_singleton.1 q]; exact ⟨_, _, rfl⟩
  unfold ctxL
  split
  ·exact h
  split
  ·exact ctxL_var f _ _ hs
  exact hs
theorem insL_len : ∀ (f : Nat) (p : PS) (bs : List Bi), (insL L f p bs).1.length ≤ bs.length + f
 | 0, p, bs => Nat.le_refl _
 | f + 1, p, bs => by
  unfold insL
  split
  ·dsimp only; omega
  split
  ·dsimp only; omega
  have := insL_len f (takeP L (bindP L (takeP L p 6 kDef).2).2 7 kSemi).2 (bs ++ [(bindP L (takeP L p 6 kDef).2).1])
  simp only [List.length_append, List.length_singleton] at this
  omega
def DaB (d : Da) : Prop := d.ps.length ≤ 100000 ∧ d.cs.length ≤ 100000
def ClB (c : Cl) : Prop := c.su.length ≤ 100000 ∧ c.ms.length ≤ 100000 ∧ c.ds.length ≤ 100000 ∧ ∀ m ∈ c.ms, m.t.size ≤ 1000000
def InB (x : In) : Prop := x.cx.length ≤ 100000 ∧ x.bs.length ≤ 100000 ∧ x.hd.kids.length ≤ 200000
theorem data_b (hL : L.length ≤ 60001) (p : PS) : DaB (dataP L p).1 := by
 refine ⟨?_, ?_⟩
 ·show (paramsL L (L.length + 1) (takeP L p 2 kE).2 []).1.length ≤ 100000
  have := paramsL_len (L := L) (L.length + 1) (takeP L p 2 kE).2 []
  simp only [List.length_nil] at this; omega
 show (consL L (L.length + 1) (takeP L (paramsL L (L.length + 1) (takeP L p 2 kE).2 []).2 7 kEq).2 []).1.length ≤ 100000
 have := consL_len (L := L) (L.length + 1) (takeP L (paramsL L (L.length + 1) (takeP L p 2 kE).2 []).2 7 kEq).2 []
 simp only [List.length_nil] at this; omega
theorem class_bd (hL : L.length ≤ 60001) {p : PS} (k : POk L 302 p) : ClB (classP L p).1 := by
 have a1 := Yo (L := L) (kind := 2) (s := kE) (by decide) k
 have a2 := a1.trans (Yo (kind := 1) (s := kE) (by decide) (a1.ok k))
 have a3 := a2.trans (supers_adv (a2.ok k))
 have a4 := a3.trans (Yo (kind := 6) (s := kWhere) (by decide) (a3.ok k))
 obtain ⟨q, hq⟩ : ∃ q, (takeP L (supersP L (takeP L (takeP L p 2 kE).2 1 kE).2).2 6 kWhere).2 = q := ⟨_, rfl⟩
 have hl := clsL_len (L := L) (L.length + 1) q [] []
 have hm := clsL_mt (L := L) (B := 1000000) (by omega) (L.length + 1) q [] [] (by rw [← hq]; exact a4.ok k) (by simp)
 simp only [List.length_nil] at hl
 refine ⟨?_, ?_, ?_, ?_⟩
 ·show (supersP L (takeP L (takeP L p 2 kE).2 1 kE).2).1.length ≤ 100000
  unfold supersP
  split
  ·have := uppers_len (L := L) (stepP (takeP L (takeP L p 2 kE).2 1 kE).2)
   omega
  simp
 ·show (clsL L (L.length + 1) (takeP L (supersP L (takeP L (takeP L p 2 kE).2 1 kE).2).2 6 kWhere).2 [] []).1.1.length ≤ 100000
  rw [hq]; omega
 ·show (clsL L (L.length + 1) (takeP L (supersP L (takeP L (takeP L p 2 kE).2 1 kE).2).2 6 kWhere).2 [] []).1.2.length ≤ 100000
  rw [hq]; omega
 show ∀ m ∈ (clsL L (L.length + 1) (takeP L (supersP L (takeP L (takeP L p 2 kE).2 1 kE).2).2 6 kWhere).2 [] []).1.1, m.t.size ≤ 1000000
 rw [hq]; exact hm
theorem inst_bd (hL : L.length ≤ 60001) {p : PS} (k : POk L 302 p) : InB (instP L p).1 ∧ CtxV (instP L p).1.cx := by
 have a1 := Yo (L := L) (kind := 2) (s := kE) (by decide) k
 have hs := atypeP_size (a1.ok k)
 obtain ⟨q, hq⟩ : ∃ q, (atypeG L (typeP L) (takeP L p 2 kE).2).2 = q := ⟨_, rfl⟩
 have hc : (ctxP L q).1.length ≤ 100000 ∧ CtxV (ctxP L q).1 := by
  unfold ctxP
  split
  ·have := ctxL_len (L := L) (L.length + 1) (stepP q) []
   simp only [List.length_nil] at this
   exact ⟨by omega, ctxL_var _ _ _ (fun x hx => by simp at hx)⟩
  exact ⟨by simp, fun x hx => by simp at hx⟩
 refine ⟨⟨?_, ?_, ?_⟩, ?_⟩
 ·show (ctxP L (atypeG L (typeP L) (takeP L p 2 kE).2).2).1.length ≤ 100000
  rw [hq]; exact hc.1
 ·show (insL L (L.length + 1) (takeP L (ctxP L (atypeG L (typeP L) (takeP L p 2 kE).2).2).2 6 kWhere).2 []).1.length ≤ 100000
  have := insL_len (L := L) (L.length + 1) (takeP L (ctxP L (atypeG L (typeP L) (takeP L p 2 kE).2).2).2 6 kWhere).2 []
  simp only [List.length_nil] at this; omega
 ·show (atypeG L (typeP L) (takeP L p 2 kE).2).1.kids.length ≤ 200000
  have h2 := Ty.len_sizes (atypeG L (typeP L) (takeP L p 2 kE).2).1.kids
  generalize (atypeG L (typeP L) (takeP L p 2 kE).2).1 = t at hs h2
  cases t
  simp only [Ty.size, Ty.kids] at hs h2 ⊢
  omega
 show CtxV (ctxP L (atypeG L (typeP L) (takeP L p 2 kE).2).2).1
 rw [hq]; exact hc.2
structure PgB (m : Nat) (x : Pg) : Prop where
 da : x.da.length ≤ m
 cl : x.cl.length ≤ m
 ins : x.ins.length ≤ m
 bs : x.bs.length ≤ m
 das : ∀ d ∈ x.da, DaB d
 cls : ∀ c ∈ x.cl, ClB c
 inss : ∀ y ∈ x.ins, InB y ∧ CtxV y.cx
theorem decl_b (hL : L.length ≤ 60001) {m : Nat} {p : PS} {x : Pg} (k : POk L 302 p) (h : PgB m x) : PgB (m + 1) (declP L p x).1 := by
 obtain ⟨h1, h2, h3, h4, h5, h6, h7⟩ := h
 obtain ⟨da, cl, ins, bs⟩ := x
 simp only [Pg.da, Pg.cl, Pg.ins, Pg.bs] at h1 h2 h3 h4 h5 h6 h7
 unfold declP
 by_cases q1 : isP L p kData = true
 ·rw [if_pos q1]
  refine ⟨by simp [Pg.da]; omega, by simp [Pg.cl]; omega, by simp [Pg.ins]; omega, by simp [Pg.bs]; omega, fun d hd => ?_, h6, h7⟩
  rcases List.mem_append.1 hd with q | q
  ·exact h5 d q
  rw [List.mem_singleton.1 q]; exact data_b hL _
 by_cases q2 : isP L p kClass = true
 ·rw [if_neg q1, if_pos q2]
  refine ⟨by simp [Pg.da]; omega, by simp [Pg.cl]; omega, by simp [Pg.ins]; omega, by simp [Pg.bs]; omega, h5, fun d hd => ?_, h7⟩
  rcases List.mem_append.1 hd with q | q
  ·exact h6 d q
  rw [List.mem_singleton.1 q]; exact class_bd hL ((Xo k q2).ok k)
 by_cases q3 : isP L p kInst = true
 ·rw [if_neg q1, if_neg q2, if_pos q3]
  refine ⟨by simp [Pg.da]; omega, by simp [Pg.cl]; omega, by simp [Pg.ins]; omega, by simp [Pg.bs]; omega, h5, h6, fun d hd => ?_⟩
  rcases List.mem_append.1 hd with q | q
  ·exact h7 d q
  rw [List.mem_singleton.1 q]; exact inst_bd hL ((Xo k q3).ok k)
 rw [if_neg q1, if_neg q2, if_neg q3]
 exact ⟨by simp [Pg.da]; omega, by simp [Pg.cl]; omega, by simp [Pg.ins]; omega, by simp [Pg.bs]; omega, h5, h6, h7⟩
theorem progL_b (hL : L.length ≤ 60001) : ∀ (f m : Nat) (p : PS) (x : Pg), POk L 302 p → PgB m x → PgB (m + f) (progL L f p x).1
 | 0, m, p, x, k, h => h
 | f + 1, m, p, x, k, h => by
  unfold progL
  by_cases he : p.e ≠ 0 ∨ (nxt L p).k = 0
  ·rw [if_pos he]
   exact ⟨by have := h.da; dsimp only; omega, by have := h.cl; dsimp only; omega, by have := h.ins; dsimp only; omega, by have := h.bs; dsimp only; omega, h.das, h.cls, h.inss⟩
  rw [if_neg he]
  have a1 := decl_adv x k
  have a2 := a1.trans (Yo (kind := 7) (s := kSemi) (by decide) (a1.ok k))
  have := progL_b hL f (m + 1) _ _ (a2.ok k) (decl_b hL k h)
  rw [show m + (f + 1) = m + 1 + f by omega]
  exact this
end
theorem pg0_b : PgB 0 pg0 := ⟨by simp [pg0, Pg.da], by simp [pg0, Pg.cl], by simp [pg0, Pg.ins], by simp [pg0, Pg.bs], by simp [pg0, Pg.da], by simp [pg0, Pg.cl], by simp [pg0, Pg.ins]⟩
theorem PgB.up {m m' : Nat} {x : Pg} (h : PgB m x) (k : m ≤ m') : PgB m' x := ⟨Nat.le_trans h.da k, Nat.le_trans h.cl k, Nat.le_trans h.ins k, Nat.le_trans h.bs k, h.das, h.cls, h.inss⟩
open Go.RowKit
theorem Has_c (xs : List ByteArray) (x : ByteArray) : BCall Tryz.prog 37 [.seq 1 (strs xs), .val (.string x)] (x ∈ xs) := by
 have hlx := Xt xs
 refine Zw Tryz.func37 V (by kernel_rfl) V (Uf V) ?_
 refine Yf ?_
 refine c_lens (t := 0) V (.seq _ _) (fun hmax => ?_)
 refine Zg (Zc (Za 4 V V V (Ze V V (Vs (Zb (Zg (Zg (Zc (Za 5 V V V (Ze V V (Vs (Zb (Zz ?_)))))))))))))
 refine c_loop (σ := Nat) (fun zz => match zz with | i => [(0, .seq 1 (strs xs)), (1, .val (.string x)), (5, .val (.int .i64 i))]) (fun zz => match zz with | i => []) (fun zz => match zz with | i => i ≤ xs.length ∧ x ∉ xs.take i) (fun zz => match zz with | i => xs.length - i) (0) ?_ ?_ ?_ ?_
 ·exact ⟨by omega, by simp⟩
 ·exact by4
 ·exact by3
 rintro i hI
 try dsimp only [List.cons_append, List.nil_append] at hI ⊢
 obtain ⟨hi, hu⟩ := hI
 refine Zg (Zg (Zc (Za 6 V V V (Zd V V (Za 7 V V V (Zd V V ?_))))))
 refine Za 8 V V V (Yy V tu_68 V (.seq _ _) (fun n8 => ?_))
 refine Za 9 V V V (Yu V V V ?_); intro c9 h9
 refine Vs (Zb ?_)
 rcases Zi h9 with ⟨rfl, g9⟩ | ⟨rfl, g9⟩
 ·exact Zr V (Xc (Xe (Xv (Xd (Zb (Zg (Zc (Za 4 V V V (Ze V V (Vs (Zb (Ya (Yh V V (Vz _) by3 ⟨⟨_, iff_f (by rwa [List.take_of_length_le (by omega)] at hu), V⟩, V⟩)))))))))))))
 refine Zt V (Zv (Zb (Zg (Zz (Zg ?_)))))
 obtain ⟨y, hy⟩ := Yw (l := xs) (i := i) (by omega)
 have hcy := strs_get hy
 refine Zc (Za 12 V V V (Zd V V (Za 13 V V V (Zd V V (Za 14 V V V (Yd V te_68 V (.seq _ _) V V (by assumption) ?_))))))
 refine Za 15 V V V (Zo V Xb V V (Za 16 V V V (Zd V V (Za 17 V V V (Xx V V V ?_))))); intro c17 h17
 refine Vs (Zb ?_)
 rcases Zi h17 with ⟨rfl, g17⟩ | ⟨rfl, g17⟩
 ·refine Zr V (Zv (Yt (Zb (Zc (Za 10 V V V (Zd V V (Za 11 V V V (Yx V V V (Uj _ (by omega)) ?_))))))))
  refine Za 5 V V V (Ze V V (Vs (Yz ?_)))
  exact ⟨i + 1, ⟨by omega, not_mem_take hu hy g17⟩, by simp; omega, by4, by3⟩
 refine Zt V (Zg (Zc (Za 4 V V V (Ze V V (Vs (Zb (Ya ?_)))))))
 exact Yh V V (Vz _) by3 ⟨⟨_, iff_t (by rw [← g17]; exact Uk hy), V⟩, V⟩
theorem IndexS_c (xs : List ByteArray) (x : ByteArray) : PCall Tryz.prog 65 [.seq 1 (strs xs), .val (.string x)] (.val (.int .i64 (firstAt x xs 0))) := by
 have hlx := Xt xs
 refine Zw Tryz.func65 V (by kernel_rfl) V (Uf V) ?_
 refine Yf ?_
 refine c_lens (t := 0) V (.seq _ _) (fun hmax => ?_)
 refine Zg (Zc (Za 4 V V V (Ze V V (Vs (Zb (Zg (Zg (Zc (Za 6 V V V (Zd V V ?_))))))))))
 refine Za 7 V V V (Yy V tu_68 V (.seq _ _) (fun n7 => ?_))
 refine Za 8 V V V (Zd V V (Vs (Zb (Zz ?_))))
 refine c_loop (σ := Nat) (fun zz => match zz with | i => [(0, .seq 1 (strs xs)), (1, .val (.string x)), (7, .val (.int .i64 (strs xs).length)), (8, .val (.int .i64 i))]) (fun zz => match zz with | i => []) (fun zz => match zz with | i => i ≤ xs.length ∧ x ∉ xs.take i) (fun zz => match zz with | i => xs.length - i) (0) ?_ ?_ ?_ ?_
 ·exact ⟨by omega, by simp⟩
 ·exact by4
 ·exact by3
 rintro i hI
 try dsimp only [List.cons_append, List.nil_append] at hI ⊢
 obtain ⟨hi, hu⟩ := hI
 refine Zg (Zc (Za 9 V V V (Yu V V V ?_))); intro c9 h9
 refine Vs (Zb (Zg ?_))
 rcases Zi h9 with ⟨rfl, g9⟩ | ⟨rfl, g9⟩
 ·refine Zr V (Xc (Xe (Xv (Xd (Zb (Zg (Zc (Za 4 V V V (Ze V V (Vs (Zb (Ya (Yh V V (Vz _) by3 ⟨?_, V⟩)))))))))))))
  rw [← firstAt_drop x xs i hu, List.drop_eq_nil_of_le (by omega), firstAt]
 refine Zt V (Zv (Zb (Zg (Zz (Zg (Zc (Za 10 V V V (Zd V V (Za 5 V V V (Ze V V (Vs (Zb (Zg ?_)))))))))))))
 obtain ⟨y, hy⟩ := Yw (l := xs) (i := i) (by omega)
 have hcy := strs_get hy
 refine Zc (Za 11 V V V (Zd V V (Za 12 V V V (Zd V V (Za 13 V V V (Zd V V (Za 14 V V V (Yd V te_68 V (.seq _ _) V V (by assumption) ?_))))))))
 refine Za 15 V V V (Zo V Xb V V (Za 16 V V V (Xx V V V ?_))); intro c16 h16
 refine Vs (Zb ?_)
 rcases Zi h16 with ⟨rfl, g16⟩ | ⟨rfl, g16⟩
 ·refine Zr V (Zv (Yt (Zb (Zc (Za 18 V V V (Yx V V V (Uj _ (by omega)) ?_))))))
  refine Za 8 V V V (Zd V V (Vs (Yz ?_)))
  exact ⟨i + 1, ⟨by omega, not_mem_take hu hy (fun e => g16 e.symm)⟩, by simp; omega, by4, by3⟩
 refine Zt V (Zg (Zc (Za 17 V V V (Zd V V (Za 4 V V V (Ze V V (Vs (Zb (Ya (Yh V V (Vz _) by3 ⟨?_, V⟩))))))))))
 rw [← firstAt_drop x xs i hu, Xp hy, firstAt, if_pos g16]
theorem ContainsS_c (xs : List ByteArray) (x : ByteArray) : BCall Tryz.prog 31 [.seq 1 (strs xs), .val (.string x)] (x ∈ xs) := by
 refine Zw Tryz.func31 V (by kernel_rfl) V (Uf V) ?_
 refine Yf (Zg (Zc (Za 4 V V V (Ze V V (Vs (Zb (Zg (Zc (Za 5 V V V (Zd V V (Za 6 V V V (Zd V V (Za 7 V V V (Ym (xs := [.tmp 5, .tmp 6]) V V (IndexS_c xs x) by1 ?_))))))))))))))
 refine Za 8 V V V (Wa V V V ?_); intro c8 h8
 exact Za 4 V V V (Ze V V (Vs (Zb (Ya (Yh V V (Vz _) by3 ⟨⟨_, h8.trans (firstAt_nonneg x xs 0), V⟩, V⟩)))))
end Go.Proofs.YtknodnfbaofngaaGreat
namespace Go.Proofs.YtknodnfbaofngaaGreat
open Go.RowKit
theorem count_c (d : Nat) : ∀ (t : Ty) (most : Int), t.size ≤ d → 1 ≤ most → most ≤ 1000000 → PCall Tryz.prog 46 [.agg t.cells, .val (.int .i64 most)] (.val (.int .i64 (t.cnt most))) := by
 induction d with
 | zero => intro t most hd; have := Ty.size_pos t; omega
 | succ d ih =>
  rintro ⟨k, s, n, ks⟩ most hd h1 h2
  have hl := Ty.cellss_len ks
  rw [Ty.size] at hd
  refine Zw Tryz.func46 V (by kernel_rfl) V (Uf V) ?_
  refine Yf ?_
  refine c_lena (t := 0) (j := 3) V V (.seq _ _) (fun hmax => ?_)
  refine Zg (Zc (Za 2 V V V (op_boxe (cs' := [_, _, _, _]) V V V V ?_))); intro b2
  refine Za 4 V V V (Ze V V (Vs (Zb (Zg (Zc (Za 5 V V V (Ze V V (Vs (Zb (Zg (Zg (Xl 20 (k = 1 ∧ (0 < ks.length ∨ n ≠ 0)) ?_ _ _ V ?_))))))))))))
  ·skip
   refine Za 7 V V V (Zh V tf_25_0 V (Za 8 V V V (Zp (i := 0) V Xa V V V (Za 9 V V V (Yr V V V ?_))))); intro c9 h9
   refine Za 10 V V V (Zd V V ?_)
   rcases Zi h9 with ⟨rfl, g9⟩ | ⟨rfl, g9⟩
   ·skip
    refine Zk 11 V V V V V (Zk 12 V V V V V (Zk 13 V V V V V (Zk 14 V V V V V (Zk 15 V V V V V (Yj 16 V V V V V (Yj 17 V V V V V (Yj 18 V V V V V (Zk 19 V V V V V (Za 20 V V V (Zn V V V (Vs (Ud V ?_ by5 by3))))))))))))
    simp_all
   skip
   refine Zl 11 V V V V V (Zh V Wc V (Zl 12 V V V V V (Zp (i := 0) V Vg V V V ?_)))
   refine Zl 13 V V V V V (Yy V tu_23 V (.seq _ _) (fun n13 => ?_))
   refine Zl 14 V V V V V (Ww V V V ?_); intro c14 h14
   refine Zl 15 V V V V V (Zd V V ?_)
   rcases Zi h14 with ⟨rfl, g14⟩ | ⟨rfl, g14⟩
   ·skip
    refine Zl 16 V V V V V (Zh V tf_25_2 V (Zl 17 V V V V V (Zp (i := 0) V Xa V V V (Zl 18 V V V V V (Xq V V V ?_))))); intro c18 h18
    refine Zl 19 V V V V V (Zn V V V (Za 20 V V V (Zn V V V (Vs (Ud V ?_ by5 by3)))))
    simp_all
   skip
   refine Zk 16 V V V V V (Zk 17 V V V V V (Zk 18 V V V V V (Zl 19 V V V V V (Zn V V V (Za 20 V V V (Zn V V V (Vs (Ud V ?_ by5 by3))))))))
   simp_all
  intro c20 h20
  refine Zb ?_
  rcases Zi h20 with ⟨rfl, g20⟩ | ⟨rfl, g20⟩
  ·refine Zr V (Zv (Zb (Zg (Zg (Zc (Za 6 V V V (Ze V V (Vs (Zb (Zz ?_))))))))))
   refine c_loop (σ := Nat × Int) (fun zz => match zz with | (i, m) => [(2, .ptr b2 0), (1, .val (.int .i64 most)), (5, .val (.int .i64 m)), (6, .val (.int .i64 i))]) (fun zz => match zz with | (i, m) => [.loc b2 [.val (.int .i64 k), .val (.string s), .val (.int .i64 n), .seq 4 (Ty.cellss ks)]]) (fun zz => match zz with | (i, m) => i ≤ ks.length ∧ 1 ≤ m ∧ m ≤ most ∧ Ty.cnts (ks.drop i) m most = Ty.cnt (.mk k s n ks) most) (fun zz => match zz with | (i, m) => ks.length - i) ((0, 1)) ?_ ?_ ?_ ?_
   ·exact ⟨by omega, by omega, h1, by rw [List.drop_zero, Ty.cnt_not (by simpa [Ty.kind, Ty.kids, Ty.num, List.length_pos_iff] using g20)]; rfl⟩
   ·exact by4
   ·exact by3
   rintro ⟨i, m⟩ hI
   try dsimp only [List.cons_append, List.nil_append] at hI ⊢
   obtain ⟨hi, m1, m2, hc⟩ := hI
   refine Zg (Zg (Xl 31 (i < ks.length ∧ m < most) ?_ _ _ V ?_))
   ·skip
    refine Za 22 V V V (Zd V V (Za 23 V V V (Zh V Wc V (Za 24 V V V (Zp (i := 0) V Vg V V V ?_)))))
    refine Za 25 V V V (Yy V tu_23 V (.seq _ _) (fun n25 => ?_))
    refine Za 26 V V V (Yu V V V ?_); intro c26 h26
    refine Za 27 V V V (Zd V V ?_)
    rcases Zi h26 with ⟨rfl, g26⟩ | ⟨rfl, g26⟩
    ·skip
     refine Zk 28 V V V V V (Zk 29 V V V V V (Zk 30 V V V V V (Za 31 V V V (Zn V V V (Vs (Ud V ?_ by5 by3))))))
     simp_all; done
    skip
    refine Zl 28 V V V V V (Zd V V (Zl 29 V V V V V (Zd V V (Zl 30 V V V V V (Yu V V V ?_))))); intro c30 h30
    refine Za 31 V V V (Zn V V V (Vs (Ud V ?_ by5 by3)))
    simp_all; done
   intro c31 h31
   refine Zb ?_
   rcases Zi h31 with ⟨rfl, g31⟩ | ⟨rfl, g31⟩
   ·refine Zr V (Xc (Xe (Xv (Xd (Zb (Zg (Zc (Za 45 V V V (Zd V V (Za 4 V V V (Ze V V (Vs (Zb (Ya (Yh V V (Vz _) by3 ⟨?_, V⟩)))))))))))))))
    rw [← hc]
    by_cases e : i < ks.length
    ·obtain ⟨x, hx⟩ := Yw e
     rw [Xp hx, Ty.cnts, if_neg (fun q => g31 ⟨e, q⟩)]
    rw [List.drop_eq_nil_of_le (by omega), Ty.cnts]
   refine Zt V (Zv (Zb (Zg (Zz ?_))))
   obtain ⟨⟨k', s', n', ks'⟩, hx⟩ := Yw g31.1
   have hcx := Ty.cellss_get hx
   have hsz := Ty.size_at hx
   have hb := Ty.cnt_bd (.mk k' s' n' ks') (most - m) (by omega)
   refine Zc (Za 34 V V V (Zd V V (Za 35 V V V (Zh V Wc V (Za 36 V V V (Zp (i := 0) V Vg V V V (Za 37 V V V (Zd V V (Za 38 V V V (Yd V te_23 V (.seq _ _) V V (by assumption) ?_))))))))))
   refine Za 39 V V V (Yc (cs' := [_, _, _, _]) V Xz V V V (Za 40 V V V (Zd V V (Za 41 V V V (Zd V V (Za 42 V V V (op_sub V V V (Uj _ (by omega)) ?_)))))))
   refine Za 43 V V V (Ym (xs := [.tmp 39, .tmp 42]) V V (ih (.mk k' s' n' ks') (most - m) (by omega) (by omega) (by omega)) by1 ?_)
   refine Za 44 V V V (Yx V V V (Uj _ (by omega)) ?_)
   refine Za 5 V V V (Ze V V (Vs (Yt (Zb (Zc (Za 32 V V V (Zd V V (Za 33 V V V (Yx V V V (Uj _ (by omega)) ?_)))))))))
   refine Za 6 V V V (Ze V V (Vs (Yz ?_)))
   refine ⟨(i + 1, m + Ty.cnt (.mk k' s' n' ks') (most - m)), ⟨by omega, by omega, by omega, ?_⟩, by simp; omega, by4, by3⟩
   rw [← hc, Xp hx, Ty.cnts, if_pos g31.2]
  exact Zt V (Zg (Zc (Za 21 V V V (Zd V V (Za 4 V V V (Ze V V (Vs (Zb (Ya (Yh V V (Vz _) by3 ⟨by rw [Ty.cnt_var (by simpa [Ty.kind, Ty.kids, Ty.num, List.length_pos_iff] using g20)], V⟩))))))))))
theorem Small_c (t : Ty) (most : Int) (h1 : 0 ≤ most) (h2 : most ≤ 100000) : BCall Tryz.prog 19 [.agg t.cells, .val (.int .i64 most)] (t.small most = true) := by
 obtain ⟨k, s, n, ks⟩ := t
 have hb := Ty.cnt_bd (.mk k s n ks) (most + 1) (by omega)
 refine Zw Tryz.func19 V (by kernel_rfl) V (Uf V) ?_
 refine Yf (Zg (Zc (Za 2 V V V (op_boxe (cs' := [_, _, _, _]) V V V V ?_)))); intro b2
 refine Za 4 V V V (Ze V V (Vs (Zb (Zg (Zc (Za 5 V V V (Zx (cs' := [_, _, _, _]) (i := 0) V Xz V V V V (Za 6 V V V (Zd V V (Za 7 V V V (Yx V V V (Uj _ (by omega)) ?_)))))))))))
 refine Za 8 V V V (Ym (xs := [.tmp 5, .tmp 7]) V V (count_c _ (.mk k s n ks) (most + 1) (Nat.le_refl _) (by omega) (by omega)) by1 ?_)
 refine Za 9 V V V (Zd V V (Za 10 V V V (op_leq V V V ?_))); intro c10 h10
 exact Za 4 V V V (Ze V V (Vs (Zb (Ya (Yh V V (Vz _) by3 ⟨⟨_, h10.trans (by simp [Ty.small]), V⟩, V⟩)))))
theorem All_c (d : Nat) : ∀ t : Ty, t.size ≤ d → t.size ≤ 1000000 → OCall Tryz.prog 109 [.agg t.cells] 25 4 (Ty.cellss t.all) := by
 induction d with
 | zero => intro t hd; have := Ty.size_pos t; omega
 | succ d ih =>
  rintro ⟨k, s, n, ks⟩ hd hmx
  have hl := Ty.cellss_len ks
  have hls := Ty.len_sizes ks
  rw [Ty.size] at hd hmx
  refine Zw Tryz.func109 V (by kernel_rfl) V (Uf V) ?_
  refine Yf (Zg (Zc (Za 1 V V V (op_boxe (cs' := [_, _, _, _]) V V V V ?_)))); intro b1
  refine Za 2 V V V (Ze V V (Vs (Zb (Zg (Zc (Za 5 V V V (Zx (cs' := [_, _, _, _]) (i := 0) V Xz V V V V (Za 6 V V V (op_buildSlice_own (xs := [.tmp 5]) el_23 V V V V V V (Uf V) ?_))))))))); intro u6
  refine Za 3 V V V (Ze V V (Vs (Zb (Zg (Zg (Zc (Za 4 V V V (Ze V V (Vs (Zb (Zz ?_)))))))))))
  refine c_loop (σ := Nat × Value) (fun zz => match zz with | (i, u) => [(1, .ptr b1 0), (3, .own u 4 (Ty.cellss (.mk k s n ks :: Ty.alls (ks.take i)))), (4, .val (.int .i64 i))]) (fun zz => match zz with | (i, u) => [.own 25 4 u, .loc b1 [.val (.int .i64 k), .val (.string s), .val (.int .i64 n), .seq 4 (Ty.cellss ks)]]) (fun zz => match zz with | (i, u) => i ≤ ks.length) (fun zz => match zz with | (i, u) => ks.length - i) ((0, u6)) ?_ ?_ ?_ ?_
  ·simp
  ·exact by4
  ·exact by3
  rintro ⟨i, u⟩ hI
  try dsimp only [List.cons_append, List.nil_append] at hI ⊢
  refine Zg (Zg (Zc (Za 7 V V V (Zd V V (Za 8 V V V (Zh V Wc V (Za 9 V V V (Zp (i := 1) V Vg V V V ?_))))))))
  refine Za 10 V V V (Yy V tu_23 V (.seq _ _) (fun n10 => ?_))
  refine Za 11 V V V (Yu V V V ?_); intro c11 h11
  refine Vs (Zb ?_)
  rcases Zi h11 with ⟨rfl, g11⟩ | ⟨rfl, g11⟩
  ·refine Zr V (Xc (Xe (Xv (Xd (Zb (Zg (Zc (Za 22 V V V (Zd V V (Za 2 V V V (Ze V V (Vs (Zb (Ya (Yh V V (Ue ?_) by3 ⟨_, V, V⟩)))))))))))))))
   rw [List.take_of_length_le (by omega), Ty.all]
  refine Zt V (Zv (Zb (Zg (Zz ?_))))
  obtain ⟨⟨k', s', n', ks'⟩, hx⟩ := Yw (l := ks) (i := i) (by omega)
  have hcx := Ty.cellss_get hx
  have hsz := Ty.size_at hx
  have hst := Ty.sizes_take ks i
  have e : Ty.cellss (.mk k s n ks :: Ty.alls (ks.take i)) ++ Ty.cellss (Ty.all (.mk k' s' n' ks')) = Ty.cellss (.mk k s n ks :: Ty.alls (ks.take (i + 1))) := by rw [Ty.alls_take ks hx, ← Ty.cellss_app]; rfl
  refine Zc (Za 14 V V V (Zd V V (Za 15 V V V (Zh V Wc V (Za 16 V V V (Zp (i := 1) V Vg V V V (Za 17 V V V (Zd V V (Za 18 V V V (Yd V te_23 V (.seq _ _) V V (by assumption) ?_))))))))))
  refine Za 19 V V V (Yc (cs' := [_, _, _, _]) V Xz V V V (Za 20 V V V (op_callo (xs := [.tmp 19]) V V (ih (.mk k' s' n' ks') (by omega) (by omega)) by1 ?_))); intro u20
  refine Za 21 V V V (Xj (i := 1) el_23 V V V V (.own _ _ _) (by simp only [Ty.cellss_len, List.length_cons, Ty.all_len, Ty.alls_len]; omega) ?_)
  intro u21
  refine Za 3 V V V (Ze V V (Vs (Yt (Zb (Zc (Za 12 V V V (Zd V V (Za 13 V V V (Yx V V V (Uj _ (by omega)) ?_)))))))))
  refine Za 4 V V V (Ze V V (Vs (Yz ?_)))
  exact ⟨(i + 1, u21), by simp; omega, by simp; omega, (by repeat' (first | exact SLe.nil _ | refine Uc V ?_ ?_ | exact Vz _ | exact Le.own _ _ _ | exact Le.nil _ | (refine Ue ?_; exact e) | (refine Le.own_seq ?_; exact e) | (refine Le.seq_eq ?_; exact e))), by3⟩
theorem rVars_c (t : Ty) (hmx : t.size ≤ 1000000) : OCall Tryz.prog 88 [.agg t.cells] 9 1 (strs t.vars) := by
 have hA := All_c t.size t (Nat.le_refl _) hmx
 have hal := Ty.all_len t
 have hl := Ty.cellss_len t.all
 unfold Ty.vars
 generalize Ty.all t = A at hA hal hl
 obtain ⟨k, s, n, ks⟩ := t
 refine Zw Tryz.func88 V (by kernel_rfl) V (Uf V) ?_
 refine Yf (Zg (Zc (Za 1 V V V (op_boxe (cs' := [_, _, _, _]) V V V V ?_)))); intro b1
 refine Za 2 V V V (Ze V V (Vs (Zb (Zg (Zc (Za 6 V V V (Zx (cs' := [_, _, _, _]) (i := 0) V Xz V V V V (Za 7 V V V (op_callo (xs := [.tmp 6]) V V (hA) by1 ?_))))))))); intro u7
 refine Za 3 V V V (Ze V V (Vs (Zb (Zg (Zc (Za 4 V V V (Ze V V (Vs (Zb (Zg (Zg (Zc (Za 5 V V V (Ze V V (Vs (Zb (Zz (ACode.ownNil (t := 4) 9 1 V ?_))))))))))))))))))
 refine c_loop (σ := Nat × Value) (fun zz => match zz with | (i, u) => [(3, .seq 4 (Ty.cellss A)), (4, .own u 1 (strs ((A.take i).foldl addVar []))), (5, .val (.int .i64 i))]) (fun zz => match zz with | (i, u) => [.own 9 1 u]) (fun zz => match zz with | (i, u) => i ≤ A.length) (fun zz => match zz with | (i, u) => A.length - i) ((0, .slice none 0 0)) ?_ ?_ ?_ ?_
 ·simp
 ·exact by4
 ·exact by3
 rintro ⟨i, u⟩ hI
 try dsimp only [List.cons_append, List.nil_append] at hI ⊢
 refine Zg (Zg (Zc (Za 8 V V V (Zd V V (Za 9 V V V (Zd V V ?_))))))
 refine Za 10 V V V (Yy V tu_23 V (.seq _ _) (fun n10 => ?_))
 refine Za 11 V V V (Yu V V V ?_); intro c11 h11
 refine Vs (Zb ?_)
 rcases Zi h11 with ⟨rfl, g11⟩ | ⟨rfl, g11⟩
 ·refine Zr V (Xc (Xe (Xv (Xd (Zb (Zg (Zc (Za 38 V V V (Zd V V (Za 2 V V V (Ze V V (Vs (Zb (Ya (Yh V V (Ue ?_) by3 ⟨_, V, V⟩)))))))))))))))
  rw [List.take_of_length_le (by omega)]
 refine Zt V (Zv (Zb (Zg (Zz (Zg ?_)))))
 obtain ⟨⟨xk, xs, xn, xks⟩, hx⟩ := Yw (l := A) (i := i) (by omega)
 have hcx := Ty.cellss_get hx
 have hfl := foldVar_len (A.take i) []
 have hts : (A.take (i + 1)).foldl addVar [] = addVar ((A.take i).foldl addVar []) (.mk xk xs xn xks) := by rw [Wl hx, List.foldl_append]; rfl
 refine Xl 29 (xk = 1 ∧ xs ∉ (A.take i).foldl addVar []) ?_ _ _ V ?_
 ·skip
  refine Za 14 V V V (Zd V V (Za 15 V V V (Zd V V (Za 16 V V V (Yd V te_23 V (.seq _ _) V V (by assumption) ?_)))))
  refine Za 17 V V V (Zj V tf_25_0 V V (Za 18 V V V (Zo V Xa V V (Za 19 V V V (Yr V V V ?_))))); intro c19 h19
  refine Za 20 V V V (Zd V V ?_)
  rcases Zi h19 with ⟨rfl, g19⟩ | ⟨rfl, g19⟩
  ·skip
   refine Zk 21 V V V V V (Zk 22 V V V V V (Zk 23 V V V V V (Zk 24 V V V V V (Zk 25 V V V V V (Zk 26 V V V V V (Zk 27 V V V V V (Zk 28 V V V V V (Za 29 V V V (Zn V V V (Vs (Ud V ?_ by5 by3)))))))))))
   simp_all
  skip
  refine Zl 21 V V V V V (Zd V V (Zl 22 V V V V V (Zd V V (Zl 23 V V V V V (Zd V V (Zl 24 V V V V V (Yd V te_23 V (.seq _ _) V V (by assumption) ?_)))))))
  refine Zl 25 V V V V V (Zj V Wp V V (Zl 26 V V V V V (Zo V Xb V V (Zl 27 V V V V V (Yg (xs := [.tmp 21, .tmp 26]) V V (Has_c ((A.take i).foldl addVar []) xs) by1 ?_))))); intro c27 h27
  refine Zl 28 V V V V V (Xr V V ?_); intro c28 h28
  try replace h28 := nott h28 h27
  refine Za 29 V V V (Zn V V V (Vs (Ud V ?_ by5 by3)))
  simp_all
 intro c29 h29
 refine Zb ?_
 rcases Zi h29 with ⟨rfl, g29⟩ | ⟨rfl, g29⟩
 ·refine Zr V (Zv (Yt (Zb (Zc (Za 12 V V V (Zd V V (Za 13 V V V (Yx V V V (Uj _ (by omega)) ?_))))))))
  refine Za 5 V V V (Ze V V (Vs (Yz ?_)))
  first | exact ⟨(i + 1, u37), by simp; omega, by simp; omega, (by repeat' (first | exact SLe.nil _ | refine Uc rfl ?_ ?_ | exact Vz _ | exact Le.own _ _ _ | exact Le.nil _ | (refine Ue ?_; (rw [hts, addVar_yes g29]; exact strs_snoc _ _)) | (refine Le.own_seq ?_; (rw [hts, addVar_yes g29]; exact strs_snoc _ _)) | (refine Le.seq_eq ?_; (rw [hts, addVar_yes g29]; exact strs_snoc _ _)))), by3⟩ | exact ⟨(i + 1, u), by simp; omega, by simp; omega, (by repeat' (first | exact SLe.nil _ | refine Uc rfl ?_ ?_ | exact Vz _ | exact Le.own _ _ _ | exact Le.nil _ | (refine Ue ?_; (rw [hts, addVar_no g29])) | (refine Le.own_seq ?_; (rw [hts, addVar_no g29])) | (refine Le.seq_eq ?_; (rw [hts, addVar_no g29])))), by3⟩
 refine Zt V (Zc (Za 30 V V V (Zd V V (Za 31 V V V (Zd V V (Za 32 V V V (Zd V V (Za 33 V V V (Yd V te_23 V (.seq _ _) V V (by assumption) ?_)))))))))
 refine Za 34 V V V (Zj V Wp V V (Za 35 V V V (Zo V Xb V V (Za 36 V V V (Ye (xs := [.tmp 35]) el_68 V V V V V V (Uf V) ?_)))))
 refine Za 37 V V V (Xj (i := 0) el_68 V V V V (.seq _ _) (by simp [Xt] at hfl ⊢; omega) ?_)
 intro u37
 refine Za 4 V V V (Ze V V (Vs (Yt (Zb (Zc (Za 12 V V V (Zd V V (Za 13 V V V (Yx V V V (Uj _ (by omega)) ?_)))))))))
 refine Za 5 V V V (Ze V V (Vs (Yz ?_)))
 first | exact ⟨(i + 1, u37), by simp; omega, by simp; omega, (by repeat' (first | exact SLe.nil _ | refine Uc rfl ?_ ?_ | exact Vz _ | exact Le.own _ _ _ | exact Le.nil _ | (refine Ue ?_; (rw [hts, addVar_yes g29]; exact strs_snoc _ _)) | (refine Le.own_seq ?_; (rw [hts, addVar_yes g29]; exact strs_snoc _ _)) | (refine Le.seq_eq ?_; (rw [hts, addVar_yes g29]; exact strs_snoc _ _)))), by3⟩ | exact ⟨(i + 1, u), by simp; omega, by simp; omega, (by repeat' (first | exact SLe.nil _ | refine Uc rfl ?_ ?_ | exact Vz _ | exact Le.own _ _ _ | exact Le.nil _ | (refine Ue ?_; (rw [hts, addVar_no g29])) | (refine Le.own_seq ?_; (rw [hts, addVar_no g29])) | (refine Le.seq_eq ?_; (rw [hts, addVar_no g29])))), by3⟩
abbrev MCall (P : Program) (f : FuncId) (vs : List AV) (r : Res) (v : AV) (r' : Res) : Prop := ACall P f vs [r] (fun u M' => u = v ∧ M' = [r'])
abbrev MayCall (P : Program) (f : FuncId) (vs : List AV) (r : Res) (p : Prop) (r' : Res) : Prop := ACall P f vs [r] (fun u M' => (p ∧ u = .val (.bool true) ∧ M' = [r']) ∨ (¬ p ∧ u = .val (.bool false) ∧ M' = [r]))
section
variable {P : Program} {al : Sl} {M : Mem} {K : AV → Mem → Prop} {o : Oper}
theorem set_perm {M : Mem} {i : Nat} {r r' : Res} (h : M[i]? = some r) : (r' :: M.eraseIdx i).Perm (M.set i r') := by
 have hi : i < M.length := Vf h
 have := perm_at (M := M.set i r') (i := i) (r := r') (by simp [hi])
 rw [List.eraseIdx_set_eq] at this
 exact this.symm
theorem pick_one {M : Mem} {i : Nat} {r : Res} (h : M[i]? = some r) : pick [i] M = some ([r], M.eraseIdx i) := by
 simp [pick, h]
theorem OpT.permd {K0 : AV → Mem → Prop} (h : OpT P o al M K0) (q : ∀ v M', K0 v M' → ∃ M2, M'.Perm M2 ∧ K v M2) : OpT P o al M K := by
 intro n B F Mf a w hi hs ro
 refine Oper.wpIn_mono ?_ (h n B F Mf a w hi hs ro)
 rintro a' w' ⟨u, v, M', F', h1, h2, h3, h4, h5, h6⟩
 obtain ⟨M2, hp, hk⟩ := q v M' h2
 exact ⟨u, v, M2, F', h1, hk, h3, h4, h5.perm (hp.append_right Mf), h6⟩
theorem Yi {f : FuncId} {xs : List Operand} {ts : Array TypeId} {vs vs' : List AV} (i : Nat) {r r' : Res} {v : AV} (ho : o.op = .call { callee := .value (.func f), args := xs.toArray, argTypes := ts }) (hx : xs.mapM al.ev = some vs) (hm : M[i]? = some r) (hc : MCall P f vs' r v r') (hl : Les vs vs') (q : K v (M.set i r')) : OpT P o al M K := by
 refine OpT.permd (op_callat (K := fun u M' => u = v ∧ M' = r' :: M.eraseIdx i) [i] ho hx (pick_one hm) hc hl ?_) ?_
 ·rintro u M' ⟨rfl, rfl⟩; exact ⟨rfl, rfl⟩
 rintro u M' ⟨rfl, rfl⟩; exact ⟨_, set_perm hm, q⟩
theorem op_mayc {f : FuncId} {xs : List Operand} {ts : Array TypeId} {vs vs' : List AV} (i : Nat) {r r' : Res} {p : Prop} (ho : o.op = .call { callee := .value (.func f), args := xs.toArray, argTypes := ts }) (hx : xs.mapM al.ev = some vs) (hm : M[i]? = some r) (hc : MayCall P f vs' r p r') (hl : Les vs vs') (qt : p → K (.val (.bool true)) (M.set i r')) (qf : ¬ p → K (.val (.bool false)) M) : OpT P o al M K := by
 refine OpT.permd (op_callat (K := fun u M' => (p ∧ u = .val (.bool true) ∧ M' = r' :: M.eraseIdx i) ∨ (¬ p ∧ u = .val (.bool false) ∧ M' = r :: M.eraseIdx i)) [i] ho hx (pick_one hm) hc hl ?_) ?_
 ·rintro u M' (⟨h, rfl, rfl⟩ | ⟨h, rfl, rfl⟩)
  ·exact .inl ⟨h, V, V⟩
  exact .inr ⟨h, V, V⟩
 rintro u M' (⟨h, rfl, rfl⟩ | ⟨h, rfl, rfl⟩)
 ·exact ⟨_, set_perm hm, qt h⟩
 exact ⟨_, (perm_at hm).symm, qf h⟩
theorem Le.nilOwn (m : Nat) : Le (.val (.slice none 0 0)) (.own (.slice none 0 0) m []) := fun F u h => by
 cases h; exact .own _ (.seq0 m none 0 (fun _ => rfl))
theorem We {ro : Option Nat} {n : Nat} {ks : List Kont} {Q : Exit → Sl → Mem → Prop} {c : Code} (e : TypeId) (m : Nat) (h : ACode ro P n c (after ro P n ks Q) al (M ++ [.own e m (.slice none 0 0)])) : ACode ro P n c (after ro P n ks Q) al M := fun B F Mf a w hi hs => by
 refine h B F Mf a w ?_ hs
 refine (hi.ownNil e m).perm ?_
 have : (Res.own e m (.slice none 0 0) :: (M ++ Mf)).Perm (M ++ Res.own e m (.slice none 0 0) :: Mf) := List.perm_middle.symm
 simpa using this
def tyField (P : Program) (t : TypeId) (f : Nat) : Option (TypeId × Nat) :=
 match P.underlying t with
 | some (.struct fs) => match fs[f]? with
  | some g => some (g.type, g.offset)
  | none => none
 | _ => none
theorem Va {x : Operand} {t ft : TypeId} {f fo : Nat} {cs : List AV} {v : AV} (ho : o.op = .field t x f) (ht : tyField P t f = some (ft, fo)) (ha : tyAgg P ft = some none) (hx : al.ev x = some (.agg cs)) (hc : cs[fo]? = some v) (q : K v M) : OpT P o al M K :=
 OpT.plain fun n B F Mf ac w hi hs => by
  have h := hs.ev hx
  generalize hu : ac.eval x = u at h
  cases h with
  | agg h h1 =>
   rename_i vs
   obtain ⟨y, h2, h3⟩ := h.get hc
   refine ⟨y, _, ?_, q, h3⟩
   unfold tyField at ht
   split at ht <;> first | (simp at ht; done) | skip
   rename_i fs hfs
   split at ht <;> first | (simp at ht; done) | skip
   rename_i g hg
   simp only [Option.some.injEq, Prod.mk.injEq] at ht
   obtain ⟨rfl, rfl⟩ := ht
   obtain ⟨a1, a2⟩ := tyAgg_none ha w
   simp [execOp, ho, hu, Instr.field, underlying, hfs, hg, part, asAgg, a1, h2]
end
theorem sameB_no {a b : ByteArray} : ¬ a = b → sameB a b = false := fun h => by
 cases q : sameB a b with
 | false => rfl
 | true => exact absurd (Wt.1 q) h
theorem sameB_yes {a b : ByteArray} (h : a = b) : sameB a b = true := Wt.2 h
theorem Class_c (v : En) (s : ByteArray) : PCall Tryz.prog 43 [.agg v.cells, .val (.string s)] (.val (.int .i64 (classI v s))) := by
 obtain ⟨da, cl, ins⟩ := v
 have hl := Cl.cellss_len cl
 have hC : classI (.mk da cl ins) s = findI (fun c => sameB c.s s) (cl.drop 0) 0 := rfl
 generalize classI (.mk da cl ins) s = r at *
 simp only [En.cells]
 refine Zw Tryz.func43 V (by kernel_rfl) V (Uf V) ?_
 refine Yf ?_
 refine c_lena (t := 0) (j := 1) V V (.seq _ _) (fun hmax => ?_)
 refine Zg (Zc (Za 2 V V V (Ys (cs' := [_, _, _]) V V V V (Za 4 V V V (Ze V V (Vs (Zb (Zg (Zg (Zc (Za 5 V V V (Ze V V (Vs (Zb (Zz ?_)))))))))))))))
 apply Xm [0, 3, 4, 5, 6, 7, 8, 9, 10, 11, 12, 13, 14, 15, 16, 17, 18, 19, 20, 21] (σ := Nat) (fun zz => match zz with | i => [(5, .val (.int .i64 i))]) (fun zz => match zz with | i => i ≤ cl.length ∧ r = findI (fun c => sameB c.s s) (cl.drop i) i) (fun zz => match zz with | i => cl.length - i) (0)
 ·repeat' (first | exact Ui | apply Ug rfl | apply Uh rfl)
 ·exact ⟨Nat.zero_le _, hC⟩
 ·exact by4
 rintro i hI
 try dsimp only [List.cons_append, List.nil_append] at hI ⊢
 obtain ⟨h1, hu⟩ := hI
 refine Zg (Zg (Zc (Za 6 V V V (Zd V V (Za 7 V V V (Zj V Wi V V (Za 8 V V V (Zo V Vm V V ?_))))))))
 refine Za 9 V V V (Yy V tu_35 V (.seq _ _) (fun n9 => ?_))
 refine Za 10 V V V (Yu V V V ?_); intro c10 h10
 refine Vs (Zb ?_)
 rcases Zi h10 with ⟨rfl, g10⟩ | ⟨rfl, g10⟩
 ·refine Zr V (Xc (Xe (Xv (Xd (Zb (Zg (Zc (Za 4 V V V (Ze V V (Vs (Zb (Ya ?_))))))))))))
  rw [Ul (by omega), findI] at hu; exact Yh rfl rfl (Vz _) by3 ⟨by rw [hu], rfl⟩
 refine Zt V (Zv (Zb (Zg (Zz (Zg ?_)))))
 obtain ⟨⟨xs, xv, xsu, xms, xds, xp⟩, hxx⟩ := Yw (l := cl) (i := i) by7
 have hcx := Cl.cellss_get hxx
 have hmx := Uk hxx
 rw [Xp hxx, findI] at hu
 have hu : r = if sameB xs s = true then (i : Int) else findI (fun c => sameB c.s s) (cl.drop (i + 1)) (i + 1) := hu
 refine Zc (Za 13 V V V (Zj V Wi V V (Za 14 V V V (Zo V Vm V V (Za 15 V V V (Zd V V (Za 16 V V V (Yd V te_35 V (.seq _ _) V V (hcx) (Za 17 V V V (Zj V tf_77_0 V V (Za 18 V V V (Zo V Xb V V (Za 19 V V V (Zd V V (Za 20 V V V (Xx V V V ?_)))))))))))))))); intro c20 h20
 refine Vs (Zb ?_)
 rcases Zi h20 with ⟨rfl, g20⟩ | ⟨rfl, g20⟩
 ·refine Zr V (Zv (Yt (Zb (Zc (Za 11 V V V (Zd V V (Za 12 V V V (Yx V V V (Uj _ (by omega)) ?_))))))))
  refine Za 5 V V V (Ze V V (Vs (Yz ?_)))
  rw [if_neg (by rw [sameB_no g20]; simp)] at hu; exact ⟨i + 1, ⟨by omega, hu⟩, by show cl.length - (i + 1) < cl.length - i; omega, by4, by3⟩
 refine Zt V (Zg (Zc (Za 21 V V V (Zd V V (Za 4 V V V (Ze V V (Vs (Zb (Ya ?_)))))))))
 rw [if_pos (sameB_yes g20)] at hu; exact Yh rfl rfl (Vz _) by3 ⟨by rw [hu], rfl⟩
theorem Inst_c (v : En) (c s : ByteArray) : PCall Tryz.prog 91 [.agg v.cells, .val (.string c), .val (.string s)] (.val (.int .i64 (instI v c s))) := by
 obtain ⟨da, cl, ins⟩ := v
 have hl := In.cellss_len ins
 have hC : instI (.mk da cl ins) c s = findI (fun (x : In) => sameB x.c c && sameB x.hd.name s) (ins.drop 0) 0 := rfl
 generalize instI (.mk da cl ins) c s = r at *
 simp only [En.cells]
 refine Zw Tryz.func91 V (by kernel_rfl) V (Uf V) ?_
 refine Yf ?_
 refine c_lena (t := 0) (j := 2) V V (.seq _ _) (fun hmax => ?_)
 refine Zg (Zc (Za 3 V V V (Ys (cs' := [_, _, _]) V V V V (Za 6 V V V (Ze V V (Vs (Zb (Zg (Zg (Zc (Za 7 V V V (Ze V V (Vs (Zb (Zz ?_)))))))))))))))
 apply Xm [0, 4, 5, 6, 7, 8, 9, 10, 11, 12, 13, 14, 15, 16, 17, 18, 19, 20, 21, 22, 23, 24, 25, 26, 27, 28, 29, 30, 31, 32, 33, 34] (σ := Nat) (fun zz => match zz with | i => [(7, .val (.int .i64 i))]) (fun zz => match zz with | i => i ≤ ins.length ∧ r = findI (fun (x : In) => sameB x.c c && sameB x.hd.name s) (ins.drop i) i) (fun zz => match zz with | i => ins.length - i) (0)
 ·repeat' (first | exact Ui | apply Ug rfl | apply Uh rfl)
 ·exact ⟨Nat.zero_le _, hC⟩
 ·exact by4
 rintro i hI
 try dsimp only [List.cons_append, List.nil_append] at hI ⊢
 obtain ⟨h1, hu⟩ := hI
 refine Zg (Zg (Zc (Za 8 V V V (Zd V V (Za 9 V V V (Zj V Vc V V (Za 10 V V V (Zo V ta_36 V V ?_))))))))
 refine Za 11 V V V (Yy V tu_36 V (.seq _ _) (fun n11 => ?_))
 refine Za 12 V V V (Yu V V V ?_); intro c12 h12
 refine Vs (Zb ?_)
 rcases Zi h12 with ⟨rfl, g12⟩ | ⟨rfl, g12⟩
 ·refine Zr V (Xc (Xe (Xv (Xd (Zb (Zg (Zc (Za 6 V V V (Ze V V (Vs (Zb (Ya ?_))))))))))))
  rw [Ul (by omega), findI] at hu; exact Yh rfl rfl (Vz _) by3 ⟨by rw [hu], rfl⟩
 refine Zt V (Zv (Zb (Zg (Zz (Zg ?_)))))
 obtain ⟨⟨xc, ⟨xhdk, xhds, xhdn, xhdl⟩, xcx, xbs, xp⟩, hxx⟩ := Yw (l := ins) (i := i) by7
 have hcx := In.cellss_get hxx
 have hmx := Uk hxx
 rw [Xp hxx, findI] at hu
 have hu : r = if (sameB xc c && sameB xhds s) = true then (i : Int) else findI (fun (x : In) => sameB x.c c && sameB x.hd.name s) (ins.drop (i + 1)) (i + 1) := hu
 simp only [Bool.and_eq_true, Wt] at hu
 simp only [In.cells, Ty.cells, List.cons_append, List.nil_append] at hcx
 refine Xl 33 (xc = c ∧ xhds = s) ?_ _ _ V ?_
 ·skip
  refine Za 15 V V V (Zj V Vc V V (Za 16 V V V (Zo V ta_36 V V (Za 17 V V V (Zd V V (Za 18 V V V (Yd V te_36 V (.seq _ _) V V (hcx) (Za 19 V V V (Zj V tf_73_0 V V (Za 20 V V V (Zo V Xb V V (Za 21 V V V (Zd V V (Za 22 V V V (Xx V V V ?_))))))))))))))); intro c22 h22
  refine Za 23 V V V (Zd V V ?_)
  rcases Zi h22 with ⟨rfl, g22⟩ | ⟨rfl, g22⟩
  ·skip
   refine Zk 24 V V V V V (Zk 25 V V V V V (Zk 26 V V V V V (Zk 27 V V V V V (Zk 28 V V V V V (Zk 29 V V V V V (Zk 30 V V V V V (Zk 31 V V V V V (Zk 32 V V V V V (Za 33 V V V (Zn V V V (Vs (Ud V ?_ by5 by3))))))))))))
   simp_all; done
  skip
  refine Zl 24 V V V V V (Zj V Vc V V (Zl 25 V V V V V (Zo V ta_36 V V (Zl 26 V V V V V (Zd V V (Zl 27 V V V V V (Yd V te_36 V (.seq _ _) V V (hcx) (Zl 28 V V V V V (Zj V Vd V V (Zl 29 V V V V V (Zj V Wp V V (Zl 30 V V V V V (Zo V Xb V V (Zl 31 V V V V V (Zd V V (Zl 32 V V V V V (Xx V V V ?_))))))))))))))))); intro c32 h32
  refine Za 33 V V V (Zn V V V (Vs (Ud V ?_ by5 by3)))
  simp_all; done
 intro c33 h33
 refine Zb ?_
 rcases Zi h33 with ⟨rfl, g33⟩ | ⟨rfl, g33⟩
 ·refine Zr V (Zv (Yt (Zb (Zc (Za 13 V V V (Zd V V (Za 14 V V V (Yx V V V (Uj _ (by omega)) ?_))))))))
  refine Za 7 V V V (Ze V V (Vs (Yz ?_)))
  rw [if_neg g33] at hu; exact ⟨i + 1, ⟨by omega, hu⟩, by show ins.length - (i + 1) < ins.length - i; omega, by4, by3⟩
 refine Zt V (Zg (Zc (Za 34 V V V (Zd V V (Za 6 V V V (Ze V V (Vs (Zb (Ya ?_)))))))))
 rw [if_pos g33] at hu; exact Yh rfl rfl (Vz _) by3 ⟨by rw [hu], rfl⟩
theorem Arity_c (v : En) (s : ByteArray) : PCall Tryz.prog 108 [.agg v.cells, .val (.string s)] (.val (.int .i64 (arityR v s))) := by
 obtain ⟨da, cl, ins⟩ := v
 have hl := Da.cellss_len da
 obtain ⟨r, hr⟩ : ∃ r, arityR (.mk da cl ins) s = r := ⟨_, rfl⟩
 rw [hr]
 unfold arityR at hr
 simp only [Wt, En.da] at hr
 simp only [En.cells]
 refine Zw Tryz.func108 V (by kernel_rfl) V (Uf V) ?_
 refine Yf ?_
 refine c_lena (t := 0) (j := 0) V V (.seq _ _) (fun hmax => ?_)
 refine Zg (Zc (Za 2 V V V (Ys (cs' := [_, _, _]) V V V V (Za 4 V V V (Ze V V (Vs (Zb (Zg (Zg (Xl 11 (s = kIntT ∨ s = kStrT) ?_ _ _ V ?_))))))))))
 ·skip
  refine Za 6 V V V (Zd V V (Za 7 V V V (Xx V V V ?_))); intro c7 h7
  refine Za 8 V V V (Zd V V ?_)
  rcases Zi h7 with ⟨rfl, g7⟩ | ⟨rfl, g7⟩
  ·skip
   refine Zl 9 V V V V V (Zd V V (Zl 10 V V V V V (Xx V V V ?_))); intro c10 h10
   refine Za 11 V V V (Zn V V V (Vs (Ud V ?_ by5 by3)))
   simp_all; done
  skip
  refine Zk 9 V V V V V (Zk 10 V V V V V (Za 11 V V V (Zn V V V (Vs (Ud V ?_ by5 by3)))))
  simp_all; done
 intro c11 h11
 refine Zb ?_
 rcases Zi h11 with ⟨rfl, g11⟩ | ⟨rfl, g11⟩
 ·refine Zr V (Zv (Zb (Zg (Zg (Zc (Za 12 V V V (Zd V V (Za 13 V V V (Xx V V V ?_))))))))); intro c13 h13
  refine Vs (Zb ?_)
  rcases Zi h13 with ⟨rfl, g13⟩ | ⟨rfl, g13⟩
  ·refine Zr V (Zv (Zb (Zg (Zg (Zc (Za 14 V V V (Zd V V (Za 15 V V V (Xx V V V ?_))))))))); intro c15 h15
   refine Vs (Zb ?_)
   rcases Zi h15 with ⟨rfl, g15⟩ | ⟨rfl, g15⟩
   ·refine Zr V (Zv (Zb (Zg (Zg (Zc (Za 5 V V V (Ze V V (Vs (Zb (Zz ?_))))))))))
    apply Xm [0, 3, 4, 5, 6, 7, 8, 9, 10, 11, 12, 13, 14, 15, 16, 17, 18, 19, 20, 21, 22, 23, 24, 25, 26, 27, 28, 29, 30, 31, 32, 33, 34, 35, 36, 37] (σ := Nat) (fun zz => match zz with | i => [(5, .val (.int .i64 i))]) (fun zz => match zz with | i => i ≤ da.length ∧ arityD s (da.drop i) = r) (fun zz => match zz with | i => da.length - i) (0)
    ·repeat' (first | exact Ui | apply Ug rfl | apply Uh rfl)
    ·rw [if_neg g11, if_neg g13, if_neg g15] at hr; exact ⟨Nat.zero_le _, hr⟩
    ·exact by4
    rintro i hI
    try dsimp only [List.cons_append, List.nil_append] at hI ⊢
    obtain ⟨h1, hu⟩ := hI
    refine Zg (Zg (Zc (Za 16 V V V (Zd V V (Za 17 V V V (Zj V tf_38_0 V V (Za 18 V V V (Zo V ta_34 V V ?_))))))))
    refine Za 19 V V V (Yy V tu_34 V (.seq _ _) (fun n19 => ?_))
    refine Za 20 V V V (Yu V V V ?_); intro c20 h20
    refine Vs (Zb ?_)
    rcases Zi h20 with ⟨rfl, g20⟩ | ⟨rfl, g20⟩
    ·refine Zr V (Xc (Xe (Xv (Xd (Zb (Zg (Zc (Za 4 V V V (Ze V V (Vs (Zb (Ya ?_))))))))))))
     rw [Ul (by omega), arityD] at hu; exact Yh rfl rfl (Vz _) by3 ⟨by rw [hu], rfl⟩
    refine Zt V (Zv (Zb (Zg (Zz (Zg ?_)))))
    obtain ⟨⟨xs, xps, xcs, xdv, xp⟩, hxx⟩ := Yw (l := da) (i := i) by7
    have hcx := Da.cellss_get hxx
    have hmx := Uk hxx
    rw [Xp hxx, arityD] at hu
    simp only [Da.s, Da.ps, Wt] at hu
    refine Zc (Za 23 V V V (Zj V tf_38_0 V V (Za 24 V V V (Zo V ta_34 V V (Za 25 V V V (Zd V V (Za 26 V V V (Yd V te_34 V (.seq _ _) V V (hcx) (Za 27 V V V (Zj V tf_102_0 V V (Za 28 V V V (Zo V Xb V V (Za 29 V V V (Zd V V (Za 30 V V V (Xx V V V ?_)))))))))))))))); intro c30 h30
    refine Vs (Zb ?_)
    rcases Zi h30 with ⟨rfl, g30⟩ | ⟨rfl, g30⟩
    ·refine Zr V (Zv (Yt (Zb (Zc (Za 21 V V V (Zd V V (Za 22 V V V (Yx V V V (Uj _ (by omega)) ?_))))))))
     refine Za 5 V V V (Ze V V (Vs (Yz ?_)))
     rw [if_neg g30] at hu; exact ⟨i + 1, ⟨by omega, hu⟩, by show da.length - (i + 1) < da.length - i; omega, by4, by3⟩
    refine Zt V (Zg (Zc (Za 31 V V V (Zj V tf_38_0 V V (Za 32 V V V (Zo V ta_34 V V (Za 33 V V V (Zd V V (Za 34 V V V (Yd V te_34 V (.seq _ _) V V (hcx) (Za 35 V V V (Zj V tf_102_1 V V (Za 36 V V V (Zo V ta_68 V V ?_))))))))))))))
    refine Za 37 V V V (Yy V tu_68 V (.seq _ _) (fun n37 => ?_))
    refine Za 4 V V V (Ze V V (Vs (Zb (Ya ?_))))
    rw [if_pos g30] at hu; exact Yh rfl rfl (Le.inteq (by rw [← hu, Xt])) by3 ⟨rfl, rfl⟩
   refine Zt V (Zg (Zc (Za 4 V V V (Ze V V (Vs (Zb (Ya ?_)))))))
   rw [if_neg g11, if_neg g13, if_pos g15] at hr; exact Yh rfl rfl (Vz _) by3 ⟨by rw [hr], rfl⟩
  refine Zt V (Zg (Zc (Za 4 V V V (Ze V V (Vs (Zb (Ya ?_)))))))
  rw [if_neg g11, if_pos g13] at hr; exact Yh rfl rfl (Vz _) by3 ⟨by rw [hr], rfl⟩
 refine Zt V (Zg (Zc (Za 4 V V V (Ze V V (Vs (Zb (Ya ?_)))))))
 rw [if_pos g11] at hr; exact Yh rfl rfl (Vz _) by3 ⟨by rw [hr], rfl⟩
theorem names_c (c : Cl) (hb : c.ms.length ≤ 1000000) : OCall Tryz.prog 93 [.agg c.cells] 9 1 (strs (c.ms.map Me.s)) := by
 obtain ⟨cs, cv, csu, cms, cds, cp⟩ := c
 have hl := Me.cellss_len cms
 simp only [Cl.ms] at hb ⊢
 simp only [Cl.cells]
 refine Zw Tryz.func93 V (by kernel_rfl) V (Uf V) ?_
 refine Yf (Zg (Zc (Za 1 V V V (Ys (cs' := [_, _, _, _, _, _]) V V V V (Za 2 V V V (Ze V V (Vs (Zb (Zg (Zc (Za 3 V V V (Ze V V (Vs (Zb (Zg (Zg (Zc (Za 4 V V V (Ze V V (Vs (Zb (Zz (We 9 1 ?_)))))))))))))))))))))))
 apply Wg [0, 3, 4, 5, 6, 7, 8, 9, 10, 11, 12, 13, 14, 15, 16, 17, 18, 19, 20] (σ := Nat × List ByteArray × Value) (fun zz => match zz with | (i, acc, u) => [(3, .own u 1 (strs acc)), (4, .val (.int .i64 i))]) (fun zz => match zz with | (i, acc, u) => [.own 9 1 u]) (fun zz => match zz with | (i, acc, u) => i ≤ cms.length ∧ acc = (cms.take i).map Me.s) (fun zz => match zz with | (i, acc, u) => cms.length - i) ((0, [], .slice none 0 0))
 ·repeat' (first | exact Ui | apply Ug rfl | apply Uh rfl)
 ·exact ⟨Nat.zero_le _, V⟩
 ·exact Uc V (Le.nilOwn 1) (Uc V (Vz _) (SLe.nil _))
 ·exact by3
 rintro ⟨i, acc, u⟩ hI
 try dsimp only [List.cons_append, List.nil_append] at hI ⊢
 obtain ⟨hi, ha⟩ := hI
 have hle : (strs acc).length ≤ 1000000 := by rw [Xt, ha, List.length_map, List.length_take]; omega
 refine Zg (Zg (Zc (Za 5 V V V (Zd V V (Za 6 V V V (Zj V tf_77_3 V V (Za 7 V V V (Zo V ta_75 V V ?_))))))))
 refine Za 8 V V V (Yy V tu_75 V (.seq _ _) (fun n8 => ?_))
 refine Za 9 V V V (Yu V V V ?_); intro c9 h9
 refine Vs (Zb ?_)
 rcases Zi h9 with ⟨rfl, g9⟩ | ⟨rfl, g9⟩
 ·exact Zr V (Xc (Xe (Xv (Xd (Zb (Zg (Zc (Za 21 V V V (Zd V V (Za 2 V V V (Ze V V (Vs (Zb (Ya (Yh V V (Ue (by rw [ha, List.take_of_length_le (by omega)])) (Vt _) ⟨u, V, V⟩)))))))))))))))
 refine Zt V (Zv (Zb (Zg (Zz ?_))))
 obtain ⟨⟨xs, ⟨xtk, xts, xtn, xtl⟩, xp⟩, hxx⟩ := Yw (l := cms) (i := i) by7
 have hcx := Me.cellss_get hxx
 have hmx := Uk hxx
 simp only [Me.cells, Ty.cells, List.cons_append, List.nil_append] at hcx
 have hsn := Wl hxx
 refine Zc (Za 12 V V V (Zd V V (Za 13 V V V (Zj V tf_77_3 V V (Za 14 V V V (Zo V ta_75 V V (Za 15 V V V (Zd V V (Za 16 V V V (Yd V te_75 V (.seq _ _) V V (hcx) (Za 17 V V V (Zj V tf_145_0 V V (Za 18 V V V (Zo V Xb V V (Za 19 V V V (Ye (xs := [.tmp 18]) el_68 V V V V V V (Uf V) (Za 20 V V V (Xj (i := 0) el_68 V V V V (.seq _ _) by6 ?_))))))))))))))))))
 intro u20
 refine Za 3 V V V (Ze V V (Vs (Yt (Zb (Zc (Za 10 V V V (Zd V V (Za 11 V V V (Yx V V V (Uj _ (by omega)) ?_)))))))))
 refine Za 4 V V V (Ze V V (Vs (Yz ?_)))
 exact ⟨(i + 1, (cms.take (i + 1)).map Me.s, u20), ⟨(by show i + 1 ≤ cms.length; omega), V⟩, by show cms.length - (i + 1) < cms.length - i; omega, Uc V (Ue (by rw [hsn, List.map_append, strs_app, ha]; rfl)) by4, by3⟩
theorem vars_c (x : In) (hb : x.hd.kids.length ≤ 1000000) : OCall Tryz.prog 110 [.agg x.cells] 9 1 (strs (varsR x)) := by
 obtain ⟨xc, ⟨hk, hs, hn, hl⟩, xcx, xbs, xp⟩ := x
 have hll := Ty.cellss_len hl
 simp only [In.hd, Ty.kids, varsR] at hb ⊢
 simp only [In.cells, Ty.cells, List.cons_append, List.nil_append]
 refine Zw Tryz.func110 V (by kernel_rfl) V (Uf V) ?_
 refine Yf (Zg (Zc (Za 1 V V V (Ys (cs' := [_, _, _, _, _, _, _, _]) V V V V (Za 2 V V V (Ze V V (Vs (Zb (Zg (Zc (Za 3 V V V (Ze V V (Vs (Zb (Zg (Zg (Zc (Za 4 V V V (Ze V V (Vs (Zb (Zz (We 9 1 ?_)))))))))))))))))))))))
 apply Wg [0, 3, 4, 5, 6, 7, 8, 9, 10, 11, 12, 13, 14, 15, 16, 17, 18, 19, 20, 21, 22] (σ := Nat × List ByteArray × Value) (fun zz => match zz with | (i, acc, u) => [(3, .own u 1 (strs acc)), (4, .val (.int .i64 i))]) (fun zz => match zz with | (i, acc, u) => [.own 9 1 u]) (fun zz => match zz with | (i, acc, u) => i ≤ hl.length ∧ acc = (hl.take i).map Ty.name) (fun zz => match zz with | (i, acc, u) => hl.length - i) ((0, [], .slice none 0 0))
 ·repeat' (first | exact Ui | apply Ug rfl | apply Uh rfl)
 ·exact ⟨Nat.zero_le _, V⟩
 ·exact Uc V (Le.nilOwn 1) (Uc V (Vz _) (SLe.nil _))
 ·exact by3
 rintro ⟨i, acc, u⟩ hI
 try dsimp only [List.cons_append, List.nil_append] at hI ⊢
 obtain ⟨hi, ha⟩ := hI
 have hle : (strs acc).length ≤ 1000000 := by rw [Xt, ha, List.length_map, List.length_take]; omega
 refine Zg (Zg (Zc (Za 5 V V V (Zd V V (Za 6 V V V (Zj V Vd V V (Za 7 V V V (Zj V Wc V V (Za 8 V V V (Zo V Vg V V ?_))))))))))
 refine Za 9 V V V (Yy V tu_23 V (.seq _ _) (fun n9 => ?_))
 refine Za 10 V V V (Yu V V V ?_); intro c10 h10
 refine Vs (Zb ?_)
 rcases Zi h10 with ⟨rfl, g10⟩ | ⟨rfl, g10⟩
 ·exact Zr V (Xc (Xe (Xv (Xd (Zb (Zg (Zc (Za 23 V V V (Zd V V (Za 2 V V V (Ze V V (Vs (Zb (Ya (Yh V V (Ue (by rw [ha, List.take_of_length_le (by omega)])) (Vt _) ⟨u, V, V⟩)))))))))))))))
 refine Zt V (Zv (Zb (Zg (Zz ?_))))
 obtain ⟨⟨xk, xs, xn, xl⟩, hxx⟩ := Yw (l := hl) (i := i) by7
 have hcx := Ty.cellss_get hxx
 have hmx := Uk hxx
 simp only [Ty.cells] at hcx
 have hsn := Wl hxx
 refine Zc (Za 13 V V V (Zd V V (Za 14 V V V (Zj V Vd V V (Za 15 V V V (Zj V Wc V V (Za 16 V V V (Zo V Vg V V (Za 17 V V V (Zd V V (Za 18 V V V (Yd V te_23 V (.seq _ _) V V (hcx) (Za 19 V V V (Zj V Wp V V (Za 20 V V V (Zo V Xb V V (Za 21 V V V (Ye (xs := [.tmp 20]) el_68 V V V V V V (Uf V) (Za 22 V V V (Xj (i := 0) el_68 V V V V (.seq _ _) by6 ?_))))))))))))))))))))
 intro u22
 refine Za 3 V V V (Ze V V (Vs (Yt (Zb (Zc (Za 11 V V V (Zd V V (Za 12 V V V (Yx V V V (Uj _ (by omega)) ?_)))))))))
 refine Za 4 V V V (Ze V V (Vs (Yz ?_)))
 exact ⟨(i + 1, (hl.take (i + 1)).map Ty.name, u22), ⟨(by show i + 1 ≤ hl.length; omega), V⟩, by show hl.length - (i + 1) < hl.length - i; omega, Uc V (Ue (by rw [hsn, List.map_append, strs_app, ha]; rfl)) by4, by3⟩
theorem hasB_no {l : List ByteArray} {s : ByteArray} (h : ¬ s ∈ l) : hasB l s = false := by
 cases q : hasB l s with
 | false => rfl
 | true => exact absurd (hasB_iff.1 q) h
theorem Right_c (v : En) (vars : List ByteArray) : ∀ (d : Nat) (t : Ty), t.size ≤ d → PCall Tryz.prog 87 [.agg v.cells, .seq 1 (strs vars), .agg t.cells] (.val (.int .i64 (rightR v vars t)))
 | 0, t, h => by have := t.size_pos; omega
 | d + 1, .mk k s n ks, h => by
  have HA := Arity_c v s
  have hl := Ty.cellss_len ks
  have ih : ∀ t ∈ ks, PCall Tryz.prog 87 [.agg v.cells, .seq 1 (strs vars), .agg t.cells] (.val (.int .i64 (rightR v vars t))) := fun t ht => Right_c v vars d t (by have := Ty.size_mem ht; rw [Ty.size] at h; omega)
  obtain ⟨r, hr⟩ : ∃ r, rightR v vars (.mk k s n ks) = r := ⟨_, rfl⟩
  rw [hr]
  rw [rightR] at hr
  obtain ⟨e, he⟩ : ∃ e, headR0 v vars k s ks.length = e := ⟨_, rfl⟩
  rw [he] at hr
  unfold headR0 at he
  generalize arityR v s = ar at *
  obtain ⟨da, cl, ins⟩ := v
  simp only [En.cells, Ty.cells] at HA ih ⊢
  refine Zw Tryz.func87 V (by kernel_rfl) V (Uf V) ?_
  refine Yf ?_
  refine c_lena (t := 2) (j := 3) V V (.seq _ _) (fun hmax => ?_)
  refine Zg (Zc (Za 3 V V V (Ys (cs' := [_, _, _]) V V V V (Za 5 V V V (Ys (cs' := [_, _, _, _]) V V V V (Za 6 V V V (Ze V V (Vs (Zb (Zg (Zg (Zc (Za 10 V V V (Zj V tf_25_0 V V (Za 11 V V V (Zo V Xa V V (Za 12 V V V (Yr V V V ?_)))))))))))))))))); intro c12 h12
  refine Vs (Zb ?_)
  apply c_joinkm [0, 2, 4, 6, 7, 10, 11, 12, 13, 14, 15, 16, 17, 18, 19, 20, 21, 22, 23, 24, 25, 26, 27, 28, 29, 30, 31] (σ := Unit) (fun zz => match zz with | z => []) (fun zz => match zz with | z => e = 0)
  ·repeat' (first | exact Ui | apply Ug rfl | apply Uh rfl)
  ·skip
   rcases Zi h12 with ⟨rfl, g12⟩ | ⟨rfl, g12⟩
   ·refine Zr V (Zg (Zc (Za 18 V V V (Zj V tf_25_0 V V (Za 19 V V V (Zo V Xa V V (Za 20 V V V (Yr V V V ?_)))))))); intro c20 h20
    refine Vs (Zb ?_)
    rcases Zi h20 with ⟨rfl, g20⟩ | ⟨rfl, g20⟩
    ·refine Zr V (Zg (Zc (Za 6 V V V (Ze V V (Vs (Zb (c_retj ?_)))))))
     rw [if_neg g12, if_neg g20] at he; rw [if_pos (by omega)] at hr; exact Yh rfl rfl (Vz _) by3 ⟨by rw [← hr, ← he], rfl⟩
    refine Zt V (Zg (Zc (Za 21 V V V (Yc (cs' := [_, _, _]) V Xw V V V (Za 22 V V V (Zj V Wp V V (Za 23 V V V (Zo V Xb V V (Za 24 V V V (Ym (xs := [.tmp 21, .tmp 23]) V V (HA) by1 ?_))))))))))
    refine Za 7 V V V (Ze V V (Vs (Zb (Zg (Zg (Zc (Za 25 V V V (Zd V V (Za 26 V V V (Yu V V V ?_)))))))))); intro c26 h26
    refine Vs (Zb ?_)
    rcases Zi h26 with ⟨rfl, g26⟩ | ⟨rfl, g26⟩
    ·refine Zr V (Zv (Zb (Zg (Zc (Za 27 V V V (Zd V V (Za 28 V V V (Zj V Wc V V (Za 29 V V V (Zo V Vg V V ?_))))))))))
     refine Za 30 V V V (Yy V tu_23 V (.seq _ _) (fun n30 => ?_))
     refine Za 31 V V V (Xq V V V ?_); intro c31 h31
     refine Vs (Zb ?_)
     rcases Zi h31 with ⟨rfl, g31⟩ | ⟨rfl, g31⟩
     ·refine Zr V (Zv (Yz ?_))
      first
      | (rw [if_pos g12, if_pos (hasB_iff.2 (Classical.not_not.1 g17))] at he; exact ⟨(), he.symm, by4, by3⟩)
      | (rw [if_neg g12, if_pos g20, if_neg g26, if_neg (by omega)] at he; exact ⟨(), he.symm, by4, by3⟩)
     refine Zt V (Zg (Zc (Za 6 V V V (Ze V V (Vs (Zb (c_retj ?_)))))))
     rw [if_neg g12, if_pos g20, if_neg g26, if_pos (by omega)] at he; rw [if_pos (by omega)] at hr; exact Yh rfl rfl (Vz _) by3 ⟨by rw [← hr, ← he], rfl⟩
    refine Zt V (Zg (Zc (Za 6 V V V (Ze V V (Vs (Zb (c_retj ?_)))))))
    rw [if_neg g12, if_pos g20, if_pos g26] at he; rw [if_pos (by omega)] at hr; exact Yh rfl rfl (Vz _) by3 ⟨by rw [← hr, ← he], rfl⟩
   refine Zt V (Zg (Zc (Za 13 V V V (Zd V V (Za 14 V V V (Zj V Wp V V (Za 15 V V V (Zo V Xb V V (Za 16 V V V (Yg (xs := [.tmp 13, .tmp 15]) V V (Has_c vars s) by1 ?_)))))))))); intro c16 h16
   refine Za 17 V V V (Xr V V ?_); intro c17 h17
   try replace h17 := nott h17 h16
   refine Vs (Zb ?_)
   rcases Zi h17 with ⟨rfl, g17⟩ | ⟨rfl, g17⟩
   ·refine Zr V (Zv (Yz ?_))
    first
    | (rw [if_pos g12, if_pos (hasB_iff.2 (Classical.not_not.1 g17))] at he; exact ⟨(), he.symm, by4, by3⟩)
    | (rw [if_neg g12, if_pos g20, if_neg g26, if_neg (by omega)] at he; exact ⟨(), he.symm, by4, by3⟩)
   refine Zt V (Zg (Zc (Za 6 V V V (Ze V V (Vs (Zb (c_retj ?_)))))))
   rw [if_pos g12, if_neg (by rw [hasB_iff]; exact g17)] at he; rw [if_pos (by omega)] at hr; exact Yh rfl rfl (Vz _) by3 ⟨by rw [← hr, ← he], rfl⟩
  rintro z hI
  try dsimp only [List.cons_append, List.nil_append] at hI ⊢
  refine Zb (Zg (Zg (Zc (Za 8 V V V (Ze V V (Vs (Zb (Zz ?_))))))))
  apply Xm [0, 2, 4, 6, 7, 8, 9, 10, 11, 12, 13, 14, 15, 16, 17, 18, 19, 20, 21, 22, 23, 24, 25, 26, 27, 28, 29, 30, 31, 32, 33, 34, 35, 36, 37, 38, 39, 40, 41, 42, 43, 44, 45, 46, 47, 48, 49] (σ := Nat) (fun zz => match zz with | i => [(8, .val (.int .i64 i))]) (fun zz => match zz with | i => i ≤ ks.length ∧ rightsR (.mk da cl ins) vars (ks.drop i) = r) (fun zz => match zz with | i => ks.length - i) (0)
  ·repeat' (first | exact Ui | apply Ug rfl | apply Uh rfl)
  ·rw [if_neg (by omega)] at hr; exact ⟨Nat.zero_le _, hr⟩
  ·exact by4
  rintro i hI
  try dsimp only [List.cons_append, List.nil_append] at hI ⊢
  obtain ⟨h1, hu⟩ := hI
  refine Zg (Zg (Zc (Za 32 V V V (Zd V V (Za 33 V V V (Zj V Wc V V (Za 34 V V V (Zo V Vg V V ?_))))))))
  refine Za 35 V V V (Yy V tu_23 V (.seq _ _) (fun n35 => ?_))
  refine Za 36 V V V (Yu V V V ?_); intro c36 h36
  refine Vs (Zb ?_)
  rcases Zi h36 with ⟨rfl, g36⟩ | ⟨rfl, g36⟩
  ·refine Zr V (Xc (Xe (Xv (Xd (Zb (Zg (Zc (Za 6 V V V (Ze V V (Vs (Zb (Ya ?_))))))))))))
   rw [Ul (by omega), rightsR] at hu; exact Yh rfl rfl (Vz _) by3 ⟨by rw [← hu], rfl⟩
  refine Zt V (Zv (Zb (Zg (Zz (Zg ?_)))))
  obtain ⟨⟨xk, xs, xn, xl⟩, hx⟩ := Yw (l := ks) (i := i) (by omega)
  have hcx := Ty.cellss_get hx
  have H := ih _ (Uk hx)
  rw [Xp hx, rightsR] at hu
  simp only [Ty.cells] at hcx H
  refine Vl Wo V (Zm 39 V V (Yc (cs' := [_, _, _]) V Xw V V V ⟨V, V⟩) ?_)
  refine Zm 40 V V (Zd V V ⟨V, V⟩) ?_
  refine Zm 41 V V (Zj V Wc V V ⟨V, V⟩) ?_
  refine Zm 42 V V (Zo V Vg V V ⟨V, V⟩) ?_
  refine Zm 43 V V (Zd V V ⟨V, V⟩) ?_
  refine Zm 44 V V (Yd V te_23 V (.seq _ _) V V (hcx) ⟨V, V⟩) ?_
  refine Zm 45 V V (Yc (cs' := [_, _, _, _]) V Xz V V V ⟨V, V⟩) ?_
  refine Zm 46 V V (Ym (xs := [.tmp 39, .tmp 40, .tmp 45]) V V (H) by1 ⟨V, V⟩) ?_
  refine Zm 9 V V (Ze V V ⟨V, V⟩) ?_
  show AGo _ _ _ _ _ _ _
  refine Zb (Zg (Zc (Za 47 V V V (Zd V V (Za 48 V V V (Xq V V V ?_)))))); intro c48 h48
  refine Vs (Zb ?_)
  rcases Zi h48 with ⟨rfl, g48⟩ | ⟨rfl, g48⟩
  ·refine Zr V (Zv (Yt (Zb (Zc (Za 37 V V V (Zd V V (Za 38 V V V (Yx V V V (Uj _ (by omega)) ?_))))))))
   refine Za 8 V V V (Ze V V (Vs (Yz ?_)))
   rw [if_neg g48] at hu; exact ⟨i + 1, ⟨by omega, hu⟩, by show ks.length - (i + 1) < ks.length - i; omega, by4, by3⟩
  refine Zt V (Zg (Zc (Za 49 V V V (Zd V V (Za 6 V V V (Ze V V (Vs (Zb (Ya ?_)))))))))
  rw [if_pos g48] at hu; exact Yh rfl rfl (Vz _) by3 ⟨by rw [hu], rfl⟩
theorem Method_c (v : En) (s : ByteArray) : PCall Tryz.prog 61 [.agg v.cells, .val (.string s)] (.tup [.val (.int .i64 (methI s v.cl 0).1), .val (.int .i64 (methI s v.cl 0).2)]) := by
 obtain ⟨da, cl, ins⟩ := v
 have hl := Cl.cellss_len cl
 obtain ⟨r, hr⟩ : ∃ r, methI s cl 0 = r := ⟨_, rfl⟩
 have hC : methI s (cl.drop 0) 0 = r := hr
 simp only [En.cells, En.cl]
 rw [hr]
 refine Zw Tryz.func61 V (by kernel_rfl) V (Uf V) ?_
 refine Yf ?_
 refine c_lena (t := 0) (j := 1) V V (.seq _ _) (fun hmax => ?_)
 refine Zg (Zc (Za 2 V V V (Ys (cs' := [_, _, _]) V V V V (Za 4 V V V (Ze V V (Za 5 V V V (Ze V V (Vs (Zb (Zg (Zg (Zc (Za 6 V V V (Ze V V (Vs (Zb (Zz ?_)))))))))))))))))
 apply Xm [0, 3, 4, 5, 6, 7, 8, 9, 10, 11, 12, 13, 14, 15, 16, 17, 18, 19, 20, 21, 22, 23, 24, 25, 26, 27, 28, 29, 30, 31, 32, 33, 34, 35, 36, 37, 38, 39] (σ := Nat) (fun zz => match zz with | i => [(6, .val (.int .i64 i))]) (fun zz => match zz with | i => i ≤ cl.length ∧ methI s (cl.drop i) i = r) (fun zz => match zz with | i => cl.length - i) (0)
 ·repeat' (first | exact Ui | apply Ug rfl | apply Uh rfl)
 ·exact ⟨Nat.zero_le _, hC⟩
 ·exact by4
 rintro i hI
 try dsimp only [List.cons_append, List.nil_append] at hI ⊢
 obtain ⟨h1, hu⟩ := hI
 refine Zg (Zg (Zc (Za 8 V V V (Zd V V (Za 9 V V V (Zj V Wi V V (Za 10 V V V (Zo V Vm V V ?_))))))))
 refine Za 11 V V V (Yy V tu_35 V (.seq _ _) (fun n11 => ?_))
 refine Za 12 V V V (Yu V V V ?_); intro c12 h12
 refine Vs (Zb ?_)
 rcases Zi h12 with ⟨rfl, g12⟩ | ⟨rfl, g12⟩
 ·refine Zr V (Xc (Xe (Xv (Xd (Zb (Zg (Zc (Za 4 V V V (Ze V V (Za 5 V V V (Ze V V (Vs (Zb (Ya ?_))))))))))))))
  rw [Ul (by omega), methI] at hu; subst hu; exact out_tt rfl rfl rfl (Vz _) by3 ⟨rfl, rfl⟩
 refine Zt V (Zv (Zb (Zg (Zz (Zg ?_)))))
 obtain ⟨⟨xs, xv, xsu, xms, xds, xp⟩, hxx⟩ := Yw (l := cl) (i := i) by7
 have hcx := Cl.cellss_get hxx
 have hmx := Uk hxx
 rw [Xp hxx, methI] at hu
 have hml := Me.cellss_len xms
 obtain ⟨f, hf⟩ : ∃ f, findI (fun (m : Me) => sameB m.s s) xms 0 = f := ⟨_, rfl⟩
 have hu : (if 0 ≤ f then ((i : Int), f) else methI s (cl.drop (i + 1)) (i + 1)) = r := by rw [← hf]; exact hu
 refine Zc (Za 7 V V V (Ze V V (Vs (Zb (Zz ?_)))))
 apply Xm [0, 3, 4, 5, 7, 15, 16, 17, 18, 19, 20, 21, 22, 23, 24, 25, 26, 27, 28, 29, 30, 31, 32, 33, 34, 35, 36, 37, 38, 39] (σ := Nat) (fun zz => match zz with | j => [(7, .val (.int .i64 j))]) (fun zz => match zz with | j => j ≤ xms.length ∧ findI (fun (m : Me) => sameB m.s s) (xms.drop j) j = f) (fun zz => match zz with | j => xms.length - j) (0)
 ·repeat' (first | exact Ui | apply Ug rfl | apply Uh rfl)
 ·exact ⟨Nat.zero_le _, hf⟩
 ·exact by4
 rintro j hI
 try dsimp only [List.cons_append, List.nil_append] at hI ⊢
 obtain ⟨h2, hv⟩ := hI
 refine Zg (Zg (Zc (Za 15 V V V (Zd V V (Za 16 V V V (Zj V Wi V V (Za 17 V V V (Zo V Vm V V (Za 18 V V V (Zd V V (Za 19 V V V (Yd V te_35 V (.seq _ _) V V (hcx) (Za 20 V V V (Zj V tf_77_3 V V (Za 21 V V V (Zo V ta_75 V V ?_))))))))))))))))
 refine Za 22 V V V (Yy V tu_75 V (.seq _ _) (fun n22 => ?_))
 refine Za 23 V V V (Yu V V V ?_); intro c23 h23
 refine Vs (Zb ?_)
 rcases Zi h23 with ⟨rfl, g23⟩ | ⟨rfl, g23⟩
 ·refine Zr V (Xc (Xe (Xv (Xd (Yt (Zb (Zc (Za 13 V V V (Zd V V (Za 14 V V V (Yx V V V (Uj _ (by omega)) ?_)))))))))))
  refine Za 6 V V V (Ze V V (Vs (Yz ?_)))
  rw [Ul (by omega), findI] at hv; rw [if_neg (by omega)] at hu; exact ⟨i + 1, ⟨by omega, hu⟩, by show cl.length - (i + 1) < cl.length - i; omega, by4, by3⟩
 refine Zt V (Zv (Zb (Zg (Zz (Zg ?_)))))
 obtain ⟨⟨ys, ⟨ytk, yts, ytn, ytl⟩, yp⟩, hxy⟩ := Yw (l := xms) (i := j) by7
 have hcy := Me.cellss_get hxy
 have hmy := Uk hxy
 refine c_lens (t := 21) V (.seq _ _) (fun hmx => ?_)
 rw [Xp hxy, findI] at hv
 have hv : (if sameB ys s = true then (j : Int) else findI (fun (m : Me) => sameB m.s s) (xms.drop (j + 1)) (j + 1)) = f := hv
 simp only [Me.cells, Ty.cells, List.cons_append, List.nil_append] at hcy
 refine Zc (Za 26 V V V (Zj V Wi V V (Za 27 V V V (Zo V Vm V V (Za 28 V V V (Zd V V ?_))))))
 refine Za 29 V V V (Yd V te_35 V (.seq _ _) V V (by first | exact hcx | exact hcy) ?_)
 refine Za 30 V V V (Zj V tf_77_3 V V (Za 31 V V V (Zo V ta_75 V V (Za 32 V V V (Zd V V ?_)))))
 refine Za 33 V V V (Yd V te_75 V (.seq _ _) V V (by first | exact hcx | exact hcy) ?_)
 refine Za 34 V V V (Zj V tf_145_0 V V (Za 35 V V V (Zo V Xb V V (Za 36 V V V (Zd V V (Za 37 V V V (Xx V V V ?_))))))); intro c37 h37
 refine Vs (Zb ?_)
 rcases Zi h37 with ⟨rfl, g37⟩ | ⟨rfl, g37⟩
 ·refine Zr V (Zv (Yt (Zb (Zc (Za 24 V V V (Zd V V (Za 25 V V V (Yx V V V (Uj _ (by omega)) ?_))))))))
  refine Za 7 V V V (Ze V V (Vs (Yz ?_)))
  rw [if_neg (by rw [sameB_no g37]; simp)] at hv; exact ⟨j + 1, ⟨by omega, hv⟩, by show xms.length - (j + 1) < xms.length - j; omega, by4, by3⟩
 refine Zt V (Zg (Zc (Za 38 V V V (Zd V V (Za 39 V V V (Zd V V (Za 4 V V V (Ze V V (Za 5 V V V (Ze V V (Vs (Zb (Ya ?_)))))))))))))
 rw [if_pos (sameB_yes g37)] at hv; rw [if_pos (by omega), ← hv] at hu; subst hu; exact out_tt rfl rfl rfl (Vz _) by3 ⟨rfl, rfl⟩
theorem overL_go {O : ByteArray → List ByteArray → List ByteArray} {s : ByteArray} {l met : List ByteArray} (h : ¬ s ∈ met) : overL O (s :: l) met = overL O l (O s (met ++ [s])) := by rw [overL, if_neg (by rw [hasB_no h]; simp)]
theorem overL_skip {O : ByteArray → List ByteArray → List ByteArray} {s : ByteArray} {l met : List ByteArray} (h : s ∈ met) : overL O (s :: l) met = overL O l met := by rw [overL, if_pos (hasB_iff.2 h)]
theorem over11_c (v : En) (hS : (allSup v).length ≤ 10000000000) : ∀ (n : Nat) (c : ByteArray) (met : List ByteArray) (u : Value), lack (allSup v) met < n → met.length + lack (allSup v) met ≤ (allSup v).length →
    ACall Tryz.prog 69 [.agg v.cells, .val (.string c), .own u 1 (strs met)] [.own 9 1 u] (fun r M' => ∃ u', r = .own u' 1 (strs (overF v n c met)) ∧ M' = [.own 9 1 u'])
 | 0, c, met, u, h1, h2 => by omega
 | n + 1, c, met, u, h1, h2 => by
  have IH := fun s m u a b => over11_c v hS n s m u a b
  have HC := Class_c v c
  have hsub := supersOf_sub v c
  have hcc := findI_cases (fun (x : Cl) => sameB x.s c) v.cl 0
  have hcl := findI_lt (fun (x : Cl) => sameB x.s c) v.cl 0
  obtain ⟨r, hr⟩ : ∃ r, overF v (n + 1) c met = r := ⟨_, rfl⟩
  rw [hr]
  rw [overF] at hr
  obtain ⟨ss, hss⟩ : ∃ l, supersOf v c = l := ⟨_, rfl⟩
  rw [hss] at hr hsub
  unfold supersOf at hss
  have hci : classI v c = findI (fun (x : Cl) => sameB x.s c) v.cl 0 := rfl
  rw [← hci] at hcc hcl
  clear hci
  generalize classI v c = ci at *
  obtain ⟨da, cl, ins⟩ := v
  have hl := Cl.cellss_len cl
  have hsl := Xt ss
  simp only [En.cells, En.cl] at HC hss hcl IH ⊢
  generalize hAll : allSup (En.mk da cl ins) = all at *
  refine Zw Tryz.func69 V (by kernel_rfl) V (Uf V) ?_
  refine Yf (Zg (Zc (Za 3 V V V (Ys (cs' := [_, _, _]) V V V V (Za 6 V V V (Ze V V (Vs (Zb (Zg (Zc (Za 10 V V V (Yc (cs' := [_, _, _]) V Xw V V V (Za 11 V V V (Zd V V (Za 12 V V V (Ym (xs := [.tmp 10, .tmp 11]) V V (HC) by1 ?_))))))))))))))))
  refine Za 7 V V V (Ze V V (Vs (Zb (Zg (Zg (Zc (Za 13 V V V (Zd V V (Za 14 V V V (Yu V V V ?_)))))))))); intro c14 h14
  refine Vs (Zb ?_)
  rcases Zi h14 with ⟨rfl, g14⟩ | ⟨rfl, g14⟩
  ·refine Zr V (Zv (Zb (Zg ?_)))
   rw [if_neg g14] at hr
   obtain ⟨x, hx⟩ := Yw (l := cl) (i := ci.toNat) (by omega)
   rw [hx] at hss
   have hcx := Cl.cellss_get hx
   obtain ⟨xs, xv, xsu, xms, xds, xp⟩ := x
   obtain rfl : xsu = ss := hss
   refine Zc (Za 16 V V V (Zj V Wi V V (Za 17 V V V (Zo V Vm V V (Za 18 V V V (Zd V V ?_))))))
   refine Za 19 V V V (Yd (i := ci.toNat) V te_35 V (.seq _ _) V (by first | rfl | omega) (hcx) ?_)
   refine Za 20 V V V (Zj V tf_77_2 V V (Za 21 V V V (Zo V ta_68 V V (Za 8 V V V (Ze V V (Vs (Zb (Zg (Zg (Zc (Za 9 V V V (Ze V V (Vs (Zb (Zz ?_)))))))))))))))
   apply Wg [0, 1, 2, 4, 5, 7, 9, 10, 11, 12, 13, 14, 15, 16, 17, 18, 19, 20, 21, 22, 23, 24, 25, 26, 27, 28, 29, 30, 31, 32, 33, 34, 35, 36, 37, 38, 39, 40, 41, 42, 43, 44, 45, 46, 47] (σ := Nat × List ByteArray × Value) (fun zz => match zz with | (i, m, w) => [(2, .own w 1 (strs m)), (9, .val (.int .i64 i))]) (fun zz => match zz with | (i, m, w) => [.own 9 1 w]) (fun zz => match zz with | (i, m, w) => i ≤ xsu.length ∧ overL (overF (En.mk da cl ins) n) (xsu.drop i) m = r ∧ lack all m < n + 1 ∧ m.length + lack all m ≤ all.length) (fun zz => match zz with | (i, m, w) => xsu.length - i) ((0, met, u))
   ·repeat' (first | exact Ui | apply Ug rfl | apply Uh rfl)
   ·exact ⟨Nat.zero_le _, hr, h1, h2⟩
   ·exact by4
   ·exact by3
   rintro ⟨i, m, w⟩ hI
   try dsimp only [List.cons_append, List.nil_append] at hI ⊢
   obtain ⟨i1, hu, i3, i4⟩ := hI
   have hle : (strs m).length ≤ 10000000000 := by rw [Xt]; omega
   refine c_lens (t := 8) V (.seq _ _) (fun hmx => ?_)
   refine Zg (Zg (Zc (Za 22 V V V (Zd V V (Za 23 V V V (Zd V V ?_))))))
   refine Za 24 V V V (Yy V tu_68 V (.seq _ _) (fun n24 => ?_))
   refine Za 25 V V V (Yu V V V ?_); intro c25 h25
   refine Vs (Zb ?_)
   rcases Zi h25 with ⟨rfl, g25⟩ | ⟨rfl, g25⟩
   ·refine Zr V (Xc (Xe (Xv (Xd (Zb (Zg (Zc (Za 48 V V V (Zd V V (Za 6 V V V (Ze V V (Vs (Zb (Ya ?_))))))))))))))
    rw [Ul (by omega), overL] at hu; subst hu; exact Yh rfl rfl (Vz _) (Vt _) ⟨w, rfl, rfl⟩
   refine Zt V (Zv (Zb (Zg (Zz (Zg ?_)))))
   obtain ⟨s, hxs⟩ := Yw (l := xsu) (i := i) by7
   have hcs := strs_get hxs
   have hms := Uk hxs
   rw [Xp hxs] at hu
   refine Zc (Za 28 V V V (Zd V V (Za 29 V V V (Zd V V (Za 30 V V V (Zd V V (Za 31 V V V (Yd V te_68 V (.seq _ _) V V (hcs) (Za 32 V V V (Zo V Xb V V (Za 33 V V V (Yg (xs := [.tmp 28, .tmp 32]) V V (Has_c m s) by1 ?_)))))))))))); intro c33 h33
   refine Za 34 V V V (Xr V V ?_); intro c34 h34
   try replace h34 := nott h34 h33
   refine Vs (Zb ?_)
   rcases Zi h34 with ⟨rfl, g34⟩ | ⟨rfl, g34⟩
   ·refine Zr V (Zv (Yt (Zb (Zc (Za 26 V V V (Zd V V (Za 27 V V V (Yx V V V (Uj _ (by omega)) ?_))))))))
    refine Za 9 V V V (Ze V V (Vs (Yz ?_)))
    first
    | (rw [overL_skip (Classical.not_not.1 g34)] at hu; exact ⟨(i + 1, m, w), ⟨by8, hu, i3, i4⟩, by show xsu.length - (i + 1) < xsu.length - i; omega, by4, by3⟩)
    | exact ⟨(i + 1, overF (En.mk da cl ins) n s (m ++ [s]), u47), ⟨by8, hu, by have := hgr.2.1; show lack all (overF (En.mk da cl ins) n s (m ++ [s])) < n + 1; omega, by have := hgr.1; simp only [List.length_append, List.length_singleton] at this; show (overF (En.mk da cl ins) n s (m ++ [s])).length + lack all (overF (En.mk da cl ins) n s (m ++ [s])) ≤ all.length; omega⟩, by show xsu.length - (i + 1) < xsu.length - i; omega, by4, by3⟩
   refine Zt V ?_
   rw [overL_go g34] at hu
   have hlk := lack_lt (hsub s hms) (by rw [hasB_no g34]; simp)
   have hgr := overF_grow (En.mk da cl ins) n s (m ++ [s])
   rw [hAll] at hgr
   have HO : ∀ u, ACall Tryz.prog 69 [.agg [.seq 5 (Da.cellss da), .seq 6 (Cl.cellss cl), .seq 8 (In.cellss ins)], .val (.string s), .own u 1 (strs m ++ [[.val (.string s)]])] [.own 9 1 u] (fun r M' => ∃ u', r = .own u' 1 (strs (overF (En.mk da cl ins) n s (m ++ [s]))) ∧ M' = [.own 9 1 u']) := fun u => by
    rw [strs_snoc]
    exact IH s (m ++ [s]) u (by omega) (by simp; omega)
   refine Xu [0, 1, 2, 3, 4, 5, 6, 7, 8, 9, 10, 11, 12, 13] [11, 12] [[], [], [], [1, 2], [1, 2, 3], [], [], [], [6, 7], [6, 7, 8], [6, 7, 8, 9], [5, 6, 7, 8, 9, 10], [0, 1, 2, 3, 4, 5, 6, 7, 8, 9, 10, 11], [0, 1, 2, 3, 4, 5, 6, 7, 8, 9, 10, 11, 12]] Wo V (Yb 35 (none) (i := 0) V V V V V (Yc (cs' := [_, _, _]) V Xw V V V ⟨V, V⟩) ?_)
   refine Yb 36 (none) (i := 1) V V V V V (Zd V V ⟨V, V⟩) ?_
   refine Yb 37 (none) (i := 2) V V V V V (Zd V V ⟨V, V⟩) ?_
   refine Yb 38 (none) (i := 3) V V V V V (Yd V te_68 V (.seq _ _) V V (hcs) ⟨V, V⟩) ?_
   refine Yb 39 (none) (i := 4) V V V V V (Zo V Xb V V ⟨V, V⟩) ?_
   refine Yb 40 (none) (i := 5) V V V V V (Zd V V ⟨V, V⟩) ?_
   refine Yb 41 (none) (i := 6) V V V V V (Zd V V ⟨V, V⟩) ?_
   refine Yb 42 (none) (i := 7) V V V V V (Zd V V ⟨V, V⟩) ?_
   refine Yb 43 (none) (i := 8) V V V V V (Yd V te_68 V (.seq _ _) V V (hcs) ⟨V, V⟩) ?_
   refine Yb 44 (none) (i := 9) V V V V V (Zo V Xb V V ⟨V, V⟩) ?_
   refine Yb 45 (none) (i := 10) V V V V V (Ye (xs := [.tmp 44]) el_68 V V V V V V (Uf V) ⟨V, V⟩) ?_
   refine Xn 0 (i := 11) V V V V V (Xj (i := 0) el_68 V V V V (.seq _ _) by6 (fun u46 => ⟨_, V, ?_⟩))
   refine EOps.wh (i := 12) V V V V (op_callat [0] (xs := [.tmp 35, .tmp 39, .tmp 46])  V V V (HO u46) by1 ?_)
   rintro v47 M47 ⟨u47, rfl, rfl⟩
   refine Yb 2 (none) (i := 13) V V V V V (Ze V V ⟨V, V⟩) ?_
   show AGo _ _ _ _ _ _ _
   refine Yt (Zb (Zc (Za 26 V V V (Zd V V (Za 27 V V V (Yx V V V (Uj _ (by omega)) ?_))))))
   refine Za 9 V V V (Ze V V (Vs (Yz ?_)))
   first
   | (rw [overL_skip (Classical.not_not.1 g34)] at hu; exact ⟨(i + 1, m, w), ⟨by8, hu, i3, i4⟩, by show xsu.length - (i + 1) < xsu.length - i; omega, by4, by3⟩)
   | exact ⟨(i + 1, overF (En.mk da cl ins) n s (m ++ [s]), u47), ⟨by8, hu, by have := hgr.2.1; show lack all (overF (En.mk da cl ins) n s (m ++ [s])) < n + 1; omega, by have := hgr.1; simp only [List.length_append, List.length_singleton] at this; show (overF (En.mk da cl ins) n s (m ++ [s])).length + lack all (overF (En.mk da cl ins) n s (m ++ [s])) ≤ all.length; omega⟩, by show xsu.length - (i + 1) < xsu.length - i; omega, by4, by3⟩
  refine Zt V (Zg (Zc (Za 15 V V V (Zd V V (Za 6 V V V (Ze V V (Vs (Zb (Ya ?_)))))))))
  rw [if_pos g14] at hr; subst hr; exact Yh rfl rfl (Vz _) (Vt _) ⟨u, rfl, rfl⟩
theorem Above_c (v : En) (hS : (allSup v).length ≤ 10000000000) (c : ByteArray) : OCall Tryz.prog 38 [.agg v.cells, .val (.string c)] 9 1 (strs (aboveR v c)) := by
 have H0 := over11_c v hS ((allSup v).length + 1) c [] (.slice none 0 0) (by rw [lack_nil]; omega) (by rw [lack_nil]; simp)
 have H := H0.args (Ub (Vz _) (Ub (Vz _) (Ub (Le.nilOwn 1) (Ua _))))
 clear H0
 obtain ⟨da, cl, ins⟩ := v
 have he : overF (En.mk da cl ins) ((allSup (En.mk da cl ins)).length + 1) c [] = aboveR (En.mk da cl ins) c := rfl
 rw [he] at H
 simp only [En.cells] at H ⊢
 refine Zw Tryz.func38 V (by kernel_rfl) V (Uf V) ?_
 refine Yf (Zg (Zc (Za 2 V V V (Ys (cs' := [_, _, _]) V V V V (Za 4 V V V (Ze V V (Vs (Zb (Zg (We 9 1 (Zc (Za 5 V V V (Yc (cs' := [_, _, _]) V Xw V V V (Za 6 V V V (Zd V V (Za 7 V V V (op_callat [0] (xs := [.tmp 5, .tmp 6, .const (.slice none 0 0)])  V V V H (Ua _) ?_)))))))))))))))))
 rintro v7 M7 ⟨u7, rfl, rfl⟩
 exact Za 4 V V V (Ze V V (Vs (Zb (Ya (Yh V V (Vz _) (Vt _) ⟨u7, V, V⟩)))))
theorem Bnd_c (l : List Bi) (hb : l.length ≤ 1000000) : OCall Tryz.prog 62 [.seq 13 (Bi.cellss l)] 9 1 (strs (l.map Bi.s)) := by
 have hl := Bi.cellss_len l
 refine Zw Tryz.func62 V (by kernel_rfl) V (Uf V) ?_
 refine Yf (Zg (Zc (Za 2 V V V (Ze V V (Vs (Zb (Zg (Zc (Za 3 V V V (Ze V V (Vs (Zb (Zg (Zg (Zc (Za 4 V V V (Ze V V (Vs (Zb (Zz (We 9 1 ?_)))))))))))))))))))))
 apply Wg [1, 3, 4, 5, 6, 7, 8, 9, 10, 11, 12, 13, 14, 15, 16, 17, 18] (σ := Nat × List ByteArray × Value) (fun zz => match zz with | (i, acc, u) => [(3, .own u 1 (strs acc)), (4, .val (.int .i64 i))]) (fun zz => match zz with | (i, acc, u) => [.own 9 1 u]) (fun zz => match zz with | (i, acc, u) => i ≤ l.length ∧ acc = (l.take i).map Bi.s) (fun zz => match zz with | (i, acc, u) => l.length - i) ((0, [], .slice none 0 0))
 ·repeat' (first | exact Ui | apply Ug rfl | apply Uh rfl)
 ·exact ⟨Nat.zero_le _, V⟩
 ·exact Uc V (Le.nilOwn 1) (Uc V (Vz _) (SLe.nil _))
 ·exact by3
 rintro ⟨i, acc, u⟩ hI
 try dsimp only [List.cons_append, List.nil_append] at hI ⊢
 obtain ⟨hi, ha⟩ := hI
 have hle : (strs acc).length ≤ 1000000 := by rw [Xt, ha, List.length_map, List.length_take]; omega
 refine Zg (Zg (Zc (Za 5 V V V (Zd V V (Za 6 V V V (Zd V V ?_))))))
 refine Za 7 V V V (Yy V tu_53 V (.seq _ _) (fun n7 => ?_))
 refine Za 8 V V V (Yu V V V ?_); intro c8 h8
 refine Vs (Zb ?_)
 rcases Zi h8 with ⟨rfl, g8⟩ | ⟨rfl, g8⟩
 ·exact Zr V (Xc (Xe (Xv (Xd (Zb (Zg (Zc (Za 19 V V V (Zd V V (Za 2 V V V (Ze V V (Vs (Zb (Ya (Yh V V (Ue (by rw [ha, List.take_of_length_le (by omega)])) (Vt _) ⟨u, V, V⟩)))))))))))))))
 refine Zt V (Zv (Zb (Zg (Zz ?_))))
 obtain ⟨⟨xs, ⟨yk, ys, yn, ⟨ytk, yts, ytn, ytl⟩, yks, yal, ybs, yp⟩, xp⟩, hxx⟩ := Yw (l := l) (i := i) (by omega)
 have hcx := Bi.cellss_get hxx
 simp only [Bi.cells, Ex.cells, Ty.cells, List.cons_append, List.nil_append] at hcx
 have hsn := Wl hxx
 refine Zc (Za 11 V V V (Zd V V (Za 12 V V V (Zd V V (Za 13 V V V (Zd V V (Za 14 V V V (Yd V te_53 V (.seq _ _) V V (hcx) (Za 15 V V V (Zj V tf_112_0 V V (Za 16 V V V (Zo V Xb V V (Za 17 V V V (Ye (xs := [.tmp 16]) el_68 V V V V V V (Uf V) (Za 18 V V V (Xj (i := 0) el_68 V V V V (.seq _ _) by6 ?_))))))))))))))))
 intro u18
 refine Za 3 V V V (Ze V V (Vs (Yt (Zb (Zc (Za 9 V V V (Zd V V (Za 10 V V V (Yx V V V (Uj _ (by omega)) ?_)))))))))
 refine Za 4 V V V (Ze V V (Vs (Yz ?_)))
 exact ⟨(i + 1, (l.take (i + 1)).map Bi.s, u18), ⟨(by show i + 1 ≤ l.length; omega), V⟩, by show l.length - (i + 1) < l.length - i; omega, Uc V (Ue (by rw [hsn, List.map_append, strs_app, ha]; rfl)) by4, by3⟩
def faultA (f : Flt) : AV := .agg [.val (.int .i64 f.1), .val (.int .i64 f.2)]
theorem Bi.cellss_take (l : List Bi) (i : Nat) : (Bi.cellss l).take i = Bi.cellss (l.take i) := by rw [Bi.cellss_map, Bi.cellss_map, List.map_take]
theorem strs_take (l : List ByteArray) (i : Nat) : (strs l).take i = strs (l.take i) := by unfold strs; rw [List.map_take]
theorem binds_c (l : List Bi) (c : Cl) (hb : l.length ≤ 1000000) (hc : c.ms.length ≤ 1000000) : PCall Tryz.prog 89 [.seq 13 (Bi.cellss l), .agg c.cells] (faultA (bndR (c.ms.map Me.s) [] l)) := by
 have HN := (names_c c hc).pure
 have hl := Bi.cellss_len l
 obtain ⟨ns, hns⟩ : ∃ ns, c.ms.map Me.s = ns := ⟨_, rfl⟩
 rw [hns] at HN ⊢
 obtain ⟨r, hr⟩ : ∃ r, bndR ns [] l = r := ⟨_, rfl⟩
 rw [hr]
 obtain ⟨cs, cv, csu, cms, cds, cp⟩ := c
 simp only [Cl.cells] at HN ⊢
 refine Zw Tryz.func89 V (by kernel_rfl) V (Uf V) ?_
 refine Yf (Zg (Zc (Za 3 V V V (Ys (cs' := [_, _, _, _, _, _]) V V V V (Za 4 V V V (Zy (cs' := [_, _]) V Vn V V ?_)))))); intro b4
 refine Vs (Zb (Zg (Zg (Zc (Za 5 V V V (Ze V V (Vs (Zb (Zz ?_)))))))))
 apply Xm [1, 2, 5, 6, 7, 8, 9, 10, 11, 12, 13, 14, 15, 16, 17, 18, 19, 20, 21, 22, 23, 24, 25, 26, 27, 28, 29, 30, 31, 32, 33, 34, 35, 36, 37, 38, 39, 40, 41, 42, 43, 44, 45, 46, 47, 48, 49, 50, 51, 52, 53, 54, 55] (σ := Nat) (fun zz => match zz with | i => [(5, .val (.int .i64 i))]) (fun zz => match zz with | i => i ≤ l.length ∧ bndR ns ((l.take i).map Bi.s) (l.drop i) = r) (fun zz => match zz with | i => l.length - i) (0)
 ·repeat' (first | exact Ui | apply Ug rfl | apply Uh rfl)
 ·exact ⟨Nat.zero_le _, hr⟩
 ·exact by4
 rintro i hI
 try dsimp only [List.cons_append, List.nil_append] at hI ⊢
 obtain ⟨h1, hu⟩ := hI
 refine Zg (Zg (Zc (Za 6 V V V (Zd V V (Za 7 V V V (Zd V V ?_))))))
 refine Za 8 V V V (Yy V tu_53 V (.seq _ _) (fun n8 => ?_))
 refine Za 9 V V V (Yu V V V ?_); intro c9 h9
 refine Vs (Zb ?_)
 rcases Zi h9 with ⟨rfl, g9⟩ | ⟨rfl, g9⟩
 ·refine Zr V (Xc (Xe (Xv (Xd (Zb (Zg (Zc (Za 56 V V V (Yl (ns := []) (xs := []) V Vn V Vj V V V V (Zs V V (Zq (cs' := [_, _]) (i := 0) V Vi V V V V V (Uf V) V (Vs (Zb (Ya ?_))))))))))))))
  rw [Ul (by omega), bndR] at hu; subst hu; exact Yn (i := 0) rfl rfl rfl Ve rfl (Vz _) (Vu _) ⟨rfl, rfl⟩
 refine Zt V (Zv (Zb (Zg (Zz (Zg (Zg ?_))))))
 obtain ⟨⟨xs, ⟨yk, ys, yn, ⟨ytk, yts, ytn, ytl⟩, yks, yal, ybs, yp⟩, xp⟩, hxx⟩ := Yw (l := l) (i := i) (by omega)
 have hcx := Bi.cellss_get hxx
 simp only [Bi.cells, Ex.cells, Ty.cells, List.cons_append, List.nil_append] at hcx
 rw [Xp hxx, bndR] at hu
 have hsn := Wl hxx
 have HB := (Bnd_c (l.take i) (by rw [List.length_take]; omega)).pure
 rw [← Bi.cellss_take] at HB
 refine Vl Wo V (Zm 12 V V (Yc (cs' := [_, _, _, _, _, _]) V ta_77 V V V ⟨V, V⟩) ?_)
 refine Zm 13 V V (Ym (xs := [.tmp 12]) V V (HN) by1 ⟨V, V⟩) ?_
 refine Zm 14 V V (Zd V V ⟨V, V⟩) ?_
 refine Zm 15 V V (Zd V V ⟨V, V⟩) ?_
 refine Zm 16 V V (Yd V te_53 V (.seq _ _) V V (hcx) ⟨V, V⟩) ?_
 refine Zm 17 V V (Zj V tf_112_0 V V ⟨V, V⟩) ?_
 refine Zm 18 V V (Zo V Xb V V ⟨V, V⟩) ?_
 refine Wd 19 V V (fun _ q => Yg (xs := [.tmp 13, .tmp 18]) V V (Has_c ns xs) by1 q) ?_; intro c19 h19
 refine Wd 20 V V (fun _ q => Xr V V q) ?_; intro c20 h20
 try replace h20 := nott h20 h19
 show AGo _ _ _ _ _ _ _
 refine Zb ?_
 rcases Zi h20 with ⟨rfl, g20⟩ | ⟨rfl, g20⟩
 ·refine Zr V (Zv (Zb (Zg (Zg ?_))))
  rw [if_neg (by rw [hasB_iff.2 (Classical.not_not.1 g20)]; simp)] at hu
  refine Vl Wo V (Zm 27 V V (Zd V V ⟨V, V⟩) ?_)
  refine Zm 28 V V (Zd V V ⟨V, V⟩) ?_
  refine Zm 29 V V (op_cuth V te_53 V (.seq _ _) V V (by omega) ⟨V, V⟩) ?_
  refine Zm 30 V V (Ym (xs := [.tmp 29]) V V (HB) by1 ⟨V, V⟩) ?_
  refine Zm 31 V V (Zd V V ⟨V, V⟩) ?_
  refine Zm 32 V V (Zd V V ⟨V, V⟩) ?_
  refine Zm 33 V V (Yd V te_53 V (.seq _ _) V V (hcx) ⟨V, V⟩) ?_
  refine Zm 34 V V (Zj V tf_112_0 V V ⟨V, V⟩) ?_
  refine Zm 35 V V (Zo V Xb V V ⟨V, V⟩) ?_
  refine Wd 36 V V (fun _ q => Yg (xs := [.tmp 30, .tmp 35]) V V (Has_c ((l.take i).map Bi.s) xs) by1 q) ?_; intro c36 h36
  show AGo _ _ _ _ _ _ _
  refine Zb ?_
  rcases Zi h36 with ⟨rfl, g36⟩ | ⟨rfl, g36⟩
  ·refine Zr V (Zv (Zb (Zg ?_)))
   rw [if_neg (by rw [hasB_no g36]; simp)] at hu
   refine Zc (Za 43 V V V (Zd V V (Za 44 V V V (Zd V V (Za 45 V V V (Yd V te_53 V (.seq _ _) V V (hcx) (Za 46 V V V (Zj V tf_112_1 V V (Za 47 V V V (Zj V tf_110_0 V V (Za 48 V V V (Zo V Xa V V (Za 49 V V V (Xq V V V ?_)))))))))))))); intro c49 h49
   refine Vs (Zb ?_)
   rcases Zi h49 with ⟨rfl, g49⟩ | ⟨rfl, g49⟩
   ·refine Zr V (Zv (Yt (Zb (Zc (Za 10 V V V (Zd V V (Za 11 V V V (Yx V V V (Uj _ (by omega)) ?_))))))))
    refine Za 5 V V V (Ze V V (Vs (Yz ?_)))
    rw [if_neg g49] at hu; exact ⟨i + 1, ⟨by omega, by rw [hsn, List.map_append]; exact hu⟩, by show l.length - (i + 1) < l.length - i; omega, by4, by3⟩
   refine Zt V (Zg (Zc (Za 50 V V V (Zd V V (Za 51 V V V (Zd V V (Za 52 V V V (Yd V te_53 V (.seq _ _) V V (hcx) (Za 53 V V V (Zj V tf_112_2 V V (Za 54 V V V (Zo V Xa V V (Za 55 V V V (Yl (ns := [0, 1]) (xs := [.const (.int .i64 130), .tmp 54]) V Vn V Vj V V V V (Zs V V (Zq (cs' := [_, _]) (i := 0) V Vi V V V V V (Uf V) V (Vs (Zb (Ya ?_)))))))))))))))))))
   rw [if_pos g49] at hu; subst hu; exact Yn (i := 0) rfl rfl rfl Ve rfl (Vz _) (Vu _) ⟨rfl, rfl⟩
  refine Zt V (Zg (Zc (Za 37 V V V (Zd V V (Za 38 V V V (Zd V V (Za 39 V V V (Yd V te_53 V (.seq _ _) V V (hcx) (Za 40 V V V (Zj V tf_112_2 V V (Za 41 V V V (Zo V Xa V V (Za 42 V V V (Yl (ns := [0, 1]) (xs := [.const (.int .i64 120), .tmp 41]) V Vn V Vj V V V V (Zs V V (Zq (cs' := [_, _]) (i := 0) V Vi V V V V V (Uf V) V (Vs (Zb (Ya ?_)))))))))))))))))))
  rw [if_pos (hasB_iff.2 g36)] at hu; subst hu; exact Yn (i := 0) rfl rfl rfl Ve rfl (Vz _) (Vu _) ⟨rfl, rfl⟩
 refine Zt V (Zg (Zc (Za 21 V V V (Zd V V (Za 22 V V V (Zd V V (Za 23 V V V (Yd V te_53 V (.seq _ _) V V (hcx) (Za 24 V V V (Zj V tf_112_2 V V (Za 25 V V V (Zo V Xa V V (Za 26 V V V (Yl (ns := [0, 1]) (xs := [.const (.int .i64 121), .tmp 25]) V Vn V Vj V V V V (Zs V V (Zq (cs' := [_, _]) (i := 0) V Vi V V V V V (Uf V) V (Vs (Zb (Ya ?_)))))))))))))))))))
 rw [if_pos (hasB_no g20)] at hu; subst hu; exact Yn (i := 0) rfl rfl rfl Ve rfl (Vz _) (Vu _) ⟨rfl, rfl⟩
theorem datas_c (v : En) (hv : EnB v) : PCall Tryz.prog 57 [.agg v.cells] (faultA (datasR v)) := by
 have HR := fun vars t => Right_c v vars _ t (Nat.le_refl _)
 obtain ⟨r, hr⟩ : ∃ r, datasR v = r := ⟨_, rfl⟩
 rw [hr]
 unfold datasR at hr
 obtain ⟨hda, hdp, _, _, _, _⟩ := hv
 obtain ⟨da, cl, ins⟩ := v
 have hl := Da.cellss_len da
 simp only [En.da] at hda hdp
 have hr : (if (datas1 [] da).1 ≠ 0 then datas1 [] da else datas2 (En.mk da cl ins) da []) = r := hr
 obtain ⟨r1, hr1⟩ : ∃ r, datas1 [] da = r := ⟨_, rfl⟩
 rw [hr1] at hr
 simp only [En.cells] at HR ⊢
 refine Zw Tryz.func57 V (by kernel_rfl) V (Uf V) ?_
 refine Yf (Zg (Zc (Za 1 V V V (Ys (cs' := [_, _, _]) V V V V (Za 2 V V V (Zy (cs' := [_, _]) V Vn V V ?_)))))); intro b2
 refine Vs (Zb (Zg (Zg (Zc (Za 3 V V V (Ze V V (Vs (Zb (Zz ?_)))))))))
 apply Xm [0, 3, 4, 5, 14, 15, 16, 17, 18, 19, 20, 21, 22, 23, 24, 25, 26, 27, 28, 29, 30, 31, 32, 33, 34, 35, 36, 37, 38, 39, 40, 41, 42, 43, 44, 45, 46, 47, 48, 49, 50, 51, 52, 53, 54, 55, 56, 57, 58, 59, 60, 61, 62, 63] (σ := Nat) (fun zz => match zz with | i => [(3, .val (.int .i64 i))]) (fun zz => match zz with | i => i ≤ da.length ∧ datas1 ((da.take i).map Da.s) (da.drop i) = r1) (fun zz => match zz with | i => da.length - i) (0)
 ·repeat' (first | exact Ui | apply Ug rfl | apply Uh rfl)
 ·exact ⟨Nat.zero_le _, hr1⟩
 ·exact by4
 rintro i hI
 try dsimp only [List.cons_append, List.nil_append] at hI ⊢
 obtain ⟨h1, hu⟩ := hI
 refine Zg (Zg (Zc (Za 14 V V V (Zd V V (Za 15 V V V (Zj V tf_38_0 V V (Za 16 V V V (Zo V ta_34 V V ?_))))))))
 refine Za 17 V V V (Yy V tu_34 V (.seq _ _) (fun n17 => ?_))
 refine Za 18 V V V (Yu V V V ?_); intro c18 h18
 refine Vs (Zb ?_)
 rcases Zi h18 with ⟨rfl, g18⟩ | ⟨rfl, g18⟩
 ·refine Zr V (Xc (Xe (Xv (Xd (Zb (Zg ?_))))))
  rw [Ul (by omega), datas1] at hu
  rw [← hu, if_neg (by simp [f0])] at hr
  refine Zc (Za 6 V V V (Ze V V (Vs (Zb (Zg (Zg (Zc (Za 7 V V V (Ze V V (Vs (Zb (Zz (c_le (al' := [(1, .cptr [.seq 5 (Da.cellss da), .seq 6 (Cl.cellss cl), .seq 8 (In.cellss ins)]), (2, .ptr b2 0), (6, .val (.slice none 0 0)), (7, .val (.int .i64 0))]) by4 (Vt _) ?_)))))))))))))
  refine We 9 1 ?_
  apply Wg [0, 3, 4, 5, 6, 7, 8, 9, 10, 11, 12, 13, 14, 15, 16, 17, 18, 19, 20, 21, 22, 23, 24, 25, 26, 27, 28, 29, 30, 31, 32, 33, 34, 35, 36, 37, 38, 39, 40, 41, 42, 43, 44, 45, 46, 47, 48, 49, 50, 51, 52, 53, 54, 55, 56, 57, 58, 60, 61, 62, 63, 64, 65, 66, 67, 68, 69, 70, 71, 72, 73, 74, 75, 76, 77, 78, 79, 80, 81, 82, 83, 84, 85, 86, 87, 88, 89, 90, 91, 92, 93, 94, 95, 96, 97, 98, 99, 100, 101, 102, 103, 104, 105, 106, 107, 108, 109, 110, 111, 112, 113, 114, 115, 116, 117, 118, 119, 120, 121, 122, 123, 124, 125, 126, 127, 128, 129, 130, 131, 132, 133, 134, 135, 136, 137, 138, 139, 140, 141, 142, 143, 144, 145, 146, 147, 148] (σ := Nat × List ByteArray × Value) (fun zz => match zz with | (i, met, w) => [(6, .own w 1 (strs met)), (7, .val (.int .i64 i))]) (fun zz => match zz with | (i, met, w) => [.loc b2 [.val (.int .i64 0), .val (.int .i64 0)], .own 9 1 w]) (fun zz => match zz with | (i, met, w) => i ≤ da.length ∧ datas2 (En.mk da cl ins) (da.drop i) met = r ∧ met.length ≤ 100000 * i) (fun zz => match zz with | (i, met, w) => da.length - i) ((0, [], .slice none 0 0))
  ·repeat' (first | exact Ui | apply Ug rfl | apply Uh rfl)
  ·exact ⟨Nat.zero_le _, hr, by simp⟩
  ·exact Uc V (Le.nilOwn 1) (Uc V (Vz _) (SLe.nil _))
  ·exact (Vy V)
  rintro ⟨i, met, w⟩ hI
  try dsimp only [List.cons_append, List.nil_append] at hI ⊢
  obtain ⟨i1, hw, i3⟩ := hI
  refine Zg (Zg (Zc (Za 64 V V V (Zd V V (Za 65 V V V (Zj V tf_38_0 V V (Za 66 V V V (Zo V ta_34 V V ?_))))))))
  refine Za 67 V V V (Yy V tu_34 V (.seq _ _) (fun n67 => ?_))
  refine Za 68 V V V (Yu V V V ?_); intro c68 h68
  refine Vs (Zb ?_)
  rcases Zi h68 with ⟨rfl, g68⟩ | ⟨rfl, g68⟩
  ·refine Zr V (Xc (Xe (Xv (Xd (Zb (Zg (Zc (Za 149 V V V (Yl (ns := []) (xs := []) V Vn V Vj V V V V (Zs V V (Zq (cs' := [_, _]) (i := 0) V Vi V V V V V (Uf V) V (Vs (Zb (Ya ?_))))))))))))))
   rw [Ul (by omega), datas2] at hw; subst hw; exact Yn (i := 0) rfl rfl rfl Ve rfl (Vz _) (Vu _) ⟨rfl, rfl⟩
  refine Zt V (Zv (Zb (Zg (Zz (Zg ?_)))))
  obtain ⟨⟨xs, xps, xcs, xdv, xp⟩, hxx⟩ := Yw (l := da) (i := i) by7
  have hcx := Da.cellss_get hxx
  have hmx := Uk hxx
  rw [Xp hxx, datas2] at hw
  obtain ⟨hp1, hp2⟩ := hdp _ hmx
  have hw : (if dupB [] xps = true then (120, xp) else if (consR (En.mk da cl ins) xps xcs met).1.1 ≠ 0 then (consR (En.mk da cl ins) xps xcs met).1 else datas2 (En.mk da cl ins) (da.drop (i + 1)) (consR (En.mk da cl ins) xps xcs met).2) = r := hw
  simp only [Da.ps, Da.cs] at hp1 hp2
  have hlp := Xt xps
  have hlc := Cn.cellss_len xcs
  obtain ⟨dup, hdup⟩ : ∃ b, dupB [] xps = b := ⟨_, rfl⟩
  rw [hdup] at hw
  obtain ⟨⟨cf, cm⟩, hcr⟩ : ∃ b, consR (En.mk da cl ins) xps xcs met = b := ⟨_, rfl⟩
  rw [hcr] at hw
  simp only [] at hw
  refine Zc (Za 71 V V V (Zj V tf_38_0 V V (Za 72 V V V (Zo V ta_34 V V (Za 73 V V V (Zd V V (Za 74 V V V (Yd V te_34 V (.seq _ _) V V (hcx) (Za 75 V V V (Yc (cs' := [_, _, _, _, _]) V ta_102 V V V (Za 8 V V V (Zy (cs' := [_, _, _, _, _]) V tz_102 V V ?_)))))))))))); intro b8
  refine Zs V V (Zq (cs' := [_, _, _, _, _]) (i := 0) V ts_102 V V V V V (Uf V) V (Vs (Zb (Zg (Zg (Zc (Za 9 V V V (Ze V V (Vs (Zb (Zz ?_)))))))))))
  apply Xm [0, 3, 4, 5, 9, 14, 15, 16, 17, 18, 19, 20, 21, 22, 23, 24, 25, 26, 27, 28, 29, 30, 31, 32, 33, 34, 35, 36, 37, 38, 39, 40, 41, 42, 43, 44, 45, 46, 47, 48, 49, 50, 51, 52, 53, 54, 55, 56, 57, 58, 60, 61, 62, 63, 76, 77, 78, 79, 80, 81, 82, 83, 84, 85, 86, 87, 88, 89, 90, 91, 92, 93, 94, 95] (σ := Nat) (fun zz => match zz with | k => [(9, .val (.int .i64 k))]) (fun zz => match zz with | k => k ≤ xps.length ∧ dupB (xps.take k) (xps.drop k) = dup) (fun zz => match zz with | k => xps.length - k) (0)
  ·repeat' (first | exact Ui | apply Ug rfl | apply Uh rfl)
  ·exact ⟨Nat.zero_le _, hdup⟩
  ·exact by4
  rintro k hI
  try dsimp only [List.cons_append, List.nil_append] at hI ⊢
  obtain ⟨k1, hk⟩ := hI
  refine Zg (Zg (Zc (Za 76 V V V (Zd V V (Za 77 V V V (Zh V tf_102_1 V (Za 78 V V V (Zp (i := 0) V ta_68 V V V ?_))))))))
  refine Za 79 V V V (Yy V tu_68 V (.seq _ _) (fun n79 => ?_))
  refine Za 80 V V V (Yu V V V ?_); intro c80 h80
  refine Vs (Zb ?_)
  rcases Zi h80 with ⟨rfl, g80⟩ | ⟨rfl, g80⟩
  ·refine Zr V (Xc (Xe (Xv (Xd (Zb (Zg ?_))))))
   rw [Ul (by omega), dupB] at hk
   rw [if_neg (by rw [← hk]; simp)] at hw
   refine Zc (Za 10 V V V (Ze V V (Vs (Zb (Zz (c_le (al' := [(1, .cptr [.seq 5 (Da.cellss da), .seq 6 (Cl.cellss cl), .seq 8 (In.cellss ins)]), (2, .ptr b2 0), (6, .own w 1 (strs met)), (7, .val (.int .i64 i)), (8, .ptr b8 0), (10, .val (.int .i64 0))]) by4 (Vt _) ?_))))))
   apply Wg [0, 3, 4, 5, 6, 10, 11, 12, 13, 14, 15, 16, 17, 18, 19, 20, 21, 22, 23, 24, 25, 26, 27, 28, 29, 30, 31, 32, 33, 34, 35, 36, 37, 38, 39, 40, 41, 42, 43, 44, 45, 46, 47, 48, 49, 50, 51, 52, 53, 54, 55, 56, 57, 58, 60, 61, 62, 63, 96, 97, 98, 99, 100, 101, 102, 103, 104, 105, 106, 107, 108, 109, 110, 111, 112, 113, 114, 115, 116, 117, 118, 119, 120, 121, 122, 123, 124, 125, 126, 127, 128, 129, 130, 131, 132, 133, 134, 135, 136, 137, 138, 139, 140, 141, 142, 143, 144, 145, 146, 147, 148] (σ := Nat × List ByteArray × Value) (fun zz => match zz with | (j, m, w2) => [(6, .own w2 1 (strs m)), (10, .val (.int .i64 j))]) (fun zz => match zz with | (j, m, w2) => [.loc b8 [.val (.string xs), .seq 1 (strs xps), .seq 3 (Cn.cellss xcs), .seq 1 (strs xdv), .val (.int .i64 xp)], .loc b2 [.val (.int .i64 0), .val (.int .i64 0)], .own 9 1 w2]) (fun zz => match zz with | (j, m, w2) => j ≤ xcs.length ∧ consR (En.mk da cl ins) xps (xcs.drop j) m = (cf, cm) ∧ m.length ≤ 100000 * i + j) (fun zz => match zz with | (j, m, w2) => xcs.length - j) ((0, met, w))
   ·repeat' (first | exact Ui | apply Ug rfl | apply Uh rfl)
   ·exact ⟨Nat.zero_le _, hcr, by show met.length ≤ 100000 * i + 0; omega⟩
   ·exact by4
   ·exact (Vy V)
   rintro ⟨j, m, w2⟩ hI
   try dsimp only [List.cons_append, List.nil_append] at hI ⊢
   obtain ⟨j1, hj, j3⟩ := hI
   have hle : (strs m).length ≤ 20000000000 := by rw [Xt]; omega
   refine Zg (Zg (Zc (Za 96 V V V (Zd V V (Za 97 V V V (Zh V tf_102_2 V (Za 98 V V V (Zp (i := 0) V ta_100 V V V ?_))))))))
   refine Za 99 V V V (Yy V tu_100 V (.seq _ _) (fun n99 => ?_))
   refine Za 100 V V V (Yu V V V ?_); intro c100 h100
   refine Vs (Zb ?_)
   rcases Zi h100 with ⟨rfl, g100⟩ | ⟨rfl, g100⟩
   ·refine Zr V (Xc (Xe (Xv (Xd (Yt (Zb (Zc (Za 69 V V V (Zd V V (Za 70 V V V (Yx V V V (Uj _ (by omega)) ?_)))))))))))
    refine Za 7 V V V (Ze V V (Vs (Yz ?_)))
    rw [Ul (by omega), consR] at hj
    cases hj
    rw [if_neg (by simp [f0])] at hw
    exact ⟨(i + 1, cm, w2), ⟨by show i + 1 ≤ da.length; omega, hw, by show cm.length ≤ 100000 * (i + 1); omega⟩, by show da.length - (i + 1) < da.length - i; omega, by4, (Vw _ (Vy V))⟩
   refine Zt V (Zv (Zb (Zg (Zz (Zg ?_)))))
   obtain ⟨⟨ys, yts, yp⟩, hxy⟩ := Yw (l := xcs) (i := j) by7
   have hcy := Cn.cellss_get hxy
   have hmy := Uk hxy
   rw [Xp hxy, consR] at hj
   have hj : (if hasB m ys = true then (((120 : Int), yp), m) else if 60 < yts.length then ((3, yp), m ++ [ys]) else if rightsR (En.mk da cl ins) xps yts ≠ 0 then ((rightsR (En.mk da cl ins) xps yts, yp), m ++ [ys]) else consR (En.mk da cl ins) xps (xcs.drop (j + 1)) (m ++ [ys])) = (cf, cm) := hj
   have hlt := Ty.cellss_len yts
   refine Zc (Za 103 V V V (Zh V tf_102_2 V (Za 104 V V V (Zp (i := 0) V ta_100 V V V (Za 105 V V V (Zd V V (Za 106 V V V (Yd V te_100 V (.seq _ _) V V (hcy) (Za 107 V V V (Yc (cs' := [_, _, _]) V ta_140 V V V (Za 11 V V V (Zy (cs' := [_, _, _]) V tz_140 V V ?_)))))))))))); intro b11
   refine Zs V V (Zq (cs' := [_, _, _]) (i := 0) V ts_140 V V V V V (Uf V) V (Vs (Zb (Zg (Zg (Zc (Za 108 V V V (Zd V V (Za 109 V V V (Zh V tf_140_0 V (Za 110 V V V (Zp (i := 0) V Xb V V V (Za 111 V V V (Yg (xs := [.tmp 108, .tmp 110]) V V (Has_c m ys) by1 ?_)))))))))))))); intro c111 h111
   refine Vs (Zb ?_)
   rcases Zi h111 with ⟨rfl, g111⟩ | ⟨rfl, g111⟩
   ·refine Zr V (Zv (Zb (Zg ?_)))
    rw [if_neg (by rw [hasB_no g111]; simp)] at hj
    refine Zc (Za 115 V V V (Zd V V (Za 116 V V V (Zh V tf_140_0 V (Za 117 V V V (Zp (i := 0) V Xb V V V (Za 118 V V V (Ye (xs := [.tmp 117]) el_68 V V V V V V (Uf V) (Za 119 V V V (Xj (i := 3) el_68 V V V V (.seq _ _) by6 ?_))))))))))
    intro u119
    refine Za 6 V V V (Ze V V (Vs (Zb (Zg (Zg (Zc (Za 120 V V V (Zh V tf_140_1 V (Za 121 V V V (Zp (i := 0) V Vg V V V ?_))))))))))
    refine Za 122 V V V (Yy V tu_23 V (.seq _ _) (fun n122 => ?_))
    refine Za 123 V V V (Ww V V V ?_); intro c123 h123
    refine Vs (Zb ?_)
    rcases Zi h123 with ⟨rfl, g123⟩ | ⟨rfl, g123⟩
    ·refine Zr V (Zv (Zb (Zg ?_)))
     rw [if_neg (by omega)] at hj
     obtain ⟨e, he⟩ : ∃ e, rightsR (En.mk da cl ins) xps yts = e := ⟨_, rfl⟩
     rw [he] at hj
     refine Zc (Za 12 V V V (Ze V V (Vs (Zb (Zz ?_)))))
     refine c_le (al' := [(1, .cptr [.seq 5 (Da.cellss da), .seq 6 (Cl.cellss cl), .seq 8 (In.cellss ins)]), (2, .ptr b2 0), (6, .own u119 1 (strs (m ++ [ys]))), (7, .val (.int .i64 i)), (8, .ptr b8 0), (10, .val (.int .i64 j)), (11, .ptr b11 0), (12, .val (.int .i64 0))]) (Uc V (Vz _) (Uc V (Vz _) (Uc V (Ue (by rw [strs_app]; rfl)) by4))) (Vt _) ?_
     apply Xm [0, 3, 4, 5, 12, 13, 14, 15, 16, 17, 18, 19, 20, 21, 22, 23, 24, 25, 26, 27, 28, 29, 30, 31, 32, 33, 34, 35, 36, 37, 38, 39, 40, 41, 42, 43, 44, 45, 46, 47, 48, 49, 50, 51, 52, 53, 54, 55, 56, 57, 58, 60, 61, 62, 63, 127, 128, 129, 130, 131, 132, 133, 134, 135, 136, 137, 138, 139, 140, 141, 142, 143, 144, 145, 146, 147, 148] (σ := Nat) (fun zz => match zz with | n => [(12, .val (.int .i64 n))]) (fun zz => match zz with | n => n ≤ yts.length ∧ rightsR (En.mk da cl ins) xps (yts.drop n) = e) (fun zz => match zz with | n => yts.length - n) (0)
     ·repeat' (first | exact Ui | apply Ug rfl | apply Uh rfl)
     ·exact ⟨Nat.zero_le _, he⟩
     ·exact by4
     rintro n hI
     try dsimp only [List.cons_append, List.nil_append] at hI ⊢
     obtain ⟨n1, hn⟩ := hI
     refine Zg (Zg (Zc (Za 127 V V V (Zd V V (Za 128 V V V (Zh V tf_140_1 V (Za 129 V V V (Zp (i := 0) V Vg V V V ?_))))))))
     refine Za 130 V V V (Yy V tu_23 V (.seq _ _) (fun n130 => ?_))
     refine Za 131 V V V (Yu V V V ?_); intro c131 h131
     refine Vs (Zb ?_)
     rcases Zi h131 with ⟨rfl, g131⟩ | ⟨rfl, g131⟩
     ·refine Zr V (Xc (Xe (Xv (Xd (Yt (Zb (Zc (Za 101 V V V (Zd V V (Za 102 V V V (Yx V V V (Uj _ (by omega)) ?_)))))))))))
      refine Za 10 V V V (Ze V V (Vs (Yz ?_)))
      rw [Ul (by omega), rightsR] at hn
      rw [if_neg (by omega)] at hj
      exact ⟨(j + 1, m ++ [ys], u119), ⟨by show j + 1 ≤ xcs.length; omega, hj, by show (m ++ [ys]).length ≤ 100000 * i + (j + 1); simp; omega⟩, by show xcs.length - (j + 1) < xcs.length - j; omega, Uc V (Vz _) by4, (Vw _ (Vy V))⟩
     refine Zt V (Zv (Zb (Zg (Zz (Zg ?_)))))
     obtain ⟨⟨zk, zs, zn, zl⟩, hz⟩ := Yw (l := yts) (i := n) (by omega)
     have hcz := Ty.cellss_get hz
     have H := HR xps (.mk zk zs zn zl)
     rw [Xp hz, rightsR] at hn
     simp only [Ty.cells] at hcz H
     refine Vl Wo V (Zm 134 V V (Yc (cs' := [_, _, _]) V Xw V V V ⟨V, V⟩) ?_)
     refine Zm 135 V V (Zh V tf_102_1 V ⟨V, V⟩) ?_
     refine Zm 136 V V (Zp (i := 1) V ta_68 V V V ⟨V, V⟩) ?_
     refine Zm 137 V V (Zh V tf_140_1 V ⟨V, V⟩) ?_
     refine Zm 138 V V (Zp (i := 0) V Vg V V V ⟨V, V⟩) ?_
     refine Zm 139 V V (Zd V V ⟨V, V⟩) ?_
     refine Zm 140 V V (Yd V te_23 V (.seq _ _) V V (hcz) ⟨V, V⟩) ?_
     refine Zm 141 V V (Yc (cs' := [_, _, _, _]) V Xz V V V ⟨V, V⟩) ?_
     refine Zm 142 V V (Ym (xs := [.tmp 134, .tmp 136, .tmp 141]) V V (H) by1 ⟨V, V⟩) ?_
     refine Zm 13 V V (Ze V V ⟨V, V⟩) ?_
     show AGo _ _ _ _ _ _ _
     refine Zb (Zg (Zc (Za 143 V V V (Zd V V (Za 144 V V V (Xq V V V ?_)))))); intro c144 h144
     refine Vs (Zb ?_)
     rcases Zi h144 with ⟨rfl, g144⟩ | ⟨rfl, g144⟩
     ·refine Zr V (Zv (Yt (Zb (Zc (Za 132 V V V (Zd V V (Za 133 V V V (Yx V V V (Uj _ (by omega)) ?_))))))))
      refine Za 12 V V V (Ze V V (Vs (Yz ?_)))
      rw [if_neg g144] at hn; exact ⟨n + 1, ⟨by omega, hn⟩, by show yts.length - (n + 1) < yts.length - n; omega, by4, by3⟩
     refine Zt V (Zg (Zc (Za 145 V V V (Zd V V (Za 146 V V V (Zh V tf_140_2 V (Za 147 V V V (Zp (i := 0) V Xa V V V (Za 148 V V V (Yl (ns := [0, 1]) (xs := [.tmp 145, .tmp 147]) V Vn V Vj V V V V (Zs V V (Zq (cs' := [_, _]) (i := 2) V Vi V V V V V (Uf V) V (Vs (Zb (Ya ?_)))))))))))))))
     rw [if_pos g144] at hn; subst hn; rw [if_pos g144] at hj; cases hj; rw [if_pos g144] at hw; subst hw; exact Yn (i := 2) rfl rfl rfl Ve rfl (Vz _) (Vu _) ⟨rfl, rfl⟩
    refine Zt V (Zg (Zc (Za 124 V V V (Zh V tf_140_2 V (Za 125 V V V (Zp (i := 0) V Xa V V V (Za 126 V V V (Yl (ns := [0, 1]) (xs := [.const (.int .i64 3), .tmp 125]) V Vn V Vj V V V V (Zs V V (Zq (cs' := [_, _]) (i := 2) V Vi V V V V V (Uf V) V (Vs (Zb (Ya ?_)))))))))))))
    rw [if_pos (by omega)] at hj; cases hj; rw [if_pos (by simp)] at hw; subst hw; exact Yn (i := 2) rfl rfl rfl Ve rfl (Vz _) (Vu _) ⟨rfl, rfl⟩
   refine Zt V (Zg (Zc (Za 112 V V V (Zh V tf_140_2 V (Za 113 V V V (Zp (i := 0) V Xa V V V (Za 114 V V V (Yl (ns := [0, 1]) (xs := [.const (.int .i64 120), .tmp 113]) V Vn V Vj V V V V (Zs V V (Zq (cs' := [_, _]) (i := 2) V Vi V V V V V (Uf V) V (Vs (Zb (Ya ?_)))))))))))))
   rw [if_pos (hasB_iff.2 g111)] at hj; cases hj; rw [if_pos (by simp)] at hw; subst hw; exact Yn (i := 2) rfl rfl rfl Ve rfl (Vz _) (Vu _) ⟨rfl, rfl⟩
  refine Zt V (Zv (Zb (Zg (Zz (Zg ?_)))))
  obtain ⟨s, hxs⟩ := Yw (l := xps) (i := k) by7
  have hcs := strs_get hxs
  have hms := Uk hxs
  rw [Xp hxs, dupB] at hk
  have hss := Wl hxs
  have HH := Has_c (xps.take k) s
  rw [← strs_take] at HH
  refine Vl Wo V (Zm 83 V V (Zh V tf_102_1 V ⟨V, V⟩) ?_)
  refine Zm 84 V V (Zp (i := 0) V ta_68 V V V ⟨V, V⟩) ?_
  refine Zm 85 V V (Zd V V ⟨V, V⟩) ?_
  refine Zm 86 V V (op_cuth V te_68 V (.seq _ _) V V (by omega) ⟨V, V⟩) ?_
  refine Zm 87 V V (Zh V tf_102_1 V ⟨V, V⟩) ?_
  refine Zm 88 V V (Zp (i := 0) V ta_68 V V V ⟨V, V⟩) ?_
  refine Zm 89 V V (Zd V V ⟨V, V⟩) ?_
  refine Zm 90 V V (Yd V te_68 V (.seq _ _) V V (hcs) ⟨V, V⟩) ?_
  refine Zm 91 V V (Zo V Xb V V ⟨V, V⟩) ?_
  refine Wd 92 V V (fun _ q => Yg (xs := [.tmp 86, .tmp 91]) V V (HH) by1 q) ?_; intro c92 h92
  show AGo _ _ _ _ _ _ _
  refine Zb ?_
  rcases Zi h92 with ⟨rfl, g92⟩ | ⟨rfl, g92⟩
  ·refine Zr V (Zv (Yt (Zb (Zc (Za 81 V V V (Zd V V (Za 82 V V V (Yx V V V (Uj _ (by omega)) ?_))))))))
   refine Za 9 V V V (Ze V V (Vs (Yz ?_)))
   rw [if_neg (by rw [hasB_no g92]; simp)] at hk; exact ⟨k + 1, ⟨by omega, by rw [hss]; exact hk⟩, by show xps.length - (k + 1) < xps.length - k; omega, by4, by3⟩
  refine Zt V (Zg (Zc (Za 93 V V V (Zh V tf_102_4 V (Za 94 V V V (Zp (i := 0) V Xa V V V (Za 95 V V V (Yl (ns := [0, 1]) (xs := [.const (.int .i64 120), .tmp 94]) V Vn V Vj V V V V (Zs V V (Zq (cs' := [_, _]) (i := 1) V Vi V V V V V (Uf V) V (Vs (Zb (Ya ?_)))))))))))))
  rw [if_pos (hasB_iff.2 g92)] at hk; rw [if_pos hk.symm] at hw; subst hw; exact Yn (i := 1) rfl rfl rfl Ve rfl (Vz _) (Vu _) ⟨rfl, rfl⟩
 refine Zt V (Zv (Zb (Zg (Zz (Zg ?_)))))
 obtain ⟨⟨xs, xps, xcs, xdv, xp⟩, hxx⟩ := Yw (l := da) (i := i) by7
 have hcx := Da.cellss_get hxx
 have hmx := Uk hxx
 rw [Xp hxx, datas1] at hu
 have hsn := Wl hxx
 have hu : (if baseB xs = true then (120, xp) else if hasB ((da.take i).map Da.s) xs = true then (120, xp) else datas1 ((da.take i).map Da.s ++ [xs]) (da.drop (i + 1))) = r1 := hu
 refine Zc (Za 21 V V V (Zj V tf_38_0 V V (Za 22 V V V (Zo V ta_34 V V (Za 23 V V V (Zd V V (Za 24 V V V (Yd V te_34 V (.seq _ _) V V (hcx) (Za 25 V V V (Yc (cs' := [_, _, _, _, _]) V ta_102 V V V (Za 4 V V V (Zy (cs' := [_, _, _, _, _]) V tz_102 V V ?_)))))))))))); intro b4
 refine Zs V V (Zq (cs' := [_, _, _, _, _]) (i := 0) V ts_102 V V V V V (Uf V) V (Vs (Zb (Zg (Zg (Xl 43 (xs = kIntT ∨ xs = kStrT ∨ xs = kRefT ∨ xs = kArrow) ?_ _ _ V ?_))))))
 ·skip
  refine Za 26 V V V (Zh V tf_102_0 V (Za 27 V V V (Zp (i := 0) V Xb V V V (Za 28 V V V (Xx V V V ?_))))); intro c28 h28
  refine Za 29 V V V (Zd V V ?_)
  rcases Zi h28 with ⟨rfl, g28⟩ | ⟨rfl, g28⟩
  ·skip
   refine Zl 30 V V V V V (Zh V tf_102_0 V (Zl 31 V V V V V (Zp (i := 0) V Xb V V V (Zl 32 V V V V V (Xx V V V ?_))))); intro c32 h32
   refine Za 33 V V V (Zn V V V (Za 34 V V V (Zd V V ?_)))
   rcases Zi h32 with ⟨rfl, g32⟩ | ⟨rfl, g32⟩
   ·skip
    refine Zl 35 V V V V V (Zh V tf_102_0 V (Zl 36 V V V V V (Zp (i := 0) V Xb V V V (Zl 37 V V V V V (Xx V V V ?_))))); intro c37 h37
    refine Za 38 V V V (Zn V V V (Za 39 V V V (Zd V V ?_)))
    rcases Zi h37 with ⟨rfl, g37⟩ | ⟨rfl, g37⟩
    ·skip
     refine Zl 40 V V V V V (Zh V tf_102_0 V (Zl 41 V V V V V (Zp (i := 0) V Xb V V V (Zl 42 V V V V V (Xx V V V ?_))))); intro c42 h42
     refine Za 43 V V V (Zn V V V (Vs (Ud V ?_ by5 by3)))
     simp_all; done
    skip
    refine Zk 40 V V V V V (Zk 41 V V V V V (Zk 42 V V V V V (Za 43 V V V (Zn V V V (Vs (Ud V ?_ by5 by3))))))
    simp_all; done
   skip
   refine Zk 35 V V V V V (Zk 36 V V V V V (Zk 37 V V V V V (Za 38 V V V (Zn V V V (Za 39 V V V (Zd V V (Zk 40 V V V V V (Zk 41 V V V V V (Zk 42 V V V V V (Za 43 V V V (Zn V V V (Vs (Ud V ?_ by5 by3)))))))))))))
   simp_all; done
  skip
  refine Zk 30 V V V V V (Zk 31 V V V V V (Zk 32 V V V V V (Za 33 V V V (Zn V V V (Za 34 V V V (Zd V V (Zk 35 V V V V V (Zk 36 V V V V V (Zk 37 V V V V V (Za 38 V V V (Zn V V V (Za 39 V V V (Zd V V (Zk 40 V V V V V (Zk 41 V V V V V ?_)))))))))))))))
  refine Zk 42 V V V V V (Za 43 V V V (Zn V V V (Vs (Ud V ?_ by5 by3))))
  simp_all; done
 intro c43 h43
 refine Zb ?_
 rcases Zi h43 with ⟨rfl, g43⟩ | ⟨rfl, g43⟩
 ·refine Zr V (Zv (Zb (Zg ?_)))
  rw [if_neg (by unfold baseB; simp only [Bool.or_eq_true, Wt]; simpa [or_assoc] using g43)] at hu
  refine Zc (Za 5 V V V (Ze V V (Vs (Zb (Zz ?_)))))
  apply Xm [0, 5, 47, 48, 49, 50, 51, 52, 53, 54, 55, 56, 57, 58, 59, 60, 61, 62, 63] (σ := Nat) (fun zz => match zz with | j => [(5, .val (.int .i64 j))]) (fun zz => match zz with | j => j ≤ i ∧ ¬ xs ∈ (da.take j).map Da.s) (fun zz => match zz with | j => i - j) (0)
  ·repeat' (first | exact Ui | apply Ug rfl | apply Uh rfl)
  ·exact ⟨Nat.zero_le _, by simp⟩
  ·exact by4
  rintro j hI
  try dsimp only [List.cons_append, List.nil_append] at hI ⊢
  obtain ⟨h2, hn⟩ := hI
  refine Zg (Zg (Zc (Za 47 V V V (Zd V V (Za 48 V V V (Zd V V (Za 49 V V V (Yu V V V ?_)))))))); intro c49 h49
  refine Vs (Zb ?_)
  rcases Zi h49 with ⟨rfl, g49⟩ | ⟨rfl, g49⟩
  ·refine Zr V (Xc (Xe (Xv (Xd (Yt (Zb (Zc (Za 19 V V V (Zd V V (Za 20 V V V (Yx V V V (Uj _ (by omega)) ?_)))))))))))
   refine Za 3 V V V (Ze V V (Vs (Yz ?_)))
   obtain rfl : j = i := by omega
   rw [if_neg (by rw [hasB_no hn]; simp)] at hu
   exact ⟨j + 1, ⟨by omega, by rw [hsn, List.map_append]; exact hu⟩, by show da.length - (j + 1) < da.length - j; omega, by4, by3⟩
  refine Zt V (Zv (Zb (Zg (Zz (Zg ?_)))))
  obtain ⟨⟨ys, yps, ycs, ydv, yp⟩, hxy⟩ := Yw (l := da) (i := j) by7
  have hcy := Da.cellss_get hxy
  have hmy := Uk hxy
  have hsy := Wl hxy
  refine Vl Wo V (Zm 52 V V (Zj V tf_38_0 V V ⟨V, V⟩) ?_)
  refine Zm 53 V V (Zo V ta_34 V V ⟨V, V⟩) ?_
  refine Zm 54 V V (Zd V V ⟨V, V⟩) ?_
  refine Zm 55 V V (Yd V te_34 V (.seq _ _) V V (hcy) ⟨V, V⟩) ?_
  refine Zm 56 V V (Zj V tf_102_0 V V ⟨V, V⟩) ?_
  refine Zm 57 V V (Zo V Xb V V ⟨V, V⟩) ?_
  refine Zm 58 V V (Zh V tf_102_0 V ⟨V, V⟩) ?_
  refine Zm 59 V V (Zp (i := 0) V Xb V V V ⟨V, V⟩) ?_
  refine Wd 60 V V (fun _ q => Xx V V V q) ?_; intro c60 h60
  show AGo _ _ _ _ _ _ _
  refine Zb ?_
  rcases Zi h60 with ⟨rfl, g60⟩ | ⟨rfl, g60⟩
  ·refine Zr V (Zv (Yt (Zb (Zc (Za 50 V V V (Zd V V (Za 51 V V V (Yx V V V (Uj _ (by omega)) ?_))))))))
   refine Za 5 V V V (Ze V V (Vs (Yz ?_)))
   exact ⟨j + 1, ⟨by omega, by rw [hsy, List.map_append, List.mem_append]; simp only [List.map_cons, List.map_nil, List.mem_singleton]; exact fun q => q.elim hn (fun e => g60 e.symm)⟩, by show i - (j + 1) < i - j; omega, by4, by3⟩
  refine Zt V (Zg (Zc (Za 61 V V V (Zh V tf_102_4 V (Za 62 V V V (Zp (i := 0) V Xa V V V (Za 63 V V V (Yl (ns := [0, 1]) (xs := [.const (.int .i64 120), .tmp 62]) V Vn V Vj V V V V (Zs V V (Zq (cs' := [_, _]) (i := 1) V Vi V V V V V (Uf V) V (Vs (Zb (Ya ?_)))))))))))))
  have htk : (da.take i)[j]? = some (Da.mk ys yps ycs ydv yp) := by rw [List.getElem?_take_of_lt (by omega)]; exact hxy
  rw [if_pos (hasB_iff.2 (List.mem_map.2 ⟨_, Uk htk, g60⟩))] at hu; rw [← hu, if_pos (by simp)] at hr; subst hr; exact Yn (i := 1) rfl rfl rfl Ve rfl (Vz _) (Vu _) ⟨rfl, rfl⟩
 refine Zt V (Zg (Zc (Za 44 V V V (Zh V tf_102_4 V (Za 45 V V V (Zp (i := 0) V Xa V V V (Za 46 V V V (Yl (ns := [0, 1]) (xs := [.const (.int .i64 120), .tmp 45]) V Vn V Vj V V V V (Zs V V (Zq (cs' := [_, _]) (i := 1) V Vi V V V V V (Uf V) V (Vs (Zb (Ya ?_)))))))))))))
 rw [if_pos (by unfold baseB; simp only [Bool.or_eq_true, Wt]; simpa [or_assoc] using g43)] at hu; rw [← hu, if_pos (by simp)] at hr; subst hr; exact Yn (i := 1) rfl rfl rfl Ve rfl (Vz _) (Vu _) ⟨rfl, rfl⟩
end Go.Proofs.YtknodnfbaofngaaGreat
namespace Go.Proofs.YtknodnfbaofngaaGreat
noncomputable instance : DecidableEq Ty := fun a b => Classical.propDecidable (a = b)
theorem mem_addVar (s : ByteArray) (acc : List ByteArray) (x : Ty) : s ∈ addVar acc x ↔ s ∈ acc ∨ (x.kind = 1 ∧ x.name = s) := by
 unfold addVar
 by_cases h : x.kind = 1 ∧ x.name ∉ acc
 ·rw [if_pos h, List.mem_append]
  constructor
  ·rintro (q | q)
   ·exact Or.inl q
   exact Or.inr ⟨h.1, (List.mem_singleton.1 q).symm⟩
  rintro (q | q)
  ·exact Or.inl q
  exact Or.inr (List.mem_singleton.2 q.2.symm)
 rw [if_neg h]
 constructor
 ·exact Or.inl
 rintro (q | q)
 ·exact q
 by_cases hm : x.name ∈ acc
 ·rw [q.2] at hm; exact hm
 exact absurd ⟨q.1, hm⟩ h
theorem mem_foldVar (s : ByteArray) : ∀ (l : List Ty) (acc : List ByteArray), s ∈ l.foldl addVar acc ↔ s ∈ acc ∨ ∃ x ∈ l, x.kind = 1 ∧ x.name = s
 | [], acc => by simp
 | x :: l, acc => by
  rw [List.foldl_cons, mem_foldVar s l, mem_addVar]
  simp only [List.mem_cons, exists_eq_or_imp]
  exact or_assoc
mutual
theorem Ty.VarOk.all : ∀ t : Ty, t.VarOk → ∀ x ∈ t.all, x.VarOk
 | .mk k s n ks, h, x, hx => by
  rw [Ty.all] at hx
  rcases List.mem_cons.1 hx with rfl | hx
  ·exact h
  obtain ⟨_, _, _, _, _, hk⟩ := h
  exact Ty.VarOk.alls ks hk x hx
theorem Ty.VarOk.alls : ∀ ts : List Ty, (∀ t ∈ ts, t.VarOk) → ∀ x ∈ Ty.alls ts, x.VarOk
 | [], _, x, hx => by rw [Ty.alls] at hx; simp at hx
 | t :: ts, h, x, hx => by
  rw [Ty.alls] at hx
  rcases List.mem_append.1 hx with hx | hx
  ·exact Ty.VarOk.all t (h t (by simp)) x hx
  exact Ty.VarOk.alls ts (fun y hy => h y (by simp [hy])) x hx
end
end Go.Proofs.YtknodnfbaofngaaGreat
