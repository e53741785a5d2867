/- Parts of a proof: the document's parser: fail, take, may, deeper; the document's parser: name, uppers, starts; the document's parser: atype, Type; the document's parser: apat, pat; fix.Level; cognateref04.Level; the document's operators: Level, Side, Clash; the document's parser: Build; the document's parser: bind, lambda; the document's parser: atom; the document's parser: atom, in brackets; the document's parser: operand; the document's parser: Exp; the document's parser: data; the document's parser: class -/
import Derived.Test.YtknodnfbaofngaaGreatKLNBack6
set_option maxRecDepth 100000
set_option maxHeartbeats 4000000
namespace Go.Proofs.YtknodnfbaofngaaGreat
open Go.RowKit
theorem fail_c (b : Nat) (L : List Tok) (p : PS) (e wh : Int) : MCall Tryz.prog 79 [.ptr b 0, .val (.int .i64 e), .val (.int .i64 wh)] (.loc b (psC L p)) (.tup []) (.loc b (psC L (failP p e wh))) := by
 obtain ⟨a, lv, e0, wh0⟩ := p
 have hf : failP ⟨a, lv, e0, wh0⟩ e wh = if e0 = 0 then ⟨a, lv, e, wh⟩ else ⟨a, lv, e0, wh0⟩ := rfl
 rw [hf]
 simp only [psC]
 refine Zw Tryz.func79 V (by kernel_rfl) V (Uf V) ?_
 refine Yf (Zg (Zc (Za 6 V V V (Zd V V (Za 7 V V V (Yk V V (Za 8 V V V (Zh V Vo V (Za 9 V V V (Zp (i := 0) V Xa V V V (Za 10 V V V (Yr V V V ?_)))))))))))); intro c10 h10
 refine Vs (Zb ?_)
 rcases Zi h10 with ⟨rfl, g10⟩ | ⟨rfl, g10⟩
 ·refine Zr V (Zv (go_end ?_))
  exact out_none V (Vy (by simp [g10] <;> rfl)) ⟨V, V⟩
 refine Zt V (Zg (Zc (Za 11 V V V (Zd V V (Za 12 V V V (Zd V V (Za 13 V V V (Yk V V (Za 14 V V V (Zh V Vo V (Zs V V (Zq (i := 0) V Wh V V V V V (Uf V) V (Vs (Zb (Zc (Za 15 V V V (Zd V V (Za 16 V V V (Zd V V (Za 17 V V V (Yk V V (Za 18 V V V (Zh V tf_95_4 V (Zs V V (Zq (i := 0) V Wh V V V V V (Uf V) V ?_)))))))))))))))))))))))))
 refine Vs (go_end ?_)
 exact out_none V (Vy (by simp [g10] <;> rfl)) ⟨V, V⟩
theorem take_c (b : Nat) (L : List Tok) (hL : L.length ≤ 100000) (p : PS) (hp : p.at_ ≤ L.length) (kind : Int) (s : ByteArray) : MCall Tryz.prog 55 [.ptr b 0, .val (.int .i64 kind), .val (.string s)] (.loc b (psC L p)) (.agg (takeP L p kind s).1.av) (.loc b (psC L (takeP L p kind s).2)) := by
 have HN := next_c b L p
 have HF := fail_c b L p 110 (nxt L p).a
 obtain ⟨t, ht⟩ : ∃ t, nxt L p = t := ⟨_, rfl⟩
 obtain ⟨r, hr⟩ : ∃ r, takeP L p kind s = r := ⟨_, rfl⟩
 have hr0 := hr
 unfold takeP at hr
 rw [ht] at HN HF hr
 rw [hr0]
 obtain ⟨a, lv, e0, wh0⟩ := p
 obtain ⟨tk, tt, tn, ta⟩ := t
 have hp : a ≤ L.length := hp
 simp only [psC, Tok.av] at HN HF hr ⊢
 refine Zw Tryz.func55 V (by kernel_rfl) V (Uf V) ?_
 refine Yf (Zg (Zc (Za 6 V V V (Zy (cs' := [_, _, _, _]) V Wj V V ?_)))); intro b6
 refine Vs (Zb (Zg (Zc (Za 8 V V V (Zd V V (Za 9 V V V (Wr (xs := [.tmp 8]) [1] V V V (HN) by1 ?_)))))))
 refine Za 7 V V V (Zy (cs' := [_, _, _, _]) V Wj V V ?_); intro b7
 refine Zs V V (Zq (cs' := [_, _, _, _]) (i := 0) V Xk V V V V V (Uf V) V (Vs (Zb (Zg (Zg (Zc (Za 10 V V V (Zd V V (Za 11 V V V (Yk V V (Za 12 V V V (Zh V Vo V (Za 13 V V V (Zp (i := 2) V Xa V V V (Za 14 V V V (Xq V V V ?_)))))))))))))))); intro c14 h14
 refine Vs (Zb ?_)
 rcases Zi h14 with ⟨rfl, g14⟩ | ⟨rfl, g14⟩
 ·refine Zr V (Zv (Zb (Zg (Zg (Xl 38 ((kind < 6 ∧ tk ≠ kind) ∨ (6 ≤ kind ∧ (tk < 6 ∨ tt ≠ s))) ?_ _ _ V ?_)))))
  ·skip
   refine Za 16 V V V (Zd V V (Za 17 V V V (Yu V V V ?_))); intro c17 h17
   refine Za 18 V V V (Zd V V ?_)
   rcases Zi h17 with ⟨rfl, g17⟩ | ⟨rfl, g17⟩
   ·skip
    refine Zk 19 V V V V V (Zk 20 V V V V V (Zk 21 V V V V V (Zk 22 V V V V V (Za 23 V V V (Zn V V V (Za 24 V V V (Zd V V (Zl 25 V V V V V (Zd V V (Zl 26 V V V V V (Wa V V V ?_))))))))))); intro c26 h26
    refine Zl 27 V V V V V (Zd V V ?_)
    rcases Zi h26 with ⟨rfl, g26⟩ | ⟨rfl, g26⟩
    ·skip
     refine Zk 28 V V V V V (Zk 29 V V V V V (Zk 30 V V V V V (Zk 31 V V V V V (Yj 32 V V V V V (Yj 33 V V V V V (Yj 34 V V V V V (Yj 35 V V V V V (Zk 36 V V V V V (Zl 37 V V V V V (Zn V V V (Za 38 V V V (Zn V V V (Vs ?_)))))))))))))
     refine Ud V ?_ by5 by3
     clear HN HF hr; first | (simp_all; done) | grind
    skip
    refine Zl 28 V V V V V (Zh V Xf V (Zl 29 V V V V V (Zp (i := 0) V Xa V V V (Zl 30 V V V V V (Yu V V V ?_))))); intro c30 h30
    refine Zl 31 V V V V V (Zd V V ?_)
    rcases Zi h30 with ⟨rfl, g30⟩ | ⟨rfl, g30⟩
    ·skip
     refine Zl 32 V V V V V (Zh V Xh V (Zl 33 V V V V V (Zp (i := 0) V Xb V V V (Zl 34 V V V V V (Zd V V (Zl 35 V V V V V (op_sneq V V V ?_))))))); intro c35 h35
     refine Zl 36 V V V V V (Zn V V V (Zl 37 V V V V V (Zn V V V (Za 38 V V V (Zn V V V (Vs (Ud V ?_ by5 by3)))))))
     clear HN HF hr; first | (simp_all; done) | grind
    skip
    refine Zk 32 V V V V V (Zk 33 V V V V V (Zk 34 V V V V V (Zk 35 V V V V V (Zl 36 V V V V V (Zn V V V (Zl 37 V V V V V (Zn V V V (Za 38 V V V (Zn V V V (Vs (Ud V ?_ by5 by3)))))))))))
    clear HN HF hr; first | (simp_all; done) | grind
   skip
   refine Zl 19 V V V V V (Zh V Xf V (Zl 20 V V V V V (Zp (i := 0) V Xa V V V (Zl 21 V V V V V (Zd V V (Zl 22 V V V V V (Xq V V V ?_))))))); intro c22 h22
   refine Za 23 V V V (Zn V V V (Za 24 V V V (Zd V V ?_)))
   rcases Zi h22 with ⟨rfl, g22⟩ | ⟨rfl, g22⟩
   ·skip
    refine Zl 25 V V V V V (Zd V V (Zl 26 V V V V V (Wa V V V ?_))); intro c26 h26
    refine Zl 27 V V V V V (Zd V V ?_)
    rcases Zi h26 with ⟨rfl, g26⟩ | ⟨rfl, g26⟩
    ·skip
     refine Zk 28 V V V V V (Zk 29 V V V V V (Zk 30 V V V V V (Zk 31 V V V V V (Yj 32 V V V V V (Yj 33 V V V V V (Yj 34 V V V V V (Yj 35 V V V V V (Zk 36 V V V V V (Zl 37 V V V V V (Zn V V V (Za 38 V V V (Zn V V V (Vs ?_)))))))))))))
     refine Ud V ?_ by5 by3
     clear HN HF hr; first | (simp_all; done) | grind
    skip
    refine Zl 28 V V V V V (Zh V Xf V (Zl 29 V V V V V (Zp (i := 0) V Xa V V V (Zl 30 V V V V V (Yu V V V ?_))))); intro c30 h30
    refine Zl 31 V V V V V (Zd V V ?_)
    rcases Zi h30 with ⟨rfl, g30⟩ | ⟨rfl, g30⟩
    ·skip
     refine Zl 32 V V V V V (Zh V Xh V (Zl 33 V V V V V (Zp (i := 0) V Xb V V V (Zl 34 V V V V V (Zd V V (Zl 35 V V V V V (op_sneq V V V ?_))))))); intro c35 h35
     refine Zl 36 V V V V V (Zn V V V (Zl 37 V V V V V (Zn V V V (Za 38 V V V (Zn V V V (Vs (Ud V ?_ by5 by3)))))))
     clear HN HF hr; first | (simp_all; done) | grind
    skip
    refine Zk 32 V V V V V (Zk 33 V V V V V (Zk 34 V V V V V (Zk 35 V V V V V (Zl 36 V V V V V (Zn V V V (Zl 37 V V V V V (Zn V V V (Za 38 V V V (Zn V V V (Vs (Ud V ?_ by5 by3)))))))))))
    clear HN HF hr; first | (simp_all; done) | grind
   skip
   refine Zk 25 V V V V V (Zk 26 V V V V V (Zk 27 V V V V V (Yj 28 V V V V V (Yj 29 V V V V V (Yj 30 V V V V V (Yj 31 V V V V V (Yj 32 V V V V V (Yj 33 V V V V V (Yj 34 V V V V V (Yj 35 V V V V V (Yj 36 V V V V V ?_)))))))))))
   refine Zk 37 V V V V V (Za 38 V V V (Zn V V V (Vs (Ud V ?_ by5 by3))))
   clear HN HF hr; first | (simp_all; done) | grind
  intro c38 h38
  refine Zb ?_
  rcases Zi h38 with ⟨rfl, g38⟩ | ⟨rfl, g38⟩
  ·refine Zr V (Zv (Zb (Zg (Zc (Za 44 V V V (Zd V V (Za 45 V V V (Yk V V (Za 46 V V V (Zh V tf_95_1 V (Za 47 V V V (Zp (i := 2) V Xa V V V (Za 48 V V V (Yx V V V (Uj _ (by omega)) ?_))))))))))))))
   refine Za 49 V V V (Yk V V (Za 50 V V V (Zh V tf_95_1 V (Zs V V (Zq (i := 2) V Wh V V V V V (Uf V) V (Vs (Zb (Zg (Zc (Za 51 V V V (Zx (cs' := [_, _, _, _]) (i := 0) V Yq V V V V (Zs V V (Zq (cs' := [_, _, _, _]) (i := 1) V Xk V V V V V (Uf V) V (Vs (Zb (Ya ?_))))))))))))))))
   rw [if_neg g14, if_neg g38] at hr; subst hr; exact Yn (i := 1) rfl rfl rfl Yq rfl (Vz _) (Vw _ (Vw _ (Vy rfl))) ⟨rfl, rfl⟩
  refine Zt V (Zg (Zc (Za 39 V V V (Zd V V (Za 40 V V V (Zh V Wv V (Za 41 V V V (Zp (i := 0) V Xa V V V (Za 42 V V V (Yi (xs := [.tmp 39, .const (.int .i64 110), .tmp 41]) (i := 2) V V V (HF) by1 ?_))))))))))
  refine Vs (Zb (Zg (Zc (Za 43 V V V (Yl (ns := []) (xs := []) V Wj V tfl_97 V V V V (Zs V V (Zq (cs' := [_, _, _, _]) (i := 1) V Xk V V V V V (Uf V) V (Vs (Zb (Ya ?_))))))))))
  rw [if_neg g14, if_pos g38] at hr; subst hr; exact Yn (i := 1) rfl rfl rfl Yq rfl (Vz _) by3 ⟨rfl, rfl⟩
 refine Zt V (Zg (Zc (Za 15 V V V (Zx (cs' := [_, _, _, _]) (i := 0) V Yq V V V V (Zs V V (Zq (cs' := [_, _, _, _]) (i := 1) V Xk V V V V V (Uf V) V (Vs (Zb (Ya ?_)))))))))
 rw [if_pos g14] at hr; subst hr; exact Yn (i := 1) rfl rfl rfl Yq rfl (Vz _) by3 ⟨rfl, rfl⟩
theorem may_c (b : Nat) (L : List Tok) (hL : L.length ≤ 100000) (p : PS) (s : ByteArray) : MayCall Tryz.prog 51 [.ptr b 0, .val (.string s)] (.loc b (psC L p)) (isP L p s = true) (.loc b (psC L (stepP p))) := by
 have HI := is_p b L p s
 have hl := is_lt (L := L) (p := p) (s := s)
 obtain ⟨a, lv, e0, wh0⟩ := p
 simp only [psC] at HI hl ⊢
 refine Zw Tryz.func51 V (by kernel_rfl) V (Uf V) ?_
 refine Yf (Zg (Zc (Za 4 V V V (Ze V V (Vs (Zb (Zg (Zg (Zc (Za 5 V V V (Zd V V (Za 6 V V V (Zd V V (Za 7 V V V (op_callkb (xs := [.tmp 5, .tmp 6]) [0] V V V (HI) by1 ?_))))))))))))))); intro c7 h7
 refine Za 8 V V V (Xr V V ?_); intro c8 h8
 try replace h8 := nott h8 h7
 refine Vs (Zb ?_)
 rcases Zi h8 with ⟨rfl, g8⟩ | ⟨rfl, g8⟩
 ·refine Zr V (Zv (Zb (Zg ?_)))
  have := hl (Classical.not_not.1 g8)
  refine Zc (Za 9 V V V (Zd V V (Za 10 V V V (Yk V V (Za 11 V V V (Zh V tf_95_1 V (Za 12 V V V (Zp (i := 0) V Xa V V V (Za 13 V V V (Yx V V V (Uj _ (by omega)) ?_))))))))))
  exact Za 14 V V V (Yk V V (Za 15 V V V (Zh V tf_95_1 V (Zs V V (Zq (i := 0) V Wh V V V V V (Uf V) V (Vs (Zb (Zg (Zc (Za 4 V V V (Ze V V (Vs (Zb (Ya (Yh V V (Vz _) (Vy V) (.inl ⟨Classical.not_not.1 g8, V, V⟩))))))))))))))))
 exact Zt V (Zg (Zc (Za 4 V V V (Ze V V (Vs (Zb (Ya (Yh V V (Vz _) (Vt _) (.inr ⟨g8, V, V⟩)))))))))
theorem deeper_c (b : Nat) (L : List Tok) (p : PS) (h1 : 0 ≤ p.lv) (h2 : p.lv ≤ 1000) : MCall Tryz.prog 104 [.ptr b 0] (.loc b (psC L p)) (.tup []) (.loc b (psC L (deeperP L p))) := by
 have HN := next_c b L { p with lv := p.lv + 1 }
 have HF := fail_c b L { p with lv := p.lv + 1 } 111 (nxt L { p with lv := p.lv + 1 }).a
 obtain ⟨t, ht⟩ : ∃ t, nxt L { p with lv := p.lv + 1 } = t := ⟨_, rfl⟩
 obtain ⟨r, hr⟩ : ∃ r, deeperP L p = r := ⟨_, rfl⟩
 have hr0 := hr
 unfold deeperP at hr
 rw [ht] at HN HF hr
 rw [hr0]
 obtain ⟨a, lv, e0, wh0⟩ := p
 obtain ⟨tk, tt, tn, ta⟩ := t
 simp only [psC, Tok.av] at HN HF hr h1 h2 ⊢
 refine Zw Tryz.func104 V (by kernel_rfl) V (Uf V) ?_
 refine Yf (Zg (Zc (Za 2 V V V (Zd V V (Za 3 V V V (Yk V V (Za 4 V V V (Zh V tf_95_2 V (Za 5 V V V (Zp (i := 0) V Xa V V V (Za 6 V V V (Yx V V V (Uj _ (by omega)) ?_))))))))))))
 refine Za 7 V V V (Yk V V (Za 8 V V V (Zh V tf_95_2 V (Zs V V (Zq (i := 0) V Wh V V V V V (Uf V) V (Vs (Zb (Zg (Zc (Za 9 V V V (Zd V V (Za 10 V V V (Yk V V (Za 11 V V V (Zh V tf_95_2 V (Za 12 V V V (Zp (i := 0) V Xa V V V (Za 13 V V V (Ww V V V ?_))))))))))))))))))); intro c13 h13
 refine Vs (Zb ?_)
 rcases Zi h13 with ⟨rfl, g13⟩ | ⟨rfl, g13⟩
 ·refine Zr V (Zv (go_end ?_))
  rw [if_neg (by omega)] at hr; subst hr; exact out_none rfl (Vy rfl) ⟨rfl, rfl⟩
 refine Zt V (Zc (Za 14 V V V (Zd V V (Za 15 V V V (Zd V V (Za 16 V V V (Wr (xs := [.tmp 15]) [0] V V V (HN) by1 ?_)))))))
 refine Za 17 V V V (Va (ft := 3) (fo := 3) V (by kernel_rfl) Xa V V ?_)
 refine Za 18 V V V (Yi (xs := [.tmp 14, .const (.int .i64 111), .tmp 17]) (i := 0) V V V (HF) by1 ?_)
 refine Vs (go_end ?_)
 rw [if_pos (by omega)] at hr; subst hr; exact out_none rfl (Vy rfl) ⟨rfl, rfl⟩
theorem pName_c (b : Nat) (L : List Tok) (hL : L.length ≤ 100000) (n : Nat) (p : PS) (k : POk L n p) : MCall Tryz.prog 84 [.ptr b 0] (.loc b (psC L p)) (.agg (nameP L p).1.av) (.loc b (psC L (nameP L p).2)) := by
 refine Zw Tryz.func84 V (by kernel_rfl) V (Uf V) ?_
 refine Yf (Zg (Zc (Za 2 V V V (Zy (cs' := [_, _, _, _]) V Wj V V ?_)))); intro b2
 refine Vs (Zb (Zg (Zg (Zc (Za 4 V V V (Zd V V (Za 5 V V V (op_mayc (xs := [.tmp 4, .const (.string ⟨#[40]⟩)]) (i := 1) V V V (may_c b L hL p kLP) by1 ?_ ?_))))))))
 ·intro g5
  refine Vs (Zb (Zt V (Zg ?_)))
  have a1 := Xo k g5
  have k1 := a1.ok k
  have a2 := Yo (kind := 5) (s := kE) (by decide) k1
  have k2 := a2.ok k1
  refine Zc (Za 6 V V V (Zd V V (Za 7 V V V (Yi (xs := [.tmp 6, .const (.int .i64 5), .const (.string ⟨#[]⟩)]) (i := 1) V V V (take_c b L hL _ k1.1 5 kE) by1 ?_))))
  refine Za 3 V V V (Zy (cs' := [_, _, _, _]) V Wj V V ?_); intro b3
  refine Zs V V (Zq (cs' := [_, _, _, _]) (i := 0) V Xk V V V V V (Uf V) V (Vs (Zb (Zg (Zc (Za 8 V V V (Zd V V (Za 9 V V V (Yi (xs := [.tmp 8, .const (.int .i64 7), .const (.string ⟨#[41]⟩)]) (i := 2) V V V (take_c b L hL _ k2.1 7 kRP) by1 ?_)))))))))
  refine Vs (Zb (Zg (Zc (Za 10 V V V (Zx (cs' := [_, _, _, _]) (i := 0) V Yq V V V V (Zs V V (Zq (cs' := [_, _, _, _]) (i := 1) V Xk V V V V V (Uf V) V (Vs (Zb (Ya ?_))))))))))
  rw [nameP, if_pos g5]; exact Yn (i := 1) rfl rfl rfl Yq rfl (Vz _) (Vw _ (Vw _ (Vy rfl))) ⟨rfl, rfl⟩
 intro g5
 refine Vs (Zb (Zr V (Zv (Zb (Zg (Zc (Za 11 V V V (Zd V V (Za 12 V V V (Yi (xs := [.tmp 11, .const (.int .i64 1), .const (.string ⟨#[]⟩)]) (i := 1) V V V (take_c b L hL _ k.1 1 kE) by1 ?_))))))))))
 refine Zs V V (Zq (cs' := [_, _, _, _]) (i := 0) V Xk V V V V V (Uf V) V (Vs (Zb (Ya ?_))))
 rw [nameP, if_neg g5]; exact Yn (i := 0) rfl rfl rfl Yq rfl (Vz _) (Vw _ (Vy rfl)) ⟨rfl, rfl⟩
theorem uppersL_go {L : List Tok} {f : Nat} {p : PS} {acc : List ByteArray} (h : isP L p kComma = true) : uppersL L (f + 1) p acc = uppersL L f (takeP L (stepP p) 2 kE).2 (acc ++ [(takeP L (stepP p) 2 kE).1.t]) := by rw [uppersL, if_pos h]
theorem uppersL_end {L : List Tok} {f : Nat} {p : PS} {acc : List ByteArray} (h : ¬ isP L p kComma = true) : uppersL L f p acc = (acc, p) := by
 cases f with
 | zero => rfl
 | succ f => rw [uppersL, if_neg h]
theorem uppers_c (b : Nat) (L : List Tok) (hL : L.length ≤ 100000) (n : Nat) (p : PS) (k : POk L n p) : MCall Tryz.prog 83 [.ptr b 0] (.loc b (psC L p)) (.seq 1 (strs (uppersP L p).1)) (.loc b (psC L (uppersP L p).2)) := by
 have a1 := Yo (L := L) (kind := 2) (s := kE) (by decide) k
 have k1 := a1.ok k
 have hE : uppersP L p = uppersL L (L.length + 1) (takeP L p 2 kE).2 [(takeP L p 2 kE).1.t] := rfl
 refine Zw Tryz.func83 V (by kernel_rfl) V (Uf V) ?_
 refine Yf (Zg (Zc (Za 2 V V V (Ze V V (Vs (Zb (Zg (Zc (Za 4 V V V (Zd V V (Za 5 V V V (Yi (xs := [.tmp 4, .const (.int .i64 2), .const (.string ⟨#[]⟩)]) (i := 0) V V V (take_c b L hL _ k.1 2 kE) by1 ?_))))))))))))
 refine Za 6 V V V (Va (ft := 9) (fo := 1) V (by kernel_rfl) Xb V V ?_)
 refine Za 7 V V V (op_buildSlice_own (xs := [.tmp 6]) el_68 V V V V V V (Uf V) ?_); intro u7
 refine Za 3 V V V (Ze V V (Vs (Zb (Zg (Zz ?_)))))
 apply Wg [1, 3, 4, 5, 6, 7, 8, 9, 10, 11, 12, 13, 14, 15] (σ := PS × Nat × List ByteArray × Value) (fun zz => match zz with | (q, f, acc, u) => [(3, .own u 1 (strs acc))]) (fun zz => match zz with | (q, f, acc, u) => [.own 9 1 u, .loc b (psC L q)]) (fun zz => match zz with | (q, f, acc, u) => POk L n q ∧ L.length - q.at_ < f ∧ acc.length ≤ q.at_ + 1 ∧ uppersP L p = uppersL L f q acc) (fun zz => match zz with | (q, f, acc, u) => f) (((takeP L p 2 kE).2, L.length + 1, [(takeP L p 2 kE).1.t], u7))
 ·repeat' (first | exact Ui | apply Ug rfl | apply Uh rfl)
 ·exact ⟨k1, by omega, by simp, hE⟩
 ·exact by4
 ·exact by3
 rintro ⟨q, f, acc, u⟩ hI
 try dsimp only [List.cons_append, List.nil_append] at hI ⊢
 obtain ⟨h1, h2, h3, hu⟩ := hI
 have hq1 := h1.1
 have hle : (strs acc).length ≤ 200000 := by rw [Xt]; omega
 refine Zg (Zg (Zc (Za 8 V V V (Zd V V (Za 9 V V V (op_mayc (xs := [.tmp 8, .const (.string ⟨#[44]⟩)]) (i := 1) V V V (may_c b L hL q kComma) by1 ?_ ?_))))))
 ·intro g9
  refine Vs (Zb (Zt V (Zv (Zb (Zz ?_)))))
  obtain ⟨f, rfl⟩ : ∃ f', f = f' + 1 := ⟨f - 1, by omega⟩
  rw [uppersL_go g9] at hu
  have b1 := Xo h1 g9
  have l1 := b1.ok h1
  have b2 := Yo (kind := 2) (s := kE) (by decide) l1
  have l2 := b2.ok l1
  have b3 : (stepP q).at_ ≤ _ := b2.1
  have b4 : (stepP q).at_ = q.at_ + 1 := rfl
  have b5 := (is_lt g9).2
  have HT := take_c b L hL _ l1.1 2 kE
  obtain ⟨⟨t2, q2⟩, e2⟩ : ∃ r, takeP L (stepP q) 2 kE = r := ⟨_, rfl⟩
  rw [e2] at HT hu l2 b3
  simp only [Tok.av] at HT hu l2 b3
  refine Zc (Za 10 V V V (Zd V V (Za 11 V V V (Zd V V (Za 12 V V V (Yi (xs := [.tmp 11, .const (.int .i64 2), .const (.string ⟨#[]⟩)]) (i := 1) V V V (HT) by1 ?_))))))
  refine Za 13 V V V (Va (ft := 9) (fo := 1) V (by kernel_rfl) Xb V V ?_)
  refine Za 14 V V V (Ye (xs := [.tmp 13]) el_68 V V V V V V (Uf V) (Za 15 V V V (Xj (i := 0) el_68 V V V V (.seq _ _) by6 ?_)))
  intro u15
  refine Za 3 V V V (Ze V V (Vs (Yt (Yz ?_))))
  refine ⟨(q2, f, acc ++ [t2.t], u15), ⟨l2, (by show L.length - q2.at_ < f; omega), (by show (acc ++ [t2.t]).length ≤ q2.at_ + 1; rw [List.length_append]; simp; omega), hu⟩, Nat.lt_succ_self f, Uc V (Ue (by simp [strs, AV.cells])) by4, by3⟩
 intro g9
 refine Vs (Zb (Zr V (Xc (Xe (Xv (Xd (Zb (Zg (Zc (Za 16 V V V (Zd V V (Za 2 V V V (Ze V V (Vs (Zb (Ya ?_))))))))))))))))
 rw [uppersL_end g9] at hu; rw [hu]; exact Yh rfl rfl (Le.own_seq rfl) (Vw _ (Vt _)) ⟨rfl, rfl⟩
theorem starts_c (b : Nat) (L : List Tok) (p : PS) (what : Int) : KBCall Tryz.prog 81 [.ptr b 0, .val (.int .i64 what)] [.loc b (psC L p)] (startsP L what p) := by
 have HN := next_c b L p
 have H1 := is_p b L p kLP
 have H2 := is_p b L p kUn
 have H3 := is_p b L p kCase
 unfold startsP
 generalize isP L p kLP = x1 at *
 generalize isP L p kUn = x2 at *
 generalize isP L p kCase = x3 at *
 obtain ⟨⟨tk, tt, tn, ta⟩, ht⟩ : ∃ t, nxt L p = t := ⟨_, rfl⟩
 rw [ht] at HN ⊢
 simp only [Tok.av] at HN ⊢
 refine Zw Tryz.func81 V (by kernel_rfl) V (Uf V) ?_
 refine Yf (Zg (Zc (Za 4 V V V (Ze V V (Vs (Zb (Zg (Zc (Za 6 V V V (Zd V V (Za 7 V V V (Wr (xs := [.tmp 6]) [0] V V V (HN) by1 ?_))))))))))))
 refine Za 8 V V V (Va (ft := 3) (fo := 0) V (by kernel_rfl) Xa V V ?_)
 refine Za 5 V V V (Ze V V (Vs (Zb (Zg (Zg (Xl 18 (tk = 1 ∨ tk = 2 ∨ x1 = true) ?_ _ _ V ?_))))))
 ·skip
  refine Za 9 V V V (Zd V V (Za 10 V V V (Yr V V V ?_))); intro c10 h10
  refine Za 11 V V V (Zd V V ?_)
  rcases Zi h10 with ⟨rfl, g10⟩ | ⟨rfl, g10⟩
  ·skip
   refine Zl 12 V V V V V (Zd V V (Zl 13 V V V V V (Yr V V V ?_))); intro c13 h13
   refine Za 14 V V V (Zn V V V (Za 15 V V V (Zd V V ?_)))
   rcases Zi h13 with ⟨rfl, g13⟩ | ⟨rfl, g13⟩
   ·skip
    refine Zl 16 V V V V V (Zd V V (Zl 17 V V V V V (op_callkb (xs := [.tmp 16, .const (.string ⟨#[40]⟩)]) [0] V V V (H1) by1 ?_))); intro c17 h17
    refine Za 18 V V V (Zn V V V (Vs (Ud V ?_ by5 by3)))
    clear HN H1 H2 H3; first | (simp_all; done) | grind
   skip
   refine Zk 16 V V V V V (Zk 17 V V V V V (Za 18 V V V (Zn V V V (Vs (Ud V ?_ by5 by3)))))
   clear HN H1 H2 H3; first | (simp_all; done) | grind
  skip
  refine Zk 12 V V V V V (Zk 13 V V V V V (Za 14 V V V (Zn V V V (Za 15 V V V (Zd V V (Zk 16 V V V V V (Zk 17 V V V V V (Za 18 V V V (Zn V V V (Vs (Ud V ?_ by5 by3)))))))))))
  clear HN H1 H2 H3; first | (simp_all; done) | grind
 intro c18 h18
 refine Zb ?_
 rcases Zi h18 with ⟨rfl, g18⟩ | ⟨rfl, g18⟩
 ·refine Zr V (Zv (Zb (Zg (Xl 4 ((1 ≤ what ∧ tk = 3) ∨ (what = 1 ∧ x2 = true) ∨ (what = 2 ∧ (tk = 4 ∨ x3 = true))) ?_ _ _ V ?_))))
  ·skip
   refine Za 19 V V V (Zd V V (Za 20 V V V (Wa V V V ?_))); intro c20 h20
   refine Za 21 V V V (Zd V V ?_)
   rcases Zi h20 with ⟨rfl, g20⟩ | ⟨rfl, g20⟩
   ·skip
    refine Zk 22 V V V V V (Zk 23 V V V V V (Za 24 V V V (Zn V V V (Za 25 V V V (Zd V V (Zl 26 V V V V V (Zd V V (Zl 27 V V V V V (Yr V V V ?_))))))))); intro c27 h27
    refine Zl 28 V V V V V (Zd V V ?_)
    rcases Zi h27 with ⟨rfl, g27⟩ | ⟨rfl, g27⟩
    ·skip
     refine Zk 29 V V V V V (Zk 30 V V V V V (Zl 31 V V V V V (Zn V V V (Za 32 V V V (Zn V V V (Za 33 V V V (Zd V V (Zl 34 V V V V V (Zd V V (Zl 35 V V V V V (Yr V V V ?_))))))))))); intro c35 h35
     refine Zl 36 V V V V V (Zd V V ?_)
     rcases Zi h35 with ⟨rfl, g35⟩ | ⟨rfl, g35⟩
     ·skip
      refine Zk 37 V V V V V (Zk 38 V V V V V (Zk 39 V V V V V (Yj 40 V V V V V (Yj 41 V V V V V (Zk 42 V V V V V (Zl 43 V V V V V (Zn V V V (Za 44 V V V (Zn V V V (Za 4 V V V (Ze V V (Vs (Ud V ?_ by5 by3)))))))))))))
      clear HN H1 H2 H3; first | (simp_all; done) | grind
     skip
     refine Zl 37 V V V V V (Zd V V (Zl 38 V V V V V (Yr V V V ?_))); intro c38 h38
     refine Zl 39 V V V V V (Zd V V ?_)
     rcases Zi h38 with ⟨rfl, g38⟩ | ⟨rfl, g38⟩
     ·skip
      refine Zl 40 V V V V V (Zd V V (Zl 41 V V V V V (op_callkb (xs := [.tmp 40, .const (.string ⟨#[99, 97, 115, 101]⟩)]) [0] V V V (H3) by1 ?_))); intro c41 h41
      refine Zl 42 V V V V V (Zn V V V (Zl 43 V V V V V (Zn V V V (Za 44 V V V (Zn V V V (Za 4 V V V (Ze V V (Vs (Ud V ?_ by5 by3)))))))))
      clear HN H1 H2 H3; first | (simp_all; done) | grind
     skip
     refine Zk 40 V V V V V (Zk 41 V V V V V (Zl 42 V V V V V (Zn V V V (Zl 43 V V V V V (Zn V V V (Za 44 V V V (Zn V V V (Za 4 V V V (Ze V V (Vs (Ud V ?_ by5 by3)))))))))))
     clear HN H1 H2 H3; first | (simp_all; done) | grind
    skip
    refine Zl 29 V V V V V (Zd V V (Zl 30 V V V V V (op_callkb (xs := [.tmp 29, .const (.string ⟨#[95]⟩)]) [0] V V V (H2) by1 ?_))); intro c30 h30
    refine Zl 31 V V V V V (Zn V V V (Za 32 V V V (Zn V V V (Za 33 V V V (Zd V V ?_)))))
    rcases Zi h30 with ⟨rfl, g30⟩ | ⟨rfl, g30⟩
    ·skip
     refine Zl 34 V V V V V (Zd V V (Zl 35 V V V V V (Yr V V V ?_))); intro c35 h35
     refine Zl 36 V V V V V (Zd V V ?_)
     rcases Zi h35 with ⟨rfl, g35⟩ | ⟨rfl, g35⟩
     ·skip
      refine Zk 37 V V V V V (Zk 38 V V V V V (Zk 39 V V V V V (Yj 40 V V V V V (Yj 41 V V V V V (Zk 42 V V V V V (Zl 43 V V V V V (Zn V V V (Za 44 V V V (Zn V V V (Za 4 V V V (Ze V V (Vs (Ud V ?_ by5 by3)))))))))))))
      clear HN H1 H2 H3; first | (simp_all; done) | grind
     skip
     refine Zl 37 V V V V V (Zd V V (Zl 38 V V V V V (Yr V V V ?_))); intro c38 h38
     refine Zl 39 V V V V V (Zd V V ?_)
     rcases Zi h38 with ⟨rfl, g38⟩ | ⟨rfl, g38⟩
     ·skip
      refine Zl 40 V V V V V (Zd V V (Zl 41 V V V V V (op_callkb (xs := [.tmp 40, .const (.string ⟨#[99, 97, 115, 101]⟩)]) [0] V V V (H3) by1 ?_))); intro c41 h41
      refine Zl 42 V V V V V (Zn V V V (Zl 43 V V V V V (Zn V V V (Za 44 V V V (Zn V V V (Za 4 V V V (Ze V V (Vs (Ud V ?_ by5 by3)))))))))
      clear HN H1 H2 H3; first | (simp_all; done) | grind
     skip
     refine Zk 40 V V V V V (Zk 41 V V V V V (Zl 42 V V V V V (Zn V V V (Zl 43 V V V V V (Zn V V V (Za 44 V V V (Zn V V V (Za 4 V V V (Ze V V (Vs (Ud V ?_ by5 by3)))))))))))
     clear HN H1 H2 H3; first | (simp_all; done) | grind
    skip
    refine Zk 34 V V V V V (Zk 35 V V V V V (Zk 36 V V V V V (Yj 37 V V V V V (Yj 38 V V V V V (Yj 39 V V V V V (Yj 40 V V V V V (Yj 41 V V V V V (Yj 42 V V V V V (Zk 43 V V V V V (Za 44 V V V (Zn V V V (Za 4 V V V (Ze V V ?_)))))))))))))
    refine Vs (Ud V ?_ by5 by3)
    clear HN H1 H2 H3; first | (simp_all; done) | grind
   skip
   refine Zl 22 V V V V V (Zd V V (Zl 23 V V V V V (Yr V V V ?_))); intro c23 h23
   refine Za 24 V V V (Zn V V V (Za 25 V V V (Zd V V ?_)))
   rcases Zi h23 with ⟨rfl, g23⟩ | ⟨rfl, g23⟩
   ·skip
    refine Zl 26 V V V V V (Zd V V (Zl 27 V V V V V (Yr V V V ?_))); intro c27 h27
    refine Zl 28 V V V V V (Zd V V ?_)
    rcases Zi h27 with ⟨rfl, g27⟩ | ⟨rfl, g27⟩
    ·skip
     refine Zk 29 V V V V V (Zk 30 V V V V V (Zl 31 V V V V V (Zn V V V (Za 32 V V V (Zn V V V (Za 33 V V V (Zd V V (Zl 34 V V V V V (Zd V V (Zl 35 V V V V V (Yr V V V ?_))))))))))); intro c35 h35
     refine Zl 36 V V V V V (Zd V V ?_)
     rcases Zi h35 with ⟨rfl, g35⟩ | ⟨rfl, g35⟩
     ·skip
      refine Zk 37 V V V V V (Zk 38 V V V V V (Zk 39 V V V V V (Yj 40 V V V V V (Yj 41 V V V V V (Zk 42 V V V V V (Zl 43 V V V V V (Zn V V V (Za 44 V V V (Zn V V V (Za 4 V V V (Ze V V (Vs (Ud V ?_ by5 by3)))))))))))))
      clear HN H1 H2 H3; first | (simp_all; done) | grind
     skip
     refine Zl 37 V V V V V (Zd V V (Zl 38 V V V V V (Yr V V V ?_))); intro c38 h38
     refine Zl 39 V V V V V (Zd V V ?_)
     rcases Zi h38 with ⟨rfl, g38⟩ | ⟨rfl, g38⟩
     ·skip
      refine Zl 40 V V V V V (Zd V V (Zl 41 V V V V V (op_callkb (xs := [.tmp 40, .const (.string ⟨#[99, 97, 115, 101]⟩)]) [0] V V V (H3) by1 ?_))); intro c41 h41
      refine Zl 42 V V V V V (Zn V V V (Zl 43 V V V V V (Zn V V V (Za 44 V V V (Zn V V V (Za 4 V V V (Ze V V (Vs (Ud V ?_ by5 by3)))))))))
      clear HN H1 H2 H3; first | (simp_all; done) | grind
     skip
     refine Zk 40 V V V V V (Zk 41 V V V V V (Zl 42 V V V V V (Zn V V V (Zl 43 V V V V V (Zn V V V (Za 44 V V V (Zn V V V (Za 4 V V V (Ze V V (Vs (Ud V ?_ by5 by3)))))))))))
     clear HN H1 H2 H3; first | (simp_all; done) | grind
    skip
    refine Zl 29 V V V V V (Zd V V (Zl 30 V V V V V (op_callkb (xs := [.tmp 29, .const (.string ⟨#[95]⟩)]) [0] V V V (H2) by1 ?_))); intro c30 h30
    refine Zl 31 V V V V V (Zn V V V (Za 32 V V V (Zn V V V (Za 33 V V V (Zd V V ?_)))))
    rcases Zi h30 with ⟨rfl, g30⟩ | ⟨rfl, g30⟩
    ·skip
     refine Zl 34 V V V V V (Zd V V (Zl 35 V V V V V (Yr V V V ?_))); intro c35 h35
     refine Zl 36 V V V V V (Zd V V ?_)
     rcases Zi h35 with ⟨rfl, g35⟩ | ⟨rfl, g35⟩
     ·skip
      refine Zk 37 V V V V V (Zk 38 V V V V V (Zk 39 V V V V V (Yj 40 V V V V V (Yj 41 V V V V V (Zk 42 V V V V V (Zl 43 V V V V V (Zn V V V (Za 44 V V V (Zn V V V (Za 4 V V V (Ze V V (Vs (Ud V ?_ by5 by3)))))))))))))
      clear HN H1 H2 H3; first | (simp_all; done) | grind
     skip
     refine Zl 37 V V V V V (Zd V V (Zl 38 V V V V V (Yr V V V ?_))); intro c38 h38
     refine Zl 39 V V V V V (Zd V V ?_)
     rcases Zi h38 with ⟨rfl, g38⟩ | ⟨rfl, g38⟩
     ·skip
      refine Zl 40 V V V V V (Zd V V (Zl 41 V V V V V (op_callkb (xs := [.tmp 40, .const (.string ⟨#[99, 97, 115, 101]⟩)]) [0] V V V (H3) by1 ?_))); intro c41 h41
      refine Zl 42 V V V V V (Zn V V V (Zl 43 V V V V V (Zn V V V (Za 44 V V V (Zn V V V (Za 4 V V V (Ze V V (Vs (Ud V ?_ by5 by3)))))))))
      clear HN H1 H2 H3; first | (simp_all; done) | grind
     skip
     refine Zk 40 V V V V V (Zk 41 V V V V V (Zl 42 V V V V V (Zn V V V (Zl 43 V V V V V (Zn V V V (Za 44 V V V (Zn V V V (Za 4 V V V (Ze V V (Vs (Ud V ?_ by5 by3)))))))))))
     clear HN H1 H2 H3; first | (simp_all; done) | grind
    skip
    refine Zk 34 V V V V V (Zk 35 V V V V V (Zk 36 V V V V V (Yj 37 V V V V V (Yj 38 V V V V V (Yj 39 V V V V V (Yj 40 V V V V V (Yj 41 V V V V V (Yj 42 V V V V V (Zk 43 V V V V V (Za 44 V V V (Zn V V V (Za 4 V V V (Ze V V ?_)))))))))))))
    refine Vs (Ud V ?_ by5 by3)
    clear HN H1 H2 H3; first | (simp_all; done) | grind
   skip
   refine Zk 26 V V V V V (Zk 27 V V V V V (Zk 28 V V V V V (Yj 29 V V V V V (Yj 30 V V V V V (Zk 31 V V V V V (Za 32 V V V (Zn V V V (Za 33 V V V (Zd V V (Zk 34 V V V V V (Zk 35 V V V V V (Zk 36 V V V V V (Yj 37 V V V V V ?_)))))))))))))
   refine Yj 38 V V V V V (Yj 39 V V V V V (Yj 40 V V V V V (Yj 41 V V V V V (Yj 42 V V V V V (Zk 43 V V V V V (Za 44 V V V (Zn V V V (Za 4 V V V (Ze V V (Vs (Ud V ?_ by5 by3)))))))))))
   clear HN H1 H2 H3; first | (simp_all; done) | grind
  intro c4 h4
  refine Zb (Ya ?_)
  exact Yh V V (Vz _) (Vt _) ⟨⟨_, by clear HN H1 H2 H3; grind, V⟩, V⟩
 refine Zt V (Zg (Zc (Za 4 V V V (Ze V V (Vs (Zb (Ya ?_)))))))
 exact Yh V V (Vz _) (Vt _) ⟨⟨_, by clear HN H1 H2 H3; grind, V⟩, V⟩
theorem typesL_go {L : List Tok} {T : PS → Ty × PS} {f : Nat} {p : PS} {acc : List Ty} (h : startsP L 0 p) : typesL L T (f + 1) p acc = typesL L T f (atypeG L T p).2 (acc ++ [(atypeG L T p).1]) := by rw [typesL, if_pos h]
theorem typesL_end {L : List Tok} {T : PS → Ty × PS} {f : Nat} {p : PS} {acc : List Ty} (h : ¬ startsP L 0 p) : typesL L T f p acc = (acc, p) := by
 cases f with
 | zero => rfl
 | succ f => rw [typesL, if_neg h]
abbrev zTyp : List AV := [.val (.int .i64 0), .val (.string kE), .val (.int .i64 0), .val (.slice none 0 0)]
def TyC (b : Nat) (L : List Tok) (n : Nat) (T : PS → Ty × PS) : Prop := ∀ q, POk L n q → MCall Tryz.prog 85 [.ptr b 0] (.loc b (psC L q)) (.agg (T q).1.cells) (.loc b (psC L (T q).2))
theorem atype_c (b : Nat) (L : List Tok) (hL : L.length ≤ 100000) (n : Nat) (T : PS → Ty × PS) (HT : TyC b L n T) (HA : ∀ q, POk L n q → Adv L q (T q).2) (p : PS) (k : POk L n p) : MCall Tryz.prog 82 [.ptr b 0] (.loc b (psC L p)) (.agg (atypeG L T p).1.cells) (.loc b (psC L (atypeG L T p).2)) := by
 have HN := next_c b L p
 have hp := k.1
 have a1 := Yo (L := L) (kind := 7) (s := kLP) (by decide) k
 have k1 := a1.ok k
 obtain ⟨t, ht⟩ : ∃ t, nxt L p = t := ⟨_, rfl⟩
 obtain ⟨r, hr⟩ : ∃ r, atypeG L T p = r := ⟨_, rfl⟩
 have hr0 := hr
 unfold atypeG at hr
 rw [ht] at HN hr
 rw [hr0]
 obtain ⟨tk, tt, tn, ta⟩ := t
 simp only [Tok.av] at HN hr
 refine Zw Tryz.func82 V (by kernel_rfl) V (Uf V) ?_
 refine Yf (Zg (Zc (Za 2 V V V (Zy (cs' := [_, _, _, _]) V tz_25 V V ?_)))); intro b2
 refine Vs (Zb (Zg (Zc (Za 5 V V V (Zd V V (Za 6 V V V (Wr (xs := [.tmp 5]) [1] V V V (HN) by1 ?_)))))))
 refine Za 3 V V V (Zy (cs' := [_, _, _, _]) V Wj V V ?_); intro b3
 refine Zs V V (Zq (cs' := [_, _, _, _]) (i := 0) V Xk V V V V V (Uf V) V (Vs (Zb (Zg (Zg (Zc (Za 7 V V V (Zh V Xf V (Za 8 V V V (Zp (i := 0) V Xa V V V (Za 9 V V V (Yr V V V ?_)))))))))))); intro c9 h9
 refine Vs (Zb ?_)
 rcases Zi h9 with ⟨rfl, g9⟩ | ⟨rfl, g9⟩
 ·refine Zr V (Zv (Zb (Zg (Zg (Zc (Za 20 V V V (Zh V Xf V (Za 21 V V V (Zp (i := 0) V Xa V V V (Za 22 V V V (Yr V V V ?_))))))))))); intro c22 h22
  refine Vs (Zb ?_)
  rcases Zi h22 with ⟨rfl, g22⟩ | ⟨rfl, g22⟩
  ·refine Zr V (Zv (Zb (Zg (Zc (Za 33 V V V (Zd V V (Za 34 V V V (Yi (xs := [.tmp 33, .const (.int .i64 7), .const (.string ⟨#[40]⟩)]) (i := 2) V V V (take_c b L hL p k.1 7 kLP) by1 ?_))))))))
   refine Vs (Zb (Zg (Zg (Zc (Za 35 V V V (Zd V V (Za 36 V V V (op_mayc (xs := [.tmp 35, .const (.string ⟨#[41]⟩)]) (i := 2) V V V (may_c b L hL (takeP L p 7 kLP).2 kRP) by1 ?_ ?_))))))))
   ·intro g36
    refine Vs (Zb (Zt V (Zg (Zc (Za 37 V V V (Yl (ns := [0, 1]) (xs := [.const (.int .i64 3), .const (.string ⟨#[85, 110, 105, 116]⟩)]) V tz_25 V tfl_25 V V V V ?_))))))
    refine Zs V V (Zq (cs' := [_, _, _, _]) (i := 1) V ts_25 V V V V V (Uf V) V (Vs (Zb (Ya ?_))))
    rw [if_neg g9, if_neg g22, if_pos g36] at hr; subst hr; exact Yn (i := 1) rfl rfl rfl Xz rfl by2 (Vw _ (Vw _ (Vy rfl))) ⟨rfl, rfl⟩
   intro g36
   refine Vs (Zb (Zr V (Zv (Zb (Zg ?_)))))
   have HT1 := HT _ k1
   have k2 := (HA _ k1).ok k1
   rw [if_neg g9, if_neg g22, if_neg g36] at hr
   obtain ⟨⟨⟨xk, xs, xn, xl⟩, p3⟩, hx⟩ : ∃ r, T (takeP L p 7 kLP).2 = r := ⟨_, rfl⟩
   rw [hx] at HT1 hr k2
   simp only [Ty.cells] at HT1
   refine Zc (Za 38 V V V (Zd V V (Za 39 V V V (Yi (xs := [.tmp 38]) (i := 2) V V V (HT1) by1 ?_))))
   refine Za 4 V V V (Zy (cs' := [_, _, _, _]) V tz_25 V V ?_); intro b4
   refine Zs V V (Zq (cs' := [_, _, _, _]) (i := 0) V ts_25 V V V V V (Uf V) V (Vs (Zb (Zg (Zc (Za 40 V V V (Zd V V (Za 41 V V V (Yi (xs := [.tmp 40, .const (.int .i64 7), .const (.string ⟨#[41]⟩)]) (i := 3) V V V (take_c b L hL _ k2.1 7 kRP) by1 ?_)))))))))
   refine Vs (Zb (Zg (Zc (Za 42 V V V (Zx (cs' := [_, _, _, _]) (i := 0) V Xz V V V V (Zs V V (Zq (cs' := [_, _, _, _]) (i := 2) V ts_25 V V V V V (Uf V) V (Vs (Zb (Ya ?_))))))))))
   subst hr; exact Yn (i := 2) rfl rfl rfl Xz rfl (Vz _) (Vw _ (Vw _ (Vw _ (Vy rfl)))) ⟨rfl, rfl⟩
  refine Zt V (Zg (Zc (Za 23 V V V (Zd V V (Za 24 V V V (Yk V V (Za 25 V V V (Zh V tf_95_1 V (Za 26 V V V (Zp (i := 2) V Xa V V V (Za 27 V V V (Yx V V V (Uj _ (by omega)) ?_))))))))))))
  refine Za 28 V V V (Yk V V (Za 29 V V V (Zh V tf_95_1 V (Zs V V (Zq (i := 2) V Wh V V V V V (Uf V) V (Vs (Zb (Zg (Zc (Za 30 V V V (Zh V Xh V (Za 31 V V V (Zp (i := 0) V Xb V V V (Za 32 V V V (Yl (ns := [0, 1]) (xs := [.const (.int .i64 1), .tmp 31]) V tz_25 V tfl_25 V V V V (Zs V V (Zq (cs' := [_, _, _, _]) (i := 1) V ts_25 V V V V V (Uf V) V (Vs (Zb (Ya ?_))))))))))))))))))))
  rw [if_neg g9, if_pos g22] at hr; subst hr; exact Yn (i := 1) rfl rfl rfl Xz rfl by2 (Vw _ (Vw _ (Vy rfl))) ⟨rfl, rfl⟩
 refine Zt V (Zg (Zc (Za 10 V V V (Zd V V (Za 11 V V V (Yk V V (Za 12 V V V (Zh V tf_95_1 V (Za 13 V V V (Zp (i := 2) V Xa V V V (Za 14 V V V (Yx V V V (Uj _ (by omega)) ?_))))))))))))
 refine Za 15 V V V (Yk V V (Za 16 V V V (Zh V tf_95_1 V (Zs V V (Zq (i := 2) V Wh V V V V V (Uf V) V (Vs (Zb (Zg (Zc (Za 17 V V V (Zh V Xh V (Za 18 V V V (Zp (i := 0) V Xb V V V (Za 19 V V V (Yl (ns := [0, 1]) (xs := [.const (.int .i64 3), .tmp 18]) V tz_25 V tfl_25 V V V V (Zs V V (Zq (cs' := [_, _, _, _]) (i := 1) V ts_25 V V V V V (Uf V) V (Vs (Zb (Ya ?_))))))))))))))))))))
 rw [if_pos g9] at hr; subst hr; exact Yn (i := 1) rfl rfl rfl Xz rfl by2 (Vw _ (Vw _ (Vy rfl))) ⟨rfl, rfl⟩
theorem Type_err (b : Nat) (L : List Tok) (p : PS) (he : p.e ≠ 0) : MCall Tryz.prog 85 [.ptr b 0] (.loc b (psC L p)) (.agg ty0.cells) (.loc b (psC L p)) := by
 refine Zw Tryz.func85 V (by kernel_rfl) V (Uf V) ?_
 refine Yf (Zg (Zc (Za 2 V V V (Zy (cs' := [_, _, _, _]) V tz_25 V V ?_)))); intro b2
 refine Vs (Zb (Zg (Zg (Zc (Za 5 V V V (Zd V V (Za 6 V V V (Yk V V (Za 7 V V V (Zh V Vo V (Za 8 V V V (Zp (i := 1) V Xa V V V (Za 9 V V V (Xq V V V ?_)))))))))))))); intro c9 h9
 refine Vs (Zb ?_)
 rcases Zi h9 with ⟨rfl, g9⟩ | ⟨rfl, g9⟩
 ·exact absurd he g9
 exact Zt V (Zg (Zc (Za 10 V V V (Yl (ns := []) (xs := []) V tz_25 V tfl_25 V V V V (Zs V V (Zq (cs' := [_, _, _, _]) (i := 0) V ts_25 V V V V V (Uf V) V (Vs (Zb (Ya (Yn (i := 0) V V V Xz V by2 (Vw _ (Vt _)) ⟨V, V⟩))))))))))
theorem Type_ok (b : Nat) (L : List Tok) (hL : L.length ≤ 100000) (n : Nat) (T : PS → Ty × PS) (HT : TyC b L n T) (HA : ∀ q, POk L n q → Adv L q (T q).2) (p : PS) (k : POk L (n + 1) p) (he : p.e = 0) : MCall Tryz.prog 85 [.ptr b 0] (.loc b (psC L p)) (.agg (typeR L T (typeH L T (deeperP L p))).1.cells) (.loc b (psC L (typeR L T (typeH L T (deeperP L p))).2)) := by
 have kq := deeper_ok k he
 have HN := next_c b L (deeperP L p)
 have hq0 := kq.1
 have aH := typeH_adv HA kq
 have kH := aH.ok kq
 obtain ⟨t, ht⟩ : ∃ t, nxt L (deeperP L p) = t := ⟨_, rfl⟩
 have hkt : (nxt L (deeperP L p)).k = 2 → (deeperP L p).at_ < L.length := fun e => (Vr (by omega)).2
 have HAT := atype_c b L hL n T HT HA (deeperP L p) kq
 obtain ⟨⟨⟨xk, xs, xn, xl⟩, q1⟩, hx⟩ : ∃ r, typeH L T (deeperP L p) = r := ⟨_, rfl⟩
 have hx0 := hx
 unfold typeH at hx
 rw [hx0] at kH ⊢
 simp only [] at kH
 obtain ⟨r, hr⟩ : ∃ r, typeR L T (Ty.mk xk xs xn xl, q1) = r := ⟨_, rfl⟩
 rw [hr]
 unfold typeR at hr
 simp only [] at hr
 rw [ht] at HN hx hkt
 obtain ⟨tk, tt, tn, ta⟩ := t
 simp only [Tok.av] at HN hx hkt
 refine Zw Tryz.func85 V (by kernel_rfl) V (Uf V) ?_
 refine Yf (Zg (Zc (Za 2 V V V (Zy (cs' := [_, _, _, _]) V tz_25 V V ?_)))); intro b2
 refine Vs (Zb (Zg (Zg (Zc (Za 5 V V V (Zd V V (Za 6 V V V (Yk V V (Za 7 V V V (Zh V Vo V (Za 8 V V V (Zp (i := 1) V Xa V V V (Za 9 V V V (Xq V V V ?_)))))))))))))); intro c9 h9
 refine Vs (Zb ?_)
 rcases Zi h9 with ⟨rfl, g9⟩ | ⟨rfl, g9⟩
 ·refine Zr V (Zv (Zb (Zg (Zc (Za 11 V V V (Zd V V ?_))))))
  refine Za 12 V V V (Yi (xs := [.tmp 11]) (i := 1) V V V (deeper_c b L p k.2.1 (by have := k.2.2.1; omega)) by1 ?_)
  refine Vs (Zb (Zg (Zc (Za 13 V V V (Zd V V (Za 14 V V V (Wr (xs := [.tmp 13]) [1] V V V (HN) by1 ?_)))))))
  refine Za 3 V V V (Zy (cs' := [_, _, _, _]) V Wj V V ?_); intro b3
  refine Zs V V (Zq (cs' := [_, _, _, _]) (i := 0) V Xk V V V V V (Uf V) V (Vs (Zb (Zg (Zc (Za 15 V V V (Yl (ns := []) (xs := []) V tz_25 V tfl_25 V V V V (Za 4 V V V (Zy (cs' := [_, _, _, _]) V tz_25 V V ?_))))))))); intro b4
  refine Zs V V (Zq (cs' := [_, _, _, _]) (i := 0) V ts_25 V V V V V (Uf V) V (Vs (Zb (Zg (Zg (Zc (Za 16 V V V (Zh V Xf V (Za 17 V V V (Zp (i := 1) V Xa V V V (Za 18 V V V (Yr V V V ?_)))))))))))); intro c18 h18
  refine Vs (Zb ?_)
  apply c_joink [1, 3, 5, 6, 7, 8, 9, 10, 11, 12, 13, 14, 15, 16, 17, 18, 19, 20, 21, 22, 23, 24, 25, 26, 27, 28, 29, 30, 31, 32, 33, 34, 35, 36, 37, 38, 39] (σ := Unit) (fun zz => match zz with | z => []) (fun zz => match zz with | z => [.loc b4 (Ty.mk xk xs xn xl).cells, .loc b3 (Tok.mk tk tt tn ta).av, .loc b2 zTyp, .loc b (psC L q1)]) (fun zz => match zz with | z => True)
  ·repeat' (first | exact Ui | apply Ug rfl | apply Uh rfl)
  ·skip
   rcases Zi h18 with ⟨rfl, g18⟩ | ⟨rfl, g18⟩
   ·refine Zr V ?_
    rw [if_neg g18] at hx
    rw [hx] at HAT
    simp only [Ty.cells] at HAT
    refine Zc (Za 38 V V V (Zd V V (Za 39 V V V (Yi (xs := [.tmp 38]) (i := 3) V V V (HAT) by1 ?_))))
    refine Zs V V (Zq (cs' := [_, _, _, _]) (i := 0) V ts_25 V V V V V (Uf V) V (Vs (Yz ?_)))
    first | exact ⟨(), trivial, by4, Vy rfl⟩ | (rw [typesL_end g30] at hu; cases hu; exact ⟨(), trivial, by4, Vx _ (Ub (Vz _) (Ub (Vz _) (Ub (Vz _) (Ub (Le.own _ _ _) (Ua _))))) (Vv _ (Vv _ (Vv _ (Vu _))))⟩)
   refine Zt V (Zg ?_)
   rw [if_pos g18] at hx
   have hlt := hkt g18
   have ks := Vh kq hlt
   refine Zc (Za 19 V V V (Zd V V (Za 20 V V V (Yk V V (Za 21 V V V (Zh V tf_95_1 V (Za 22 V V V (Zp (i := 3) V Xa V V V (Za 23 V V V (Yx V V V (Uj _ (by omega)) ?_))))))))))
   refine Za 24 V V V (Yk V V (Za 25 V V V (Zh V tf_95_1 V (Zs V V (Zq (i := 3) V Wh V V V V V (Uf V) V (Vs (Zb (Zg (Zc (Za 26 V V V (Zh V Xh V (Za 27 V V V (Zp (i := 1) V Xb V V V (Za 28 V V V (Yl (ns := [0, 1]) (xs := [.const (.int .i64 3), .tmp 27]) V tz_25 V tfl_25 V V V V (Zs V V (Zq (cs' := [_, _, _, _]) (i := 0) V ts_25 V V V V V (Uf V) V (Vs (Zb (Zz (We 25 4 ?_)))))))))))))))))))))
   apply Wg [1, 3, 5, 6, 7, 8, 9, 10, 11, 12, 13, 14, 15, 16, 17, 18, 19, 20, 21, 22, 23, 24, 26, 27, 28, 29, 30, 31, 32, 33, 34, 35, 36, 37, 38, 39] (σ := PS × Nat × List Ty × Value) (fun zz => match zz with | (q, f, acc, u) => []) (fun zz => match zz with | (q, f, acc, u) => [.loc b4 [.val (.int .i64 3), .val (.string tt), .val (.int .i64 0), .own u 4 (Ty.cellss acc)], .loc b3 (Tok.mk tk tt tn ta).av, .loc b2 zTyp, .loc b (psC L q), .own 25 4 u]) (fun zz => match zz with | (q, f, acc, u) => POk L n q ∧ L.length - q.at_ < f ∧ acc.length ≤ q.at_ ∧ (Ty.mk 3 tt 0 (typesL L T f q acc).1, (typesL L T f q acc).2) = ((Ty.mk xk xs xn xl), q1)) (fun zz => match zz with | (q, f, acc, u) => f) ((stepP (deeperP L p), L.length + 1, [], .slice none 0 0))
   ·repeat' (first | exact Ui | apply Ug rfl | apply Uh rfl)
   ·exact ⟨ks.ok kq, by omega, Nat.zero_le _, hx⟩
   ·exact by4
   ·exact (Vx _ (Ub (Vz _) (Ub (Vz _) (Ub (Vz _) (Ub (Le.nilOwn 4) (Ua _))))) (Vv _ (Vv _ (Vy V))))
   rintro ⟨q, f, acc, u⟩ hI
   try dsimp only [List.cons_append, List.nil_append] at hI ⊢
   obtain ⟨h1, h2, h3, hu⟩ := hI
   have hq1 := h1.1
   have hle : (Ty.cellss acc).length ≤ 200000 := by rw [Ty.cellss_len]; omega
   refine Zg (Zg (Zc (Za 29 V V V (Zd V V (Za 30 V V V (op_callkb (xs := [.tmp 29, .const (.int .i64 0)]) [3] V V V (starts_c b L q 0) by1 ?_)))))); intro c30 h30
   refine Vs (Zb ?_)
   rcases Zi h30 with ⟨rfl, g30⟩ | ⟨rfl, g30⟩
   ·refine Zr V (Xc (Xe (Xv (Xd (Yz ?_)))))
    first | exact ⟨(), trivial, by4, Vy rfl⟩ | (rw [typesL_end g30] at hu; cases hu; exact ⟨(), trivial, by4, Vx _ (Ub (Vz _) (Ub (Vz _) (Ub (Vz _) (Ub (Le.own _ _ _) (Ua _))))) (Vv _ (Vv _ (Vv _ (Vu _))))⟩)
   refine Zt V (Zv (Zb (Zz ?_)))
   obtain ⟨f, rfl⟩ : ∃ f', f = f' + 1 := ⟨f - 1, by omega⟩
   rw [typesL_go g30] at hu
   have b1 := atype_lt HA h1 g30
   have b2 := atype_adv HA h1
   have l2 := b2.ok h1
   have HA2 := atype_c b L hL n T HT HA q h1
   obtain ⟨⟨⟨yk, ys, yn, yl⟩, q2⟩, e2⟩ : ∃ r, atypeG L T q = r := ⟨_, rfl⟩
   rw [e2] at HA2 hu l2 b1
   simp only [Ty.cells] at HA2
   simp only [] at b1 l2
   have l3 := l2.1
   refine Xu [0, 1, 2, 3, 4, 5, 6, 7] [3, 5, 7] [[], [0], [], [2], [2, 3], [0, 1, 2, 3, 4], [0, 1, 2, 3, 4, 5], [0, 1, 2, 3, 4, 5, 6]] Wo V (Yb 31 (none) (i := 0) V V V V V (Zh V Wc V ⟨V, V⟩) ?_)
   refine Yb 32 (some 0) (i := 1) V V V V V (Zp (i := 0) V Vg V V V ⟨V, V⟩) ?_
   refine Yb 33 (none) (i := 2) V V V V V (Zd V V ⟨V, V⟩) ?_
   refine Xn 3 (i := 3) V V V V V (Yi (xs := [.tmp 33]) (i := 0) V V V (HA2) by1 ⟨_, V, ?_⟩)
   refine Yb 35 (none) (i := 4) V V V V V (Ye (xs := [.tmp 34]) el_23 V V V V V V (Uf V) ⟨V, V⟩) ?_
   refine Xn 4 (i := 5) V V V V V (Xj (i := 0) el_23 V V V V (.seq _ _) by6 (fun u36 => ⟨_, V, ?_⟩))
   refine Yb 37 (none) (i := 6) V V V V V (Zh V Wc V ⟨V, V⟩) ?_
   refine Xn 0 (i := 7) V V V V V (Zq (cs' := [_, _, _, _]) (i := 0) V ts_23 V V V V V (Uf V) V ⟨_, V, ?_⟩)
   show AGo _ _ _ _ _ _ _
   refine Yt (Yz ?_)
   refine ⟨(q2, f, acc ++ [Ty.mk yk ys yn yl], u36), ⟨l2, (by show L.length - q2.at_ < f; omega), (by show (acc ++ [Ty.mk yk ys yn yl]).length ≤ q2.at_; rw [List.length_append]; simp; omega), hu⟩, Nat.lt_succ_self f, by4, (Vx _ (Ub (Vz _) (Ub (Vz _) (Ub (Vz _) (Ub (Ue (by rw [Ty.cellss_app]; rfl)) (Ua _))))) (Vv _ (Vv _ (Vy V))))⟩
  rintro z hI
  try dsimp only [List.cons_append, List.nil_append] at hI ⊢
  refine Zb (Zg (Zg (Zc (Za 40 V V V (Zd V V (Za 41 V V V (op_mayc (xs := [.tmp 40, .const (.string ⟨#[45, 62]⟩)]) (i := 3) V V V (may_c b L hL q1 kArrow) by1 ?_ ?_)))))))
  ·intro g41
   refine Vs (Zb (Zt V ?_))
   have ka := Xo kH g41
   have kz := ka.ok kH
   have HT1 := HT _ kz
   have kw := (HA _ kz).ok kz
   obtain ⟨⟨⟨zk, zs, zn, zl⟩, q3⟩, e3⟩ : ∃ r, T (stepP q1) = r := ⟨_, rfl⟩
   rw [if_pos g41, e3] at hr
   rw [e3] at HT1 kw
   simp only [Ty.cells] at HT1
   simp only [] at kw
   have hb3 := kw.2.1
   have hb4 := kw.2.2.1
   refine Xu [0, 1, 2, 3, 4, 5] [2, 5] [[], [], [1], [0, 1, 2], [0, 1, 2, 3], [0, 1, 2, 3, 4]] Wo V (Yb 42 (some 0) (i := 0) V V V V V (Zx (cs' := [_, _, _, _]) (i := 0) V Xz V V V V ⟨V, V⟩) ?_)
   refine Yb 43 (none) (i := 1) V V V V V (Zd V V ⟨V, V⟩) ?_
   refine Xn 3 (i := 2) V V V V V (Yi (xs := [.tmp 43]) (i := 0) V V V (HT1) by1 ⟨_, V, ?_⟩)
   refine Yb 45 (none) (i := 3) V V V V V (Ye (xs := [.tmp 42, .tmp 44]) el_23 V V V V V V (Uf V) ⟨V, V⟩) ?_
   refine Yb 46 (none) (i := 4) V V V V V (Yl (ns := [0, 1, 3]) (xs := [.const (.int .i64 3), .const (.string ⟨#[45, 62]⟩), .tmp 45]) V tz_25 V tfl_25 V V V V ⟨V, V⟩) ?_
   refine Xn 0 (i := 5) V V V V V (Zq (cs' := [_, _, _, _]) (i := 0) V ts_25 V V V V V (Uf V) V ⟨_, V, ?_⟩)
   show AGo _ _ _ _ _ _ _
   refine Zb (Zg ?_)
   have hb1 := kH.2.1
   have hb2 := kH.2.2.1
   refine Zc (Za 47 V V V (Zd V V (Za 48 V V V (Yk V V (Za 49 V V V (Zh V tf_95_2 V (Za 50 V V V (Zp (i := 3) V Xa V V V (Za 51 V V V (op_sub V V V (Uj _ (by omega)) ?_))))))))))
   refine Za 52 V V V (Yk V V (Za 53 V V V (Zh V tf_95_2 V (Zs V V (Zq (i := 3) V Wh V V V V V (Uf V) V (Vs (Zb (Zg (Zc (Za 54 V V V (Zx (cs' := [_, _, _, _]) (i := 0) V Xz V V V V (Zs V V (Zq (cs' := [_, _, _, _]) (i := 2) V ts_25 V V V V V (Uf V) V (Vs (Zb (Ya ?_))))))))))))))))
   subst hr; exact Yn (i := 2) rfl rfl rfl Xz rfl (Vz _) (Vw _ (Vw _ (Vw _ (Vy rfl)))) ⟨rfl, rfl⟩
  intro g41
  refine Vs (Zb (Zr V (Zv (Zb (Zg ?_)))))
  have hb1 := kH.2.1
  have hb2 := kH.2.2.1
  refine Zc (Za 47 V V V (Zd V V (Za 48 V V V (Yk V V (Za 49 V V V (Zh V tf_95_2 V (Za 50 V V V (Zp (i := 3) V Xa V V V (Za 51 V V V (op_sub V V V (Uj _ (by omega)) ?_))))))))))
  refine Za 52 V V V (Yk V V (Za 53 V V V (Zh V tf_95_2 V (Zs V V (Zq (i := 3) V Wh V V V V V (Uf V) V (Vs (Zb (Zg (Zc (Za 54 V V V (Zx (cs' := [_, _, _, _]) (i := 0) V Xz V V V V (Zs V V (Zq (cs' := [_, _, _, _]) (i := 2) V ts_25 V V V V V (Uf V) V (Vs (Zb (Ya ?_))))))))))))))))
  rw [if_neg g41] at hr; subst hr; exact Yn (i := 2) rfl rfl rfl Xz rfl (Vz _) (Vw _ (Vw _ (Vw _ (Vy rfl)))) ⟨rfl, rfl⟩
 exact absurd he g9
theorem Type_c (b : Nat) (L : List Tok) (hL : L.length ≤ 100000) : ∀ n, TyC b L n (typeF L n)
 | 0, p, k => Type_err b L p (fun e => by have := k.2.2.2 e; omega)
 | n + 1, p, k => by
  by_cases he : p.e = 0
  ·have h := Type_ok b L hL n (typeF L n) (Type_c b L hL n) (typeF_adv n) p k he
   rw [typeF, if_neg (by rw [he]; simp)]
   exact h
  rw [typeF, if_pos he]; exact Type_err b L p he
theorem typeP_c (b : Nat) (L : List Tok) (hL : L.length ≤ 100000) (n : Nat) (p : PS) (k : POk L n p) : MCall Tryz.prog 85 [.ptr b 0] (.loc b (psC L p)) (.agg (typeP L p).1.cells) (.loc b (psC L (typeP L p).2)) := Type_c b L hL 302 p (k.up (by decide))
theorem patsL_go {L : List Tok} {T : PS → Pa × PS} {f : Nat} {p : PS} {acc : List Pa} (h : startsP L 1 p) : patsL L T (f + 1) p acc = patsL L T f (apatG L T p).2 (acc ++ [(apatG L T p).1]) := by rw [patsL, if_pos h]
theorem patsL_end {L : List Tok} {T : PS → Pa × PS} {f : Nat} {p : PS} {acc : List Pa} (h : ¬ startsP L 1 p) : patsL L T f p acc = (acc, p) := by
 cases f with
 | zero => rfl
 | succ f => rw [patsL, if_neg h]
theorem Pa.cellss_app' (a b : List Pa) : Pa.cellss (a ++ b) = Pa.cellss a ++ Pa.cellss b := by simp [Pa.cellss_map]
abbrev zPa : List AV := [.val (.int .i64 0), .val (.string kE), .val (.int .i64 0), .val (.slice none 0 0), .val (.int .i64 0)]
def PaC (b : Nat) (L : List Tok) (n : Nat) (T : PS → Pa × PS) : Prop := ∀ q, POk L n q → MCall Tryz.prog 131 [.ptr b 0] (.loc b (psC L q)) (.agg (T q).1.cells) (.loc b (psC L (T q).2))
theorem apat_c (b : Nat) (L : List Tok) (hL : L.length ≤ 100000) (n : Nat) (T : PS → Pa × PS) (HT : PaC b L n T) (HA : ∀ q, POk L n q → Adv L q (T q).2) (p : PS) (k : POk L n p) : MCall Tryz.prog 134 [.ptr b 0] (.loc b (psC L p)) (.agg (apatG L T p).1.cells) (.loc b (psC L (apatG L T p).2)) := by
 have HN := next_c b L p
 have HI := is_p b L p kUn
 have hp := k.1
 have a1 := Yo (L := L) (kind := 7) (s := kLP) (by decide) k
 have k1 := a1.ok k
 have hkt : (nxt L p).k ≠ 0 → p.at_ < L.length := fun e => (Vr e).2
 have hki : isP L p kUn = true → p.at_ < L.length := fun e => (is_lt e).2
 obtain ⟨t, ht⟩ : ∃ t, nxt L p = t := ⟨_, rfl⟩
 obtain ⟨r, hr⟩ : ∃ r, apatG L T p = r := ⟨_, rfl⟩
 have hr0 := hr
 unfold apatG at hr
 rw [ht] at HN hr hkt
 rw [hr0]
 obtain ⟨tk, tt, tn, ta⟩ := t
 simp only [Tok.av] at HN hr hkt
 refine Zw Tryz.func134 V (by kernel_rfl) V (Uf V) ?_
 refine Yf (Zg (Zc (Za 2 V V V (Zy (cs' := [_, _, _, _, _]) V tz_184 V V ?_)))); intro b2
 refine Vs (Zb (Zg (Zc (Za 5 V V V (Zd V V (Za 6 V V V (Wr (xs := [.tmp 5]) [1] V V V (HN) by1 ?_)))))))
 refine Za 3 V V V (Zy (cs' := [_, _, _, _]) V Wj V V ?_); intro b3
 refine Zs V V (Zq (cs' := [_, _, _, _]) (i := 0) V Xk V V V V V (Uf V) V (Vs (Zb (Zg (Zc (Za 7 V V V (Zh V Wv V (Za 8 V V V (Zp (i := 0) V Xa V V V (Za 9 V V V (Yl (ns := [4]) (xs := [.tmp 8]) V tz_184 V tfl_184 V V V V (Za 4 V V V (Zy (cs' := [_, _, _, _, _]) V tz_184 V V ?_))))))))))))); intro b4
 refine Zs V V (Zq (cs' := [_, _, _, _, _]) (i := 0) V ts_184 V V V V V (Uf V) V (Vs (Zb (Zg ?_))))
 apply c_joink [1, 5, 6, 7, 8, 9, 10, 11, 12, 13, 14, 15, 16, 17, 18, 19, 20, 21, 22, 23, 24, 25, 26, 27, 28, 29, 30, 31, 32, 33, 34, 35, 36, 37, 50, 59] (σ := Int × ByteArray × Int) (fun zz => match zz with | (kk, ss, nn) => []) (fun zz => match zz with | (kk, ss, nn) => [.loc b4 [.val (.int .i64 kk), .val (.string ss), .val (.int .i64 nn), .val (.slice none 0 0), .val (.int .i64 ta)], .loc b3 (Tok.mk tk tt tn ta).av, .loc b2 zPa, .loc b (psC L p)]) (fun zz => match zz with | (kk, ss, nn) => (0 < kk ∧ (Pa.mk kk ss nn [] ta, stepP p) = r ∧ p.at_ < L.length) ∨ (kk = 0 ∧ (if isP L (takeP L p 7 kLP).2 kRP = true then (Pa.mk 3 kUnit 0 [] ta, stepP (takeP L p 7 kLP).2) else ((T (takeP L p 7 kLP).2).1, (takeP L (T (takeP L p 7 kLP).2).2 7 kRP).2)) = r))
 ·repeat' (first | exact Ui | apply Ug rfl | apply Uh rfl)
 ·skip
  refine Zz (Zg (Zc (Za 11 V V V (Zh V Xf V (Za 12 V V V (Zp (i := 1) V Xa V V V (Za 13 V V V (Yr V V V ?_)))))))); intro c13 h13
  refine Za 10 V V V (Ze V V (Vs (Zb ?_)))
  rcases Zi h13 with ⟨rfl, g13⟩ | ⟨rfl, g13⟩
  ·refine Zr V (Zg (Zc (Za 19 V V V (Zh V Xf V (Za 20 V V V (Zp (i := 1) V Xa V V V (Za 21 V V V (Yr V V V ?_)))))))); intro c21 h21
   refine Za 18 V V V (Ze V V (Vs (Zb ?_)))
   rcases Zi h21 with ⟨rfl, g21⟩ | ⟨rfl, g21⟩
   ·refine Zr V (Zg (Zc (Za 27 V V V (Zh V Xf V (Za 28 V V V (Zp (i := 1) V Xa V V V (Za 29 V V V (Yr V V V ?_)))))))); intro c29 h29
    refine Za 26 V V V (Ze V V (Vs (Zb ?_)))
    rcases Zi h29 with ⟨rfl, g29⟩ | ⟨rfl, g29⟩
    ·refine Zr V (Zg (Zc (Za 35 V V V (Zd V V (Za 36 V V V (op_callkb (xs := [.tmp 35, .const (.string ⟨#[95]⟩)]) [3] V V V (HI) by1 ?_)))))); intro c36 h36
     refine Za 34 V V V (Ze V V (Vs (Zb ?_)))
     rcases Zi h36 with ⟨rfl, g36⟩ | ⟨rfl, g36⟩
     ·refine Zr V (Zv (Yt (Yz ?_)))
      first
      | (rw [if_pos g13] at hr; exact ⟨(3, tt, 0), .inl ⟨by decide, hr, hkt (by omega)⟩, by4, Vy rfl⟩)
      | (rw [if_neg g13, if_pos g21] at hr; exact ⟨(2, tt, 0), .inl ⟨by decide, hr, hkt (by omega)⟩, by4, Vy rfl⟩)
      | (rw [if_neg g13, if_neg g21, if_pos g29] at hr; exact ⟨(4, kE, tn), .inl ⟨by decide, hr, hkt (by omega)⟩, by4, Vy rfl⟩)
      | (rw [if_neg g13, if_neg g21, if_neg g29, if_pos g36] at hr; exact ⟨(1, kE, 0), .inl ⟨by decide, hr, hki g36⟩, by4, Vy rfl⟩)
      | (rw [if_neg g13, if_neg g21, if_neg g29, if_neg g36] at hr; exact ⟨(0, kE, 0), .inr ⟨rfl, hr⟩, by4, Vy rfl⟩)
     refine Zt V (Zc (Za 37 V V V (Zh V tf_184_0 V (Zs V V (Zq (cs' := [_, _, _, _, _]) (i := 0) V Wh V V V V V (Uf V) V (Vs (Yt (Yz ?_))))))))
     first
     | (rw [if_pos g13] at hr; exact ⟨(3, tt, 0), .inl ⟨by decide, hr, hkt (by omega)⟩, by4, Vy rfl⟩)
     | (rw [if_neg g13, if_pos g21] at hr; exact ⟨(2, tt, 0), .inl ⟨by decide, hr, hkt (by omega)⟩, by4, Vy rfl⟩)
     | (rw [if_neg g13, if_neg g21, if_pos g29] at hr; exact ⟨(4, kE, tn), .inl ⟨by decide, hr, hkt (by omega)⟩, by4, Vy rfl⟩)
     | (rw [if_neg g13, if_neg g21, if_neg g29, if_pos g36] at hr; exact ⟨(1, kE, 0), .inl ⟨by decide, hr, hki g36⟩, by4, Vy rfl⟩)
     | (rw [if_neg g13, if_neg g21, if_neg g29, if_neg g36] at hr; exact ⟨(0, kE, 0), .inr ⟨rfl, hr⟩, by4, Vy rfl⟩)
    refine Zt V (Zg (Zc (Za 30 V V V (Zh V tf_184_0 V (Zs V V (Zq (cs' := [_, _, _, _, _]) (i := 0) V Wh V V V V V (Uf V) V (Vs (Zb (Zc (Za 31 V V V (Zh V tf_97_2 V (Za 32 V V V (Zp (i := 1) V ta_2 V V V (Za 33 V V V (Zh V tf_184_2 V (Zs V V (Zq (cs' := [_, _, _, _, _]) (i := 0) V ts_2 V V V V V (Uf V) V (Vs (Yt (Yz ?_))))))))))))))))))))
    first
    | (rw [if_pos g13] at hr; exact ⟨(3, tt, 0), .inl ⟨by decide, hr, hkt (by omega)⟩, by4, Vy rfl⟩)
    | (rw [if_neg g13, if_pos g21] at hr; exact ⟨(2, tt, 0), .inl ⟨by decide, hr, hkt (by omega)⟩, by4, Vy rfl⟩)
    | (rw [if_neg g13, if_neg g21, if_pos g29] at hr; exact ⟨(4, kE, tn), .inl ⟨by decide, hr, hkt (by omega)⟩, by4, Vy rfl⟩)
    | (rw [if_neg g13, if_neg g21, if_neg g29, if_pos g36] at hr; exact ⟨(1, kE, 0), .inl ⟨by decide, hr, hki g36⟩, by4, Vy rfl⟩)
    | (rw [if_neg g13, if_neg g21, if_neg g29, if_neg g36] at hr; exact ⟨(0, kE, 0), .inr ⟨rfl, hr⟩, by4, Vy rfl⟩)
   refine Zt V (Zg (Zc (Za 22 V V V (Zh V tf_184_0 V (Zs V V (Zq (cs' := [_, _, _, _, _]) (i := 0) V Wh V V V V V (Uf V) V (Vs (Zb (Zc (Za 23 V V V (Zh V Xh V (Za 24 V V V (Zp (i := 1) V Xb V V V (Za 25 V V V (Zh V tf_184_1 V (Zs V V (Zq (cs' := [_, _, _, _, _]) (i := 0) V ts_9 V V V V V (Uf V) V (Vs (Yt (Yz ?_))))))))))))))))))))
   first
   | (rw [if_pos g13] at hr; exact ⟨(3, tt, 0), .inl ⟨by decide, hr, hkt (by omega)⟩, by4, Vy rfl⟩)
   | (rw [if_neg g13, if_pos g21] at hr; exact ⟨(2, tt, 0), .inl ⟨by decide, hr, hkt (by omega)⟩, by4, Vy rfl⟩)
   | (rw [if_neg g13, if_neg g21, if_pos g29] at hr; exact ⟨(4, kE, tn), .inl ⟨by decide, hr, hkt (by omega)⟩, by4, Vy rfl⟩)
   | (rw [if_neg g13, if_neg g21, if_neg g29, if_pos g36] at hr; exact ⟨(1, kE, 0), .inl ⟨by decide, hr, hki g36⟩, by4, Vy rfl⟩)
   | (rw [if_neg g13, if_neg g21, if_neg g29, if_neg g36] at hr; exact ⟨(0, kE, 0), .inr ⟨rfl, hr⟩, by4, Vy rfl⟩)
  refine Zt V (Zg (Zc (Za 14 V V V (Zh V tf_184_0 V (Zs V V (Zq (cs' := [_, _, _, _, _]) (i := 0) V Wh V V V V V (Uf V) V (Vs (Zb (Zc (Za 15 V V V (Zh V Xh V (Za 16 V V V (Zp (i := 1) V Xb V V V (Za 17 V V V (Zh V tf_184_1 V (Zs V V (Zq (cs' := [_, _, _, _, _]) (i := 0) V ts_9 V V V V V (Uf V) V (Vs (Yt (Yz ?_))))))))))))))))))))
  first
  | (rw [if_pos g13] at hr; exact ⟨(3, tt, 0), .inl ⟨by decide, hr, hkt (by omega)⟩, by4, Vy rfl⟩)
  | (rw [if_neg g13, if_pos g21] at hr; exact ⟨(2, tt, 0), .inl ⟨by decide, hr, hkt (by omega)⟩, by4, Vy rfl⟩)
  | (rw [if_neg g13, if_neg g21, if_pos g29] at hr; exact ⟨(4, kE, tn), .inl ⟨by decide, hr, hkt (by omega)⟩, by4, Vy rfl⟩)
  | (rw [if_neg g13, if_neg g21, if_neg g29, if_pos g36] at hr; exact ⟨(1, kE, 0), .inl ⟨by decide, hr, hki g36⟩, by4, Vy rfl⟩)
  | (rw [if_neg g13, if_neg g21, if_neg g29, if_neg g36] at hr; exact ⟨(0, kE, 0), .inr ⟨rfl, hr⟩, by4, Vy rfl⟩)
 rintro ⟨kk, ss, nn⟩ hI
 try dsimp only [List.cons_append, List.nil_append] at hI ⊢
 refine Zb (Zg (Zg (Zc (Za 38 V V V (Zh V tf_184_0 V (Za 39 V V V (Zp (i := 0) V Xa V V V (Za 40 V V V (Ww V V V ?_))))))))); intro c40 h40
 refine Vs (Zb ?_)
 rcases Zi h40 with ⟨rfl, g40⟩ | ⟨rfl, g40⟩
 ·refine Zr V (Zv (Zb (Zg ?_)))
  obtain ⟨_, h2⟩ := hI.resolve_left (fun q => by omega)
  refine Zc (Za 49 V V V (Zd V V (Za 50 V V V (Yi (xs := [.tmp 49, .const (.int .i64 7), .const (.string ⟨#[40]⟩)]) (i := 3) V V V (take_c b L hL p k.1 7 kLP) by1 ?_))))
  refine Vs (Zb (Zg (Zg (Zc (Za 51 V V V (Zd V V (Za 52 V V V (op_mayc (xs := [.tmp 51, .const (.string ⟨#[41]⟩)]) (i := 3) V V V (may_c b L hL (takeP L p 7 kLP).2 kRP) by1 ?_ ?_))))))))
  ·intro g52
   refine Vs (Zb (Zt V (Zg (Zc (Za 53 V V V (Zh V Wv V (Za 54 V V V (Zp (i := 1) V Xa V V V (Za 55 V V V (Yl (ns := [0, 1, 4]) (xs := [.const (.int .i64 3), .const (.string ⟨#[85, 110, 105, 116]⟩), .tmp 54]) V tz_184 V tfl_184 V V V V ?_))))))))))
   refine Zs V V (Zq (cs' := [_, _, _, _, _]) (i := 2) V ts_184 V V V V V (Uf V) V (Vs (Zb (Ya ?_))))
   rw [if_pos g52] at h2; subst h2; exact Yn (i := 2) rfl rfl rfl ta_184 rfl by2 (Vw _ (Vw _ (Vw _ (Vy rfl)))) ⟨rfl, rfl⟩
  intro g52
  refine Vs (Zb (Zr V (Zv (Zb (Zg ?_)))))
  have HT1 := HT _ k1
  have k2 := (HA _ k1).ok k1
  rw [if_neg g52] at h2
  obtain ⟨⟨⟨xk, xs, xn, xl, xp⟩, p3⟩, hx⟩ : ∃ r, T (takeP L p 7 kLP).2 = r := ⟨_, rfl⟩
  rw [hx] at HT1 h2 k2
  simp only [Pa.cells] at HT1
  refine Zc (Za 56 V V V (Zd V V (Za 57 V V V (Yi (xs := [.tmp 56]) (i := 3) V V V (HT1) by1 ?_))))
  refine Zs V V (Zq (cs' := [_, _, _, _, _]) (i := 0) V ts_184 V V V V V (Uf V) V (Vs (Zb (Zg (Zc (Za 58 V V V (Zd V V (Za 59 V V V (Yi (xs := [.tmp 58, .const (.int .i64 7), .const (.string ⟨#[41]⟩)]) (i := 3) V V V (take_c b L hL _ k2.1 7 kRP) by1 ?_)))))))))
  refine Vs (Zb (Zg (Zc (Za 60 V V V (Zx (cs' := [_, _, _, _, _]) (i := 0) V ta_184 V V V V (Zs V V (Zq (cs' := [_, _, _, _, _]) (i := 2) V ts_184 V V V V V (Uf V) V (Vs (Zb (Ya ?_))))))))))
  subst h2; exact Yn (i := 2) rfl rfl rfl ta_184 rfl (Vz _) (Vw _ (Vw _ (Vw _ (Vy rfl)))) ⟨rfl, rfl⟩
 refine Zt V (Zg ?_)
 obtain ⟨_, h2, h3⟩ := hI.resolve_right (fun q => by omega)
 refine Zc (Za 41 V V V (Zd V V (Za 42 V V V (Yk V V (Za 43 V V V (Zh V tf_95_1 V (Za 44 V V V (Zp (i := 3) V Xa V V V (Za 45 V V V (Yx V V V (Uj _ (by omega)) ?_))))))))))
 refine Za 46 V V V (Yk V V (Za 47 V V V (Zh V tf_95_1 V (Zs V V (Zq (i := 3) V Wh V V V V V (Uf V) V (Vs (Zb (Zg (Zc (Za 48 V V V (Zx (cs' := [_, _, _, _, _]) (i := 0) V ta_184 V V V V (Zs V V (Zq (cs' := [_, _, _, _, _]) (i := 2) V ts_184 V V V V V (Uf V) V (Vs (Zb (Ya ?_))))))))))))))))
 subst h2; exact Yn (i := 2) rfl rfl rfl ta_184 rfl (Le.agg (Ub (Vz _) (Ub (Vz _) (Ub (Vz _) (Ub (Le.nil _) (Ua _)))))) (Vw _ (Vw _ (Vw _ (Vy rfl)))) ⟨rfl, rfl⟩
theorem pat_err (b : Nat) (L : List Tok) (p : PS) (he : p.e ≠ 0) : MCall Tryz.prog 131 [.ptr b 0] (.loc b (psC L p)) (.agg pa0.cells) (.loc b (psC L p)) := by
 refine Zw Tryz.func131 V (by kernel_rfl) V (Uf V) ?_
 refine Yf (Zg (Zc (Za 2 V V V (Zy (cs' := [_, _, _, _, _]) V tz_184 V V ?_)))); intro b2
 refine Vs (Zb (Zg (Zg (Zc (Za 5 V V V (Zd V V (Za 6 V V V (Yk V V (Za 7 V V V (Zh V Vo V (Za 8 V V V (Zp (i := 1) V Xa V V V (Za 9 V V V (Xq V V V ?_)))))))))))))); intro c9 h9
 refine Vs (Zb ?_)
 rcases Zi h9 with ⟨rfl, g9⟩ | ⟨rfl, g9⟩
 ·exact absurd he g9
 exact Zt V (Zg (Zc (Za 10 V V V (Yl (ns := []) (xs := []) V tz_184 V tfl_184 V V V V (Zs V V (Zq (cs' := [_, _, _, _, _]) (i := 0) V ts_184 V V V V V (Uf V) V (Vs (Zb (Ya (Yn (i := 0) V V V ta_184 V by2 (Vw _ (Vt _)) ⟨V, V⟩))))))))))
theorem apat_con (b : Nat) (L : List Tok) (hL : L.length ≤ 100000) (n : Nat) (p : PS) (k : POk L n p) (h2 : (nxt L p).k = 2) : MCall Tryz.prog 134 [.ptr b 0] (.loc b (psC L p)) (.agg [.val (.int .i64 3), .val (.string (nxt L p).t), .val (.int .i64 0), .val (.slice none 0 0), .val (.int .i64 (nxt L p).a)]) (.loc b (psC L (stepP p))) := by
 have HN := next_c b L p
 have hp := k.1
 have hlt : p.at_ < L.length := (Vr (by omega)).2
 obtain ⟨t, ht⟩ : ∃ t, nxt L p = t := ⟨_, rfl⟩
 rw [ht] at HN h2 ⊢
 obtain ⟨tk, tt, tn, ta⟩ := t
 simp only [Tok.av] at HN h2 ⊢
 refine Zw Tryz.func134 V (by kernel_rfl) V (Uf V) ?_
 refine Yf (Zg (Zc (Za 2 V V V (Zy (cs' := [_, _, _, _, _]) V tz_184 V V ?_)))); intro b2
 refine Vs (Zb (Zg (Zc (Za 5 V V V (Zd V V (Za 6 V V V (Wr (xs := [.tmp 5]) [1] V V V (HN) by1 ?_)))))))
 refine Za 3 V V V (Zy (cs' := [_, _, _, _]) V Wj V V ?_); intro b3
 refine Zs V V (Zq (cs' := [_, _, _, _]) (i := 0) V Xk V V V V V (Uf V) V (Vs (Zb (Zg (Zc (Za 7 V V V (Zh V Wv V (Za 8 V V V (Zp (i := 0) V Xa V V V (Za 9 V V V (Yl (ns := [4]) (xs := [.tmp 8]) V tz_184 V tfl_184 V V V V (Za 4 V V V (Zy (cs' := [_, _, _, _, _]) V tz_184 V V ?_))))))))))))); intro b4
 refine Zs V V (Zq (cs' := [_, _, _, _, _]) (i := 0) V ts_184 V V V V V (Uf V) V (Vs (Zb (Zg (Zz (Zg (Zc (Za 11 V V V (Zh V Xf V (Za 12 V V V (Zp (i := 1) V Xa V V V (Za 13 V V V (Yr V V V ?_))))))))))))); intro c13 h13
 refine Za 10 V V V (Ze V V (Vs (Zb ?_)))
 rcases Zi h13 with ⟨rfl, g13⟩ | ⟨rfl, g13⟩
 ·exact absurd h2 g13
 refine Zt V (Zg (Zc (Za 14 V V V (Zh V tf_184_0 V (Zs V V (Zq (cs' := [_, _, _, _, _]) (i := 0) V Wh V V V V V (Uf V) V (Vs (Zb (Zc (Za 15 V V V (Zh V Xh V (Za 16 V V V (Zp (i := 1) V Xb V V V (Za 17 V V V (Zh V tf_184_1 V (Zs V V (Zq (cs' := [_, _, _, _, _]) (i := 0) V ts_9 V V V V V (Uf V) V (Vs (Yt (Zb (Zg (Zg (Zc (Za 38 V V V (Zh V tf_184_0 V ?_)))))))))))))))))))))))))
 refine Za 39 V V V (Zp (i := 0) V Xa V V V (Za 40 V V V (Ww V V V ?_))); intro c40 h40
 refine Vs (Zb ?_)
 rcases Zi h40 with ⟨rfl, g40⟩ | ⟨rfl, g40⟩
 ·exact absurd g40 (by decide)
 refine Zt V (Zg (Zc (Za 41 V V V (Zd V V (Za 42 V V V (Yk V V (Za 43 V V V (Zh V tf_95_1 V (Za 44 V V V (Zp (i := 3) V Xa V V V (Za 45 V V V (Yx V V V (Uj _ (by omega)) ?_))))))))))))
 exact Za 46 V V V (Yk V V (Za 47 V V V (Zh V tf_95_1 V (Zs V V (Zq (i := 3) V Wh V V V V V (Uf V) V (Vs (Zb (Zg (Zc (Za 48 V V V (Zx (cs' := [_, _, _, _, _]) (i := 0) V ta_184 V V V V (Zs V V (Zq (cs' := [_, _, _, _, _]) (i := 2) V ts_184 V V V V V (Uf V) V (Vs (Zb (Ya (Yn (i := 2) V V V ta_184 V (Vz _) (Vw _ (Vw _ (Vw _ (Vy V)))) ⟨V, V⟩)))))))))))))))))
theorem pat_non (b : Nat) (L : List Tok) (hL : L.length ≤ 100000) (n : Nat) (T : PS → Pa × PS) (HT : PaC b L n T) (HA : ∀ q, POk L n q → Adv L q (T q).2) (p : PS) (k : POk L (n + 1) p) (he : p.e = 0) (hk : ¬ (nxt L (deeperP L p)).k = 2) :
    MCall Tryz.prog 131 [.ptr b 0] (.loc b (psC L p)) (.agg (apatG L T (deeperP L p)).1.cells) (.loc b (psC L (decP (apatG L T (deeperP L p)).2))) := by
 have kq := deeper_ok k he
 have HN := next_c b L (deeperP L p)
 have HAT := apat_c b L hL n T HT HA (deeperP L p) kq
 have kt := (apat_adv HA kq).ok kq
 obtain ⟨t, ht⟩ : ∃ t, nxt L (deeperP L p) = t := ⟨_, rfl⟩
 rw [ht] at HN hk
 obtain ⟨tk, tt, tn, ta⟩ := t
 obtain ⟨⟨⟨xk, xs, xn, xl, xp⟩, q1⟩, hx⟩ : ∃ r, apatG L T (deeperP L p) = r := ⟨_, rfl⟩
 rw [hx] at HAT kt ⊢
 simp only [Tok.av, Pa.cells] at HN HAT hk ⊢
 simp only [] at kt
 have hb1 := kt.2.1
 have hb2 := kt.2.2.1
 refine Zw Tryz.func131 V (by kernel_rfl) V (Uf V) ?_
 refine Yf (Zg (Zc (Za 2 V V V (Zy (cs' := [_, _, _, _, _]) V tz_184 V V ?_)))); intro b2
 refine Vs (Zb (Zg (Zg (Zc (Za 5 V V V (Zd V V (Za 6 V V V (Yk V V (Za 7 V V V (Zh V Vo V (Za 8 V V V (Zp (i := 1) V Xa V V V (Za 9 V V V (Xq V V V ?_)))))))))))))); intro c9 h9
 refine Vs (Zb ?_)
 rcases Zi h9 with ⟨rfl, g9⟩ | ⟨rfl, g9⟩
 ·refine Zr V (Zv (Zb (Zg (Zc (Za 11 V V V (Zd V V ?_))))))
  refine Za 12 V V V (Yi (xs := [.tmp 11]) (i := 1) V V V (deeper_c b L p k.2.1 (by have := k.2.2.1; omega)) by1 ?_)
  refine Vs (Zb (Zg (Zc (Za 13 V V V (Zd V V (Za 14 V V V (Wr (xs := [.tmp 13]) [1] V V V (HN) by1 ?_)))))))
  refine Za 15 V V V (Va (ft := 3) (fo := 0) V (by kernel_rfl) Xa V V ?_)
  refine Za 16 V V V (Yr V V V ?_); intro c16 h16
  refine Za 3 V V V (Ze V V (Vs (Zb (Zg ?_))))
  obtain rfl : c16 = false := by
   cases c16 with
   | false => rfl
   | true => exact absurd (h16.1 rfl) hk
  refine Zc (Za 17 V V V (Zd V V (Za 18 V V V (Yi (xs := [.tmp 17]) (i := 1) V V V (HAT) by1 ?_))))
  refine Za 4 V V V (Zy (cs' := [_, _, _, _, _]) V tz_184 V V ?_); intro b4
  refine Zs V V (Zq (cs' := [_, _, _, _, _]) (i := 0) V ts_184 V V V V V (Uf V) V (Vs (Zb (Zg (Zz ?_)))))
  apply Xm [1, 5, 6, 7, 8, 9, 10, 11, 12, 13, 14, 15, 16, 17, 18, 19, 20, 21, 22, 23, 24, 25, 26, 27, 28, 29, 30] (σ := Unit) (fun zz => match zz with | z => []) (fun zz => match zz with | z => True) (fun zz => match zz with | z => 0) (())
  ·repeat' (first | exact Ui | apply Ug rfl | apply Uh rfl)
  ·exact trivial
  ·exact by4
  rintro z hI
  try dsimp only [List.cons_append, List.nil_append] at hI ⊢
  refine Zg (Zg (Zc (Za 19 V V V (Zd V V (Za 20 V V V (Zd V V (Zk 21 V V V V V (Zk 22 V V V V V (Za 23 V V V (Zn V V V (Vs (Zb (Zr V (Xc (Xe (Xv (Xd (Zb (Zg (Zc (Za 31 V V V (Zd V V (Za 32 V V V (Yk V V ?_))))))))))))))))))))))))
  refine Za 33 V V V (Zh V tf_95_2 V (Za 34 V V V (Zp (i := 2) V Xa V V V (Za 35 V V V (op_sub V V V (Uj _ (by omega)) ?_)))))
  exact Za 36 V V V (Yk V V (Za 37 V V V (Zh V tf_95_2 V (Zs V V (Zq (i := 2) V Wh V V V V V (Uf V) V (Vs (Zb (Zg (Zc (Za 38 V V V (Zx (cs' := [_, _, _, _, _]) (i := 0) V ta_184 V V V V (Zs V V (Zq (cs' := [_, _, _, _, _]) (i := 1) V ts_184 V V V V V (Uf V) V (Vs (Zb (Ya (Yn (i := 1) V V V ta_184 V (Vz _) (Vw _ (Vw _ (Vy V))) ⟨V, V⟩)))))))))))))))))
 exact absurd he g9
theorem pat_con (b : Nat) (L : List Tok) (hL : L.length ≤ 100000) (n : Nat) (T : PS → Pa × PS) (HT : PaC b L n T) (HA : ∀ q, POk L n q → Adv L q (T q).2) (p : PS) (k : POk L (n + 1) p) (he : p.e = 0) (hk : (nxt L (deeperP L p)).k = 2) (r : List Pa × PS) (hr : patsL L T (L.length + 1) (stepP (deeperP L p)) [] = r) :
    MCall Tryz.prog 131 [.ptr b 0] (.loc b (psC L p)) (.agg (Pa.mk 3 (nxt L (deeperP L p)).t 0 r.1 (nxt L (deeperP L p)).a).cells) (.loc b (psC L (decP r.2))) := by
 have kq := deeper_ok k he
 have HN := next_c b L (deeperP L p)
 have HAT := apat_con b L hL n (deeperP L p) kq hk
 have hlt : (deeperP L p).at_ < L.length := (Vr (by omega)).2
 have ks := (Vh kq hlt).ok kq
 obtain ⟨t, ht⟩ : ∃ t, nxt L (deeperP L p) = t := ⟨_, rfl⟩
 rw [ht] at HN hk HAT ⊢
 obtain ⟨tk, tt, tn, ta⟩ := t
 simp only [Tok.av] at HN HAT hk ⊢
 refine Zw Tryz.func131 V (by kernel_rfl) V (Uf V) ?_
 refine Yf (Zg (Zc (Za 2 V V V (Zy (cs' := [_, _, _, _, _]) V tz_184 V V ?_)))); intro b2
 refine Vs (Zb (Zg (Zg (Zc (Za 5 V V V (Zd V V (Za 6 V V V (Yk V V (Za 7 V V V (Zh V Vo V (Za 8 V V V (Zp (i := 1) V Xa V V V (Za 9 V V V (Xq V V V ?_)))))))))))))); intro c9 h9
 refine Vs (Zb ?_)
 rcases Zi h9 with ⟨rfl, g9⟩ | ⟨rfl, g9⟩
 ·refine Zr V (Zv (Zb (Zg (Zc (Za 11 V V V (Zd V V ?_))))))
  refine Za 12 V V V (Yi (xs := [.tmp 11]) (i := 1) V V V (deeper_c b L p k.2.1 (by have := k.2.2.1; omega)) by1 ?_)
  refine Vs (Zb (Zg (Zc (Za 13 V V V (Zd V V (Za 14 V V V (Wr (xs := [.tmp 13]) [1] V V V (HN) by1 ?_)))))))
  refine Za 15 V V V (Va (ft := 3) (fo := 0) V (by kernel_rfl) Xa V V ?_)
  refine Za 16 V V V (Yr V V V ?_); intro c16 h16
  refine Za 3 V V V (Ze V V (Vs (Zb (Zg ?_))))
  obtain rfl : c16 = true := h16.2 hk
  refine Zc (Za 17 V V V (Zd V V (Za 18 V V V (Yi (xs := [.tmp 17]) (i := 1) V V V (HAT) by1 ?_))))
  refine Za 4 V V V (Zy (cs' := [_, _, _, _, _]) V tz_184 V V ?_); intro b4
  refine Zs V V (Zq (cs' := [_, _, _, _, _]) (i := 0) V ts_184 V V V V V (Uf V) V (Vs (Zb (Zg (Zz (We 184 5 ?_))))))
  apply Wg [1, 5, 6, 7, 8, 9, 10, 11, 12, 13, 14, 15, 16, 17, 18, 19, 20, 21, 22, 23, 24, 25, 26, 27, 28, 29, 30] (σ := PS × Nat × List Pa × Value) (fun zz => match zz with | (q, f, acc, u) => []) (fun zz => match zz with | (q, f, acc, u) => [.loc b4 [.val (.int .i64 3), .val (.string tt), .val (.int .i64 0), .own u 5 (Pa.cellss acc), .val (.int .i64 ta)], .loc b2 zPa, .loc b (psC L q), .own 184 5 u]) (fun zz => match zz with | (q, f, acc, u) => POk L n q ∧ L.length - q.at_ < f ∧ acc.length ≤ q.at_ ∧ patsL L T f q acc = r) (fun zz => match zz with | (q, f, acc, u) => f) ((stepP (deeperP L p), L.length + 1, [], .slice none 0 0))
  ·repeat' (first | exact Ui | apply Ug rfl | apply Uh rfl)
  ·exact ⟨ks, by omega, Nat.zero_le _, hr⟩
  ·exact by4
  ·exact (Vx _ (Ub (Vz _) (Ub (Vz _) (Ub (Vz _) (Ub (Le.nilOwn 5) (Ua _))))) (Vv _ (Vy V)))
  rintro ⟨q, f, acc, u⟩ hI
  try dsimp only [List.cons_append, List.nil_append] at hI ⊢
  obtain ⟨h1, h2, h3, hu⟩ := hI
  have hq1 := h1.1
  have hb1 := h1.2.1
  have hb2 := h1.2.2.1
  have hle : (Pa.cellss acc).length ≤ 200000 := by rw [Pa.cellss_len]; omega
  refine Zg (Zg (Zc (Za 19 V V V (Zd V V (Za 20 V V V (Zd V V (Zl 21 V V V V V (Zd V V (Zl 22 V V V V V (op_callkb (xs := [.tmp 21, .const (.int .i64 1)]) [2] V V V (starts_c b L q 1) by1 ?_)))))))))); intro c22 h22
  refine Za 23 V V V (Zn V V V (Vs (Zb ?_)))
  rcases Zi h22 with ⟨rfl, g22⟩ | ⟨rfl, g22⟩
  ·refine Zr V (Xc (Xe (Xv (Xd (Zb (Zg (Zc (Za 31 V V V (Zd V V (Za 32 V V V (Yk V V (Za 33 V V V (Zh V tf_95_2 V (Za 34 V V V (Zp (i := 2) V Xa V V V (Za 35 V V V (op_sub V V V (Uj _ (by omega)) ?_)))))))))))))))))
   refine Za 36 V V V (Yk V V (Za 37 V V V (Zh V tf_95_2 V (Zs V V (Zq (i := 2) V Wh V V V V V (Uf V) V (Vs (Zb (Zg (Zc (Za 38 V V V (Zx (cs' := [_, _, _, _, _]) (i := 0) V ta_184 V V V V (Zs V V (Zq (cs' := [_, _, _, _, _]) (i := 1) V ts_184 V V V V V (Uf V) V (Vs (Zb (Ya ?_))))))))))))))))
   rw [patsL_end g22] at hu; subst hu; exact Yn (i := 1) rfl rfl rfl ta_184 rfl (Le.agg (Ub (Vz _) (Ub (Vz _) (Ub (Vz _) (Ub (Le.own _ _ _) (Ua _)))))) (Vw _ (Vw _ (Vv _ (Vu _)))) ⟨rfl, rfl⟩
  refine Zt V (Zv (Zb (Zz ?_)))
  obtain ⟨f, rfl⟩ : ∃ f', f = f' + 1 := ⟨f - 1, by omega⟩
  rw [patsL_go g22] at hu
  have b1 := apat_lt HA h1 g22
  have b2 := apat_adv HA h1
  have l2 := b2.ok h1
  have HA2 := apat_c b L hL n T HT HA q h1
  obtain ⟨⟨⟨yk, ys, yn, yl, yp⟩, q2⟩, e2⟩ : ∃ r, apatG L T q = r := ⟨_, rfl⟩
  rw [e2] at HA2 hu l2 b1
  simp only [Pa.cells] at HA2
  simp only [] at b1 l2
  have l3 := l2.1
  refine Xu [0, 1, 2, 3, 4, 5, 6, 7] [3, 5, 7] [[], [0], [], [2], [2, 3], [0, 1, 2, 3, 4], [0, 1, 2, 3, 4, 5], [0, 1, 2, 3, 4, 5, 6]] Wo V (Yb 24 (none) (i := 0) V V V V V (Zh V tf_184_3 V ⟨V, V⟩) ?_)
  refine Yb 25 (some 0) (i := 1) V V V V V (Zp (i := 0) V ta_182 V V V ⟨V, V⟩) ?_
  refine Yb 26 (none) (i := 2) V V V V V (Zd V V ⟨V, V⟩) ?_
  refine Xn 2 (i := 3) V V V V V (Yi (xs := [.tmp 26]) (i := 0) V V V (HA2) by1 ⟨_, V, ?_⟩)
  refine Yb 28 (none) (i := 4) V V V V V (Ye (xs := [.tmp 27]) el_182 V V V V V V (Uf V) ⟨V, V⟩) ?_
  refine Xn 3 (i := 5) V V V V V (Xj (i := 0) el_182 V V V V (.seq _ _) by6 (fun u29 => ⟨_, V, ?_⟩))
  refine Yb 30 (none) (i := 6) V V V V V (Zh V tf_184_3 V ⟨V, V⟩) ?_
  refine Xn 0 (i := 7) V V V V V (Zq (cs' := [_, _, _, _, _]) (i := 0) V ts_182 V V V V V (Uf V) V ⟨_, V, ?_⟩)
  show AGo _ _ _ _ _ _ _
  refine Yt (Yz ?_)
  refine ⟨(q2, f, acc ++ [Pa.mk yk ys yn yl yp], u29), ⟨l2, (by show L.length - q2.at_ < f; omega), (by show (acc ++ [Pa.mk yk ys yn yl yp]).length ≤ q2.at_; rw [List.length_append]; simp; omega), hu⟩, Nat.lt_succ_self f, by4, (Vx _ (Ub (Vz _) (Ub (Vz _) (Ub (Vz _) (Ub (Ue (by rw [Pa.cellss_app']; rfl)) (Ua _))))) (Vv _ (Vy V)))⟩
 exact absurd he g9
theorem pat_c (b : Nat) (L : List Tok) (hL : L.length ≤ 100000) : ∀ n, PaC b L n (patF L n)
 | 0, p, k => pat_err b L p (fun e => by have := k.2.2.2 e; omega)
 | n + 1, p, k => by
  by_cases he : p.e = 0
  ·rw [patF, if_neg (by rw [he]; simp)]
   by_cases hk : (nxt L (deeperP L p)).k = 2
   ·rw [if_pos hk]; exact pat_con b L hL n (patF L n) (pat_c b L hL n) (patF_adv n) p k he hk _ rfl
   rw [if_neg hk]; exact pat_non b L hL n (patF L n) (pat_c b L hL n) (patF_adv n) p k he hk
  rw [patF, if_pos he]; exact pat_err b L p he
theorem patP_c (b : Nat) (L : List Tok) (hL : L.length ≤ 100000) (n : Nat) (p : PS) (k : POk L n p) : MCall Tryz.prog 131 [.ptr b 0] (.loc b (psC L p)) (.agg (patP L p).1.cells) (.loc b (psC L (patP L p).2)) := pat_c b L hL 302 p (k.up (by decide))
end Go.Proofs.YtknodnfbaofngaaGreat
namespace Go.Proofs.YtknodnfbaofngaaGreat
open Go.RowKit
def rowT (i : Nat) : List (List UInt8) := rowsT.getD i []
structure TblAt (w : World) (B : Nat) : Prop where
 row : ∀ i, i < 7 → w.cell? ⟨B + 7, i, none⟩ = some (.slice (some ⟨B + i, 0, none⟩) (rowT i).length (rowT i).length)
 str : ∀ i, i < 7 → ∀ k, k < (rowT i).length → w.cell? ⟨B + i, k, none⟩ = some (.string ⟨((rowT i).getD k []).toArray⟩)
theorem seven {i : Nat} (h : i < 7) : i = 0 ∨ i = 1 ∨ i = 2 ∨ i = 3 ∨ i = 4 ∨ i = 5 ∨ i = 6 := by omega
theorem rowlen (i : Nat) (h : i < 7) : (rowT i).length ≤ 6 := by
 rcases seven h with rfl | rfl | rfl | rfl | rfl | rfl | rfl <;> decide
def missTo (op : List UInt8) (i : Nat) : Prop := ∀ j, j < 7 → j < i → (rowT j).contains op = false
theorem rowT_get {j : Nat} (h : j < rowsT.length) : rowsT[j] = rowT j := by simp [rowT, List.getD, h]
theorem lvl_at {op : List UInt8} {i : Nat} (hi : i < 7) (hm : missTo op i) (hc : (rowT i).contains op = true) : lvl op = i + 1 := by
 unfold lvl
 congr 1
 have hi' : i < rowsT.length := hi
 rw [List.findIdx_eq hi']
 refine ⟨by rw [rowT_get hi']; exact hc, fun j hj => ?_⟩
 have hj' : j < rowsT.length := by omega
 rw [rowT_get hj']
 exact hm j hj' hj
theorem lvl_8 {op : List UInt8} (hm : missTo op 7) : lvl op = 8 := by
 unfold lvl
 have : rowsT.findIdx (fun r => r.contains op) = rowsT.length := by
  rw [List.findIdx_eq_length]
  intro r hr
  obtain ⟨j, hj, rfl⟩ := List.getElem_of_mem hr
  rw [rowT_get hj]
  exact hm j hj hj
 rw [this]; rfl
theorem miss_row {op : List UInt8} {i : Nat} (h : ∀ k, k < (rowT i).length → (rowT i).getD k [] ≠ op) : (rowT i).contains op = false := by
 rw [List.contains_eq_mem, decide_eq_false_iff_not]
 intro hm
 obtain ⟨k, hk, e⟩ := List.getElem_of_mem hm
 exact h k hk (by simp [List.getD, hk, e])
theorem hit_row {op : List UInt8} {i k : Nat} (hk : k < (rowT i).length) (h : (rowT i).getD k [] = op) : (rowT i).contains op = true := by
 rw [List.contains_eq_mem, decide_eq_true_eq]
 have : (rowT i)[k] = op := by simpa [List.getD, hk] using h
 rw [← this]; exact List.getElem_mem hk
theorem rLevel_c (s : ByteArray) (w : World) : Calls Tryz.prog 125 #[.string s] w fun e w' => e = .returned (.int .i64 (lvl s.toList : Nat)) ∧ Below w.heap.size w w' := by
 go_enter Tryz.func125, Tryz.ntmps125
 go_wp2
 go_loopw [4, 5] (fun vi _ wr => ∃ i : Nat, i ≤ 7 ∧ vi = .int .i64 i ∧ missTo s.toList i ∧ TblAt wr w.heap.size ∧ Below w.heap.size w wr) (fun vi _ _ => 7 - (intOf vi).toNat)
 case atStart =>
  refine ⟨0, by omega, V, fun j h hj => by omega, ⟨?_, ?_⟩, ?_⟩
  ·intro i h
   rw [World.cell?_alloc_at _ _ _ _ (by simp only [World.size_alloc])]
   rcases seven h with rfl | rfl | rfl | rfl | rfl | rfl | rfl <;> rfl
  ·intro i h k hk
   rcases seven h with rfl | rfl | rfl | rfl | rfl | rfl | rfl
   all_goals
    have hk6 : k = 0 ∨ k = 1 ∨ k = 2 ∨ k = 3 ∨ k = 4 ∨ k = 5 := by have := rowlen _ h; omega
    rcases hk6 with rfl | rfl | rfl | rfl | rfl | rfl
    all_goals first | (exact absurd hk (by decide)) | skip
    all_goals
     repeat (rw [World.cell?_alloc_past _ _ _ (by simp only [World.size_alloc]; omega)])
     rw [World.cell?_alloc_at _ _ _ _ (by first | rfl | (simp only [World.size_alloc]; done) | (simp only [World.size_alloc]; omega))]
     rfl
  exact (((((((((Below.refl _ _).alloc (Nat.le_refl _) _).alloc (by simp) _).alloc (by simp; omega) _).alloc (by simp; omega) _).alloc (by simp; omega) _).alloc (by simp; omega) _).alloc (by simp; omega) _).alloc (by simp; omega) _)
 case round =>
  obtain ⟨i, hi, rfl, hm, hT, hbel⟩ := hrel
  by_cases hi7 : i < 7
  ·have hr := hT.row i hi7
   have hl := rowlen i hi7
   obtain ⟨n, hn⟩ : ∃ n, n = (rowT i).length := ⟨_, rfl⟩
   rw [← hn] at hr hl
   have HN := Lib.hid hn
   have HM := Lib.hid hm
   clear hn hm
   have d1 : decide ((i : Int) < 7) = true := by simp; omega
   go_wp2
   go_loop [5] (fun vk => ∃ k : Nat, k ≤ n ∧ vk = .int .i64 k ∧ ∀ j, j < k → (rowT i).getD j [] ≠ s.toList) (fun vk => n - (intOf vk).toNat)
   case atStart => exact ⟨0, by omega, rfl, fun j hj => by omega⟩
   case round =>
    obtain ⟨k, hk, rfl, hmk⟩ := hrel
    have HMK := Lib.hid hmk
    clear hmk
    by_cases hkn : k < n
    ·have cs := hT.str i hi7 k (by rw [← HN.out]; exact hkn)
     obtain ⟨sk, hsk⟩ : ∃ sk : ByteArray, sk = ⟨((rowT i).getD k []).toArray⟩ := ⟨_, rfl⟩
     have es : sk.toList = (rowT i).getD k [] := by rw [ByteArray.toList_eq, hsk]
     rw [← hsk] at cs
     clear hsk
     have HES := Lib.hid es
     clear es
     by_cases heq : (sk.toList == s.toList) = true
     ·go_wp2
      go_ret
      have h1 : (rowT i).getD k [] = s.toList := by rw [← HES.out]; simpa using heq
      exact ⟨by rw [lvl_at hi7 HM.out (hit_row (by rw [← HN.out]; exact hkn) h1)]; rfl, hbel⟩
     have heq' : (sk.toList == s.toList) = false := by simpa using heq
     clear heq
     go_wp2
     go_round
     case rel => exact ⟨k + 1, by omega, by go_num, fun j hj => by
      by_cases e : j = k
      ·subst e; rw [← HES.out]; exact beq_eq_false_iff_ne.1 heq'
      exact HMK.out j (by omega)⟩
     case measure => simp [intOf]; omega
    go_wp2
    go_roundw
    case rel => exact ⟨i + 1, by omega, by go_num, fun j h hj => by
     by_cases e : j = i
     ·subst e; exact miss_row (fun k' hk' => HMK.out k' (by have := HN.out; omega))
     exact HM.out j h (by omega), hT, hbel⟩
    case measure => simp [intOf]; omega
  have he : i = 7 := by omega
  subst he
  go_wp2
  go_ret
  exact ⟨by rw [lvl_8 hm]; rfl, hbel⟩
theorem Level_p (s : ByteArray) : PCall Tryz.prog 125 [.val (.string s)] (.val (.int .i64 (lvl s.toList : Nat))) :=
 PCall.of_calls (vs := [.string s]) (enters_of Tryz.func125 (by kernel_rfl) rfl) (fun w => rLevel_c s w)
theorem Level_at (ops : List Tok) (i : Nat) : PCall Tryz.prog 125 [.val (.string ((ops[i]?).getD (tok0 0)).t)] (.val (.int .i64 (lvT ops i : Nat))) := Level_p _
theorem strs_at {ops : List Tok} {i : Nat} (h : i < ops.length) : (strs (ops.map Tok.t))[i]? = some [.val (.string ((ops[i]?).getD (tok0 0)).t)] := by
 simp [strs, List.getElem?_eq_getElem h]
theorem sideN_8 (l : Nat) : ((sideN l : Nat) : Int) = if (l : Int) = 4 then 0 else if (l : Int) < 6 then 2 else 1 := by
 unfold sideN
 repeat' split
 all_goals first | rfl | omega
theorem back_eq {lv : Nat → Nat} {j : Nat} (h : ¬ (0 < j ∧ 4 < lv (j - 1))) : backL lv j = true ↔ (0 < j ∧ lv (j - 1) = 4) := by
 cases j with
 | zero => simp [backL]
 | succ j =>
  simp only [Nat.add_sub_cancel] at h ⊢
  rw [backL, if_neg (fun q => h ⟨Nat.succ_pos j, q⟩)]
  simp
theorem Side_p (l : Nat) : PCall Tryz.prog 126 [.val (.int .i64 (l : Nat))] (.val (.int .i64 (sideN l : Nat))) := by
 rw [sideN_8]
 refine Zw Tryz.func126 V (by kernel_rfl) V (Uf V) ?_
 refine Yf (Zg (Zc (Za 2 V V V (Ze V V (Vs (Zb (Zg (Zg (Zc (Za 3 V V V (Zd V V (Za 4 V V V (Yr V V V ?_))))))))))))); intro c4 h4
 refine Vs (Zb ?_)
 rcases Zi h4 with ⟨rfl, g4⟩ | ⟨rfl, g4⟩
 ·refine Zr V (Zv (Zb (Zg (Zg (Zc (Za 5 V V V (Zd V V (Za 6 V V V (Yu V V V ?_))))))))); intro c6 h6
  refine Vs (Zb ?_)
  rcases Zi h6 with ⟨rfl, g6⟩ | ⟨rfl, g6⟩
  ·exact Zr V (Zv (Zb (Zg (Zc (Za 2 V V V (Ze V V (Vs (Zb (Ya (Yh V V (Vz _) by3 ⟨by rw [if_neg g4, if_neg g6], V⟩))))))))))
  exact Zt V (Zg (Zc (Za 2 V V V (Ze V V (Vs (Zb (Ya (Yh V V (Vz _) by3 ⟨by rw [if_neg g4, if_pos g6], V⟩))))))))
 exact Zt V (Zg (Zc (Za 2 V V V (Ze V V (Vs (Zb (Ya (Yh V V (Vz _) by3 ⟨by rw [if_pos g4], V⟩))))))))
theorem Clash_p (ops : List Tok) (h : ops.length ≤ 200000) : PCall Tryz.prog 106 [.seq 1 (strs (ops.map Tok.t))] (.val (.int .i64 (clashP ops))) := by
 have hl : (strs (ops.map Tok.t)).length = ops.length := by simp [strs]
 have hC : clashP ops = clashL (lvT ops) (ops.length - 0) 0 := rfl
 generalize clashP ops = r at *
 refine Zw Tryz.func106 V (by kernel_rfl) V (Uf V) ?_
 refine Yf (Zg (Zc (Za 2 V V V (Ze V V (Vs (Zb (Zg (Zg (Zc (Za 3 V V V (Ze V V (Vs (Zb (Zz ?_))))))))))))))
 apply Xm [1, 2, 3, 4, 5, 6, 7, 8, 9, 10, 11, 12, 13, 14, 15, 16, 17, 18, 19, 20, 21, 22, 23, 24, 25, 26, 27, 28, 29, 30, 31, 32, 33, 34, 35, 36, 37, 38, 39, 40, 41] (σ := Nat) (fun zz => match zz with | k => [(3, .val (.int .i64 k))]) (fun zz => match zz with | k => k ≤ ops.length ∧ r = clashL (lvT ops) (ops.length - k) k) (fun zz => match zz with | k => ops.length - k) (0)
 ·repeat' (first | exact Ui | apply Ug rfl | apply Uh rfl)
 ·exact ⟨Nat.zero_le _, hC⟩
 ·exact by4
 rintro k hI
 try dsimp only [List.cons_append, List.nil_append] at hI ⊢
 obtain ⟨h1, hu⟩ := hI
 refine Zg (Zg (Zc (Za 5 V V V (Zd V V (Za 6 V V V (Zd V V ?_))))))
 refine Za 7 V V V (Yy V tu_68 V (.seq _ _) (fun n7 => ?_))
 refine Za 8 V V V (Yu V V V ?_); intro c8 h8
 refine Vs (Zb ?_)
 rcases Zi h8 with ⟨rfl, g8⟩ | ⟨rfl, g8⟩
 ·refine Zr V (Xc (Xe (Xv (Xd (Zb (Zg (Zc (Za 2 V V V (Ze V V (Vs (Zb (Ya ?_))))))))))))
  rw [show ops.length - k = 0 by omega, clashL] at hu; exact Yh rfl rfl (Vz _) by3 ⟨by rw [hu], rfl⟩
 refine Zt V (Zv (Zb (Zg (Zz (Zg (Zg ?_))))))
 obtain ⟨d, hd⟩ : ∃ d, ops.length - k = d + 1 := ⟨ops.length - k - 1, by omega⟩
 rw [hd, clashL] at hu
 have hd2 : d = ops.length - (k + 1) := by omega
 rw [hd2] at hu
 refine Zc (Za 11 V V V (Zd V V (Za 12 V V V (Zd V V (Za 13 V V V (Yd V te_68 V (.seq _ _) V V (strs_at (ops := ops) (i := k) (by omega)) ?_))))))
 refine Za 14 V V V (Zo V Xb V V (Za 15 V V V (Ym (xs := [.tmp 14]) V V (Level_at ops k) by1 ?_)))
 refine Za 16 V V V (Xq V V V ?_); intro c16 h16
 refine Vs (Zb ?_)
 rcases Zi h16 with ⟨rfl, g16⟩ | ⟨rfl, g16⟩
 ·refine Zr V (Zv (Zb (Zg (Zc (Za 17 V V V (Zd V V (Za 18 V V V (op_sub V V V (Uj _ (by omega)) ?_))))))))
  refine Za 4 V V V (Ze V V (Vs (Zb (Zg (Zz ?_)))))
  apply Xm [1, 4, 19, 20, 21, 22, 23, 24, 25, 26, 27, 28, 29, 30] (σ := Nat) (fun zz => match zz with | j => [(4, .val (.int .i64 ((j : Int) - 1)))]) (fun zz => match zz with | j => j ≤ k ∧ backL (lvT ops) k = backL (lvT ops) j) (fun zz => match zz with | j => j) (k)
  ·repeat' (first | exact Ui | apply Ug rfl | apply Uh rfl)
  ·exact ⟨Nat.le_refl _, V⟩
  ·exact by4
  rintro j hI
  try dsimp only [List.cons_append, List.nil_append] at hI ⊢
  obtain ⟨h2, hb⟩ := hI
  refine Zg (Zg (Xl 28 (0 < j ∧ 4 < lvT ops (j - 1)) ?_ _ _ V ?_))
  ·skip
   refine Za 19 V V V (Zd V V (Za 20 V V V (Wa V V V ?_))); intro c20 h20
   refine Za 21 V V V (Zd V V ?_)
   rcases Zi h20 with ⟨rfl, g20⟩ | ⟨rfl, g20⟩
   ·skip
    refine Zk 22 V V V V V (Zk 23 V V V V V (Zk 24 V V V V V (Zk 25 V V V V V (Zk 26 V V V V V (Zk 27 V V V V V (Za 28 V V V (Zn V V V (Vs (Ud V ?_ by5 by3)))))))))
    first | (simp_all; done) | (simp_all; omega) | grind
   skip
   refine Zl 22 V V V V V (Zd V V (Zl 23 V V V V V (Zd V V ?_)))
   refine Zl 24 V V V V V (Yd (i := (j - 1)) V te_68 V (.seq _ _) V (by first | rfl | omega) (strs_at (ops := ops) (i := j - 1) (by omega)) ?_)
   refine Zl 25 V V V V V (Zo V Xb V V (Zl 26 V V V V V (Ym (xs := [.tmp 25]) V V (Level_at ops (j - 1)) by1 ?_)))
   refine Zl 27 V V V V V (Ww V V V ?_); intro c27 h27
   refine Za 28 V V V (Zn V V V (Vs (Ud V ?_ by5 by3)))
   first | (simp_all; done) | (simp_all; omega) | grind
  intro c28 h28
  refine Zb ?_
  rcases Zi h28 with ⟨rfl, g28⟩ | ⟨rfl, g28⟩
  ·refine Zr V (Xc (Xe (Xv (Xd (Zb (Zg (Xl 40 (0 < j ∧ lvT ops (j - 1) = 4) ?_ _ _ V ?_)))))))
   ·skip
    refine Za 31 V V V (Zd V V (Za 32 V V V (Wa V V V ?_))); intro c32 h32
    refine Za 33 V V V (Zd V V ?_)
    rcases Zi h32 with ⟨rfl, g32⟩ | ⟨rfl, g32⟩
    ·skip
     refine Zk 34 V V V V V (Zk 35 V V V V V (Zk 36 V V V V V (Zk 37 V V V V V (Zk 38 V V V V V (Zk 39 V V V V V (Za 40 V V V (Zn V V V (Vs (Ud V ?_ by5 by3)))))))))
     first | (simp_all; done) | (simp_all; omega) | grind
    skip
    refine Zl 34 V V V V V (Zd V V (Zl 35 V V V V V (Zd V V ?_)))
    refine Zl 36 V V V V V (Yd (i := (j - 1)) V te_68 V (.seq _ _) V (by first | rfl | omega) (strs_at (ops := ops) (i := j - 1) (by omega)) ?_)
    refine Zl 37 V V V V V (Zo V Xb V V (Zl 38 V V V V V (Ym (xs := [.tmp 37]) V V (Level_at ops (j - 1)) by1 ?_)))
    refine Zl 39 V V V V V (Yr V V V ?_); intro c39 h39
    refine Za 40 V V V (Zn V V V (Vs (Ud V ?_ by5 by3)))
    first | (simp_all; done) | (simp_all; omega) | grind
   intro c40 h40
   refine Zb ?_
   rcases Zi h40 with ⟨rfl, g40⟩ | ⟨rfl, g40⟩
   ·refine Zr V (Zv (Yt (Zb (Zc (Za 9 V V V (Zd V V (Za 10 V V V (Yx V V V (Uj _ (by omega)) ?_))))))))
    refine Za 3 V V V (Ze V V (Vs (Yz ?_)))
    have hu2 : r = clashL (lvT ops) (ops.length - (k + 1)) (k + 1) := by
     first
      | (rw [if_neg (fun q => g40 ((back_eq g28).1 (by rw [← hb]; exact q.2)))] at hu; exact hu)
      | (rw [if_neg (fun q => g16 (by omega))] at hu; exact hu)
    exact ⟨k + 1, ⟨by omega, hu2⟩, by show ops.length - (k + 1) < ops.length - k; omega, Uc V (Le.inteq (by omega)) by4, by3⟩
   refine Zt V (Zg (Zc (Za 41 V V V (Zd V V (Za 2 V V V (Ze V V (Vs (Zb (Ya ?_)))))))))
   rw [if_pos ⟨by omega, by rw [hb]; exact (back_eq g28).2 g40⟩] at hu; exact Yh rfl rfl (Vz _) by3 ⟨by rw [hu], rfl⟩
  refine Zt V (Zv (Zb (Zz ?_)))
  obtain ⟨j, rfl⟩ : ∃ j', j = j' + 1 := ⟨j - 1, by omega⟩
  simp only [Nat.add_sub_cancel] at g28
  rw [backL, if_pos g28.2] at hb
  refine Zc (Za 29 V V V (Zd V V (Za 30 V V V (op_sub V V V (Uj _ (by omega)) ?_))))
  refine Za 4 V V V (Ze V V (Vs (Yt (Yz ?_))))
  exact ⟨j, ⟨by omega, hb⟩, Nat.lt_succ_self j, Uc V (Le.inteq (by omega)) by4, by3⟩
 refine Zt V (Xc (Xe (Xd (Zb (Zc (Za 9 V V V (Zd V V (Za 10 V V V (Yx V V V (Uj _ (by omega)) ?_)))))))))
 refine Za 3 V V V (Ze V V (Vs (Yz ?_)))
 have hu2 : r = clashL (lvT ops) (ops.length - (k + 1)) (k + 1) := by
  first
   | (rw [if_neg (fun q => g40 ((back_eq g28).1 (by rw [← hb]; exact q.2)))] at hu; exact hu)
   | (rw [if_neg (fun q => g16 (by omega))] at hu; exact hu)
 exact ⟨k + 1, ⟨by omega, hu2⟩, by show ops.length - (k + 1) < ops.length - k; omega, Uc V (Le.inteq (by omega)) by4, by3⟩
abbrev zEx : List AV := [.val (.int .i64 0), .val (.string kE), .val (.int .i64 0), .val (.int .i64 0), .val (.string kE), .val (.int .i64 0), .val (.slice none 0 0), .val (.slice none 0 0), .val (.slice none 0 0), .val (.slice none 0 0), .val (.int .i64 0)]
theorem rootB_in (ops : List Tok) : ∀ (f a i lo : Nat), lo ≤ a → a < i → lo ≤ rootB ops f a i ∧ rootB ops f a i < i + f
 | 0, a, i, lo, h1, h2 => ⟨h1, h2⟩
 | f + 1, a, i, lo, h1, h2 => by
  unfold rootB
  split
  ·have := rootB_in ops f i (i + 1) lo (by omega) (Nat.lt_succ_self i); omega
  have := rootB_in ops f a (i + 1) lo h1 (by omega); omega
theorem toks_at {ops : List Tok} {i : Nat} (h : i < ops.length) : (ops.map Tok.av)[i]? = some ((ops[i]?).getD (tok0 0)).av := by
 simp [List.getElem?_eq_getElem h]
theorem exs_at {l : List Ex} {i : Nat} (h : i < l.length) : (Ex.cellss l)[i]? = some ((l[i]?).getD ex0).cells := by
 rw [Ex.cellss_map]; simp [List.getElem?_eq_getElem h]
theorem Build_one (l : List Ex) (ops : List Tok) (hl : l.length = ops.length + 1) (a : Nat) (ha : a ≤ ops.length) : PCall Tryz.prog 107 [.seq 11 (Ex.cellss l), .seq 4 (ops.map Tok.av), .val (.int .i64 a), .val (.int .i64 a)] (.agg ((l[a]?).getD ex0).cells) := by
 have hx := exs_at (l := l) (i := a) (by omega)
 obtain ⟨⟨xk, xs, xn, ⟨xtk, xts, xtn, xtl⟩, xks, xal, xbs, xp⟩, e⟩ : ∃ x, (l[a]?).getD ex0 = x := ⟨_, rfl⟩
 rw [e] at hx ⊢
 refine Zw Tryz.func107 V (by kernel_rfl) V (Uf V) ?_
 refine Yf (Zg (Zc (Za 8 V V V (Zy (cs' := [_, _, _, _, _, _, _, _, _, _, _]) V Wb V V ?_)))); intro b8
 refine Vs (Zb (Zg (Zg (Zc (Za 17 V V V (Zd V V (Za 18 V V V (Zd V V (Za 19 V V V (Yr V V V ?_)))))))))); intro c19 h19
 refine Vs (Zb ?_)
 rcases Zi h19 with ⟨rfl, g19⟩ | ⟨rfl, g19⟩
 ·exact absurd V g19
 exact Zt V (Zg (Zc (Za 20 V V V (Zd V V (Za 21 V V V (Zd V V (Za 22 V V V (Yd V te_107 V (.seq _ _) V V (hx) (Za 23 V V V (Yc (cs' := [_, _, _, _, _, _, _, _, _, _, _]) V Wf V V V (Zs V V (Zq (cs' := [_, _, _, _, _, _, _, _, _, _, _]) (i := 0) V Wn V V V V V (Uf V) V (Vs (Zb (Ya (Yn (i := 0) V V V Wf V (Vz _) by3 ⟨V, V⟩))))))))))))))))
theorem Build_two (l : List Ex) (ops : List Tok) (hL : ops.length ≤ 200000) (a b d : Nat) (hab : a < b) (hb : b ≤ ops.length) (hd : b - a ≤ d + 1)
    (IH : ∀ a b, a ≤ b → b ≤ ops.length → b - a ≤ d → PCall Tryz.prog 107 [.seq 11 (Ex.cellss l), .seq 4 (ops.map Tok.av), .val (.int .i64 a), .val (.int .i64 b)] (.agg (buildF l ops d a b).cells)) :
    PCall Tryz.prog 107 [.seq 11 (Ex.cellss l), .seq 4 (ops.map Tok.av), .val (.int .i64 a), .val (.int .i64 b)] (.agg (buildF l ops (d + 1) a b).cells) := by
 rw [buildF, if_neg (by omega)]
 obtain ⟨r, hr⟩ : ∃ r, rootB ops (b - (a + 1)) a (a + 1) = r := ⟨_, rfl⟩
 have hin := rootB_in ops (b - (a + 1)) a (a + 1) a (Nat.le_refl _) (Nat.lt_succ_self a)
 rw [hr] at hin ⊢
 have H1 := IH a r hin.1 (by omega) (by omega)
 have H2 := IH (r + 1) b (by omega) hb (by omega)
 have hop := toks_at (ops := ops) (i := r) (by omega)
 obtain ⟨⟨xk, xs, xn, ⟨xtk, xts, xtn, xtl⟩, xks, xal, xbs, xp⟩, e1⟩ : ∃ x, buildF l ops d a r = x := ⟨_, rfl⟩
 obtain ⟨⟨yk, ys, yn, ⟨ytk, yts, ytn, ytl⟩, yks, yal, ybs, yp⟩, e2⟩ : ∃ x, buildF l ops d (r + 1) b = x := ⟨_, rfl⟩
 obtain ⟨⟨ok, ot, on, oa⟩, e3⟩ : ∃ x, (ops[r]?).getD (tok0 0) = x := ⟨_, rfl⟩
 rw [e1] at H1 ⊢
 rw [e2] at H2 ⊢
 rw [e3] at hop ⊢
 simp only [Ex.cells, Ty.cells, List.cons_append, List.nil_append, Tok.av] at H1 H2 hop
 clear IH
 obtain ⟨z, hz⟩ : ∃ z, binE (Tok.mk ok ot on oa) (Ex.mk xk xs xn (Ty.mk xtk xts xtn xtl) xks xal xbs xp) (Ex.mk yk ys yn (Ty.mk ytk yts ytn ytl) yks yal ybs yp) = z := ⟨_, rfl⟩
 rw [hz]
 unfold binE at hz
 simp only [] at hz
 refine Zw Tryz.func107 V (by kernel_rfl) V (Uf V) ?_
 refine Yf (Zg (Zc (Za 8 V V V (Zy (cs' := [_, _, _, _, _, _, _, _, _, _, _]) V Wb V V ?_)))); intro b8
 refine Vs (Zb (Zg (Zg (Zc (Za 17 V V V (Zd V V (Za 18 V V V (Zd V V (Za 19 V V V (Yr V V V ?_)))))))))); intro c19 h19
 refine Vs (Zb ?_)
 rcases Zi h19 with ⟨rfl, g19⟩ | ⟨rfl, g19⟩
 ·refine Zr V (Zv (Zb (Zg (Zc (Za 24 V V V (Zd V V (Za 9 V V V (Ze V V (Vs (Zb (Zg (Zg (Zc (Za 25 V V V (Zd V V (Za 26 V V V (Yx V V V (Uj _ (by omega)) ?_)))))))))))))))))
  refine Za 10 V V V (Ze V V (Vs (Zb (Zz ?_))))
  apply Xm [4, 5, 6, 7, 9, 10, 11, 12, 17, 18, 19, 20, 21, 22, 23, 24, 25, 26, 27, 28, 29, 30, 31, 32, 33, 34, 35, 36, 37, 38, 39, 40, 41, 42, 43, 44, 45, 46, 47, 48, 49, 50, 51, 52, 53, 54, 55, 56, 57] (σ := Nat × Nat) (fun zz => match zz with | (t, i) => [(9, .val (.int .i64 t)), (10, .val (.int .i64 i))]) (fun zz => match zz with | (t, i) => a ≤ t ∧ t < i ∧ i ≤ b ∧ rootB ops (b - i) t i = r) (fun zz => match zz with | (t, i) => b - i) ((a, a + 1))
  ·repeat' (first | exact Ui | apply Ug rfl | apply Uh rfl)
  ·exact ⟨Nat.le_refl _, Nat.lt_succ_self a, hab, hr⟩
  ·exact by4
  rintro ⟨t, i⟩ hI
  try dsimp only [List.cons_append, List.nil_append] at hI ⊢
  obtain ⟨h1, h2, h3, hu⟩ := hI
  refine Zg (Zg (Zc (Za 27 V V V (Zd V V (Za 28 V V V (Zd V V (Za 29 V V V (Yu V V V ?_)))))))); intro c29 h29
  refine Vs (Zb ?_)
  rcases Zi h29 with ⟨rfl, g29⟩ | ⟨rfl, g29⟩
  ·refine Zr V (Xc (Xe (Xv (Xd (Zb (Zg ?_))))))
   rw [show b - i = 0 by omega, rootB] at hu
   subst hu
   refine Zc (Za 58 V V V (Zd V V (Za 59 V V V (Zd V V (Za 60 V V V (Zd V V (Za 61 V V V (Zd V V (Za 62 V V V (Ym (xs := [.tmp 58, .tmp 59, .tmp 60, .tmp 61]) V V (H1) by1 ?_))))))))))
   refine Za 13 V V V (Zy (cs' := [_, _, _, _, _, _, _, _, _, _, _]) V Wb V V ?_); intro b13
   refine Zs V V (Zq (cs' := [_, _, _, _, _, _, _, _, _, _, _]) (i := 0) V Wn V V V V V (Uf V) V (Vs (Zb (Zg (Zc (Za 63 V V V (Zd V V (Za 64 V V V (Zd V V (Za 65 V V V (Zd V V (Za 66 V V V (Yx V V V (Uj _ (by omega)) ?_)))))))))))))
   refine Za 67 V V V (Zd V V (Za 68 V V V (Ym (xs := [.tmp 63, .tmp 64, .tmp 66, .tmp 67]) V V (H2) by1 ?_)))
   refine Za 14 V V V (Zy (cs' := [_, _, _, _, _, _, _, _, _, _, _]) V Wb V V ?_); intro b14
   refine Zs V V (Zq (cs' := [_, _, _, _, _, _, _, _, _, _, _]) (i := 0) V Wn V V V V V (Uf V) V (Vs (Zb (Zg (Zc (Za 69 V V V (Zd V V (Za 70 V V V (Zd V V (Za 71 V V V (Yd V te_93 V (.seq _ _) V V (hop) (Za 72 V V V (Yc (cs' := [_, _, _, _]) V Yq V V V (Za 15 V V V (Zy (cs' := [_, _, _, _]) V Wj V V ?_))))))))))))))); intro b15
   refine Zs V V (Zq (cs' := [_, _, _, _]) (i := 0) V Xk V V V V V (Uf V) V (Vs (Zb (Zg (Zg (Zc (Za 73 V V V (Zh V Xh V (Za 74 V V V (Zp (i := 0) V Xb V V V (Za 75 V V V (Xx V V V ?_)))))))))))); intro c75 h75
   refine Vs (Zb ?_)
   rcases Zi h75 with ⟨rfl, g75⟩ | ⟨rfl, g75⟩
   ·refine Zr V (Zv (Zb (Zg (Zg (Zc (Za 82 V V V (Zh V Xh V (Za 83 V V V (Zp (i := 0) V Xb V V V (Za 84 V V V (Xx V V V ?_))))))))))); intro c84 h84
    refine Vs (Zb ?_)
    rcases Zi h84 with ⟨rfl, g84⟩ | ⟨rfl, g84⟩
    ·refine Zr V (Zv (Zb (Zg (Zc (Za 91 V V V (Zh V Xh V (Za 92 V V V (Zp (i := 0) V Xb V V V (Za 93 V V V (Zh V Wv V (Za 94 V V V (Zp (i := 0) V Xa V V V (Za 95 V V V (Yl (ns := [0, 1, 7]) (xs := [.const (.int .i64 3), .tmp 92, .tmp 94]) V Wb V tfl_110 V V V V (Za 16 V V V (Zy (cs' := [_, _, _, _, _, _, _, _, _, _, _]) V Wb V V ?_)))))))))))))))); intro b16
     refine Zs V V (Zq (cs' := [_, _, _, _, _, _, _, _, _, _, _]) (i := 0) V Wn V V V V V (Uf V) V (Vs (Zb (Zg (Zc (Za 96 V V V (Zx (cs' := [_, _, _, _, _, _, _, _, _, _, _]) (i := 0) V Wf V V V V (Za 97 V V V (Zx (cs' := [_, _, _, _, _, _, _, _, _, _, _]) (i := 3) V Wf V V V V (Za 98 V V V (Ye (xs := [.tmp 96, .tmp 97]) el_107 V V V V V V (Uf V) (Za 99 V V V (Zh V Wv V (Za 100 V V V (Zp (i := 1) V Xa V V V (Za 101 V V V (Yl (ns := [0, 4, 7]) (xs := [.const (.int .i64 5), .tmp 98, .tmp 100]) V Wb V tfl_110 V V V V (Zs V V (Zq (cs' := [_, _, _, _, _, _, _, _, _, _, _]) (i := 0) V Wn V V V V V (Uf V) V (Vs (Zb (Zg (Zc (Za 102 V V V (Zx (cs' := [_, _, _, _, _, _, _, _, _, _, _]) (i := 0) V Wf V V V V (Za 103 V V V (Zx (cs' := [_, _, _, _, _, _, _, _, _, _, _]) (i := 2) V Wf V V V V ?_)))))))))))))))))))))))))))
     refine Za 104 V V V (Ye (xs := [.tmp 102, .tmp 103]) el_107 V V V V V V (Uf V) (Za 105 V V V (Zh V Wv V (Za 106 V V V (Zp (i := 1) V Xa V V V (Za 107 V V V (Yl (ns := [0, 4, 7]) (xs := [.const (.int .i64 5), .tmp 104, .tmp 106]) V Wb V tfl_110 V V V V (Zs V V (Zq (cs' := [_, _, _, _, _, _, _, _, _, _, _]) (i := 4) V Wn V V V V V (Uf V) V (Vs (Zb (Ya ?_))))))))))))
     rw [if_neg g75, if_neg g84] at hz; subst hz; exact Yn (i := 4) rfl rfl rfl Wf rfl by0 by3 ⟨rfl, rfl⟩
    refine Zt V (Zg (Zc (Za 85 V V V (Zx (cs' := [_, _, _, _, _, _, _, _, _, _, _]) (i := 2) V Wf V V V V (Za 86 V V V (Zx (cs' := [_, _, _, _, _, _, _, _, _, _, _]) (i := 1) V Wf V V V V (Za 87 V V V (Ye (xs := [.tmp 85, .tmp 86]) el_107 V V V V V V (Uf V) (Za 88 V V V (Zh V Wv V (Za 89 V V V (Zp (i := 0) V Xa V V V (Za 90 V V V (Yl (ns := [0, 4, 7]) (xs := [.const (.int .i64 11), .tmp 87, .tmp 89]) V Wb V tfl_110 V V V V (Zs V V (Zq (cs' := [_, _, _, _, _, _, _, _, _, _, _]) (i := 3) V Wn V V V V V (Uf V) V (Vs (Zb (Ya ?_)))))))))))))))))))
    rw [if_neg g75, if_pos g84] at hz; subst hz; exact Yn (i := 3) rfl rfl rfl Wf rfl by0 by3 ⟨rfl, rfl⟩
   refine Zt V (Zg (Zc (Za 76 V V V (Zx (cs' := [_, _, _, _, _, _, _, _, _, _, _]) (i := 2) V Wf V V V V (Za 77 V V V (Zx (cs' := [_, _, _, _, _, _, _, _, _, _, _]) (i := 1) V Wf V V V V (Za 78 V V V (Ye (xs := [.tmp 76, .tmp 77]) el_107 V V V V V V (Uf V) (Za 79 V V V (Zh V Wv V (Za 80 V V V (Zp (i := 0) V Xa V V V (Za 81 V V V (Yl (ns := [0, 4, 7]) (xs := [.const (.int .i64 10), .tmp 78, .tmp 80]) V Wb V tfl_110 V V V V (Zs V V (Zq (cs' := [_, _, _, _, _, _, _, _, _, _, _]) (i := 3) V Wn V V V V V (Uf V) V (Vs (Zb (Ya ?_)))))))))))))))))))
   rw [if_pos g75] at hz; subst hz; exact Yn (i := 3) rfl rfl rfl Wf rfl by0 by3 ⟨rfl, rfl⟩
  refine Zt V (Zv (Zb (Zg (Zz (Zg (Zc (Za 32 V V V (Zd V V (Za 33 V V V (Zd V V (Za 34 V V V (Yd V te_93 V (.seq _ _) V V (toks_at (ops := ops) (i := t) (by omega)) ?_))))))))))))
  refine Za 35 V V V (Zj V Xh V V (Za 36 V V V (Zo V Xb V V (Za 37 V V V (Ym (xs := [.tmp 36]) V V (Level_at ops t) by1 ?_)))))
  refine Za 11 V V V (Ze V V (Vs (Zb (Zg (Zc (Za 38 V V V (Zd V V (Za 39 V V V (Zd V V (Za 40 V V V (Yd V te_93 V (.seq _ _) V V (toks_at (ops := ops) (i := i) (by omega)) ?_)))))))))))
  refine Za 41 V V V (Zj V Xh V V (Za 42 V V V (Zo V Xb V V (Za 43 V V V (Ym (xs := [.tmp 42]) V V (Level_at ops i) by1 ?_)))))
  refine Za 12 V V V (Ze V V (Vs (Zb (Zg (Xl 56 (lvT ops i < lvT ops t ∨ (lvT ops i = lvT ops t ∧ sideN (lvT ops t) = 1)) ?_ _ _ V ?_)))))
  ·skip
   refine Za 44 V V V (Zd V V (Za 45 V V V (Zd V V (Za 46 V V V (Yu V V V ?_))))); intro c46 h46
   refine Za 47 V V V (Zd V V ?_)
   rcases Zi h46 with ⟨rfl, g46⟩ | ⟨rfl, g46⟩
   ·skip
    refine Zl 48 V V V V V (Zd V V (Zl 49 V V V V V (Zd V V (Zl 50 V V V V V (Yr V V V ?_))))); intro c50 h50
    refine Zl 51 V V V V V (Zd V V ?_)
    rcases Zi h50 with ⟨rfl, g50⟩ | ⟨rfl, g50⟩
    ·skip
     refine Zk 52 V V V V V (Zk 53 V V V V V (Zk 54 V V V V V (Zl 55 V V V V V (Zn V V V (Za 56 V V V (Zn V V V (Vs (Ud V ?_ by5 by3))))))))
     clear H1 H2; first | (simp_all; done) | (simp_all; omega) | grind
    skip
    refine Zl 52 V V V V V (Zd V V (Zl 53 V V V V V (Ym (xs := [.tmp 52]) V V (Side_p (lvT ops t)) by1 ?_)))
    refine Zl 54 V V V V V (Yr V V V ?_); intro c54 h54
    refine Zl 55 V V V V V (Zn V V V (Za 56 V V V (Zn V V V (Vs (Ud V ?_ by5 by3)))))
    clear H1 H2; first | (simp_all; done) | (simp_all; omega) | grind
   skip
   refine Zk 48 V V V V V (Zk 49 V V V V V (Zk 50 V V V V V (Zk 51 V V V V V (Yj 52 V V V V V (Yj 53 V V V V V (Yj 54 V V V V V (Zk 55 V V V V V (Za 56 V V V (Zn V V V (Vs (Ud V ?_ by5 by3)))))))))))
   clear H1 H2; first | (simp_all; done) | (simp_all; omega) | grind
  intro c56 h56
  refine Zb ?_
  rcases Zi h56 with ⟨rfl, g56⟩ | ⟨rfl, g56⟩
  ·refine Zr V (Zv (Yt (Zb ?_)))
   obtain ⟨f, hf⟩ : ∃ f, b - i = f + 1 := ⟨b - i - 1, by omega⟩
   rw [hf, rootB] at hu
   have hf2 : f = b - (i + 1) := by omega
   rw [hf2] at hu
   refine Zc (Za 30 V V V (Zd V V (Za 31 V V V (Yx V V V (Uj _ (by omega)) ?_))))
   refine Za 10 V V V (Ze V V (Vs (Yz ?_)))
   first
   | (rw [if_pos g56] at hu; exact ⟨(i, i + 1), ⟨by show a ≤ i; omega, Nat.lt_succ_self i, by show i + 1 ≤ b; omega, hu⟩, by show b - (i + 1) < b - i; omega, Uc rfl (Vz _) (Uc rfl (Le.inteq (by omega)) by4), by3⟩)
   | (rw [if_neg g56] at hu; exact ⟨(t, i + 1), ⟨h1, by show t < i + 1; omega, by show i + 1 ≤ b; omega, hu⟩, by show b - (i + 1) < b - i; omega, Uc rfl (Vz _) (Uc rfl (Le.inteq (by omega)) by4), by3⟩)
  refine Zt V (Zc (Za 57 V V V (Zd V V (Za 9 V V V (Ze V V (Vs (Yt (Zb ?_))))))))
  obtain ⟨f, hf⟩ : ∃ f, b - i = f + 1 := ⟨b - i - 1, by omega⟩
  rw [hf, rootB] at hu
  have hf2 : f = b - (i + 1) := by omega
  rw [hf2] at hu
  refine Zc (Za 30 V V V (Zd V V (Za 31 V V V (Yx V V V (Uj _ (by omega)) ?_))))
  refine Za 10 V V V (Ze V V (Vs (Yz ?_)))
  first
  | (rw [if_pos g56] at hu; exact ⟨(i, i + 1), ⟨by show a ≤ i; omega, Nat.lt_succ_self i, by show i + 1 ≤ b; omega, hu⟩, by show b - (i + 1) < b - i; omega, Uc rfl (Vz _) (Uc rfl (Le.inteq (by omega)) by4), by3⟩)
  | (rw [if_neg g56] at hu; exact ⟨(t, i + 1), ⟨h1, by show t < i + 1; omega, by show i + 1 ≤ b; omega, hu⟩, by show b - (i + 1) < b - i; omega, Uc rfl (Vz _) (Uc rfl (Le.inteq (by omega)) by4), by3⟩)
 omega
theorem Build_c (l : List Ex) (ops : List Tok) (hl : l.length = ops.length + 1) (hL : ops.length ≤ 200000) : ∀ (d a b : Nat), a ≤ b → b ≤ ops.length → b - a ≤ d → PCall Tryz.prog 107 [.seq 11 (Ex.cellss l), .seq 4 (ops.map Tok.av), .val (.int .i64 a), .val (.int .i64 b)] (.agg (buildF l ops d a b).cells)
 | 0, a, b, h1, h2, h3 => by
  obtain rfl : a = b := by omega
  exact Build_one l ops hl a h2
 | d + 1, a, b, h1, h2, h3 => by
  by_cases h : a = b
  ·subst h
   rw [buildF, if_pos rfl]
   exact Build_one l ops hl a h2
  exact Build_two l ops hL a b d (by omega) h2 h3 (Build_c l ops hl hL d)
def ExC (b : Nat) (L : List Tok) (n : Nat) (E : PS → Ex × PS) : Prop := ∀ q, POk L n q → MCall Tryz.prog 86 [.ptr b 0] (.loc b (psC L q)) (.agg (E q).1.cells) (.loc b (psC L (E q).2))
theorem take_prog {L : List Tok} {p : PS} {kind : Int} {s : ByteArray} (hk : kind ≠ 0) (h : (takeP L p kind s).2.e = 0) : takeP L p kind s = (nxt L p, stepP p) ∧ p.e = 0 ∧ p.at_ < L.length := by
 unfold takeP at h ⊢
 by_cases q : p.e ≠ 0
 ·rw [if_pos q] at h; exact absurd h q
 rw [if_neg q] at h ⊢
 by_cases q2 : (kind < 6 ∧ (nxt L p).k ≠ kind) ∨ (6 ≤ kind ∧ ((nxt L p).k < 6 ∨ (nxt L p).t ≠ s))
 ·rw [if_pos q2] at h; exact absurd h (fail_ne (by decide))
 rw [if_neg q2]; exact ⟨rfl, Vr (by omega)⟩
theorem nxt_ok {L : List Tok} {p : PS} (h : (nxt L p).k ≠ 0) : p.e = 0 := (Vr h).1
theorem bind_c (b : Nat) (L : List Tok) (hL : L.length ≤ 100000) (n : Nat) (E : PS → Ex × PS) (HE : ExC b L n E) (p : PS) (k : POk L n p) : MCall Tryz.prog 56 [.ptr b 0] (.loc b (psC L p)) (.agg (bindG L E p).1.cells) (.loc b (psC L (bindG L E p).2)) := by
 have H1 := pName_c b L hL n p k
 have k1 := (name_adv k).ok k
 have H2 := take_c b L hL _ k1.1 7 kEq
 have k2 := (Yo (kind := 7) (s := kEq) (by decide) k1).ok k1
 have H3 := HE _ k2
 obtain ⟨r, hr⟩ : ∃ r, bindG L E p = r := ⟨_, rfl⟩
 rw [hr]
 unfold bindG at hr
 obtain ⟨⟨⟨tk, tt, tn, ta⟩, p1⟩, e1⟩ : ∃ r, nameP L p = r := ⟨_, rfl⟩
 rw [e1] at H1 H2 H3 hr
 obtain ⟨⟨u2, p2⟩, e2⟩ : ∃ r, takeP L p1 7 kEq = r := ⟨_, rfl⟩
 simp only [] at H2 H3 hr
 rw [e2] at H2 H3 hr
 simp only [] at H2 H3 hr
 obtain ⟨⟨⟨xk, xs, xn, ⟨xtk, xts, xtn, xtl⟩, xks, xal, xbs, xp⟩, p3⟩, e3⟩ : ∃ r, E p2 = r := ⟨_, rfl⟩
 rw [e3] at H3 hr
 simp only [Ex.cells, Ty.cells, List.cons_append, List.nil_append, Tok.av] at H1 H3 hr
 subst hr
 refine Zw Tryz.func56 V (by kernel_rfl) V (Uf V) ?_
 refine Yf (Zg (Zc (Za 2 V V V (Zy (cs' := [_, _, _, _, _, _, _, _, _, _, _, _, _]) V tz_112 V V ?_)))); intro b2
 refine Vs (Zb (Zg (Zc (Za 4 V V V (Zd V V (Za 5 V V V (Yi (xs := [.tmp 4]) (i := 1) V V V (H1) by1 ?_)))))))
 refine Za 3 V V V (Zy (cs' := [_, _, _, _]) V Wj V V ?_); intro b3
 refine Zs V V (Zq (cs' := [_, _, _, _]) (i := 0) V Xk V V V V V (Uf V) V (Vs (Zb (Zg (Zc (Za 6 V V V (Zd V V (Za 7 V V V (Yi (xs := [.tmp 6, .const (.int .i64 7), .const (.string ⟨#[61]⟩)]) (i := 2) V V V (H2) by1 ?_)))))))))
 refine Vs (Zb (Zg (Xu [0, 1, 2, 4, 5, 3, 6, 7] [3, 7] [[], [0], [], [2], [], [4], [0, 1, 2, 3, 4, 5], [0, 1, 2, 3, 4, 5, 6]] Wo V (Yb 8 (none) (i := 0) V V V V V (Zh V Xh V ⟨V, V⟩) ?_))))
 refine Yb 9 (some 0) (i := 1) V V V V V (Zp (i := 0) V Xb V V V ⟨V, V⟩) ?_
 refine Yb 10 (none) (i := 2) V V V V V (Zd V V ⟨V, V⟩) ?_
 refine Yb 12 (none) (i := 4) V V V V V (Zh V Wv V ⟨V, V⟩) ?_
 refine Yb 13 (some 0) (i := 5) V V V V V (Zp (i := 0) V Xa V V V ⟨V, V⟩) ?_
 refine Xn 2 (i := 3) V V V V V (Yi (xs := [.tmp 10]) (i := 0) V V V (H3) by1 ⟨_, V, ?_⟩)
 refine Yb 14 (none) (i := 6) V V V V V (Yl (ns := [0, 1, 2]) (xs := [.tmp 9, .tmp 11, .tmp 13]) V tz_112 V tfl_112 V V V V ⟨V, V⟩) ?_
 refine Xn 1 (i := 7) V V V V V (Zq (cs' := [_, _, _, _, _, _, _, _, _, _, _, _, _]) (i := 0) V ts_112 V V V V V (Uf V) V ⟨_, V, ?_⟩)
 show AGo _ _ _ _ _ _ _
 exact Zb (Ya (Yn (i := 1) V V V ta_112 V (Vz _) (Vw _ (Vw _ (Vy V))) ⟨V, V⟩))
theorem lambda_c (b : Nat) (L : List Tok) (hL : L.length ≤ 100000) (n : Nat) (E : PS → Ex × PS) (HE : ExC b L n E) : ∀ (f : Nat) (p : PS) (a : Int), POk L n p → L.length - p.at_ < f → MCall Tryz.prog 123 [.ptr b 0, .val (.int .i64 a)] (.loc b (psC L p)) (.agg (lambdaG L E f p a).1.cells) (.loc b (psC L (lambdaG L E f p a).2))
 | 0, p, a, k, h => by omega
 | f + 1, p, a, k, h => by
  have H1 := take_c b L hL _ k.1 1 kE
  have k1 := (Yo (kind := 1) (s := kE) (by decide) k).ok k
  have hp1 := take_prog (L := L) (p := p) (kind := 1) (s := kE) (by decide)
  obtain ⟨r, hr⟩ : ∃ r, lambdaG L E (f + 1) p a = r := ⟨_, rfl⟩
  rw [hr]
  rw [lambdaG] at hr
  obtain ⟨⟨⟨tk, tt, tn, ta⟩, p1⟩, e1⟩ : ∃ r, takeP L p 1 kE = r := ⟨_, rfl⟩
  rw [e1] at H1 k1 hr hp1
  simp only [Tok.av] at H1 k1 hr hp1
  have HN := next_c b L p1
  obtain ⟨⟨qk, qt, qn, qa⟩, e4⟩ : ∃ r, nxt L p1 = r := ⟨_, rfl⟩
  have hn1 := nxt_ok (L := L) (p := p1)
  rw [e4] at HN hr hn1
  simp only [Tok.av] at HN hr hn1
  have H2 := take_c b L hL p1 k1.1 7 kArrow
  have k2 := (Yo (kind := 7) (s := kArrow) (by decide) k1).ok k1
  have H3 := HE _ k2
  have IH : qk = 1 → MCall Tryz.prog 123 [.ptr b 0, .val (.int .i64 qa)] (.loc b (psC L p1)) (.agg (lambdaG L E f p1 qa).1.cells) (.loc b (psC L (lambdaG L E f p1 qa).2)) := fun q => by
   have h1 := hp1 (hn1 (by omega))
   have h2 : p1 = stepP p := by have := h1.1; simp only [Prod.mk.injEq] at this; exact this.2
   refine lambda_c b L hL n E HE f p1 qa k1 ?_
   have h3 := h1.2.2
   rw [h2]
   show L.length - (p.at_ + 1) < f
   omega
  obtain ⟨⟨⟨yk, ys, yn, ⟨ytk, yts, ytn, ytl⟩, yks, yal, ybs, yp⟩, p4⟩, e5⟩ : ∃ r, lambdaG L E f p1 qa = r := ⟨_, rfl⟩
  rw [e5] at IH hr
  obtain ⟨⟨⟨xk, xs, xn, ⟨xtk, xts, xtn, xtl⟩, xks, xal, xbs, xp⟩, p3⟩, e3⟩ : ∃ r, E (takeP L p1 7 kArrow).2 = r := ⟨_, rfl⟩
  rw [e3] at H3 hr
  simp only [Ex.cells, Ty.cells, List.cons_append, List.nil_append] at IH H3 hr
  clear hp1 hn1
  refine Zw Tryz.func123 V (by kernel_rfl) V (Uf V) ?_
  refine Yf (Zg (Zc (Za 4 V V V (Zy (cs' := [_, _, _, _, _, _, _, _, _, _, _]) V Wb V V ?_)))); intro b4
  refine Vs (Zb (Zg (Zc (Za 7 V V V (Zd V V (Za 8 V V V (Yi (xs := [.tmp 7, .const (.int .i64 1), .const (.string ⟨#[]⟩)]) (i := 1) V V V (H1) by1 ?_)))))))
  refine Za 5 V V V (Zy (cs' := [_, _, _, _]) V Wj V V ?_); intro b5
  refine Zs V V (Zq (cs' := [_, _, _, _]) (i := 0) V Xk V V V V V (Uf V) V (Vs (Zb (Zg (Zc (Za 9 V V V (Zh V Xh V (Za 10 V V V (Zp (i := 0) V Xb V V V (Za 11 V V V (Zd V V (Za 12 V V V (Yl (ns := [0, 1, 7]) (xs := [.const (.int .i64 6), .tmp 10, .tmp 11]) V Wb V tfl_110 V V V V (Za 6 V V V (Zy (cs' := [_, _, _, _, _, _, _, _, _, _, _]) V Wb V V ?_))))))))))))))); intro b6
  refine Zs V V (Zq (cs' := [_, _, _, _, _, _, _, _, _, _, _]) (i := 0) V Wn V V V V V (Uf V) V (Vs (Zb (Zg (Zg (Zc (Za 13 V V V (Zd V V (Za 14 V V V (Wr (xs := [.tmp 13]) [3] V V V (HN) by1 ?_))))))))))
  refine Za 15 V V V (Va (ft := 3) (fo := 0) V (by kernel_rfl) Xa V V ?_)
  refine Za 16 V V V (Yr V V V ?_); intro c16 h16
  refine Vs (Zb ?_)
  rcases Zi h16 with ⟨rfl, g16⟩ | ⟨rfl, g16⟩
  ·refine Zr V (Zv (Zb (Zg (Zc (Za 28 V V V (Zd V V (Za 29 V V V (Yi (xs := [.tmp 28, .const (.int .i64 7), .const (.string ⟨#[45, 62]⟩)]) (i := 3) V V V (H2) by1 ?_))))))))
   refine Vs (Zb (Zg (Xu [0, 1, 2, 3, 4, 5, 6, 7] [3, 5, 7] [[], [0], [], [2], [2, 3], [0, 1, 2, 3, 4], [0, 1, 2, 3, 4, 5], [0, 1, 2, 3, 4, 5, 6]] Wo V (Yb 30 (none) (i := 0) V V V V V (Zh V tf_110_4 V ⟨V, V⟩) ?_))))
   refine Yb 31 (some 0) (i := 1) V V V V V (Zp (i := 0) V ta_107 V V V ⟨V, V⟩) ?_
   refine Yb 32 (none) (i := 2) V V V V V (Zd V V ⟨V, V⟩) ?_
   refine Xn 3 (i := 3) V V V V V (Yi (xs := [.tmp 32]) (i := 0) V V V (H3) by1 ⟨_, V, ?_⟩)
   refine Yb 34 (none) (i := 4) V V V V V (Ye (xs := [.tmp 33]) el_107 V V V V V V (Uf V) ⟨V, V⟩) ?_
   refine EOps.nw (i := 5) V V V (op_append_nil el_107 V V V (.seq _ _) by6 (fun u35 => ⟨_, V, ?_⟩))
   refine Yb 36 (none) (i := 6) V V V V V (Zh V tf_110_4 V ⟨V, V⟩) ?_
   refine Xn 0 (i := 7) V V V V V (Zq (cs' := [_, _, _, _, _, _, _, _, _, _, _]) (i := 0) V ts_107 V V V V V (Uf V) V ⟨_, V, ?_⟩)
   show AGo _ _ _ _ _ _ _
   refine Zb (Zg (Zc (Za 37 V V V (Zx (cs' := [_, _, _, _, _, _, _, _, _, _, _]) (i := 0) V Wf V V V V (Zs V V (Zq (cs' := [_, _, _, _, _, _, _, _, _, _, _]) (i := 2) V Wn V V V V V (Uf V) V (Vs (Zb (Ya ?_)))))))))
   rw [if_neg g16] at hr; subst hr; exact Yn (i := 2) rfl rfl rfl Wf rfl by0 (Vw _ (Vw _ (Vw _ (Vv _ (Vu _))))) ⟨rfl, rfl⟩
  refine Zt V (Zg (Xu [0, 1, 2, 3, 4, 5, 6, 7, 8, 9, 10] [6, 8, 10] [[], [0], [], [], [3], [3, 4], [2, 3, 4, 5], [2, 3, 4, 5, 6], [0, 1, 2, 3, 4, 5, 6, 7], [0, 1, 2, 3, 4, 5, 6, 7, 8], [0, 1, 2, 3, 4, 5, 6, 7, 8, 9]] Wo V (Yb 17 (none) (i := 0) V V V V V (Zh V tf_110_4 V ⟨V, V⟩) ?_)))
  refine Yb 18 (some 0) (i := 1) V V V V V (Zp (i := 0) V ta_107 V V V ⟨V, V⟩) ?_
  refine Yb 19 (none) (i := 2) V V V V V (Zd V V ⟨V, V⟩) ?_
  refine Yb 20 (none) (i := 3) V V V V V (Zd V V ⟨V, V⟩) ?_
  refine Yb 21 (some 3) (i := 4) V V V V V (Wr (xs := [.tmp 20]) [0] V V V (HN) by1 ⟨V, V⟩) ?_
  refine Yb 22 (none) (i := 5) V V V V V (Va (ft := 3) (fo := 3) V (by kernel_rfl) Xa V V ⟨V, V⟩) ?_
  refine Xn 3 (i := 6) V V V V V (Yi (xs := [.tmp 19, .tmp 22]) (i := 0) V V V (IH g16) by1 ⟨_, V, ?_⟩)
  refine Yb 24 (none) (i := 7) V V V V V (Ye (xs := [.tmp 23]) el_107 V V V V V V (Uf V) ⟨V, V⟩) ?_
  refine EOps.nw (i := 8) V V V (op_append_nil el_107 V V V (.seq _ _) by6 (fun u25 => ⟨_, V, ?_⟩))
  refine Yb 26 (none) (i := 9) V V V V V (Zh V tf_110_4 V ⟨V, V⟩) ?_
  refine Xn 0 (i := 10) V V V V V (Zq (cs' := [_, _, _, _, _, _, _, _, _, _, _]) (i := 0) V ts_107 V V V V V (Uf V) V ⟨_, V, ?_⟩)
  show AGo _ _ _ _ _ _ _
  refine Zb (Zg (Zc (Za 27 V V V (Zx (cs' := [_, _, _, _, _, _, _, _, _, _, _]) (i := 0) V Wf V V V V (Zs V V (Zq (cs' := [_, _, _, _, _, _, _, _, _, _, _]) (i := 2) V Wn V V V V V (Uf V) V (Vs (Zb (Ya ?_)))))))))
  rw [if_pos g16] at hr; subst hr; exact Yn (i := 2) rfl rfl rfl Wf rfl by0 (Vw _ (Vw _ (Vw _ (Vv _ (Vu _))))) ⟨rfl, rfl⟩
theorem atom_lit (b : Nat) (L : List Tok) (hL : L.length ≤ 100000) (n : Nat) (E : PS → Ex × PS) (p : PS) (k : POk L n p) (h : (nxt L p).k = 1 ∨ (nxt L p).k = 2 ∨ (nxt L p).k = 3 ∨ (nxt L p).k = 4) : MCall Tryz.prog 124 [.ptr b 0] (.loc b (psC L p)) (.agg (atomG L E p).1.cells) (.loc b (psC L (atomG L E p).2)) := by
 have HN := next_c b L p
 have hp := k.1
 have hlt : p.at_ < L.length := (Vr (by omega)).2
 obtain ⟨r, hr⟩ : ∃ r, atomG L E p = r := ⟨_, rfl⟩
 rw [hr]
 unfold atomG at hr
 obtain ⟨⟨tk, tt, tn, ta⟩, ht⟩ : ∃ t, nxt L p = t := ⟨_, rfl⟩
 rw [ht] at HN hr h
 simp only [Tok.av] at HN hr h
 refine Zw Tryz.func124 V (by kernel_rfl) V (Uf V) ?_
 refine Yf (Zg (Zc (Za 2 V V V (Zy (cs' := [_, _, _, _, _, _, _, _, _, _, _]) V Wb V V ?_)))); intro b2
 refine Vs (Zb (Zg (Zc (Za 9 V V V (Zd V V (Za 10 V V V (Wr (xs := [.tmp 9]) [1] V V V (HN) by1 ?_)))))))
 refine Za 3 V V V (Zy (cs' := [_, _, _, _]) V Wj V V ?_); intro b3
 refine Zs V V (Zq (cs' := [_, _, _, _]) (i := 0) V Xk V V V V V (Uf V) V (Vs (Zb (Zg (Zc (Za 11 V V V (Zh V Wv V (Za 12 V V V (Zp (i := 0) V Xa V V V (Za 13 V V V (Yl (ns := [7]) (xs := [.tmp 12]) V Wb V tfl_110 V V V V (Za 4 V V V (Zy (cs' := [_, _, _, _, _, _, _, _, _, _, _]) V Wb V V ?_))))))))))))); intro b4
 refine Zs V V (Zq (cs' := [_, _, _, _, _, _, _, _, _, _, _]) (i := 0) V Wn V V V V V (Uf V) V (Vs (Zb (Zg ?_))))
 apply c_joink [1, 9, 10, 11, 12, 13, 14, 15, 16, 17, 18, 19, 20, 21, 22, 23, 24, 25, 26, 27, 28, 29, 30, 31, 32, 33, 34, 35, 36, 37, 38, 39, 40, 41, 42, 43, 44, 45, 68, 81, 94, 97, 128] (σ := Int × ByteArray × Int) (fun zz => match zz with | (kk, ss, nn) => []) (fun zz => match zz with | (kk, ss, nn) => [.loc b4 [.val (.int .i64 kk), .val (.string ss), .val (.int .i64 nn), .val (.int .i64 0), .val (.string kE), .val (.int .i64 0), .val (.slice none 0 0), .val (.slice none 0 0), .val (.slice none 0 0), .val (.slice none 0 0), .val (.int .i64 ta)], .loc b3 (Tok.mk tk tt tn ta).av, .loc b2 zEx, .loc b (psC L p)]) (fun zz => match zz with | (kk, ss, nn) => 0 < kk ∧ (Ex.mk kk ss nn ty0 [] [] [] ta, stepP p) = r)
 ·repeat' (first | exact Ui | apply Ug rfl | apply Uh rfl)
 ·skip
  refine Zz (Zg (Zc (Za 15 V V V (Zh V Xf V (Za 16 V V V (Zp (i := 1) V Xa V V V (Za 17 V V V (Yr V V V ?_)))))))); intro c17 h17
  refine Za 14 V V V (Ze V V (Vs (Zb ?_)))
  rcases Zi h17 with ⟨rfl, g17⟩ | ⟨rfl, g17⟩
  ·refine Zr V (Zg (Zc (Za 23 V V V (Zh V Xf V (Za 24 V V V (Zp (i := 1) V Xa V V V (Za 25 V V V (Yr V V V ?_)))))))); intro c25 h25
   refine Za 22 V V V (Ze V V (Vs (Zb ?_)))
   rcases Zi h25 with ⟨rfl, g25⟩ | ⟨rfl, g25⟩
   ·refine Zr V (Zg (Zc (Za 31 V V V (Zh V Xf V (Za 32 V V V (Zp (i := 1) V Xa V V V (Za 33 V V V (Yr V V V ?_)))))))); intro c33 h33
    refine Za 30 V V V (Ze V V (Vs (Zb ?_)))
    rcases Zi h33 with ⟨rfl, g33⟩ | ⟨rfl, g33⟩
    ·refine Zr V (Zg (Zc (Za 39 V V V (Zh V Xf V (Za 40 V V V (Zp (i := 1) V Xa V V V (Za 41 V V V (Yr V V V ?_)))))))); intro c41 h41
     refine Za 38 V V V (Ze V V (Vs (Zb ?_)))
     rcases Zi h41 with ⟨rfl, g41⟩ | ⟨rfl, g41⟩
     ·omega
     refine Zt V (Zg (Zc (Za 42 V V V (Zh V tf_110_0 V (Zs V V (Zq (cs' := [_, _, _, _, _, _, _, _, _, _, _]) (i := 0) V Wh V V V V V (Uf V) V (Vs (Zb (Zc (Za 43 V V V (Zh V Xh V (Za 44 V V V (Zp (i := 1) V Xb V V V (Za 45 V V V (Zh V tf_110_1 V (Zs V V (Zq (cs' := [_, _, _, _, _, _, _, _, _, _, _]) (i := 0) V ts_9 V V V V V (Uf V) V (Vs (Yt (Yz ?_))))))))))))))))))))
     first
     | (rw [if_pos g17] at hr; exact ⟨(3, tt, 0), ⟨by decide, hr⟩, by4, Vy rfl⟩)
     | (rw [if_neg g17, if_pos g25] at hr; exact ⟨(4, tt, 0), ⟨by decide, hr⟩, by4, Vy rfl⟩)
     | (rw [if_neg g17, if_neg g25, if_pos g33] at hr; exact ⟨(1, kE, tn), ⟨by decide, hr⟩, by4, Vy rfl⟩)
     | (rw [if_neg g17, if_neg g25, if_neg g33, if_pos g41] at hr; exact ⟨(2, tt, 0), ⟨by decide, hr⟩, by4, Vy rfl⟩)
    refine Zt V (Zg (Zc (Za 34 V V V (Zh V tf_110_0 V (Zs V V (Zq (cs' := [_, _, _, _, _, _, _, _, _, _, _]) (i := 0) V Wh V V V V V (Uf V) V (Vs (Zb (Zc (Za 35 V V V (Zh V tf_97_2 V (Za 36 V V V (Zp (i := 1) V ta_2 V V V (Za 37 V V V (Zh V tf_110_2 V (Zs V V (Zq (cs' := [_, _, _, _, _, _, _, _, _, _, _]) (i := 0) V ts_2 V V V V V (Uf V) V (Vs (Yt (Yz ?_))))))))))))))))))))
    first
    | (rw [if_pos g17] at hr; exact ⟨(3, tt, 0), ⟨by decide, hr⟩, by4, Vy rfl⟩)
    | (rw [if_neg g17, if_pos g25] at hr; exact ⟨(4, tt, 0), ⟨by decide, hr⟩, by4, Vy rfl⟩)
    | (rw [if_neg g17, if_neg g25, if_pos g33] at hr; exact ⟨(1, kE, tn), ⟨by decide, hr⟩, by4, Vy rfl⟩)
    | (rw [if_neg g17, if_neg g25, if_neg g33, if_pos g41] at hr; exact ⟨(2, tt, 0), ⟨by decide, hr⟩, by4, Vy rfl⟩)
   refine Zt V (Zg (Zc (Za 26 V V V (Zh V tf_110_0 V (Zs V V (Zq (cs' := [_, _, _, _, _, _, _, _, _, _, _]) (i := 0) V Wh V V V V V (Uf V) V (Vs (Zb (Zc (Za 27 V V V (Zh V Xh V (Za 28 V V V (Zp (i := 1) V Xb V V V (Za 29 V V V (Zh V tf_110_1 V (Zs V V (Zq (cs' := [_, _, _, _, _, _, _, _, _, _, _]) (i := 0) V ts_9 V V V V V (Uf V) V (Vs (Yt (Yz ?_))))))))))))))))))))
   first
   | (rw [if_pos g17] at hr; exact ⟨(3, tt, 0), ⟨by decide, hr⟩, by4, Vy rfl⟩)
   | (rw [if_neg g17, if_pos g25] at hr; exact ⟨(4, tt, 0), ⟨by decide, hr⟩, by4, Vy rfl⟩)
   | (rw [if_neg g17, if_neg g25, if_pos g33] at hr; exact ⟨(1, kE, tn), ⟨by decide, hr⟩, by4, Vy rfl⟩)
   | (rw [if_neg g17, if_neg g25, if_neg g33, if_pos g41] at hr; exact ⟨(2, tt, 0), ⟨by decide, hr⟩, by4, Vy rfl⟩)
  refine Zt V (Zg (Zc (Za 18 V V V (Zh V tf_110_0 V (Zs V V (Zq (cs' := [_, _, _, _, _, _, _, _, _, _, _]) (i := 0) V Wh V V V V V (Uf V) V (Vs (Zb (Zc (Za 19 V V V (Zh V Xh V (Za 20 V V V (Zp (i := 1) V Xb V V V (Za 21 V V V (Zh V tf_110_1 V (Zs V V (Zq (cs' := [_, _, _, _, _, _, _, _, _, _, _]) (i := 0) V ts_9 V V V V V (Uf V) V (Vs (Yt (Yz ?_))))))))))))))))))))
  first
  | (rw [if_pos g17] at hr; exact ⟨(3, tt, 0), ⟨by decide, hr⟩, by4, Vy rfl⟩)
  | (rw [if_neg g17, if_pos g25] at hr; exact ⟨(4, tt, 0), ⟨by decide, hr⟩, by4, Vy rfl⟩)
  | (rw [if_neg g17, if_neg g25, if_pos g33] at hr; exact ⟨(1, kE, tn), ⟨by decide, hr⟩, by4, Vy rfl⟩)
  | (rw [if_neg g17, if_neg g25, if_neg g33, if_pos g41] at hr; exact ⟨(2, tt, 0), ⟨by decide, hr⟩, by4, Vy rfl⟩)
 rintro ⟨kk, ss, nn⟩ hI
 try dsimp only [List.cons_append, List.nil_append] at hI ⊢
 refine Zb (Zg (Zg (Zc (Za 46 V V V (Zh V tf_110_0 V (Za 47 V V V (Zp (i := 0) V Xa V V V (Za 48 V V V (Ww V V V ?_))))))))); intro c48 h48
 refine Vs (Zb ?_)
 rcases Zi h48 with ⟨rfl, g48⟩ | ⟨rfl, g48⟩
 ·omega
 refine Zt V (Zg (Zc (Za 49 V V V (Zd V V (Za 50 V V V (Yk V V (Za 51 V V V (Zh V tf_95_1 V (Za 52 V V V (Zp (i := 3) V Xa V V V (Za 53 V V V (Yx V V V (Uj _ (by omega)) ?_))))))))))))
 refine Za 54 V V V (Yk V V (Za 55 V V V (Zh V tf_95_1 V (Zs V V (Zq (i := 3) V Wh V V V V V (Uf V) V (Vs (Zb (Zg (Zc (Za 56 V V V (Zx (cs' := [_, _, _, _, _, _, _, _, _, _, _]) (i := 0) V Wf V V V V (Zs V V (Zq (cs' := [_, _, _, _, _, _, _, _, _, _, _]) (i := 2) V Wn V V V V V (Uf V) V (Vs (Zb (Ya ?_))))))))))))))))
 have h2 := hI.2; subst h2; exact Yn (i := 2) rfl rfl rfl Wf rfl by0 (Vw _ (Vw _ (Vw _ (Vy rfl)))) ⟨rfl, rfl⟩
theorem may_yes {b : Nat} {L : List Tok} (hL : L.length ≤ 100000) {p : PS} {s : ByteArray} (h : isP L p s = true) : MCall Tryz.prog 51 [.ptr b 0, .val (.string s)] (.loc b (psC L p)) (.val (.bool true)) (.loc b (psC L (stepP p))) :=
 (may_c b L hL p s).mono (by
  rintro v M' (⟨_, rfl, rfl⟩ | ⟨q, _, _⟩)
  ·exact ⟨V, V⟩
  exact absurd h q)
theorem may_no {b : Nat} {L : List Tok} (hL : L.length ≤ 100000) {p : PS} {s : ByteArray} (h : ¬ isP L p s = true) : MCall Tryz.prog 51 [.ptr b 0, .val (.string s)] (.loc b (psC L p)) (.val (.bool false)) (.loc b (psC L p)) :=
 (may_c b L hL p s).mono (by
  rintro v M' (⟨q, _, _⟩ | ⟨_, rfl, rfl⟩)
  ·exact absurd q h
  exact ⟨V, V⟩)
theorem altsL_err {L : List Tok} {E : PS → Ex × PS} {f : Nat} {p : PS} {acc : List Al} (h : p.e ≠ 0) : altsL L E f p acc = (acc, p) := by
 cases f with
 | zero => rfl
 | succ f => rw [altsL, if_pos h]
theorem Al.cellss_app' (a b : List Al) : Al.cellss (a ++ b) = Al.cellss a ++ Al.cellss b := by simp [Al.cellss_map]
theorem Ex.cellss_app' (a b : List Ex) : Ex.cellss (a ++ b) = Ex.cellss a ++ Ex.cellss b := by simp [Ex.cellss_map]
theorem Bi.cellss_app' (a b : List Bi) : Bi.cellss (a ++ b) = Bi.cellss a ++ Bi.cellss b := by simp [Bi.cellss_map]
theorem atom_case (b : Nat) (L : List Tok) (hL : L.length ≤ 100000) (n : Nat) (E : PS → Ex × PS) (HE : ExC b L n E) (HA : ∀ q, POk L n q → Adv L q (E q).2) (p : PS) (k : POk L n p) (h1 : (nxt L p).k ≠ 1) (h2 : (nxt L p).k ≠ 2) (h3 : (nxt L p).k ≠ 3) (h4 : (nxt L p).k ≠ 4) (hc : isP L p kCase = true) : MCall Tryz.prog 124 [.ptr b 0] (.loc b (psC L p)) (.agg (caseG L E (nxt L p).a (stepP p)).1.cells) (.loc b (psC L (caseG L E (nxt L p).a (stepP p)).2)) := by
 have HN := next_c b L p
 have k1 := (Xo k hc).ok k
 have H1 := HE _ k1
 have k2 := (HA _ k1).ok k1
 have H2 := take_c b L hL _ k2.1 6 kOf
 have k3 := (Yo (kind := 6) (s := kOf) (by decide) k2).ok k2
 have k4 := (altsL_adv HA (L.length + 1) _ [] k3).ok k3
 have H4 := take_c b L hL _ k4.1 6 kEnd
 obtain ⟨r, hr⟩ : ∃ r, caseG L E (nxt L p).a (stepP p) = r := ⟨_, rfl⟩
 rw [hr]
 unfold caseG at hr
 simp only [] at hr
 obtain ⟨⟨tk, tt, tn, ta⟩, ht⟩ : ∃ t, nxt L p = t := ⟨_, rfl⟩
 rw [ht] at HN hr h1 h2 h3 h4
 simp only [Tok.av] at HN hr h1 h2 h3 h4
 obtain ⟨⟨⟨xk, xs, xn, ⟨xtk, xts, xtn, xtl⟩, xks, xal, xbs, xp⟩, p2⟩, e2⟩ : ∃ r, E (stepP p) = r := ⟨_, rfl⟩
 rw [e2] at H1 H2 H4 hr k3
 obtain ⟨⟨u3, p3⟩, e3⟩ : ∃ r, takeP L p2 6 kOf = r := ⟨_, rfl⟩
 simp only [] at H2 H4 hr k3
 rw [e3] at H2 H4 hr k3
 simp only [] at H2 H4 hr k3
 obtain ⟨⟨yl, p4⟩, e4⟩ : ∃ r, altsL L E (L.length + 1) p3 [] = r := ⟨_, rfl⟩
 rw [e4] at H4 hr
 simp only [Ex.cells, Ty.cells, List.cons_append, List.nil_append] at H1 H4 hr
 refine Zw Tryz.func124 V (by kernel_rfl) V (Uf V) ?_
 refine Yf (Zg (Zc (Za 2 V V V (Zy (cs' := [_, _, _, _, _, _, _, _, _, _, _]) V Wb V V ?_)))); intro b2
 refine Vs (Zb (Zg (Zc (Za 9 V V V (Zd V V (Za 10 V V V (Wr (xs := [.tmp 9]) [1] V V V (HN) by1 ?_)))))))
 refine Za 3 V V V (Zy (cs' := [_, _, _, _]) V Wj V V ?_); intro b3
 refine Zs V V (Zq (cs' := [_, _, _, _]) (i := 0) V Xk V V V V V (Uf V) V (Vs (Zb (Zg (Zc (Za 11 V V V (Zh V Wv V (Za 12 V V V (Zp (i := 0) V Xa V V V (Za 13 V V V (Yl (ns := [7]) (xs := [.tmp 12]) V Wb V tfl_110 V V V V (Za 4 V V V (Zy (cs' := [_, _, _, _, _, _, _, _, _, _, _]) V Wb V V ?_))))))))))))); intro b4
 refine Zs V V (Zq (cs' := [_, _, _, _, _, _, _, _, _, _, _]) (i := 0) V Wn V V V V V (Uf V) V (Vs (Zb (Zg (Zz (Zg (Zc (Za 15 V V V (Zh V Xf V (Za 16 V V V (Zp (i := 1) V Xa V V V (Za 17 V V V (Yr V V V ?_))))))))))))); intro c17 h17
 refine Za 14 V V V (Ze V V (Vs (Zb ?_)))
 rcases Zi h17 with ⟨rfl, g17⟩ | ⟨rfl, g17⟩
 ·refine Zr V (Zg (Zc (Za 23 V V V (Zh V Xf V (Za 24 V V V (Zp (i := 1) V Xa V V V (Za 25 V V V (Yr V V V ?_)))))))); intro c25 h25
  refine Za 22 V V V (Ze V V (Vs (Zb ?_)))
  rcases Zi h25 with ⟨rfl, g25⟩ | ⟨rfl, g25⟩
  ·refine Zr V (Zg (Zc (Za 31 V V V (Zh V Xf V (Za 32 V V V (Zp (i := 1) V Xa V V V (Za 33 V V V (Yr V V V ?_)))))))); intro c33 h33
   refine Za 30 V V V (Ze V V (Vs (Zb ?_)))
   rcases Zi h33 with ⟨rfl, g33⟩ | ⟨rfl, g33⟩
   ·refine Zr V (Zg (Zc (Za 39 V V V (Zh V Xf V (Za 40 V V V (Zp (i := 1) V Xa V V V (Za 41 V V V (Yr V V V ?_)))))))); intro c41 h41
    refine Za 38 V V V (Ze V V (Vs (Zb ?_)))
    rcases Zi h41 with ⟨rfl, g41⟩ | ⟨rfl, g41⟩
    ·refine Zr V (Zv (Yt (Zb (Zg (Zg (Zc (Za 46 V V V (Zh V tf_110_0 V (Za 47 V V V (Zp (i := 0) V Xa V V V (Za 48 V V V (Ww V V V ?_)))))))))))); intro c48 h48
     refine Vs (Zb ?_)
     rcases Zi h48 with ⟨rfl, g48⟩ | ⟨rfl, g48⟩
     ·refine Zr V (Zv (Zb (Zg (Zg (Zc (Za 57 V V V (Zd V V (Za 58 V V V (Yi (xs := [.tmp 57, .const (.string ⟨#[99, 97, 115, 101]⟩)]) (i := 3) V V V (may_yes hL hc) by1 ?_)))))))))
      refine Vs (Zb (Zt V (Zg (Zc (Za 59 V V V (Zh V tf_110_0 V (Zs V V (Zq (cs' := [_, _, _, _, _, _, _, _, _, _, _]) (i := 0) V Wh V V V V V (Uf V) V (Vs (Zb (Zg (Xu [0, 1, 2, 3, 4, 5, 6, 7] [3, 5, 7] [[], [0], [], [2], [2, 3], [0, 1, 2, 3, 4], [0, 1, 2, 3, 4, 5], [0, 1, 2, 3, 4, 5, 6]] Wo V (Yb 60 (none) (i := 0) V V V V V (Zh V tf_110_4 V ⟨V, V⟩) ?_)))))))))))))
      refine Yb 61 (some 0) (i := 1) V V V V V (Zp (i := 0) V ta_107 V V V ⟨V, V⟩) ?_
      refine Yb 62 (none) (i := 2) V V V V V (Zd V V ⟨V, V⟩) ?_
      refine Xn 3 (i := 3) V V V V V (Yi (xs := [.tmp 62]) (i := 0) V V V (H1) by1 ⟨_, V, ?_⟩)
      refine Yb 64 (none) (i := 4) V V V V V (Ye (xs := [.tmp 63]) el_107 V V V V V V (Uf V) ⟨V, V⟩) ?_
      refine EOps.nw (i := 5) V V V (op_append_nil el_107 V V V (.seq _ _) by6 (fun u65 => ⟨_, V, ?_⟩))
      refine Yb 66 (none) (i := 6) V V V V V (Zh V tf_110_4 V ⟨V, V⟩) ?_
      refine Xn 0 (i := 7) V V V V V (Zq (cs' := [_, _, _, _, _, _, _, _, _, _, _]) (i := 0) V ts_107 V V V V V (Uf V) V ⟨_, V, ?_⟩)
      show AGo _ _ _ _ _ _ _
      refine Zb (Zg (Zc (Za 67 V V V (Zd V V (Za 68 V V V (Yi (xs := [.tmp 67, .const (.int .i64 6), .const (.string ⟨#[111, 102]⟩)]) (i := 3) V V V (H2) by1 ?_))))))
      refine Vs (Zb (Zg (Zc (Za 5 V V V (Ze V V (Vs (Zb (Zg (Zz (We 187 16 ?_))))))))))
      apply Wg [1, 5, 6, 9, 10, 11, 12, 13, 14, 15, 16, 17, 18, 19, 20, 21, 22, 23, 24, 25, 26, 27, 28, 29, 30, 31, 32, 33, 34, 35, 36, 37, 38, 39, 40, 41, 42, 43, 44, 45, 46, 47, 48, 49, 50, 51, 52, 53, 54, 55, 56, 57, 58, 59, 60, 61, 62, 63, 64, 65, 66, 67, 68, 69, 70, 71, 72, 73, 74, 75, 76, 77, 78, 79, 80, 81, 82, 83, 84, 85, 86, 87, 88, 89, 90, 91, 92, 94, 97, 128] (σ := PS × Nat × List Al × Value × Bool) (fun zz => match zz with | (q, f, acc, u, mo) => [(5, .val (.bool mo))]) (fun zz => match zz with | (q, f, acc, u, mo) => [.loc b4 [.val (.int .i64 8), .val (.string kE), .val (.int .i64 0), .val (.int .i64 0), .val (.string kE), .val (.int .i64 0), .val (.slice none 0 0), .seq 11 (Ex.cellss [Ex.mk xk xs xn (Ty.mk xtk xts xtn xtl) xks xal xbs xp]), .own u 16 (Al.cellss acc), .val (.slice none 0 0), .val (.int .i64 ta)], .loc b3 (Tok.mk tk tt tn ta).av, .loc b2 zEx, .loc b (psC L q), .own 187 16 u]) (fun zz => match zz with | (q, f, acc, u, mo) => POk L n q ∧ L.length - q.at_ < f ∧ (mo = true → acc.length ≤ q.at_) ∧ (if mo = true then altsL L E f q acc else (acc, q)) = (yl, p4)) (fun zz => match zz with | (q, f, acc, u, mo) => 2 * f + (if mo = true then 1 else 0)) ((p3, L.length + 1, [], .slice none 0 0, true))
      ·repeat' (first | exact Ui | apply Ug rfl | apply Uh rfl)
      ·exact ⟨k3, by omega, fun _ => Nat.zero_le _, e4⟩
      ·exact by4
      ·exact (Vx _ (Ub (Vz _) (Ub (Vz _) (Ub (Vz _) (Ub (Vz _) (Ub (Vz _) (Ub (Vz _) (Ub (Vz _) (Ub (Le.own_seq V) (Ub (Le.nilOwn 16) (Ua _)))))))))) (Vv _ (Vv _ (Vv _ (Vw _ (Vt _))))))
      rintro ⟨q, f, acc, u, mo⟩ hI
      try dsimp only [List.cons_append, List.nil_append] at hI ⊢
      obtain ⟨i1, i2, i3, hu⟩ := hI
      have hq1 := i1.1
      refine Zg (Zg (Xl 76 (mo = true ∧ q.e = 0) ?_ _ _ V ?_))
      ·skip
       refine Za 69 V V V (Zd V V (Za 70 V V V (Zd V V ?_)))
       have h70 : (mo = true ↔ mo = true) := Iff.rfl
       rcases Zi h70 with ⟨rfl, g70⟩ | ⟨rfl, g70⟩
       ·skip
        refine Zk 71 V V V V V (Zk 72 V V V V V (Zk 73 V V V V V (Zk 74 V V V V V (Zk 75 V V V V V (Za 76 V V V (Zn V V V (Vs (Ud V ?_ by5 by3))))))))
        simp_all; done
       skip
       refine Zl 71 V V V V V (Zd V V (Zl 72 V V V V V (Yk V V (Zl 73 V V V V V (Zh V Vo V (Zl 74 V V V V V (Zp (i := 3) V Xa V V V (Zl 75 V V V V V (Yr V V V ?_))))))))); intro c75 h75
       refine Za 76 V V V (Zn V V V (Vs (Ud V ?_ by5 by3)))
       simp_all; done
      intro c76 h76
      refine Zb ?_
      rcases Zi h76 with ⟨rfl, g76⟩ | ⟨rfl, g76⟩
      ·refine Zr V (Xc (Xe (Xv (Xd (Zb (Zg ?_))))))
       have hu2 : (acc, q) = (yl, p4) := by
        cases mo with
        | false => exact hu
        | true => rw [if_pos rfl, altsL_err (fun e => g76 ⟨rfl, e⟩)] at hu; exact hu
       simp only [Prod.mk.injEq] at hu2
       obtain ⟨rfl, rfl⟩ := hu2
       refine Zc (Za 93 V V V (Zd V V (Za 94 V V V (Yi (xs := [.tmp 93, .const (.int .i64 6), .const (.string ⟨#[101, 110, 100]⟩)]) (i := 3) V V V (H4) by1 ?_))))
       refine Vs (Zb (Zg (Zc (Za 95 V V V (Zx (cs' := [_, _, _, _, _, _, _, _, _, _, _]) (i := 0) V Wf V V V V (Zs V V (Zq (cs' := [_, _, _, _, _, _, _, _, _, _, _]) (i := 2) V Wn V V V V V (Uf V) V (Vs (Zb (Ya ?_))))))))))
       subst hr; exact Yn (i := 2) rfl rfl rfl Wf rfl by0 (Vw _ (Vw _ (Vw _ (Vv _ (Vu _))))) ⟨rfl, rfl⟩
      refine Zt V (Zv (Zb (Zz (Zg ?_))))
      obtain ⟨rfl, hq0⟩ := g76
      have i3 := i3 rfl
      have hle : (Al.cellss acc).length ≤ 200000 := by rw [Al.cellss_len]; omega
      rw [if_pos rfl] at hu
      obtain ⟨f, rfl⟩ : ∃ f', f = f' + 1 := ⟨f - 1, by omega⟩
      rw [altsL, if_neg (by rw [hq0]; simp)] at hu
      have HP := patP_c b L hL n q i1
      have l1 := (patP_adv i1).ok i1
      have b1 := (patP_adv i1).1
      have HQ := take_c b L hL _ l1.1 7 kArrow
      have l2 := (Yo (kind := 7) (s := kArrow) (by decide) l1).ok l1
      have b2 := (Yo (kind := 7) (s := kArrow) (by decide) l1).1
      have HR := HE _ l2
      have l3 := (HA _ l2).ok l2
      have b3 := (HA _ l2).1
      obtain ⟨z, hz⟩ : ∃ z, altG L E q = z := ⟨_, rfl⟩
      rw [hz] at hu
      unfold altG at hz
      obtain ⟨⟨⟨vk, vs, vn, vl, vp⟩, q1⟩, f1⟩ : ∃ r, patP L q = r := ⟨_, rfl⟩
      rw [f1] at HP HQ HR hz l2 l3 b1 b2 b3
      obtain ⟨⟨u5, q2⟩, f2⟩ : ∃ r, takeP L q1 7 kArrow = r := ⟨_, rfl⟩
      simp only [] at HQ HR hz l2 l3 b1 b2 b3
      rw [f2] at HQ HR hz l2 l3 b2 b3
      simp only [] at HQ HR hz l2 l3 b1 b2 b3
      obtain ⟨⟨⟨wk, ws, wn, ⟨wtk, wts, wtn, wtl⟩, wks, wal, wbs, wp⟩, q3⟩, f3⟩ : ∃ r, E q2 = r := ⟨_, rfl⟩
      rw [f3] at HR hz l3 b3
      simp only [Pa.cells, Ex.cells, Ty.cells, List.cons_append, List.nil_append] at HP HR hz l3 b3
      subst hz
      simp only [] at hu
      have l3a := l3.1
      refine Zc (Za 77 V V V (Zd V V (Za 78 V V V (Yi (xs := [.tmp 77]) (i := 3) V V V (HP) by1 ?_))))
      refine Za 79 V V V (Yl (ns := [0]) (xs := [.tmp 78]) V tz_187 V tfl_187 V V V V (Za 6 V V V (Zy (cs' := [_, _, _, _, _, _, _, _, _, _, _, _, _, _, _, _]) V tz_187 V V ?_))); intro b6
      refine Zs V V (Zq (cs' := [_, _, _, _, _, _, _, _, _, _, _, _, _, _, _, _]) (i := 0) V ts_187 V V V V V (Uf V) V (Vs (Zb (Zg (Zc (Za 80 V V V (Zd V V (Za 81 V V V (Yi (xs := [.tmp 80, .const (.int .i64 7), .const (.string ⟨#[45, 62]⟩)]) (i := 4) V V V (HQ) by1 ?_)))))))))
      refine Vs (Zb (Zg (Zc (Za 82 V V V (Zd V V (Za 83 V V V (Yi (xs := [.tmp 82]) (i := 4) V V V (HR) by1 ?_)))))))
      refine Za 84 V V V (Zh V tf_187_1 V (Zs V V (Zq (cs' := [_, _, _, _, _, _, _, _, _, _, _, _, _, _, _, _]) (i := 0) V Wn V V V V V (Uf V) V (Vs (Zb (Zg (Zc (Za 85 V V V (Zh V tf_110_5 V (Za 86 V V V (Zp (i := 1) V ta_108 V V V (Za 87 V V V (Zx (cs' := [_, _, _, _, _, _, _, _, _, _, _, _, _, _, _, _]) (i := 0) V ta_187 V V V V (Za 88 V V V (Ye (xs := [.tmp 87]) el_108 V V V V V V (Uf V) (Za 89 V V V (Xj (i := 5) el_108 V V V V (.seq _ _) by6 ?_)))))))))))))))))
      intro u89
      refine Za 90 V V V (Zh V tf_110_5 V (Zs V V (Zq (cs' := [_, _, _, _, _, _, _, _, _, _, _]) (i := 1) V ts_108 V V V V V (Uf V) V (Vs (Zb (Zc (Za 91 V V V (Zd V V (Za 92 V V V (op_mayc (xs := [.tmp 91, .const (.string ⟨#[124]⟩)]) (i := 4) V V V (may_c b L hL q3 kBar) by1 ?_ ?_))))))))))
      ·intro g92
       refine Za 5 V V V (Ze V V (Vs (Yt (Yz ?_))))
       first
       | (rw [if_pos g92] at hu; have l4 := (Xo l3 g92).ok l3; have l5 := (is_lt g92).2; exact ⟨(stepP q3, f, acc ++ [Al.mk (Pa.mk vk vs vn vl vp) (Ex.mk wk ws wn (Ty.mk wtk wts wtn wtl) wks wal wbs wp)], u89, true), ⟨l4, (by show L.length - (q3.at_ + 1) < f; omega), (fun _ => by show (acc ++ _).length ≤ q3.at_ + 1; rw [List.length_append]; simp; omega), hu⟩, (by show 2 * f + 1 < 2 * (f + 1) + 1; omega), Uc rfl (Vz _) by4, (Vw _ (Vx _ (Ub (Vz _) (Ub (Vz _) (Ub (Vz _) (Ub (Vz _) (Ub (Vz _) (Ub (Vz _) (Ub (Vz _) (Ub (Vz _) (Ub (Ue (by rw [Al.cellss_app']; rfl)) (Ua _)))))))))) (Vv _ (Vv _ (Vy rfl)))))⟩)
       | (rw [if_neg g92] at hu; exact ⟨(q3, f + 1, acc ++ [Al.mk (Pa.mk vk vs vn vl vp) (Ex.mk wk ws wn (Ty.mk wtk wts wtn wtl) wks wal wbs wp)], u89, false), ⟨l3, (by show L.length - q3.at_ < f + 1; omega), (fun h => by cases h), hu⟩, (by show 2 * (f + 1) + 0 < 2 * (f + 1) + 1; omega), Uc rfl (Vz _) by4, (Vw _ (Vx _ (Ub (Vz _) (Ub (Vz _) (Ub (Vz _) (Ub (Vz _) (Ub (Vz _) (Ub (Vz _) (Ub (Vz _) (Ub (Vz _) (Ub (Ue (by rw [Al.cellss_app']; rfl)) (Ua _)))))))))) (Vv _ (Vv _ (Vy rfl)))))⟩)
      intro g92
      refine Za 5 V V V (Ze V V (Vs (Yt (Yz ?_))))
      first
      | (rw [if_pos g92] at hu; have l4 := (Xo l3 g92).ok l3; have l5 := (is_lt g92).2; exact ⟨(stepP q3, f, acc ++ [Al.mk (Pa.mk vk vs vn vl vp) (Ex.mk wk ws wn (Ty.mk wtk wts wtn wtl) wks wal wbs wp)], u89, true), ⟨l4, (by show L.length - (q3.at_ + 1) < f; omega), (fun _ => by show (acc ++ _).length ≤ q3.at_ + 1; rw [List.length_append]; simp; omega), hu⟩, (by show 2 * f + 1 < 2 * (f + 1) + 1; omega), Uc rfl (Vz _) by4, (Vw _ (Vx _ (Ub (Vz _) (Ub (Vz _) (Ub (Vz _) (Ub (Vz _) (Ub (Vz _) (Ub (Vz _) (Ub (Vz _) (Ub (Vz _) (Ub (Ue (by rw [Al.cellss_app']; rfl)) (Ua _)))))))))) (Vv _ (Vv _ (Vy rfl)))))⟩)
      | (rw [if_neg g92] at hu; exact ⟨(q3, f + 1, acc ++ [Al.mk (Pa.mk vk vs vn vl vp) (Ex.mk wk ws wn (Ty.mk wtk wts wtn wtl) wks wal wbs wp)], u89, false), ⟨l3, (by show L.length - q3.at_ < f + 1; omega), (fun h => by cases h), hu⟩, (by show 2 * (f + 1) + 0 < 2 * (f + 1) + 1; omega), Uc rfl (Vz _) by4, (Vw _ (Vx _ (Ub (Vz _) (Ub (Vz _) (Ub (Vz _) (Ub (Vz _) (Ub (Vz _) (Ub (Vz _) (Ub (Vz _) (Ub (Vz _) (Ub (Ue (by rw [Al.cellss_app']; rfl)) (Ua _)))))))))) (Vv _ (Vv _ (Vy rfl)))))⟩)
     exact absurd g48 (by decide)
    exact absurd g41 h4
   exact absurd g33 h3
  exact absurd g25 h2
 exact absurd g17 h1
theorem atom_par (b : Nat) (L : List Tok) (hL : L.length ≤ 100000) (n : Nat) (E : PS → Ex × PS) (HE : ExC b L n E) (HA : ∀ q, POk L n q → Adv L q (E q).2) (p : PS) (k : POk L n p) (h1 : (nxt L p).k ≠ 1) (h2 : (nxt L p).k ≠ 2) (h3 : (nxt L p).k ≠ 3) (h4 : (nxt L p).k ≠ 4) (hc : ¬ isP L p kCase = true) (r : Ex × PS)
    (hr : (if isP L (takeP L p 7 kLP).2 kRP = true then (namE 4 kUnit (nxt L p).a, stepP (takeP L p 7 kLP).2)
     else if (nxt L (takeP L p 7 kLP).2).k = 5 then (namE 3 (takeP L (takeP L p 7 kLP).2 5 kE).1.t (nxt L p).a, (takeP L (takeP L (takeP L p 7 kLP).2 5 kE).2 7 kRP).2)
     else annG L (nxt L p).a (E (takeP L p 7 kLP).2)) = r) : MCall Tryz.prog 124 [.ptr b 0] (.loc b (psC L p)) (.agg r.1.cells) (.loc b (psC L r.2)) := by
 have HN := next_c b L p
 have H1 := take_c b L hL p k.1 7 kLP
 have k1 := (Yo (kind := 7) (s := kLP) (by decide) k).ok k
 obtain ⟨⟨tk, tt, tn, ta⟩, ht⟩ : ∃ t, nxt L p = t := ⟨_, rfl⟩
 rw [ht] at HN hr h1 h2 h3 h4
 simp only [Tok.av] at HN hr h1 h2 h3 h4
 obtain ⟨⟨u1, p1⟩, e1⟩ : ∃ r, takeP L p 7 kLP = r := ⟨_, rfl⟩
 rw [e1] at H1 hr k1
 simp only [] at H1 hr k1
 have HN1 := next_c b L p1
 obtain ⟨⟨qk, qt, qn, qa⟩, ht1⟩ : ∃ t, nxt L p1 = t := ⟨_, rfl⟩
 rw [ht1] at HN1 hr
 have H5 := take_c b L hL p1 k1.1 5 kE
 have k5 := (Yo (kind := 5) (s := kE) (by decide) k1).ok k1
 have HX := HE p1 k1
 have kx := (HA p1 k1).ok k1
 obtain ⟨⟨⟨ok, ot, on, oa⟩, p5⟩, e5⟩ : ∃ r, takeP L p1 5 kE = r := ⟨_, rfl⟩
 rw [e5] at H5 k5 hr
 obtain ⟨⟨⟨xk, xs, xn, ⟨xtk, xts, xtn, xtl⟩, xks, xal, xbs, xp⟩, p2⟩, e2⟩ : ∃ r, E p1 = r := ⟨_, rfl⟩
 rw [e2] at HX kx hr
 unfold annG at hr
 simp only [Tok.av, Ex.cells, Ty.cells, List.cons_append, List.nil_append] at HN1 H5 k5 hr HX kx
 refine Zw Tryz.func124 V (by kernel_rfl) V (Uf V) ?_
 refine Yf (Zg (Zc (Za 2 V V V (Zy (cs' := [_, _, _, _, _, _, _, _, _, _, _]) V Wb V V ?_)))); intro b2
 refine Vs (Zb (Zg (Zc (Za 9 V V V (Zd V V (Za 10 V V V (Wr (xs := [.tmp 9]) [1] V V V (HN) by1 ?_)))))))
 refine Za 3 V V V (Zy (cs' := [_, _, _, _]) V Wj V V ?_); intro b3
 refine Zs V V (Zq (cs' := [_, _, _, _]) (i := 0) V Xk V V V V V (Uf V) V (Vs (Zb (Zg (Zc (Za 11 V V V (Zh V Wv V (Za 12 V V V (Zp (i := 0) V Xa V V V (Za 13 V V V (Yl (ns := [7]) (xs := [.tmp 12]) V Wb V tfl_110 V V V V (Za 4 V V V (Zy (cs' := [_, _, _, _, _, _, _, _, _, _, _]) V Wb V V ?_))))))))))))); intro b4
 refine Zs V V (Zq (cs' := [_, _, _, _, _, _, _, _, _, _, _]) (i := 0) V Wn V V V V V (Uf V) V (Vs (Zb (Zg (Zz (Zg (Zc (Za 15 V V V (Zh V Xf V (Za 16 V V V (Zp (i := 1) V Xa V V V (Za 17 V V V (Yr V V V ?_))))))))))))); intro c17 h17
 refine Za 14 V V V (Ze V V (Vs (Zb ?_)))
 rcases Zi h17 with ⟨rfl, g17⟩ | ⟨rfl, g17⟩
 ·refine Zr V (Zg (Zc (Za 23 V V V (Zh V Xf V (Za 24 V V V (Zp (i := 1) V Xa V V V (Za 25 V V V (Yr V V V ?_)))))))); intro c25 h25
  refine Za 22 V V V (Ze V V (Vs (Zb ?_)))
  rcases Zi h25 with ⟨rfl, g25⟩ | ⟨rfl, g25⟩
  ·refine Zr V (Zg (Zc (Za 31 V V V (Zh V Xf V (Za 32 V V V (Zp (i := 1) V Xa V V V (Za 33 V V V (Yr V V V ?_)))))))); intro c33 h33
   refine Za 30 V V V (Ze V V (Vs (Zb ?_)))
   rcases Zi h33 with ⟨rfl, g33⟩ | ⟨rfl, g33⟩
   ·refine Zr V (Zg (Zc (Za 39 V V V (Zh V Xf V (Za 40 V V V (Zp (i := 1) V Xa V V V (Za 41 V V V (Yr V V V ?_)))))))); intro c41 h41
    refine Za 38 V V V (Ze V V (Vs (Zb ?_)))
    rcases Zi h41 with ⟨rfl, g41⟩ | ⟨rfl, g41⟩
    ·refine Zr V (Zv (Yt (Zb (Zg (Zg (Zc (Za 46 V V V (Zh V tf_110_0 V (Za 47 V V V (Zp (i := 0) V Xa V V V (Za 48 V V V (Ww V V V ?_)))))))))))); intro c48 h48
     refine Vs (Zb ?_)
     rcases Zi h48 with ⟨rfl, g48⟩ | ⟨rfl, g48⟩
     ·refine Zr V (Zv (Zb (Zg (Zg (Zc (Za 57 V V V (Zd V V (Za 58 V V V (Yi (xs := [.tmp 57, .const (.string ⟨#[99, 97, 115, 101]⟩)]) (i := 3) V V V (may_no hL hc) by1 ?_)))))))))
      refine Vs (Zb (Zr V (Zv (Zb (Zg (Zc (Za 96 V V V (Zd V V (Za 97 V V V (Yi (xs := [.tmp 96, .const (.int .i64 7), .const (.string ⟨#[40]⟩)]) (i := 3) V V V (H1) by1 ?_))))))))))
      refine Vs (Zb (Zg (Zg (Zc (Za 98 V V V (Zd V V (Za 99 V V V (op_mayc (xs := [.tmp 98, .const (.string ⟨#[41]⟩)]) (i := 3) V V V (may_c b L hL p1 kRP) by1 ?_ ?_))))))))
      ·intro g99
       refine Vs (Zb (Zt V (Zg (Zc (Za 100 V V V (Zh V Wv V (Za 101 V V V (Zp (i := 1) V Xa V V V (Za 102 V V V (Yl (ns := [0, 1, 7]) (xs := [.const (.int .i64 4), .const (.string ⟨#[85, 110, 105, 116]⟩), .tmp 101]) V Wb V tfl_110 V V V V ?_))))))))))
       refine Zs V V (Zq (cs' := [_, _, _, _, _, _, _, _, _, _, _]) (i := 2) V Wn V V V V V (Uf V) V (Vs (Zb (Ya ?_))))
       rw [if_pos g99] at hr; subst hr; exact Yn (i := 2) rfl rfl rfl Wf rfl by0 (Vw _ (Vw _ (Vw _ (Vy rfl)))) ⟨rfl, rfl⟩
      intro g99
      refine Vs (Zb (Zr V (Zv (Zb (Zg (Zg (Zc (Za 103 V V V (Zd V V (Za 104 V V V (Wr (xs := [.tmp 103]) [3] V V V (HN1) by1 ?_)))))))))))
      refine Za 105 V V V (Va (ft := 3) (fo := 0) V (by kernel_rfl) Xa V V ?_)
      refine Za 106 V V V (Yr V V V ?_); intro c106 h106
      refine Vs (Zb ?_)
      rcases Zi h106 with ⟨rfl, g106⟩ | ⟨rfl, g106⟩
      ·refine Zr V (Zv (Zb (Zg (Zc (Za 116 V V V (Zd V V (Za 117 V V V (Yi (xs := [.tmp 116]) (i := 3) V V V (HX) by1 ?_))))))))
       refine Za 8 V V V (Zy (cs' := [_, _, _, _, _, _, _, _, _, _, _]) V Wb V V ?_); intro b8
       refine Zs V V (Zq (cs' := [_, _, _, _, _, _, _, _, _, _, _]) (i := 0) V Wn V V V V V (Uf V) V (Vs (Zb (Zg (Zg ?_)))))
       rw [if_neg g99, if_neg g106] at hr
       refine Zc (Za 118 V V V (Zd V V (Za 119 V V V (op_mayc (xs := [.tmp 118, .const (.string ⟨#[58]⟩)]) (i := 4) V V V (may_c b L hL p2 kColon) by1 ?_ ?_))))
       ·intro g119
        refine Vs (Zb (Zt V ?_))
        have ka := (Xo kx g119).ok kx
        have HT := typeP_c b L hL n _ ka
        have k8 := (typeP_adv ka).ok ka
        have H8 := take_c b L hL _ k8.1 7 kRP
        rw [if_pos g119] at hr
        obtain ⟨⟨⟨wk, ws, wn, wl⟩, p3⟩, e3⟩ : ∃ r, typeP L (stepP p2) = r := ⟨_, rfl⟩
        rw [e3] at HT H8 hr
        simp only [Ty.cells] at HT H8 hr
        refine Xu [0, 2, 3, 4, 5, 1, 6, 7] [1, 7] [[], [0], [], [2], [], [4], [0, 1, 2, 3, 4, 5], [0, 1, 2, 3, 4, 5, 6]] Wo V (Yb 120 (none) (i := 0) V V V V V (Zd V V ⟨V, V⟩) ?_)
        refine Yb 122 (some 0) (i := 2) V V V V V (Zx (cs' := [_, _, _, _, _, _, _, _, _, _, _]) (i := 0) V Wf V V V V ⟨V, V⟩) ?_
        refine Yb 123 (none) (i := 3) V V V V V (Ye (xs := [.tmp 122]) el_107 V V V V V V (Uf V) ⟨V, V⟩) ?_
        refine Yb 124 (none) (i := 4) V V V V V (Zh V Wv V ⟨V, V⟩) ?_
        refine Yb 125 (some 2) (i := 5) V V V V V (Zp (i := 0) V Xa V V V ⟨V, V⟩) ?_
        refine Xn 4 (i := 1) V V V V V (Yi (xs := [.tmp 120]) (i := 0) V V V (HT) by1 ⟨_, V, ?_⟩)
        refine Yb 126 (none) (i := 6) V V V V V (Yl (ns := [0, 3, 4, 7]) (xs := [.const (.int .i64 12), .tmp 121, .tmp 123, .tmp 125]) V Wb V tfl_110 V V V V ⟨V, V⟩) ?_
        refine Xn 0 (i := 7) V V V V V (Zq (cs' := [_, _, _, _, _, _, _, _, _, _, _]) (i := 0) V Wn V V V V V (Uf V) V ⟨_, V, ?_⟩)
        show AGo _ _ _ _ _ _ _
        refine Zb (Zg ?_)
        first | have H9 := H8 | have H9 := take_c b L hL p2 kx.1 7 kRP
        refine Zc (Za 127 V V V (Zd V V (Za 128 V V V (Yi (xs := [.tmp 127, .const (.int .i64 7), .const (.string ⟨#[41]⟩)]) (i := 4) V V V (H9) by1 ?_))))
        refine Vs (Zb (Zg (Zc (Za 129 V V V (Zx (cs' := [_, _, _, _, _, _, _, _, _, _, _]) (i := 0) V Wf V V V V (Zs V V (Zq (cs' := [_, _, _, _, _, _, _, _, _, _, _]) (i := 3) V Wn V V V V V (Uf V) V (Vs (Zb (Ya ?_))))))))))
        subst hr; exact Yn (i := 3) rfl rfl rfl Wf rfl by0 (Vw _ (Vw _ (Vw _ (Vw _ (Vy rfl))))) ⟨rfl, rfl⟩
       intro g119
       refine Vs (Zb (Zr V (Zv (Zb (Zg ?_)))))
       first | have H9 := H8 | have H9 := take_c b L hL p2 kx.1 7 kRP
       refine Zc (Za 127 V V V (Zd V V (Za 128 V V V (Yi (xs := [.tmp 127, .const (.int .i64 7), .const (.string ⟨#[41]⟩)]) (i := 4) V V V (H9) by1 ?_))))
       refine Vs (Zb (Zg (Zc (Za 129 V V V (Zx (cs' := [_, _, _, _, _, _, _, _, _, _, _]) (i := 0) V Wf V V V V (Zs V V (Zq (cs' := [_, _, _, _, _, _, _, _, _, _, _]) (i := 3) V Wn V V V V V (Uf V) V (Vs (Zb (Ya ?_))))))))))
       rw [if_neg g119] at hr; subst hr; exact Yn (i := 3) rfl rfl rfl Wf rfl by0 (Vw _ (Vw _ (Vw _ (Vw _ (Vy rfl))))) ⟨rfl, rfl⟩
      refine Zt V (Zg (Zc (Za 107 V V V (Zd V V (Za 108 V V V (Yi (xs := [.tmp 107, .const (.int .i64 5), .const (.string ⟨#[]⟩)]) (i := 3) V V V (H5) by1 ?_))))))
      refine Za 7 V V V (Zy (cs' := [_, _, _, _]) V Wj V V ?_); intro b7
      refine Zs V V (Zq (cs' := [_, _, _, _]) (i := 0) V Xk V V V V V (Uf V) V (Vs (Zb (Zg (Zc (Za 109 V V V (Zd V V (Za 110 V V V (Yi (xs := [.tmp 109, .const (.int .i64 7), .const (.string ⟨#[41]⟩)]) (i := 4) V V V (take_c b L hL p5 k5.1 7 kRP) by1 ?_)))))))))
      refine Vs (Zb (Zg (Zc (Za 111 V V V (Zh V Xh V (Za 112 V V V (Zp (i := 0) V Xb V V V (Za 113 V V V (Zh V Wv V (Za 114 V V V (Zp (i := 2) V Xa V V V (Za 115 V V V (Yl (ns := [0, 1, 7]) (xs := [.const (.int .i64 3), .tmp 112, .tmp 114]) V Wb V tfl_110 V V V V (Zs V V (Zq (cs' := [_, _, _, _, _, _, _, _, _, _, _]) (i := 3) V Wn V V V V V (Uf V) V (Vs (Zb (Ya ?_))))))))))))))))))
      rw [if_neg g99, if_pos g106] at hr; subst hr; exact Yn (i := 3) rfl rfl rfl Wf rfl by0 (Vw _ (Vw _ (Vw _ (Vw _ (Vy rfl))))) ⟨rfl, rfl⟩
     exact absurd g48 (by decide)
    exact absurd g41 h4
   exact absurd g33 h3
  exact absurd g25 h2
 exact absurd g17 h1
theorem atom_c (b : Nat) (L : List Tok) (hL : L.length ≤ 100000) (n : Nat) (E : PS → Ex × PS) (HE : ExC b L n E) (HA : ∀ q, POk L n q → Adv L q (E q).2) (p : PS) (k : POk L n p) : MCall Tryz.prog 124 [.ptr b 0] (.loc b (psC L p)) (.agg (atomG L E p).1.cells) (.loc b (psC L (atomG L E p).2)) := by
 by_cases h1 : (nxt L p).k = 1
 ·exact atom_lit b L hL n E p k (.inl h1)
 by_cases h2 : (nxt L p).k = 2
 ·exact atom_lit b L hL n E p k (.inr (.inl h2))
 by_cases h3 : (nxt L p).k = 3
 ·exact atom_lit b L hL n E p k (.inr (.inr (.inl h3)))
 by_cases h4 : (nxt L p).k = 4
 ·exact atom_lit b L hL n E p k (.inr (.inr (.inr h4)))
 by_cases h5 : isP L p kCase = true
 ·rw [atomG, if_neg h1, if_neg h2, if_neg h3, if_neg h4, if_pos h5]; exact atom_case b L hL n E HE HA p k h1 h2 h3 h4 h5
 exact atom_par b L hL n E HE HA p k h1 h2 h3 h4 h5 _ (by rw [atomG, if_neg h1, if_neg h2, if_neg h3, if_neg h4, if_neg h5])
theorem may_eq {b : Nat} {L : List Tok} (hL : L.length ≤ 100000) {p : PS} {s : ByteArray} {c : Bool} (h : isP L p s = c) : MCall Tryz.prog 51 [.ptr b 0, .val (.string s)] (.loc b (psC L p)) (.val (.bool c)) (.loc b (psC L (if c = true then stepP p else p))) := by
 cases c with
 | true => exact may_yes hL h
 | false => exact may_no hL (by rw [h]; simp)
theorem operand_lam (b : Nat) (L : List Tok) (hL : L.length ≤ 100000) (n : Nat) (E : PS → Ex × PS) (HE : ExC b L n E) (p : PS) (k : POk L n p) (h1 : isP L p kBack = true) : MCall Tryz.prog 105 [.ptr b 0] (.loc b (psC L p)) (.agg (lambdaG L E (L.length + 1) (stepP p) (nxt L p).a).1.cells) (.loc b (psC L (lambdaG L E (L.length + 1) (stepP p) (nxt L p).a).2)) := by
 have HN := next_c b L p
 have HL := lambda_c b L hL n E HE (L.length + 1) (stepP p) (nxt L p).a ((Xo k h1).ok k) (by omega)
 obtain ⟨⟨tk, tt, tn, ta⟩, ht⟩ : ∃ t, nxt L p = t := ⟨_, rfl⟩
 rw [ht] at HN HL ⊢
 simp only [Tok.av] at HN HL ⊢
 obtain ⟨⟨⟨xk, xs, xn, ⟨xtk, xts, xtn, xtl⟩, xks, xal, xbs, xp⟩, p3⟩, e3⟩ : ∃ r, lambdaG L E (L.length + 1) (stepP p) ta = r := ⟨_, rfl⟩
 rw [e3] at HL ⊢
 simp only [Ex.cells, Ty.cells, List.cons_append, List.nil_append] at HL ⊢
 refine Zw Tryz.func105 V (by kernel_rfl) V (Uf V) ?_
 refine Yf (Zg (Zc (Za 2 V V V (Zy (cs' := [_, _, _, _, _, _, _, _, _, _, _]) V Wb V V ?_)))); intro b2
 refine Vs (Zb (Zg (Zc (Za 9 V V V (Zd V V (Za 10 V V V (Wr (xs := [.tmp 9]) [1] V V V (HN) by1 ?_)))))))
 refine Za 3 V V V (Zy (cs' := [_, _, _, _]) V Wj V V ?_); intro b3
 refine Zs V V (Zq (cs' := [_, _, _, _]) (i := 0) V Xk V V V V V (Uf V) V (Vs (Zb (Zg (Zg (Zc (Za 11 V V V (Zd V V (Za 12 V V V (Yi (xs := [.tmp 11, .const (.string ⟨#[92]⟩)]) (i := 2) V V V (may_yes hL h1) by1 ?_))))))))))
 refine Vs (Zb (Zt V (Zg (Zc (Za 13 V V V (Zd V V (Za 14 V V V (Zh V Wv V (Za 15 V V V (Zp (i := 0) V Xa V V V (Za 16 V V V (Yi (xs := [.tmp 13, .tmp 15]) (i := 2) V V V (HL) by1 ?_))))))))))))
 exact Zs V V (Zq (cs' := [_, _, _, _, _, _, _, _, _, _, _]) (i := 1) V Wn V V V V V (Uf V) V (Vs (Zb (Ya (Yn (i := 1) V V V Wf V (Vz _) (Vw _ (Vw _ (Vy V))) ⟨V, V⟩)))))
theorem bindsL_go {L : List Tok} {E : PS → Ex × PS} {f : Nat} {p : PS} {acc : List Bi} (h : isP L p kAnd = true) : bindsL L E (f + 1) p acc = bindsL L E f (bindG L E (stepP p)).2 (acc ++ [(bindG L E (stepP p)).1]) := by rw [bindsL, if_pos h]
theorem bindsL_end {L : List Tok} {E : PS → Ex × PS} {f : Nat} {p : PS} {acc : List Bi} (h : ¬ isP L p kAnd = true) : bindsL L E f p acc = (acc, p) := by
 cases f with
 | zero => rfl
 | succ f => rw [bindsL, if_neg h]
theorem operand_let (b : Nat) (L : List Tok) (hL : L.length ≤ 100000) (n : Nat) (E : PS → Ex × PS) (HE : ExC b L n E) (HA : ∀ q, POk L n q → Adv L q (E q).2) (p : PS) (k : POk L n p) (h1 : ¬ isP L p kBack = true) (h2 : isP L p kLet = true) (c23 : Bool) (h3 : isP L (stepP p) kRec = c23) (r : Ex × PS) (hr : letG L E (nxt L p).a (if c23 = true then 1 else 0) (if c23 = true then stepP (stepP p) else stepP p) = r) : MCall Tryz.prog 105 [.ptr b 0] (.loc b (psC L p)) (.agg r.1.cells) (.loc b (psC L r.2)) := by
 have HN := next_c b L p
 have k1 := (Xo k h2).ok k
 have HM := may_eq (b := b) hL h3
 have kq : POk L n (if c23 = true then stepP (stepP p) else stepP p) := by
  cases c23 with
  | true => exact (Xo k1 h3).ok k1
  | false => exact k1
 obtain ⟨⟨tk, tt, tn, ta⟩, ht⟩ : ∃ t, nxt L p = t := ⟨_, rfl⟩
 rw [ht] at HN hr
 simp only [Tok.av] at HN hr
 obtain ⟨p2, hp2⟩ : ∃ q, (if c23 = true then stepP (stepP p) else stepP p) = q := ⟨_, rfl⟩
 rw [hp2] at HM hr kq
 unfold letG at hr
 simp only [] at hr
 have HB := bind_c b L hL n E HE p2 kq
 have k3 := (bindG_adv HA kq).ok kq
 obtain ⟨⟨⟨bn, ⟨xk, xs, xn, ⟨xtk, xts, xtn, xtl⟩, xks, xal, xbs, xp⟩, bp⟩, p3⟩, e3⟩ : ∃ r, bindG L E p2 = r := ⟨_, rfl⟩
 rw [e3] at HB hr k3
 have k4 := (bindsL_adv HA (L.length + 1) p3 [Bi.mk bn (Ex.mk xk xs xn (Ty.mk xtk xts xtn xtl) xks xal xbs xp) bp] k3).ok k3
 obtain ⟨⟨bl, p4⟩, e4⟩ : ∃ r, bindsL L E (L.length + 1) p3 [Bi.mk bn (Ex.mk xk xs xn (Ty.mk xtk xts xtn xtl) xks xal xbs xp) bp] = r := ⟨_, rfl⟩
 simp only [] at hr k3
 rw [e4] at hr k4
 simp only [] at hr k4
 have H4 := take_c b L hL p4 k4.1 6 kIn
 have k5 := (Yo (kind := 6) (s := kIn) (by decide) k4).ok k4
 obtain ⟨⟨u5, p5⟩, e5⟩ : ∃ r, takeP L p4 6 kIn = r := ⟨_, rfl⟩
 rw [e5] at hr k5 H4
 simp only [] at hr k5 H4
 have HX := HE p5 k5
 obtain ⟨⟨⟨yk, ys, yn, ⟨ytk, yts, ytn, ytl⟩, yks, yal, ybs, yp⟩, p6⟩, e6⟩ : ∃ r, E p5 = r := ⟨_, rfl⟩
 rw [e6] at HX hr
 simp only [Bi.cells, Ex.cells, Ty.cells, List.cons_append, List.nil_append] at HB HX hr
 refine Zw Tryz.func105 V (by kernel_rfl) V (Uf V) ?_
 refine Yf (Zg (Zc (Za 2 V V V (Zy (cs' := [_, _, _, _, _, _, _, _, _, _, _]) V Wb V V ?_)))); intro b2
 refine Vs (Zb (Zg (Zc (Za 9 V V V (Zd V V (Za 10 V V V (Wr (xs := [.tmp 9]) [1] V V V (HN) by1 ?_)))))))
 refine Za 3 V V V (Zy (cs' := [_, _, _, _]) V Wj V V ?_); intro b3
 refine Zs V V (Zq (cs' := [_, _, _, _]) (i := 0) V Xk V V V V V (Uf V) V (Vs (Zb (Zg (Zg (Zc (Za 11 V V V (Zd V V (Za 12 V V V (Yi (xs := [.tmp 11, .const (.string ⟨#[92]⟩)]) (i := 2) V V V (may_no hL h1) by1 ?_))))))))))
 refine Vs (Zb (Zr V (Zv (Zb (Zg (Zg (Zc (Za 17 V V V (Zd V V (Za 18 V V V (Yi (xs := [.tmp 17, .const (.string ⟨#[108, 101, 116]⟩)]) (i := 2) V V V (may_yes hL h2) by1 ?_)))))))))))
 refine Vs (Zb (Zt V (Zg (Zc (Za 19 V V V (Zh V Wv V (Za 20 V V V (Zp (i := 0) V Xa V V V (Za 21 V V V (Yl (ns := [0, 7]) (xs := [.const (.int .i64 7), .tmp 20]) V Wb V tfl_110 V V V V (Za 4 V V V (Zy (cs' := [_, _, _, _, _, _, _, _, _, _, _]) V Wb V V ?_)))))))))))); intro b4
 refine Zs V V (Zq (cs' := [_, _, _, _, _, _, _, _, _, _, _]) (i := 0) V Wn V V V V V (Uf V) V (Vs (Zb (Zg (Zg (Zc (Za 22 V V V (Zd V V (Za 23 V V V (Yi (xs := [.tmp 22, .const (.string ⟨#[114, 101, 99]⟩)]) (i := 3) V V V (HM) by1 ?_))))))))))
 refine Vs (Zb ?_)
 apply c_joink [1, 9, 10, 11, 12, 13, 14, 15, 16, 17, 18, 19, 20, 21, 22, 23, 24, 42, 56, 60] (σ := Unit) (fun zz => match zz with | z => []) (fun zz => match zz with | z => [.loc b4 [.val (.int .i64 7), .val (.string kE), .val (.int .i64 (if c23 = true then 1 else 0)), .val (.int .i64 0), .val (.string kE), .val (.int .i64 0), .val (.slice none 0 0), .val (.slice none 0 0), .val (.slice none 0 0), .val (.slice none 0 0), .val (.int .i64 ta)], .loc b3 (Tok.mk tk tt tn ta).av, .loc b2 zEx, .loc b (psC L p2)]) (fun zz => match zz with | z => True)
 ·repeat' (first | exact Ui | apply Ug rfl | apply Uh rfl)
 ·skip
  rcases c23 with _ | _
  ·refine Zr V (Zv (Yz ?_))
   exact ⟨(), trivial, by4, Vy V⟩
  refine Zt V (Zc (Za 24 V V V (Zh V tf_110_2 V (Zs V V (Zq (cs' := [_, _, _, _, _, _, _, _, _, _, _]) (i := 0) V ts_2 V V V V V (Uf V) V (Vs (Yz ?_)))))))
  exact ⟨(), trivial, by4, Vy V⟩
 rintro z hI
 try dsimp only [List.cons_append, List.nil_append] at hI ⊢
 refine Zb (Zg (Xu [0, 1, 2, 3, 4, 5, 6, 7] [3, 5, 7] [[], [0], [], [2], [2, 3], [0, 1, 2, 3, 4], [0, 1, 2, 3, 4, 5], [0, 1, 2, 3, 4, 5, 6]] Wo V (Yb 25 (none) (i := 0) V V V V V (Zh V tf_110_6 V ⟨V, V⟩) ?_)))
 refine Yb 26 (some 0) (i := 1) V V V V V (Zp (i := 0) V ta_53 V V V ⟨V, V⟩) ?_
 refine Yb 27 (none) (i := 2) V V V V V (Zd V V ⟨V, V⟩) ?_
 refine Xn 3 (i := 3) V V V V V (Yi (xs := [.tmp 27]) (i := 0) V V V (HB) by1 ⟨_, V, ?_⟩)
 refine Yb 29 (none) (i := 4) V V V V V (Ye (xs := [.tmp 28]) el_53 V V V V V V (Uf V) ⟨V, V⟩) ?_
 refine EOps.nw (i := 5) V V V (op_append_nil el_53 V V V (.seq _ _) by6 (fun u30 => ⟨_, V, ?_⟩))
 refine Yb 31 (none) (i := 6) V V V V V (Zh V tf_110_6 V ⟨V, V⟩) ?_
 refine Xn 0 (i := 7) V V V V V (Zq (cs' := [_, _, _, _, _, _, _, _, _, _, _]) (i := 0) V ts_53 V V V V V (Uf V) V ⟨_, V, ?_⟩)
 show AGo _ _ _ _ _ _ _
 refine Zb (Zg (Zz ?_))
 apply Wg [1, 9, 10, 11, 12, 13, 14, 15, 16, 17, 18, 19, 20, 21, 22, 23, 24, 25, 26, 27, 28, 29, 30, 31, 32, 33, 34, 35, 36, 37, 38, 39, 40, 42, 56, 60] (σ := PS × Nat × List Bi × Value) (fun zz => match zz with | (q, f, acc, u) => []) (fun zz => match zz with | (q, f, acc, u) => [.loc b4 [.val (.int .i64 7), .val (.string kE), .val (.int .i64 (if c23 = true then 1 else 0)), .val (.int .i64 0), .val (.string kE), .val (.int .i64 0), .val (.slice none 0 0), .val (.slice none 0 0), .val (.slice none 0 0), .own u 13 (Bi.cellss acc), .val (.int .i64 ta)], .loc b3 (Tok.mk tk tt tn ta).av, .loc b2 zEx, .loc b (psC L q), .own 112 13 u]) (fun zz => match zz with | (q, f, acc, u) => POk L n q ∧ L.length - q.at_ < f ∧ acc.length ≤ q.at_ + 1 ∧ bindsL L E f q acc = (bl, p4)) (fun zz => match zz with | (q, f, acc, u) => f) ((p3, L.length + 1, [Bi.mk bn (Ex.mk xk xs xn (Ty.mk xtk xts xtn xtl) xks xal xbs xp) bp], u30))
 ·repeat' (first | exact Ui | apply Ug rfl | apply Uh rfl)
 ·exact ⟨k3, by omega, by simp, e4⟩
 ·exact by4
 ·exact (Vy V)
 rintro ⟨q, f, acc, u⟩ hI
 try dsimp only [List.cons_append, List.nil_append] at hI ⊢
 obtain ⟨i1, i2, i3, hu⟩ := hI
 have hq1 := i1.1
 have hle : (Bi.cellss acc).length ≤ 200000 := by rw [Bi.cellss_len]; omega
 refine Zg (Zg (Zc (Za 32 V V V (Zd V V (Za 33 V V V (op_mayc (xs := [.tmp 32, .const (.string ⟨#[97, 110, 100]⟩)]) (i := 3) V V V (may_c b L hL q kAnd) by1 ?_ ?_))))))
 ·intro g33
  refine Vs (Zb (Zt V (Zv (Zb (Zz ?_)))))
  obtain ⟨f, rfl⟩ : ∃ f', f = f' + 1 := ⟨f - 1, by omega⟩
  rw [bindsL_go g33] at hu
  have l1 := (Xo i1 g33).ok i1
  have l2 := (bindG_adv HA l1).ok l1
  have b2' : (stepP q).at_ ≤ _ := (bindG_adv HA l1).1
  have b4' : (stepP q).at_ = q.at_ + 1 := rfl
  have b5' := (is_lt g33).2
  have HB2 := bind_c b L hL n E HE _ l1
  obtain ⟨⟨⟨cn, ⟨wk, ws, wn, ⟨wtk, wts, wtn, wtl⟩, wks, wal, wbs, wp⟩, cp⟩, q2⟩, f2⟩ : ∃ r, bindG L E (stepP q) = r := ⟨_, rfl⟩
  rw [f2] at HB2 hu l2 b2'
  simp only [Bi.cells, Ex.cells, Ty.cells, List.cons_append, List.nil_append] at HB2 hu l2 b2'
  have l3 := l2.1
  refine Xu [0, 1, 2, 3, 4, 5, 6, 7] [3, 5, 7] [[], [0], [], [2], [2, 3], [0, 1, 2, 3, 4], [0, 1, 2, 3, 4, 5], [0, 1, 2, 3, 4, 5, 6]] Wo V (Yb 34 (none) (i := 0) V V V V V (Zh V tf_110_6 V ⟨V, V⟩) ?_)
  refine Yb 35 (some 0) (i := 1) V V V V V (Zp (i := 0) V ta_53 V V V ⟨V, V⟩) ?_
  refine Yb 36 (none) (i := 2) V V V V V (Zd V V ⟨V, V⟩) ?_
  refine Xn 3 (i := 3) V V V V V (Yi (xs := [.tmp 36]) (i := 0) V V V (HB2) by1 ⟨_, V, ?_⟩)
  refine Yb 38 (none) (i := 4) V V V V V (Ye (xs := [.tmp 37]) el_53 V V V V V V (Uf V) ⟨V, V⟩) ?_
  refine Xn 4 (i := 5) V V V V V (Xj (i := 0) el_53 V V V V (.seq _ _) by6 (fun u39 => ⟨_, V, ?_⟩))
  refine Yb 40 (none) (i := 6) V V V V V (Zh V tf_110_6 V ⟨V, V⟩) ?_
  refine Xn 0 (i := 7) V V V V V (Zq (cs' := [_, _, _, _, _, _, _, _, _, _, _]) (i := 0) V ts_53 V V V V V (Uf V) V ⟨_, V, ?_⟩)
  show AGo _ _ _ _ _ _ _
  refine Yt (Yz ?_)
  refine ⟨(q2, f, acc ++ [Bi.mk cn (Ex.mk wk ws wn (Ty.mk wtk wts wtn wtl) wks wal wbs wp) cp], u39), ⟨l2, (by show L.length - q2.at_ < f; omega), (by show (acc ++ [Bi.mk cn (Ex.mk wk ws wn (Ty.mk wtk wts wtn wtl) wks wal wbs wp) cp]).length ≤ q2.at_ + 1; rw [List.length_append]; simp; omega), hu⟩, Nat.lt_succ_self f, by4, (Vx _ (Ub (Vz _) (Ub (Vz _) (Ub (Vz _) (Ub (Vz _) (Ub (Vz _) (Ub (Vz _) (Ub (Vz _) (Ub (Vz _) (Ub (Vz _) (Ub (Ue by10) (Ua _))))))))))) (Vv _ (Vv _ (Vy V))))⟩
 intro g33
 refine Vs (Zb (Zr V (Xc (Xe (Xv (Xd (Zb (Zg ?_))))))))
 rw [bindsL_end g33] at hu
 simp only [Prod.mk.injEq] at hu
 obtain ⟨rfl, rfl⟩ := hu
 refine Zc (Za 41 V V V (Zd V V (Za 42 V V V (Yi (xs := [.tmp 41, .const (.int .i64 6), .const (.string ⟨#[105, 110]⟩)]) (i := 3) V V V (H4) by1 ?_))))
 refine Vs (Zb (Zg (Xu [0, 1, 2, 3, 4, 5, 6, 7] [3, 5, 7] [[], [0], [], [2], [2, 3], [0, 1, 2, 3, 4], [0, 1, 2, 3, 4, 5], [0, 1, 2, 3, 4, 5, 6]] Wo V (Yb 43 (none) (i := 0) V V V V V (Zh V tf_110_4 V ⟨V, V⟩) ?_))))
 refine Yb 44 (some 0) (i := 1) V V V V V (Zp (i := 0) V ta_107 V V V ⟨V, V⟩) ?_
 refine Yb 45 (none) (i := 2) V V V V V (Zd V V ⟨V, V⟩) ?_
 refine Xn 3 (i := 3) V V V V V (Yi (xs := [.tmp 45]) (i := 0) V V V (HX) by1 ⟨_, V, ?_⟩)
 refine Yb 47 (none) (i := 4) V V V V V (Ye (xs := [.tmp 46]) el_107 V V V V V V (Uf V) ⟨V, V⟩) ?_
 refine EOps.nw (i := 5) V V V (op_append_nil el_107 V V V (.seq _ _) by6 (fun u48 => ⟨_, V, ?_⟩))
 refine Yb 49 (none) (i := 6) V V V V V (Zh V tf_110_4 V ⟨V, V⟩) ?_
 refine Xn 0 (i := 7) V V V V V (Zq (cs' := [_, _, _, _, _, _, _, _, _, _, _]) (i := 0) V ts_107 V V V V V (Uf V) V ⟨_, V, ?_⟩)
 show AGo _ _ _ _ _ _ _
 refine Zb (Zg (Zc (Za 50 V V V (Zx (cs' := [_, _, _, _, _, _, _, _, _, _, _]) (i := 0) V Wf V V V V (Zs V V (Zq (cs' := [_, _, _, _, _, _, _, _, _, _, _]) (i := 2) V Wn V V V V V (Uf V) V (Vs (Zb (Ya ?_)))))))))
 subst hr; exact Yn (i := 2) rfl rfl rfl Wf rfl by0 (Vw _ (Vw _ (Vw _ (Vv _ (Vu _))))) ⟨rfl, rfl⟩
theorem operand_if (b : Nat) (L : List Tok) (hL : L.length ≤ 100000) (n : Nat) (E : PS → Ex × PS) (HE : ExC b L n E) (HA : ∀ q, POk L n q → Adv L q (E q).2) (p : PS) (k : POk L n p) (h1 : ¬ isP L p kBack = true) (h2 : ¬ isP L p kLet = true) (h3 : isP L p kIf = true) : MCall Tryz.prog 105 [.ptr b 0] (.loc b (psC L p)) (.agg (ifG L E (nxt L p).a (stepP p)).1.cells) (.loc b (psC L (ifG L E (nxt L p).a (stepP p)).2)) := by
 have HN := next_c b L p
 obtain ⟨r, hr⟩ : ∃ r, ifG L E (nxt L p).a (stepP p) = r := ⟨_, rfl⟩
 rw [hr]
 unfold ifG at hr
 simp only [] at hr
 obtain ⟨⟨tk, tt, tn, ta⟩, ht⟩ : ∃ t, nxt L p = t := ⟨_, rfl⟩
 rw [ht] at HN hr
 simp only [Tok.av] at HN hr
 have k1 := (Xo k h3).ok k
 have H1 := HE _ k1
 have k2 := (HA _ k1).ok k1
 obtain ⟨⟨⟨xk, xs, xn, ⟨xtk, xts, xtn, xtl⟩, xks, xal, xbs, xp⟩, p2⟩, e2⟩ : ∃ r, E (stepP p) = r := ⟨_, rfl⟩
 rw [e2] at H1 k2 hr
 simp only [] at k2 hr
 have H2 := take_c b L hL p2 k2.1 6 kThen
 have k3 := (Yo (kind := 6) (s := kThen) (by decide) k2).ok k2
 obtain ⟨⟨u3, p3⟩, e3⟩ : ∃ r, takeP L p2 6 kThen = r := ⟨_, rfl⟩
 rw [e3] at H2 k3 hr
 simp only [] at H2 k3 hr
 have H3 := HE _ k3
 have k4 := (HA _ k3).ok k3
 obtain ⟨⟨⟨yk, ys, yn, ⟨ytk, yts, ytn, ytl⟩, yks, yal, ybs, yp⟩, p4⟩, e4⟩ : ∃ r, E p3 = r := ⟨_, rfl⟩
 rw [e4] at H3 k4 hr
 simp only [] at k4 hr
 have H4 := take_c b L hL p4 k4.1 6 kElse
 have k5 := (Yo (kind := 6) (s := kElse) (by decide) k4).ok k4
 obtain ⟨⟨u5, p5⟩, e5⟩ : ∃ r, takeP L p4 6 kElse = r := ⟨_, rfl⟩
 rw [e5] at H4 k5 hr
 simp only [] at H4 k5 hr
 have H5 := HE _ k5
 obtain ⟨⟨⟨zk, zs, zn, ⟨ztk, zts, ztn, ztl⟩, zks, zal, zbs, zp⟩, p6⟩, e6⟩ : ∃ r, E p5 = r := ⟨_, rfl⟩
 rw [e6] at H5 hr
 simp only [Ex.cells, Ty.cells, List.cons_append, List.nil_append] at H1 H3 H5 hr
 refine Zw Tryz.func105 V (by kernel_rfl) V (Uf V) ?_
 refine Yf (Zg (Zc (Za 2 V V V (Zy (cs' := [_, _, _, _, _, _, _, _, _, _, _]) V Wb V V ?_)))); intro b2
 refine Vs (Zb (Zg (Zc (Za 9 V V V (Zd V V (Za 10 V V V (Wr (xs := [.tmp 9]) [1] V V V (HN) by1 ?_)))))))
 refine Za 3 V V V (Zy (cs' := [_, _, _, _]) V Wj V V ?_); intro b3
 refine Zs V V (Zq (cs' := [_, _, _, _]) (i := 0) V Xk V V V V V (Uf V) V (Vs (Zb (Zg (Zg (Zc (Za 11 V V V (Zd V V (Za 12 V V V (Yi (xs := [.tmp 11, .const (.string ⟨#[92]⟩)]) (i := 2) V V V (may_no hL h1) by1 ?_))))))))))
 refine Vs (Zb (Zr V (Zv (Zb (Zg (Zg (Zc (Za 17 V V V (Zd V V (Za 18 V V V (Yi (xs := [.tmp 17, .const (.string ⟨#[108, 101, 116]⟩)]) (i := 2) V V V (may_no hL h2) by1 ?_)))))))))))
 refine Vs (Zb (Zr V (Zv (Zb (Zg (Zg (Zc (Za 51 V V V (Zd V V (Za 52 V V V (Yi (xs := [.tmp 51, .const (.string ⟨#[105, 102]⟩)]) (i := 2) V V V (may_yes hL h3) by1 ?_)))))))))))
 refine Vs (Zb (Zt V (Zg (Zc (Za 53 V V V (Zd V V (Za 54 V V V (Yi (xs := [.tmp 53]) (i := 2) V V V (H1) by1 ?_))))))))
 refine Za 5 V V V (Zy (cs' := [_, _, _, _, _, _, _, _, _, _, _]) V Wb V V ?_); intro b5
 refine Zs V V (Zq (cs' := [_, _, _, _, _, _, _, _, _, _, _]) (i := 0) V Wn V V V V V (Uf V) V (Vs (Zb (Zg (Zc (Za 55 V V V (Zd V V (Za 56 V V V (Yi (xs := [.tmp 55, .const (.int .i64 6), .const (.string ⟨#[116, 104, 101, 110]⟩)]) (i := 3) V V V (H2) by1 ?_)))))))))
 refine Vs (Zb (Zg (Zc (Za 57 V V V (Zd V V (Za 58 V V V (Yi (xs := [.tmp 57]) (i := 3) V V V (H3) by1 ?_)))))))
 refine Za 6 V V V (Zy (cs' := [_, _, _, _, _, _, _, _, _, _, _]) V Wb V V ?_); intro b6
 refine Zs V V (Zq (cs' := [_, _, _, _, _, _, _, _, _, _, _]) (i := 0) V Wn V V V V V (Uf V) V (Vs (Zb (Zg (Zc (Za 59 V V V (Zd V V (Za 60 V V V (Yi (xs := [.tmp 59, .const (.int .i64 6), .const (.string ⟨#[101, 108, 115, 101]⟩)]) (i := 4) V V V (H4) by1 ?_)))))))))
 refine Vs (Zb (Zg (Zc (Za 61 V V V (Zd V V (Za 62 V V V (Yi (xs := [.tmp 61]) (i := 4) V V V (H5) by1 ?_)))))))
 refine Za 7 V V V (Zy (cs' := [_, _, _, _, _, _, _, _, _, _, _]) V Wb V V ?_); intro b7
 refine Zs V V (Zq (cs' := [_, _, _, _, _, _, _, _, _, _, _]) (i := 0) V Wn V V V V V (Uf V) V (Vs (Zb (Zg (Zc (Za 63 V V V (Zx (cs' := [_, _, _, _, _, _, _, _, _, _, _]) (i := 2) V Wf V V V V (Za 64 V V V (Zx (cs' := [_, _, _, _, _, _, _, _, _, _, _]) (i := 1) V Wf V V V V (Za 65 V V V (Zx (cs' := [_, _, _, _, _, _, _, _, _, _, _]) (i := 0) V Wf V V V V (Za 66 V V V (Ye (xs := [.tmp 63, .tmp 64, .tmp 65]) el_107 V V V V V V (Uf V) (Za 67 V V V (Zh V Wv V (Za 68 V V V (Zp (i := 3) V Xa V V V (Za 69 V V V (Yl (ns := [0, 4, 7]) (xs := [.const (.int .i64 9), .tmp 66, .tmp 68]) V Wb V tfl_110 V V V V (Zs V V (Zq (cs' := [_, _, _, _, _, _, _, _, _, _, _]) (i := 4) V Wn V V V V V (Uf V) V (Vs (Zb (Ya ?_))))))))))))))))))))))))
 subst hr; exact Yn (i := 4) rfl rfl rfl Wf rfl by0 (Vw _ (Vw _ (Vw _ (Vw _ (Vw _ (Vy rfl)))))) ⟨rfl, rfl⟩
theorem appsL_go {L : List Tok} {E : PS → Ex × PS} {a : Int} {f : Nat} {p : PS} {x : Ex} (h : startsP L 2 p) : appsL L E a (f + 1) p x = appsL L E a f (atomG L E p).2 (opE 5 [x, (atomG L E p).1] a) := by rw [appsL, if_pos h]
theorem appsL_end {L : List Tok} {E : PS → Ex × PS} {a : Int} {f : Nat} {p : PS} {x : Ex} (h : ¬ startsP L 2 p) : appsL L E a f p x = (x, p) := by
 cases f with
 | zero => rfl
 | succ f => rw [appsL, if_neg h]
theorem operand_app (b : Nat) (L : List Tok) (hL : L.length ≤ 100000) (n : Nat) (E : PS → Ex × PS) (HE : ExC b L n E) (HA : ∀ q, POk L n q → Adv L q (E q).2) (p : PS) (k : POk L n p) (h1 : ¬ isP L p kBack = true) (h2 : ¬ isP L p kLet = true) (h3 : ¬ isP L p kIf = true) (r : Ex × PS) (hr : appsL L E (nxt L p).a (L.length + 1) (atomG L E p).2 (atomG L E p).1 = r) : MCall Tryz.prog 105 [.ptr b 0] (.loc b (psC L p)) (.agg r.1.cells) (.loc b (psC L r.2)) := by
 have HN := next_c b L p
 obtain ⟨⟨tk, tt, tn, ta⟩, ht⟩ : ∃ t, nxt L p = t := ⟨_, rfl⟩
 rw [ht] at HN hr
 simp only [Tok.av] at HN hr
 have H1 := atom_c b L hL n E HE HA p k
 have k2 := (atom_adv HA k).ok k
 obtain ⟨⟨⟨zk, zs, zn, ⟨ztk, zts, ztn, ztl⟩, zks, zal, zbs, zp⟩, p2⟩, e2⟩ : ∃ r, atomG L E p = r := ⟨_, rfl⟩
 rw [e2] at H1 k2 hr
 simp only [Ex.cells, Ty.cells, List.cons_append, List.nil_append] at H1 k2 hr
 refine Zw Tryz.func105 V (by kernel_rfl) V (Uf V) ?_
 refine Yf (Zg (Zc (Za 2 V V V (Zy (cs' := [_, _, _, _, _, _, _, _, _, _, _]) V Wb V V ?_)))); intro b2
 refine Vs (Zb (Zg (Zc (Za 9 V V V (Zd V V (Za 10 V V V (Wr (xs := [.tmp 9]) [1] V V V (HN) by1 ?_)))))))
 refine Za 3 V V V (Zy (cs' := [_, _, _, _]) V Wj V V ?_); intro b3
 refine Zs V V (Zq (cs' := [_, _, _, _]) (i := 0) V Xk V V V V V (Uf V) V (Vs (Zb (Zg (Zg (Zc (Za 11 V V V (Zd V V (Za 12 V V V (Yi (xs := [.tmp 11, .const (.string ⟨#[92]⟩)]) (i := 2) V V V (may_no hL h1) by1 ?_))))))))))
 refine Vs (Zb (Zr V (Zv (Zb (Zg (Zg (Zc (Za 17 V V V (Zd V V (Za 18 V V V (Yi (xs := [.tmp 17, .const (.string ⟨#[108, 101, 116]⟩)]) (i := 2) V V V (may_no hL h2) by1 ?_)))))))))))
 refine Vs (Zb (Zr V (Zv (Zb (Zg (Zg (Zc (Za 51 V V V (Zd V V (Za 52 V V V (Yi (xs := [.tmp 51, .const (.string ⟨#[105, 102]⟩)]) (i := 2) V V V (may_no hL h3) by1 ?_)))))))))))
 refine Vs (Zb (Zr V (Zv (Zb (Zg (Zc (Za 70 V V V (Zd V V (Za 71 V V V (Yi (xs := [.tmp 70]) (i := 2) V V V (H1) by1 ?_))))))))))
 refine Za 8 V V V (Zy (cs' := [_, _, _, _, _, _, _, _, _, _, _]) V Wb V V ?_); intro b8
 refine Zs V V (Zq (cs' := [_, _, _, _, _, _, _, _, _, _, _]) (i := 0) V Wn V V V V V (Uf V) V (Vs (Zb (Zg (Zz ?_)))))
 apply Wg [1, 4, 5, 6, 7, 9, 10, 11, 12, 13, 14, 15, 16, 17, 18, 19, 20, 21, 22, 23, 24, 25, 26, 27, 28, 29, 30, 31, 32, 33, 34, 35, 36, 37, 38, 39, 40, 41, 42, 43, 44, 45, 46, 47, 48, 49, 50, 51, 52, 53, 54, 55, 56, 57, 58, 59, 60, 61, 62, 63, 64, 65, 66, 67, 68, 69, 70, 71, 72, 73, 74, 75, 76, 77, 78, 79, 80] (σ := PS × Nat × Ex) (fun zz => match zz with | (q, f, Ex.mk xk xs xn (Ty.mk xtk xts xtn xtl) xks xal xbs xp) => []) (fun zz => match zz with | (q, f, Ex.mk xk xs xn (Ty.mk xtk xts xtn xtl) xks xal xbs xp) => [.loc b8 [.val (.int .i64 xk), .val (.string xs), .val (.int .i64 xn), .val (.int .i64 xtk), .val (.string xts), .val (.int .i64 xtn), .seq 4 (Ty.cellss xtl), .seq 11 (Ex.cellss xks), .seq 16 (Al.cellss xal), .seq 13 (Bi.cellss xbs), .val (.int .i64 xp)], .loc b3 (Tok.mk tk tt tn ta).av, .loc b2 zEx, .loc b (psC L q)]) (fun zz => match zz with | (q, f, Ex.mk xk xs xn (Ty.mk xtk xts xtn xtl) xks xal xbs xp) => POk L n q ∧ L.length - q.at_ < f ∧ appsL L E ta f q (Ex.mk xk xs xn (Ty.mk xtk xts xtn xtl) xks xal xbs xp) = r) (fun zz => match zz with | (q, f, Ex.mk xk xs xn (Ty.mk xtk xts xtn xtl) xks xal xbs xp) => f) ((p2, L.length + 1, Ex.mk zk zs zn (Ty.mk ztk zts ztn ztl) zks zal zbs zp))
 ·repeat' (first | exact Ui | apply Ug rfl | apply Uh rfl)
 ·exact ⟨k2, by omega, hr⟩
 ·exact by4
 ·exact (Vy V)
 rintro ⟨q, f, ⟨xk, xs, xn, ⟨xtk, xts, xtn, xtl⟩, xks, xal, xbs, xp⟩⟩ hI
 try dsimp only [List.cons_append, List.nil_append] at hI ⊢
 obtain ⟨i1, i2, hu⟩ := hI
 have hq1 := i1.1
 refine Zg (Zg (Zc (Za 72 V V V (Zd V V (Za 73 V V V (op_callkb (xs := [.tmp 72, .const (.int .i64 2)]) [3] V V V (starts_c b L q 2) by1 ?_)))))); intro c73 h73
 refine Vs (Zb ?_)
 rcases Zi h73 with ⟨rfl, g73⟩ | ⟨rfl, g73⟩
 ·refine Zr V (Xc (Xe (Xv (Xd (Zb (Zg (Zc (Za 81 V V V (Zx (cs' := [_, _, _, _, _, _, _, _, _, _, _]) (i := 0) V Wf V V V V (Zs V V (Zq (cs' := [_, _, _, _, _, _, _, _, _, _, _]) (i := 2) V Wn V V V V V (Uf V) V (Vs (Zb (Ya ?_))))))))))))))
  rw [appsL_end g73] at hu; subst hu; exact Yn (i := 2) rfl rfl rfl Wf rfl (Vz _) (Vw _ (Vw _ (Vw _ (Vy rfl)))) ⟨rfl, rfl⟩
 refine Zt V (Zv (Zb (Zz ?_)))
 obtain ⟨f, rfl⟩ : ∃ f', f = f' + 1 := ⟨f - 1, by omega⟩
 rw [appsL_go g73] at hu
 have b1 := atom_lt HA i1 g73
 have l2 := (atom_adv HA i1).ok i1
 have HA2 := atom_c b L hL n E HE HA q i1
 obtain ⟨⟨⟨wk, ws, wn, ⟨wtk, wts, wtn, wtl⟩, wks, wal, wbs, wp⟩, q2⟩, f2⟩ : ∃ r, atomG L E q = r := ⟨_, rfl⟩
 rw [f2] at HA2 hu l2 b1
 simp only [Ex.cells, Ty.cells, List.cons_append, List.nil_append] at HA2 hu l2 b1
 have l3 := l2.1
 refine Xu [0, 1, 4, 5, 2, 3, 6, 7] [2, 7] [[], [], [1], [0, 1, 2], [], [4], [0, 1, 2, 3, 4, 5], [0, 1, 2, 3, 4, 5, 6]] Wo V (Yb 74 (some 0) (i := 0) V V V V V (Zx (cs' := [_, _, _, _, _, _, _, _, _, _, _]) (i := 0) V Wf V V V V ⟨V, V⟩) ?_)
 refine Yb 75 (none) (i := 1) V V V V V (Zd V V ⟨V, V⟩) ?_
 refine Yb 78 (none) (i := 4) V V V V V (Zh V Wv V ⟨V, V⟩) ?_
 refine Yb 79 (some 1) (i := 5) V V V V V (Zp (i := 0) V Xa V V V ⟨V, V⟩) ?_
 refine Xn 3 (i := 2) V V V V V (Yi (xs := [.tmp 75]) (i := 0) V V V (HA2) by1 ⟨_, V, ?_⟩)
 refine Yb 77 (none) (i := 3) V V V V V (Ye (xs := [.tmp 74, .tmp 76]) el_107 V V V V V V (Uf V) ⟨V, V⟩) ?_
 refine Yb 80 (none) (i := 6) V V V V V (Yl (ns := [0, 4, 7]) (xs := [.const (.int .i64 5), .tmp 77, .tmp 79]) V Wb V tfl_110 V V V V ⟨V, V⟩) ?_
 refine Xn 0 (i := 7) V V V V V (Zq (cs' := [_, _, _, _, _, _, _, _, _, _, _]) (i := 0) V Wn V V V V V (Uf V) V ⟨_, V, ?_⟩)
 show AGo _ _ _ _ _ _ _
 refine Yt (Yz ?_)
 refine ⟨(q2, f, Ex.mk 5 kE 0 (Ty.mk 0 kE 0 []) [Ex.mk xk xs xn (Ty.mk xtk xts xtn xtl) xks xal xbs xp, Ex.mk wk ws wn (Ty.mk wtk wts wtn wtl) wks wal wbs wp] [] [] ta), ⟨l2, (by show L.length - q2.at_ < f; omega), hu⟩, Nat.lt_succ_self f, by4, (Vx _ by0 (Vv _ (Vv _ (Vy V))))⟩
theorem operand_c (b : Nat) (L : List Tok) (hL : L.length ≤ 100000) (n : Nat) (E : PS → Ex × PS) (HE : ExC b L n E) (HA : ∀ q, POk L n q → Adv L q (E q).2) (p : PS) (k : POk L n p) : MCall Tryz.prog 105 [.ptr b 0] (.loc b (psC L p)) (.agg (operandG L E p).1.cells) (.loc b (psC L (operandG L E p).2)) := by
 unfold operandG
 by_cases h1 : isP L p kBack = true
 ·rw [if_pos h1]; exact operand_lam b L hL n E HE p k h1
 by_cases h2 : isP L p kLet = true
 ·rw [if_neg h1, if_pos h2]
  by_cases h3 : isP L (stepP p) kRec = true
  ·rw [if_pos h3]; exact operand_let b L hL n E HE HA p k h1 h2 true h3 _ rfl
  rw [if_neg h3]; exact operand_let b L hL n E HE HA p k h1 h2 false (by simpa using h3) _ rfl
 by_cases h3 : isP L p kIf = true
 ·rw [if_neg h1, if_neg h2, if_pos h3]; exact operand_if b L hL n E HE HA p k h1 h2 h3
 rw [if_neg h1, if_neg h2, if_neg h3]; exact operand_app b L hL n E HE HA p k h1 h2 h3 _ rfl
theorem Exp_err (b : Nat) (L : List Tok) (p : PS) (he : p.e ≠ 0) : MCall Tryz.prog 86 [.ptr b 0] (.loc b (psC L p)) (.agg ex0.cells) (.loc b (psC L p)) := by
 refine Zw Tryz.func86 V (by kernel_rfl) V (Uf V) ?_
 refine Yf (Zg (Zc (Za 2 V V V (Zy (cs' := [_, _, _, _, _, _, _, _, _, _, _]) V Wb V V ?_)))); intro b2
 refine Vs (Zb (Zg (Zg (Zc (Za 8 V V V (Zd V V (Za 9 V V V (Yk V V (Za 10 V V V (Zh V Vo V (Za 11 V V V (Zp (i := 1) V Xa V V V (Za 12 V V V (Xq V V V ?_)))))))))))))); intro c12 h12
 refine Vs (Zb ?_)
 rcases Zi h12 with ⟨rfl, g12⟩ | ⟨rfl, g12⟩
 ·exact absurd he g12
 exact Zt V (Zg (Zc (Za 13 V V V (Yl (ns := []) (xs := []) V Wb V tfl_110 V V V V (Zs V V (Zq (cs' := [_, _, _, _, _, _, _, _, _, _, _]) (i := 0) V Wn V V V V V (Uf V) V (Vs (Zb (Ya (Yn (i := 0) V V V Wf V by0 (Vw _ (Vt _)) ⟨V, V⟩))))))))))
theorem clash_in (lv : Nat → Nat) : ∀ f k, clashL lv f k = -1 ∨ ((k : Int) ≤ clashL lv f k ∧ clashL lv f k < k + f)
 | 0, k => .inl rfl
 | f + 1, k => by
  unfold clashL
  split
  ·right; omega
  rcases clash_in lv f (k + 1) with h | h
  ·exact .inl h
  right; omega
theorem clashP_lt {ops : List Tok} (h : 0 ≤ clashP ops) : (clashP ops).toNat < ops.length := by
 rcases clash_in (lvT ops) ops.length 0 with q | q <;> unfold clashP at * <;> omega
theorem opsL_go {L : List Tok} {E : PS → Ex × PS} {f : Nat} {p : PS} {l : List Ex} {o : List Tok} (h : (nxt L p).k = 5) : opsL L E (f + 1) p l o = opsL L E f (operandG L E (takeP L p 5 kE).2).2 (l ++ [(operandG L E (takeP L p 5 kE).2).1]) (o ++ [(takeP L p 5 kE).1]) := by rw [opsL, if_pos h]
theorem opsL_end {L : List Tok} {E : PS → Ex × PS} {f : Nat} {p : PS} {l : List Ex} {o : List Tok} (h : ¬ (nxt L p).k = 5) : opsL L E f p l o = ((l, o), p) := by
 cases f with
 | zero => rfl
 | succ f => rw [opsL, if_neg h]
theorem Exp_ok (b : Nat) (L : List Tok) (hL : L.length ≤ 100000) (n : Nat) (E : PS → Ex × PS) (HE : ExC b L n E) (HA : ∀ q, POk L n q → Adv L q (E q).2) (p : PS) (k : POk L (n + 1) p) (he : p.e = 0) (r : Ex × PS) (hr : joinE (opsL L E (L.length + 1) (operandG L E (deeperP L p)).2 [(operandG L E (deeperP L p)).1] []) = r) : MCall Tryz.prog 86 [.ptr b 0] (.loc b (psC L p)) (.agg r.1.cells) (.loc b (psC L r.2)) := by
 have kq := deeper_ok k he
 have H1 := operand_c b L hL n E HE HA _ kq
 have k2 := (operand_adv HA kq).ok kq
 obtain ⟨⟨⟨zk, zs, zn, ⟨ztk, zts, ztn, ztl⟩, zks, zal, zbs, zp⟩, p2⟩, e2⟩ : ∃ r, operandG L E (deeperP L p) = r := ⟨_, rfl⟩
 rw [e2] at H1 k2 hr
 simp only [] at k2 hr
 obtain ⟨⟨⟨yl, yo⟩, p4⟩, e4⟩ : ∃ r, opsL L E (L.length + 1) p2 [Ex.mk zk zs zn (Ty.mk ztk zts ztn ztl) zks zal zbs zp] [] = r := ⟨_, rfl⟩
 rw [e4] at hr
 unfold joinE at hr
 simp only [Ex.cells, Ty.cells, List.cons_append, List.nil_append] at H1 hr
 refine Zw Tryz.func86 V (by kernel_rfl) V (Uf V) ?_
 refine Yf (Zg (Zc (Za 2 V V V (Zy (cs' := [_, _, _, _, _, _, _, _, _, _, _]) V Wb V V ?_)))); intro b2
 refine Vs (Zb (Zg (Zg (Zc (Za 8 V V V (Zd V V (Za 9 V V V (Yk V V (Za 10 V V V (Zh V Vo V (Za 11 V V V (Zp (i := 1) V Xa V V V (Za 12 V V V (Xq V V V ?_)))))))))))))); intro c12 h12
 refine Vs (Zb ?_)
 rcases Zi h12 with ⟨rfl, g12⟩ | ⟨rfl, g12⟩
 ·refine Zr V (Zv (Zb (Zg (Zc (Za 14 V V V (Zd V V ?_))))))
  refine Za 15 V V V (Yi (xs := [.tmp 14]) (i := 1) V V V (deeper_c b L p k.2.1 (by have := k.2.2.1; omega)) by1 ?_)
  refine Vs (Zb (Zg (Zc (Za 16 V V V (Zd V V (Za 17 V V V (Yi (xs := [.tmp 16]) (i := 1) V V V (H1) by1 ?_)))))))
  refine Za 18 V V V (op_buildSlice_own (xs := [.tmp 17]) el_107 V V V V V V (Uf V) ?_); intro u18
  refine Za 3 V V V (Ze V V (Vs (Zb (Zg (Zc (Za 4 V V V (Ze V V (Vs (Zb (Zg (Zc (Za 5 V V V (Ze V V (Vs (Zb (Zg (Zz (We 97 4 (We 9 1 ?_)))))))))))))))))))
  apply Wg [1, 3, 4, 5, 6, 8, 9, 10, 11, 12, 13, 14, 15, 16, 17, 18, 19, 20, 21, 22, 23, 24, 25, 26, 27, 28, 29, 30, 31, 32, 33, 34, 35, 36, 37, 38, 55] (σ := PS × Nat × List Ex × List Tok × Value × Value × Value) (fun zz => match zz with | (q, f, l, ops, u, v, w) => [(3, .own u 11 (Ex.cellss l)), (4, .own v 4 (ops.map Tok.av)), (5, .own w 1 (strs (ops.map Tok.t)))]) (fun zz => match zz with | (q, f, l, ops, u, v, w) => [.own 110 11 u, .loc b2 zEx, .loc b (psC L q), .own 97 4 v, .own 9 1 w]) (fun zz => match zz with | (q, f, l, ops, u, v, w) => POk L n q ∧ L.length - q.at_ < f ∧ l.length = ops.length + 1 ∧ ops.length ≤ q.at_ ∧ opsL L E f q l ops = ((yl, yo), p4)) (fun zz => match zz with | (q, f, l, ops, u, v, w) => f) ((p2, L.length + 1, [Ex.mk zk zs zn (Ty.mk ztk zts ztn ztl) zks zal zbs zp], [], u18, .slice none 0 0, .slice none 0 0))
  ·repeat' (first | exact Ui | apply Ug rfl | apply Uh rfl)
  ·exact ⟨k2, by omega, V, Nat.zero_le _, e4⟩
  ·exact Uc V (Vz _) (Uc V (Le.nilOwn 4) (Uc V (Le.nilOwn 1) (SLe.nil _)))
  ·exact (Vy V)
  rintro ⟨q, f, l, ops, u, v, w⟩ hI
  try dsimp only [List.cons_append, List.nil_append] at hI ⊢
  obtain ⟨i1, i2, i3, i4, hu⟩ := hI
  have hq1 := i1.1
  have hb1 := i1.2.1
  have hb2 := i1.2.2.1
  have hl1 : (Ex.cellss l).length ≤ 200000 := by rw [Ex.cellss_len]; omega
  have hl2 : (ops.map Tok.av).length ≤ 200000 := by rw [List.length_map]; omega
  have hl3 : (strs (ops.map Tok.t)).length ≤ 200000 := by rw [Xt, List.length_map]; omega
  have HN := next_c b L q
  have hkn : (nxt L q).k = 5 → q.at_ < L.length := fun e => (Vr (by omega)).2
  have hgo := fun f => opsL_go (L := L) (E := E) (f := f) (p := q) (l := l) (o := ops)
  have hend := opsL_end (L := L) (E := E) (f := f) (p := q) (l := l) (o := ops)
  have htk := fun h : (nxt L q).k = 5 => take_k (s := kE) h (by decide) (by decide)
  obtain ⟨⟨qk, qt, qn, qa⟩, hqt⟩ : ∃ t, nxt L q = t := ⟨_, rfl⟩
  rw [hqt] at HN hkn hgo hend htk
  simp only [Tok.av] at HN hkn hgo hend htk
  refine Zg (Zg (Zc (Za 19 V V V (Zd V V (Za 20 V V V (Wr (xs := [.tmp 19]) [2] V V V (HN) by1 ?_))))))
  refine Za 21 V V V (Va (ft := 3) (fo := 0) V (by kernel_rfl) Xa V V ?_)
  refine Za 22 V V V (Yr V V V ?_); intro c22 h22
  refine Vs (Zb ?_)
  rcases Zi h22 with ⟨rfl, g22⟩ | ⟨rfl, g22⟩
  ·refine Zr V (Xc (Xe (Xv (Xd (Zb (Zg (Zg ?_)))))))
   rw [hend g22] at hu
   simp only [Prod.mk.injEq] at hu
   obtain ⟨⟨rfl, rfl⟩, rfl⟩ := hu
   refine Zc (Za 39 V V V (Zd V V (Za 40 V V V (Yk V V (Za 41 V V V (Zh V Vo V (Za 42 V V V (Zp (i := 2) V Xa V V V (Za 43 V V V (Xq V V V ?_)))))))))); intro c43 h43
   refine Vs (Zb ?_)
   rcases Zi h43 with ⟨rfl, g43⟩ | ⟨rfl, g43⟩
   ·refine Zr V (Zv (Zb (Zg (Zc (Za 45 V V V (Zd V V (Za 46 V V V (Ym (xs := [.tmp 45]) V V (Clash_p ops (by omega)) by1 ?_))))))))
    refine Za 7 V V V (Ze V V (Vs (Zb (Zg (Zg (Zc (Za 47 V V V (Zd V V (Za 48 V V V (Wa V V V ?_)))))))))); intro c48 h48
    refine Vs (Zb ?_)
    rcases Zi h48 with ⟨rfl, g48⟩ | ⟨rfl, g48⟩
    ·refine Zr V (Zv (Zb (Zg (Zc (Za 57 V V V (Zd V V (Za 58 V V V (Yk V V (Za 59 V V V (Zh V tf_95_2 V (Za 60 V V V (Zp (i := 2) V Xa V V V (Za 61 V V V (op_sub V V V (Uj _ (by omega)) ?_))))))))))))))
     refine Za 62 V V V (Yk V V (Za 63 V V V (Zh V tf_95_2 V (Zs V V (Zq (i := 2) V Wh V V V V V (Uf V) V (Vs (Zb (Zg ?_))))))))
     have HB := Build_c l ops i3 (by omega) ops.length 0 ops.length (Nat.zero_le _) (Nat.le_refl _) (by omega)
     rw [if_neg g43, if_neg g48] at hr
     obtain ⟨⟨wk, ws, wn, ⟨wtk, wts, wtn, wtl⟩, wks, wal, wbs, wp⟩, f2⟩ : ∃ r, buildF l ops ops.length 0 ops.length = r := ⟨_, rfl⟩
     rw [f2] at HB hr
     simp only [Ex.cells, Ty.cells, List.cons_append, List.nil_append] at HB
     have hlen : (ops.map Tok.av).length = ops.length := List.length_map _
     rw [show ((ops.length : Nat) : Int) = (((ops.map Tok.av).length : Nat) : Int) by rw [hlen]] at HB
     refine Zc (Za 64 V V V (Zd V V (Za 65 V V V (Zd V V (Za 66 V V V (Zd V V ?_))))))
     refine Za 67 V V V (Yy V tu_93 V (.own _ _ _) (fun n67 => ?_))
     refine Za 68 V V V (Ym (xs := [.tmp 64, .tmp 65, .const (.int .i64 0), .tmp 67]) V V (HB) by1 ?_)
     refine Zs V V (Zq (cs' := [_, _, _, _, _, _, _, _, _, _, _]) (i := 1) V Wn V V V V V (Uf V) V (Vs (Zb (Ya ?_))))
     subst hr; exact Yn (i := 1) rfl rfl rfl Wf rfl by0 (Vw _ (Vw _ (Vv _ (Vu _)))) ⟨rfl, rfl⟩
    refine Zt V (Zg ?_)
    have hcl := clashP_lt g48
    refine Zc (Za 49 V V V (Zd V V (Za 50 V V V (Zd V V (Za 51 V V V (Zd V V ?_))))))
    refine Za 52 V V V (Yd (i := (clashP ops).toNat) V te_93 V (.own _ _ _) V (by first | rfl | omega) (toks_at hcl) ?_)
    refine Za 53 V V V (Zj V Wv V V (Za 54 V V V (Zo V Xa V V (Za 55 V V V (Yi (xs := [.tmp 49, .const (.int .i64 112), .tmp 54]) (i := 2) V V V (fail_c b L q 112 _) by1 ?_)))))
    refine Vs (Zb (Zg (Zc (Za 56 V V V (Yl (ns := []) (xs := []) V Wb V tfl_110 V V V V (Zs V V (Zq (cs' := [_, _, _, _, _, _, _, _, _, _, _]) (i := 1) V Wn V V V V V (Uf V) V (Vs (Zb (Ya ?_))))))))))
    rw [if_neg g43, if_pos g48] at hr; subst hr; exact Yn (i := 1) rfl rfl rfl Wf rfl by0 (Vw _ (Vw _ (Vv _ (Vu _)))) ⟨rfl, rfl⟩
   refine Zt V (Zg (Zc (Za 44 V V V (Yl (ns := []) (xs := []) V Wb V tfl_110 V V V V (Zs V V (Zq (cs' := [_, _, _, _, _, _, _, _, _, _, _]) (i := 1) V Wn V V V V V (Uf V) V (Vs (Zb (Ya ?_)))))))))
   rw [if_pos g43] at hr; subst hr; exact Yn (i := 1) rfl rfl rfl Wf rfl by0 (Vw _ (Vw _ (Vv _ (Vu _)))) ⟨rfl, rfl⟩
  refine Zt V (Zv (Zb (Zz (Zg ?_))))
  obtain ⟨f, rfl⟩ : ∃ f', f = f' + 1 := ⟨f - 1, by omega⟩
  have hlt := hkn g22
  rw [hgo f g22, htk g22] at hu
  have HT := take_c b L hL q hq1 5 kE
  rw [htk g22] at HT
  have l1 := (Vh i1 hlt).ok i1
  have HO := operand_c b L hL n E HE HA _ l1
  have l2 := (operand_adv HA l1).ok l1
  have b1 : (stepP q).at_ ≤ _ := (operand_adv HA l1).1
  have b2' : (stepP q).at_ = q.at_ + 1 := rfl
  obtain ⟨⟨⟨wk, ws, wn, ⟨wtk, wts, wtn, wtl⟩, wks, wal, wbs, wp⟩, q2⟩, f2⟩ : ∃ r, operandG L E (stepP q) = r := ⟨_, rfl⟩
  simp only [] at hu
  rw [f2] at HO l2 b1 hu
  simp only [Tok.av, Ex.cells, Ty.cells, List.cons_append, List.nil_append] at HT HO l2 b1 hu
  have l3 := l2.1
  refine Zc (Za 23 V V V (Zd V V (Za 24 V V V (Yi (xs := [.tmp 23, .const (.int .i64 5), .const (.string ⟨#[]⟩)]) (i := 2) V V V (HT) by1 ?_))))
  refine Za 6 V V V (Zy (cs' := [_, _, _, _]) V Wj V V ?_); intro b6
  refine Zs V V (Zq (cs' := [_, _, _, _]) (i := 0) V Xk V V V V V (Uf V) V (Vs (Zb (Zg (Zc (Za 25 V V V (Zd V V (Za 26 V V V (Zx (cs' := [_, _, _, _]) (i := 0) V Yq V V V V (Za 27 V V V (Ye (xs := [.tmp 26]) el_93 V V V V V V (Uf V) (Za 28 V V V (Xj (i := 4) el_93 V V V V (.seq _ _) by6 ?_)))))))))))))
  intro u28
  refine Za 4 V V V (Ze V V (Vs (Zb (Zg (Zc (Za 29 V V V (Zd V V (Za 30 V V V (Zh V Xh V (Za 31 V V V (Zp (i := 0) V Xb V V V (Za 32 V V V (Ye (xs := [.tmp 31]) el_68 V V V V V V (Uf V) (Za 33 V V V (Xj (i := 5) el_68 V V V V (.seq _ _) by6 ?_)))))))))))))))
  intro u33
  refine Za 5 V V V (Ze V V (Vs (Zb (Zc (Za 34 V V V (Zd V V (Za 35 V V V (Zd V V (Za 36 V V V (Yi (xs := [.tmp 35]) (i := 3) V V V (HO) by1 ?_))))))))))
  refine Za 37 V V V (Ye (xs := [.tmp 36]) el_107 V V V V V V (Uf V) (Za 38 V V V (Xj (i := 1) el_107 V V V V (.seq _ _) by6 ?_)))
  intro u38
  refine Za 3 V V V (Ze V V (Vs (Yt (Yz ?_))))
  refine ⟨(q2, f, l ++ [Ex.mk wk ws wn (Ty.mk wtk wts wtn wtl) wks wal wbs wp], ops ++ [Tok.mk qk qt qn qa], u38, u28, u33), ⟨l2, (by show L.length - q2.at_ < f; omega), (by simp [i3]), (by show (ops ++ [Tok.mk qk qt qn qa]).length ≤ q2.at_; rw [List.length_append]; simp; omega), hu⟩, Nat.lt_succ_self f, Uc V (Ue (by rw [Ex.cellss_app']; rfl)) (Uc V (Ue (by rw [List.map_append]; rfl)) (Uc V (Ue (by rw [List.map_append, strs_app]; rfl)) by4)), Vw _ (Vy V)⟩
 exact absurd he g12
theorem Exp_c (b : Nat) (L : List Tok) (hL : L.length ≤ 100000) : ∀ n, ExC b L n (expF L n)
 | 0, p, k => Exp_err b L p (fun e => by have := k.2.2.2 e; omega)
 | n + 1, p, k => by
  by_cases he : p.e = 0
  ·exact Exp_ok b L hL n (expF L n) (Exp_c b L hL n) (expF_adv n) p k he _ (by rw [expF, if_neg (by rw [he]; simp)])
  rw [expF, if_pos he]; exact Exp_err b L p he
theorem expP_c (b : Nat) (L : List Tok) (hL : L.length ≤ 100000) : ExC b L 302 (expP L) := Exp_c b L hL 302
theorem bindP_c (b : Nat) (L : List Tok) (hL : L.length ≤ 100000) (p : PS) (k : POk L 302 p) : MCall Tryz.prog 56 [.ptr b 0] (.loc b (psC L p)) (.agg (bindP L p).1.cells) (.loc b (psC L (bindP L p).2)) := bind_c b L hL 302 (expP L) (expP_c b L hL) p k
theorem paramsL_go {L : List Tok} {f : Nat} {p : PS} {acc : List ByteArray} (h : (nxt L p).k = 1) : paramsL L (f + 1) p acc = paramsL L f (takeP L p 1 kE).2 (acc ++ [(takeP L p 1 kE).1.t]) := by rw [paramsL, if_pos h]
theorem paramsL_end {L : List Tok} {f : Nat} {p : PS} {acc : List ByteArray} (h : ¬ (nxt L p).k = 1) : paramsL L f p acc = (acc, p) := by
 cases f with
 | zero => rfl
 | succ f => rw [paramsL, if_neg h]
theorem consL_err {L : List Tok} {f : Nat} {p : PS} {acc : List Cn} (h : p.e ≠ 0) : consL L f p acc = (acc, p) := by
 cases f with
 | zero => rfl
 | succ f => rw [consL, if_pos h]
abbrev zDa : List AV := [.val (.string kE), .val (.slice none 0 0), .val (.slice none 0 0), .val (.slice none 0 0), .val (.int .i64 0)]
theorem data_c (b : Nat) (L : List Tok) (hL : L.length ≤ 100000) (p : PS) (k : POk L 302 p) : MCall Tryz.prog 52 [.ptr b 0] (.loc b (psC L p)) (.agg (dataP L p).1.cells) (.loc b (psC L (dataP L p).2)) := by
 have H1 := take_c b L hL p k.1 2 kE
 have k1 := (Yo (kind := 2) (s := kE) (by decide) k).ok k
 obtain ⟨r, hr⟩ : ∃ r, dataP L p = r := ⟨_, rfl⟩
 rw [hr]
 unfold dataP at hr
 simp only [] at hr
 obtain ⟨⟨⟨tk, tt, tn, ta⟩, p1⟩, e1⟩ : ∃ r, takeP L p 2 kE = r := ⟨_, rfl⟩
 rw [e1] at H1 k1 hr
 simp only [Tok.av] at H1 k1 hr
 have k2 := (paramsL_adv (L.length + 1) p1 [] k1).ok k1
 obtain ⟨⟨ps, p2⟩, e2⟩ : ∃ r, paramsL L (L.length + 1) p1 [] = r := ⟨_, rfl⟩
 rw [e2] at k2 hr
 simp only [] at k2 hr
 have H3 := take_c b L hL p2 k2.1 7 kEq
 have k3 := (Yo (kind := 7) (s := kEq) (by decide) k2).ok k2
 obtain ⟨⟨u3, p3⟩, e3⟩ : ∃ r, takeP L p2 7 kEq = r := ⟨_, rfl⟩
 rw [e3] at H3 k3 hr
 simp only [] at H3 k3 hr
 have k4 := (consL_adv (L.length + 1) p3 [] k3).ok k3
 obtain ⟨⟨cl, p4⟩, e4⟩ : ∃ r, consL L (L.length + 1) p3 [] = r := ⟨_, rfl⟩
 rw [e4] at k4 hr
 simp only [] at k4 hr
 unfold derivP at hr
 refine Zw Tryz.func52 V (by kernel_rfl) V (Uf V) ?_
 refine Yf (Zg (Zc (Za 2 V V V (Zy (cs' := [_, _, _, _, _]) V tz_102 V V ?_)))); intro b2
 refine Vs (Zb (Zg (Zc (Za 8 V V V (Zd V V (Za 9 V V V (Yi (xs := [.tmp 8, .const (.int .i64 2), .const (.string ⟨#[]⟩)]) (i := 1) V V V (H1) by1 ?_)))))))
 refine Za 3 V V V (Zy (cs' := [_, _, _, _]) V Wj V V ?_); intro b3
 refine Zs V V (Zq (cs' := [_, _, _, _]) (i := 0) V Xk V V V V V (Uf V) V (Vs (Zb (Zg (Zc (Za 10 V V V (Zh V Xh V (Za 11 V V V (Zp (i := 0) V Xb V V V (Za 12 V V V (Zh V Wv V (Za 13 V V V (Zp (i := 0) V Xa V V V (Za 14 V V V (Yl (ns := [0, 4]) (xs := [.tmp 11, .tmp 13]) V tz_102 V tfl_102 V V V V (Za 4 V V V (Zy (cs' := [_, _, _, _, _]) V tz_102 V V ?_))))))))))))))))); intro b4
 refine Zs V V (Zq (cs' := [_, _, _, _, _]) (i := 0) V ts_102 V V V V V (Uf V) V (Vs (Zb (Zg (Zz (We 9 1 ?_))))))
 apply Wg [1, 3, 8, 9, 10, 11, 12, 13, 14, 15, 16, 17, 18, 19, 20, 21, 22, 23, 24, 25, 26, 28, 64, 69] (σ := PS × Nat × List ByteArray × Value) (fun zz => match zz with | (q, f, acc, u) => []) (fun zz => match zz with | (q, f, acc, u) => [.loc b4 [.val (.string tt), .own u 1 (strs acc), .val (.slice none 0 0), .val (.slice none 0 0), .val (.int .i64 ta)], .loc b3 (Tok.mk tk tt tn ta).av, .loc b2 zDa, .loc b (psC L q), .own 9 1 u]) (fun zz => match zz with | (q, f, acc, u) => POk L 302 q ∧ L.length - q.at_ < f ∧ acc.length ≤ q.at_ ∧ paramsL L f q acc = (ps, p2)) (fun zz => match zz with | (q, f, acc, u) => f) ((p1, L.length + 1, [], .slice none 0 0))
 ·repeat' (first | exact Ui | apply Ug rfl | apply Uh rfl)
 ·exact ⟨k1, by omega, Nat.zero_le _, e2⟩
 ·exact by4
 ·exact (Vx _ (Ub (Vz _) (Ub (Le.nilOwn 1) (Ua _))) (Vv _ (Vy V)))
 rintro ⟨q, f, acc, u⟩ hI
 try dsimp only [List.cons_append, List.nil_append] at hI ⊢
 obtain ⟨i1, i2, i3, hu⟩ := hI
 have hq1 := i1.1
 have hle : (strs acc).length ≤ 200000 := by rw [Xt]; omega
 have HN := next_c b L q
 have hkn : (nxt L q).k = 1 → q.at_ < L.length := fun e => (Vr (by omega)).2
 have hgo := fun f => paramsL_go (L := L) (f := f) (p := q) (acc := acc)
 have hend := paramsL_end (L := L) (f := f) (p := q) (acc := acc)
 have htk := fun h : (nxt L q).k = 1 => take_k (s := kE) h (by decide) (by decide)
 obtain ⟨⟨qk, qt, qn, qa⟩, hqt⟩ : ∃ t, nxt L q = t := ⟨_, rfl⟩
 rw [hqt] at HN hkn hgo hend htk
 simp only [Tok.av] at HN hkn hgo hend htk
 refine Zg (Zg (Zc (Za 15 V V V (Zd V V (Za 16 V V V (Wr (xs := [.tmp 15]) [3] V V V (HN) by1 ?_))))))
 refine Za 17 V V V (Va (ft := 3) (fo := 0) V (by kernel_rfl) Xa V V ?_)
 refine Za 18 V V V (Yr V V V ?_); intro c18 h18
 refine Vs (Zb ?_)
 rcases Zi h18 with ⟨rfl, g18⟩ | ⟨rfl, g18⟩
 ·refine Zr V (Xc (Xe (Xv (Xd (Zb (Zg ?_))))))
  rw [hend g18] at hu
  simp only [Prod.mk.injEq] at hu
  obtain ⟨rfl, rfl⟩ := hu
  refine Zc (Za 27 V V V (Zd V V (Za 28 V V V (Yi (xs := [.tmp 27, .const (.int .i64 7), .const (.string ⟨#[61]⟩)]) (i := 3) V V V (H3) by1 ?_))))
  refine Vs (Zb (Zg (Zc (Za 5 V V V (Ze V V (Vs (Zb (Zg (Zz (We 140 3 ?_))))))))))
  apply Wg [1, 3, 5, 6, 7, 8, 9, 10, 11, 12, 13, 14, 15, 16, 17, 18, 19, 20, 21, 22, 23, 24, 25, 26, 27, 28, 29, 30, 31, 32, 33, 34, 35, 36, 37, 38, 39, 40, 41, 42, 43, 44, 45, 46, 47, 48, 49, 50, 51, 52, 53, 54, 55, 56, 57, 58, 59, 60, 64, 69] (σ := PS × Nat × List Cn × Value × Bool) (fun zz => match zz with | (q, f, cs, w, mo) => [(5, .val (.bool mo))]) (fun zz => match zz with | (q, f, cs, w, mo) => [.loc b4 [.val (.string tt), .seq 1 (strs acc), .own w 3 (Cn.cellss cs), .val (.slice none 0 0), .val (.int .i64 ta)], .loc b3 (Tok.mk tk tt tn ta).av, .loc b2 zDa, .loc b (psC L q), .own 140 3 w]) (fun zz => match zz with | (q, f, cs, w, mo) => POk L 302 q ∧ L.length - q.at_ < f ∧ (mo = true → cs.length ≤ q.at_) ∧ (if mo = true then consL L f q cs else (cs, q)) = (cl, p4)) (fun zz => match zz with | (q, f, cs, w, mo) => 2 * f + (if mo = true then 1 else 0)) ((p3, L.length + 1, [], .slice none 0 0, true))
  ·repeat' (first | exact Ui | apply Ug rfl | apply Uh rfl)
  ·exact ⟨k3, by omega, fun _ => Nat.zero_le _, e4⟩
  ·exact by4
  ·exact (Vx _ (Ub (Vz _) (Ub (Le.own_seq V) (Ub (Le.nilOwn 3) (Ua _)))) (Vv _ (Vv _ (Vv _ (Vw _ (Vt _))))))
  rintro ⟨q, f, cs, w, mo⟩ hI
  try dsimp only [List.cons_append, List.nil_append] at hI ⊢
  obtain ⟨i1, i2, i3, hu⟩ := hI
  have hq1 := i1.1
  refine Zg (Zg (Xl 36 (mo = true ∧ q.e = 0) ?_ _ _ V ?_))
  ·skip
   refine Za 29 V V V (Zd V V (Za 30 V V V (Zd V V ?_)))
   have h30 : (mo = true ↔ mo = true) := Iff.rfl
   rcases Zi h30 with ⟨rfl, g30⟩ | ⟨rfl, g30⟩
   ·skip
    refine Zk 31 V V V V V (Zk 32 V V V V V (Zk 33 V V V V V (Zk 34 V V V V V (Zk 35 V V V V V (Za 36 V V V (Zn V V V (Vs (Ud V ?_ by5 by3))))))))
    simp_all; done
   skip
   refine Zl 31 V V V V V (Zd V V (Zl 32 V V V V V (Yk V V (Zl 33 V V V V V (Zh V Vo V (Zl 34 V V V V V (Zp (i := 3) V Xa V V V (Zl 35 V V V V V (Yr V V V ?_))))))))); intro c35 h35
   refine Za 36 V V V (Zn V V V (Vs (Ud V ?_ by5 by3)))
   simp_all; done
  intro c36 h36
  refine Zb ?_
  rcases Zi h36 with ⟨rfl, g36⟩ | ⟨rfl, g36⟩
  ·refine Zr V (Xc (Xe (Xv (Xd (Zb (Zg (Zg ?_)))))))
   have hu2 : (cs, q) = (cl, p4) := by
    cases mo with
    | false => exact hu
    | true => rw [if_pos rfl, consL_err (fun e => g36 ⟨rfl, e⟩)] at hu; exact hu
   simp only [Prod.mk.injEq] at hu2
   obtain ⟨rfl, rfl⟩ := hu2
   refine Zc (Za 61 V V V (Zd V V (Za 62 V V V (op_mayc (xs := [.tmp 61, .const (.string ⟨#[100, 101, 114, 105, 118, 105, 110, 103]⟩)]) (i := 3) V V V (may_c b L hL q kDeriv) by1 ?_ ?_))))
   ·intro g62
    refine Vs (Zb (Zt V (Zg ?_)))
    have kA := (Xo k4 g62).ok k4
    have HD1 := take_c b L hL (stepP q) kA.1 7 kLP
    have kB := (Yo (kind := 7) (s := kLP) (by decide) kA).ok kA
    have HD2 := uppers_c b L hL 302 _ kB
    have kC := (uppers_adv kB).ok kB
    have HD3 := take_c b L hL _ kC.1 7 kRP
    rw [if_pos g62] at hr
    refine Zc (Za 63 V V V (Zd V V (Za 64 V V V (Yi (xs := [.tmp 63, .const (.int .i64 7), .const (.string ⟨#[40]⟩)]) (i := 3) V V V (HD1) by1 ?_))))
    refine Vs (Zb (Zg (Zc (Za 65 V V V (Zd V V (Za 66 V V V (Yi (xs := [.tmp 65]) (i := 3) V V V (HD2) by1 ?_)))))))
    refine Za 67 V V V (Zh V tf_102_3 V (Zs V V (Zq (cs' := [_, _, _, _, _]) (i := 0) V ts_68 V V V V V (Uf V) V (Vs (Zb (Zc (Za 68 V V V (Zd V V (Za 69 V V V (Yi (xs := [.tmp 68, .const (.int .i64 7), .const (.string ⟨#[41]⟩)]) (i := 3) V V V (HD3) by1 ?_))))))))))
    refine Vs (Zb (Zg (Zc (Za 70 V V V (Zx (cs' := [_, _, _, _, _]) (i := 0) V ta_102 V V V V (Zs V V (Zq (cs' := [_, _, _, _, _]) (i := 2) V ts_102 V V V V V (Uf V) V (Vs (Zb (Ya ?_))))))))))
    first
    | (subst hr; exact Yn (i := 2) rfl rfl rfl ta_102 rfl (Le.agg (Ub (Vz _) (Ub (Vz _) (Ub (Le.own_seq rfl) (Ub (Vz _) (Ua _)))))) (Vw _ (Vw _ (Vw _ (Vv _ (Vu _))))) ⟨rfl, rfl⟩)
    | (rw [if_neg g62] at hr; subst hr; exact Yn (i := 2) rfl rfl rfl ta_102 rfl (Le.agg (Ub (Vz _) (Ub (Vz _) (Ub (Le.own_seq rfl) (Ub (Le.nil _) (Ua _)))))) (Vw _ (Vw _ (Vw _ (Vv _ (Vu _))))) ⟨rfl, rfl⟩)
   intro g62
   refine Vs (Zb (Zr V (Zv (Zb (Zg (Zc (Za 70 V V V (Zx (cs' := [_, _, _, _, _]) (i := 0) V ta_102 V V V V (Zs V V (Zq (cs' := [_, _, _, _, _]) (i := 2) V ts_102 V V V V V (Uf V) V (Vs (Zb (Ya ?_)))))))))))))
   first
   | (subst hr; exact Yn (i := 2) rfl rfl rfl ta_102 rfl (Le.agg (Ub (Vz _) (Ub (Vz _) (Ub (Le.own_seq rfl) (Ub (Vz _) (Ua _)))))) (Vw _ (Vw _ (Vw _ (Vv _ (Vu _))))) ⟨rfl, rfl⟩)
   | (rw [if_neg g62] at hr; subst hr; exact Yn (i := 2) rfl rfl rfl ta_102 rfl (Le.agg (Ub (Vz _) (Ub (Vz _) (Ub (Le.own_seq rfl) (Ub (Le.nil _) (Ua _)))))) (Vw _ (Vw _ (Vw _ (Vv _ (Vu _))))) ⟨rfl, rfl⟩)
  refine Zt V (Zv (Zb (Zz (Zg ?_))))
  obtain ⟨rfl, hq0⟩ := g36
  have i3 := i3 rfl
  have hle : (Cn.cellss cs).length ≤ 200000 := by rw [Cn.cellss_len]; omega
  rw [if_pos rfl] at hu
  obtain ⟨f, rfl⟩ : ∃ f', f = f' + 1 := ⟨f - 1, by omega⟩
  rw [consL, if_neg (by rw [hq0]; simp)] at hu
  have HP := take_c b L hL q i1.1 2 kE
  have l1 := (Yo (kind := 2) (s := kE) (by decide) i1).ok i1
  have b1 := (Yo (L := L) (kind := 2) (s := kE) (by decide) i1).1
  obtain ⟨z, hz⟩ : ∃ z, conP L q = z := ⟨_, rfl⟩
  rw [hz] at hu
  unfold conP at hz
  simp only [] at hz
  obtain ⟨⟨⟨ck, ct, cn, ca⟩, q1⟩, f1⟩ : ∃ r, takeP L q 2 kE = r := ⟨_, rfl⟩
  rw [f1] at HP hz l1 b1
  simp only [Tok.av] at HP hz l1 b1
  have l2 := (typesL_adv typeP_adv' (L.length + 1) q1 [] l1).ok l1
  have b2' := (typesL_adv typeP_adv' (L.length + 1) q1 [] l1).1
  obtain ⟨⟨tys, q2⟩, f2⟩ : ∃ r, typesL L (typeP L) (L.length + 1) q1 [] = r := ⟨_, rfl⟩
  rw [f2] at l2 b2' hz
  simp only [] at l2 b2' hz
  subst hz
  simp only [] at hu
  have l2a := l2.1
  refine Zc (Za 37 V V V (Zd V V (Za 38 V V V (Yi (xs := [.tmp 37, .const (.int .i64 2), .const (.string ⟨#[]⟩)]) (i := 3) V V V (HP) by1 ?_))))
  refine Za 6 V V V (Zy (cs' := [_, _, _, _]) V Wj V V ?_); intro b6
  refine Zs V V (Zq (cs' := [_, _, _, _]) (i := 0) V Xk V V V V V (Uf V) V (Vs (Zb (Zg (Zc (Za 39 V V V (Zh V Xh V (Za 40 V V V (Zp (i := 0) V Xb V V V (Za 41 V V V (Zh V Wv V (Za 42 V V V (Zp (i := 0) V Xa V V V (Za 43 V V V (Yl (ns := [0, 2]) (xs := [.tmp 40, .tmp 42]) V tz_140 V tfl_140 V V V V (Za 7 V V V (Zy (cs' := [_, _, _]) V tz_140 V V ?_))))))))))))))))); intro b7
  refine Zs V V (Zq (cs' := [_, _, _]) (i := 0) V ts_140 V V V V V (Uf V) V (Vs (Zb (Zg (Zz (We 25 4 ?_))))))
  apply Wg [1, 3, 8, 9, 10, 11, 12, 13, 14, 15, 16, 17, 18, 19, 20, 21, 22, 23, 24, 25, 26, 27, 28, 44, 45, 46, 47, 48, 49, 50, 51, 52, 64, 69] (σ := PS × Nat × List Ty × Value) (fun zz => match zz with | (s, g, ac, v) => []) (fun zz => match zz with | (s, g, ac, v) => [.loc b7 [.val (.string ct), .own v 4 (Ty.cellss ac), .val (.int .i64 ca)], .loc b6 (Tok.mk ck ct cn ca).av, .loc b4 [.val (.string tt), .seq 1 (strs acc), .own w 3 (Cn.cellss cs), .val (.slice none 0 0), .val (.int .i64 ta)], .loc b3 (Tok.mk tk tt tn ta).av, .loc b2 zDa, .loc b (psC L s), .own 140 3 w, .own 25 4 v]) (fun zz => match zz with | (s, g, ac, v) => POk L 302 s ∧ L.length - s.at_ < g ∧ ac.length ≤ s.at_ ∧ typesL L (typeP L) g s ac = (tys, q2)) (fun zz => match zz with | (s, g, ac, v) => g) ((q1, L.length + 1, [], .slice none 0 0))
  ·repeat' (first | exact Ui | apply Ug rfl | apply Uh rfl)
  ·exact ⟨l1, by omega, Nat.zero_le _, f2⟩
  ·exact by4
  ·exact (Vx _ (Ub (Vz _) (Ub (Le.nilOwn 4) (Ua _))) (Vv _ (Vy V)))
  rintro ⟨s, g, ac, v⟩ hI
  try dsimp only [List.cons_append, List.nil_append] at hI ⊢
  obtain ⟨j1, j2, j3, hv⟩ := hI
  have hs1 := j1.1
  have hlt : (Ty.cellss ac).length ≤ 200000 := by rw [Ty.cellss_len]; omega
  refine Zg (Zg (Zc (Za 44 V V V (Zd V V (Za 45 V V V (op_callkb (xs := [.tmp 44, .const (.int .i64 0)]) [5] V V V (starts_c b L s 0) by1 ?_)))))); intro c45 h45
  refine Vs (Zb ?_)
  rcases Zi h45 with ⟨rfl, g45⟩ | ⟨rfl, g45⟩
  ·refine Zr V (Xc (Xe (Xv (Xd (Zb (Zg ?_))))))
   rw [typesL_end g45] at hv
   simp only [Prod.mk.injEq] at hv
   obtain ⟨rfl, rfl⟩ := hv
   refine c_le (SLe.refl _) (Vx _ (Ub (Vz _) (Ub (Le.own_seq V) (Ua _))) (Vt _)) (Zc (Za 53 V V V (Zh V tf_102_2 V (Za 54 V V V (Zp (i := 2) V ta_100 V V V (Za 55 V V V (Zx (cs' := [_, _, _]) (i := 0) V ta_140 V V V V (Za 56 V V V (Ye (xs := [.tmp 55]) el_100 V V V V V V (Uf V) (Za 57 V V V (Xj (i := 6) el_100 V V V V (.seq _ _) by6 ?_)))))))))))
   intro u57
   refine Za 58 V V V (Zh V tf_102_2 V (Zs V V (Zq (cs' := [_, _, _, _, _]) (i := 2) V ts_100 V V V V V (Uf V) V (Vs (Zb (Zc (Za 59 V V V (Zd V V (Za 60 V V V (op_mayc (xs := [.tmp 59, .const (.string ⟨#[124]⟩)]) (i := 5) V V V (may_c b L hL s kBar) by1 ?_ ?_))))))))))
   ·intro g60
    refine Za 5 V V V (Ze V V (Vs (Yt (Yz ?_))))
    first
    | (rw [if_pos g60] at hu; have l4 := (Xo l2 g60).ok l2; have l5 := (is_lt g60).2; exact ⟨(stepP s, f, cs ++ [Cn.mk ct ac ca], u57, true), ⟨l4, (by show L.length - (s.at_ + 1) < f; omega), (fun _ => by show (cs ++ _).length ≤ s.at_ + 1; rw [List.length_append]; simp; omega), hu⟩, (by show 2 * f + 1 < 2 * (f + 1) + 1; omega), Uc rfl (Vz _) by4, Vw _ (Vw _ (Vx _ (Ub (Vz _) (Ub (Vz _) (Ub (Ue (by simp [Cn.cellss]; rfl)) (Ua _)))) (Vv _ (Vv _ (Vv _ (Vv _ (Vw _ (Vt _))))))))⟩)
    | (rw [if_neg g60] at hu; exact ⟨(s, f + 1, cs ++ [Cn.mk ct ac ca], u57, false), ⟨l2, (by show L.length - s.at_ < f + 1; omega), (fun h => by cases h), hu⟩, (by show 2 * (f + 1) + 0 < 2 * (f + 1) + 1; omega), Uc rfl (Vz _) by4, Vw _ (Vw _ (Vx _ (Ub (Vz _) (Ub (Vz _) (Ub (Ue (by simp [Cn.cellss]; rfl)) (Ua _)))) (Vv _ (Vv _ (Vv _ (Vv _ (Vw _ (Vt _))))))))⟩)
   intro g60
   refine Za 5 V V V (Ze V V (Vs (Yt (Yz ?_))))
   first
   | (rw [if_pos g60] at hu; have l4 := (Xo l2 g60).ok l2; have l5 := (is_lt g60).2; exact ⟨(stepP s, f, cs ++ [Cn.mk ct ac ca], u57, true), ⟨l4, (by show L.length - (s.at_ + 1) < f; omega), (fun _ => by show (cs ++ _).length ≤ s.at_ + 1; rw [List.length_append]; simp; omega), hu⟩, (by show 2 * f + 1 < 2 * (f + 1) + 1; omega), Uc rfl (Vz _) by4, Vw _ (Vw _ (Vx _ (Ub (Vz _) (Ub (Vz _) (Ub (Ue (by simp [Cn.cellss]; rfl)) (Ua _)))) (Vv _ (Vv _ (Vv _ (Vv _ (Vw _ (Vt _))))))))⟩)
   | (rw [if_neg g60] at hu; exact ⟨(s, f + 1, cs ++ [Cn.mk ct ac ca], u57, false), ⟨l2, (by show L.length - s.at_ < f + 1; omega), (fun h => by cases h), hu⟩, (by show 2 * (f + 1) + 0 < 2 * (f + 1) + 1; omega), Uc rfl (Vz _) by4, Vw _ (Vw _ (Vx _ (Ub (Vz _) (Ub (Vz _) (Ub (Ue (by simp [Cn.cellss]; rfl)) (Ua _)))) (Vv _ (Vv _ (Vv _ (Vv _ (Vw _ (Vt _))))))))⟩)
  refine Zt V (Zv (Zb (Zz ?_)))
  obtain ⟨g, rfl⟩ : ∃ f', g = f' + 1 := ⟨g - 1, by omega⟩
  rw [typesL_go g45] at hv
  have d1 := atype_lt typeP_adv' j1 g45
  have d2 := atype_adv typeP_adv' j1
  have m2 := d2.ok j1
  have HA2 := atype_c b L hL 302 (typeP L) (Type_c b L hL 302) typeP_adv' s j1
  obtain ⟨⟨⟨yk, ys, yn, yl⟩, s2⟩, e2'⟩ : ∃ r, atypeG L (typeP L) s = r := ⟨_, rfl⟩
  rw [e2'] at HA2 hv m2 d1
  simp only [Ty.cells] at HA2
  simp only [] at d1 m2 hv
  have m3 := m2.1
  refine Xu [0, 1, 2, 3, 4, 5, 6, 7] [3, 5, 7] [[], [0], [], [2], [2, 3], [0, 1, 2, 3, 4], [0, 1, 2, 3, 4, 5], [0, 1, 2, 3, 4, 5, 6]] Wo V (Yb 46 (none) (i := 0) V V V V V (Zh V tf_140_1 V ⟨V, V⟩) ?_)
  refine Yb 47 (some 0) (i := 1) V V V V V (Zp (i := 0) V Vg V V V ⟨V, V⟩) ?_
  refine Yb 48 (none) (i := 2) V V V V V (Zd V V ⟨V, V⟩) ?_
  refine Xn 5 (i := 3) V V V V V (Yi (xs := [.tmp 48]) (i := 0) V V V (HA2) by1 ⟨_, V, ?_⟩)
  refine Yb 50 (none) (i := 4) V V V V V (Ye (xs := [.tmp 49]) el_23 V V V V V V (Uf V) ⟨V, V⟩) ?_
  refine Xn 7 (i := 5) V V V V V (Xj (i := 0) el_23 V V V V (.seq _ _) by6 (fun u51 => ⟨_, V, ?_⟩))
  refine Yb 52 (none) (i := 6) V V V V V (Zh V tf_140_1 V ⟨V, V⟩) ?_
  refine Xn 0 (i := 7) V V V V V (Zq (cs' := [_, _, _]) (i := 0) V ts_23 V V V V V (Uf V) V ⟨_, V, ?_⟩)
  show AGo _ _ _ _ _ _ _
  refine Yt (Yz ?_)
  refine ⟨(s2, g, ac ++ [Ty.mk yk ys yn yl], u51), ⟨m2, (by show L.length - s2.at_ < g; omega), (by show (ac ++ [Ty.mk yk ys yn yl]).length ≤ s2.at_; rw [List.length_append]; simp; omega), hv⟩, Nat.lt_succ_self g, by4, (Vx _ (Ub (Vz _) (Ub (Ue (by rw [Ty.cellss_app]; rfl)) (Ua _))) (Vv _ (Vv _ (Vv _ (Vv _ (Vy V))))))⟩
 refine Zt V (Zv (Zb (Zz ?_)))
 obtain ⟨f, rfl⟩ : ∃ f', f = f' + 1 := ⟨f - 1, by omega⟩
 have hlt := hkn g18
 rw [hgo f g18, htk g18] at hu
 have HT := take_c b L hL q hq1 1 kE
 rw [htk g18] at HT
 simp only [Tok.av] at HT
 have l1 := (Vh i1 hlt).ok i1
 refine Xu [0, 1, 2, 3, 4, 5, 6, 7, 8] [3, 6, 8] [[], [0], [], [2], [2, 3], [2, 3, 4], [0, 1, 2, 3, 4, 5], [0, 1, 2, 3, 4, 5, 6], [0, 1, 2, 3, 4, 5, 6, 7]] Wo V (Yb 19 (none) (i := 0) V V V V V (Zh V tf_102_1 V ⟨V, V⟩) ?_)
 refine Yb 20 (some 0) (i := 1) V V V V V (Zp (i := 0) V ta_68 V V V ⟨V, V⟩) ?_
 refine Yb 21 (none) (i := 2) V V V V V (Zd V V ⟨V, V⟩) ?_
 refine Xn 3 (i := 3) V V V V V (Yi (xs := [.tmp 21, .const (.int .i64 1), .const (.string ⟨#[]⟩)]) (i := 0) V V V (HT) by1 ⟨_, V, ?_⟩)
 refine Yb 23 (none) (i := 4) V V V V V (Va (ft := 9) (fo := 1) V (by kernel_rfl) Xb V V ⟨V, V⟩) ?_
 refine Yb 24 (none) (i := 5) V V V V V (Ye (xs := [.tmp 23]) el_68 V V V V V V (Uf V) ⟨V, V⟩) ?_
 refine Xn 4 (i := 6) V V V V V (Xj (i := 0) el_68 V V V V (.seq _ _) by6 (fun u25 => ⟨_, V, ?_⟩))
 refine Yb 26 (none) (i := 7) V V V V V (Zh V tf_102_1 V ⟨V, V⟩) ?_
 refine Xn 0 (i := 8) V V V V V (Zq (cs' := [_, _, _, _, _]) (i := 0) V ts_68 V V V V V (Uf V) V ⟨_, V, ?_⟩)
 show AGo _ _ _ _ _ _ _
 refine Yt (Yz ?_)
 refine ⟨(stepP q, f, acc ++ [qt], u25), ⟨l1, (by show L.length - (q.at_ + 1) < f; omega), (by show (acc ++ [qt]).length ≤ q.at_ + 1; rw [List.length_append]; simp; omega), hu⟩, Nat.lt_succ_self f, by4, (Vx _ (Ub (Vz _) (Ub (Ue (by rw [strs_app]; rfl)) (Ua _))) (Vv _ (Vv _ (Vy V))))⟩
theorem clsL_err {L : List Tok} {f : Nat} {p : PS} {ms : List Me} {ds : List Bi} (h : p.e ≠ 0) : clsL L f p ms ds = ((ms, ds), p) := by
 cases f with
 | zero => rfl
 | succ f => rw [clsL, if_pos h]
theorem clsL_end {L : List Tok} {f : Nat} {p : PS} {ms : List Me} {ds : List Bi} (h : p.e = 0) (h2 : isP L p kEnd = true) : clsL L (f + 1) p ms ds = ((ms, ds), stepP p) := by rw [clsL, if_neg (by rw [h]; simp), if_pos h2]
theorem Me.cellss_app' (a b : List Me) : Me.cellss (a ++ b) = Me.cellss a ++ Me.cellss b := by simp [Me.cellss]
abbrev zCl : List AV := [.val (.string kE), .val (.string kE), .val (.slice none 0 0), .val (.slice none 0 0), .val (.slice none 0 0), .val (.int .i64 0)]
theorem class_b (b : Nat) (L : List Tok) (hL : L.length ≤ 100000) (p : PS) (k : POk L 302 p) (c17 : Bool) (h3 : isP L (takeP L (takeP L p 2 kE).2 1 kE).2 kFrom = c17) : MCall Tryz.prog 53 [.ptr b 0] (.loc b (psC L p)) (.agg (classP L p).1.cells) (.loc b (psC L (classP L p).2)) := by
 have H1 := take_c b L hL p k.1 2 kE
 have k1 := (Yo (kind := 2) (s := kE) (by decide) k).ok k
 obtain ⟨r, hr⟩ : ∃ r, classP L p = r := ⟨_, rfl⟩
 rw [hr]
 unfold classP at hr
 simp only [] at hr
 obtain ⟨⟨⟨tk, tt, tn, ta⟩, p1⟩, e1⟩ : ∃ r, takeP L p 2 kE = r := ⟨_, rfl⟩
 rw [e1] at H1 k1 hr h3
 simp only [Tok.av] at H1 k1 hr h3
 have H2 := take_c b L hL p1 k1.1 1 kE
 have k2 := (Yo (kind := 1) (s := kE) (by decide) k1).ok k1
 obtain ⟨⟨⟨vk, vt, vn, va⟩, p2⟩, e2⟩ : ∃ r, takeP L p1 1 kE = r := ⟨_, rfl⟩
 rw [e2] at H2 k2 hr h3
 simp only [Tok.av] at H2 k2 hr h3
 have HM := may_eq (b := b) hL h3
 have k3 := (supers_adv k2).ok k2
 obtain ⟨⟨sl, p3⟩, e3⟩ : ∃ r, supersP L p2 = r := ⟨_, rfl⟩
 rw [e3] at k3 hr
 simp only [] at k3 hr
 have e3 : (if c17 = true then uppersP L (stepP p2) else ([], p2)) = (sl, p3) := by rw [← e3, supersP, h3]
 have H4 := take_c b L hL p3 k3.1 6 kWhere
 have k4 := (Yo (kind := 6) (s := kWhere) (by decide) k3).ok k3
 obtain ⟨⟨u4, p4⟩, e4⟩ : ∃ r, takeP L p3 6 kWhere = r := ⟨_, rfl⟩
 rw [e4] at H4 k4 hr
 simp only [] at H4 k4 hr
 obtain ⟨⟨⟨ml, dl⟩, p5⟩, e5⟩ : ∃ r, clsL L (L.length + 1) p4 [] [] = r := ⟨_, rfl⟩
 rw [e5] at hr
 simp only [] at hr
 refine Zw Tryz.func53 V (by kernel_rfl) V (Uf V) ?_
 refine Yf (Zg (Zc (Za 2 V V V (Zy (cs' := [_, _, _, _, _, _]) V tz_77 V V ?_)))); intro b2
 refine Vs (Zb (Zg (Zc (Za 6 V V V (Zd V V (Za 7 V V V (Yi (xs := [.tmp 6, .const (.int .i64 2), .const (.string ⟨#[]⟩)]) (i := 1) V V V (H1) by1 ?_)))))))
 refine Za 3 V V V (Zy (cs' := [_, _, _, _]) V Wj V V ?_); intro b3
 refine Zs V V (Zq (cs' := [_, _, _, _]) (i := 0) V Xk V V V V V (Uf V) V (Vs (Zb (Zg (c_drawnEF [0, 1, 2, 5, 6, 3, 4, 7, 8, 9] [3, 8, 9] [[], [0], [], [2], [2, 3], [], [5], [0, 1, 2, 3, 4, 5, 6], [], [0, 1, 2, 3, 4, 5, 6, 7, 8]] 8 (cs0 := [_, _, _, _, _, _]) Wo V V V V tz_77 V V (EOpsF.d 8 (none) (i := 0) V V V V V V (Zh V Xh V ⟨V, V⟩) ?_))))))
 refine EOpsF.d 9 (some 0) (i := 1) V V V V V V (Zp (i := 0) V Xb V V V ⟨V, V⟩) ?_
 refine EOpsF.d 10 (none) (i := 2) V V V V V V (Zd V V ⟨V, V⟩) ?_
 refine EOpsF.d 13 (none) (i := 5) V V V V V V (Zh V Wv V ⟨V, V⟩) ?_
 refine EOpsF.d 14 (some 0) (i := 6) V V V V V V (Zp (i := 0) V Xa V V V ⟨V, V⟩) ?_
 refine EOpsF.w 2 (i := 3) V V V V V V (Yi (xs := [.tmp 10, .const (.int .i64 1), .const (.string ⟨#[]⟩)]) (i := 0) V V V (H2) by1 ⟨_, V, ?_⟩)
 refine EOpsF.d 12 (none) (i := 4) V V V V V V (Va (ft := 9) (fo := 1) V (by kernel_rfl) Xb V V ⟨V, V⟩) ?_
 refine EOpsF.d 15 (none) (i := 7) V V V V V V (Yl (ns := [0, 1, 5]) (xs := [.tmp 9, .tmp 12, .tmp 14]) V tz_77 V tfl_77 V V V V ⟨V, V⟩) ?_
 refine EOpsF.free (i := 8) V V V ?_; intro b4
 refine EOpsF.w 3 (i := 9) V V V V V V (Zq (cs' := [_, _, _, _, _, _]) (i := 0) V ts_77 V V V V V (Uf V) V ⟨_, V, ?_⟩)
 show AGo _ _ _ _ _ _ _
 refine Zb (Zg (Zg (Zc (Za 16 V V V (Zd V V (Za 17 V V V (Yi (xs := [.tmp 16, .const (.string ⟨#[102, 114, 111, 109]⟩)]) (i := 2) V V V (HM) by1 ?_)))))))
 refine Vs (Zb ?_)
 apply c_joink [1, 3, 6, 7, 8, 9, 10, 11, 12, 13, 14, 15, 16, 17, 18, 19, 20, 22, 45, 59] (σ := Unit) (fun zz => match zz with | z => []) (fun zz => match zz with | z => [.loc b3 (Tok.mk tk tt tn ta).av, .loc b2 zCl, .loc b (psC L p3), .loc b4 [.val (.string tt), .val (.string vt), .seq 1 (strs sl), .val (.slice none 0 0), .val (.slice none 0 0), .val (.int .i64 ta)]]) (fun zz => match zz with | z => True)
 ·repeat' (first | exact Ui | apply Ug rfl | apply Uh rfl)
 ·skip
  rcases c17 with _ | _
  ·refine Zr V (Zv (Yz ?_))
   first
   | exact ⟨(), trivial, by4, Vy rfl⟩
   | (rw [if_neg (by decide)] at e3; cases e3; exact ⟨(), trivial, by4, (Vv _ (Vv _ (Vv _ (Vx _ by0 (MLe.nil)))))⟩)
  refine Zt V ?_
  rw [if_pos rfl] at e3
  have kA := (Xo k2 h3).ok k2
  have HU := uppers_c b L hL 302 (stepP p2) kA
  rw [e3] at HU
  refine Zc (Za 18 V V V (Zd V V (Za 19 V V V (Yi (xs := [.tmp 18]) (i := 2) V V V (HU) by1 ?_))))
  refine Za 20 V V V (Zh V tf_77_2 V (Zs V V (Zq (cs' := [_, _, _, _, _, _]) (i := 3) V ts_68 V V V V V (Uf V) V (Vs (Yz ?_)))))
  first
  | exact ⟨(), trivial, by4, Vy rfl⟩
  | (rw [if_neg (by decide)] at e3; cases e3; exact ⟨(), trivial, by4, (Vv _ (Vv _ (Vv _ (Vx _ by0 (MLe.nil)))))⟩)
 rintro z hI
 try dsimp only [List.cons_append, List.nil_append] at hI ⊢
 refine Zb (Zg (Zc (Za 21 V V V (Zd V V (Za 22 V V V (Yi (xs := [.tmp 21, .const (.int .i64 6), .const (.string ⟨#[119, 104, 101, 114, 101]⟩)]) (i := 2) V V V (H4) by1 ?_))))))
 refine Vs (Zb (Zg (Zz (We 145 6 (We 112 13 ?_)))))
 apply Wg [1, 3, 5, 6, 7, 8, 9, 10, 11, 12, 13, 14, 15, 16, 17, 18, 19, 20, 21, 22, 23, 24, 25, 26, 27, 28, 29, 30, 31, 32, 33, 34, 35, 36, 37, 38, 39, 40, 41, 42, 43, 44, 45, 46, 47, 48, 49, 50, 51, 52, 53, 54, 55, 56, 57, 58, 59] (σ := PS × Nat × List Me × List Bi × Value × Value) (fun zz => match zz with | (q, f, ms, ds, u, v) => []) (fun zz => match zz with | (q, f, ms, ds, u, v) => [.loc b3 (Tok.mk tk tt tn ta).av, .loc b2 zCl, .loc b (psC L q), .loc b4 [.val (.string tt), .val (.string vt), .seq 1 (strs sl), .own u 6 (Me.cellss ms), .own v 13 (Bi.cellss ds), .val (.int .i64 ta)], .own 145 6 u, .own 112 13 v]) (fun zz => match zz with | (q, f, ms, ds, u, v) => POk L 302 q ∧ (q.e = 0 → L.length - q.at_ < f ∧ ms.length + ds.length ≤ q.at_) ∧ clsL L f q ms ds = ((ml, dl), p5)) (fun zz => match zz with | (q, f, ms, ds, u, v) => f) ((p4, L.length + 1, [], [], .slice none 0 0, .slice none 0 0))
 ·repeat' (first | exact Ui | apply Ug rfl | apply Uh rfl)
 ·exact ⟨k4, fun _ => ⟨by omega, Nat.zero_le _⟩, e5⟩
 ·exact by4
 ·exact (Vv _ (Vv _ (Vv _ (Vx _ (Ub (Vz _) (Ub (Vz _) (Ub (Vz _) (Ub (Le.nilOwn 6) (Ub (Le.nilOwn 13) (Ua _)))))) (Vt _)))))
 rintro ⟨q, f, ms, ds, u, v⟩ hI
 try dsimp only [List.cons_append, List.nil_append] at hI ⊢
 obtain ⟨i1, i2, hu⟩ := hI
 have hq1 := i1.1
 refine Zg (Zg (Zc (Za 23 V V V (Zd V V (Za 24 V V V (Yk V V (Za 25 V V V (Zh V Vo V (Za 26 V V V (Zp (i := 2) V Xa V V V (Za 27 V V V (Yr V V V ?_)))))))))))); intro c27 h27
 refine Za 28 V V V (Zd V V ?_)
 rcases Zi h27 with ⟨rfl, g27⟩ | ⟨rfl, g27⟩
 ·skip
  refine Zk 29 V V V V V (Zk 30 V V V V V (Zk 31 V V V V V (Za 32 V V V (Zn V V V (Vs (Zb (Zr V (Xc (Xe (Xv (Xd (Zb (Zg (Zc (Za 60 V V V (Zx (cs' := [_, _, _, _, _, _]) (i := 3) V ta_77 V V V V (Zs V V (Zq (cs' := [_, _, _, _, _, _]) (i := 1) V ts_77 V V V V V (Uf V) V (Vs (Zb (Ya ?_)))))))))))))))))))))
  first
  | (rw [clsL_err g27] at hu; cases hu; subst hr; exact Yn (i := 1) rfl rfl rfl ta_77 rfl by0 (Vw _ (Vw _ (Vv _ (Vu _)))) ⟨rfl, rfl⟩)
  | (obtain ⟨f, rfl⟩ : ∃ f', f = f' + 1 := ⟨f - 1, by have := (i2 g27).1; omega⟩; rw [clsL_end g27 g30] at hu; cases hu; subst hr; exact Yn (i := 1) rfl rfl rfl ta_77 rfl by0 (Vw _ (Vw _ (Vv _ (Vu _)))) ⟨rfl, rfl⟩)
 skip
 refine Zl 29 V V V V V (Zd V V (Zl 30 V V V V V (op_mayc (xs := [.tmp 29, .const (.string ⟨#[101, 110, 100]⟩)]) (i := 2) V V V (may_c b L hL q kEnd) by1 ?_ ?_)))
 ·intro g30
  refine Zl 31 V V V V V (Xr V V ?_); intro c31 h31
  try replace h31 := nott h31 h30
  obtain rfl : c31 = false := by
   cases c31 with
   | false => rfl
   | true => exact absurd (h31.1 rfl) (by decide)
  refine Za 32 V V V (Zn V V V (Vs (Zb (Zr V (Xc (Xe (Xv (Xd (Zb (Zg (Zc (Za 60 V V V (Zx (cs' := [_, _, _, _, _, _]) (i := 3) V ta_77 V V V V (Zs V V (Zq (cs' := [_, _, _, _, _, _]) (i := 1) V ts_77 V V V V V (Uf V) V (Vs (Zb (Ya ?_))))))))))))))))))
  first
  | (rw [clsL_err g27] at hu; cases hu; subst hr; exact Yn (i := 1) rfl rfl rfl ta_77 rfl by0 (Vw _ (Vw _ (Vv _ (Vu _)))) ⟨rfl, rfl⟩)
  | (obtain ⟨f, rfl⟩ : ∃ f', f = f' + 1 := ⟨f - 1, by have := (i2 g27).1; omega⟩; rw [clsL_end g27 g30] at hu; cases hu; subst hr; exact Yn (i := 1) rfl rfl rfl ta_77 rfl by0 (Vw _ (Vw _ (Vv _ (Vu _)))) ⟨rfl, rfl⟩)
 intro g30
 refine Zl 31 V V V V V (Xr V V ?_); intro c31 h31
 try replace h31 := nott h31 h30
 obtain rfl : c31 = true := h31.2 rfl
 refine Za 32 V V V (Zn V V V (Vs (Zb (Zt V (Zv (Zb (Zz (Zg (Zg ?_)))))))))
 obtain ⟨i3, i4⟩ := i2 g27
 have hl1 : (Me.cellss ms).length ≤ 200000 := by rw [Me.cellss_len]; omega
 have hl2 : (Bi.cellss ds).length ≤ 200000 := by rw [Bi.cellss_len]; omega
 obtain ⟨f, rfl⟩ : ∃ f', f = f' + 1 := ⟨f - 1, by omega⟩
 rw [clsL, if_neg (by rw [g27]; simp), if_neg g30] at hu
 refine Zc (Za 33 V V V (Zd V V (Za 34 V V V (op_mayc (xs := [.tmp 33, .const (.string ⟨#[100, 101, 102]⟩)]) (i := 2) V V V (may_c b L hL q kDef) by1 ?_ ?_))))
 ·intro g34
  refine Vs (Zb (Zt V ?_))
  rw [if_pos g34] at hu
  have l1 := (Xo i1 g34).ok i1
  have l2 := (bindP_adv l1).ok l1
  have b1 : (stepP q).at_ ≤ _ := (bindP_adv l1).1
  have b1' : (stepP q).at_ = q.at_ + 1 := rfl
  have HB := bindP_c b L hL (stepP q) l1
  obtain ⟨⟨⟨bn, ⟨xk, xs, xn, ⟨xtk, xts, xtn, xtl⟩, xks, xal, xbs, xp⟩, bp⟩, q2⟩, f2⟩ : ∃ r, bindP L (stepP q) = r := ⟨_, rfl⟩
  rw [f2] at HB l2 b1 hu
  simp only [Bi.cells, Ex.cells, Ty.cells, List.cons_append, List.nil_append] at HB l2 b1 hu
  have b2' : q.at_ ≤ q2.at_ := by omega
  have HS := take_c b L hL q2 l2.1 7 kSemi
  have hpr := take_prog (L := L) (p := q2) (kind := 7) (s := kSemi) (by decide)
  have l5 := (Yo (kind := 7) (s := kSemi) (by decide) l2).ok l2
  obtain ⟨⟨u6, q5⟩, f5⟩ : ∃ r, takeP L q2 7 kSemi = r := ⟨_, rfl⟩
  rw [f5] at HS hpr l5 hu
  simp only [Prod.mk.injEq] at HS hpr l5 hu
  refine Xu [0, 1, 2, 3, 4, 5, 6, 7] [3, 5, 7] [[], [0], [], [2], [2, 3], [0, 1, 2, 3, 4], [0, 1, 2, 3, 4, 5], [0, 1, 2, 3, 4, 5, 6]] Wo V (Yb 35 (none) (i := 0) V V V V V (Zh V tf_77_4 V ⟨V, V⟩) ?_)
  refine Yb 36 (some 3) (i := 1) V V V V V (Zp (i := 0) V ta_53 V V V ⟨V, V⟩) ?_
  refine Yb 37 (none) (i := 2) V V V V V (Zd V V ⟨V, V⟩) ?_
  refine Xn 2 (i := 3) V V V V V (Yi (xs := [.tmp 37]) (i := 0) V V V (HB) by1 ⟨_, V, ?_⟩)
  refine Yb 39 (none) (i := 4) V V V V V (Ye (xs := [.tmp 38]) el_53 V V V V V V (Uf V) ⟨V, V⟩) ?_
  refine Xn 5 (i := 5) V V V V V (Xj (i := 0) el_53 V V V V (.seq _ _) by6 (fun u40 => ⟨_, V, ?_⟩))
  refine Yb 41 (none) (i := 6) V V V V V (Zh V tf_77_4 V ⟨V, V⟩) ?_
  refine Xn 3 (i := 7) V V V V V (Zq (cs' := [_, _, _, _, _, _]) (i := 0) V ts_53 V V V V V (Uf V) V ⟨_, V, ?_⟩)
  show AGo _ _ _ _ _ _ _
  refine Zb ?_
  first | (have := HN; refine c_le (SLe.refl _) (Vw _ (Vt _)) ?_) | skip
  refine Zc (Za 58 V V V (Zd V V (Za 59 V V V (Yi (xs := [.tmp 58, .const (.int .i64 7), .const (.string ⟨#[59]⟩)]) (i := 2) V V V (HS) by1 ?_))))
  refine Vs (Yt (Yz ?_))
  first
  | exact ⟨(q5, f, ms, ds ++ [Bi.mk bn (Ex.mk xk xs xn (Ty.mk xtk xts xtn xtl) xks xal xbs xp) bp], u, u40), ⟨l5, (fun e => by obtain ⟨⟨_, h5⟩, _, h6⟩ := hpr e; rw [h5]; refine ⟨?_, ?_⟩; (show L.length - (q2.at_ + 1) < f; omega); (show ms.length + (ds ++ _).length ≤ q2.at_ + 1; rw [List.length_append]; simp; omega)), hu⟩, Nat.lt_succ_self f, by4, (Vv _ (Vv _ (Vv _ (Vx _ (Ub (Vz _) (Ub (Vz _) (Ub (Vz _) (Ub (Vz _) (Ub (Ue by10) (Ua _)))))) (Vy rfl)))))⟩
  | exact ⟨(q5, f, ms ++ [Me.mk nt (Ty.mk yk ys yn yl) na], ds, u56, v), ⟨l5, (fun e => by obtain ⟨⟨_, h5⟩, _, h6⟩ := hpr e; rw [h5]; refine ⟨?_, ?_⟩; (show L.length - (q2.at_ + 1) < f; omega); (show (ms ++ _).length + ds.length ≤ q2.at_ + 1; rw [List.length_append]; simp; omega)), hu⟩, Nat.lt_succ_self f, by4, (Vv _ (Vv _ (Vv _ (Vx _ (Ub (Vz _) (Ub (Vz _) (Ub (Vz _) (Ub (Ue (by rw [Me.cellss_app']; rfl)) (Ub (Vz _) (Ua _)))))) (Vy rfl)))))⟩
 intro g34
 refine Vs (Zb (Zr V (Zg ?_)))
 rw [if_neg g34] at hu
 have HN := pName_c b L hL 302 q i1
 have l1 := (name_adv i1).ok i1
 have b1 := (name_adv i1).1
 obtain ⟨⟨⟨nk, nt, nn, na⟩, q1⟩, f1⟩ : ∃ r, nameP L q = r := ⟨_, rfl⟩
 rw [f1] at HN l1 b1 hu
 simp only [Tok.av] at HN l1 b1 hu
 have HC := take_c b L hL q1 l1.1 7 kColon
 have l2' := (Yo (kind := 7) (s := kColon) (by decide) l1).ok l1
 have b2'' := (Yo (L := L) (kind := 7) (s := kColon) (by decide) l1).1
 obtain ⟨⟨u7, q3⟩, f3⟩ : ∃ r, takeP L q1 7 kColon = r := ⟨_, rfl⟩
 rw [f3] at HC l2' b2'' hu
 simp only [] at HC l2' b2'' hu
 have HT := typeP_c b L hL 302 q3 l2'
 have l2 := (typeP_adv l2').ok l2'
 have b3' := (typeP_adv l2').1
 obtain ⟨⟨⟨yk, ys, yn, yl⟩, q2⟩, f2⟩ : ∃ r, typeP L q3 = r := ⟨_, rfl⟩
 rw [f2] at HT l2 b3' hu
 simp only [Ty.cells] at HT l2 b3' hu
 have b2' : q.at_ ≤ q2.at_ := by omega
 have HS := take_c b L hL q2 l2.1 7 kSemi
 have hpr := take_prog (L := L) (p := q2) (kind := 7) (s := kSemi) (by decide)
 have l5 := (Yo (kind := 7) (s := kSemi) (by decide) l2).ok l2
 obtain ⟨⟨u6, q5⟩, f5⟩ : ∃ r, takeP L q2 7 kSemi = r := ⟨_, rfl⟩
 rw [f5] at HS hpr l5 hu
 simp only [Prod.mk.injEq] at HS hpr l5 hu
 refine Zc (Za 42 V V V (Zd V V (Za 43 V V V (Yi (xs := [.tmp 42]) (i := 2) V V V (HN) by1 ?_))))
 refine Za 5 V V V (Zy (cs' := [_, _, _, _]) V Wj V V ?_); intro b5
 refine Zs V V (Zq (cs' := [_, _, _, _]) (i := 0) V Xk V V V V V (Uf V) V (Vs (Zb (Zg (Zc (Za 44 V V V (Zd V V (Za 45 V V V (Yi (xs := [.tmp 44, .const (.int .i64 7), .const (.string ⟨#[58]⟩)]) (i := 3) V V V (HC) by1 ?_)))))))))
 refine Vs (Zb (Xu [0, 1, 2, 3, 4, 6, 7, 5, 8, 9, 10, 11, 12] [5, 10, 12] [[], [0], [], [2], [], [4], [], [6], [2, 3, 4, 5, 6, 7], [2, 3, 4, 5, 6, 7, 8], [0, 1, 2, 3, 4, 5, 6, 7, 8, 9], [0, 1, 2, 3, 4, 5, 6, 7, 8, 9, 10], [0, 1, 2, 3, 4, 5, 6, 7, 8, 9, 10, 11]] Wo V (Yb 46 (none) (i := 0) V V V V V (Zh V tf_77_3 V ⟨V, V⟩) ?_)))
 refine Yb 47 (some 4) (i := 1) V V V V V (Zp (i := 0) V ta_75 V V V ⟨V, V⟩) ?_
 refine Yb 48 (none) (i := 2) V V V V V (Zh V Xh V ⟨V, V⟩) ?_
 refine Yb 49 (some 0) (i := 3) V V V V V (Zp (i := 0) V Xb V V V ⟨V, V⟩) ?_
 refine Yb 50 (none) (i := 4) V V V V V (Zd V V ⟨V, V⟩) ?_
 refine Yb 52 (none) (i := 6) V V V V V (Zh V Wv V ⟨V, V⟩) ?_
 refine Yb 53 (some 0) (i := 7) V V V V V (Zp (i := 0) V Xa V V V ⟨V, V⟩) ?_
 refine Xn 3 (i := 5) V V V V V (Yi (xs := [.tmp 50]) (i := 0) V V V (HT) by1 ⟨_, V, ?_⟩)
 refine Yb 54 (none) (i := 8) V V V V V (Yl (ns := [0, 1, 2]) (xs := [.tmp 49, .tmp 51, .tmp 53]) V tz_145 V tfl_145 V V V V ⟨V, V⟩) ?_
 refine Yb 55 (none) (i := 9) V V V V V (Ye (xs := [.tmp 54]) el_75 V V V V V V (Uf V) ⟨V, V⟩) ?_
 refine Xn 5 (i := 10) V V V V V (Xj (i := 0) el_75 V V V V (.seq _ _) by6 (fun u56 => ⟨_, V, ?_⟩))
 refine Yb 57 (none) (i := 11) V V V V V (Zh V tf_77_3 V ⟨V, V⟩) ?_
 refine Xn 4 (i := 12) V V V V V (Zq (cs' := [_, _, _, _, _, _]) (i := 0) V ts_75 V V V V V (Uf V) V ⟨_, V, ?_⟩)
 show AGo _ _ _ _ _ _ _
 refine Zb ?_
 first | (have := HN; refine c_le (SLe.refl _) (Vw _ (Vt _)) ?_) | skip
 refine Zc (Za 58 V V V (Zd V V (Za 59 V V V (Yi (xs := [.tmp 58, .const (.int .i64 7), .const (.string ⟨#[59]⟩)]) (i := 2) V V V (HS) by1 ?_))))
 refine Vs (Yt (Yz ?_))
 first
 | exact ⟨(q5, f, ms, ds ++ [Bi.mk bn (Ex.mk xk xs xn (Ty.mk xtk xts xtn xtl) xks xal xbs xp) bp], u, u40), ⟨l5, (fun e => by obtain ⟨⟨_, h5⟩, _, h6⟩ := hpr e; rw [h5]; refine ⟨?_, ?_⟩; (show L.length - (q2.at_ + 1) < f; omega); (show ms.length + (ds ++ _).length ≤ q2.at_ + 1; rw [List.length_append]; simp; omega)), hu⟩, Nat.lt_succ_self f, by4, (Vv _ (Vv _ (Vv _ (Vx _ (Ub (Vz _) (Ub (Vz _) (Ub (Vz _) (Ub (Vz _) (Ub (Ue by10) (Ua _)))))) (Vy rfl)))))⟩
 | exact ⟨(q5, f, ms ++ [Me.mk nt (Ty.mk yk ys yn yl) na], ds, u56, v), ⟨l5, (fun e => by obtain ⟨⟨_, h5⟩, _, h6⟩ := hpr e; rw [h5]; refine ⟨?_, ?_⟩; (show L.length - (q2.at_ + 1) < f; omega); (show (ms ++ _).length + ds.length ≤ q2.at_ + 1; rw [List.length_append]; simp; omega)), hu⟩, Nat.lt_succ_self f, by4, (Vv _ (Vv _ (Vv _ (Vx _ (Ub (Vz _) (Ub (Vz _) (Ub (Vz _) (Ub (Ue (by rw [Me.cellss_app']; rfl)) (Ub (Vz _) (Ua _)))))) (Vy rfl)))))⟩
theorem class_c (b : Nat) (L : List Tok) (hL : L.length ≤ 100000) (p : PS) (k : POk L 302 p) : MCall Tryz.prog 53 [.ptr b 0] (.loc b (psC L p)) (.agg (classP L p).1.cells) (.loc b (psC L (classP L p).2)) := class_b b L hL p k _ rfl
end Go.Proofs.YtknodnfbaofngaaGreat
