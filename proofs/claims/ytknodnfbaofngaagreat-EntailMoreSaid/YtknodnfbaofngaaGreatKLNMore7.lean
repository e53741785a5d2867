/- Parts of a proof: the document's parser: apat, pat; fix.Level; cognateref04.Level; the document's operators: Level, Side, Clash; the document's parser: Build; the document's parser: bind, lambda; the document's parser: atom; the document's parser: atom, in brackets; the document's parser: operand; the document's parser: Exp; the document's parser: data; the document's parser: class; the document's parser: instance; the document's parser: begin, Prog; the declarations of a source; the examples: the declarations, and the two proofs -/
import Derived.Test.YtknodnfbaofngaaGreatKLNMore6
namespace Go.Proofs.YtknodnfbaofngaaGreat
open Go.RowKit
theorem patsL_go {L : List Tok} {T : PS → Pa × PS} {f : Nat} {p : PS} {acc : List Pa} (h : startsP L 1 p) : patsL L T (f + 1) p acc = patsL L T f (apatG L T p).2 (acc ++ [(apatG L T p).1]) := by rw [patsL, if_pos h]
theorem patsL_end {L : List Tok} {T : PS → Pa × PS} {f : Nat} {p : PS} {acc : List Pa} (h : ¬ startsP L 1 p) : patsL L T f p acc = (acc, p) := by
 cases f with
 | zero => rfl
 | succ f => rw [patsL, if_neg h]
theorem Pa.cellss_app' (a b : List Pa) : Pa.cellss (a ++ b) = Pa.cellss a ++ Pa.cellss b := by simp [Pa.cellss_map]
abbrev zPa : List AV := [.val (.int .i64 0), .val (.string kE), .val (.int .i64 0), .val (.slice none 0 0), .val (.int .i64 0)]
def PaC (b : Nat) (L : List Tok) (n : Nat) (T : PS → Pa × PS) : Prop := ∀ q, POk L n q → MCall Tryz.prog 131 [.ptr b 0] (.loc b (psC L q)) (.agg (T q).1.cells) (.loc b (psC L (T q).2))
set_option maxHeartbeats 4000000 in
set_option maxRecDepth 100000 in
theorem apat_c (b : Nat) (L : List Tok) (hL : L.length ≤ 100000) (n : Nat) (T : PS → Pa × PS) (HT : PaC b L n T) (HA : ∀ q, POk L n q → Adv L q (T q).2) (p : PS) (k : POk L n p) : MCall Tryz.prog 134 [.ptr b 0] (.loc b (psC L p)) (.agg (apatG L T p).1.cells) (.loc b (psC L (apatG L T p).2)) := by
 have HN := next_c b L p
 have HI := is_p b L p kUn
 have hp := k.1
 have a1 := Yn (L := L) (kind := 7) (s := kLP) (by decide) k
 have k1 := a1.ok k
 have hkt : (nxt L p).k ≠ 0 → p.at_ < L.length := fun e => (Vo e).2
 have hki : isP L p kUn = true → p.at_ < L.length := fun e => (is_lt e).2
 obtain ⟨t, ht⟩ : ∃ t, nxt L p = t := ⟨_, rfl⟩
 obtain ⟨r, hr⟩ : ∃ r, apatG L T p = r := ⟨_, rfl⟩
 have hr0 := hr
 unfold apatG at hr
 rw [ht] at HN hr hkt
 rw [hr0]
 obtain ⟨tk, tt, tn, ta⟩ := t
 simp only [Tok.av] at HN hr hkt
 refine Zw Tryz.func134 J (by kernel_rfl) J (Uc J) ?_
 refine Ye (Zg (Zc (Za 2 J J J (Zy (cs' := [_, _, _, _, _]) J tz_184 J J ?_)))); intro b2
 refine Vp (Zb (Zg (Zc (Za 5 J J J (Zd J J (Za 6 J J J (Wq (xs := [.tmp 5]) [1] J J J (HN) by1 ?_)))))))
 refine Za 3 J J J (Zy (cs' := [_, _, _, _]) J Wf J J ?_); intro b3
 refine Zs J J (Zo (cs' := [_, _, _, _]) (i := 0) J Xk J J J J J (Uc J) J (Vp (Zb (Zg (Zc (Za 7 J J J (Zh J Wt J (Za 8 J J J (Zq (i := 0) J Xb J J J (Za 9 J J J (Ym (ns := [4]) (xs := [.tmp 8]) J tz_184 J tfl_184 J J J J (Za 4 J J J (Zy (cs' := [_, _, _, _, _]) J tz_184 J J ?_))))))))))))); intro b4
 refine Zs J J (Zo (cs' := [_, _, _, _, _]) (i := 0) J ts_184 J J J J J (Uc J) J (Vp (Zb (Zg ?_))))
 apply c_joink [1, 5, 6, 7, 8, 9, 10, 11, 12, 13, 14, 15, 16, 17, 18, 19, 20, 21, 22, 23, 24, 25, 26, 27, 28, 29, 30, 31, 32, 33, 34, 35, 36, 37, 50, 59] (σ := Int × ByteArray × Int) (fun zz => match zz with | (kk, ss, nn) => []) (fun zz => match zz with | (kk, ss, nn) => [.loc b4 [.val (.int .i64 kk), .val (.string ss), .val (.int .i64 nn), .val (.slice none 0 0), .val (.int .i64 ta)], .loc b3 (Tok.mk tk tt tn ta).av, .loc b2 zPa, .loc b (psC L p)]) (fun zz => match zz with | (kk, ss, nn) => (0 < kk ∧ (Pa.mk kk ss nn [] ta, stepP p) = r ∧ p.at_ < L.length) ∨ (kk = 0 ∧ (if isP L (takeP L p 7 kLP).2 kRP = true then (Pa.mk 3 kUnit 0 [] ta, stepP (takeP L p 7 kLP).2) else ((T (takeP L p 7 kLP).2).1, (takeP L (T (takeP L p 7 kLP).2).2 7 kRP).2)) = r))
 ·repeat' (first | exact Uf | apply Ud rfl | apply Ue rfl)
 ·skip
  refine Zz (Zg (Zc (Za 11 J J J (Zh J Xf J (Za 12 J J J (Zq (i := 1) J Xb J J J (Za 13 J J J (Yr J J J ?_)))))))); intro c13 h13
  refine Za 10 J J J (Ze J J (Vp (Zb ?_)))
  rcases Zi h13 with ⟨rfl, g13⟩ | ⟨rfl, g13⟩
  ·refine Zr J (Zg (Zc (Za 19 J J J (Zh J Xf J (Za 20 J J J (Zq (i := 1) J Xb J J J (Za 21 J J J (Yr J J J ?_)))))))); intro c21 h21
   refine Za 18 J J J (Ze J J (Vp (Zb ?_)))
   rcases Zi h21 with ⟨rfl, g21⟩ | ⟨rfl, g21⟩
   ·refine Zr J (Zg (Zc (Za 27 J J J (Zh J Xf J (Za 28 J J J (Zq (i := 1) J Xb J J J (Za 29 J J J (Yr J J J ?_)))))))); intro c29 h29
    refine Za 26 J J J (Ze J J (Vp (Zb ?_)))
    rcases Zi h29 with ⟨rfl, g29⟩ | ⟨rfl, g29⟩
    ·refine Zr J (Zg (Zc (Za 35 J J J (Zd J J (Za 36 J J J (op_callkb (xs := [.tmp 35, .const (.string ⟨#[95]⟩)]) [3] J J J (HI) by1 ?_)))))); intro c36 h36
     refine Za 34 J J J (Ze J J (Vp (Zb ?_)))
     rcases Zi h36 with ⟨rfl, g36⟩ | ⟨rfl, g36⟩
     ·refine Zr J (Zv (Yv (Xa ?_)))
      first
      | (rw [if_pos g13] at hr; exact ⟨(3, tt, 0), .inl ⟨by decide, hr, hkt (by omega)⟩, by4, Vv rfl⟩)
      | (rw [if_neg g13, if_pos g21] at hr; exact ⟨(2, tt, 0), .inl ⟨by decide, hr, hkt (by omega)⟩, by4, Vv rfl⟩)
      | (rw [if_neg g13, if_neg g21, if_pos g29] at hr; exact ⟨(4, kE, tn), .inl ⟨by decide, hr, hkt (by omega)⟩, by4, Vv rfl⟩)
      | (rw [if_neg g13, if_neg g21, if_neg g29, if_pos g36] at hr; exact ⟨(1, kE, 0), .inl ⟨by decide, hr, hki g36⟩, by4, Vv rfl⟩)
      | (rw [if_neg g13, if_neg g21, if_neg g29, if_neg g36] at hr; exact ⟨(0, kE, 0), .inr ⟨rfl, hr⟩, by4, Vv rfl⟩)
     ·refine Zt J (Zc (Za 37 J J J (Zh J tf_184_0 J (Zs J J (Zo (cs' := [_, _, _, _, _]) (i := 0) J Wi J J J J J (Uc J) J (Vp (Yv (Xa ?_))))))))
      first
      | (rw [if_pos g13] at hr; exact ⟨(3, tt, 0), .inl ⟨by decide, hr, hkt (by omega)⟩, by4, Vv rfl⟩)
      | (rw [if_neg g13, if_pos g21] at hr; exact ⟨(2, tt, 0), .inl ⟨by decide, hr, hkt (by omega)⟩, by4, Vv rfl⟩)
      | (rw [if_neg g13, if_neg g21, if_pos g29] at hr; exact ⟨(4, kE, tn), .inl ⟨by decide, hr, hkt (by omega)⟩, by4, Vv rfl⟩)
      | (rw [if_neg g13, if_neg g21, if_neg g29, if_pos g36] at hr; exact ⟨(1, kE, 0), .inl ⟨by decide, hr, hki g36⟩, by4, Vv rfl⟩)
      | (rw [if_neg g13, if_neg g21, if_neg g29, if_neg g36] at hr; exact ⟨(0, kE, 0), .inr ⟨rfl, hr⟩, by4, Vv rfl⟩)
    ·refine Zt J (Zg (Zc (Za 30 J J J (Zh J tf_184_0 J (Zs J J (Zo (cs' := [_, _, _, _, _]) (i := 0) J Wi J J J J J (Uc J) J (Vp (Zb (Zc (Za 31 J J J (Zh J tf_97_2 J (Za 32 J J J (Zq (i := 1) J ta_2 J J J ?_)))))))))))))
     refine Za 33 J J J (Zh J tf_184_2 J (Zs J J (Zo (cs' := [_, _, _, _, _]) (i := 0) J ts_2 J J J J J (Uc J) J (Vp (Yv (Xa ?_))))))
     first
     | (rw [if_pos g13] at hr; exact ⟨(3, tt, 0), .inl ⟨by decide, hr, hkt (by omega)⟩, by4, Vv rfl⟩)
     | (rw [if_neg g13, if_pos g21] at hr; exact ⟨(2, tt, 0), .inl ⟨by decide, hr, hkt (by omega)⟩, by4, Vv rfl⟩)
     | (rw [if_neg g13, if_neg g21, if_pos g29] at hr; exact ⟨(4, kE, tn), .inl ⟨by decide, hr, hkt (by omega)⟩, by4, Vv rfl⟩)
     | (rw [if_neg g13, if_neg g21, if_neg g29, if_pos g36] at hr; exact ⟨(1, kE, 0), .inl ⟨by decide, hr, hki g36⟩, by4, Vv rfl⟩)
     | (rw [if_neg g13, if_neg g21, if_neg g29, if_neg g36] at hr; exact ⟨(0, kE, 0), .inr ⟨rfl, hr⟩, by4, Vv rfl⟩)
   ·refine Zt J (Zg (Zc (Za 22 J J J (Zh J tf_184_0 J (Zs J J (Zo (cs' := [_, _, _, _, _]) (i := 0) J Wi J J J J J (Uc J) J (Vp (Zb (Zc (Za 23 J J J (Zh J Xh J (Za 24 J J J (Zq (i := 1) J Yz J J J ?_)))))))))))))
    refine Za 25 J J J (Zh J tf_184_1 J (Zs J J (Zo (cs' := [_, _, _, _, _]) (i := 0) J ts_9 J J J J J (Uc J) J (Vp (Yv (Xa ?_))))))
    first
    | (rw [if_pos g13] at hr; exact ⟨(3, tt, 0), .inl ⟨by decide, hr, hkt (by omega)⟩, by4, Vv rfl⟩)
    | (rw [if_neg g13, if_pos g21] at hr; exact ⟨(2, tt, 0), .inl ⟨by decide, hr, hkt (by omega)⟩, by4, Vv rfl⟩)
    | (rw [if_neg g13, if_neg g21, if_pos g29] at hr; exact ⟨(4, kE, tn), .inl ⟨by decide, hr, hkt (by omega)⟩, by4, Vv rfl⟩)
    | (rw [if_neg g13, if_neg g21, if_neg g29, if_pos g36] at hr; exact ⟨(1, kE, 0), .inl ⟨by decide, hr, hki g36⟩, by4, Vv rfl⟩)
    | (rw [if_neg g13, if_neg g21, if_neg g29, if_neg g36] at hr; exact ⟨(0, kE, 0), .inr ⟨rfl, hr⟩, by4, Vv rfl⟩)
  ·refine Zt J (Zg (Zc (Za 14 J J J (Zh J tf_184_0 J (Zs J J (Zo (cs' := [_, _, _, _, _]) (i := 0) J Wi J J J J J (Uc J) J (Vp (Zb (Zc (Za 15 J J J (Zh J Xh J (Za 16 J J J (Zq (i := 1) J Yz J J J ?_)))))))))))))
   refine Za 17 J J J (Zh J tf_184_1 J (Zs J J (Zo (cs' := [_, _, _, _, _]) (i := 0) J ts_9 J J J J J (Uc J) J (Vp (Yv (Xa ?_))))))
   first
   | (rw [if_pos g13] at hr; exact ⟨(3, tt, 0), .inl ⟨by decide, hr, hkt (by omega)⟩, by4, Vv rfl⟩)
   | (rw [if_neg g13, if_pos g21] at hr; exact ⟨(2, tt, 0), .inl ⟨by decide, hr, hkt (by omega)⟩, by4, Vv rfl⟩)
   | (rw [if_neg g13, if_neg g21, if_pos g29] at hr; exact ⟨(4, kE, tn), .inl ⟨by decide, hr, hkt (by omega)⟩, by4, Vv rfl⟩)
   | (rw [if_neg g13, if_neg g21, if_neg g29, if_pos g36] at hr; exact ⟨(1, kE, 0), .inl ⟨by decide, hr, hki g36⟩, by4, Vv rfl⟩)
   | (rw [if_neg g13, if_neg g21, if_neg g29, if_neg g36] at hr; exact ⟨(0, kE, 0), .inr ⟨rfl, hr⟩, by4, Vv rfl⟩)
 rintro ⟨kk, ss, nn⟩ hI
 try dsimp only [List.cons_append, List.nil_append] at hI ⊢
 refine Zb (Zg (Zg (Zc (Za 38 J J J (Zh J tf_184_0 J (Za 39 J J J (Zq (i := 0) J Xb J J J (Za 40 J J J (Ww J J J ?_))))))))); intro c40 h40
 refine Vp (Zb ?_)
 rcases Zi h40 with ⟨rfl, g40⟩ | ⟨rfl, g40⟩
 ·refine Zr J (Zv (Zb (Zg ?_)))
  obtain ⟨_, h2⟩ := hI.resolve_left (fun q => by omega)
  refine Zc (Za 49 J J J (Zd J J (Za 50 J J J (Yg (xs := [.tmp 49, .const (.int .i64 7), .const (.string ⟨#[40]⟩)]) (i := 3) J J J (take_c b L hL p k.1 7 kLP) by1 ?_))))
  refine Vp (Zb (Zg (Zg (Zc (Za 51 J J J (Zd J J (Za 52 J J J (op_mayc (xs := [.tmp 51, .const (.string ⟨#[41]⟩)]) (i := 3) J J J (may_c b L hL (takeP L p 7 kLP).2 kRP) by1 ?_ ?_))))))))
  ·intro g52
   refine Vp (Zb (Zt J (Zg (Zc (Za 53 J J J (Zh J Wt J (Za 54 J J J (Zq (i := 1) J Xb J J J (Za 55 J J J (Ym (ns := [0, 1, 4]) (xs := [.const (.int .i64 3), .const (.string ⟨#[85, 110, 105, 116]⟩), .tmp 54]) J tz_184 J tfl_184 J J J J ?_))))))))))
   refine Zs J J (Zo (cs' := [_, _, _, _, _]) (i := 2) J ts_184 J J J J J (Uc J) J (Vp (Zb (Ya ?_))))
   rw [if_pos g52] at h2; subst h2; exact Yl (i := 2) rfl rfl rfl ta_184 rfl by2 (Vt _ (Vt _ (Vt _ (Vv rfl)))) ⟨rfl, rfl⟩
  ·intro g52
   refine Vp (Zb (Zr J (Zv (Zb (Zg ?_)))))
   have HT1 := HT _ k1
   have k2 := (HA _ k1).ok k1
   rw [if_neg g52] at h2
   obtain ⟨⟨⟨xk, xs, xn, xl, xp⟩, p3⟩, hx⟩ : ∃ r, T (takeP L p 7 kLP).2 = r := ⟨_, rfl⟩
   rw [hx] at HT1 h2 k2
   simp only [Pa.cells] at HT1
   refine Zc (Za 56 J J J (Zd J J (Za 57 J J J (Yg (xs := [.tmp 56]) (i := 3) J J J (HT1) by1 ?_))))
   refine Zs J J (Zo (cs' := [_, _, _, _, _]) (i := 0) J ts_184 J J J J J (Uc J) J (Vp (Zb (Zg (Zc (Za 58 J J J (Zd J J (Za 59 J J J (Yg (xs := [.tmp 58, .const (.int .i64 7), .const (.string ⟨#[41]⟩)]) (i := 3) J J J (take_c b L hL _ k2.1 7 kRP) by1 ?_)))))))))
   refine Vp (Zb (Zg (Zc (Za 60 J J J (Zx (cs' := [_, _, _, _, _]) (i := 0) J ta_184 J J J J (Zs J J (Zo (cs' := [_, _, _, _, _]) (i := 2) J ts_184 J J J J J (Uc J) J (Vp (Zb (Ya ?_))))))))))
   subst h2; exact Yl (i := 2) rfl rfl rfl ta_184 rfl (Vw _) (Vt _ (Vt _ (Vt _ (Vv rfl)))) ⟨rfl, rfl⟩
 ·refine Zt J (Zg ?_)
  obtain ⟨_, h2, h3⟩ := hI.resolve_right (fun q => by omega)
  refine Zc (Za 41 J J J (Zd J J (Za 42 J J J (Yj J J (Za 43 J J J (Zh J tf_95_1 J (Za 44 J J J (Zq (i := 3) J Xb J J J (Za 45 J J J (Yw J J J (Ug _ (by omega)) ?_))))))))))
  refine Za 46 J J J (Yj J J (Za 47 J J J (Zh J tf_95_1 J (Zs J J (Zo (i := 3) J Wi J J J J J (Uc J) J (Vp (Zb (Zg (Zc (Za 48 J J J (Zx (cs' := [_, _, _, _, _]) (i := 0) J ta_184 J J J J (Zs J J (Zo (cs' := [_, _, _, _, _]) (i := 2) J ts_184 J J J J J (Uc J) J ?_)))))))))))))
  refine Vp (Zb (Ya ?_))
  subst h2; exact Yl (i := 2) rfl rfl rfl ta_184 rfl (Le.agg (Vy (Vw _) (Vy (Vw _) (Vy (Vw _) (Vy (Le.nil _) (Vx _)))))) (Vt _ (Vt _ (Vt _ (Vv rfl)))) ⟨rfl, rfl⟩
set_option maxHeartbeats 4000000 in
set_option maxRecDepth 100000 in
theorem pat_err (b : Nat) (L : List Tok) (p : PS) (he : p.e ≠ 0) : MCall Tryz.prog 131 [.ptr b 0] (.loc b (psC L p)) (.agg pa0.cells) (.loc b (psC L p)) := by
 refine Zw Tryz.func131 J (by kernel_rfl) J (Uc J) ?_
 refine Ye (Zg (Zc (Za 2 J J J (Zy (cs' := [_, _, _, _, _]) J tz_184 J J ?_)))); intro b2
 refine Vp (Zb (Zg (Zg (Zc (Za 5 J J J (Zd J J (Za 6 J J J (Yj J J (Za 7 J J J (Zh J Vl J (Za 8 J J J (Zq (i := 1) J Xb J J J (Za 9 J J J (Xq J J J ?_)))))))))))))); intro c9 h9
 refine Vp (Zb ?_)
 rcases Zi h9 with ⟨rfl, g9⟩ | ⟨rfl, g9⟩
 ·exact absurd he g9
 ·exact Zt J (Zg (Zc (Za 10 J J J (Ym (ns := []) (xs := []) J tz_184 J tfl_184 J J J J (Zs J J (Zo (cs' := [_, _, _, _, _]) (i := 0) J ts_184 J J J J J (Uc J) J (Vp (Zb (Ya (Yl (i := 0) J J J ta_184 J by2 (Vt _ (Vq _)) ⟨J, J⟩))))))))))
set_option maxHeartbeats 4000000 in
set_option maxRecDepth 100000 in
theorem apat_con (b : Nat) (L : List Tok) (hL : L.length ≤ 100000) (n : Nat) (p : PS) (k : POk L n p) (h2 : (nxt L p).k = 2) : MCall Tryz.prog 134 [.ptr b 0] (.loc b (psC L p)) (.agg [.val (.int .i64 3), .val (.string (nxt L p).t), .val (.int .i64 0), .val (.slice none 0 0), .val (.int .i64 (nxt L p).a)]) (.loc b (psC L (stepP p))) := by
 have HN := next_c b L p
 have hp := k.1
 have hlt : p.at_ < L.length := (Vo (by omega)).2
 obtain ⟨t, ht⟩ : ∃ t, nxt L p = t := ⟨_, rfl⟩
 rw [ht] at HN h2 ⊢
 obtain ⟨tk, tt, tn, ta⟩ := t
 simp only [Tok.av] at HN h2 ⊢
 refine Zw Tryz.func134 J (by kernel_rfl) J (Uc J) ?_
 refine Ye (Zg (Zc (Za 2 J J J (Zy (cs' := [_, _, _, _, _]) J tz_184 J J ?_)))); intro b2
 refine Vp (Zb (Zg (Zc (Za 5 J J J (Zd J J (Za 6 J J J (Wq (xs := [.tmp 5]) [1] J J J (HN) by1 ?_)))))))
 refine Za 3 J J J (Zy (cs' := [_, _, _, _]) J Wf J J ?_); intro b3
 refine Zs J J (Zo (cs' := [_, _, _, _]) (i := 0) J Xk J J J J J (Uc J) J (Vp (Zb (Zg (Zc (Za 7 J J J (Zh J Wt J (Za 8 J J J (Zq (i := 0) J Xb J J J (Za 9 J J J (Ym (ns := [4]) (xs := [.tmp 8]) J tz_184 J tfl_184 J J J J (Za 4 J J J (Zy (cs' := [_, _, _, _, _]) J tz_184 J J ?_))))))))))))); intro b4
 refine Zs J J (Zo (cs' := [_, _, _, _, _]) (i := 0) J ts_184 J J J J J (Uc J) J (Vp (Zb (Zg (Zz (Zg (Zc (Za 11 J J J (Zh J Xf J (Za 12 J J J (Zq (i := 1) J Xb J J J (Za 13 J J J (Yr J J J ?_))))))))))))); intro c13 h13
 refine Za 10 J J J (Ze J J (Vp (Zb ?_)))
 rcases Zi h13 with ⟨rfl, g13⟩ | ⟨rfl, g13⟩
 ·exact absurd h2 g13
 ·refine Zt J (Zg (Zc (Za 14 J J J (Zh J tf_184_0 J (Zs J J (Zo (cs' := [_, _, _, _, _]) (i := 0) J Wi J J J J J (Uc J) J (Vp (Zb (Zc (Za 15 J J J (Zh J Xh J (Za 16 J J J (Zq (i := 1) J Yz J J J ?_)))))))))))))
  refine Za 17 J J J (Zh J tf_184_1 J (Zs J J (Zo (cs' := [_, _, _, _, _]) (i := 0) J ts_9 J J J J J (Uc J) J (Vp (Yv (Zb (Zg (Zg (Zc (Za 38 J J J (Zh J tf_184_0 J ?_)))))))))))
  refine Za 39 J J J (Zq (i := 0) J Xb J J J (Za 40 J J J (Ww J J J ?_))); intro c40 h40
  refine Vp (Zb ?_)
  rcases Zi h40 with ⟨rfl, g40⟩ | ⟨rfl, g40⟩
  ·exact absurd g40 (by decide)
  ·refine Zt J (Zg (Zc (Za 41 J J J (Zd J J (Za 42 J J J (Yj J J (Za 43 J J J (Zh J tf_95_1 J (Za 44 J J J (Zq (i := 3) J Xb J J J (Za 45 J J J (Yw J J J (Ug _ (by omega)) ?_))))))))))))
   refine Za 46 J J J (Yj J J (Za 47 J J J (Zh J tf_95_1 J (Zs J J (Zo (i := 3) J Wi J J J J J (Uc J) J (Vp (Zb (Zg (Zc (Za 48 J J J (Zx (cs' := [_, _, _, _, _]) (i := 0) J ta_184 J J J J (Zs J J (Zo (cs' := [_, _, _, _, _]) (i := 2) J ts_184 J J J J J (Uc J) J ?_)))))))))))))
   exact Vp (Zb (Ya (Yl (i := 2) J J J ta_184 J (Vw _) (Vt _ (Vt _ (Vt _ (Vv J)))) ⟨J, J⟩)))
set_option maxHeartbeats 4000000 in
set_option maxRecDepth 100000 in
theorem pat_non (b : Nat) (L : List Tok) (hL : L.length ≤ 100000) (n : Nat) (T : PS → Pa × PS) (HT : PaC b L n T) (HA : ∀ q, POk L n q → Adv L q (T q).2) (p : PS) (k : POk L (n + 1) p) (he : p.e = 0) (hk : ¬ (nxt L (deeperP L p)).k = 2) :
    MCall Tryz.prog 131 [.ptr b 0] (.loc b (psC L p)) (.agg (apatG L T (deeperP L p)).1.cells) (.loc b (psC L (decP (apatG L T (deeperP L p)).2))) := by
 have kq := deeper_ok k he
 have HN := next_c b L (deeperP L p)
 have HAT := apat_c b L hL n T HT HA (deeperP L p) kq
 have kt := (apat_adv HA kq).ok kq
 obtain ⟨t, ht⟩ : ∃ t, nxt L (deeperP L p) = t := ⟨_, rfl⟩
 rw [ht] at HN hk
 obtain ⟨tk, tt, tn, ta⟩ := t
 obtain ⟨⟨⟨xk, xs, xn, xl, xp⟩, q1⟩, hx⟩ : ∃ r, apatG L T (deeperP L p) = r := ⟨_, rfl⟩
 rw [hx] at HAT kt ⊢
 simp only [Tok.av, Pa.cells] at HN HAT hk ⊢
 simp only [] at kt
 have hb1 := kt.2.1
 have hb2 := kt.2.2.1
 refine Zw Tryz.func131 J (by kernel_rfl) J (Uc J) ?_
 refine Ye (Zg (Zc (Za 2 J J J (Zy (cs' := [_, _, _, _, _]) J tz_184 J J ?_)))); intro b2
 refine Vp (Zb (Zg (Zg (Zc (Za 5 J J J (Zd J J (Za 6 J J J (Yj J J (Za 7 J J J (Zh J Vl J (Za 8 J J J (Zq (i := 1) J Xb J J J (Za 9 J J J (Xq J J J ?_)))))))))))))); intro c9 h9
 refine Vp (Zb ?_)
 rcases Zi h9 with ⟨rfl, g9⟩ | ⟨rfl, g9⟩
 ·refine Zr J (Zv (Zb (Zg (Zc (Za 11 J J J (Zd J J ?_))))))
  refine Za 12 J J J (Yg (xs := [.tmp 11]) (i := 1) J J J (deeper_c b L p k.2.1 (by have := k.2.2.1; omega)) by1 ?_)
  refine Vp (Zb (Zg (Zc (Za 13 J J J (Zd J J (Za 14 J J J (Wq (xs := [.tmp 13]) [1] J J J (HN) by1 ?_)))))))
  refine Za 15 J J J (Wy (ft := 3) (fo := 0) J (by kernel_rfl) Xb J J ?_)
  refine Za 16 J J J (Yr J J J ?_); intro c16 h16
  refine Za 3 J J J (Ze J J (Vp (Zb (Zg ?_))))
  obtain rfl : c16 = false := by
   cases c16 with
   | false => rfl
   | true => exact absurd (h16.1 rfl) hk
  refine Zc (Za 17 J J J (Zd J J (Za 18 J J J (Yg (xs := [.tmp 17]) (i := 1) J J J (HAT) by1 ?_))))
  refine Za 4 J J J (Zy (cs' := [_, _, _, _, _]) J tz_184 J J ?_); intro b4
  refine Zs J J (Zo (cs' := [_, _, _, _, _]) (i := 0) J ts_184 J J J J J (Uc J) J (Vp (Zb (Zg (Zz ?_)))))
  apply Xl [1, 5, 6, 7, 8, 9, 10, 11, 12, 13, 14, 15, 16, 17, 18, 19, 20, 21, 22, 23, 24, 25, 26, 27, 28, 29, 30] (σ := Unit) (fun zz => match zz with | z => []) (fun zz => match zz with | z => True) (fun zz => match zz with | z => 0) (())
  ·repeat' (first | exact Uf | apply Ud rfl | apply Ue rfl)
  ·exact trivial
  ·exact by4
  rintro z hI
  try dsimp only [List.cons_append, List.nil_append] at hI ⊢
  refine Zg (Zg (Zc (Za 19 J J J (Zd J J (Za 20 J J J (Zd J J (Zk 21 J J J J J (Zk 22 J J J J J (Za 23 J J J (Zn J J J ?_))))))))))
  refine Vp (Zb (Zr J (Xc (Xd (Xv (Xe (Zb (Zg (Zc (Za 31 J J J (Zd J J (Za 32 J J J (Yj J J ?_)))))))))))))
  refine Za 33 J J J (Zh J tf_95_2 J (Za 34 J J J (Zq (i := 2) J Xb J J J (Za 35 J J J (op_sub J J J (Ug _ (by omega)) ?_)))))
  refine Za 36 J J J (Yj J J (Za 37 J J J (Zh J tf_95_2 J (Zs J J (Zo (i := 2) J Wi J J J J J (Uc J) J (Vp (Zb (Zg (Zc (Za 38 J J J (Zx (cs' := [_, _, _, _, _]) (i := 0) J ta_184 J J J J (Zs J J (Zo (cs' := [_, _, _, _, _]) (i := 1) J ts_184 J J J J J (Uc J) J ?_)))))))))))))
  exact Vp (Zb (Ya (Yl (i := 1) J J J ta_184 J (Vw _) (Vt _ (Vt _ (Vv J))) ⟨J, J⟩)))
 ·exact absurd he g9
set_option maxHeartbeats 4000000 in
set_option maxRecDepth 100000 in
theorem pat_con (b : Nat) (L : List Tok) (hL : L.length ≤ 100000) (n : Nat) (T : PS → Pa × PS) (HT : PaC b L n T) (HA : ∀ q, POk L n q → Adv L q (T q).2) (p : PS) (k : POk L (n + 1) p) (he : p.e = 0) (hk : (nxt L (deeperP L p)).k = 2) (r : List Pa × PS) (hr : patsL L T (L.length + 1) (stepP (deeperP L p)) [] = r) :
    MCall Tryz.prog 131 [.ptr b 0] (.loc b (psC L p)) (.agg (Pa.mk 3 (nxt L (deeperP L p)).t 0 r.1 (nxt L (deeperP L p)).a).cells) (.loc b (psC L (decP r.2))) := by
 have kq := deeper_ok k he
 have HN := next_c b L (deeperP L p)
 have HAT := apat_con b L hL n (deeperP L p) kq hk
 have hlt : (deeperP L p).at_ < L.length := (Vo (by omega)).2
 have ks := (Vf kq hlt).ok kq
 obtain ⟨t, ht⟩ : ∃ t, nxt L (deeperP L p) = t := ⟨_, rfl⟩
 rw [ht] at HN hk HAT ⊢
 obtain ⟨tk, tt, tn, ta⟩ := t
 simp only [Tok.av] at HN HAT hk ⊢
 refine Zw Tryz.func131 J (by kernel_rfl) J (Uc J) ?_
 refine Ye (Zg (Zc (Za 2 J J J (Zy (cs' := [_, _, _, _, _]) J tz_184 J J ?_)))); intro b2
 refine Vp (Zb (Zg (Zg (Zc (Za 5 J J J (Zd J J (Za 6 J J J (Yj J J (Za 7 J J J (Zh J Vl J (Za 8 J J J (Zq (i := 1) J Xb J J J (Za 9 J J J (Xq J J J ?_)))))))))))))); intro c9 h9
 refine Vp (Zb ?_)
 rcases Zi h9 with ⟨rfl, g9⟩ | ⟨rfl, g9⟩
 ·refine Zr J (Zv (Zb (Zg (Zc (Za 11 J J J (Zd J J ?_))))))
  refine Za 12 J J J (Yg (xs := [.tmp 11]) (i := 1) J J J (deeper_c b L p k.2.1 (by have := k.2.2.1; omega)) by1 ?_)
  refine Vp (Zb (Zg (Zc (Za 13 J J J (Zd J J (Za 14 J J J (Wq (xs := [.tmp 13]) [1] J J J (HN) by1 ?_)))))))
  refine Za 15 J J J (Wy (ft := 3) (fo := 0) J (by kernel_rfl) Xb J J ?_)
  refine Za 16 J J J (Yr J J J ?_); intro c16 h16
  refine Za 3 J J J (Ze J J (Vp (Zb (Zg ?_))))
  obtain rfl : c16 = true := h16.2 hk
  refine Zc (Za 17 J J J (Zd J J (Za 18 J J J (Yg (xs := [.tmp 17]) (i := 1) J J J (HAT) by1 ?_))))
  refine Za 4 J J J (Zy (cs' := [_, _, _, _, _]) J tz_184 J J ?_); intro b4
  refine Zs J J (Zo (cs' := [_, _, _, _, _]) (i := 0) J ts_184 J J J J J (Uc J) J (Vp (Zb (Zg (Zz (We 184 5 ?_))))))
  apply Wg [1, 5, 6, 7, 8, 9, 10, 11, 12, 13, 14, 15, 16, 17, 18, 19, 20, 21, 22, 23, 24, 25, 26, 27, 28, 29, 30] (σ := PS × Nat × List Pa × Value) (fun zz => match zz with | (q, f, acc, u) => []) (fun zz => match zz with | (q, f, acc, u) => [.loc b4 [.val (.int .i64 3), .val (.string tt), .val (.int .i64 0), .own u 5 (Pa.cellss acc), .val (.int .i64 ta)], .loc b2 zPa, .loc b (psC L q), .own 184 5 u]) (fun zz => match zz with | (q, f, acc, u) => POk L n q ∧ L.length - q.at_ < f ∧ acc.length ≤ q.at_ ∧ patsL L T f q acc = r) (fun zz => match zz with | (q, f, acc, u) => f) ((stepP (deeperP L p), L.length + 1, [], .slice none 0 0))
  ·repeat' (first | exact Uf | apply Ud rfl | apply Ue rfl)
  ·exact ⟨ks, by omega, Nat.zero_le _, hr⟩
  ·exact by4
  ·exact (Vu _ (Vy (Vw _) (Vy (Vw _) (Vy (Vw _) (Vy (Le.nilOwn 5) (Vx _))))) (Vs _ (Vv J)))
  rintro ⟨q, f, acc, u⟩ hI
  try dsimp only [List.cons_append, List.nil_append] at hI ⊢
  obtain ⟨h1, h2, h3, hu⟩ := hI
  have hq1 := h1.1
  have hb1 := h1.2.1
  have hb2 := h1.2.2.1
  have hle : (Pa.cellss acc).length ≤ 200000 := by rw [Pa.cellss_len]; omega
  refine Zg (Zg (Zc (Za 19 J J J (Zd J J (Za 20 J J J (Zd J J (Zl 21 J J J J J (Zd J J (Zl 22 J J J J J (op_callkb (xs := [.tmp 21, .const (.int .i64 1)]) [2] J J J (starts_c b L q 1) by1 ?_)))))))))); intro c22 h22
  refine Za 23 J J J (Zn J J J (Vp (Zb ?_)))
  rcases Zi h22 with ⟨rfl, g22⟩ | ⟨rfl, g22⟩
  ·refine Zr J (Xc (Xd (Xv (Xe (Zb (Zg (Zc (Za 31 J J J (Zd J J (Za 32 J J J (Yj J J (Za 33 J J J (Zh J tf_95_2 J (Za 34 J J J (Zq (i := 2) J Xb J J J (Za 35 J J J (op_sub J J J (Ug _ (by omega)) ?_)))))))))))))))))
   refine Za 36 J J J (Yj J J (Za 37 J J J (Zh J tf_95_2 J (Zs J J (Zo (i := 2) J Wi J J J J J (Uc J) J (Vp (Zb (Zg (Zc (Za 38 J J J (Zx (cs' := [_, _, _, _, _]) (i := 0) J ta_184 J J J J (Zs J J (Zo (cs' := [_, _, _, _, _]) (i := 1) J ts_184 J J J J J (Uc J) J ?_)))))))))))))
   refine Vp (Zb (Ya ?_))
   rw [patsL_end g22] at hu; subst hu; exact Yl (i := 1) rfl rfl rfl ta_184 rfl (Le.agg (Vy (Vw _) (Vy (Vw _) (Vy (Vw _) (Vy (Le.own _ _ _) (Vx _)))))) (Vt _ (Vt _ (Vs _ (Vr _)))) ⟨rfl, rfl⟩
  ·refine Zt J (Zv (Zb (Zz ?_)))
   obtain ⟨f, rfl⟩ : ∃ f', f = f' + 1 := ⟨f - 1, by omega⟩
   rw [patsL_go g22] at hu
   have b1 := apat_lt HA h1 g22
   have b2 := apat_adv HA h1
   have l2 := b2.ok h1
   have HA2 := apat_c b L hL n T HT HA q h1
   obtain ⟨⟨⟨yk, ys, yn, yl, yp⟩, q2⟩, e2⟩ : ∃ r, apatG L T q = r := ⟨_, rfl⟩
   rw [e2] at HA2 hu l2 b1
   simp only [Pa.cells] at HA2
   simp only [] at b1 l2
   have l3 := l2.1
   refine Xw [0, 1, 2, 3, 4, 5, 6, 7] [3, 5, 7] [[], [0], [], [2], [2, 3], [0, 1, 2, 3, 4], [0, 1, 2, 3, 4, 5], [0, 1, 2, 3, 4, 5, 6]] Wr J (Yb 24 (none) (i := 0) J J J J J (Zh J tf_184_3 J ⟨J, J⟩) ?_)
   refine Yb 25 (some 0) (i := 1) J J J J J (Zq (i := 0) J ta_182 J J J ⟨J, J⟩) ?_
   refine Yb 26 (none) (i := 2) J J J J J (Zd J J ⟨J, J⟩) ?_
   refine Xn 2 (i := 3) J J J J J (Yg (xs := [.tmp 26]) (i := 0) J J J (HA2) by1 ⟨_, J, ?_⟩)
   refine Yb 28 (none) (i := 4) J J J J J (Yi (xs := [.tmp 27]) el_182 J J J J J J (Uc J) ⟨J, J⟩) ?_
   refine Xn 3 (i := 5) J J J J J (Xj (i := 0) el_182 J J J J (.seq _ _) by6 (fun u29 => ⟨_, J, ?_⟩))
   refine Yb 30 (none) (i := 6) J J J J J (Zh J tf_184_3 J ⟨J, J⟩) ?_
   refine Xn 0 (i := 7) J J J J J (Zo (cs' := [_, _, _, _, _]) (i := 0) J ts_182 J J J J J (Uc J) J ⟨_, J, ?_⟩)
   show AGo _ _ _ _ _ _ _
   refine Yv (Xa ?_)
   refine ⟨(q2, f, acc ++ [Pa.mk yk ys yn yl yp], u29), ⟨l2, (by show L.length - q2.at_ < f; omega), (by show (acc ++ [Pa.mk yk ys yn yl yp]).length ≤ q2.at_; rw [List.length_append]; simp; omega), hu⟩, Nat.lt_succ_self f, by4, (Vu _ (Vy (Vw _) (Vy (Vw _) (Vy (Vw _) (Vy (Ub (by rw [Pa.cellss_app']; rfl)) (Vx _))))) (Vs _ (Vv J)))⟩
 ·exact absurd he g9
theorem pat_c (b : Nat) (L : List Tok) (hL : L.length ≤ 100000) : ∀ n, PaC b L n (patF L n)
 | 0, p, k => pat_err b L p (fun e => by have := k.2.2.2 e; omega)
 | n + 1, p, k => by
  by_cases he : p.e = 0
  ·rw [patF, if_neg (by rw [he]; simp)]
   by_cases hk : (nxt L (deeperP L p)).k = 2
   ·rw [if_pos hk]; exact pat_con b L hL n (patF L n) (pat_c b L hL n) (patF_adv n) p k he hk _ rfl
   ·rw [if_neg hk]; exact pat_non b L hL n (patF L n) (pat_c b L hL n) (patF_adv n) p k he hk
  ·rw [patF, if_pos he]; exact pat_err b L p he
theorem patP_c (b : Nat) (L : List Tok) (hL : L.length ≤ 100000) (n : Nat) (p : PS) (k : POk L n p) : MCall Tryz.prog 131 [.ptr b 0] (.loc b (psC L p)) (.agg (patP L p).1.cells) (.loc b (psC L (patP L p).2)) := pat_c b L hL 302 p (k.up (by decide))
end Go.Proofs.YtknodnfbaofngaaGreat
namespace Go.Proofs.YtknodnfbaofngaaGreat
open Go.RowKit
def rowT (i : Nat) : List (List UInt8) := rowsT.getD i []
structure TblAt (w : World) (B : Nat) : Prop where
 row : ∀ i, i < 7 → w.cell? ⟨B + 7, i, none⟩ = some (.slice (some ⟨B + i, 0, none⟩) (rowT i).length (rowT i).length)
 str : ∀ i, i < 7 → ∀ k, k < (rowT i).length → w.cell? ⟨B + i, k, none⟩ = some (.string ⟨((rowT i).getD k []).toArray⟩)
theorem seven {i : Nat} (h : i < 7) : i = 0 ∨ i = 1 ∨ i = 2 ∨ i = 3 ∨ i = 4 ∨ i = 5 ∨ i = 6 := by omega
theorem rowlen (i : Nat) (h : i < 7) : (rowT i).length ≤ 6 := by
 rcases seven h with rfl | rfl | rfl | rfl | rfl | rfl | rfl <;> decide
def missTo (op : List UInt8) (i : Nat) : Prop := ∀ j, j < 7 → j < i → (rowT j).contains op = false
theorem rowT_get {j : Nat} (h : j < rowsT.length) : rowsT[j] = rowT j := by simp [rowT, List.getD, h]
theorem lvl_at {op : List UInt8} {i : Nat} (hi : i < 7) (hm : missTo op i) (hc : (rowT i).contains op = true) : lvl op = i + 1 := by
 unfold lvl
 congr 1
 have hi' : i < rowsT.length := hi
 rw [List.findIdx_eq hi']
 refine ⟨by rw [rowT_get hi']; exact hc, fun j hj => ?_⟩
 have hj' : j < rowsT.length := by omega
 rw [rowT_get hj']
 exact hm j hj' hj
theorem lvl_8 {op : List UInt8} (hm : missTo op 7) : lvl op = 8 := by
 unfold lvl
 have : rowsT.findIdx (fun r => r.contains op) = rowsT.length := by
  rw [List.findIdx_eq_length]
  intro r hr
  obtain ⟨j, hj, rfl⟩ := List.getElem_of_mem hr
  rw [rowT_get hj]
  exact hm j hj hj
 rw [this]; rfl
theorem miss_row {op : List UInt8} {i : Nat} (h : ∀ k, k < (rowT i).length → (rowT i).getD k [] ≠ op) : (rowT i).contains op = false := by
 rw [List.contains_eq_mem, decide_eq_false_iff_not]
 intro hm
 obtain ⟨k, hk, e⟩ := List.getElem_of_mem hm
 exact h k hk (by simp [List.getD, hk, e])
theorem hit_row {op : List UInt8} {i k : Nat} (hk : k < (rowT i).length) (h : (rowT i).getD k [] = op) : (rowT i).contains op = true := by
 rw [List.contains_eq_mem, decide_eq_true_eq]
 have : (rowT i)[k] = op := by simpa [List.getD, hk] using h
 rw [← this]; exact List.getElem_mem hk
set_option maxHeartbeats 4000000 in
theorem rLevel_c (s : ByteArray) (w : World) : Calls Tryz.prog 125 #[.string s] w fun e w' => e = .returned (.int .i64 (lvl s.toList : Nat)) ∧ Below w.heap.size w w' := by
 go_enter Tryz.func125, Tryz.ntmps125
 go_wp2
 go_loopw [4, 5] (fun vi _ wr => ∃ i : Nat, i ≤ 7 ∧ vi = .int .i64 i ∧ missTo s.toList i ∧ TblAt wr w.heap.size ∧ Below w.heap.size w wr) (fun vi _ _ => 7 - (intOf vi).toNat)
 case atStart =>
  refine ⟨0, by omega, J, fun j h hj => by omega, ⟨?_, ?_⟩, ?_⟩
  ·intro i h
   rw [World.cell?_alloc_at _ _ _ _ (by simp only [World.size_alloc])]
   rcases seven h with rfl | rfl | rfl | rfl | rfl | rfl | rfl <;> rfl
  ·intro i h k hk
   rcases seven h with rfl | rfl | rfl | rfl | rfl | rfl | rfl
   all_goals
    have hk6 : k = 0 ∨ k = 1 ∨ k = 2 ∨ k = 3 ∨ k = 4 ∨ k = 5 := by have := rowlen _ h; omega
    rcases hk6 with rfl | rfl | rfl | rfl | rfl | rfl
    all_goals first | (exact absurd hk (by decide)) | skip
    all_goals
     repeat (rw [World.cell?_alloc_past _ _ _ (by simp only [World.size_alloc]; omega)])
     rw [World.cell?_alloc_at _ _ _ _ (by first | rfl | (simp only [World.size_alloc]; done) | (simp only [World.size_alloc]; omega))]
     rfl
  ·exact (((((((((Below.refl _ _).alloc (Nat.le_refl _) _).alloc (by simp) _).alloc (by simp; omega) _).alloc (by simp; omega) _).alloc (by simp; omega) _).alloc (by simp; omega) _).alloc (by simp; omega) _).alloc (by simp; omega) _)
 case round =>
  obtain ⟨i, hi, rfl, hm, hT, hbel⟩ := hrel
  by_cases hi7 : i < 7
  ·have hr := hT.row i hi7
   have hl := rowlen i hi7
   obtain ⟨n, hn⟩ : ∃ n, n = (rowT i).length := ⟨_, rfl⟩
   rw [← hn] at hr hl
   have HN := Lib.hid hn
   have HM := Lib.hid hm
   clear hn hm
   have d1 : decide ((i : Int) < 7) = true := by simp; omega
   go_wp2
   go_loop [5] (fun vk => ∃ k : Nat, k ≤ n ∧ vk = .int .i64 k ∧ ∀ j, j < k → (rowT i).getD j [] ≠ s.toList) (fun vk => n - (intOf vk).toNat)
   case atStart => exact ⟨0, by omega, rfl, fun j hj => by omega⟩
   case round =>
    obtain ⟨k, hk, rfl, hmk⟩ := hrel
    have HMK := Lib.hid hmk
    clear hmk
    by_cases hkn : k < n
    ·have cs := hT.str i hi7 k (by rw [← HN.out]; exact hkn)
     obtain ⟨sk, hsk⟩ : ∃ sk : ByteArray, sk = ⟨((rowT i).getD k []).toArray⟩ := ⟨_, rfl⟩
     have es : sk.toList = (rowT i).getD k [] := by rw [ByteArray.toList_eq, hsk]
     rw [← hsk] at cs
     clear hsk
     have HES := Lib.hid es
     clear es
     by_cases heq : (sk.toList == s.toList) = true
     ·go_wp2
      go_ret
      have h1 : (rowT i).getD k [] = s.toList := by rw [← HES.out]; simpa using heq
      exact ⟨by rw [lvl_at hi7 HM.out (hit_row (by rw [← HN.out]; exact hkn) h1)]; rfl, hbel⟩
     ·have heq' : (sk.toList == s.toList) = false := by simpa using heq
      clear heq
      go_wp2
      go_round
      case rel => exact ⟨k + 1, by omega, by go_num, fun j hj => by
       by_cases e : j = k
       ·subst e; rw [← HES.out]; exact beq_eq_false_iff_ne.1 heq'
       ·exact HMK.out j (by omega)⟩
      case measure => simp [intOf]; omega
    ·go_wp2
     go_roundw
     case rel => exact ⟨i + 1, by omega, by go_num, fun j h hj => by
      by_cases e : j = i
      ·subst e; exact miss_row (fun k' hk' => HMK.out k' (by have := HN.out; omega))
      ·exact HM.out j h (by omega), hT, hbel⟩
     case measure => simp [intOf]; omega
  ·have he : i = 7 := by omega
   subst he
   go_wp2
   go_ret
   exact ⟨by rw [lvl_8 hm]; rfl, hbel⟩
theorem Level_p (s : ByteArray) : PCall Tryz.prog 125 [.val (.string s)] (.val (.int .i64 (lvl s.toList : Nat))) :=
 PCall.of_calls (vs := [.string s]) (enters_of Tryz.func125 (by kernel_rfl) rfl) (fun w => rLevel_c s w)
theorem Level_at (ops : List Tok) (i : Nat) : PCall Tryz.prog 125 [.val (.string ((ops[i]?).getD (tok0 0)).t)] (.val (.int .i64 (lvT ops i : Nat))) := Level_p _
theorem strs_at {ops : List Tok} {i : Nat} (h : i < ops.length) : (strs (ops.map Tok.t))[i]? = some [.val (.string ((ops[i]?).getD (tok0 0)).t)] := by
 simp [strs, List.getElem?_eq_getElem h]
theorem sideN_8 (l : Nat) : ((sideN l : Nat) : Int) = if (l : Int) = 4 then 0 else if (l : Int) < 6 then 2 else 1 := by
 unfold sideN
 repeat' split
 all_goals first | rfl | omega
theorem back_eq {lv : Nat → Nat} {j : Nat} (h : ¬ (0 < j ∧ 4 < lv (j - 1))) : backL lv j = true ↔ (0 < j ∧ lv (j - 1) = 4) := by
 cases j with
 | zero => simp [backL]
 | succ j =>
  simp only [Nat.add_sub_cancel] at h ⊢
  rw [backL, if_neg (fun q => h ⟨Nat.succ_pos j, q⟩)]
  simp
set_option maxHeartbeats 4000000 in
set_option maxRecDepth 100000 in
theorem Side_p (l : Nat) : PCall Tryz.prog 126 [.val (.int .i64 (l : Nat))] (.val (.int .i64 (sideN l : Nat))) := by
 rw [sideN_8]
 refine Zw Tryz.func126 J (by kernel_rfl) J (Uc J) ?_
 refine Ye (Zg (Zc (Za 2 J J J (Ze J J (Vp (Zb (Zg (Zg (Zc (Za 3 J J J (Zd J J (Za 4 J J J (Yr J J J ?_))))))))))))); intro c4 h4
 refine Vp (Zb ?_)
 rcases Zi h4 with ⟨rfl, g4⟩ | ⟨rfl, g4⟩
 ·refine Zr J (Zv (Zb (Zg (Zg (Zc (Za 5 J J J (Zd J J (Za 6 J J J (Yt J J J ?_))))))))); intro c6 h6
  refine Vp (Zb ?_)
  rcases Zi h6 with ⟨rfl, g6⟩ | ⟨rfl, g6⟩
  ·exact Zr J (Zv (Zb (Zg (Zc (Za 2 J J J (Ze J J (Vp (Zb (Ya (Yh J J (Vw _) by3 ⟨by rw [if_neg g4, if_neg g6], J⟩))))))))))
  ·exact Zt J (Zg (Zc (Za 2 J J J (Ze J J (Vp (Zb (Ya (Yh J J (Vw _) by3 ⟨by rw [if_neg g4, if_pos g6], J⟩))))))))
 ·exact Zt J (Zg (Zc (Za 2 J J J (Ze J J (Vp (Zb (Ya (Yh J J (Vw _) by3 ⟨by rw [if_pos g4], J⟩))))))))
set_option maxHeartbeats 4000000 in
set_option maxRecDepth 100000 in
theorem Clash_p (ops : List Tok) (h : ops.length ≤ 200000) : PCall Tryz.prog 106 [.seq 1 (strs (ops.map Tok.t))] (.val (.int .i64 (clashP ops))) := by
 have hl : (strs (ops.map Tok.t)).length = ops.length := by simp [strs]
 have hC : clashP ops = clashL (lvT ops) (ops.length - 0) 0 := rfl
 generalize clashP ops = r at *
 refine Zw Tryz.func106 J (by kernel_rfl) J (Uc J) ?_
 refine Ye (Zg (Zc (Za 2 J J J (Ze J J (Vp (Zb (Zg (Zg (Zc (Za 3 J J J (Ze J J (Vp (Zb (Zz ?_))))))))))))))
 apply Xl [1, 2, 3, 4, 5, 6, 7, 8, 9, 10, 11, 12, 13, 14, 15, 16, 17, 18, 19, 20, 21, 22, 23, 24, 25, 26, 27, 28, 29, 30, 31, 32, 33, 34, 35, 36, 37, 38, 39, 40, 41] (σ := Nat) (fun zz => match zz with | k => [(3, .val (.int .i64 k))]) (fun zz => match zz with | k => k ≤ ops.length ∧ r = clashL (lvT ops) (ops.length - k) k) (fun zz => match zz with | k => ops.length - k) (0)
 ·repeat' (first | exact Uf | apply Ud rfl | apply Ue rfl)
 ·exact ⟨Nat.zero_le _, hC⟩
 ·exact by4
 rintro k hI
 try dsimp only [List.cons_append, List.nil_append] at hI ⊢
 obtain ⟨h1, hu⟩ := hI
 refine Zg (Zg (Zc (Za 5 J J J (Zd J J (Za 6 J J J (Zd J J ?_))))))
 refine Za 7 J J J (Yy J tu_68 J (.seq _ _) (fun n7 => ?_))
 refine Za 8 J J J (Yt J J J ?_); intro c8 h8
 refine Vp (Zb ?_)
 rcases Zi h8 with ⟨rfl, g8⟩ | ⟨rfl, g8⟩
 ·refine Zr J (Xc (Xd (Xv (Xe (Zb (Zg (Zc (Za 2 J J J (Ze J J (Vp (Zb (Ya ?_))))))))))))
  rw [show ops.length - k = 0 by omega, clashL] at hu; exact Yh rfl rfl (Vw _) by3 ⟨by rw [hu], rfl⟩
 ·refine Zt J (Zv (Zb (Zg (Zz (Zg (Zg ?_))))))
  obtain ⟨d, hd⟩ : ∃ d, ops.length - k = d + 1 := ⟨ops.length - k - 1, by omega⟩
  rw [hd, clashL] at hu
  have hd2 : d = ops.length - (k + 1) := by omega
  rw [hd2] at hu
  refine Zc (Za 11 J J J (Zd J J (Za 12 J J J (Zd J J (Za 13 J J J (Yc J te_68 J (.seq _ _) J J (strs_at (ops := ops) (i := k) (by omega)) ?_))))))
  refine Za 14 J J J (Zp J Yz J J (Za 15 J J J (Yp (xs := [.tmp 14]) J J (Level_at ops k) by1 ?_)))
  refine Za 16 J J J (Xq J J J ?_); intro c16 h16
  refine Vp (Zb ?_)
  rcases Zi h16 with ⟨rfl, g16⟩ | ⟨rfl, g16⟩
  ·refine Zr J (Zv (Zb (Zg (Zc (Za 17 J J J (Zd J J (Za 18 J J J (op_sub J J J (Ug _ (by omega)) ?_))))))))
   refine Za 4 J J J (Ze J J (Vp (Zb (Zg (Zz ?_)))))
   apply Xl [1, 4, 19, 20, 21, 22, 23, 24, 25, 26, 27, 28, 29, 30] (σ := Nat) (fun zz => match zz with | j => [(4, .val (.int .i64 ((j : Int) - 1)))]) (fun zz => match zz with | j => j ≤ k ∧ backL (lvT ops) k = backL (lvT ops) j) (fun zz => match zz with | j => j) (k)
   ·repeat' (first | exact Uf | apply Ud rfl | apply Ue rfl)
   ·exact ⟨Nat.le_refl _, J⟩
   ·exact by4
   rintro j hI
   try dsimp only [List.cons_append, List.nil_append] at hI ⊢
   obtain ⟨h2, hb⟩ := hI
   refine Zg (Zg (Xm 28 (0 < j ∧ 4 < lvT ops (j - 1)) ?_ _ _ J ?_))
   ·skip
    refine Za 19 J J J (Zd J J (Za 20 J J J (Wa J J J ?_))); intro c20 h20
    refine Za 21 J J J (Zd J J ?_)
    rcases Zi h20 with ⟨rfl, g20⟩ | ⟨rfl, g20⟩
    ·skip
     refine Zk 22 J J J J J (Zk 23 J J J J J (Zk 24 J J J J J (Zk 25 J J J J J (Zk 26 J J J J J (Zk 27 J J J J J ?_)))))
     refine Za 28 J J J (Zn J J J (Vp (Ua J ?_ by5 by3)))
     first | (simp_all; done) | (simp_all; omega) | grind
    ·skip
     refine Zl 22 J J J J J (Zd J J (Zl 23 J J J J J (Zd J J ?_)))
     refine Zl 24 J J J J J (Yc (i := (j - 1)) J te_68 J (.seq _ _) J (by first | rfl | omega) (strs_at (ops := ops) (i := j - 1) (by omega)) ?_)
     refine Zl 25 J J J J J (Zp J Yz J J (Zl 26 J J J J J (Yp (xs := [.tmp 25]) J J (Level_at ops (j - 1)) by1 ?_)))
     refine Zl 27 J J J J J (Ww J J J ?_); intro c27 h27
     refine Za 28 J J J (Zn J J J (Vp (Ua J ?_ by5 by3)))
     first | (simp_all; done) | (simp_all; omega) | grind
   intro c28 h28
   refine Zb ?_
   rcases Zi h28 with ⟨rfl, g28⟩ | ⟨rfl, g28⟩
   ·refine Zr J (Xc (Xd (Xv (Xe (Zb (Zg (Xm 40 (0 < j ∧ lvT ops (j - 1) = 4) ?_ _ _ J ?_)))))))
    ·skip
     refine Za 31 J J J (Zd J J (Za 32 J J J (Wa J J J ?_))); intro c32 h32
     refine Za 33 J J J (Zd J J ?_)
     rcases Zi h32 with ⟨rfl, g32⟩ | ⟨rfl, g32⟩
     ·skip
      refine Zk 34 J J J J J (Zk 35 J J J J J (Zk 36 J J J J J (Zk 37 J J J J J (Zk 38 J J J J J (Zk 39 J J J J J ?_)))))
      refine Za 40 J J J (Zn J J J (Vp (Ua J ?_ by5 by3)))
      first | (simp_all; done) | (simp_all; omega) | grind
     ·skip
      refine Zl 34 J J J J J (Zd J J (Zl 35 J J J J J (Zd J J ?_)))
      refine Zl 36 J J J J J (Yc (i := (j - 1)) J te_68 J (.seq _ _) J (by first | rfl | omega) (strs_at (ops := ops) (i := j - 1) (by omega)) ?_)
      refine Zl 37 J J J J J (Zp J Yz J J (Zl 38 J J J J J (Yp (xs := [.tmp 37]) J J (Level_at ops (j - 1)) by1 ?_)))
      refine Zl 39 J J J J J (Yr J J J ?_); intro c39 h39
      refine Za 40 J J J (Zn J J J (Vp (Ua J ?_ by5 by3)))
      first | (simp_all; done) | (simp_all; omega) | grind
    intro c40 h40
    refine Zb ?_
    rcases Zi h40 with ⟨rfl, g40⟩ | ⟨rfl, g40⟩
    ·refine Zr J (Zv (Yv (Zb (Zc (Za 9 J J J (Zd J J (Za 10 J J J (Yw J J J (Ug _ (by omega)) ?_))))))))
     refine Za 3 J J J (Ze J J (Vp (Xa ?_)))
     have hu2 : r = clashL (lvT ops) (ops.length - (k + 1)) (k + 1) := by
      first
       | (rw [if_neg (fun q => g40 ((back_eq g28).1 (by rw [← hb]; exact q.2)))] at hu; exact hu)
       | (rw [if_neg (fun q => g16 (by omega))] at hu; exact hu)
     exact ⟨k + 1, ⟨by omega, hu2⟩, by show ops.length - (k + 1) < ops.length - k; omega, Vz J (Le.inteq (by omega)) by4, by3⟩
    ·refine Zt J (Zg (Zc (Za 41 J J J (Zd J J (Za 2 J J J (Ze J J (Vp (Zb (Ya ?_)))))))))
     rw [if_pos ⟨by omega, by rw [hb]; exact (back_eq g28).2 g40⟩] at hu; exact Yh rfl rfl (Vw _) by3 ⟨by rw [hu], rfl⟩
   ·refine Zt J (Zv (Zb (Zz ?_)))
    obtain ⟨j, rfl⟩ : ∃ j', j = j' + 1 := ⟨j - 1, by omega⟩
    simp only [Nat.add_sub_cancel] at g28
    rw [backL, if_pos g28.2] at hb
    refine Zc (Za 29 J J J (Zd J J (Za 30 J J J (op_sub J J J (Ug _ (by omega)) ?_))))
    refine Za 4 J J J (Ze J J (Vp (Yv (Xa ?_))))
    exact ⟨j, ⟨by omega, hb⟩, Nat.lt_succ_self j, Vz J (Le.inteq (by omega)) by4, by3⟩
  ·refine Zt J (Xc (Xd (Xe (Zb (Zc (Za 9 J J J (Zd J J (Za 10 J J J (Yw J J J (Ug _ (by omega)) ?_)))))))))
   refine Za 3 J J J (Ze J J (Vp (Xa ?_)))
   have hu2 : r = clashL (lvT ops) (ops.length - (k + 1)) (k + 1) := by
    first
     | (rw [if_neg (fun q => g40 ((back_eq g28).1 (by rw [← hb]; exact q.2)))] at hu; exact hu)
     | (rw [if_neg (fun q => g16 (by omega))] at hu; exact hu)
   exact ⟨k + 1, ⟨by omega, hu2⟩, by show ops.length - (k + 1) < ops.length - k; omega, Vz J (Le.inteq (by omega)) by4, by3⟩
abbrev zEx : List AV := [.val (.int .i64 0), .val (.string kE), .val (.int .i64 0), .val (.int .i64 0), .val (.string kE), .val (.int .i64 0), .val (.slice none 0 0), .val (.slice none 0 0), .val (.slice none 0 0), .val (.slice none 0 0), .val (.int .i64 0)]
theorem rootB_in (ops : List Tok) : ∀ (f a i lo : Nat), lo ≤ a → a < i → lo ≤ rootB ops f a i ∧ rootB ops f a i < i + f
 | 0, a, i, lo, h1, h2 => ⟨h1, h2⟩
 | f + 1, a, i, lo, h1, h2 => by
  unfold rootB
  split
  ·have := rootB_in ops f i (i + 1) lo (by omega) (Nat.lt_succ_self i); omega
  ·have := rootB_in ops f a (i + 1) lo h1 (by omega); omega
theorem toks_at {ops : List Tok} {i : Nat} (h : i < ops.length) : (ops.map Tok.av)[i]? = some ((ops[i]?).getD (tok0 0)).av := by
 simp [List.getElem?_eq_getElem h]
theorem exs_at {l : List Ex} {i : Nat} (h : i < l.length) : (Ex.cellss l)[i]? = some ((l[i]?).getD ex0).cells := by
 rw [Ex.cellss_map]; simp [List.getElem?_eq_getElem h]
set_option maxHeartbeats 4000000 in
set_option maxRecDepth 100000 in
theorem Build_one (l : List Ex) (ops : List Tok) (hl : l.length = ops.length + 1) (a : Nat) (ha : a ≤ ops.length) : PCall Tryz.prog 107 [.seq 11 (Ex.cellss l), .seq 4 (ops.map Tok.av), .val (.int .i64 a), .val (.int .i64 a)] (.agg ((l[a]?).getD ex0).cells) := by
 have hx := exs_at (l := l) (i := a) (by omega)
 obtain ⟨⟨xk, xs, xn, ⟨xtk, xts, xtn, xtl⟩, xks, xal, xbs, xp⟩, e⟩ : ∃ x, (l[a]?).getD ex0 = x := ⟨_, rfl⟩
 rw [e] at hx ⊢
 refine Zw Tryz.func107 J (by kernel_rfl) J (Uc J) ?_
 refine Ye (Zg (Zc (Za 8 J J J (Zy (cs' := [_, _, _, _, _, _, _, _, _, _, _]) J Xz J J ?_)))); intro b8
 refine Vp (Zb (Zg (Zg (Zc (Za 17 J J J (Zd J J (Za 18 J J J (Zd J J (Za 19 J J J (Yr J J J ?_)))))))))); intro c19 h19
 refine Vp (Zb ?_)
 rcases Zi h19 with ⟨rfl, g19⟩ | ⟨rfl, g19⟩
 ·exact absurd J g19
 ·refine Zt J (Zg (Zc (Za 20 J J J (Zd J J (Za 21 J J J (Zd J J (Za 22 J J J (Yc J te_107 J (.seq _ _) J J (hx) (Za 23 J J J (Yd (cs' := [_, _, _, _, _, _, _, _, _, _, _]) J Wd J J J (Zs J J (Zo (cs' := [_, _, _, _, _, _, _, _, _, _, _]) (i := 0) J Wk J J J J J (Uc J) J ?_))))))))))))
  exact Vp (Zb (Ya (Yl (i := 0) J J J Wd J (Vw _) by3 ⟨J, J⟩)))
set_option maxHeartbeats 4000000 in
set_option maxRecDepth 100000 in
theorem Build_two (l : List Ex) (ops : List Tok) (hL : ops.length ≤ 200000) (a b d : Nat) (hab : a < b) (hb : b ≤ ops.length) (hd : b - a ≤ d + 1)
    (IH : ∀ a b, a ≤ b → b ≤ ops.length → b - a ≤ d → PCall Tryz.prog 107 [.seq 11 (Ex.cellss l), .seq 4 (ops.map Tok.av), .val (.int .i64 a), .val (.int .i64 b)] (.agg (buildF l ops d a b).cells)) :
    PCall Tryz.prog 107 [.seq 11 (Ex.cellss l), .seq 4 (ops.map Tok.av), .val (.int .i64 a), .val (.int .i64 b)] (.agg (buildF l ops (d + 1) a b).cells) := by
 rw [buildF, if_neg (by omega)]
 obtain ⟨r, hr⟩ : ∃ r, rootB ops (b - (a + 1)) a (a + 1) = r := ⟨_, rfl⟩
 have hin := rootB_in ops (b - (a + 1)) a (a + 1) a (Nat.le_refl _) (Nat.lt_succ_self a)
 rw [hr] at hin ⊢
 have H1 := IH a r hin.1 (by omega) (by omega)
 have H2 := IH (r + 1) b (by omega) hb (by omega)
 have hop := toks_at (ops := ops) (i := r) (by omega)
 obtain ⟨⟨xk, xs, xn, ⟨xtk, xts, xtn, xtl⟩, xks, xal, xbs, xp⟩, e1⟩ : ∃ x, buildF l ops d a r = x := ⟨_, rfl⟩
 obtain ⟨⟨yk, ys, yn, ⟨ytk, yts, ytn, ytl⟩, yks, yal, ybs, yp⟩, e2⟩ : ∃ x, buildF l ops d (r + 1) b = x := ⟨_, rfl⟩
 obtain ⟨⟨ok, ot, on, oa⟩, e3⟩ : ∃ x, (ops[r]?).getD (tok0 0) = x := ⟨_, rfl⟩
 rw [e1] at H1 ⊢
 rw [e2] at H2 ⊢
 rw [e3] at hop ⊢
 simp only [Ex.cells, Ty.cells, List.cons_append, List.nil_append, Tok.av] at H1 H2 hop
 clear IH
 obtain ⟨z, hz⟩ : ∃ z, binE (Tok.mk ok ot on oa) (Ex.mk xk xs xn (Ty.mk xtk xts xtn xtl) xks xal xbs xp) (Ex.mk yk ys yn (Ty.mk ytk yts ytn ytl) yks yal ybs yp) = z := ⟨_, rfl⟩
 rw [hz]
 unfold binE at hz
 simp only [] at hz
 refine Zw Tryz.func107 J (by kernel_rfl) J (Uc J) ?_
 refine Ye (Zg (Zc (Za 8 J J J (Zy (cs' := [_, _, _, _, _, _, _, _, _, _, _]) J Xz J J ?_)))); intro b8
 refine Vp (Zb (Zg (Zg (Zc (Za 17 J J J (Zd J J (Za 18 J J J (Zd J J (Za 19 J J J (Yr J J J ?_)))))))))); intro c19 h19
 refine Vp (Zb ?_)
 rcases Zi h19 with ⟨rfl, g19⟩ | ⟨rfl, g19⟩
 ·refine Zr J (Zv (Zb (Zg (Zc (Za 24 J J J (Zd J J (Za 9 J J J (Ze J J (Vp (Zb (Zg (Zg (Zc (Za 25 J J J (Zd J J (Za 26 J J J (Yw J J J (Ug _ (by omega)) ?_)))))))))))))))))
  refine Za 10 J J J (Ze J J (Vp (Zb (Zz ?_))))
  apply Xl [4, 5, 6, 7, 9, 10, 11, 12, 17, 18, 19, 20, 21, 22, 23, 24, 25, 26, 27, 28, 29, 30, 31, 32, 33, 34, 35, 36, 37, 38, 39, 40, 41, 42, 43, 44, 45, 46, 47, 48, 49, 50, 51, 52, 53, 54, 55, 56, 57] (σ := Nat × Nat) (fun zz => match zz with | (t, i) => [(9, .val (.int .i64 t)), (10, .val (.int .i64 i))]) (fun zz => match zz with | (t, i) => a ≤ t ∧ t < i ∧ i ≤ b ∧ rootB ops (b - i) t i = r) (fun zz => match zz with | (t, i) => b - i) ((a, a + 1))
  ·repeat' (first | exact Uf | apply Ud rfl | apply Ue rfl)
  ·exact ⟨Nat.le_refl _, Nat.lt_succ_self a, hab, hr⟩
  ·exact by4
  rintro ⟨t, i⟩ hI
  try dsimp only [List.cons_append, List.nil_append] at hI ⊢
  obtain ⟨h1, h2, h3, hu⟩ := hI
  refine Zg (Zg (Zc (Za 27 J J J (Zd J J (Za 28 J J J (Zd J J (Za 29 J J J (Yt J J J ?_)))))))); intro c29 h29
  refine Vp (Zb ?_)
  rcases Zi h29 with ⟨rfl, g29⟩ | ⟨rfl, g29⟩
  ·refine Zr J (Xc (Xd (Xv (Xe (Zb (Zg ?_))))))
   rw [show b - i = 0 by omega, rootB] at hu
   subst hu
   refine Zc (Za 58 J J J (Zd J J (Za 59 J J J (Zd J J (Za 60 J J J (Zd J J (Za 61 J J J (Zd J J (Za 62 J J J (Yp (xs := [.tmp 58, .tmp 59, .tmp 60, .tmp 61]) J J (H1) by1 ?_))))))))))
   refine Za 13 J J J (Zy (cs' := [_, _, _, _, _, _, _, _, _, _, _]) J Xz J J ?_); intro b13
   refine Zs J J (Zo (cs' := [_, _, _, _, _, _, _, _, _, _, _]) (i := 0) J Wk J J J J J (Uc J) J (Vp (Zb (Zg (Zc (Za 63 J J J (Zd J J (Za 64 J J J (Zd J J (Za 65 J J J (Zd J J (Za 66 J J J (Yw J J J (Ug _ (by omega)) ?_)))))))))))))
   refine Za 67 J J J (Zd J J (Za 68 J J J (Yp (xs := [.tmp 63, .tmp 64, .tmp 66, .tmp 67]) J J (H2) by1 ?_)))
   refine Za 14 J J J (Zy (cs' := [_, _, _, _, _, _, _, _, _, _, _]) J Xz J J ?_); intro b14
   refine Zs J J (Zo (cs' := [_, _, _, _, _, _, _, _, _, _, _]) (i := 0) J Wk J J J J J (Uc J) J (Vp (Zb (Zg (Zc (Za 69 J J J (Zd J J (Za 70 J J J (Zd J J (Za 71 J J J (Yc J te_93 J (.seq _ _) J J (hop) (Za 72 J J J (Yd (cs' := [_, _, _, _]) J Yq J J J ?_)))))))))))))
   refine Za 15 J J J (Zy (cs' := [_, _, _, _]) J Wf J J ?_); intro b15
   refine Zs J J (Zo (cs' := [_, _, _, _]) (i := 0) J Xk J J J J J (Uc J) J (Vp (Zb (Zg (Zg (Zc (Za 73 J J J (Zh J Xh J (Za 74 J J J (Zq (i := 0) J Yz J J J (Za 75 J J J (Xu J J J ?_)))))))))))); intro c75 h75
   refine Vp (Zb ?_)
   rcases Zi h75 with ⟨rfl, g75⟩ | ⟨rfl, g75⟩
   ·refine Zr J (Zv (Zb (Zg (Zg (Zc (Za 82 J J J (Zh J Xh J (Za 83 J J J (Zq (i := 0) J Yz J J J (Za 84 J J J (Xu J J J ?_))))))))))); intro c84 h84
    refine Vp (Zb ?_)
    rcases Zi h84 with ⟨rfl, g84⟩ | ⟨rfl, g84⟩
    ·refine Zr J (Zv (Zb (Zg (Zc (Za 91 J J J (Zh J Xh J (Za 92 J J J (Zq (i := 0) J Yz J J J (Za 93 J J J (Zh J Wt J (Za 94 J J J (Zq (i := 0) J Xb J J J (Za 95 J J J (Ym (ns := [0, 1, 7]) (xs := [.const (.int .i64 3), .tmp 92, .tmp 94]) J Xz J tfl_110 J J J J ?_))))))))))))))
     refine Za 16 J J J (Zy (cs' := [_, _, _, _, _, _, _, _, _, _, _]) J Xz J J ?_); intro b16
     refine Zs J J (Zo (cs' := [_, _, _, _, _, _, _, _, _, _, _]) (i := 0) J Wk J J J J J (Uc J) J (Vp (Zb (Zg (Zc (Za 96 J J J (Zx (cs' := [_, _, _, _, _, _, _, _, _, _, _]) (i := 0) J Wd J J J J (Za 97 J J J (Zx (cs' := [_, _, _, _, _, _, _, _, _, _, _]) (i := 3) J Wd J J J J (Za 98 J J J (Yi (xs := [.tmp 96, .tmp 97]) el_107 J J J J J J (Uc J) (Za 99 J J J (Zh J Wt J ?_)))))))))))))
     refine Za 100 J J J (Zq (i := 1) J Xb J J J (Za 101 J J J (Ym (ns := [0, 4, 7]) (xs := [.const (.int .i64 5), .tmp 98, .tmp 100]) J Xz J tfl_110 J J J J (Zs J J (Zo (cs' := [_, _, _, _, _, _, _, _, _, _, _]) (i := 0) J Wk J J J J J (Uc J) J (Vp (Zb (Zg (Zc (Za 102 J J J (Zx (cs' := [_, _, _, _, _, _, _, _, _, _, _]) (i := 0) J Wd J J J J (Za 103 J J J (Zx (cs' := [_, _, _, _, _, _, _, _, _, _, _]) (i := 2) J Wd J J J J ?_)))))))))))))
     refine Za 104 J J J (Yi (xs := [.tmp 102, .tmp 103]) el_107 J J J J J J (Uc J) (Za 105 J J J (Zh J Wt J (Za 106 J J J (Zq (i := 1) J Xb J J J (Za 107 J J J (Ym (ns := [0, 4, 7]) (xs := [.const (.int .i64 5), .tmp 104, .tmp 106]) J Xz J tfl_110 J J J J (Zs J J (Zo (cs' := [_, _, _, _, _, _, _, _, _, _, _]) (i := 4) J Wk J J J J J (Uc J) J (Vp (Zb ?_)))))))))))
     refine Ya ?_
     rw [if_neg g75, if_neg g84] at hz; subst hz; exact Yl (i := 4) rfl rfl rfl Wd rfl by0 by3 ⟨rfl, rfl⟩
    ·refine Zt J (Zg (Zc (Za 85 J J J (Zx (cs' := [_, _, _, _, _, _, _, _, _, _, _]) (i := 2) J Wd J J J J (Za 86 J J J (Zx (cs' := [_, _, _, _, _, _, _, _, _, _, _]) (i := 1) J Wd J J J J (Za 87 J J J (Yi (xs := [.tmp 85, .tmp 86]) el_107 J J J J J J (Uc J) (Za 88 J J J (Zh J Wt J (Za 89 J J J (Zq (i := 0) J Xb J J J ?_))))))))))))
     refine Za 90 J J J (Ym (ns := [0, 4, 7]) (xs := [.const (.int .i64 11), .tmp 87, .tmp 89]) J Xz J tfl_110 J J J J (Zs J J (Zo (cs' := [_, _, _, _, _, _, _, _, _, _, _]) (i := 3) J Wk J J J J J (Uc J) J (Vp (Zb (Ya ?_))))))
     rw [if_neg g75, if_pos g84] at hz; subst hz; exact Yl (i := 3) rfl rfl rfl Wd rfl by0 by3 ⟨rfl, rfl⟩
   ·refine Zt J (Zg (Zc (Za 76 J J J (Zx (cs' := [_, _, _, _, _, _, _, _, _, _, _]) (i := 2) J Wd J J J J (Za 77 J J J (Zx (cs' := [_, _, _, _, _, _, _, _, _, _, _]) (i := 1) J Wd J J J J (Za 78 J J J (Yi (xs := [.tmp 76, .tmp 77]) el_107 J J J J J J (Uc J) (Za 79 J J J (Zh J Wt J (Za 80 J J J (Zq (i := 0) J Xb J J J ?_))))))))))))
    refine Za 81 J J J (Ym (ns := [0, 4, 7]) (xs := [.const (.int .i64 10), .tmp 78, .tmp 80]) J Xz J tfl_110 J J J J (Zs J J (Zo (cs' := [_, _, _, _, _, _, _, _, _, _, _]) (i := 3) J Wk J J J J J (Uc J) J (Vp (Zb (Ya ?_))))))
    rw [if_pos g75] at hz; subst hz; exact Yl (i := 3) rfl rfl rfl Wd rfl by0 by3 ⟨rfl, rfl⟩
  ·refine Zt J (Zv (Zb (Zg (Zz (Zg (Zc (Za 32 J J J (Zd J J (Za 33 J J J (Zd J J (Za 34 J J J (Yc J te_93 J (.seq _ _) J J (toks_at (ops := ops) (i := t) (by omega)) ?_))))))))))))
   refine Za 35 J J J (Zj J Xh J J (Za 36 J J J (Zp J Yz J J (Za 37 J J J (Yp (xs := [.tmp 36]) J J (Level_at ops t) by1 ?_)))))
   refine Za 11 J J J (Ze J J (Vp (Zb (Zg (Zc (Za 38 J J J (Zd J J (Za 39 J J J (Zd J J (Za 40 J J J (Yc J te_93 J (.seq _ _) J J (toks_at (ops := ops) (i := i) (by omega)) ?_)))))))))))
   refine Za 41 J J J (Zj J Xh J J (Za 42 J J J (Zp J Yz J J (Za 43 J J J (Yp (xs := [.tmp 42]) J J (Level_at ops i) by1 ?_)))))
   refine Za 12 J J J (Ze J J (Vp (Zb (Zg (Xm 56 (lvT ops i < lvT ops t ∨ (lvT ops i = lvT ops t ∧ sideN (lvT ops t) = 1)) ?_ _ _ J ?_)))))
   ·skip
    refine Za 44 J J J (Zd J J (Za 45 J J J (Zd J J (Za 46 J J J (Yt J J J ?_))))); intro c46 h46
    refine Za 47 J J J (Zd J J ?_)
    rcases Zi h46 with ⟨rfl, g46⟩ | ⟨rfl, g46⟩
    ·skip
     refine Zl 48 J J J J J (Zd J J (Zl 49 J J J J J (Zd J J (Zl 50 J J J J J (Yr J J J ?_))))); intro c50 h50
     refine Zl 51 J J J J J (Zd J J ?_)
     rcases Zi h50 with ⟨rfl, g50⟩ | ⟨rfl, g50⟩
     ·skip
      refine Zk 52 J J J J J (Zk 53 J J J J J (Zk 54 J J J J J (Zl 55 J J J J J (Zn J J J (Za 56 J J J (Zn J J J (Vp ?_)))))))
      refine Ua J ?_ by5 by3
      clear H1 H2; first | (simp_all; done) | (simp_all; omega) | grind
     ·skip
      refine Zl 52 J J J J J (Zd J J (Zl 53 J J J J J (Yp (xs := [.tmp 52]) J J (Side_p (lvT ops t)) by1 ?_)))
      refine Zl 54 J J J J J (Yr J J J ?_); intro c54 h54
      refine Zl 55 J J J J J (Zn J J J (Za 56 J J J (Zn J J J (Vp (Ua J ?_ by5 by3)))))
      clear H1 H2; first | (simp_all; done) | (simp_all; omega) | grind
    ·skip
     refine Zk 48 J J J J J (Zk 49 J J J J J (Zk 50 J J J J J (Zk 51 J J J J J (Yk 52 J J J J J (Yk 53 J J J J J ?_)))))
     refine Yk 54 J J J J J (Zk 55 J J J J J (Za 56 J J J (Zn J J J (Vp (Ua J ?_ by5 by3)))))
     clear H1 H2; first | (simp_all; done) | (simp_all; omega) | grind
   intro c56 h56
   refine Zb ?_
   rcases Zi h56 with ⟨rfl, g56⟩ | ⟨rfl, g56⟩
   ·refine Zr J (Zv (Yv (Zb ?_)))
    obtain ⟨f, hf⟩ : ∃ f, b - i = f + 1 := ⟨b - i - 1, by omega⟩
    rw [hf, rootB] at hu
    have hf2 : f = b - (i + 1) := by omega
    rw [hf2] at hu
    refine Zc (Za 30 J J J (Zd J J (Za 31 J J J (Yw J J J (Ug _ (by omega)) ?_))))
    refine Za 10 J J J (Ze J J (Vp (Xa ?_)))
    first
    | (rw [if_pos g56] at hu; exact ⟨(i, i + 1), ⟨by show a ≤ i; omega, Nat.lt_succ_self i, by show i + 1 ≤ b; omega, hu⟩, by show b - (i + 1) < b - i; omega, Vz rfl (Vw _) (Vz rfl (Le.inteq (by omega)) by4), by3⟩)
    | (rw [if_neg g56] at hu; exact ⟨(t, i + 1), ⟨h1, by show t < i + 1; omega, by show i + 1 ≤ b; omega, hu⟩, by show b - (i + 1) < b - i; omega, Vz rfl (Vw _) (Vz rfl (Le.inteq (by omega)) by4), by3⟩)
   ·refine Zt J (Zc (Za 57 J J J (Zd J J (Za 9 J J J (Ze J J (Vp (Yv (Zb ?_))))))))
    obtain ⟨f, hf⟩ : ∃ f, b - i = f + 1 := ⟨b - i - 1, by omega⟩
    rw [hf, rootB] at hu
    have hf2 : f = b - (i + 1) := by omega
    rw [hf2] at hu
    refine Zc (Za 30 J J J (Zd J J (Za 31 J J J (Yw J J J (Ug _ (by omega)) ?_))))
    refine Za 10 J J J (Ze J J (Vp (Xa ?_)))
    first
    | (rw [if_pos g56] at hu; exact ⟨(i, i + 1), ⟨by show a ≤ i; omega, Nat.lt_succ_self i, by show i + 1 ≤ b; omega, hu⟩, by show b - (i + 1) < b - i; omega, Vz rfl (Vw _) (Vz rfl (Le.inteq (by omega)) by4), by3⟩)
    | (rw [if_neg g56] at hu; exact ⟨(t, i + 1), ⟨h1, by show t < i + 1; omega, by show i + 1 ≤ b; omega, hu⟩, by show b - (i + 1) < b - i; omega, Vz rfl (Vw _) (Vz rfl (Le.inteq (by omega)) by4), by3⟩)
 ·omega
theorem Build_c (l : List Ex) (ops : List Tok) (hl : l.length = ops.length + 1) (hL : ops.length ≤ 200000) : ∀ (d a b : Nat), a ≤ b → b ≤ ops.length → b - a ≤ d → PCall Tryz.prog 107 [.seq 11 (Ex.cellss l), .seq 4 (ops.map Tok.av), .val (.int .i64 a), .val (.int .i64 b)] (.agg (buildF l ops d a b).cells)
 | 0, a, b, h1, h2, h3 => by
  obtain rfl : a = b := by omega
  exact Build_one l ops hl a h2
 | d + 1, a, b, h1, h2, h3 => by
  by_cases h : a = b
  ·subst h
   rw [buildF, if_pos rfl]
   exact Build_one l ops hl a h2
  ·exact Build_two l ops hL a b d (by omega) h2 h3 (Build_c l ops hl hL d)
def ExC (b : Nat) (L : List Tok) (n : Nat) (E : PS → Ex × PS) : Prop := ∀ q, POk L n q → MCall Tryz.prog 86 [.ptr b 0] (.loc b (psC L q)) (.agg (E q).1.cells) (.loc b (psC L (E q).2))
theorem take_prog {L : List Tok} {p : PS} {kind : Int} {s : ByteArray} (hk : kind ≠ 0) (h : (takeP L p kind s).2.e = 0) : takeP L p kind s = (nxt L p, stepP p) ∧ p.e = 0 ∧ p.at_ < L.length := by
 unfold takeP at h ⊢
 by_cases q : p.e ≠ 0
 ·rw [if_pos q] at h; exact absurd h q
 ·rw [if_neg q] at h ⊢
  by_cases q2 : (kind < 6 ∧ (nxt L p).k ≠ kind) ∨ (6 ≤ kind ∧ ((nxt L p).k < 6 ∨ (nxt L p).t ≠ s))
  ·rw [if_pos q2] at h; exact absurd h (fail_ne (by decide))
  ·rw [if_neg q2]; exact ⟨rfl, Vo (by omega)⟩
theorem nxt_ok {L : List Tok} {p : PS} (h : (nxt L p).k ≠ 0) : p.e = 0 := (Vo h).1
set_option maxHeartbeats 4000000 in
set_option maxRecDepth 100000 in
theorem bind_c (b : Nat) (L : List Tok) (hL : L.length ≤ 100000) (n : Nat) (E : PS → Ex × PS) (HE : ExC b L n E) (p : PS) (k : POk L n p) : MCall Tryz.prog 56 [.ptr b 0] (.loc b (psC L p)) (.agg (bindG L E p).1.cells) (.loc b (psC L (bindG L E p).2)) := by
 have H1 := pName_c b L hL n p k
 have k1 := (name_adv k).ok k
 have H2 := take_c b L hL _ k1.1 7 kEq
 have k2 := (Yn (kind := 7) (s := kEq) (by decide) k1).ok k1
 have H3 := HE _ k2
 obtain ⟨r, hr⟩ : ∃ r, bindG L E p = r := ⟨_, rfl⟩
 rw [hr]
 unfold bindG at hr
 obtain ⟨⟨⟨tk, tt, tn, ta⟩, p1⟩, e1⟩ : ∃ r, nameP L p = r := ⟨_, rfl⟩
 rw [e1] at H1 H2 H3 hr
 obtain ⟨⟨u2, p2⟩, e2⟩ : ∃ r, takeP L p1 7 kEq = r := ⟨_, rfl⟩
 simp only [] at H2 H3 hr
 rw [e2] at H2 H3 hr
 simp only [] at H2 H3 hr
 obtain ⟨⟨⟨xk, xs, xn, ⟨xtk, xts, xtn, xtl⟩, xks, xal, xbs, xp⟩, p3⟩, e3⟩ : ∃ r, E p2 = r := ⟨_, rfl⟩
 rw [e3] at H3 hr
 simp only [Ex.cells, Ty.cells, List.cons_append, List.nil_append, Tok.av] at H1 H3 hr
 subst hr
 refine Zw Tryz.func56 J (by kernel_rfl) J (Uc J) ?_
 refine Ye (Zg (Zc (Za 2 J J J (Zy (cs' := [_, _, _, _, _, _, _, _, _, _, _, _, _]) J tz_112 J J ?_)))); intro b2
 refine Vp (Zb (Zg (Zc (Za 4 J J J (Zd J J (Za 5 J J J (Yg (xs := [.tmp 4]) (i := 1) J J J (H1) by1 ?_)))))))
 refine Za 3 J J J (Zy (cs' := [_, _, _, _]) J Wf J J ?_); intro b3
 refine Zs J J (Zo (cs' := [_, _, _, _]) (i := 0) J Xk J J J J J (Uc J) J (Vp (Zb (Zg (Zc (Za 6 J J J (Zd J J (Za 7 J J J (Yg (xs := [.tmp 6, .const (.int .i64 7), .const (.string ⟨#[61]⟩)]) (i := 2) J J J (H2) by1 ?_)))))))))
 refine Vp (Zb (Zg (Xw [0, 1, 2, 4, 5, 3, 6, 7] [3, 7] [[], [0], [], [2], [], [4], [0, 1, 2, 3, 4, 5], [0, 1, 2, 3, 4, 5, 6]] Wr J (Yb 8 (none) (i := 0) J J J J J (Zh J Xh J ⟨J, J⟩) ?_))))
 refine Yb 9 (some 0) (i := 1) J J J J J (Zq (i := 0) J Yz J J J ⟨J, J⟩) ?_
 refine Yb 10 (none) (i := 2) J J J J J (Zd J J ⟨J, J⟩) ?_
 refine Yb 12 (none) (i := 4) J J J J J (Zh J Wt J ⟨J, J⟩) ?_
 refine Yb 13 (some 0) (i := 5) J J J J J (Zq (i := 0) J Xb J J J ⟨J, J⟩) ?_
 refine Xn 2 (i := 3) J J J J J (Yg (xs := [.tmp 10]) (i := 0) J J J (H3) by1 ⟨_, J, ?_⟩)
 refine Yb 14 (none) (i := 6) J J J J J (Ym (ns := [0, 1, 2]) (xs := [.tmp 9, .tmp 11, .tmp 13]) J tz_112 J tfl_112 J J J J ⟨J, J⟩) ?_
 refine Xn 1 (i := 7) J J J J J (Zo (cs' := [_, _, _, _, _, _, _, _, _, _, _, _, _]) (i := 0) J ts_112 J J J J J (Uc J) J ⟨_, J, ?_⟩)
 show AGo _ _ _ _ _ _ _
 exact Zb (Ya (Yl (i := 1) J J J ta_112 J (Vw _) (Vt _ (Vt _ (Vv J))) ⟨J, J⟩))
set_option maxHeartbeats 4000000 in
set_option maxRecDepth 100000 in
theorem lambda_c (b : Nat) (L : List Tok) (hL : L.length ≤ 100000) (n : Nat) (E : PS → Ex × PS) (HE : ExC b L n E) : ∀ (f : Nat) (p : PS) (a : Int), POk L n p → L.length - p.at_ < f → MCall Tryz.prog 123 [.ptr b 0, .val (.int .i64 a)] (.loc b (psC L p)) (.agg (lambdaG L E f p a).1.cells) (.loc b (psC L (lambdaG L E f p a).2))
 | 0, p, a, k, h => by omega
 | f + 1, p, a, k, h => by
  have H1 := take_c b L hL _ k.1 1 kE
  have k1 := (Yn (kind := 1) (s := kE) (by decide) k).ok k
  have hp1 := take_prog (L := L) (p := p) (kind := 1) (s := kE) (by decide)
  obtain ⟨r, hr⟩ : ∃ r, lambdaG L E (f + 1) p a = r := ⟨_, rfl⟩
  rw [hr]
  rw [lambdaG] at hr
  obtain ⟨⟨⟨tk, tt, tn, ta⟩, p1⟩, e1⟩ : ∃ r, takeP L p 1 kE = r := ⟨_, rfl⟩
  rw [e1] at H1 k1 hr hp1
  simp only [Tok.av] at H1 k1 hr hp1
  have HN := next_c b L p1
  obtain ⟨⟨qk, qt, qn, qa⟩, e4⟩ : ∃ r, nxt L p1 = r := ⟨_, rfl⟩
  have hn1 := nxt_ok (L := L) (p := p1)
  rw [e4] at HN hr hn1
  simp only [Tok.av] at HN hr hn1
  have H2 := take_c b L hL p1 k1.1 7 kArrow
  have k2 := (Yn (kind := 7) (s := kArrow) (by decide) k1).ok k1
  have H3 := HE _ k2
  have IH : qk = 1 → MCall Tryz.prog 123 [.ptr b 0, .val (.int .i64 qa)] (.loc b (psC L p1)) (.agg (lambdaG L E f p1 qa).1.cells) (.loc b (psC L (lambdaG L E f p1 qa).2)) := fun q => by
   have h1 := hp1 (hn1 (by omega))
   have h2 : p1 = stepP p := by have := h1.1; simp only [Prod.mk.injEq] at this; exact this.2
   refine lambda_c b L hL n E HE f p1 qa k1 ?_
   have h3 := h1.2.2
   rw [h2]
   show L.length - (p.at_ + 1) < f
   omega
  obtain ⟨⟨⟨yk, ys, yn, ⟨ytk, yts, ytn, ytl⟩, yks, yal, ybs, yp⟩, p4⟩, e5⟩ : ∃ r, lambdaG L E f p1 qa = r := ⟨_, rfl⟩
  rw [e5] at IH hr
  obtain ⟨⟨⟨xk, xs, xn, ⟨xtk, xts, xtn, xtl⟩, xks, xal, xbs, xp⟩, p3⟩, e3⟩ : ∃ r, E (takeP L p1 7 kArrow).2 = r := ⟨_, rfl⟩
  rw [e3] at H3 hr
  simp only [Ex.cells, Ty.cells, List.cons_append, List.nil_append] at IH H3 hr
  clear hp1 hn1
  refine Zw Tryz.func123 J (by kernel_rfl) J (Uc J) ?_
  refine Ye (Zg (Zc (Za 4 J J J (Zy (cs' := [_, _, _, _, _, _, _, _, _, _, _]) J Xz J J ?_)))); intro b4
  refine Vp (Zb (Zg (Zc (Za 7 J J J (Zd J J (Za 8 J J J (Yg (xs := [.tmp 7, .const (.int .i64 1), .const (.string ⟨#[]⟩)]) (i := 1) J J J (H1) by1 ?_)))))))
  refine Za 5 J J J (Zy (cs' := [_, _, _, _]) J Wf J J ?_); intro b5
  refine Zs J J (Zo (cs' := [_, _, _, _]) (i := 0) J Xk J J J J J (Uc J) J (Vp (Zb (Zg (Zc (Za 9 J J J (Zh J Xh J (Za 10 J J J (Zq (i := 0) J Yz J J J (Za 11 J J J (Zd J J (Za 12 J J J (Ym (ns := [0, 1, 7]) (xs := [.const (.int .i64 6), .tmp 10, .tmp 11]) J Xz J tfl_110 J J J J ?_)))))))))))))
  refine Za 6 J J J (Zy (cs' := [_, _, _, _, _, _, _, _, _, _, _]) J Xz J J ?_); intro b6
  refine Zs J J (Zo (cs' := [_, _, _, _, _, _, _, _, _, _, _]) (i := 0) J Wk J J J J J (Uc J) J (Vp (Zb (Zg (Zg (Zc (Za 13 J J J (Zd J J (Za 14 J J J (Wq (xs := [.tmp 13]) [3] J J J (HN) by1 ?_))))))))))
  refine Za 15 J J J (Wy (ft := 3) (fo := 0) J (by kernel_rfl) Xb J J ?_)
  refine Za 16 J J J (Yr J J J ?_); intro c16 h16
  refine Vp (Zb ?_)
  rcases Zi h16 with ⟨rfl, g16⟩ | ⟨rfl, g16⟩
  ·refine Zr J (Zv (Zb (Zg (Zc (Za 28 J J J (Zd J J (Za 29 J J J (Yg (xs := [.tmp 28, .const (.int .i64 7), .const (.string ⟨#[45, 62]⟩)]) (i := 3) J J J (H2) by1 ?_))))))))
   refine Vp (Zb (Zg (Xw [0, 1, 2, 3, 4, 5, 6, 7] [3, 5, 7] [[], [0], [], [2], [2, 3], [0, 1, 2, 3, 4], [0, 1, 2, 3, 4, 5], [0, 1, 2, 3, 4, 5, 6]] Wr J (Yb 30 (none) (i := 0) J J J J J (Zh J tf_110_4 J ⟨J, J⟩) ?_))))
   refine Yb 31 (some 0) (i := 1) J J J J J (Zq (i := 0) J ta_107 J J J ⟨J, J⟩) ?_
   refine Yb 32 (none) (i := 2) J J J J J (Zd J J ⟨J, J⟩) ?_
   refine Xn 3 (i := 3) J J J J J (Yg (xs := [.tmp 32]) (i := 0) J J J (H3) by1 ⟨_, J, ?_⟩)
   refine Yb 34 (none) (i := 4) J J J J J (Yi (xs := [.tmp 33]) el_107 J J J J J J (Uc J) ⟨J, J⟩) ?_
   refine EOps.nw (i := 5) J J J (op_append_nil el_107 J J J (.seq _ _) by6 (fun u35 => ⟨_, J, ?_⟩))
   refine Yb 36 (none) (i := 6) J J J J J (Zh J tf_110_4 J ⟨J, J⟩) ?_
   refine Xn 0 (i := 7) J J J J J (Zo (cs' := [_, _, _, _, _, _, _, _, _, _, _]) (i := 0) J ts_107 J J J J J (Uc J) J ⟨_, J, ?_⟩)
   show AGo _ _ _ _ _ _ _
   refine Zb (Zg (Zc (Za 37 J J J (Zx (cs' := [_, _, _, _, _, _, _, _, _, _, _]) (i := 0) J Wd J J J J (Zs J J (Zo (cs' := [_, _, _, _, _, _, _, _, _, _, _]) (i := 2) J Wk J J J J J (Uc J) J (Vp (Zb (Ya ?_)))))))))
   rw [if_neg g16] at hr; subst hr; exact Yl (i := 2) rfl rfl rfl Wd rfl by0 (Vt _ (Vt _ (Vt _ (Vs _ (Vr _))))) ⟨rfl, rfl⟩
  ·refine Zt J (Zg (Xw [0, 1, 2, 3, 4, 5, 6, 7, 8, 9, 10] [6, 8, 10] [[], [0], [], [], [3], [3, 4], [2, 3, 4, 5], [2, 3, 4, 5, 6], [0, 1, 2, 3, 4, 5, 6, 7], [0, 1, 2, 3, 4, 5, 6, 7, 8], [0, 1, 2, 3, 4, 5, 6, 7, 8, 9]] Wr J (Yb 17 (none) (i := 0) J J J J J (Zh J tf_110_4 J ⟨J, J⟩) ?_)))
   refine Yb 18 (some 0) (i := 1) J J J J J (Zq (i := 0) J ta_107 J J J ⟨J, J⟩) ?_
   refine Yb 19 (none) (i := 2) J J J J J (Zd J J ⟨J, J⟩) ?_
   refine Yb 20 (none) (i := 3) J J J J J (Zd J J ⟨J, J⟩) ?_
   refine Yb 21 (some 3) (i := 4) J J J J J (Wq (xs := [.tmp 20]) [0] J J J (HN) by1 ⟨J, J⟩) ?_
   refine Yb 22 (none) (i := 5) J J J J J (Wy (ft := 3) (fo := 3) J (by kernel_rfl) Xb J J ⟨J, J⟩) ?_
   refine Xn 3 (i := 6) J J J J J (Yg (xs := [.tmp 19, .tmp 22]) (i := 0) J J J (IH g16) by1 ⟨_, J, ?_⟩)
   refine Yb 24 (none) (i := 7) J J J J J (Yi (xs := [.tmp 23]) el_107 J J J J J J (Uc J) ⟨J, J⟩) ?_
   refine EOps.nw (i := 8) J J J (op_append_nil el_107 J J J (.seq _ _) by6 (fun u25 => ⟨_, J, ?_⟩))
   refine Yb 26 (none) (i := 9) J J J J J (Zh J tf_110_4 J ⟨J, J⟩) ?_
   refine Xn 0 (i := 10) J J J J J (Zo (cs' := [_, _, _, _, _, _, _, _, _, _, _]) (i := 0) J ts_107 J J J J J (Uc J) J ⟨_, J, ?_⟩)
   show AGo _ _ _ _ _ _ _
   refine Zb (Zg (Zc (Za 27 J J J (Zx (cs' := [_, _, _, _, _, _, _, _, _, _, _]) (i := 0) J Wd J J J J (Zs J J (Zo (cs' := [_, _, _, _, _, _, _, _, _, _, _]) (i := 2) J Wk J J J J J (Uc J) J (Vp (Zb (Ya ?_)))))))))
   rw [if_pos g16] at hr; subst hr; exact Yl (i := 2) rfl rfl rfl Wd rfl by0 (Vt _ (Vt _ (Vt _ (Vs _ (Vr _))))) ⟨rfl, rfl⟩
set_option maxHeartbeats 4000000 in
set_option maxRecDepth 100000 in
theorem atom_lit (b : Nat) (L : List Tok) (hL : L.length ≤ 100000) (n : Nat) (E : PS → Ex × PS) (p : PS) (k : POk L n p) (h : (nxt L p).k = 1 ∨ (nxt L p).k = 2 ∨ (nxt L p).k = 3 ∨ (nxt L p).k = 4) : MCall Tryz.prog 124 [.ptr b 0] (.loc b (psC L p)) (.agg (atomG L E p).1.cells) (.loc b (psC L (atomG L E p).2)) := by
 have HN := next_c b L p
 have hp := k.1
 have hlt : p.at_ < L.length := (Vo (by omega)).2
 obtain ⟨r, hr⟩ : ∃ r, atomG L E p = r := ⟨_, rfl⟩
 rw [hr]
 unfold atomG at hr
 obtain ⟨⟨tk, tt, tn, ta⟩, ht⟩ : ∃ t, nxt L p = t := ⟨_, rfl⟩
 rw [ht] at HN hr h
 simp only [Tok.av] at HN hr h
 refine Zw Tryz.func124 J (by kernel_rfl) J (Uc J) ?_
 refine Ye (Zg (Zc (Za 2 J J J (Zy (cs' := [_, _, _, _, _, _, _, _, _, _, _]) J Xz J J ?_)))); intro b2
 refine Vp (Zb (Zg (Zc (Za 9 J J J (Zd J J (Za 10 J J J (Wq (xs := [.tmp 9]) [1] J J J (HN) by1 ?_)))))))
 refine Za 3 J J J (Zy (cs' := [_, _, _, _]) J Wf J J ?_); intro b3
 refine Zs J J (Zo (cs' := [_, _, _, _]) (i := 0) J Xk J J J J J (Uc J) J (Vp (Zb (Zg (Zc (Za 11 J J J (Zh J Wt J (Za 12 J J J (Zq (i := 0) J Xb J J J (Za 13 J J J (Ym (ns := [7]) (xs := [.tmp 12]) J Xz J tfl_110 J J J J (Za 4 J J J (Zy (cs' := [_, _, _, _, _, _, _, _, _, _, _]) J Xz J J ?_))))))))))))); intro b4
 refine Zs J J (Zo (cs' := [_, _, _, _, _, _, _, _, _, _, _]) (i := 0) J Wk J J J J J (Uc J) J (Vp (Zb (Zg ?_))))
 apply c_joink [1, 9, 10, 11, 12, 13, 14, 15, 16, 17, 18, 19, 20, 21, 22, 23, 24, 25, 26, 27, 28, 29, 30, 31, 32, 33, 34, 35, 36, 37, 38, 39, 40, 41, 42, 43, 44, 45, 68, 81, 94, 97, 128] (σ := Int × ByteArray × Int) (fun zz => match zz with | (kk, ss, nn) => []) (fun zz => match zz with | (kk, ss, nn) => [.loc b4 [.val (.int .i64 kk), .val (.string ss), .val (.int .i64 nn), .val (.int .i64 0), .val (.string kE), .val (.int .i64 0), .val (.slice none 0 0), .val (.slice none 0 0), .val (.slice none 0 0), .val (.slice none 0 0), .val (.int .i64 ta)], .loc b3 (Tok.mk tk tt tn ta).av, .loc b2 zEx, .loc b (psC L p)]) (fun zz => match zz with | (kk, ss, nn) => 0 < kk ∧ (Ex.mk kk ss nn ty0 [] [] [] ta, stepP p) = r)
 ·repeat' (first | exact Uf | apply Ud rfl | apply Ue rfl)
 ·skip
  refine Zz (Zg (Zc (Za 15 J J J (Zh J Xf J (Za 16 J J J (Zq (i := 1) J Xb J J J (Za 17 J J J (Yr J J J ?_)))))))); intro c17 h17
  refine Za 14 J J J (Ze J J (Vp (Zb ?_)))
  rcases Zi h17 with ⟨rfl, g17⟩ | ⟨rfl, g17⟩
  ·refine Zr J (Zg (Zc (Za 23 J J J (Zh J Xf J (Za 24 J J J (Zq (i := 1) J Xb J J J (Za 25 J J J (Yr J J J ?_)))))))); intro c25 h25
   refine Za 22 J J J (Ze J J (Vp (Zb ?_)))
   rcases Zi h25 with ⟨rfl, g25⟩ | ⟨rfl, g25⟩
   ·refine Zr J (Zg (Zc (Za 31 J J J (Zh J Xf J (Za 32 J J J (Zq (i := 1) J Xb J J J (Za 33 J J J (Yr J J J ?_)))))))); intro c33 h33
    refine Za 30 J J J (Ze J J (Vp (Zb ?_)))
    rcases Zi h33 with ⟨rfl, g33⟩ | ⟨rfl, g33⟩
    ·refine Zr J (Zg (Zc (Za 39 J J J (Zh J Xf J (Za 40 J J J (Zq (i := 1) J Xb J J J (Za 41 J J J (Yr J J J ?_)))))))); intro c41 h41
     refine Za 38 J J J (Ze J J (Vp (Zb ?_)))
     rcases Zi h41 with ⟨rfl, g41⟩ | ⟨rfl, g41⟩
     ·omega
     ·refine Zt J (Zg (Zc (Za 42 J J J (Zh J tf_110_0 J (Zs J J (Zo (cs' := [_, _, _, _, _, _, _, _, _, _, _]) (i := 0) J Wi J J J J J (Uc J) J (Vp (Zb (Zc (Za 43 J J J (Zh J Xh J (Za 44 J J J (Zq (i := 1) J Yz J J J ?_)))))))))))))
      refine Za 45 J J J (Zh J tf_110_1 J (Zs J J (Zo (cs' := [_, _, _, _, _, _, _, _, _, _, _]) (i := 0) J ts_9 J J J J J (Uc J) J (Vp (Yv (Xa ?_))))))
      first
      | (rw [if_pos g17] at hr; exact ⟨(3, tt, 0), ⟨by decide, hr⟩, by4, Vv rfl⟩)
      | (rw [if_neg g17, if_pos g25] at hr; exact ⟨(4, tt, 0), ⟨by decide, hr⟩, by4, Vv rfl⟩)
      | (rw [if_neg g17, if_neg g25, if_pos g33] at hr; exact ⟨(1, kE, tn), ⟨by decide, hr⟩, by4, Vv rfl⟩)
      | (rw [if_neg g17, if_neg g25, if_neg g33, if_pos g41] at hr; exact ⟨(2, tt, 0), ⟨by decide, hr⟩, by4, Vv rfl⟩)
    ·refine Zt J (Zg (Zc (Za 34 J J J (Zh J tf_110_0 J (Zs J J (Zo (cs' := [_, _, _, _, _, _, _, _, _, _, _]) (i := 0) J Wi J J J J J (Uc J) J (Vp (Zb (Zc (Za 35 J J J (Zh J tf_97_2 J (Za 36 J J J (Zq (i := 1) J ta_2 J J J ?_)))))))))))))
     refine Za 37 J J J (Zh J tf_110_2 J (Zs J J (Zo (cs' := [_, _, _, _, _, _, _, _, _, _, _]) (i := 0) J ts_2 J J J J J (Uc J) J (Vp (Yv (Xa ?_))))))
     first
     | (rw [if_pos g17] at hr; exact ⟨(3, tt, 0), ⟨by decide, hr⟩, by4, Vv rfl⟩)
     | (rw [if_neg g17, if_pos g25] at hr; exact ⟨(4, tt, 0), ⟨by decide, hr⟩, by4, Vv rfl⟩)
     | (rw [if_neg g17, if_neg g25, if_pos g33] at hr; exact ⟨(1, kE, tn), ⟨by decide, hr⟩, by4, Vv rfl⟩)
     | (rw [if_neg g17, if_neg g25, if_neg g33, if_pos g41] at hr; exact ⟨(2, tt, 0), ⟨by decide, hr⟩, by4, Vv rfl⟩)
   ·refine Zt J (Zg (Zc (Za 26 J J J (Zh J tf_110_0 J (Zs J J (Zo (cs' := [_, _, _, _, _, _, _, _, _, _, _]) (i := 0) J Wi J J J J J (Uc J) J (Vp (Zb (Zc (Za 27 J J J (Zh J Xh J (Za 28 J J J (Zq (i := 1) J Yz J J J ?_)))))))))))))
    refine Za 29 J J J (Zh J tf_110_1 J (Zs J J (Zo (cs' := [_, _, _, _, _, _, _, _, _, _, _]) (i := 0) J ts_9 J J J J J (Uc J) J (Vp (Yv (Xa ?_))))))
    first
    | (rw [if_pos g17] at hr; exact ⟨(3, tt, 0), ⟨by decide, hr⟩, by4, Vv rfl⟩)
    | (rw [if_neg g17, if_pos g25] at hr; exact ⟨(4, tt, 0), ⟨by decide, hr⟩, by4, Vv rfl⟩)
    | (rw [if_neg g17, if_neg g25, if_pos g33] at hr; exact ⟨(1, kE, tn), ⟨by decide, hr⟩, by4, Vv rfl⟩)
    | (rw [if_neg g17, if_neg g25, if_neg g33, if_pos g41] at hr; exact ⟨(2, tt, 0), ⟨by decide, hr⟩, by4, Vv rfl⟩)
  ·refine Zt J (Zg (Zc (Za 18 J J J (Zh J tf_110_0 J (Zs J J (Zo (cs' := [_, _, _, _, _, _, _, _, _, _, _]) (i := 0) J Wi J J J J J (Uc J) J (Vp (Zb (Zc (Za 19 J J J (Zh J Xh J (Za 20 J J J (Zq (i := 1) J Yz J J J ?_)))))))))))))
   refine Za 21 J J J (Zh J tf_110_1 J (Zs J J (Zo (cs' := [_, _, _, _, _, _, _, _, _, _, _]) (i := 0) J ts_9 J J J J J (Uc J) J (Vp (Yv (Xa ?_))))))
   first
   | (rw [if_pos g17] at hr; exact ⟨(3, tt, 0), ⟨by decide, hr⟩, by4, Vv rfl⟩)
   | (rw [if_neg g17, if_pos g25] at hr; exact ⟨(4, tt, 0), ⟨by decide, hr⟩, by4, Vv rfl⟩)
   | (rw [if_neg g17, if_neg g25, if_pos g33] at hr; exact ⟨(1, kE, tn), ⟨by decide, hr⟩, by4, Vv rfl⟩)
   | (rw [if_neg g17, if_neg g25, if_neg g33, if_pos g41] at hr; exact ⟨(2, tt, 0), ⟨by decide, hr⟩, by4, Vv rfl⟩)
 rintro ⟨kk, ss, nn⟩ hI
 try dsimp only [List.cons_append, List.nil_append] at hI ⊢
 refine Zb (Zg (Zg (Zc (Za 46 J J J (Zh J tf_110_0 J (Za 47 J J J (Zq (i := 0) J Xb J J J (Za 48 J J J (Ww J J J ?_))))))))); intro c48 h48
 refine Vp (Zb ?_)
 rcases Zi h48 with ⟨rfl, g48⟩ | ⟨rfl, g48⟩
 ·omega
 ·refine Zt J (Zg (Zc (Za 49 J J J (Zd J J (Za 50 J J J (Yj J J (Za 51 J J J (Zh J tf_95_1 J (Za 52 J J J (Zq (i := 3) J Xb J J J (Za 53 J J J (Yw J J J (Ug _ (by omega)) ?_))))))))))))
  refine Za 54 J J J (Yj J J (Za 55 J J J (Zh J tf_95_1 J (Zs J J (Zo (i := 3) J Wi J J J J J (Uc J) J (Vp (Zb (Zg (Zc (Za 56 J J J (Zx (cs' := [_, _, _, _, _, _, _, _, _, _, _]) (i := 0) J Wd J J J J (Zs J J (Zo (cs' := [_, _, _, _, _, _, _, _, _, _, _]) (i := 2) J Wk J J J J J (Uc J) J ?_)))))))))))))
  refine Vp (Zb (Ya ?_))
  have h2 := hI.2; subst h2; exact Yl (i := 2) rfl rfl rfl Wd rfl by0 (Vt _ (Vt _ (Vt _ (Vv rfl)))) ⟨rfl, rfl⟩
theorem may_yes {b : Nat} {L : List Tok} (hL : L.length ≤ 100000) {p : PS} {s : ByteArray} (h : isP L p s = true) : MCall Tryz.prog 51 [.ptr b 0, .val (.string s)] (.loc b (psC L p)) (.val (.bool true)) (.loc b (psC L (stepP p))) :=
 (may_c b L hL p s).mono (by
  rintro v M' (⟨_, rfl, rfl⟩ | ⟨q, _, _⟩)
  ·exact ⟨J, J⟩
  ·exact absurd h q)
theorem may_no {b : Nat} {L : List Tok} (hL : L.length ≤ 100000) {p : PS} {s : ByteArray} (h : ¬ isP L p s = true) : MCall Tryz.prog 51 [.ptr b 0, .val (.string s)] (.loc b (psC L p)) (.val (.bool false)) (.loc b (psC L p)) :=
 (may_c b L hL p s).mono (by
  rintro v M' (⟨q, _, _⟩ | ⟨_, rfl, rfl⟩)
  ·exact absurd q h
  ·exact ⟨J, J⟩)
theorem altsL_err {L : List Tok} {E : PS → Ex × PS} {f : Nat} {p : PS} {acc : List Al} (h : p.e ≠ 0) : altsL L E f p acc = (acc, p) := by
 cases f with
 | zero => rfl
 | succ f => rw [altsL, if_pos h]
theorem Al.cellss_app' (a b : List Al) : Al.cellss (a ++ b) = Al.cellss a ++ Al.cellss b := by simp [Al.cellss_map]
theorem Ex.cellss_app' (a b : List Ex) : Ex.cellss (a ++ b) = Ex.cellss a ++ Ex.cellss b := by simp [Ex.cellss_map]
theorem Bi.cellss_app' (a b : List Bi) : Bi.cellss (a ++ b) = Bi.cellss a ++ Bi.cellss b := by simp [Bi.cellss_map]
set_option maxHeartbeats 4000000 in
set_option maxRecDepth 100000 in
theorem atom_case (b : Nat) (L : List Tok) (hL : L.length ≤ 100000) (n : Nat) (E : PS → Ex × PS) (HE : ExC b L n E) (HA : ∀ q, POk L n q → Adv L q (E q).2) (p : PS) (k : POk L n p) (h1 : (nxt L p).k ≠ 1) (h2 : (nxt L p).k ≠ 2) (h3 : (nxt L p).k ≠ 3) (h4 : (nxt L p).k ≠ 4) (hc : isP L p kCase = true) : MCall Tryz.prog 124 [.ptr b 0] (.loc b (psC L p)) (.agg (caseG L E (nxt L p).a (stepP p)).1.cells) (.loc b (psC L (caseG L E (nxt L p).a (stepP p)).2)) := by
 have HN := next_c b L p
 have k1 := (Xo k hc).ok k
 have H1 := HE _ k1
 have k2 := (HA _ k1).ok k1
 have H2 := take_c b L hL _ k2.1 6 kOf
 have k3 := (Yn (kind := 6) (s := kOf) (by decide) k2).ok k2
 have k4 := (altsL_adv HA (L.length + 1) _ [] k3).ok k3
 have H4 := take_c b L hL _ k4.1 6 kEnd
 obtain ⟨r, hr⟩ : ∃ r, caseG L E (nxt L p).a (stepP p) = r := ⟨_, rfl⟩
 rw [hr]
 unfold caseG at hr
 simp only [] at hr
 obtain ⟨⟨tk, tt, tn, ta⟩, ht⟩ : ∃ t, nxt L p = t := ⟨_, rfl⟩
 rw [ht] at HN hr h1 h2 h3 h4
 simp only [Tok.av] at HN hr h1 h2 h3 h4
 obtain ⟨⟨⟨xk, xs, xn, ⟨xtk, xts, xtn, xtl⟩, xks, xal, xbs, xp⟩, p2⟩, e2⟩ : ∃ r, E (stepP p) = r := ⟨_, rfl⟩
 rw [e2] at H1 H2 H4 hr k3
 obtain ⟨⟨u3, p3⟩, e3⟩ : ∃ r, takeP L p2 6 kOf = r := ⟨_, rfl⟩
 simp only [] at H2 H4 hr k3
 rw [e3] at H2 H4 hr k3
 simp only [] at H2 H4 hr k3
 obtain ⟨⟨yl, p4⟩, e4⟩ : ∃ r, altsL L E (L.length + 1) p3 [] = r := ⟨_, rfl⟩
 rw [e4] at H4 hr
 simp only [Ex.cells, Ty.cells, List.cons_append, List.nil_append] at H1 H4 hr
 refine Zw Tryz.func124 J (by kernel_rfl) J (Uc J) ?_
 refine Ye (Zg (Zc (Za 2 J J J (Zy (cs' := [_, _, _, _, _, _, _, _, _, _, _]) J Xz J J ?_)))); intro b2
 refine Vp (Zb (Zg (Zc (Za 9 J J J (Zd J J (Za 10 J J J (Wq (xs := [.tmp 9]) [1] J J J (HN) by1 ?_)))))))
 refine Za 3 J J J (Zy (cs' := [_, _, _, _]) J Wf J J ?_); intro b3
 refine Zs J J (Zo (cs' := [_, _, _, _]) (i := 0) J Xk J J J J J (Uc J) J (Vp (Zb (Zg (Zc (Za 11 J J J (Zh J Wt J (Za 12 J J J (Zq (i := 0) J Xb J J J (Za 13 J J J (Ym (ns := [7]) (xs := [.tmp 12]) J Xz J tfl_110 J J J J (Za 4 J J J (Zy (cs' := [_, _, _, _, _, _, _, _, _, _, _]) J Xz J J ?_))))))))))))); intro b4
 refine Zs J J (Zo (cs' := [_, _, _, _, _, _, _, _, _, _, _]) (i := 0) J Wk J J J J J (Uc J) J (Vp (Zb (Zg (Zz (Zg (Zc (Za 15 J J J (Zh J Xf J (Za 16 J J J (Zq (i := 1) J Xb J J J (Za 17 J J J (Yr J J J ?_))))))))))))); intro c17 h17
 refine Za 14 J J J (Ze J J (Vp (Zb ?_)))
 rcases Zi h17 with ⟨rfl, g17⟩ | ⟨rfl, g17⟩
 ·refine Zr J (Zg (Zc (Za 23 J J J (Zh J Xf J (Za 24 J J J (Zq (i := 1) J Xb J J J (Za 25 J J J (Yr J J J ?_)))))))); intro c25 h25
  refine Za 22 J J J (Ze J J (Vp (Zb ?_)))
  rcases Zi h25 with ⟨rfl, g25⟩ | ⟨rfl, g25⟩
  ·refine Zr J (Zg (Zc (Za 31 J J J (Zh J Xf J (Za 32 J J J (Zq (i := 1) J Xb J J J (Za 33 J J J (Yr J J J ?_)))))))); intro c33 h33
   refine Za 30 J J J (Ze J J (Vp (Zb ?_)))
   rcases Zi h33 with ⟨rfl, g33⟩ | ⟨rfl, g33⟩
   ·refine Zr J (Zg (Zc (Za 39 J J J (Zh J Xf J (Za 40 J J J (Zq (i := 1) J Xb J J J (Za 41 J J J (Yr J J J ?_)))))))); intro c41 h41
    refine Za 38 J J J (Ze J J (Vp (Zb ?_)))
    rcases Zi h41 with ⟨rfl, g41⟩ | ⟨rfl, g41⟩
    ·refine Zr J (Zv (Yv (Zb (Zg (Zg (Zc (Za 46 J J J (Zh J tf_110_0 J (Za 47 J J J (Zq (i := 0) J Xb J J J (Za 48 J J J (Ww J J J ?_)))))))))))); intro c48 h48
     refine Vp (Zb ?_)
     rcases Zi h48 with ⟨rfl, g48⟩ | ⟨rfl, g48⟩
     ·refine Zr J (Zv (Zb (Zg (Zg (Zc (Za 57 J J J (Zd J J (Za 58 J J J (Yg (xs := [.tmp 57, .const (.string ⟨#[99, 97, 115, 101]⟩)]) (i := 3) J J J (may_yes hL hc) by1 ?_)))))))))
      refine Vp (Zb (Zt J (Zg (Zc (Za 59 J J J (Zh J tf_110_0 J (Zs J J (Zo (cs' := [_, _, _, _, _, _, _, _, _, _, _]) (i := 0) J Wi J J J J J (Uc J) J (Vp (Zb (Zg ?_)))))))))))
      refine Xw [0, 1, 2, 3, 4, 5, 6, 7] [3, 5, 7] [[], [0], [], [2], [2, 3], [0, 1, 2, 3, 4], [0, 1, 2, 3, 4, 5], [0, 1, 2, 3, 4, 5, 6]] Wr J (Yb 60 (none) (i := 0) J J J J J (Zh J tf_110_4 J ⟨J, J⟩) ?_)
      refine Yb 61 (some 0) (i := 1) J J J J J (Zq (i := 0) J ta_107 J J J ⟨J, J⟩) ?_
      refine Yb 62 (none) (i := 2) J J J J J (Zd J J ⟨J, J⟩) ?_
      refine Xn 3 (i := 3) J J J J J (Yg (xs := [.tmp 62]) (i := 0) J J J (H1) by1 ⟨_, J, ?_⟩)
      refine Yb 64 (none) (i := 4) J J J J J (Yi (xs := [.tmp 63]) el_107 J J J J J J (Uc J) ⟨J, J⟩) ?_
      refine EOps.nw (i := 5) J J J (op_append_nil el_107 J J J (.seq _ _) by6 (fun u65 => ⟨_, J, ?_⟩))
      refine Yb 66 (none) (i := 6) J J J J J (Zh J tf_110_4 J ⟨J, J⟩) ?_
      refine Xn 0 (i := 7) J J J J J (Zo (cs' := [_, _, _, _, _, _, _, _, _, _, _]) (i := 0) J ts_107 J J J J J (Uc J) J ⟨_, J, ?_⟩)
      show AGo _ _ _ _ _ _ _
      refine Zb (Zg (Zc (Za 67 J J J (Zd J J (Za 68 J J J (Yg (xs := [.tmp 67, .const (.int .i64 6), .const (.string ⟨#[111, 102]⟩)]) (i := 3) J J J (H2) by1 ?_))))))
      refine Vp (Zb (Zg (Zc (Za 5 J J J (Ze J J (Vp (Zb (Zg (Zz (We 187 16 ?_))))))))))
      apply Wg [1, 5, 6, 9, 10, 11, 12, 13, 14, 15, 16, 17, 18, 19, 20, 21, 22, 23, 24, 25, 26, 27, 28, 29, 30, 31, 32, 33, 34, 35, 36, 37, 38, 39, 40, 41, 42, 43, 44, 45, 46, 47, 48, 49, 50, 51, 52, 53, 54, 55, 56, 57, 58, 59, 60, 61, 62, 63, 64, 65, 66, 67, 68, 69, 70, 71, 72, 73, 74, 75, 76, 77, 78, 79, 80, 81, 82, 83, 84, 85, 86, 87, 88, 89, 90, 91, 92, 94, 97, 128] (σ := PS × Nat × List Al × Value × Bool) (fun zz => match zz with | (q, f, acc, u, mo) => [(5, .val (.bool mo))]) (fun zz => match zz with | (q, f, acc, u, mo) => [.loc b4 [.val (.int .i64 8), .val (.string kE), .val (.int .i64 0), .val (.int .i64 0), .val (.string kE), .val (.int .i64 0), .val (.slice none 0 0), .seq 11 (Ex.cellss [Ex.mk xk xs xn (Ty.mk xtk xts xtn xtl) xks xal xbs xp]), .own u 16 (Al.cellss acc), .val (.slice none 0 0), .val (.int .i64 ta)], .loc b3 (Tok.mk tk tt tn ta).av, .loc b2 zEx, .loc b (psC L q), .own 187 16 u]) (fun zz => match zz with | (q, f, acc, u, mo) => POk L n q ∧ L.length - q.at_ < f ∧ (mo = true → acc.length ≤ q.at_) ∧ (if mo = true then altsL L E f q acc else (acc, q)) = (yl, p4)) (fun zz => match zz with | (q, f, acc, u, mo) => 2 * f + (if mo = true then 1 else 0)) ((p3, L.length + 1, [], .slice none 0 0, true))
      ·repeat' (first | exact Uf | apply Ud rfl | apply Ue rfl)
      ·exact ⟨k3, by omega, fun _ => Nat.zero_le _, e4⟩
      ·exact by4
      ·exact (Vu _ (Vy (Vw _) (Vy (Vw _) (Vy (Vw _) (Vy (Vw _) (Vy (Vw _) (Vy (Vw _) (Vy (Vw _) (Vy (Le.own_seq J) (Vy (Le.nilOwn 16) (Vx _)))))))))) (Vs _ (Vs _ (Vs _ (Vt _ (Vq _))))))
      rintro ⟨q, f, acc, u, mo⟩ hI
      try dsimp only [List.cons_append, List.nil_append] at hI ⊢
      obtain ⟨i1, i2, i3, hu⟩ := hI
      have hq1 := i1.1
      refine Zg (Zg (Xm 76 (mo = true ∧ q.e = 0) ?_ _ _ J ?_))
      ·skip
       refine Za 69 J J J (Zd J J (Za 70 J J J (Zd J J ?_)))
       have h70 : (mo = true ↔ mo = true) := Iff.rfl
       rcases Zi h70 with ⟨rfl, g70⟩ | ⟨rfl, g70⟩
       ·skip
        refine Zk 71 J J J J J (Zk 72 J J J J J (Zk 73 J J J J J (Zk 74 J J J J J (Zk 75 J J J J J (Za 76 J J J (Zn J J J ?_))))))
        refine Vp (Ua J ?_ by5 by3)
        simp_all; done
       ·skip
        refine Zl 71 J J J J J (Zd J J (Zl 72 J J J J J (Yj J J (Zl 73 J J J J J (Zh J Vl J (Zl 74 J J J J J (Zq (i := 3) J Xb J J J (Zl 75 J J J J J (Yr J J J ?_))))))))); intro c75 h75
        refine Za 76 J J J (Zn J J J (Vp (Ua J ?_ by5 by3)))
        simp_all; done
      intro c76 h76
      refine Zb ?_
      rcases Zi h76 with ⟨rfl, g76⟩ | ⟨rfl, g76⟩
      ·refine Zr J (Xc (Xd (Xv (Xe (Zb (Zg ?_))))))
       have hu2 : (acc, q) = (yl, p4) := by
        cases mo with
        | false => exact hu
        | true => rw [if_pos rfl, altsL_err (fun e => g76 ⟨rfl, e⟩)] at hu; exact hu
       simp only [Prod.mk.injEq] at hu2
       obtain ⟨rfl, rfl⟩ := hu2
       refine Zc (Za 93 J J J (Zd J J (Za 94 J J J (Yg (xs := [.tmp 93, .const (.int .i64 6), .const (.string ⟨#[101, 110, 100]⟩)]) (i := 3) J J J (H4) by1 ?_))))
       refine Vp (Zb (Zg (Zc (Za 95 J J J (Zx (cs' := [_, _, _, _, _, _, _, _, _, _, _]) (i := 0) J Wd J J J J (Zs J J (Zo (cs' := [_, _, _, _, _, _, _, _, _, _, _]) (i := 2) J Wk J J J J J (Uc J) J (Vp (Zb (Ya ?_))))))))))
       subst hr; exact Yl (i := 2) rfl rfl rfl Wd rfl by0 (Vt _ (Vt _ (Vt _ (Vs _ (Vr _))))) ⟨rfl, rfl⟩
      ·refine Zt J (Zv (Zb (Zz (Zg ?_))))
       obtain ⟨rfl, hq0⟩ := g76
       have i3 := i3 rfl
       have hle : (Al.cellss acc).length ≤ 200000 := by rw [Al.cellss_len]; omega
       rw [if_pos rfl] at hu
       obtain ⟨f, rfl⟩ : ∃ f', f = f' + 1 := ⟨f - 1, by omega⟩
       rw [altsL, if_neg (by rw [hq0]; simp)] at hu
       have HP := patP_c b L hL n q i1
       have l1 := (patP_adv i1).ok i1
       have b1 := (patP_adv i1).1
       have HQ := take_c b L hL _ l1.1 7 kArrow
       have l2 := (Yn (kind := 7) (s := kArrow) (by decide) l1).ok l1
       have b2 := (Yn (kind := 7) (s := kArrow) (by decide) l1).1
       have HR := HE _ l2
       have l3 := (HA _ l2).ok l2
       have b3 := (HA _ l2).1
       obtain ⟨z, hz⟩ : ∃ z, altG L E q = z := ⟨_, rfl⟩
       rw [hz] at hu
       unfold altG at hz
       obtain ⟨⟨⟨vk, vs, vn, vl, vp⟩, q1⟩, f1⟩ : ∃ r, patP L q = r := ⟨_, rfl⟩
       rw [f1] at HP HQ HR hz l2 l3 b1 b2 b3
       obtain ⟨⟨u5, q2⟩, f2⟩ : ∃ r, takeP L q1 7 kArrow = r := ⟨_, rfl⟩
       simp only [] at HQ HR hz l2 l3 b1 b2 b3
       rw [f2] at HQ HR hz l2 l3 b2 b3
       simp only [] at HQ HR hz l2 l3 b1 b2 b3
       obtain ⟨⟨⟨wk, ws, wn, ⟨wtk, wts, wtn, wtl⟩, wks, wal, wbs, wp⟩, q3⟩, f3⟩ : ∃ r, E q2 = r := ⟨_, rfl⟩
       rw [f3] at HR hz l3 b3
       simp only [Pa.cells, Ex.cells, Ty.cells, List.cons_append, List.nil_append] at HP HR hz l3 b3
       subst hz
       simp only [] at hu
       have l3a := l3.1
       refine Zc (Za 77 J J J (Zd J J (Za 78 J J J (Yg (xs := [.tmp 77]) (i := 3) J J J (HP) by1 ?_))))
       refine Za 79 J J J (Ym (ns := [0]) (xs := [.tmp 78]) J tz_187 J tfl_187 J J J J (Za 6 J J J (Zy (cs' := [_, _, _, _, _, _, _, _, _, _, _, _, _, _, _, _]) J tz_187 J J ?_))); intro b6
       refine Zs J J (Zo (cs' := [_, _, _, _, _, _, _, _, _, _, _, _, _, _, _, _]) (i := 0) J ts_187 J J J J J (Uc J) J (Vp (Zb (Zg (Zc (Za 80 J J J (Zd J J (Za 81 J J J (Yg (xs := [.tmp 80, .const (.int .i64 7), .const (.string ⟨#[45, 62]⟩)]) (i := 4) J J J (HQ) by1 ?_)))))))))
       refine Vp (Zb (Zg (Zc (Za 82 J J J (Zd J J (Za 83 J J J (Yg (xs := [.tmp 82]) (i := 4) J J J (HR) by1 ?_)))))))
       refine Za 84 J J J (Zh J tf_187_1 J (Zs J J (Zo (cs' := [_, _, _, _, _, _, _, _, _, _, _, _, _, _, _, _]) (i := 0) J Wk J J J J J (Uc J) J (Vp (Zb (Zg (Zc (Za 85 J J J (Zh J tf_110_5 J (Za 86 J J J (Zq (i := 1) J ta_108 J J J (Za 87 J J J (Zx (cs' := [_, _, _, _, _, _, _, _, _, _, _, _, _, _, _, _]) (i := 0) J ta_187 J J J J ?_)))))))))))))
       refine Za 88 J J J (Yi (xs := [.tmp 87]) el_108 J J J J J J (Uc J) (Za 89 J J J (Xj (i := 5) el_108 J J J J (.seq _ _) by6 ?_)))
       intro u89
       refine Za 90 J J J (Zh J tf_110_5 J (Zs J J (Zo (cs' := [_, _, _, _, _, _, _, _, _, _, _]) (i := 1) J ts_108 J J J J J (Uc J) J (Vp (Zb (Zc (Za 91 J J J (Zd J J (Za 92 J J J (op_mayc (xs := [.tmp 91, .const (.string ⟨#[124]⟩)]) (i := 4) J J J (may_c b L hL q3 kBar) by1 ?_ ?_))))))))))
       ·intro g92
        refine Za 5 J J J (Ze J J (Vp (Yv (Xa ?_))))
        first
        | (rw [if_pos g92] at hu; have l4 := (Xo l3 g92).ok l3; have l5 := (is_lt g92).2; exact ⟨(stepP q3, f, acc ++ [Al.mk (Pa.mk vk vs vn vl vp) (Ex.mk wk ws wn (Ty.mk wtk wts wtn wtl) wks wal wbs wp)], u89, true), ⟨l4, (by show L.length - (q3.at_ + 1) < f; omega), (fun _ => by show (acc ++ _).length ≤ q3.at_ + 1; rw [List.length_append]; simp; omega), hu⟩, (by show 2 * f + 1 < 2 * (f + 1) + 1; omega), Vz rfl (Vw _) by4, (Vt _ (Vu _ (Vy (Vw _) (Vy (Vw _) (Vy (Vw _) (Vy (Vw _) (Vy (Vw _) (Vy (Vw _) (Vy (Vw _) (Vy (Vw _) (Vy (Ub (by rw [Al.cellss_app']; rfl)) (Vx _)))))))))) (Vs _ (Vs _ (Vv rfl)))))⟩)
        | (rw [if_neg g92] at hu; exact ⟨(q3, f + 1, acc ++ [Al.mk (Pa.mk vk vs vn vl vp) (Ex.mk wk ws wn (Ty.mk wtk wts wtn wtl) wks wal wbs wp)], u89, false), ⟨l3, (by show L.length - q3.at_ < f + 1; omega), (fun h => by cases h), hu⟩, (by show 2 * (f + 1) + 0 < 2 * (f + 1) + 1; omega), Vz rfl (Vw _) by4, (Vt _ (Vu _ (Vy (Vw _) (Vy (Vw _) (Vy (Vw _) (Vy (Vw _) (Vy (Vw _) (Vy (Vw _) (Vy (Vw _) (Vy (Vw _) (Vy (Ub (by rw [Al.cellss_app']; rfl)) (Vx _)))))))))) (Vs _ (Vs _ (Vv rfl)))))⟩)
       ·intro g92
        refine Za 5 J J J (Ze J J (Vp (Yv (Xa ?_))))
        first
        | (rw [if_pos g92] at hu; have l4 := (Xo l3 g92).ok l3; have l5 := (is_lt g92).2; exact ⟨(stepP q3, f, acc ++ [Al.mk (Pa.mk vk vs vn vl vp) (Ex.mk wk ws wn (Ty.mk wtk wts wtn wtl) wks wal wbs wp)], u89, true), ⟨l4, (by show L.length - (q3.at_ + 1) < f; omega), (fun _ => by show (acc ++ _).length ≤ q3.at_ + 1; rw [List.length_append]; simp; omega), hu⟩, (by show 2 * f + 1 < 2 * (f + 1) + 1; omega), Vz rfl (Vw _) by4, (Vt _ (Vu _ (Vy (Vw _) (Vy (Vw _) (Vy (Vw _) (Vy (Vw _) (Vy (Vw _) (Vy (Vw _) (Vy (Vw _) (Vy (Vw _) (Vy (Ub (by rw [Al.cellss_app']; rfl)) (Vx _)))))))))) (Vs _ (Vs _ (Vv rfl)))))⟩)
        | (rw [if_neg g92] at hu; exact ⟨(q3, f + 1, acc ++ [Al.mk (Pa.mk vk vs vn vl vp) (Ex.mk wk ws wn (Ty.mk wtk wts wtn wtl) wks wal wbs wp)], u89, false), ⟨l3, (by show L.length - q3.at_ < f + 1; omega), (fun h => by cases h), hu⟩, (by show 2 * (f + 1) + 0 < 2 * (f + 1) + 1; omega), Vz rfl (Vw _) by4, (Vt _ (Vu _ (Vy (Vw _) (Vy (Vw _) (Vy (Vw _) (Vy (Vw _) (Vy (Vw _) (Vy (Vw _) (Vy (Vw _) (Vy (Vw _) (Vy (Ub (by rw [Al.cellss_app']; rfl)) (Vx _)))))))))) (Vs _ (Vs _ (Vv rfl)))))⟩)
     ·exact absurd g48 (by decide)
    ·exact absurd g41 h4
   ·exact absurd g33 h3
  ·exact absurd g25 h2
 ·exact absurd g17 h1
set_option maxHeartbeats 4000000 in
set_option maxRecDepth 100000 in
theorem atom_par (b : Nat) (L : List Tok) (hL : L.length ≤ 100000) (n : Nat) (E : PS → Ex × PS) (HE : ExC b L n E) (HA : ∀ q, POk L n q → Adv L q (E q).2) (p : PS) (k : POk L n p) (h1 : (nxt L p).k ≠ 1) (h2 : (nxt L p).k ≠ 2) (h3 : (nxt L p).k ≠ 3) (h4 : (nxt L p).k ≠ 4) (hc : ¬ isP L p kCase = true) (r : Ex × PS)
    (hr : (if isP L (takeP L p 7 kLP).2 kRP = true then (namE 4 kUnit (nxt L p).a, stepP (takeP L p 7 kLP).2)
     else if (nxt L (takeP L p 7 kLP).2).k = 5 then (namE 3 (takeP L (takeP L p 7 kLP).2 5 kE).1.t (nxt L p).a, (takeP L (takeP L (takeP L p 7 kLP).2 5 kE).2 7 kRP).2)
     else annG L (nxt L p).a (E (takeP L p 7 kLP).2)) = r) : MCall Tryz.prog 124 [.ptr b 0] (.loc b (psC L p)) (.agg r.1.cells) (.loc b (psC L r.2)) := by
 have HN := next_c b L p
 have H1 := take_c b L hL p k.1 7 kLP
 have k1 := (Yn (kind := 7) (s := kLP) (by decide) k).ok k
 obtain ⟨⟨tk, tt, tn, ta⟩, ht⟩ : ∃ t, nxt L p = t := ⟨_, rfl⟩
 rw [ht] at HN hr h1 h2 h3 h4
 simp only [Tok.av] at HN hr h1 h2 h3 h4
 obtain ⟨⟨u1, p1⟩, e1⟩ : ∃ r, takeP L p 7 kLP = r := ⟨_, rfl⟩
 rw [e1] at H1 hr k1
 simp only [] at H1 hr k1
 have HN1 := next_c b L p1
 obtain ⟨⟨qk, qt, qn, qa⟩, ht1⟩ : ∃ t, nxt L p1 = t := ⟨_, rfl⟩
 rw [ht1] at HN1 hr
 have H5 := take_c b L hL p1 k1.1 5 kE
 have k5 := (Yn (kind := 5) (s := kE) (by decide) k1).ok k1
 have HX := HE p1 k1
 have kx := (HA p1 k1).ok k1
 obtain ⟨⟨⟨ok, ot, on, oa⟩, p5⟩, e5⟩ : ∃ r, takeP L p1 5 kE = r := ⟨_, rfl⟩
 rw [e5] at H5 k5 hr
 obtain ⟨⟨⟨xk, xs, xn, ⟨xtk, xts, xtn, xtl⟩, xks, xal, xbs, xp⟩, p2⟩, e2⟩ : ∃ r, E p1 = r := ⟨_, rfl⟩
 rw [e2] at HX kx hr
 unfold annG at hr
 simp only [Tok.av, Ex.cells, Ty.cells, List.cons_append, List.nil_append] at HN1 H5 k5 hr HX kx
 refine Zw Tryz.func124 J (by kernel_rfl) J (Uc J) ?_
 refine Ye (Zg (Zc (Za 2 J J J (Zy (cs' := [_, _, _, _, _, _, _, _, _, _, _]) J Xz J J ?_)))); intro b2
 refine Vp (Zb (Zg (Zc (Za 9 J J J (Zd J J (Za 10 J J J (Wq (xs := [.tmp 9]) [1] J J J (HN) by1 ?_)))))))
 refine Za 3 J J J (Zy (cs' := [_, _, _, _]) J Wf J J ?_); intro b3
 refine Zs J J (Zo (cs' := [_, _, _, _]) (i := 0) J Xk J J J J J (Uc J) J (Vp (Zb (Zg (Zc (Za 11 J J J (Zh J Wt J (Za 12 J J J (Zq (i := 0) J Xb J J J (Za 13 J J J (Ym (ns := [7]) (xs := [.tmp 12]) J Xz J tfl_110 J J J J (Za 4 J J J (Zy (cs' := [_, _, _, _, _, _, _, _, _, _, _]) J Xz J J ?_))))))))))))); intro b4
 refine Zs J J (Zo (cs' := [_, _, _, _, _, _, _, _, _, _, _]) (i := 0) J Wk J J J J J (Uc J) J (Vp (Zb (Zg (Zz (Zg (Zc (Za 15 J J J (Zh J Xf J (Za 16 J J J (Zq (i := 1) J Xb J J J (Za 17 J J J (Yr J J J ?_))))))))))))); intro c17 h17
 refine Za 14 J J J (Ze J J (Vp (Zb ?_)))
 rcases Zi h17 with ⟨rfl, g17⟩ | ⟨rfl, g17⟩
 ·refine Zr J (Zg (Zc (Za 23 J J J (Zh J Xf J (Za 24 J J J (Zq (i := 1) J Xb J J J (Za 25 J J J (Yr J J J ?_)))))))); intro c25 h25
  refine Za 22 J J J (Ze J J (Vp (Zb ?_)))
  rcases Zi h25 with ⟨rfl, g25⟩ | ⟨rfl, g25⟩
  ·refine Zr J (Zg (Zc (Za 31 J J J (Zh J Xf J (Za 32 J J J (Zq (i := 1) J Xb J J J (Za 33 J J J (Yr J J J ?_)))))))); intro c33 h33
   refine Za 30 J J J (Ze J J (Vp (Zb ?_)))
   rcases Zi h33 with ⟨rfl, g33⟩ | ⟨rfl, g33⟩
   ·refine Zr J (Zg (Zc (Za 39 J J J (Zh J Xf J (Za 40 J J J (Zq (i := 1) J Xb J J J (Za 41 J J J (Yr J J J ?_)))))))); intro c41 h41
    refine Za 38 J J J (Ze J J (Vp (Zb ?_)))
    rcases Zi h41 with ⟨rfl, g41⟩ | ⟨rfl, g41⟩
    ·refine Zr J (Zv (Yv (Zb (Zg (Zg (Zc (Za 46 J J J (Zh J tf_110_0 J (Za 47 J J J (Zq (i := 0) J Xb J J J (Za 48 J J J (Ww J J J ?_)))))))))))); intro c48 h48
     refine Vp (Zb ?_)
     rcases Zi h48 with ⟨rfl, g48⟩ | ⟨rfl, g48⟩
     ·refine Zr J (Zv (Zb (Zg (Zg (Zc (Za 57 J J J (Zd J J (Za 58 J J J (Yg (xs := [.tmp 57, .const (.string ⟨#[99, 97, 115, 101]⟩)]) (i := 3) J J J (may_no hL hc) by1 ?_)))))))))
      refine Vp (Zb (Zr J (Zv (Zb (Zg (Zc (Za 96 J J J (Zd J J (Za 97 J J J (Yg (xs := [.tmp 96, .const (.int .i64 7), .const (.string ⟨#[40]⟩)]) (i := 3) J J J (H1) by1 ?_))))))))))
      refine Vp (Zb (Zg (Zg (Zc (Za 98 J J J (Zd J J (Za 99 J J J (op_mayc (xs := [.tmp 98, .const (.string ⟨#[41]⟩)]) (i := 3) J J J (may_c b L hL p1 kRP) by1 ?_ ?_))))))))
      ·intro g99
       refine Vp (Zb (Zt J (Zg (Zc (Za 100 J J J (Zh J Wt J (Za 101 J J J (Zq (i := 1) J Xb J J J (Za 102 J J J (Ym (ns := [0, 1, 7]) (xs := [.const (.int .i64 4), .const (.string ⟨#[85, 110, 105, 116]⟩), .tmp 101]) J Xz J tfl_110 J J J J ?_))))))))))
       refine Zs J J (Zo (cs' := [_, _, _, _, _, _, _, _, _, _, _]) (i := 2) J Wk J J J J J (Uc J) J (Vp (Zb (Ya ?_))))
       rw [if_pos g99] at hr; subst hr; exact Yl (i := 2) rfl rfl rfl Wd rfl by0 (Vt _ (Vt _ (Vt _ (Vv rfl)))) ⟨rfl, rfl⟩
      ·intro g99
       refine Vp (Zb (Zr J (Zv (Zb (Zg (Zg (Zc (Za 103 J J J (Zd J J (Za 104 J J J (Wq (xs := [.tmp 103]) [3] J J J (HN1) by1 ?_)))))))))))
       refine Za 105 J J J (Wy (ft := 3) (fo := 0) J (by kernel_rfl) Xb J J ?_)
       refine Za 106 J J J (Yr J J J ?_); intro c106 h106
       refine Vp (Zb ?_)
       rcases Zi h106 with ⟨rfl, g106⟩ | ⟨rfl, g106⟩
       ·refine Zr J (Zv (Zb (Zg (Zc (Za 116 J J J (Zd J J (Za 117 J J J (Yg (xs := [.tmp 116]) (i := 3) J J J (HX) by1 ?_))))))))
        refine Za 8 J J J (Zy (cs' := [_, _, _, _, _, _, _, _, _, _, _]) J Xz J J ?_); intro b8
        refine Zs J J (Zo (cs' := [_, _, _, _, _, _, _, _, _, _, _]) (i := 0) J Wk J J J J J (Uc J) J (Vp (Zb (Zg (Zg ?_)))))
        rw [if_neg g99, if_neg g106] at hr
        refine Zc (Za 118 J J J (Zd J J (Za 119 J J J (op_mayc (xs := [.tmp 118, .const (.string ⟨#[58]⟩)]) (i := 4) J J J (may_c b L hL p2 kColon) by1 ?_ ?_))))
        ·intro g119
         refine Vp (Zb (Zt J ?_))
         have ka := (Xo kx g119).ok kx
         have HT := typeP_c b L hL n _ ka
         have k8 := (typeP_adv ka).ok ka
         have H8 := take_c b L hL _ k8.1 7 kRP
         rw [if_pos g119] at hr
         obtain ⟨⟨⟨wk, ws, wn, wl⟩, p3⟩, e3⟩ : ∃ r, typeP L (stepP p2) = r := ⟨_, rfl⟩
         rw [e3] at HT H8 hr
         simp only [Ty.cells] at HT H8 hr
         refine Xw [0, 2, 3, 4, 5, 1, 6, 7] [1, 7] [[], [0], [], [2], [], [4], [0, 1, 2, 3, 4, 5], [0, 1, 2, 3, 4, 5, 6]] Wr J (Yb 120 (none) (i := 0) J J J J J (Zd J J ⟨J, J⟩) ?_)
         refine Yb 122 (some 0) (i := 2) J J J J J (Zx (cs' := [_, _, _, _, _, _, _, _, _, _, _]) (i := 0) J Wd J J J J ⟨J, J⟩) ?_
         refine Yb 123 (none) (i := 3) J J J J J (Yi (xs := [.tmp 122]) el_107 J J J J J J (Uc J) ⟨J, J⟩) ?_
         refine Yb 124 (none) (i := 4) J J J J J (Zh J Wt J ⟨J, J⟩) ?_
         refine Yb 125 (some 2) (i := 5) J J J J J (Zq (i := 0) J Xb J J J ⟨J, J⟩) ?_
         refine Xn 4 (i := 1) J J J J J (Yg (xs := [.tmp 120]) (i := 0) J J J (HT) by1 ⟨_, J, ?_⟩)
         refine Yb 126 (none) (i := 6) J J J J J (Ym (ns := [0, 3, 4, 7]) (xs := [.const (.int .i64 12), .tmp 121, .tmp 123, .tmp 125]) J Xz J tfl_110 J J J J ⟨J, J⟩) ?_
         refine Xn 0 (i := 7) J J J J J (Zo (cs' := [_, _, _, _, _, _, _, _, _, _, _]) (i := 0) J Wk J J J J J (Uc J) J ⟨_, J, ?_⟩)
         show AGo _ _ _ _ _ _ _
         refine Zb (Zg ?_)
         first | have H9 := H8 | have H9 := take_c b L hL p2 kx.1 7 kRP
         refine Zc (Za 127 J J J (Zd J J (Za 128 J J J (Yg (xs := [.tmp 127, .const (.int .i64 7), .const (.string ⟨#[41]⟩)]) (i := 4) J J J (H9) by1 ?_))))
         refine Vp (Zb (Zg (Zc (Za 129 J J J (Zx (cs' := [_, _, _, _, _, _, _, _, _, _, _]) (i := 0) J Wd J J J J (Zs J J (Zo (cs' := [_, _, _, _, _, _, _, _, _, _, _]) (i := 3) J Wk J J J J J (Uc J) J (Vp (Zb (Ya ?_))))))))))
         subst hr; exact Yl (i := 3) rfl rfl rfl Wd rfl by0 (Vt _ (Vt _ (Vt _ (Vt _ (Vv rfl))))) ⟨rfl, rfl⟩
        ·intro g119
         refine Vp (Zb (Zr J (Zv (Zb (Zg ?_)))))
         first | have H9 := H8 | have H9 := take_c b L hL p2 kx.1 7 kRP
         refine Zc (Za 127 J J J (Zd J J (Za 128 J J J (Yg (xs := [.tmp 127, .const (.int .i64 7), .const (.string ⟨#[41]⟩)]) (i := 4) J J J (H9) by1 ?_))))
         refine Vp (Zb (Zg (Zc (Za 129 J J J (Zx (cs' := [_, _, _, _, _, _, _, _, _, _, _]) (i := 0) J Wd J J J J (Zs J J (Zo (cs' := [_, _, _, _, _, _, _, _, _, _, _]) (i := 3) J Wk J J J J J (Uc J) J (Vp (Zb (Ya ?_))))))))))
         rw [if_neg g119] at hr; subst hr; exact Yl (i := 3) rfl rfl rfl Wd rfl by0 (Vt _ (Vt _ (Vt _ (Vt _ (Vv rfl))))) ⟨rfl, rfl⟩
       ·refine Zt J (Zg (Zc (Za 107 J J J (Zd J J (Za 108 J J J (Yg (xs := [.tmp 107, .const (.int .i64 5), .const (.string ⟨#[]⟩)]) (i := 3) J J J (H5) by1 ?_))))))
        refine Za 7 J J J (Zy (cs' := [_, _, _, _]) J Wf J J ?_); intro b7
        refine Zs J J (Zo (cs' := [_, _, _, _]) (i := 0) J Xk J J J J J (Uc J) J (Vp (Zb (Zg (Zc (Za 109 J J J (Zd J J (Za 110 J J J (Yg (xs := [.tmp 109, .const (.int .i64 7), .const (.string ⟨#[41]⟩)]) (i := 4) J J J (take_c b L hL p5 k5.1 7 kRP) by1 ?_)))))))))
        refine Vp (Zb (Zg (Zc (Za 111 J J J (Zh J Xh J (Za 112 J J J (Zq (i := 0) J Yz J J J (Za 113 J J J (Zh J Wt J (Za 114 J J J (Zq (i := 2) J Xb J J J (Za 115 J J J (Ym (ns := [0, 1, 7]) (xs := [.const (.int .i64 3), .tmp 112, .tmp 114]) J Xz J tfl_110 J J J J ?_)))))))))))))
        refine Zs J J (Zo (cs' := [_, _, _, _, _, _, _, _, _, _, _]) (i := 3) J Wk J J J J J (Uc J) J (Vp (Zb (Ya ?_))))
        rw [if_neg g99, if_pos g106] at hr; subst hr; exact Yl (i := 3) rfl rfl rfl Wd rfl by0 (Vt _ (Vt _ (Vt _ (Vt _ (Vv rfl))))) ⟨rfl, rfl⟩
     ·exact absurd g48 (by decide)
    ·exact absurd g41 h4
   ·exact absurd g33 h3
  ·exact absurd g25 h2
 ·exact absurd g17 h1
theorem atom_c (b : Nat) (L : List Tok) (hL : L.length ≤ 100000) (n : Nat) (E : PS → Ex × PS) (HE : ExC b L n E) (HA : ∀ q, POk L n q → Adv L q (E q).2) (p : PS) (k : POk L n p) : MCall Tryz.prog 124 [.ptr b 0] (.loc b (psC L p)) (.agg (atomG L E p).1.cells) (.loc b (psC L (atomG L E p).2)) := by
 by_cases h1 : (nxt L p).k = 1
 ·exact atom_lit b L hL n E p k (.inl h1)
 by_cases h2 : (nxt L p).k = 2
 ·exact atom_lit b L hL n E p k (.inr (.inl h2))
 by_cases h3 : (nxt L p).k = 3
 ·exact atom_lit b L hL n E p k (.inr (.inr (.inl h3)))
 by_cases h4 : (nxt L p).k = 4
 ·exact atom_lit b L hL n E p k (.inr (.inr (.inr h4)))
 by_cases h5 : isP L p kCase = true
 ·rw [atomG, if_neg h1, if_neg h2, if_neg h3, if_neg h4, if_pos h5]; exact atom_case b L hL n E HE HA p k h1 h2 h3 h4 h5
 ·exact atom_par b L hL n E HE HA p k h1 h2 h3 h4 h5 _ (by rw [atomG, if_neg h1, if_neg h2, if_neg h3, if_neg h4, if_neg h5])
theorem may_eq {b : Nat} {L : List Tok} (hL : L.length ≤ 100000) {p : PS} {s : ByteArray} {c : Bool} (h : isP L p s = c) : MCall Tryz.prog 51 [.ptr b 0, .val (.string s)] (.loc b (psC L p)) (.val (.bool c)) (.loc b (psC L (if c = true then stepP p else p))) := by
 cases c with
 | true => exact may_yes hL h
 | false => exact may_no hL (by rw [h]; simp)
set_option maxHeartbeats 4000000 in
set_option maxRecDepth 100000 in
theorem operand_lam (b : Nat) (L : List Tok) (hL : L.length ≤ 100000) (n : Nat) (E : PS → Ex × PS) (HE : ExC b L n E) (p : PS) (k : POk L n p) (h1 : isP L p kBack = true) : MCall Tryz.prog 105 [.ptr b 0] (.loc b (psC L p)) (.agg (lambdaG L E (L.length + 1) (stepP p) (nxt L p).a).1.cells) (.loc b (psC L (lambdaG L E (L.length + 1) (stepP p) (nxt L p).a).2)) := by
 have HN := next_c b L p
 have HL := lambda_c b L hL n E HE (L.length + 1) (stepP p) (nxt L p).a ((Xo k h1).ok k) (by omega)
 obtain ⟨⟨tk, tt, tn, ta⟩, ht⟩ : ∃ t, nxt L p = t := ⟨_, rfl⟩
 rw [ht] at HN HL ⊢
 simp only [Tok.av] at HN HL ⊢
 obtain ⟨⟨⟨xk, xs, xn, ⟨xtk, xts, xtn, xtl⟩, xks, xal, xbs, xp⟩, p3⟩, e3⟩ : ∃ r, lambdaG L E (L.length + 1) (stepP p) ta = r := ⟨_, rfl⟩
 rw [e3] at HL ⊢
 simp only [Ex.cells, Ty.cells, List.cons_append, List.nil_append] at HL ⊢
 refine Zw Tryz.func105 J (by kernel_rfl) J (Uc J) ?_
 refine Ye (Zg (Zc (Za 2 J J J (Zy (cs' := [_, _, _, _, _, _, _, _, _, _, _]) J Xz J J ?_)))); intro b2
 refine Vp (Zb (Zg (Zc (Za 9 J J J (Zd J J (Za 10 J J J (Wq (xs := [.tmp 9]) [1] J J J (HN) by1 ?_)))))))
 refine Za 3 J J J (Zy (cs' := [_, _, _, _]) J Wf J J ?_); intro b3
 refine Zs J J (Zo (cs' := [_, _, _, _]) (i := 0) J Xk J J J J J (Uc J) J (Vp (Zb (Zg (Zg (Zc (Za 11 J J J (Zd J J (Za 12 J J J (Yg (xs := [.tmp 11, .const (.string ⟨#[92]⟩)]) (i := 2) J J J (may_yes hL h1) by1 ?_))))))))))
 refine Vp (Zb (Zt J (Zg (Zc (Za 13 J J J (Zd J J (Za 14 J J J (Zh J Wt J (Za 15 J J J (Zq (i := 0) J Xb J J J ?_))))))))))
 refine Za 16 J J J (Yg (xs := [.tmp 13, .tmp 15]) (i := 2) J J J (HL) by1 ?_)
 exact Zs J J (Zo (cs' := [_, _, _, _, _, _, _, _, _, _, _]) (i := 1) J Wk J J J J J (Uc J) J (Vp (Zb (Ya (Yl (i := 1) J J J Wd J (Vw _) (Vt _ (Vt _ (Vv J))) ⟨J, J⟩)))))
theorem bindsL_go {L : List Tok} {E : PS → Ex × PS} {f : Nat} {p : PS} {acc : List Bi} (h : isP L p kAnd = true) : bindsL L E (f + 1) p acc = bindsL L E f (bindG L E (stepP p)).2 (acc ++ [(bindG L E (stepP p)).1]) := by rw [bindsL, if_pos h]
theorem bindsL_end {L : List Tok} {E : PS → Ex × PS} {f : Nat} {p : PS} {acc : List Bi} (h : ¬ isP L p kAnd = true) : bindsL L E f p acc = (acc, p) := by
 cases f with
 | zero => rfl
 | succ f => rw [bindsL, if_neg h]
set_option maxHeartbeats 4000000 in
set_option maxRecDepth 100000 in
theorem operand_let (b : Nat) (L : List Tok) (hL : L.length ≤ 100000) (n : Nat) (E : PS → Ex × PS) (HE : ExC b L n E) (HA : ∀ q, POk L n q → Adv L q (E q).2) (p : PS) (k : POk L n p) (h1 : ¬ isP L p kBack = true) (h2 : isP L p kLet = true) (c23 : Bool) (h3 : isP L (stepP p) kRec = c23) (r : Ex × PS) (hr : letG L E (nxt L p).a (if c23 = true then 1 else 0) (if c23 = true then stepP (stepP p) else stepP p) = r) : MCall Tryz.prog 105 [.ptr b 0] (.loc b (psC L p)) (.agg r.1.cells) (.loc b (psC L r.2)) := by
 have HN := next_c b L p
 have k1 := (Xo k h2).ok k
 have HM := may_eq (b := b) hL h3
 have kq : POk L n (if c23 = true then stepP (stepP p) else stepP p) := by
  cases c23 with
  | true => exact (Xo k1 h3).ok k1
  | false => exact k1
 obtain ⟨⟨tk, tt, tn, ta⟩, ht⟩ : ∃ t, nxt L p = t := ⟨_, rfl⟩
 rw [ht] at HN hr
 simp only [Tok.av] at HN hr
 obtain ⟨p2, hp2⟩ : ∃ q, (if c23 = true then stepP (stepP p) else stepP p) = q := ⟨_, rfl⟩
 rw [hp2] at HM hr kq
 unfold letG at hr
 simp only [] at hr
 have HB := bind_c b L hL n E HE p2 kq
 have k3 := (bindG_adv HA kq).ok kq
 obtain ⟨⟨⟨bn, ⟨xk, xs, xn, ⟨xtk, xts, xtn, xtl⟩, xks, xal, xbs, xp⟩, bp⟩, p3⟩, e3⟩ : ∃ r, bindG L E p2 = r := ⟨_, rfl⟩
 rw [e3] at HB hr k3
 have k4 := (bindsL_adv HA (L.length + 1) p3 [Bi.mk bn (Ex.mk xk xs xn (Ty.mk xtk xts xtn xtl) xks xal xbs xp) bp] k3).ok k3
 obtain ⟨⟨bl, p4⟩, e4⟩ : ∃ r, bindsL L E (L.length + 1) p3 [Bi.mk bn (Ex.mk xk xs xn (Ty.mk xtk xts xtn xtl) xks xal xbs xp) bp] = r := ⟨_, rfl⟩
 simp only [] at hr k3
 rw [e4] at hr k4
 simp only [] at hr k4
 have H4 := take_c b L hL p4 k4.1 6 kIn
 have k5 := (Yn (kind := 6) (s := kIn) (by decide) k4).ok k4
 obtain ⟨⟨u5, p5⟩, e5⟩ : ∃ r, takeP L p4 6 kIn = r := ⟨_, rfl⟩
 rw [e5] at hr k5 H4
 simp only [] at hr k5 H4
 have HX := HE p5 k5
 obtain ⟨⟨⟨yk, ys, yn, ⟨ytk, yts, ytn, ytl⟩, yks, yal, ybs, yp⟩, p6⟩, e6⟩ : ∃ r, E p5 = r := ⟨_, rfl⟩
 rw [e6] at HX hr
 simp only [Bi.cells, Ex.cells, Ty.cells, List.cons_append, List.nil_append] at HB HX hr
 refine Zw Tryz.func105 J (by kernel_rfl) J (Uc J) ?_
 refine Ye (Zg (Zc (Za 2 J J J (Zy (cs' := [_, _, _, _, _, _, _, _, _, _, _]) J Xz J J ?_)))); intro b2
 refine Vp (Zb (Zg (Zc (Za 9 J J J (Zd J J (Za 10 J J J (Wq (xs := [.tmp 9]) [1] J J J (HN) by1 ?_)))))))
 refine Za 3 J J J (Zy (cs' := [_, _, _, _]) J Wf J J ?_); intro b3
 refine Zs J J (Zo (cs' := [_, _, _, _]) (i := 0) J Xk J J J J J (Uc J) J (Vp (Zb (Zg (Zg (Zc (Za 11 J J J (Zd J J (Za 12 J J J (Yg (xs := [.tmp 11, .const (.string ⟨#[92]⟩)]) (i := 2) J J J (may_no hL h1) by1 ?_))))))))))
 refine Vp (Zb (Zr J (Zv (Zb (Zg (Zg (Zc (Za 17 J J J (Zd J J (Za 18 J J J (Yg (xs := [.tmp 17, .const (.string ⟨#[108, 101, 116]⟩)]) (i := 2) J J J (may_yes hL h2) by1 ?_)))))))))))
 refine Vp (Zb (Zt J (Zg (Zc (Za 19 J J J (Zh J Wt J (Za 20 J J J (Zq (i := 0) J Xb J J J (Za 21 J J J (Ym (ns := [0, 7]) (xs := [.const (.int .i64 7), .tmp 20]) J Xz J tfl_110 J J J J ?_))))))))))
 refine Za 4 J J J (Zy (cs' := [_, _, _, _, _, _, _, _, _, _, _]) J Xz J J ?_); intro b4
 refine Zs J J (Zo (cs' := [_, _, _, _, _, _, _, _, _, _, _]) (i := 0) J Wk J J J J J (Uc J) J (Vp (Zb (Zg (Zg (Zc (Za 22 J J J (Zd J J (Za 23 J J J (Yg (xs := [.tmp 22, .const (.string ⟨#[114, 101, 99]⟩)]) (i := 3) J J J (HM) by1 ?_))))))))))
 refine Vp (Zb ?_)
 apply c_joink [1, 9, 10, 11, 12, 13, 14, 15, 16, 17, 18, 19, 20, 21, 22, 23, 24, 42, 56, 60] (σ := Unit) (fun zz => match zz with | z => []) (fun zz => match zz with | z => [.loc b4 [.val (.int .i64 7), .val (.string kE), .val (.int .i64 (if c23 = true then 1 else 0)), .val (.int .i64 0), .val (.string kE), .val (.int .i64 0), .val (.slice none 0 0), .val (.slice none 0 0), .val (.slice none 0 0), .val (.slice none 0 0), .val (.int .i64 ta)], .loc b3 (Tok.mk tk tt tn ta).av, .loc b2 zEx, .loc b (psC L p2)]) (fun zz => match zz with | z => True)
 ·repeat' (first | exact Uf | apply Ud rfl | apply Ue rfl)
 ·skip
  rcases c23 with _ | _
  ·refine Zr J (Zv (Xa ?_))
   exact ⟨(), trivial, by4, Vv J⟩
  ·refine Zt J (Zc (Za 24 J J J (Zh J tf_110_2 J (Zs J J (Zo (cs' := [_, _, _, _, _, _, _, _, _, _, _]) (i := 0) J ts_2 J J J J J (Uc J) J (Vp (Xa ?_)))))))
   exact ⟨(), trivial, by4, Vv J⟩
 rintro z hI
 try dsimp only [List.cons_append, List.nil_append] at hI ⊢
 refine Zb (Zg (Xw [0, 1, 2, 3, 4, 5, 6, 7] [3, 5, 7] [[], [0], [], [2], [2, 3], [0, 1, 2, 3, 4], [0, 1, 2, 3, 4, 5], [0, 1, 2, 3, 4, 5, 6]] Wr J (Yb 25 (none) (i := 0) J J J J J (Zh J tf_110_6 J ⟨J, J⟩) ?_)))
 refine Yb 26 (some 0) (i := 1) J J J J J (Zq (i := 0) J ta_53 J J J ⟨J, J⟩) ?_
 refine Yb 27 (none) (i := 2) J J J J J (Zd J J ⟨J, J⟩) ?_
 refine Xn 3 (i := 3) J J J J J (Yg (xs := [.tmp 27]) (i := 0) J J J (HB) by1 ⟨_, J, ?_⟩)
 refine Yb 29 (none) (i := 4) J J J J J (Yi (xs := [.tmp 28]) el_53 J J J J J J (Uc J) ⟨J, J⟩) ?_
 refine EOps.nw (i := 5) J J J (op_append_nil el_53 J J J (.seq _ _) by6 (fun u30 => ⟨_, J, ?_⟩))
 refine Yb 31 (none) (i := 6) J J J J J (Zh J tf_110_6 J ⟨J, J⟩) ?_
 refine Xn 0 (i := 7) J J J J J (Zo (cs' := [_, _, _, _, _, _, _, _, _, _, _]) (i := 0) J ts_53 J J J J J (Uc J) J ⟨_, J, ?_⟩)
 show AGo _ _ _ _ _ _ _
 refine Zb (Zg (Zz ?_))
 apply Wg [1, 9, 10, 11, 12, 13, 14, 15, 16, 17, 18, 19, 20, 21, 22, 23, 24, 25, 26, 27, 28, 29, 30, 31, 32, 33, 34, 35, 36, 37, 38, 39, 40, 42, 56, 60] (σ := PS × Nat × List Bi × Value) (fun zz => match zz with | (q, f, acc, u) => []) (fun zz => match zz with | (q, f, acc, u) => [.loc b4 [.val (.int .i64 7), .val (.string kE), .val (.int .i64 (if c23 = true then 1 else 0)), .val (.int .i64 0), .val (.string kE), .val (.int .i64 0), .val (.slice none 0 0), .val (.slice none 0 0), .val (.slice none 0 0), .own u 13 (Bi.cellss acc), .val (.int .i64 ta)], .loc b3 (Tok.mk tk tt tn ta).av, .loc b2 zEx, .loc b (psC L q), .own 112 13 u]) (fun zz => match zz with | (q, f, acc, u) => POk L n q ∧ L.length - q.at_ < f ∧ acc.length ≤ q.at_ + 1 ∧ bindsL L E f q acc = (bl, p4)) (fun zz => match zz with | (q, f, acc, u) => f) ((p3, L.length + 1, [Bi.mk bn (Ex.mk xk xs xn (Ty.mk xtk xts xtn xtl) xks xal xbs xp) bp], u30))
 ·repeat' (first | exact Uf | apply Ud rfl | apply Ue rfl)
 ·exact ⟨k3, by omega, by simp, e4⟩
 ·exact by4
 ·exact (Vv J)
 rintro ⟨q, f, acc, u⟩ hI
 try dsimp only [List.cons_append, List.nil_append] at hI ⊢
 obtain ⟨i1, i2, i3, hu⟩ := hI
 have hq1 := i1.1
 have hle : (Bi.cellss acc).length ≤ 200000 := by rw [Bi.cellss_len]; omega
 refine Zg (Zg (Zc (Za 32 J J J (Zd J J (Za 33 J J J (op_mayc (xs := [.tmp 32, .const (.string ⟨#[97, 110, 100]⟩)]) (i := 3) J J J (may_c b L hL q kAnd) by1 ?_ ?_))))))
 ·intro g33
  refine Vp (Zb (Zt J (Zv (Zb (Zz ?_)))))
  obtain ⟨f, rfl⟩ : ∃ f', f = f' + 1 := ⟨f - 1, by omega⟩
  rw [bindsL_go g33] at hu
  have l1 := (Xo i1 g33).ok i1
  have l2 := (bindG_adv HA l1).ok l1
  have b2' : (stepP q).at_ ≤ _ := (bindG_adv HA l1).1
  have b4' : (stepP q).at_ = q.at_ + 1 := rfl
  have b5' := (is_lt g33).2
  have HB2 := bind_c b L hL n E HE _ l1
  obtain ⟨⟨⟨cn, ⟨wk, ws, wn, ⟨wtk, wts, wtn, wtl⟩, wks, wal, wbs, wp⟩, cp⟩, q2⟩, f2⟩ : ∃ r, bindG L E (stepP q) = r := ⟨_, rfl⟩
  rw [f2] at HB2 hu l2 b2'
  simp only [Bi.cells, Ex.cells, Ty.cells, List.cons_append, List.nil_append] at HB2 hu l2 b2'
  have l3 := l2.1
  refine Xw [0, 1, 2, 3, 4, 5, 6, 7] [3, 5, 7] [[], [0], [], [2], [2, 3], [0, 1, 2, 3, 4], [0, 1, 2, 3, 4, 5], [0, 1, 2, 3, 4, 5, 6]] Wr J (Yb 34 (none) (i := 0) J J J J J (Zh J tf_110_6 J ⟨J, J⟩) ?_)
  refine Yb 35 (some 0) (i := 1) J J J J J (Zq (i := 0) J ta_53 J J J ⟨J, J⟩) ?_
  refine Yb 36 (none) (i := 2) J J J J J (Zd J J ⟨J, J⟩) ?_
  refine Xn 3 (i := 3) J J J J J (Yg (xs := [.tmp 36]) (i := 0) J J J (HB2) by1 ⟨_, J, ?_⟩)
  refine Yb 38 (none) (i := 4) J J J J J (Yi (xs := [.tmp 37]) el_53 J J J J J J (Uc J) ⟨J, J⟩) ?_
  refine Xn 4 (i := 5) J J J J J (Xj (i := 0) el_53 J J J J (.seq _ _) by6 (fun u39 => ⟨_, J, ?_⟩))
  refine Yb 40 (none) (i := 6) J J J J J (Zh J tf_110_6 J ⟨J, J⟩) ?_
  refine Xn 0 (i := 7) J J J J J (Zo (cs' := [_, _, _, _, _, _, _, _, _, _, _]) (i := 0) J ts_53 J J J J J (Uc J) J ⟨_, J, ?_⟩)
  show AGo _ _ _ _ _ _ _
  refine Yv (Xa ?_)
  refine ⟨(q2, f, acc ++ [Bi.mk cn (Ex.mk wk ws wn (Ty.mk wtk wts wtn wtl) wks wal wbs wp) cp], u39), ⟨l2, (by show L.length - q2.at_ < f; omega), (by show (acc ++ [Bi.mk cn (Ex.mk wk ws wn (Ty.mk wtk wts wtn wtl) wks wal wbs wp) cp]).length ≤ q2.at_ + 1; rw [List.length_append]; simp; omega), hu⟩, Nat.lt_succ_self f, by4, (Vu _ (Vy (Vw _) (Vy (Vw _) (Vy (Vw _) (Vy (Vw _) (Vy (Vw _) (Vy (Vw _) (Vy (Vw _) (Vy (Vw _) (Vy (Vw _) (Vy (Ub by10) (Vx _))))))))))) (Vs _ (Vs _ (Vv J))))⟩
 ·intro g33
  refine Vp (Zb (Zr J (Xc (Xd (Xv (Xe (Zb (Zg ?_))))))))
  rw [bindsL_end g33] at hu
  simp only [Prod.mk.injEq] at hu
  obtain ⟨rfl, rfl⟩ := hu
  refine Zc (Za 41 J J J (Zd J J (Za 42 J J J (Yg (xs := [.tmp 41, .const (.int .i64 6), .const (.string ⟨#[105, 110]⟩)]) (i := 3) J J J (H4) by1 ?_))))
  refine Vp (Zb (Zg (Xw [0, 1, 2, 3, 4, 5, 6, 7] [3, 5, 7] [[], [0], [], [2], [2, 3], [0, 1, 2, 3, 4], [0, 1, 2, 3, 4, 5], [0, 1, 2, 3, 4, 5, 6]] Wr J (Yb 43 (none) (i := 0) J J J J J (Zh J tf_110_4 J ⟨J, J⟩) ?_))))
  refine Yb 44 (some 0) (i := 1) J J J J J (Zq (i := 0) J ta_107 J J J ⟨J, J⟩) ?_
  refine Yb 45 (none) (i := 2) J J J J J (Zd J J ⟨J, J⟩) ?_
  refine Xn 3 (i := 3) J J J J J (Yg (xs := [.tmp 45]) (i := 0) J J J (HX) by1 ⟨_, J, ?_⟩)
  refine Yb 47 (none) (i := 4) J J J J J (Yi (xs := [.tmp 46]) el_107 J J J J J J (Uc J) ⟨J, J⟩) ?_
  refine EOps.nw (i := 5) J J J (op_append_nil el_107 J J J (.seq _ _) by6 (fun u48 => ⟨_, J, ?_⟩))
  refine Yb 49 (none) (i := 6) J J J J J (Zh J tf_110_4 J ⟨J, J⟩) ?_
  refine Xn 0 (i := 7) J J J J J (Zo (cs' := [_, _, _, _, _, _, _, _, _, _, _]) (i := 0) J ts_107 J J J J J (Uc J) J ⟨_, J, ?_⟩)
  show AGo _ _ _ _ _ _ _
  refine Zb (Zg (Zc (Za 50 J J J (Zx (cs' := [_, _, _, _, _, _, _, _, _, _, _]) (i := 0) J Wd J J J J (Zs J J (Zo (cs' := [_, _, _, _, _, _, _, _, _, _, _]) (i := 2) J Wk J J J J J (Uc J) J (Vp (Zb (Ya ?_)))))))))
  subst hr; exact Yl (i := 2) rfl rfl rfl Wd rfl by0 (Vt _ (Vt _ (Vt _ (Vs _ (Vr _))))) ⟨rfl, rfl⟩
set_option maxHeartbeats 4000000 in
set_option maxRecDepth 100000 in
theorem operand_if (b : Nat) (L : List Tok) (hL : L.length ≤ 100000) (n : Nat) (E : PS → Ex × PS) (HE : ExC b L n E) (HA : ∀ q, POk L n q → Adv L q (E q).2) (p : PS) (k : POk L n p) (h1 : ¬ isP L p kBack = true) (h2 : ¬ isP L p kLet = true) (h3 : isP L p kIf = true) : MCall Tryz.prog 105 [.ptr b 0] (.loc b (psC L p)) (.agg (ifG L E (nxt L p).a (stepP p)).1.cells) (.loc b (psC L (ifG L E (nxt L p).a (stepP p)).2)) := by
 have HN := next_c b L p
 obtain ⟨r, hr⟩ : ∃ r, ifG L E (nxt L p).a (stepP p) = r := ⟨_, rfl⟩
 rw [hr]
 unfold ifG at hr
 simp only [] at hr
 obtain ⟨⟨tk, tt, tn, ta⟩, ht⟩ : ∃ t, nxt L p = t := ⟨_, rfl⟩
 rw [ht] at HN hr
 simp only [Tok.av] at HN hr
 have k1 := (Xo k h3).ok k
 have H1 := HE _ k1
 have k2 := (HA _ k1).ok k1
 obtain ⟨⟨⟨xk, xs, xn, ⟨xtk, xts, xtn, xtl⟩, xks, xal, xbs, xp⟩, p2⟩, e2⟩ : ∃ r, E (stepP p) = r := ⟨_, rfl⟩
 rw [e2] at H1 k2 hr
 simp only [] at k2 hr
 have H2 := take_c b L hL p2 k2.1 6 kThen
 have k3 := (Yn (kind := 6) (s := kThen) (by decide) k2).ok k2
 obtain ⟨⟨u3, p3⟩, e3⟩ : ∃ r, takeP L p2 6 kThen = r := ⟨_, rfl⟩
 rw [e3] at H2 k3 hr
 simp only [] at H2 k3 hr
 have H3 := HE _ k3
 have k4 := (HA _ k3).ok k3
 obtain ⟨⟨⟨yk, ys, yn, ⟨ytk, yts, ytn, ytl⟩, yks, yal, ybs, yp⟩, p4⟩, e4⟩ : ∃ r, E p3 = r := ⟨_, rfl⟩
 rw [e4] at H3 k4 hr
 simp only [] at k4 hr
 have H4 := take_c b L hL p4 k4.1 6 kElse
 have k5 := (Yn (kind := 6) (s := kElse) (by decide) k4).ok k4
 obtain ⟨⟨u5, p5⟩, e5⟩ : ∃ r, takeP L p4 6 kElse = r := ⟨_, rfl⟩
 rw [e5] at H4 k5 hr
 simp only [] at H4 k5 hr
 have H5 := HE _ k5
 obtain ⟨⟨⟨zk, zs, zn, ⟨ztk, zts, ztn, ztl⟩, zks, zal, zbs, zp⟩, p6⟩, e6⟩ : ∃ r, E p5 = r := ⟨_, rfl⟩
 rw [e6] at H5 hr
 simp only [Ex.cells, Ty.cells, List.cons_append, List.nil_append] at H1 H3 H5 hr
 refine Zw Tryz.func105 J (by kernel_rfl) J (Uc J) ?_
 refine Ye (Zg (Zc (Za 2 J J J (Zy (cs' := [_, _, _, _, _, _, _, _, _, _, _]) J Xz J J ?_)))); intro b2
 refine Vp (Zb (Zg (Zc (Za 9 J J J (Zd J J (Za 10 J J J (Wq (xs := [.tmp 9]) [1] J J J (HN) by1 ?_)))))))
 refine Za 3 J J J (Zy (cs' := [_, _, _, _]) J Wf J J ?_); intro b3
 refine Zs J J (Zo (cs' := [_, _, _, _]) (i := 0) J Xk J J J J J (Uc J) J (Vp (Zb (Zg (Zg (Zc (Za 11 J J J (Zd J J (Za 12 J J J (Yg (xs := [.tmp 11, .const (.string ⟨#[92]⟩)]) (i := 2) J J J (may_no hL h1) by1 ?_))))))))))
 refine Vp (Zb (Zr J (Zv (Zb (Zg (Zg (Zc (Za 17 J J J (Zd J J (Za 18 J J J (Yg (xs := [.tmp 17, .const (.string ⟨#[108, 101, 116]⟩)]) (i := 2) J J J (may_no hL h2) by1 ?_)))))))))))
 refine Vp (Zb (Zr J (Zv (Zb (Zg (Zg (Zc (Za 51 J J J (Zd J J (Za 52 J J J (Yg (xs := [.tmp 51, .const (.string ⟨#[105, 102]⟩)]) (i := 2) J J J (may_yes hL h3) by1 ?_)))))))))))
 refine Vp (Zb (Zt J (Zg (Zc (Za 53 J J J (Zd J J (Za 54 J J J (Yg (xs := [.tmp 53]) (i := 2) J J J (H1) by1 ?_))))))))
 refine Za 5 J J J (Zy (cs' := [_, _, _, _, _, _, _, _, _, _, _]) J Xz J J ?_); intro b5
 refine Zs J J (Zo (cs' := [_, _, _, _, _, _, _, _, _, _, _]) (i := 0) J Wk J J J J J (Uc J) J (Vp (Zb (Zg (Zc (Za 55 J J J (Zd J J (Za 56 J J J (Yg (xs := [.tmp 55, .const (.int .i64 6), .const (.string ⟨#[116, 104, 101, 110]⟩)]) (i := 3) J J J (H2) by1 ?_)))))))))
 refine Vp (Zb (Zg (Zc (Za 57 J J J (Zd J J (Za 58 J J J (Yg (xs := [.tmp 57]) (i := 3) J J J (H3) by1 ?_)))))))
 refine Za 6 J J J (Zy (cs' := [_, _, _, _, _, _, _, _, _, _, _]) J Xz J J ?_); intro b6
 refine Zs J J (Zo (cs' := [_, _, _, _, _, _, _, _, _, _, _]) (i := 0) J Wk J J J J J (Uc J) J (Vp (Zb (Zg (Zc (Za 59 J J J (Zd J J (Za 60 J J J (Yg (xs := [.tmp 59, .const (.int .i64 6), .const (.string ⟨#[101, 108, 115, 101]⟩)]) (i := 4) J J J (H4) by1 ?_)))))))))
 refine Vp (Zb (Zg (Zc (Za 61 J J J (Zd J J (Za 62 J J J (Yg (xs := [.tmp 61]) (i := 4) J J J (H5) by1 ?_)))))))
 refine Za 7 J J J (Zy (cs' := [_, _, _, _, _, _, _, _, _, _, _]) J Xz J J ?_); intro b7
 refine Zs J J (Zo (cs' := [_, _, _, _, _, _, _, _, _, _, _]) (i := 0) J Wk J J J J J (Uc J) J (Vp (Zb (Zg (Zc (Za 63 J J J (Zx (cs' := [_, _, _, _, _, _, _, _, _, _, _]) (i := 2) J Wd J J J J (Za 64 J J J (Zx (cs' := [_, _, _, _, _, _, _, _, _, _, _]) (i := 1) J Wd J J J J (Za 65 J J J (Zx (cs' := [_, _, _, _, _, _, _, _, _, _, _]) (i := 0) J Wd J J J J (Za 66 J J J (Yi (xs := [.tmp 63, .tmp 64, .tmp 65]) el_107 J J J J J J (Uc J) ?_)))))))))))))
 refine Za 67 J J J (Zh J Wt J (Za 68 J J J (Zq (i := 3) J Xb J J J (Za 69 J J J (Ym (ns := [0, 4, 7]) (xs := [.const (.int .i64 9), .tmp 66, .tmp 68]) J Xz J tfl_110 J J J J (Zs J J (Zo (cs' := [_, _, _, _, _, _, _, _, _, _, _]) (i := 4) J Wk J J J J J (Uc J) J (Vp (Zb (Ya ?_))))))))))
 subst hr; exact Yl (i := 4) rfl rfl rfl Wd rfl by0 (Vt _ (Vt _ (Vt _ (Vt _ (Vt _ (Vv rfl)))))) ⟨rfl, rfl⟩
theorem appsL_go {L : List Tok} {E : PS → Ex × PS} {a : Int} {f : Nat} {p : PS} {x : Ex} (h : startsP L 2 p) : appsL L E a (f + 1) p x = appsL L E a f (atomG L E p).2 (opE 5 [x, (atomG L E p).1] a) := by rw [appsL, if_pos h]
theorem appsL_end {L : List Tok} {E : PS → Ex × PS} {a : Int} {f : Nat} {p : PS} {x : Ex} (h : ¬ startsP L 2 p) : appsL L E a f p x = (x, p) := by
 cases f with
 | zero => rfl
 | succ f => rw [appsL, if_neg h]
set_option maxHeartbeats 4000000 in
set_option maxRecDepth 100000 in
theorem operand_app (b : Nat) (L : List Tok) (hL : L.length ≤ 100000) (n : Nat) (E : PS → Ex × PS) (HE : ExC b L n E) (HA : ∀ q, POk L n q → Adv L q (E q).2) (p : PS) (k : POk L n p) (h1 : ¬ isP L p kBack = true) (h2 : ¬ isP L p kLet = true) (h3 : ¬ isP L p kIf = true) (r : Ex × PS) (hr : appsL L E (nxt L p).a (L.length + 1) (atomG L E p).2 (atomG L E p).1 = r) : MCall Tryz.prog 105 [.ptr b 0] (.loc b (psC L p)) (.agg r.1.cells) (.loc b (psC L r.2)) := by
 have HN := next_c b L p
 obtain ⟨⟨tk, tt, tn, ta⟩, ht⟩ : ∃ t, nxt L p = t := ⟨_, rfl⟩
 rw [ht] at HN hr
 simp only [Tok.av] at HN hr
 have H1 := atom_c b L hL n E HE HA p k
 have k2 := (atom_adv HA k).ok k
 obtain ⟨⟨⟨zk, zs, zn, ⟨ztk, zts, ztn, ztl⟩, zks, zal, zbs, zp⟩, p2⟩, e2⟩ : ∃ r, atomG L E p = r := ⟨_, rfl⟩
 rw [e2] at H1 k2 hr
 simp only [Ex.cells, Ty.cells, List.cons_append, List.nil_append] at H1 k2 hr
 refine Zw Tryz.func105 J (by kernel_rfl) J (Uc J) ?_
 refine Ye (Zg (Zc (Za 2 J J J (Zy (cs' := [_, _, _, _, _, _, _, _, _, _, _]) J Xz J J ?_)))); intro b2
 refine Vp (Zb (Zg (Zc (Za 9 J J J (Zd J J (Za 10 J J J (Wq (xs := [.tmp 9]) [1] J J J (HN) by1 ?_)))))))
 refine Za 3 J J J (Zy (cs' := [_, _, _, _]) J Wf J J ?_); intro b3
 refine Zs J J (Zo (cs' := [_, _, _, _]) (i := 0) J Xk J J J J J (Uc J) J (Vp (Zb (Zg (Zg (Zc (Za 11 J J J (Zd J J (Za 12 J J J (Yg (xs := [.tmp 11, .const (.string ⟨#[92]⟩)]) (i := 2) J J J (may_no hL h1) by1 ?_))))))))))
 refine Vp (Zb (Zr J (Zv (Zb (Zg (Zg (Zc (Za 17 J J J (Zd J J (Za 18 J J J (Yg (xs := [.tmp 17, .const (.string ⟨#[108, 101, 116]⟩)]) (i := 2) J J J (may_no hL h2) by1 ?_)))))))))))
 refine Vp (Zb (Zr J (Zv (Zb (Zg (Zg (Zc (Za 51 J J J (Zd J J (Za 52 J J J (Yg (xs := [.tmp 51, .const (.string ⟨#[105, 102]⟩)]) (i := 2) J J J (may_no hL h3) by1 ?_)))))))))))
 refine Vp (Zb (Zr J (Zv (Zb (Zg (Zc (Za 70 J J J (Zd J J (Za 71 J J J (Yg (xs := [.tmp 70]) (i := 2) J J J (H1) by1 ?_))))))))))
 refine Za 8 J J J (Zy (cs' := [_, _, _, _, _, _, _, _, _, _, _]) J Xz J J ?_); intro b8
 refine Zs J J (Zo (cs' := [_, _, _, _, _, _, _, _, _, _, _]) (i := 0) J Wk J J J J J (Uc J) J (Vp (Zb (Zg (Zz ?_)))))
 apply Wg [1, 4, 5, 6, 7, 9, 10, 11, 12, 13, 14, 15, 16, 17, 18, 19, 20, 21, 22, 23, 24, 25, 26, 27, 28, 29, 30, 31, 32, 33, 34, 35, 36, 37, 38, 39, 40, 41, 42, 43, 44, 45, 46, 47, 48, 49, 50, 51, 52, 53, 54, 55, 56, 57, 58, 59, 60, 61, 62, 63, 64, 65, 66, 67, 68, 69, 70, 71, 72, 73, 74, 75, 76, 77, 78, 79, 80] (σ := PS × Nat × Ex) (fun zz => match zz with | (q, f, Ex.mk xk xs xn (Ty.mk xtk xts xtn xtl) xks xal xbs xp) => []) (fun zz => match zz with | (q, f, Ex.mk xk xs xn (Ty.mk xtk xts xtn xtl) xks xal xbs xp) => [.loc b8 [.val (.int .i64 xk), .val (.string xs), .val (.int .i64 xn), .val (.int .i64 xtk), .val (.string xts), .val (.int .i64 xtn), .seq 4 (Ty.cellss xtl), .seq 11 (Ex.cellss xks), .seq 16 (Al.cellss xal), .seq 13 (Bi.cellss xbs), .val (.int .i64 xp)], .loc b3 (Tok.mk tk tt tn ta).av, .loc b2 zEx, .loc b (psC L q)]) (fun zz => match zz with | (q, f, Ex.mk xk xs xn (Ty.mk xtk xts xtn xtl) xks xal xbs xp) => POk L n q ∧ L.length - q.at_ < f ∧ appsL L E ta f q (Ex.mk xk xs xn (Ty.mk xtk xts xtn xtl) xks xal xbs xp) = r) (fun zz => match zz with | (q, f, Ex.mk xk xs xn (Ty.mk xtk xts xtn xtl) xks xal xbs xp) => f) ((p2, L.length + 1, Ex.mk zk zs zn (Ty.mk ztk zts ztn ztl) zks zal zbs zp))
 ·repeat' (first | exact Uf | apply Ud rfl | apply Ue rfl)
 ·exact ⟨k2, by omega, hr⟩
 ·exact by4
 ·exact (Vv J)
 rintro ⟨q, f, ⟨xk, xs, xn, ⟨xtk, xts, xtn, xtl⟩, xks, xal, xbs, xp⟩⟩ hI
 try dsimp only [List.cons_append, List.nil_append] at hI ⊢
 obtain ⟨i1, i2, hu⟩ := hI
 have hq1 := i1.1
 refine Zg (Zg (Zc (Za 72 J J J (Zd J J (Za 73 J J J (op_callkb (xs := [.tmp 72, .const (.int .i64 2)]) [3] J J J (starts_c b L q 2) by1 ?_)))))); intro c73 h73
 refine Vp (Zb ?_)
 rcases Zi h73 with ⟨rfl, g73⟩ | ⟨rfl, g73⟩
 ·refine Zr J (Xc (Xd (Xv (Xe (Zb (Zg (Zc (Za 81 J J J (Zx (cs' := [_, _, _, _, _, _, _, _, _, _, _]) (i := 0) J Wd J J J J (Zs J J (Zo (cs' := [_, _, _, _, _, _, _, _, _, _, _]) (i := 2) J Wk J J J J J (Uc J) J (Vp (Zb (Ya ?_))))))))))))))
  rw [appsL_end g73] at hu; subst hu; exact Yl (i := 2) rfl rfl rfl Wd rfl (Vw _) (Vt _ (Vt _ (Vt _ (Vv rfl)))) ⟨rfl, rfl⟩
 ·refine Zt J (Zv (Zb (Zz ?_)))
  obtain ⟨f, rfl⟩ : ∃ f', f = f' + 1 := ⟨f - 1, by omega⟩
  rw [appsL_go g73] at hu
  have b1 := atom_lt HA i1 g73
  have l2 := (atom_adv HA i1).ok i1
  have HA2 := atom_c b L hL n E HE HA q i1
  obtain ⟨⟨⟨wk, ws, wn, ⟨wtk, wts, wtn, wtl⟩, wks, wal, wbs, wp⟩, q2⟩, f2⟩ : ∃ r, atomG L E q = r := ⟨_, rfl⟩
  rw [f2] at HA2 hu l2 b1
  simp only [Ex.cells, Ty.cells, List.cons_append, List.nil_append] at HA2 hu l2 b1
  have l3 := l2.1
  refine Xw [0, 1, 4, 5, 2, 3, 6, 7] [2, 7] [[], [], [1], [0, 1, 2], [], [4], [0, 1, 2, 3, 4, 5], [0, 1, 2, 3, 4, 5, 6]] Wr J (Yb 74 (some 0) (i := 0) J J J J J (Zx (cs' := [_, _, _, _, _, _, _, _, _, _, _]) (i := 0) J Wd J J J J ⟨J, J⟩) ?_)
  refine Yb 75 (none) (i := 1) J J J J J (Zd J J ⟨J, J⟩) ?_
  refine Yb 78 (none) (i := 4) J J J J J (Zh J Wt J ⟨J, J⟩) ?_
  refine Yb 79 (some 1) (i := 5) J J J J J (Zq (i := 0) J Xb J J J ⟨J, J⟩) ?_
  refine Xn 3 (i := 2) J J J J J (Yg (xs := [.tmp 75]) (i := 0) J J J (HA2) by1 ⟨_, J, ?_⟩)
  refine Yb 77 (none) (i := 3) J J J J J (Yi (xs := [.tmp 74, .tmp 76]) el_107 J J J J J J (Uc J) ⟨J, J⟩) ?_
  refine Yb 80 (none) (i := 6) J J J J J (Ym (ns := [0, 4, 7]) (xs := [.const (.int .i64 5), .tmp 77, .tmp 79]) J Xz J tfl_110 J J J J ⟨J, J⟩) ?_
  refine Xn 0 (i := 7) J J J J J (Zo (cs' := [_, _, _, _, _, _, _, _, _, _, _]) (i := 0) J Wk J J J J J (Uc J) J ⟨_, J, ?_⟩)
  show AGo _ _ _ _ _ _ _
  refine Yv (Xa ?_)
  refine ⟨(q2, f, Ex.mk 5 kE 0 (Ty.mk 0 kE 0 []) [Ex.mk xk xs xn (Ty.mk xtk xts xtn xtl) xks xal xbs xp, Ex.mk wk ws wn (Ty.mk wtk wts wtn wtl) wks wal wbs wp] [] [] ta), ⟨l2, (by show L.length - q2.at_ < f; omega), hu⟩, Nat.lt_succ_self f, by4, (Vu _ by0 (Vs _ (Vs _ (Vv J))))⟩
theorem operand_c (b : Nat) (L : List Tok) (hL : L.length ≤ 100000) (n : Nat) (E : PS → Ex × PS) (HE : ExC b L n E) (HA : ∀ q, POk L n q → Adv L q (E q).2) (p : PS) (k : POk L n p) : MCall Tryz.prog 105 [.ptr b 0] (.loc b (psC L p)) (.agg (operandG L E p).1.cells) (.loc b (psC L (operandG L E p).2)) := by
 unfold operandG
 by_cases h1 : isP L p kBack = true
 ·rw [if_pos h1]; exact operand_lam b L hL n E HE p k h1
 by_cases h2 : isP L p kLet = true
 ·rw [if_neg h1, if_pos h2]
  by_cases h3 : isP L (stepP p) kRec = true
  ·rw [if_pos h3]; exact operand_let b L hL n E HE HA p k h1 h2 true h3 _ rfl
  ·rw [if_neg h3]; exact operand_let b L hL n E HE HA p k h1 h2 false (by simpa using h3) _ rfl
 by_cases h3 : isP L p kIf = true
 ·rw [if_neg h1, if_neg h2, if_pos h3]; exact operand_if b L hL n E HE HA p k h1 h2 h3
 ·rw [if_neg h1, if_neg h2, if_neg h3]; exact operand_app b L hL n E HE HA p k h1 h2 h3 _ rfl
set_option maxHeartbeats 4000000 in
set_option maxRecDepth 100000 in
theorem Exp_err (b : Nat) (L : List Tok) (p : PS) (he : p.e ≠ 0) : MCall Tryz.prog 86 [.ptr b 0] (.loc b (psC L p)) (.agg ex0.cells) (.loc b (psC L p)) := by
 refine Zw Tryz.func86 J (by kernel_rfl) J (Uc J) ?_
 refine Ye (Zg (Zc (Za 2 J J J (Zy (cs' := [_, _, _, _, _, _, _, _, _, _, _]) J Xz J J ?_)))); intro b2
 refine Vp (Zb (Zg (Zg (Zc (Za 8 J J J (Zd J J (Za 9 J J J (Yj J J (Za 10 J J J (Zh J Vl J (Za 11 J J J (Zq (i := 1) J Xb J J J (Za 12 J J J (Xq J J J ?_)))))))))))))); intro c12 h12
 refine Vp (Zb ?_)
 rcases Zi h12 with ⟨rfl, g12⟩ | ⟨rfl, g12⟩
 ·exact absurd he g12
 ·exact Zt J (Zg (Zc (Za 13 J J J (Ym (ns := []) (xs := []) J Xz J tfl_110 J J J J (Zs J J (Zo (cs' := [_, _, _, _, _, _, _, _, _, _, _]) (i := 0) J Wk J J J J J (Uc J) J (Vp (Zb (Ya (Yl (i := 0) J J J Wd J by0 (Vt _ (Vq _)) ⟨J, J⟩))))))))))
theorem clash_in (lv : Nat → Nat) : ∀ f k, clashL lv f k = -1 ∨ ((k : Int) ≤ clashL lv f k ∧ clashL lv f k < k + f)
 | 0, k => .inl rfl
 | f + 1, k => by
  unfold clashL
  split
  ·right; omega
  ·rcases clash_in lv f (k + 1) with h | h
   ·exact .inl h
   ·right; omega
theorem clashP_lt {ops : List Tok} (h : 0 ≤ clashP ops) : (clashP ops).toNat < ops.length := by
 rcases clash_in (lvT ops) ops.length 0 with q | q <;> unfold clashP at * <;> omega
theorem opsL_go {L : List Tok} {E : PS → Ex × PS} {f : Nat} {p : PS} {l : List Ex} {o : List Tok} (h : (nxt L p).k = 5) : opsL L E (f + 1) p l o = opsL L E f (operandG L E (takeP L p 5 kE).2).2 (l ++ [(operandG L E (takeP L p 5 kE).2).1]) (o ++ [(takeP L p 5 kE).1]) := by rw [opsL, if_pos h]
theorem opsL_end {L : List Tok} {E : PS → Ex × PS} {f : Nat} {p : PS} {l : List Ex} {o : List Tok} (h : ¬ (nxt L p).k = 5) : opsL L E f p l o = ((l, o), p) := by
 cases f with
 | zero => rfl
 | succ f => rw [opsL, if_neg h]
set_option maxHeartbeats 4000000 in
set_option maxRecDepth 100000 in
theorem Exp_ok (b : Nat) (L : List Tok) (hL : L.length ≤ 100000) (n : Nat) (E : PS → Ex × PS) (HE : ExC b L n E) (HA : ∀ q, POk L n q → Adv L q (E q).2) (p : PS) (k : POk L (n + 1) p) (he : p.e = 0) (r : Ex × PS) (hr : joinE (opsL L E (L.length + 1) (operandG L E (deeperP L p)).2 [(operandG L E (deeperP L p)).1] []) = r) : MCall Tryz.prog 86 [.ptr b 0] (.loc b (psC L p)) (.agg r.1.cells) (.loc b (psC L r.2)) := by
 have kq := deeper_ok k he
 have H1 := operand_c b L hL n E HE HA _ kq
 have k2 := (operand_adv HA kq).ok kq
 obtain ⟨⟨⟨zk, zs, zn, ⟨ztk, zts, ztn, ztl⟩, zks, zal, zbs, zp⟩, p2⟩, e2⟩ : ∃ r, operandG L E (deeperP L p) = r := ⟨_, rfl⟩
 rw [e2] at H1 k2 hr
 simp only [] at k2 hr
 obtain ⟨⟨⟨yl, yo⟩, p4⟩, e4⟩ : ∃ r, opsL L E (L.length + 1) p2 [Ex.mk zk zs zn (Ty.mk ztk zts ztn ztl) zks zal zbs zp] [] = r := ⟨_, rfl⟩
 rw [e4] at hr
 unfold joinE at hr
 simp only [Ex.cells, Ty.cells, List.cons_append, List.nil_append] at H1 hr
 refine Zw Tryz.func86 J (by kernel_rfl) J (Uc J) ?_
 refine Ye (Zg (Zc (Za 2 J J J (Zy (cs' := [_, _, _, _, _, _, _, _, _, _, _]) J Xz J J ?_)))); intro b2
 refine Vp (Zb (Zg (Zg (Zc (Za 8 J J J (Zd J J (Za 9 J J J (Yj J J (Za 10 J J J (Zh J Vl J (Za 11 J J J (Zq (i := 1) J Xb J J J (Za 12 J J J (Xq J J J ?_)))))))))))))); intro c12 h12
 refine Vp (Zb ?_)
 rcases Zi h12 with ⟨rfl, g12⟩ | ⟨rfl, g12⟩
 ·refine Zr J (Zv (Zb (Zg (Zc (Za 14 J J J (Zd J J ?_))))))
  refine Za 15 J J J (Yg (xs := [.tmp 14]) (i := 1) J J J (deeper_c b L p k.2.1 (by have := k.2.2.1; omega)) by1 ?_)
  refine Vp (Zb (Zg (Zc (Za 16 J J J (Zd J J (Za 17 J J J (Yg (xs := [.tmp 16]) (i := 1) J J J (H1) by1 ?_)))))))
  refine Za 18 J J J (op_buildSlice_own (xs := [.tmp 17]) el_107 J J J J J J (Uc J) ?_); intro u18
  refine Za 3 J J J (Ze J J (Vp (Zb (Zg (Zc (Za 4 J J J (Ze J J (Vp (Zb (Zg (Zc (Za 5 J J J (Ze J J (Vp (Zb (Zg (Zz ?_)))))))))))))))))
  refine We 97 4 (We 9 1 ?_)
  apply Wg [1, 3, 4, 5, 6, 8, 9, 10, 11, 12, 13, 14, 15, 16, 17, 18, 19, 20, 21, 22, 23, 24, 25, 26, 27, 28, 29, 30, 31, 32, 33, 34, 35, 36, 37, 38, 55] (σ := PS × Nat × List Ex × List Tok × Value × Value × Value) (fun zz => match zz with | (q, f, l, ops, u, v, w) => [(3, .own u 11 (Ex.cellss l)), (4, .own v 4 (ops.map Tok.av)), (5, .own w 1 (strs (ops.map Tok.t)))]) (fun zz => match zz with | (q, f, l, ops, u, v, w) => [.own 110 11 u, .loc b2 zEx, .loc b (psC L q), .own 97 4 v, .own 9 1 w]) (fun zz => match zz with | (q, f, l, ops, u, v, w) => POk L n q ∧ L.length - q.at_ < f ∧ l.length = ops.length + 1 ∧ ops.length ≤ q.at_ ∧ opsL L E f q l ops = ((yl, yo), p4)) (fun zz => match zz with | (q, f, l, ops, u, v, w) => f) ((p2, L.length + 1, [Ex.mk zk zs zn (Ty.mk ztk zts ztn ztl) zks zal zbs zp], [], u18, .slice none 0 0, .slice none 0 0))
  ·repeat' (first | exact Uf | apply Ud rfl | apply Ue rfl)
  ·exact ⟨k2, by omega, J, Nat.zero_le _, e4⟩
  ·exact Vz J (Vw _) (Vz J (Le.nilOwn 4) (Vz J (Le.nilOwn 1) (SLe.nil _)))
  ·exact (Vv J)
  rintro ⟨q, f, l, ops, u, v, w⟩ hI
  try dsimp only [List.cons_append, List.nil_append] at hI ⊢
  obtain ⟨i1, i2, i3, i4, hu⟩ := hI
  have hq1 := i1.1
  have hb1 := i1.2.1
  have hb2 := i1.2.2.1
  have hl1 : (Ex.cellss l).length ≤ 200000 := by rw [Ex.cellss_len]; omega
  have hl2 : (ops.map Tok.av).length ≤ 200000 := by rw [List.length_map]; omega
  have hl3 : (strs (ops.map Tok.t)).length ≤ 200000 := by rw [Xs, List.length_map]; omega
  have HN := next_c b L q
  have hkn : (nxt L q).k = 5 → q.at_ < L.length := fun e => (Vo (by omega)).2
  have hgo := fun f => opsL_go (L := L) (E := E) (f := f) (p := q) (l := l) (o := ops)
  have hend := opsL_end (L := L) (E := E) (f := f) (p := q) (l := l) (o := ops)
  have htk := fun h : (nxt L q).k = 5 => take_k (s := kE) h (by decide) (by decide)
  obtain ⟨⟨qk, qt, qn, qa⟩, hqt⟩ : ∃ t, nxt L q = t := ⟨_, rfl⟩
  rw [hqt] at HN hkn hgo hend htk
  simp only [Tok.av] at HN hkn hgo hend htk
  refine Zg (Zg (Zc (Za 19 J J J (Zd J J (Za 20 J J J (Wq (xs := [.tmp 19]) [2] J J J (HN) by1 ?_))))))
  refine Za 21 J J J (Wy (ft := 3) (fo := 0) J (by kernel_rfl) Xb J J ?_)
  refine Za 22 J J J (Yr J J J ?_); intro c22 h22
  refine Vp (Zb ?_)
  rcases Zi h22 with ⟨rfl, g22⟩ | ⟨rfl, g22⟩
  ·refine Zr J (Xc (Xd (Xv (Xe (Zb (Zg (Zg ?_)))))))
   rw [hend g22] at hu
   simp only [Prod.mk.injEq] at hu
   obtain ⟨⟨rfl, rfl⟩, rfl⟩ := hu
   refine Zc (Za 39 J J J (Zd J J (Za 40 J J J (Yj J J (Za 41 J J J (Zh J Vl J (Za 42 J J J (Zq (i := 2) J Xb J J J (Za 43 J J J (Xq J J J ?_)))))))))); intro c43 h43
   refine Vp (Zb ?_)
   rcases Zi h43 with ⟨rfl, g43⟩ | ⟨rfl, g43⟩
   ·refine Zr J (Zv (Zb (Zg (Zc (Za 45 J J J (Zd J J (Za 46 J J J (Yp (xs := [.tmp 45]) J J (Clash_p ops (by omega)) by1 ?_))))))))
    refine Za 7 J J J (Ze J J (Vp (Zb (Zg (Zg (Zc (Za 47 J J J (Zd J J (Za 48 J J J (Wa J J J ?_)))))))))); intro c48 h48
    refine Vp (Zb ?_)
    rcases Zi h48 with ⟨rfl, g48⟩ | ⟨rfl, g48⟩
    ·refine Zr J (Zv (Zb (Zg (Zc (Za 57 J J J (Zd J J (Za 58 J J J (Yj J J (Za 59 J J J (Zh J tf_95_2 J (Za 60 J J J (Zq (i := 2) J Xb J J J (Za 61 J J J (op_sub J J J (Ug _ (by omega)) ?_))))))))))))))
     refine Za 62 J J J (Yj J J (Za 63 J J J (Zh J tf_95_2 J (Zs J J (Zo (i := 2) J Wi J J J J J (Uc J) J (Vp (Zb (Zg ?_))))))))
     have HB := Build_c l ops i3 (by omega) ops.length 0 ops.length (Nat.zero_le _) (Nat.le_refl _) (by omega)
     rw [if_neg g43, if_neg g48] at hr
     obtain ⟨⟨wk, ws, wn, ⟨wtk, wts, wtn, wtl⟩, wks, wal, wbs, wp⟩, f2⟩ : ∃ r, buildF l ops ops.length 0 ops.length = r := ⟨_, rfl⟩
     rw [f2] at HB hr
     simp only [Ex.cells, Ty.cells, List.cons_append, List.nil_append] at HB
     have hlen : (ops.map Tok.av).length = ops.length := List.length_map _
     rw [show ((ops.length : Nat) : Int) = (((ops.map Tok.av).length : Nat) : Int) by rw [hlen]] at HB
     refine Zc (Za 64 J J J (Zd J J (Za 65 J J J (Zd J J (Za 66 J J J (Zd J J ?_))))))
     refine Za 67 J J J (Yy J tu_93 J (.own _ _ _) (fun n67 => ?_))
     refine Za 68 J J J (Yp (xs := [.tmp 64, .tmp 65, .const (.int .i64 0), .tmp 67]) J J (HB) by1 ?_)
     refine Zs J J (Zo (cs' := [_, _, _, _, _, _, _, _, _, _, _]) (i := 1) J Wk J J J J J (Uc J) J (Vp (Zb (Ya ?_))))
     subst hr; exact Yl (i := 1) rfl rfl rfl Wd rfl by0 (Vt _ (Vt _ (Vs _ (Vr _)))) ⟨rfl, rfl⟩
    ·refine Zt J (Zg ?_)
     have hcl := clashP_lt g48
     refine Zc (Za 49 J J J (Zd J J (Za 50 J J J (Zd J J (Za 51 J J J (Zd J J ?_))))))
     refine Za 52 J J J (Yc (i := (clashP ops).toNat) J te_93 J (.own _ _ _) J (by first | rfl | omega) (toks_at hcl) ?_)
     refine Za 53 J J J (Zj J Wt J J (Za 54 J J J (Zp J Xb J J (Za 55 J J J (Yg (xs := [.tmp 49, .const (.int .i64 112), .tmp 54]) (i := 2) J J J (fail_c b L q 112 _) by1 ?_)))))
     refine Vp (Zb (Zg (Zc (Za 56 J J J (Ym (ns := []) (xs := []) J Xz J tfl_110 J J J J (Zs J J (Zo (cs' := [_, _, _, _, _, _, _, _, _, _, _]) (i := 1) J Wk J J J J J (Uc J) J (Vp (Zb (Ya ?_))))))))))
     rw [if_neg g43, if_pos g48] at hr; subst hr; exact Yl (i := 1) rfl rfl rfl Wd rfl by0 (Vt _ (Vt _ (Vs _ (Vr _)))) ⟨rfl, rfl⟩
   ·refine Zt J (Zg (Zc (Za 44 J J J (Ym (ns := []) (xs := []) J Xz J tfl_110 J J J J (Zs J J (Zo (cs' := [_, _, _, _, _, _, _, _, _, _, _]) (i := 1) J Wk J J J J J (Uc J) J (Vp (Zb (Ya ?_)))))))))
    rw [if_pos g43] at hr; subst hr; exact Yl (i := 1) rfl rfl rfl Wd rfl by0 (Vt _ (Vt _ (Vs _ (Vr _)))) ⟨rfl, rfl⟩
  ·refine Zt J (Zv (Zb (Zz (Zg ?_))))
   obtain ⟨f, rfl⟩ : ∃ f', f = f' + 1 := ⟨f - 1, by omega⟩
   have hlt := hkn g22
   rw [hgo f g22, htk g22] at hu
   have HT := take_c b L hL q hq1 5 kE
   rw [htk g22] at HT
   have l1 := (Vf i1 hlt).ok i1
   have HO := operand_c b L hL n E HE HA _ l1
   have l2 := (operand_adv HA l1).ok l1
   have b1 : (stepP q).at_ ≤ _ := (operand_adv HA l1).1
   have b2' : (stepP q).at_ = q.at_ + 1 := rfl
   obtain ⟨⟨⟨wk, ws, wn, ⟨wtk, wts, wtn, wtl⟩, wks, wal, wbs, wp⟩, q2⟩, f2⟩ : ∃ r, operandG L E (stepP q) = r := ⟨_, rfl⟩
   simp only [] at hu
   rw [f2] at HO l2 b1 hu
   simp only [Tok.av, Ex.cells, Ty.cells, List.cons_append, List.nil_append] at HT HO l2 b1 hu
   have l3 := l2.1
   refine Zc (Za 23 J J J (Zd J J (Za 24 J J J (Yg (xs := [.tmp 23, .const (.int .i64 5), .const (.string ⟨#[]⟩)]) (i := 2) J J J (HT) by1 ?_))))
   refine Za 6 J J J (Zy (cs' := [_, _, _, _]) J Wf J J ?_); intro b6
   refine Zs J J (Zo (cs' := [_, _, _, _]) (i := 0) J Xk J J J J J (Uc J) J (Vp (Zb (Zg (Zc (Za 25 J J J (Zd J J (Za 26 J J J (Zx (cs' := [_, _, _, _]) (i := 0) J Yq J J J J (Za 27 J J J (Yi (xs := [.tmp 26]) el_93 J J J J J J (Uc J) (Za 28 J J J (Xj (i := 4) el_93 J J J J (.seq _ _) by6 ?_)))))))))))))
   intro u28
   refine Za 4 J J J (Ze J J (Vp (Zb (Zg (Zc (Za 29 J J J (Zd J J (Za 30 J J J (Zh J Xh J (Za 31 J J J (Zq (i := 0) J Yz J J J (Za 32 J J J (Yi (xs := [.tmp 31]) el_68 J J J J J J (Uc J) ?_)))))))))))))
   refine Za 33 J J J (Xj (i := 5) el_68 J J J J (.seq _ _) by6 ?_)
   intro u33
   refine Za 5 J J J (Ze J J (Vp (Zb (Zc (Za 34 J J J (Zd J J (Za 35 J J J (Zd J J (Za 36 J J J (Yg (xs := [.tmp 35]) (i := 3) J J J (HO) by1 ?_))))))))))
   refine Za 37 J J J (Yi (xs := [.tmp 36]) el_107 J J J J J J (Uc J) (Za 38 J J J (Xj (i := 1) el_107 J J J J (.seq _ _) by6 ?_)))
   intro u38
   refine Za 3 J J J (Ze J J (Vp (Yv (Xa ?_))))
   refine ⟨(q2, f, l ++ [Ex.mk wk ws wn (Ty.mk wtk wts wtn wtl) wks wal wbs wp], ops ++ [Tok.mk qk qt qn qa], u38, u28, u33), ⟨l2, (by show L.length - q2.at_ < f; omega), (by simp [i3]), (by show (ops ++ [Tok.mk qk qt qn qa]).length ≤ q2.at_; rw [List.length_append]; simp; omega), hu⟩, Nat.lt_succ_self f, Vz J (Ub (by rw [Ex.cellss_app']; rfl)) (Vz J (Ub (by rw [List.map_append]; rfl)) (Vz J (Ub (by rw [List.map_append, strs_app]; rfl)) by4)), Vt _ (Vv J)⟩
 ·exact absurd he g12
theorem Exp_c (b : Nat) (L : List Tok) (hL : L.length ≤ 100000) : ∀ n, ExC b L n (expF L n)
 | 0, p, k => Exp_err b L p (fun e => by have := k.2.2.2 e; omega)
 | n + 1, p, k => by
  by_cases he : p.e = 0
  ·exact Exp_ok b L hL n (expF L n) (Exp_c b L hL n) (expF_adv n) p k he _ (by rw [expF, if_neg (by rw [he]; simp)])
  ·rw [expF, if_pos he]; exact Exp_err b L p he
theorem expP_c (b : Nat) (L : List Tok) (hL : L.length ≤ 100000) : ExC b L 302 (expP L) := Exp_c b L hL 302
theorem bindP_c (b : Nat) (L : List Tok) (hL : L.length ≤ 100000) (p : PS) (k : POk L 302 p) : MCall Tryz.prog 56 [.ptr b 0] (.loc b (psC L p)) (.agg (bindP L p).1.cells) (.loc b (psC L (bindP L p).2)) := bind_c b L hL 302 (expP L) (expP_c b L hL) p k
theorem paramsL_go {L : List Tok} {f : Nat} {p : PS} {acc : List ByteArray} (h : (nxt L p).k = 1) : paramsL L (f + 1) p acc = paramsL L f (takeP L p 1 kE).2 (acc ++ [(takeP L p 1 kE).1.t]) := by rw [paramsL, if_pos h]
theorem paramsL_end {L : List Tok} {f : Nat} {p : PS} {acc : List ByteArray} (h : ¬ (nxt L p).k = 1) : paramsL L f p acc = (acc, p) := by
 cases f with
 | zero => rfl
 | succ f => rw [paramsL, if_neg h]
theorem consL_err {L : List Tok} {f : Nat} {p : PS} {acc : List Cn} (h : p.e ≠ 0) : consL L f p acc = (acc, p) := by
 cases f with
 | zero => rfl
 | succ f => rw [consL, if_pos h]
abbrev zDa : List AV := [.val (.string kE), .val (.slice none 0 0), .val (.slice none 0 0), .val (.slice none 0 0), .val (.int .i64 0)]
set_option maxHeartbeats 4000000 in
set_option maxRecDepth 100000 in
theorem data_c (b : Nat) (L : List Tok) (hL : L.length ≤ 100000) (p : PS) (k : POk L 302 p) : MCall Tryz.prog 52 [.ptr b 0] (.loc b (psC L p)) (.agg (dataP L p).1.cells) (.loc b (psC L (dataP L p).2)) := by
 have H1 := take_c b L hL p k.1 2 kE
 have k1 := (Yn (kind := 2) (s := kE) (by decide) k).ok k
 obtain ⟨r, hr⟩ : ∃ r, dataP L p = r := ⟨_, rfl⟩
 rw [hr]
 unfold dataP at hr
 simp only [] at hr
 obtain ⟨⟨⟨tk, tt, tn, ta⟩, p1⟩, e1⟩ : ∃ r, takeP L p 2 kE = r := ⟨_, rfl⟩
 rw [e1] at H1 k1 hr
 simp only [Tok.av] at H1 k1 hr
 have k2 := (paramsL_adv (L.length + 1) p1 [] k1).ok k1
 obtain ⟨⟨ps, p2⟩, e2⟩ : ∃ r, paramsL L (L.length + 1) p1 [] = r := ⟨_, rfl⟩
 rw [e2] at k2 hr
 simp only [] at k2 hr
 have H3 := take_c b L hL p2 k2.1 7 kEq
 have k3 := (Yn (kind := 7) (s := kEq) (by decide) k2).ok k2
 obtain ⟨⟨u3, p3⟩, e3⟩ : ∃ r, takeP L p2 7 kEq = r := ⟨_, rfl⟩
 rw [e3] at H3 k3 hr
 simp only [] at H3 k3 hr
 have k4 := (consL_adv (L.length + 1) p3 [] k3).ok k3
 obtain ⟨⟨cl, p4⟩, e4⟩ : ∃ r, consL L (L.length + 1) p3 [] = r := ⟨_, rfl⟩
 rw [e4] at k4 hr
 simp only [] at k4 hr
 unfold derivP at hr
 refine Zw Tryz.func52 J (by kernel_rfl) J (Uc J) ?_
 refine Ye (Zg (Zc (Za 2 J J J (Zy (cs' := [_, _, _, _, _]) J tz_102 J J ?_)))); intro b2
 refine Vp (Zb (Zg (Zc (Za 8 J J J (Zd J J (Za 9 J J J (Yg (xs := [.tmp 8, .const (.int .i64 2), .const (.string ⟨#[]⟩)]) (i := 1) J J J (H1) by1 ?_)))))))
 refine Za 3 J J J (Zy (cs' := [_, _, _, _]) J Wf J J ?_); intro b3
 refine Zs J J (Zo (cs' := [_, _, _, _]) (i := 0) J Xk J J J J J (Uc J) J (Vp (Zb (Zg (Zc (Za 10 J J J (Zh J Xh J (Za 11 J J J (Zq (i := 0) J Yz J J J (Za 12 J J J (Zh J Wt J (Za 13 J J J (Zq (i := 0) J Xb J J J ?_)))))))))))))
 refine Za 14 J J J (Ym (ns := [0, 4]) (xs := [.tmp 11, .tmp 13]) J tz_102 J tfl_102 J J J J (Za 4 J J J (Zy (cs' := [_, _, _, _, _]) J tz_102 J J ?_))); intro b4
 refine Zs J J (Zo (cs' := [_, _, _, _, _]) (i := 0) J ts_102 J J J J J (Uc J) J (Vp (Zb (Zg (Zz (We 9 1 ?_))))))
 apply Wg [1, 3, 8, 9, 10, 11, 12, 13, 14, 15, 16, 17, 18, 19, 20, 21, 22, 23, 24, 25, 26, 28, 64, 69] (σ := PS × Nat × List ByteArray × Value) (fun zz => match zz with | (q, f, acc, u) => []) (fun zz => match zz with | (q, f, acc, u) => [.loc b4 [.val (.string tt), .own u 1 (strs acc), .val (.slice none 0 0), .val (.slice none 0 0), .val (.int .i64 ta)], .loc b3 (Tok.mk tk tt tn ta).av, .loc b2 zDa, .loc b (psC L q), .own 9 1 u]) (fun zz => match zz with | (q, f, acc, u) => POk L 302 q ∧ L.length - q.at_ < f ∧ acc.length ≤ q.at_ ∧ paramsL L f q acc = (ps, p2)) (fun zz => match zz with | (q, f, acc, u) => f) ((p1, L.length + 1, [], .slice none 0 0))
 ·repeat' (first | exact Uf | apply Ud rfl | apply Ue rfl)
 ·exact ⟨k1, by omega, Nat.zero_le _, e2⟩
 ·exact by4
 ·exact (Vu _ (Vy (Vw _) (Vy (Le.nilOwn 1) (Vx _))) (Vs _ (Vv J)))
 rintro ⟨q, f, acc, u⟩ hI
 try dsimp only [List.cons_append, List.nil_append] at hI ⊢
 obtain ⟨i1, i2, i3, hu⟩ := hI
 have hq1 := i1.1
 have hle : (strs acc).length ≤ 200000 := by rw [Xs]; omega
 have HN := next_c b L q
 have hkn : (nxt L q).k = 1 → q.at_ < L.length := fun e => (Vo (by omega)).2
 have hgo := fun f => paramsL_go (L := L) (f := f) (p := q) (acc := acc)
 have hend := paramsL_end (L := L) (f := f) (p := q) (acc := acc)
 have htk := fun h : (nxt L q).k = 1 => take_k (s := kE) h (by decide) (by decide)
 obtain ⟨⟨qk, qt, qn, qa⟩, hqt⟩ : ∃ t, nxt L q = t := ⟨_, rfl⟩
 rw [hqt] at HN hkn hgo hend htk
 simp only [Tok.av] at HN hkn hgo hend htk
 refine Zg (Zg (Zc (Za 15 J J J (Zd J J (Za 16 J J J (Wq (xs := [.tmp 15]) [3] J J J (HN) by1 ?_))))))
 refine Za 17 J J J (Wy (ft := 3) (fo := 0) J (by kernel_rfl) Xb J J ?_)
 refine Za 18 J J J (Yr J J J ?_); intro c18 h18
 refine Vp (Zb ?_)
 rcases Zi h18 with ⟨rfl, g18⟩ | ⟨rfl, g18⟩
 ·refine Zr J (Xc (Xd (Xv (Xe (Zb (Zg ?_))))))
  rw [hend g18] at hu
  simp only [Prod.mk.injEq] at hu
  obtain ⟨rfl, rfl⟩ := hu
  refine Zc (Za 27 J J J (Zd J J (Za 28 J J J (Yg (xs := [.tmp 27, .const (.int .i64 7), .const (.string ⟨#[61]⟩)]) (i := 3) J J J (H3) by1 ?_))))
  refine Vp (Zb (Zg (Zc (Za 5 J J J (Ze J J (Vp (Zb (Zg (Zz (We 140 3 ?_))))))))))
  apply Wg [1, 3, 5, 6, 7, 8, 9, 10, 11, 12, 13, 14, 15, 16, 17, 18, 19, 20, 21, 22, 23, 24, 25, 26, 27, 28, 29, 30, 31, 32, 33, 34, 35, 36, 37, 38, 39, 40, 41, 42, 43, 44, 45, 46, 47, 48, 49, 50, 51, 52, 53, 54, 55, 56, 57, 58, 59, 60, 64, 69] (σ := PS × Nat × List Cn × Value × Bool) (fun zz => match zz with | (q, f, cs, w, mo) => [(5, .val (.bool mo))]) (fun zz => match zz with | (q, f, cs, w, mo) => [.loc b4 [.val (.string tt), .seq 1 (strs acc), .own w 3 (Cn.cellss cs), .val (.slice none 0 0), .val (.int .i64 ta)], .loc b3 (Tok.mk tk tt tn ta).av, .loc b2 zDa, .loc b (psC L q), .own 140 3 w]) (fun zz => match zz with | (q, f, cs, w, mo) => POk L 302 q ∧ L.length - q.at_ < f ∧ (mo = true → cs.length ≤ q.at_) ∧ (if mo = true then consL L f q cs else (cs, q)) = (cl, p4)) (fun zz => match zz with | (q, f, cs, w, mo) => 2 * f + (if mo = true then 1 else 0)) ((p3, L.length + 1, [], .slice none 0 0, true))
  ·repeat' (first | exact Uf | apply Ud rfl | apply Ue rfl)
  ·exact ⟨k3, by omega, fun _ => Nat.zero_le _, e4⟩
  ·exact by4
  ·exact (Vu _ (Vy (Vw _) (Vy (Le.own_seq J) (Vy (Le.nilOwn 3) (Vx _)))) (Vs _ (Vs _ (Vs _ (Vt _ (Vq _))))))
  rintro ⟨q, f, cs, w, mo⟩ hI
  try dsimp only [List.cons_append, List.nil_append] at hI ⊢
  obtain ⟨i1, i2, i3, hu⟩ := hI
  have hq1 := i1.1
  refine Zg (Zg (Xm 36 (mo = true ∧ q.e = 0) ?_ _ _ J ?_))
  ·skip
   refine Za 29 J J J (Zd J J (Za 30 J J J (Zd J J ?_)))
   have h30 : (mo = true ↔ mo = true) := Iff.rfl
   rcases Zi h30 with ⟨rfl, g30⟩ | ⟨rfl, g30⟩
   ·skip
    refine Zk 31 J J J J J (Zk 32 J J J J J (Zk 33 J J J J J (Zk 34 J J J J J (Zk 35 J J J J J (Za 36 J J J (Zn J J J ?_))))))
    refine Vp (Ua J ?_ by5 by3)
    simp_all; done
   ·skip
    refine Zl 31 J J J J J (Zd J J (Zl 32 J J J J J (Yj J J (Zl 33 J J J J J (Zh J Vl J (Zl 34 J J J J J (Zq (i := 3) J Xb J J J (Zl 35 J J J J J (Yr J J J ?_))))))))); intro c35 h35
    refine Za 36 J J J (Zn J J J (Vp (Ua J ?_ by5 by3)))
    simp_all; done
  intro c36 h36
  refine Zb ?_
  rcases Zi h36 with ⟨rfl, g36⟩ | ⟨rfl, g36⟩
  ·refine Zr J (Xc (Xd (Xv (Xe (Zb (Zg (Zg ?_)))))))
   have hu2 : (cs, q) = (cl, p4) := by
    cases mo with
    | false => exact hu
    | true => rw [if_pos rfl, consL_err (fun e => g36 ⟨rfl, e⟩)] at hu; exact hu
   simp only [Prod.mk.injEq] at hu2
   obtain ⟨rfl, rfl⟩ := hu2
   refine Zc (Za 61 J J J (Zd J J (Za 62 J J J (op_mayc (xs := [.tmp 61, .const (.string ⟨#[100, 101, 114, 105, 118, 105, 110, 103]⟩)]) (i := 3) J J J (may_c b L hL q kDeriv) by1 ?_ ?_))))
   ·intro g62
    refine Vp (Zb (Zt J (Zg ?_)))
    have kA := (Xo k4 g62).ok k4
    have HD1 := take_c b L hL (stepP q) kA.1 7 kLP
    have kB := (Yn (kind := 7) (s := kLP) (by decide) kA).ok kA
    have HD2 := uppers_c b L hL 302 _ kB
    have kC := (uppers_adv kB).ok kB
    have HD3 := take_c b L hL _ kC.1 7 kRP
    rw [if_pos g62] at hr
    refine Zc (Za 63 J J J (Zd J J (Za 64 J J J (Yg (xs := [.tmp 63, .const (.int .i64 7), .const (.string ⟨#[40]⟩)]) (i := 3) J J J (HD1) by1 ?_))))
    refine Vp (Zb (Zg (Zc (Za 65 J J J (Zd J J (Za 66 J J J (Yg (xs := [.tmp 65]) (i := 3) J J J (HD2) by1 ?_)))))))
    refine Za 67 J J J (Zh J tf_102_3 J (Zs J J (Zo (cs' := [_, _, _, _, _]) (i := 0) J ts_68 J J J J J (Uc J) J (Vp (Zb (Zc (Za 68 J J J (Zd J J (Za 69 J J J (Yg (xs := [.tmp 68, .const (.int .i64 7), .const (.string ⟨#[41]⟩)]) (i := 3) J J J (HD3) by1 ?_))))))))))
    refine Vp (Zb (Zg (Zc (Za 70 J J J (Zx (cs' := [_, _, _, _, _]) (i := 0) J ta_102 J J J J (Zs J J (Zo (cs' := [_, _, _, _, _]) (i := 2) J ts_102 J J J J J (Uc J) J (Vp (Zb (Ya ?_))))))))))
    first
    | (subst hr; exact Yl (i := 2) rfl rfl rfl ta_102 rfl (Le.agg (Vy (Vw _) (Vy (Vw _) (Vy (Le.own_seq rfl) (Vy (Vw _) (Vx _)))))) (Vt _ (Vt _ (Vt _ (Vs _ (Vr _))))) ⟨rfl, rfl⟩)
    | (rw [if_neg g62] at hr; subst hr; exact Yl (i := 2) rfl rfl rfl ta_102 rfl (Le.agg (Vy (Vw _) (Vy (Vw _) (Vy (Le.own_seq rfl) (Vy (Le.nil _) (Vx _)))))) (Vt _ (Vt _ (Vt _ (Vs _ (Vr _))))) ⟨rfl, rfl⟩)
   ·intro g62
    refine Vp (Zb (Zr J (Zv (Zb (Zg (Zc (Za 70 J J J (Zx (cs' := [_, _, _, _, _]) (i := 0) J ta_102 J J J J (Zs J J (Zo (cs' := [_, _, _, _, _]) (i := 2) J ts_102 J J J J J (Uc J) J ?_))))))))))
    refine Vp (Zb (Ya ?_))
    first
    | (subst hr; exact Yl (i := 2) rfl rfl rfl ta_102 rfl (Le.agg (Vy (Vw _) (Vy (Vw _) (Vy (Le.own_seq rfl) (Vy (Vw _) (Vx _)))))) (Vt _ (Vt _ (Vt _ (Vs _ (Vr _))))) ⟨rfl, rfl⟩)
    | (rw [if_neg g62] at hr; subst hr; exact Yl (i := 2) rfl rfl rfl ta_102 rfl (Le.agg (Vy (Vw _) (Vy (Vw _) (Vy (Le.own_seq rfl) (Vy (Le.nil _) (Vx _)))))) (Vt _ (Vt _ (Vt _ (Vs _ (Vr _))))) ⟨rfl, rfl⟩)
  ·refine Zt J (Zv (Zb (Zz (Zg ?_))))
   obtain ⟨rfl, hq0⟩ := g36
   have i3 := i3 rfl
   have hle : (Cn.cellss cs).length ≤ 200000 := by rw [Cn.cellss_len]; omega
   rw [if_pos rfl] at hu
   obtain ⟨f, rfl⟩ : ∃ f', f = f' + 1 := ⟨f - 1, by omega⟩
   rw [consL, if_neg (by rw [hq0]; simp)] at hu
   have HP := take_c b L hL q i1.1 2 kE
   have l1 := (Yn (kind := 2) (s := kE) (by decide) i1).ok i1
   have b1 := (Yn (L := L) (kind := 2) (s := kE) (by decide) i1).1
   obtain ⟨z, hz⟩ : ∃ z, conP L q = z := ⟨_, rfl⟩
   rw [hz] at hu
   unfold conP at hz
   simp only [] at hz
   obtain ⟨⟨⟨ck, ct, cn, ca⟩, q1⟩, f1⟩ : ∃ r, takeP L q 2 kE = r := ⟨_, rfl⟩
   rw [f1] at HP hz l1 b1
   simp only [Tok.av] at HP hz l1 b1
   have l2 := (typesL_adv typeP_adv' (L.length + 1) q1 [] l1).ok l1
   have b2' := (typesL_adv typeP_adv' (L.length + 1) q1 [] l1).1
   obtain ⟨⟨tys, q2⟩, f2⟩ : ∃ r, typesL L (typeP L) (L.length + 1) q1 [] = r := ⟨_, rfl⟩
   rw [f2] at l2 b2' hz
   simp only [] at l2 b2' hz
   subst hz
   simp only [] at hu
   have l2a := l2.1
   refine Zc (Za 37 J J J (Zd J J (Za 38 J J J (Yg (xs := [.tmp 37, .const (.int .i64 2), .const (.string ⟨#[]⟩)]) (i := 3) J J J (HP) by1 ?_))))
   refine Za 6 J J J (Zy (cs' := [_, _, _, _]) J Wf J J ?_); intro b6
   refine Zs J J (Zo (cs' := [_, _, _, _]) (i := 0) J Xk J J J J J (Uc J) J (Vp (Zb (Zg (Zc (Za 39 J J J (Zh J Xh J (Za 40 J J J (Zq (i := 0) J Yz J J J (Za 41 J J J (Zh J Wt J (Za 42 J J J (Zq (i := 0) J Xb J J J ?_)))))))))))))
   refine Za 43 J J J (Ym (ns := [0, 2]) (xs := [.tmp 40, .tmp 42]) J tz_140 J tfl_140 J J J J (Za 7 J J J (Zy (cs' := [_, _, _]) J tz_140 J J ?_))); intro b7
   refine Zs J J (Zo (cs' := [_, _, _]) (i := 0) J ts_140 J J J J J (Uc J) J (Vp (Zb (Zg (Zz (We 25 4 ?_))))))
   apply Wg [1, 3, 8, 9, 10, 11, 12, 13, 14, 15, 16, 17, 18, 19, 20, 21, 22, 23, 24, 25, 26, 27, 28, 44, 45, 46, 47, 48, 49, 50, 51, 52, 64, 69] (σ := PS × Nat × List Ty × Value) (fun zz => match zz with | (s, g, ac, v) => []) (fun zz => match zz with | (s, g, ac, v) => [.loc b7 [.val (.string ct), .own v 4 (Ty.cellss ac), .val (.int .i64 ca)], .loc b6 (Tok.mk ck ct cn ca).av, .loc b4 [.val (.string tt), .seq 1 (strs acc), .own w 3 (Cn.cellss cs), .val (.slice none 0 0), .val (.int .i64 ta)], .loc b3 (Tok.mk tk tt tn ta).av, .loc b2 zDa, .loc b (psC L s), .own 140 3 w, .own 25 4 v]) (fun zz => match zz with | (s, g, ac, v) => POk L 302 s ∧ L.length - s.at_ < g ∧ ac.length ≤ s.at_ ∧ typesL L (typeP L) g s ac = (tys, q2)) (fun zz => match zz with | (s, g, ac, v) => g) ((q1, L.length + 1, [], .slice none 0 0))
   ·repeat' (first | exact Uf | apply Ud rfl | apply Ue rfl)
   ·exact ⟨l1, by omega, Nat.zero_le _, f2⟩
   ·exact by4
   ·exact (Vu _ (Vy (Vw _) (Vy (Le.nilOwn 4) (Vx _))) (Vs _ (Vv J)))
   rintro ⟨s, g, ac, v⟩ hI
   try dsimp only [List.cons_append, List.nil_append] at hI ⊢
   obtain ⟨j1, j2, j3, hv⟩ := hI
   have hs1 := j1.1
   have hlt : (Ty.cellss ac).length ≤ 200000 := by rw [Ty.cellss_len]; omega
   refine Zg (Zg (Zc (Za 44 J J J (Zd J J (Za 45 J J J (op_callkb (xs := [.tmp 44, .const (.int .i64 0)]) [5] J J J (starts_c b L s 0) by1 ?_)))))); intro c45 h45
   refine Vp (Zb ?_)
   rcases Zi h45 with ⟨rfl, g45⟩ | ⟨rfl, g45⟩
   ·refine Zr J (Xc (Xd (Xv (Xe (Zb (Zg ?_))))))
    rw [typesL_end g45] at hv
    simp only [Prod.mk.injEq] at hv
    obtain ⟨rfl, rfl⟩ := hv
    refine c_le (SLe.refl _) (Vu _ (Vy (Vw _) (Vy (Le.own_seq J) (Vx _))) (Vq _)) (Zc (Za 53 J J J (Zh J tf_102_2 J (Za 54 J J J (Zq (i := 2) J ta_100 J J J (Za 55 J J J (Zx (cs' := [_, _, _]) (i := 0) J ta_140 J J J J (Za 56 J J J (Yi (xs := [.tmp 55]) el_100 J J J J J J (Uc J) ?_)))))))))
    refine Za 57 J J J (Xj (i := 6) el_100 J J J J (.seq _ _) by6 ?_)
    intro u57
    refine Za 58 J J J (Zh J tf_102_2 J (Zs J J (Zo (cs' := [_, _, _, _, _]) (i := 2) J ts_100 J J J J J (Uc J) J (Vp (Zb (Zc (Za 59 J J J (Zd J J (Za 60 J J J (op_mayc (xs := [.tmp 59, .const (.string ⟨#[124]⟩)]) (i := 5) J J J (may_c b L hL s kBar) by1 ?_ ?_))))))))))
    ·intro g60
     refine Za 5 J J J (Ze J J (Vp (Yv (Xa ?_))))
     first
     | (rw [if_pos g60] at hu; have l4 := (Xo l2 g60).ok l2; have l5 := (is_lt g60).2; exact ⟨(stepP s, f, cs ++ [Cn.mk ct ac ca], u57, true), ⟨l4, (by show L.length - (s.at_ + 1) < f; omega), (fun _ => by show (cs ++ _).length ≤ s.at_ + 1; rw [List.length_append]; simp; omega), hu⟩, (by show 2 * f + 1 < 2 * (f + 1) + 1; omega), Vz rfl (Vw _) by4, Vt _ (Vt _ (Vu _ (Vy (Vw _) (Vy (Vw _) (Vy (Ub (by simp [Cn.cellss]; rfl)) (Vx _)))) (Vs _ (Vs _ (Vs _ (Vs _ (Vt _ (Vq _))))))))⟩)
     | (rw [if_neg g60] at hu; exact ⟨(s, f + 1, cs ++ [Cn.mk ct ac ca], u57, false), ⟨l2, (by show L.length - s.at_ < f + 1; omega), (fun h => by cases h), hu⟩, (by show 2 * (f + 1) + 0 < 2 * (f + 1) + 1; omega), Vz rfl (Vw _) by4, Vt _ (Vt _ (Vu _ (Vy (Vw _) (Vy (Vw _) (Vy (Ub (by simp [Cn.cellss]; rfl)) (Vx _)))) (Vs _ (Vs _ (Vs _ (Vs _ (Vt _ (Vq _))))))))⟩)
    ·intro g60
     refine Za 5 J J J (Ze J J (Vp (Yv (Xa ?_))))
     first
     | (rw [if_pos g60] at hu; have l4 := (Xo l2 g60).ok l2; have l5 := (is_lt g60).2; exact ⟨(stepP s, f, cs ++ [Cn.mk ct ac ca], u57, true), ⟨l4, (by show L.length - (s.at_ + 1) < f; omega), (fun _ => by show (cs ++ _).length ≤ s.at_ + 1; rw [List.length_append]; simp; omega), hu⟩, (by show 2 * f + 1 < 2 * (f + 1) + 1; omega), Vz rfl (Vw _) by4, Vt _ (Vt _ (Vu _ (Vy (Vw _) (Vy (Vw _) (Vy (Ub (by simp [Cn.cellss]; rfl)) (Vx _)))) (Vs _ (Vs _ (Vs _ (Vs _ (Vt _ (Vq _))))))))⟩)
     | (rw [if_neg g60] at hu; exact ⟨(s, f + 1, cs ++ [Cn.mk ct ac ca], u57, false), ⟨l2, (by show L.length - s.at_ < f + 1; omega), (fun h => by cases h), hu⟩, (by show 2 * (f + 1) + 0 < 2 * (f + 1) + 1; omega), Vz rfl (Vw _) by4, Vt _ (Vt _ (Vu _ (Vy (Vw _) (Vy (Vw _) (Vy (Ub (by simp [Cn.cellss]; rfl)) (Vx _)))) (Vs _ (Vs _ (Vs _ (Vs _ (Vt _ (Vq _))))))))⟩)
   ·refine Zt J (Zv (Zb (Zz ?_)))
    obtain ⟨g, rfl⟩ : ∃ f', g = f' + 1 := ⟨g - 1, by omega⟩
    rw [typesL_go g45] at hv
    have d1 := atype_lt typeP_adv' j1 g45
    have d2 := atype_adv typeP_adv' j1
    have m2 := d2.ok j1
    have HA2 := atype_c b L hL 302 (typeP L) (Type_c b L hL 302) typeP_adv' s j1
    obtain ⟨⟨⟨yk, ys, yn, yl⟩, s2⟩, e2'⟩ : ∃ r, atypeG L (typeP L) s = r := ⟨_, rfl⟩
    rw [e2'] at HA2 hv m2 d1
    simp only [Ty.cells] at HA2
    simp only [] at d1 m2 hv
    have m3 := m2.1
    refine Xw [0, 1, 2, 3, 4, 5, 6, 7] [3, 5, 7] [[], [0], [], [2], [2, 3], [0, 1, 2, 3, 4], [0, 1, 2, 3, 4, 5], [0, 1, 2, 3, 4, 5, 6]] Wr J (Yb 46 (none) (i := 0) J J J J J (Zh J tf_140_1 J ⟨J, J⟩) ?_)
    refine Yb 47 (some 0) (i := 1) J J J J J (Zq (i := 0) J Ve J J J ⟨J, J⟩) ?_
    refine Yb 48 (none) (i := 2) J J J J J (Zd J J ⟨J, J⟩) ?_
    refine Xn 5 (i := 3) J J J J J (Yg (xs := [.tmp 48]) (i := 0) J J J (HA2) by1 ⟨_, J, ?_⟩)
    refine Yb 50 (none) (i := 4) J J J J J (Yi (xs := [.tmp 49]) el_23 J J J J J J (Uc J) ⟨J, J⟩) ?_
    refine Xn 7 (i := 5) J J J J J (Xj (i := 0) el_23 J J J J (.seq _ _) by6 (fun u51 => ⟨_, J, ?_⟩))
    refine Yb 52 (none) (i := 6) J J J J J (Zh J tf_140_1 J ⟨J, J⟩) ?_
    refine Xn 0 (i := 7) J J J J J (Zo (cs' := [_, _, _]) (i := 0) J ts_23 J J J J J (Uc J) J ⟨_, J, ?_⟩)
    show AGo _ _ _ _ _ _ _
    refine Yv (Xa ?_)
    refine ⟨(s2, g, ac ++ [Ty.mk yk ys yn yl], u51), ⟨m2, (by show L.length - s2.at_ < g; omega), (by show (ac ++ [Ty.mk yk ys yn yl]).length ≤ s2.at_; rw [List.length_append]; simp; omega), hv⟩, Nat.lt_succ_self g, by4, (Vu _ (Vy (Vw _) (Vy (Ub (by rw [Ty.cellss_app]; rfl)) (Vx _))) (Vs _ (Vs _ (Vs _ (Vs _ (Vv J))))))⟩
 ·refine Zt J (Zv (Zb (Zz ?_)))
  obtain ⟨f, rfl⟩ : ∃ f', f = f' + 1 := ⟨f - 1, by omega⟩
  have hlt := hkn g18
  rw [hgo f g18, htk g18] at hu
  have HT := take_c b L hL q hq1 1 kE
  rw [htk g18] at HT
  simp only [Tok.av] at HT
  have l1 := (Vf i1 hlt).ok i1
  refine Xw [0, 1, 2, 3, 4, 5, 6, 7, 8] [3, 6, 8] [[], [0], [], [2], [2, 3], [2, 3, 4], [0, 1, 2, 3, 4, 5], [0, 1, 2, 3, 4, 5, 6], [0, 1, 2, 3, 4, 5, 6, 7]] Wr J (Yb 19 (none) (i := 0) J J J J J (Zh J tf_102_1 J ⟨J, J⟩) ?_)
  refine Yb 20 (some 0) (i := 1) J J J J J (Zq (i := 0) J ta_68 J J J ⟨J, J⟩) ?_
  refine Yb 21 (none) (i := 2) J J J J J (Zd J J ⟨J, J⟩) ?_
  refine Xn 3 (i := 3) J J J J J (Yg (xs := [.tmp 21, .const (.int .i64 1), .const (.string ⟨#[]⟩)]) (i := 0) J J J (HT) by1 ⟨_, J, ?_⟩)
  refine Yb 23 (none) (i := 4) J J J J J (Wy (ft := 9) (fo := 1) J (by kernel_rfl) Yz J J ⟨J, J⟩) ?_
  refine Yb 24 (none) (i := 5) J J J J J (Yi (xs := [.tmp 23]) el_68 J J J J J J (Uc J) ⟨J, J⟩) ?_
  refine Xn 4 (i := 6) J J J J J (Xj (i := 0) el_68 J J J J (.seq _ _) by6 (fun u25 => ⟨_, J, ?_⟩))
  refine Yb 26 (none) (i := 7) J J J J J (Zh J tf_102_1 J ⟨J, J⟩) ?_
  refine Xn 0 (i := 8) J J J J J (Zo (cs' := [_, _, _, _, _]) (i := 0) J ts_68 J J J J J (Uc J) J ⟨_, J, ?_⟩)
  show AGo _ _ _ _ _ _ _
  refine Yv (Xa ?_)
  refine ⟨(stepP q, f, acc ++ [qt], u25), ⟨l1, (by show L.length - (q.at_ + 1) < f; omega), (by show (acc ++ [qt]).length ≤ q.at_ + 1; rw [List.length_append]; simp; omega), hu⟩, Nat.lt_succ_self f, by4, (Vu _ (Vy (Vw _) (Vy (Ub (by rw [strs_app]; rfl)) (Vx _))) (Vs _ (Vs _ (Vv J))))⟩
theorem clsL_err {L : List Tok} {f : Nat} {p : PS} {ms : List Me} {ds : List Bi} (h : p.e ≠ 0) : clsL L f p ms ds = ((ms, ds), p) := by
 cases f with
 | zero => rfl
 | succ f => rw [clsL, if_pos h]
theorem clsL_end {L : List Tok} {f : Nat} {p : PS} {ms : List Me} {ds : List Bi} (h : p.e = 0) (h2 : isP L p kEnd = true) : clsL L (f + 1) p ms ds = ((ms, ds), stepP p) := by rw [clsL, if_neg (by rw [h]; simp), if_pos h2]
theorem Me.cellss_app' (a b : List Me) : Me.cellss (a ++ b) = Me.cellss a ++ Me.cellss b := by simp [Me.cellss]
abbrev zCl : List AV := [.val (.string kE), .val (.string kE), .val (.slice none 0 0), .val (.slice none 0 0), .val (.slice none 0 0), .val (.int .i64 0)]
set_option maxHeartbeats 4000000 in
set_option maxRecDepth 100000 in
theorem class_b (b : Nat) (L : List Tok) (hL : L.length ≤ 100000) (p : PS) (k : POk L 302 p) (c17 : Bool) (h3 : isP L (takeP L (takeP L p 2 kE).2 1 kE).2 kFrom = c17) : MCall Tryz.prog 53 [.ptr b 0] (.loc b (psC L p)) (.agg (classP L p).1.cells) (.loc b (psC L (classP L p).2)) := by
 have H1 := take_c b L hL p k.1 2 kE
 have k1 := (Yn (kind := 2) (s := kE) (by decide) k).ok k
 obtain ⟨r, hr⟩ : ∃ r, classP L p = r := ⟨_, rfl⟩
 rw [hr]
 unfold classP at hr
 simp only [] at hr
 obtain ⟨⟨⟨tk, tt, tn, ta⟩, p1⟩, e1⟩ : ∃ r, takeP L p 2 kE = r := ⟨_, rfl⟩
 rw [e1] at H1 k1 hr h3
 simp only [Tok.av] at H1 k1 hr h3
 have H2 := take_c b L hL p1 k1.1 1 kE
 have k2 := (Yn (kind := 1) (s := kE) (by decide) k1).ok k1
 obtain ⟨⟨⟨vk, vt, vn, va⟩, p2⟩, e2⟩ : ∃ r, takeP L p1 1 kE = r := ⟨_, rfl⟩
 rw [e2] at H2 k2 hr h3
 simp only [Tok.av] at H2 k2 hr h3
 have HM := may_eq (b := b) hL h3
 have k3 := (supers_adv k2).ok k2
 obtain ⟨⟨sl, p3⟩, e3⟩ : ∃ r, supersP L p2 = r := ⟨_, rfl⟩
 rw [e3] at k3 hr
 simp only [] at k3 hr
 have e3 : (if c17 = true then uppersP L (stepP p2) else ([], p2)) = (sl, p3) := by rw [← e3, supersP, h3]
 have H4 := take_c b L hL p3 k3.1 6 kWhere
 have k4 := (Yn (kind := 6) (s := kWhere) (by decide) k3).ok k3
 obtain ⟨⟨u4, p4⟩, e4⟩ : ∃ r, takeP L p3 6 kWhere = r := ⟨_, rfl⟩
 rw [e4] at H4 k4 hr
 simp only [] at H4 k4 hr
 obtain ⟨⟨⟨ml, dl⟩, p5⟩, e5⟩ : ∃ r, clsL L (L.length + 1) p4 [] [] = r := ⟨_, rfl⟩
 rw [e5] at hr
 simp only [] at hr
 refine Zw Tryz.func53 J (by kernel_rfl) J (Uc J) ?_
 refine Ye (Zg (Zc (Za 2 J J J (Zy (cs' := [_, _, _, _, _, _]) J tz_77 J J ?_)))); intro b2
 refine Vp (Zb (Zg (Zc (Za 6 J J J (Zd J J (Za 7 J J J (Yg (xs := [.tmp 6, .const (.int .i64 2), .const (.string ⟨#[]⟩)]) (i := 1) J J J (H1) by1 ?_)))))))
 refine Za 3 J J J (Zy (cs' := [_, _, _, _]) J Wf J J ?_); intro b3
 refine Zs J J (Zo (cs' := [_, _, _, _]) (i := 0) J Xk J J J J J (Uc J) J (Vp (Zb (Zg (c_drawnEF [0, 1, 2, 5, 6, 3, 4, 7, 8, 9] [3, 8, 9] [[], [0], [], [2], [2, 3], [], [5], [0, 1, 2, 3, 4, 5, 6], [], [0, 1, 2, 3, 4, 5, 6, 7, 8]] 8 (cs0 := [_, _, _, _, _, _]) Wr J J J J tz_77 J J (EOpsF.d 8 (none) (i := 0) J J J J J J (Zh J Xh J ⟨J, J⟩) ?_))))))
 refine EOpsF.d 9 (some 0) (i := 1) J J J J J J (Zq (i := 0) J Yz J J J ⟨J, J⟩) ?_
 refine EOpsF.d 10 (none) (i := 2) J J J J J J (Zd J J ⟨J, J⟩) ?_
 refine EOpsF.d 13 (none) (i := 5) J J J J J J (Zh J Wt J ⟨J, J⟩) ?_
 refine EOpsF.d 14 (some 0) (i := 6) J J J J J J (Zq (i := 0) J Xb J J J ⟨J, J⟩) ?_
 refine EOpsF.w 2 (i := 3) J J J J J J (Yg (xs := [.tmp 10, .const (.int .i64 1), .const (.string ⟨#[]⟩)]) (i := 0) J J J (H2) by1 ⟨_, J, ?_⟩)
 refine EOpsF.d 12 (none) (i := 4) J J J J J J (Wy (ft := 9) (fo := 1) J (by kernel_rfl) Yz J J ⟨J, J⟩) ?_
 refine EOpsF.d 15 (none) (i := 7) J J J J J J (Ym (ns := [0, 1, 5]) (xs := [.tmp 9, .tmp 12, .tmp 14]) J tz_77 J tfl_77 J J J J ⟨J, J⟩) ?_
 refine EOpsF.free (i := 8) J J J ?_; intro b4
 refine EOpsF.w 3 (i := 9) J J J J J J (Zo (cs' := [_, _, _, _, _, _]) (i := 0) J ts_77 J J J J J (Uc J) J ⟨_, J, ?_⟩)
 show AGo _ _ _ _ _ _ _
 refine Zb (Zg (Zg (Zc (Za 16 J J J (Zd J J (Za 17 J J J (Yg (xs := [.tmp 16, .const (.string ⟨#[102, 114, 111, 109]⟩)]) (i := 2) J J J (HM) by1 ?_)))))))
 refine Vp (Zb ?_)
 apply c_joink [1, 3, 6, 7, 8, 9, 10, 11, 12, 13, 14, 15, 16, 17, 18, 19, 20, 22, 45, 59] (σ := Unit) (fun zz => match zz with | z => []) (fun zz => match zz with | z => [.loc b3 (Tok.mk tk tt tn ta).av, .loc b2 zCl, .loc b (psC L p3), .loc b4 [.val (.string tt), .val (.string vt), .seq 1 (strs sl), .val (.slice none 0 0), .val (.slice none 0 0), .val (.int .i64 ta)]]) (fun zz => match zz with | z => True)
 ·repeat' (first | exact Uf | apply Ud rfl | apply Ue rfl)
 ·skip
  rcases c17 with _ | _
  ·refine Zr J (Zv (Xa ?_))
   first
   | exact ⟨(), trivial, by4, Vv rfl⟩
   | (rw [if_neg (by decide)] at e3; cases e3; exact ⟨(), trivial, by4, (Vs _ (Vs _ (Vs _ (Vu _ by0 (MLe.nil)))))⟩)
  ·refine Zt J ?_
   rw [if_pos rfl] at e3
   have kA := (Xo k2 h3).ok k2
   have HU := uppers_c b L hL 302 (stepP p2) kA
   rw [e3] at HU
   refine Zc (Za 18 J J J (Zd J J (Za 19 J J J (Yg (xs := [.tmp 18]) (i := 2) J J J (HU) by1 ?_))))
   refine Za 20 J J J (Zh J tf_77_2 J (Zs J J (Zo (cs' := [_, _, _, _, _, _]) (i := 3) J ts_68 J J J J J (Uc J) J (Vp (Xa ?_)))))
   first
   | exact ⟨(), trivial, by4, Vv rfl⟩
   | (rw [if_neg (by decide)] at e3; cases e3; exact ⟨(), trivial, by4, (Vs _ (Vs _ (Vs _ (Vu _ by0 (MLe.nil)))))⟩)
 rintro z hI
 try dsimp only [List.cons_append, List.nil_append] at hI ⊢
 refine Zb (Zg (Zc (Za 21 J J J (Zd J J (Za 22 J J J (Yg (xs := [.tmp 21, .const (.int .i64 6), .const (.string ⟨#[119, 104, 101, 114, 101]⟩)]) (i := 2) J J J (H4) by1 ?_))))))
 refine Vp (Zb (Zg (Zz (We 145 6 (We 112 13 ?_)))))
 apply Wg [1, 3, 5, 6, 7, 8, 9, 10, 11, 12, 13, 14, 15, 16, 17, 18, 19, 20, 21, 22, 23, 24, 25, 26, 27, 28, 29, 30, 31, 32, 33, 34, 35, 36, 37, 38, 39, 40, 41, 42, 43, 44, 45, 46, 47, 48, 49, 50, 51, 52, 53, 54, 55, 56, 57, 58, 59] (σ := PS × Nat × List Me × List Bi × Value × Value) (fun zz => match zz with | (q, f, ms, ds, u, v) => []) (fun zz => match zz with | (q, f, ms, ds, u, v) => [.loc b3 (Tok.mk tk tt tn ta).av, .loc b2 zCl, .loc b (psC L q), .loc b4 [.val (.string tt), .val (.string vt), .seq 1 (strs sl), .own u 6 (Me.cellss ms), .own v 13 (Bi.cellss ds), .val (.int .i64 ta)], .own 145 6 u, .own 112 13 v]) (fun zz => match zz with | (q, f, ms, ds, u, v) => POk L 302 q ∧ (q.e = 0 → L.length - q.at_ < f ∧ ms.length + ds.length ≤ q.at_) ∧ clsL L f q ms ds = ((ml, dl), p5)) (fun zz => match zz with | (q, f, ms, ds, u, v) => f) ((p4, L.length + 1, [], [], .slice none 0 0, .slice none 0 0))
 ·repeat' (first | exact Uf | apply Ud rfl | apply Ue rfl)
 ·exact ⟨k4, fun _ => ⟨by omega, Nat.zero_le _⟩, e5⟩
 ·exact by4
 ·exact (Vs _ (Vs _ (Vs _ (Vu _ (Vy (Vw _) (Vy (Vw _) (Vy (Vw _) (Vy (Le.nilOwn 6) (Vy (Le.nilOwn 13) (Vx _)))))) (Vq _)))))
 rintro ⟨q, f, ms, ds, u, v⟩ hI
 try dsimp only [List.cons_append, List.nil_append] at hI ⊢
 obtain ⟨i1, i2, hu⟩ := hI
 have hq1 := i1.1
 refine Zg (Zg (Zc (Za 23 J J J (Zd J J (Za 24 J J J (Yj J J (Za 25 J J J (Zh J Vl J (Za 26 J J J (Zq (i := 2) J Xb J J J (Za 27 J J J (Yr J J J ?_)))))))))))); intro c27 h27
 refine Za 28 J J J (Zd J J ?_)
 rcases Zi h27 with ⟨rfl, g27⟩ | ⟨rfl, g27⟩
 ·skip
  refine Zk 29 J J J J J (Zk 30 J J J J J (Zk 31 J J J J J (Za 32 J J J (Zn J J J (Vp (Zb (Zr J ?_)))))))
  refine Xc (Xd (Xv (Xe (Zb (Zg (Zc (Za 60 J J J (Zx (cs' := [_, _, _, _, _, _]) (i := 3) J ta_77 J J J J (Zs J J (Zo (cs' := [_, _, _, _, _, _]) (i := 1) J ts_77 J J J J J (Uc J) J (Vp (Zb (Ya ?_)))))))))))))
  first
  | (rw [clsL_err g27] at hu; cases hu; subst hr; exact Yl (i := 1) rfl rfl rfl ta_77 rfl by0 (Vt _ (Vt _ (Vs _ (Vr _)))) ⟨rfl, rfl⟩)
  | (obtain ⟨f, rfl⟩ : ∃ f', f = f' + 1 := ⟨f - 1, by have := (i2 g27).1; omega⟩; rw [clsL_end g27 g30] at hu; cases hu; subst hr; exact Yl (i := 1) rfl rfl rfl ta_77 rfl by0 (Vt _ (Vt _ (Vs _ (Vr _)))) ⟨rfl, rfl⟩)
 ·skip
  refine Zl 29 J J J J J (Zd J J (Zl 30 J J J J J (op_mayc (xs := [.tmp 29, .const (.string ⟨#[101, 110, 100]⟩)]) (i := 2) J J J (may_c b L hL q kEnd) by1 ?_ ?_)))
  ·intro g30
   refine Zl 31 J J J J J (Xt J J ?_); intro c31 h31
   try replace h31 := nott h31 h30
   obtain rfl : c31 = false := by
    cases c31 with
    | false => rfl
    | true => exact absurd (h31.1 rfl) (by decide)
   refine Za 32 J J J (Zn J J J (Vp (Zb (Zr J (Xc (Xd (Xv (Xe (Zb (Zg (Zc (Za 60 J J J (Zx (cs' := [_, _, _, _, _, _]) (i := 3) J ta_77 J J J J ?_)))))))))))))
   refine Zs J J (Zo (cs' := [_, _, _, _, _, _]) (i := 1) J ts_77 J J J J J (Uc J) J (Vp (Zb (Ya ?_))))
   first
   | (rw [clsL_err g27] at hu; cases hu; subst hr; exact Yl (i := 1) rfl rfl rfl ta_77 rfl by0 (Vt _ (Vt _ (Vs _ (Vr _)))) ⟨rfl, rfl⟩)
   | (obtain ⟨f, rfl⟩ : ∃ f', f = f' + 1 := ⟨f - 1, by have := (i2 g27).1; omega⟩; rw [clsL_end g27 g30] at hu; cases hu; subst hr; exact Yl (i := 1) rfl rfl rfl ta_77 rfl by0 (Vt _ (Vt _ (Vs _ (Vr _)))) ⟨rfl, rfl⟩)
  ·intro g30
   refine Zl 31 J J J J J (Xt J J ?_); intro c31 h31
   try replace h31 := nott h31 h30
   obtain rfl : c31 = true := h31.2 rfl
   refine Za 32 J J J (Zn J J J (Vp (Zb (Zt J (Zv (Zb (Zz (Zg (Zg ?_)))))))))
   obtain ⟨i3, i4⟩ := i2 g27
   have hl1 : (Me.cellss ms).length ≤ 200000 := by rw [Me.cellss_len]; omega
   have hl2 : (Bi.cellss ds).length ≤ 200000 := by rw [Bi.cellss_len]; omega
   obtain ⟨f, rfl⟩ : ∃ f', f = f' + 1 := ⟨f - 1, by omega⟩
   rw [clsL, if_neg (by rw [g27]; simp), if_neg g30] at hu
   refine Zc (Za 33 J J J (Zd J J (Za 34 J J J (op_mayc (xs := [.tmp 33, .const (.string ⟨#[100, 101, 102]⟩)]) (i := 2) J J J (may_c b L hL q kDef) by1 ?_ ?_))))
   ·intro g34
    refine Vp (Zb (Zt J ?_))
    rw [if_pos g34] at hu
    have l1 := (Xo i1 g34).ok i1
    have l2 := (bindP_adv l1).ok l1
    have b1 : (stepP q).at_ ≤ _ := (bindP_adv l1).1
    have b1' : (stepP q).at_ = q.at_ + 1 := rfl
    have HB := bindP_c b L hL (stepP q) l1
    obtain ⟨⟨⟨bn, ⟨xk, xs, xn, ⟨xtk, xts, xtn, xtl⟩, xks, xal, xbs, xp⟩, bp⟩, q2⟩, f2⟩ : ∃ r, bindP L (stepP q) = r := ⟨_, rfl⟩
    rw [f2] at HB l2 b1 hu
    simp only [Bi.cells, Ex.cells, Ty.cells, List.cons_append, List.nil_append] at HB l2 b1 hu
    have b2' : q.at_ ≤ q2.at_ := by omega
    have HS := take_c b L hL q2 l2.1 7 kSemi
    have hpr := take_prog (L := L) (p := q2) (kind := 7) (s := kSemi) (by decide)
    have l5 := (Yn (kind := 7) (s := kSemi) (by decide) l2).ok l2
    obtain ⟨⟨u6, q5⟩, f5⟩ : ∃ r, takeP L q2 7 kSemi = r := ⟨_, rfl⟩
    rw [f5] at HS hpr l5 hu
    simp only [Prod.mk.injEq] at HS hpr l5 hu
    refine Xw [0, 1, 2, 3, 4, 5, 6, 7] [3, 5, 7] [[], [0], [], [2], [2, 3], [0, 1, 2, 3, 4], [0, 1, 2, 3, 4, 5], [0, 1, 2, 3, 4, 5, 6]] Wr J (Yb 35 (none) (i := 0) J J J J J (Zh J tf_77_4 J ⟨J, J⟩) ?_)
    refine Yb 36 (some 3) (i := 1) J J J J J (Zq (i := 0) J ta_53 J J J ⟨J, J⟩) ?_
    refine Yb 37 (none) (i := 2) J J J J J (Zd J J ⟨J, J⟩) ?_
    refine Xn 2 (i := 3) J J J J J (Yg (xs := [.tmp 37]) (i := 0) J J J (HB) by1 ⟨_, J, ?_⟩)
    refine Yb 39 (none) (i := 4) J J J J J (Yi (xs := [.tmp 38]) el_53 J J J J J J (Uc J) ⟨J, J⟩) ?_
    refine Xn 5 (i := 5) J J J J J (Xj (i := 0) el_53 J J J J (.seq _ _) by6 (fun u40 => ⟨_, J, ?_⟩))
    refine Yb 41 (none) (i := 6) J J J J J (Zh J tf_77_4 J ⟨J, J⟩) ?_
    refine Xn 3 (i := 7) J J J J J (Zo (cs' := [_, _, _, _, _, _]) (i := 0) J ts_53 J J J J J (Uc J) J ⟨_, J, ?_⟩)
    show AGo _ _ _ _ _ _ _
    refine Zb ?_
    first | (have := HN; refine c_le (SLe.refl _) (Vt _ (Vq _)) ?_) | skip
    refine Zc (Za 58 J J J (Zd J J (Za 59 J J J (Yg (xs := [.tmp 58, .const (.int .i64 7), .const (.string ⟨#[59]⟩)]) (i := 2) J J J (HS) by1 ?_))))
    refine Vp (Yv (Xa ?_))
    first
    | exact ⟨(q5, f, ms, ds ++ [Bi.mk bn (Ex.mk xk xs xn (Ty.mk xtk xts xtn xtl) xks xal xbs xp) bp], u, u40), ⟨l5, (fun e => by obtain ⟨⟨_, h5⟩, _, h6⟩ := hpr e; rw [h5]; refine ⟨?_, ?_⟩; (show L.length - (q2.at_ + 1) < f; omega); (show ms.length + (ds ++ _).length ≤ q2.at_ + 1; rw [List.length_append]; simp; omega)), hu⟩, Nat.lt_succ_self f, by4, (Vs _ (Vs _ (Vs _ (Vu _ (Vy (Vw _) (Vy (Vw _) (Vy (Vw _) (Vy (Vw _) (Vy (Ub by10) (Vx _)))))) (Vv rfl)))))⟩
    | exact ⟨(q5, f, ms ++ [Me.mk nt (Ty.mk yk ys yn yl) na], ds, u56, v), ⟨l5, (fun e => by obtain ⟨⟨_, h5⟩, _, h6⟩ := hpr e; rw [h5]; refine ⟨?_, ?_⟩; (show L.length - (q2.at_ + 1) < f; omega); (show (ms ++ _).length + ds.length ≤ q2.at_ + 1; rw [List.length_append]; simp; omega)), hu⟩, Nat.lt_succ_self f, by4, (Vs _ (Vs _ (Vs _ (Vu _ (Vy (Vw _) (Vy (Vw _) (Vy (Vw _) (Vy (Ub (by rw [Me.cellss_app']; rfl)) (Vy (Vw _) (Vx _)))))) (Vv rfl)))))⟩
   ·intro g34
    refine Vp (Zb (Zr J (Zg ?_)))
    rw [if_neg g34] at hu
    have HN := pName_c b L hL 302 q i1
    have l1 := (name_adv i1).ok i1
    have b1 := (name_adv i1).1
    obtain ⟨⟨⟨nk, nt, nn, na⟩, q1⟩, f1⟩ : ∃ r, nameP L q = r := ⟨_, rfl⟩
    rw [f1] at HN l1 b1 hu
    simp only [Tok.av] at HN l1 b1 hu
    have HC := take_c b L hL q1 l1.1 7 kColon
    have l2' := (Yn (kind := 7) (s := kColon) (by decide) l1).ok l1
    have b2'' := (Yn (L := L) (kind := 7) (s := kColon) (by decide) l1).1
    obtain ⟨⟨u7, q3⟩, f3⟩ : ∃ r, takeP L q1 7 kColon = r := ⟨_, rfl⟩
    rw [f3] at HC l2' b2'' hu
    simp only [] at HC l2' b2'' hu
    have HT := typeP_c b L hL 302 q3 l2'
    have l2 := (typeP_adv l2').ok l2'
    have b3' := (typeP_adv l2').1
    obtain ⟨⟨⟨yk, ys, yn, yl⟩, q2⟩, f2⟩ : ∃ r, typeP L q3 = r := ⟨_, rfl⟩
    rw [f2] at HT l2 b3' hu
    simp only [Ty.cells] at HT l2 b3' hu
    have b2' : q.at_ ≤ q2.at_ := by omega
    have HS := take_c b L hL q2 l2.1 7 kSemi
    have hpr := take_prog (L := L) (p := q2) (kind := 7) (s := kSemi) (by decide)
    have l5 := (Yn (kind := 7) (s := kSemi) (by decide) l2).ok l2
    obtain ⟨⟨u6, q5⟩, f5⟩ : ∃ r, takeP L q2 7 kSemi = r := ⟨_, rfl⟩
    rw [f5] at HS hpr l5 hu
    simp only [Prod.mk.injEq] at HS hpr l5 hu
    refine Zc (Za 42 J J J (Zd J J (Za 43 J J J (Yg (xs := [.tmp 42]) (i := 2) J J J (HN) by1 ?_))))
    refine Za 5 J J J (Zy (cs' := [_, _, _, _]) J Wf J J ?_); intro b5
    refine Zs J J (Zo (cs' := [_, _, _, _]) (i := 0) J Xk J J J J J (Uc J) J (Vp (Zb (Zg (Zc (Za 44 J J J (Zd J J (Za 45 J J J (Yg (xs := [.tmp 44, .const (.int .i64 7), .const (.string ⟨#[58]⟩)]) (i := 3) J J J (HC) by1 ?_)))))))))
    refine Vp (Zb (Xw [0, 1, 2, 3, 4, 6, 7, 5, 8, 9, 10, 11, 12] [5, 10, 12] [[], [0], [], [2], [], [4], [], [6], [2, 3, 4, 5, 6, 7], [2, 3, 4, 5, 6, 7, 8], [0, 1, 2, 3, 4, 5, 6, 7, 8, 9], [0, 1, 2, 3, 4, 5, 6, 7, 8, 9, 10], [0, 1, 2, 3, 4, 5, 6, 7, 8, 9, 10, 11]] Wr J (Yb 46 (none) (i := 0) J J J J J (Zh J tf_77_3 J ⟨J, J⟩) ?_)))
    refine Yb 47 (some 4) (i := 1) J J J J J (Zq (i := 0) J ta_75 J J J ⟨J, J⟩) ?_
    refine Yb 48 (none) (i := 2) J J J J J (Zh J Xh J ⟨J, J⟩) ?_
    refine Yb 49 (some 0) (i := 3) J J J J J (Zq (i := 0) J Yz J J J ⟨J, J⟩) ?_
    refine Yb 50 (none) (i := 4) J J J J J (Zd J J ⟨J, J⟩) ?_
    refine Yb 52 (none) (i := 6) J J J J J (Zh J Wt J ⟨J, J⟩) ?_
    refine Yb 53 (some 0) (i := 7) J J J J J (Zq (i := 0) J Xb J J J ⟨J, J⟩) ?_
    refine Xn 3 (i := 5) J J J J J (Yg (xs := [.tmp 50]) (i := 0) J J J (HT) by1 ⟨_, J, ?_⟩)
    refine Yb 54 (none) (i := 8) J J J J J (Ym (ns := [0, 1, 2]) (xs := [.tmp 49, .tmp 51, .tmp 53]) J tz_145 J tfl_145 J J J J ⟨J, J⟩) ?_
    refine Yb 55 (none) (i := 9) J J J J J (Yi (xs := [.tmp 54]) el_75 J J J J J J (Uc J) ⟨J, J⟩) ?_
    refine Xn 5 (i := 10) J J J J J (Xj (i := 0) el_75 J J J J (.seq _ _) by6 (fun u56 => ⟨_, J, ?_⟩))
    refine Yb 57 (none) (i := 11) J J J J J (Zh J tf_77_3 J ⟨J, J⟩) ?_
    refine Xn 4 (i := 12) J J J J J (Zo (cs' := [_, _, _, _, _, _]) (i := 0) J ts_75 J J J J J (Uc J) J ⟨_, J, ?_⟩)
    show AGo _ _ _ _ _ _ _
    refine Zb ?_
    first | (have := HN; refine c_le (SLe.refl _) (Vt _ (Vq _)) ?_) | skip
    refine Zc (Za 58 J J J (Zd J J (Za 59 J J J (Yg (xs := [.tmp 58, .const (.int .i64 7), .const (.string ⟨#[59]⟩)]) (i := 2) J J J (HS) by1 ?_))))
    refine Vp (Yv (Xa ?_))
    first
    | exact ⟨(q5, f, ms, ds ++ [Bi.mk bn (Ex.mk xk xs xn (Ty.mk xtk xts xtn xtl) xks xal xbs xp) bp], u, u40), ⟨l5, (fun e => by obtain ⟨⟨_, h5⟩, _, h6⟩ := hpr e; rw [h5]; refine ⟨?_, ?_⟩; (show L.length - (q2.at_ + 1) < f; omega); (show ms.length + (ds ++ _).length ≤ q2.at_ + 1; rw [List.length_append]; simp; omega)), hu⟩, Nat.lt_succ_self f, by4, (Vs _ (Vs _ (Vs _ (Vu _ (Vy (Vw _) (Vy (Vw _) (Vy (Vw _) (Vy (Vw _) (Vy (Ub by10) (Vx _)))))) (Vv rfl)))))⟩
    | exact ⟨(q5, f, ms ++ [Me.mk nt (Ty.mk yk ys yn yl) na], ds, u56, v), ⟨l5, (fun e => by obtain ⟨⟨_, h5⟩, _, h6⟩ := hpr e; rw [h5]; refine ⟨?_, ?_⟩; (show L.length - (q2.at_ + 1) < f; omega); (show (ms ++ _).length + ds.length ≤ q2.at_ + 1; rw [List.length_append]; simp; omega)), hu⟩, Nat.lt_succ_self f, by4, (Vs _ (Vs _ (Vs _ (Vu _ (Vy (Vw _) (Vy (Vw _) (Vy (Vw _) (Vy (Ub (by rw [Me.cellss_app']; rfl)) (Vy (Vw _) (Vx _)))))) (Vv rfl)))))⟩
theorem class_c (b : Nat) (L : List Tok) (hL : L.length ≤ 100000) (p : PS) (k : POk L 302 p) : MCall Tryz.prog 53 [.ptr b 0] (.loc b (psC L p)) (.agg (classP L p).1.cells) (.loc b (psC L (classP L p).2)) := class_b b L hL p k _ rfl
theorem Le.own_less {u : Value} {m : Nat} {es es' : List (List AV)} (h : Less es es') : Le (.own u m es) (.own u m es') := fun F x k => by
 cases k with | own _ k => exact .own _ (Le.seq h _ _ k)
theorem Less.snoc {a b : List AV} (h : Les a b) (hl : a.length = b.length) : ∀ es : List (List AV), Less (es ++ [a]) (es ++ [b])
 | [] => .cons h hl .nil
 | _ :: es => .cons (Vx _) rfl (Less.snoc h hl es)
theorem preds_snoc {u : Value} (acc : List Pr) (ct vt : ByteArray) : Le (.own u 5 (Pr.cellss acc ++ [[.val (.string ct), .val (.int .i64 1), .val (.string vt), .val (.int .i64 0), .val (.slice none 0 0)]])) (.own u 5 (Pr.cellss (acc ++ [Pr.mk ct (Ty.mk 1 vt 0 [])]))) := by
 rw [show Pr.cellss (acc ++ [Pr.mk ct (Ty.mk 1 vt 0 [])]) = Pr.cellss acc ++ [[.val (.string ct), .val (.int .i64 1), .val (.string vt), .val (.int .i64 0), .seq 4 []]] by simp [Pr.cellss, Pr.cells, Ty.cells, Ty.cellss]]
 exact Le.own_less (Less.snoc (Vy (Vw _) (Vy (Vw _) (Vy (Vw _) (Vy (Vw _) (Vy (Le.nil _) (Vx _)))))) J _)
theorem ctxL_err {L : List Tok} {f : Nat} {p : PS} {acc : List Pr} (h : p.e ≠ 0) : ctxL L f p acc = (acc, p) := by
 cases f with
 | zero => rfl
 | succ f => rw [ctxL, if_pos h]
theorem insL_err {L : List Tok} {f : Nat} {p : PS} {bs : List Bi} (h : p.e ≠ 0) : insL L f p bs = (bs, p) := by
 cases f with
 | zero => rfl
 | succ f => rw [insL, if_pos h]
theorem insL_end {L : List Tok} {f : Nat} {p : PS} {bs : List Bi} (h : p.e = 0) (h2 : isP L p kEnd = true) : insL L (f + 1) p bs = (bs, stepP p) := by rw [insL, if_neg (by rw [h]; simp), if_pos h2]
abbrev zIn : List AV := [.val (.string kE), .val (.int .i64 0), .val (.string kE), .val (.int .i64 0), .val (.slice none 0 0), .val (.slice none 0 0), .val (.slice none 0 0), .val (.int .i64 0)]
set_option maxHeartbeats 4000000 in
set_option maxRecDepth 100000 in
theorem inst_b (b : Nat) (L : List Tok) (hL : L.length ≤ 100000) (p : PS) (k : POk L 302 p) (c18 : Bool) (h3 : isP L (atypeG L (typeP L) (takeP L p 2 kE).2).2 kFrom = c18) : MCall Tryz.prog 54 [.ptr b 0] (.loc b (psC L p)) (.agg (instP L p).1.cells) (.loc b (psC L (instP L p).2)) := by
 have H1 := take_c b L hL p k.1 2 kE
 have k1 := (Yn (kind := 2) (s := kE) (by decide) k).ok k
 obtain ⟨r, hr⟩ : ∃ r, instP L p = r := ⟨_, rfl⟩
 rw [hr]
 unfold instP at hr
 simp only [] at hr
 obtain ⟨⟨⟨tk, tt, tn, ta⟩, p1⟩, e1⟩ : ∃ r, takeP L p 2 kE = r := ⟨_, rfl⟩
 rw [e1] at H1 k1 hr h3
 simp only [Tok.av] at H1 k1 hr h3
 have H2 := atype_c b L hL 302 (typeP L) (Type_c b L hL 302) typeP_adv' p1 k1
 have k2 := (atype_adv typeP_adv' k1).ok k1
 obtain ⟨⟨⟨hk, hs, hn, hl⟩, p2⟩, e2⟩ : ∃ r, atypeG L (typeP L) p1 = r := ⟨_, rfl⟩
 rw [e2] at H2 k2 hr h3
 simp only [Ty.cells] at H2 k2 hr h3
 have HM := may_eq (b := b) hL h3
 have k3 := (ctx_adv k2).ok k2
 obtain ⟨⟨cxs, p3⟩, e3⟩ : ∃ r, ctxP L p2 = r := ⟨_, rfl⟩
 rw [e3] at k3 hr
 simp only [] at k3 hr
 have e3 : (if c18 = true then ctxL L (L.length + 1) (stepP p2) [] else ([], p2)) = (cxs, p3) := by rw [← e3, ctxP, h3]
 have H4 := take_c b L hL p3 k3.1 6 kWhere
 have k4 := (Yn (kind := 6) (s := kWhere) (by decide) k3).ok k3
 obtain ⟨⟨u4, p4⟩, e4⟩ : ∃ r, takeP L p3 6 kWhere = r := ⟨_, rfl⟩
 rw [e4] at H4 k4 hr
 simp only [] at H4 k4 hr
 obtain ⟨⟨bl, p5⟩, e5⟩ : ∃ r, insL L (L.length + 1) p4 [] = r := ⟨_, rfl⟩
 rw [e5] at hr
 simp only [] at hr
 refine Zw Tryz.func54 J (by kernel_rfl) J (Uc J) ?_
 refine Ye (Zg (Zc (Za 2 J J J (Zy (cs' := [_, _, _, _, _, _, _, _]) J tz_73 J J ?_)))); intro b2
 refine Vp (Zb (Zg (Zc (Za 8 J J J (Zd J J (Za 9 J J J (Yg (xs := [.tmp 8, .const (.int .i64 2), .const (.string ⟨#[]⟩)]) (i := 1) J J J (H1) by1 ?_)))))))
 refine Za 3 J J J (Zy (cs' := [_, _, _, _]) J Wf J J ?_); intro b3
 refine Zs J J (Zo (cs' := [_, _, _, _]) (i := 0) J Xk J J J J J (Uc J) J (Vp (Zb (Zg (c_drawnEF [0, 1, 2, 4, 5, 3, 6, 7, 8] [3, 7, 8] [[], [0], [], [2], [], [4], [0, 1, 2, 3, 4, 5], [], [0, 1, 2, 3, 4, 5, 6, 7]] 7 (cs0 := [_, _, _, _, _, _, _, _]) Wr J J J J tz_73 J J (EOpsF.d 10 (none) (i := 0) J J J J J J (Zh J Xh J ⟨J, J⟩) ?_))))))
 refine EOpsF.d 11 (some 0) (i := 1) J J J J J J (Zq (i := 0) J Yz J J J ⟨J, J⟩) ?_
 refine EOpsF.d 12 (none) (i := 2) J J J J J J (Zd J J ⟨J, J⟩) ?_
 refine EOpsF.d 14 (none) (i := 4) J J J J J J (Zh J Wt J ⟨J, J⟩) ?_
 refine EOpsF.d 15 (some 0) (i := 5) J J J J J J (Zq (i := 0) J Xb J J J ⟨J, J⟩) ?_
 refine EOpsF.w 2 (i := 3) J J J J J J (Yg (xs := [.tmp 12]) (i := 0) J J J (H2) by1 ⟨_, J, ?_⟩)
 refine EOpsF.d 16 (none) (i := 6) J J J J J J (Ym (ns := [0, 1, 4]) (xs := [.tmp 11, .tmp 13, .tmp 15]) J tz_73 J tfl_73 J J J J ⟨J, J⟩) ?_
 refine EOpsF.free (i := 7) J J J ?_; intro b4
 refine EOpsF.w 3 (i := 8) J J J J J J (Zo (cs' := [_, _, _, _, _, _, _, _]) (i := 0) J ts_73 J J J J J (Uc J) J ⟨_, J, ?_⟩)
 show AGo _ _ _ _ _ _ _
 refine Zb (Zg (Zg (Zc (Za 17 J J J (Zd J J (Za 18 J J J (Yg (xs := [.tmp 17, .const (.string ⟨#[102, 114, 111, 109]⟩)]) (i := 2) J J J (HM) by1 ?_)))))))
 refine Vp (Zb ?_)
 apply c_joink [1, 3, 5, 6, 7, 8, 9, 10, 11, 12, 13, 14, 15, 16, 17, 18, 19, 20, 21, 22, 23, 24, 25, 26, 27, 28, 29, 30, 31, 32, 33, 34, 35, 36, 37, 38, 39, 40, 41, 42, 43, 45, 57, 66] (σ := Unit) (fun zz => match zz with | z => []) (fun zz => match zz with | z => [.loc b3 (Tok.mk tk tt tn ta).av, .loc b2 zIn, .loc b (psC L p3), .loc b4 [.val (.string tt), .val (.int .i64 hk), .val (.string hs), .val (.int .i64 hn), .seq 4 (Ty.cellss hl), .seq 5 (Pr.cellss cxs), .val (.slice none 0 0), .val (.int .i64 ta)]]) (fun zz => match zz with | z => True)
 ·repeat' (first | exact Uf | apply Ud rfl | apply Ue rfl)
 ·skip
  rcases c18 with _ | _
  ·refine Zr J (Zv (Xa ?_))
   first
   | (rw [if_neg (by decide)] at e3; cases e3; exact ⟨(), trivial, by4, (Vs _ (Vs _ (Vs _ (Vu _ by0 (MLe.nil)))))⟩)
   | (have hu2 : (acc, q) = (cxs, p3) := by
       cases mo with
       | false => exact hu
       | true => rw [if_pos rfl, ctxL_err (fun e => g26 ⟨rfl, e⟩)] at hu; exact hu
      simp only [Prod.mk.injEq] at hu2
      obtain ⟨rfl, rfl⟩ := hu2
      exact ⟨(), trivial, by4, (Vs _ (Vs _ (Vs _ (Vu _ by0 (Vt _ (MLe.nil))))))⟩)
  ·refine Zt J (Zg ?_)
   rw [if_pos rfl] at e3
   have kA := (Xo k2 h3).ok k2
   refine Zc (Za 5 J J J (Ze J J (Vp (Zb (Zz (We 27 5 ?_))))))
   apply Wg [1, 3, 5, 6, 7, 8, 9, 10, 11, 12, 13, 14, 15, 16, 17, 18, 19, 20, 21, 22, 23, 24, 25, 26, 27, 28, 29, 30, 31, 32, 33, 34, 35, 36, 37, 38, 39, 40, 41, 42, 43, 45, 57, 66] (σ := PS × Nat × List Pr × Value × Bool) (fun zz => match zz with | (q, f, acc, u, mo) => [(5, .val (.bool mo))]) (fun zz => match zz with | (q, f, acc, u, mo) => [.loc b3 (Tok.mk tk tt tn ta).av, .loc b2 zIn, .loc b (psC L q), .loc b4 [.val (.string tt), .val (.int .i64 hk), .val (.string hs), .val (.int .i64 hn), .seq 4 (Ty.cellss hl), .own u 5 (Pr.cellss acc), .val (.slice none 0 0), .val (.int .i64 ta)], .own 27 5 u]) (fun zz => match zz with | (q, f, acc, u, mo) => POk L 302 q ∧ L.length - q.at_ < f ∧ (mo = true → acc.length ≤ q.at_) ∧ (if mo = true then ctxL L f q acc else (acc, q)) = (cxs, p3)) (fun zz => match zz with | (q, f, acc, u, mo) => 2 * f + (if mo = true then 1 else 0)) ((stepP p2, L.length + 1, [], .slice none 0 0, true))
   ·repeat' (first | exact Uf | apply Ud rfl | apply Ue rfl)
   ·exact ⟨kA, by omega, fun _ => Nat.zero_le _, e3⟩
   ·exact by4
   ·exact (Vs _ (Vs _ (Vs _ (Vu _ (Vy (Vw _) (Vy (Vw _) (Vy (Vw _) (Vy (Vw _) (Vy (Vw _) (Vy (Le.nilOwn 5) (Vx _))))))) (Vq _)))))
   rintro ⟨q, f, acc, u, mo⟩ hI
   try dsimp only [List.cons_append, List.nil_append] at hI ⊢
   obtain ⟨i1, i2, i3, hu⟩ := hI
   have hq1 := i1.1
   refine Zg (Zg (Xm 26 (mo = true ∧ q.e = 0) ?_ _ _ J ?_))
   ·skip
    refine Za 19 J J J (Zd J J (Za 20 J J J (Zd J J ?_)))
    have h20 : (mo = true ↔ mo = true) := Iff.rfl
    rcases Zi h20 with ⟨rfl, g20⟩ | ⟨rfl, g20⟩
    ·skip
     refine Zk 21 J J J J J (Zk 22 J J J J J (Zk 23 J J J J J (Zk 24 J J J J J (Zk 25 J J J J J (Za 26 J J J (Zn J J J ?_))))))
     refine Vp (Ua J ?_ by5 by3)
     simp_all; done
    ·skip
     refine Zl 21 J J J J J (Zd J J (Zl 22 J J J J J (Yj J J (Zl 23 J J J J J (Zh J Vl J (Zl 24 J J J J J (Zq (i := 2) J Xb J J J (Zl 25 J J J J J (Yr J J J ?_))))))))); intro c25 h25
     refine Za 26 J J J (Zn J J J (Vp (Ua J ?_ by5 by3)))
     simp_all; done
   intro c26 h26
   refine Zb ?_
   rcases Zi h26 with ⟨rfl, g26⟩ | ⟨rfl, g26⟩
   ·refine Zr J (Xc (Xd (Xv (Xe (Xa ?_)))))
    first
    | (rw [if_neg (by decide)] at e3; cases e3; exact ⟨(), trivial, by4, (Vs _ (Vs _ (Vs _ (Vu _ by0 (MLe.nil)))))⟩)
    | (have hu2 : (acc, q) = (cxs, p3) := by
        cases mo with
        | false => exact hu
        | true => rw [if_pos rfl, ctxL_err (fun e => g26 ⟨rfl, e⟩)] at hu; exact hu
       simp only [Prod.mk.injEq] at hu2
       obtain ⟨rfl, rfl⟩ := hu2
       exact ⟨(), trivial, by4, (Vs _ (Vs _ (Vs _ (Vu _ by0 (Vt _ (MLe.nil))))))⟩)
   ·refine Zt J (Zv (Zb (Zz (Zg ?_))))
    obtain ⟨rfl, hq0⟩ := g26
    have i3 := i3 rfl
    have hle : (Pr.cellss acc).length ≤ 200000 := by rw [Pr.cellss_len]; omega
    rw [if_pos rfl] at hu
    obtain ⟨f, rfl⟩ : ∃ f', f = f' + 1 := ⟨f - 1, by omega⟩
    rw [ctxL, if_neg (by rw [hq0]; simp)] at hu
    have HP := take_c b L hL q i1.1 2 kE
    have l1 := (Yn (kind := 2) (s := kE) (by decide) i1).ok i1
    have b1 := (Yn (L := L) (kind := 2) (s := kE) (by decide) i1).1
    obtain ⟨z, hz⟩ : ∃ z, predP L q = z := ⟨_, rfl⟩
    rw [hz] at hu
    unfold predP at hz
    obtain ⟨⟨⟨ck, ct, cn, ca⟩, q1⟩, f1⟩ : ∃ r, takeP L q 2 kE = r := ⟨_, rfl⟩
    rw [f1] at HP hz l1 b1
    simp only [Tok.av] at HP hz l1 b1
    have HV := take_c b L hL q1 l1.1 1 kE
    have l2 := (Yn (kind := 1) (s := kE) (by decide) l1).ok l1
    have b2' := (Yn (L := L) (kind := 1) (s := kE) (by decide) l1).1
    obtain ⟨⟨⟨vk, vt, vn, va⟩, q2⟩, f2⟩ : ∃ r, takeP L q1 1 kE = r := ⟨_, rfl⟩
    rw [f2] at HV l2 b2' hz
    simp only [Tok.av] at HV l2 b2' hz
    subst hz
    simp only [] at hu
    have l2a := l2.1
    refine Zc (Za 27 J J J (Zd J J (Za 28 J J J (Yg (xs := [.tmp 27, .const (.int .i64 2), .const (.string ⟨#[]⟩)]) (i := 2) J J J (HP) by1 ?_))))
    refine Za 29 J J J (Wy (ft := 9) (fo := 1) J (by kernel_rfl) Yz J J ?_)
    refine Za 6 J J J (Ze J J (Vp (Zb (Zg (Zc (Za 30 J J J (Zd J J (Za 31 J J J (Yg (xs := [.tmp 30, .const (.int .i64 1), .const (.string ⟨#[]⟩)]) (i := 2) J J J (HV) by1 ?_)))))))))
    refine Za 32 J J J (Wy (ft := 9) (fo := 1) J (by kernel_rfl) Yz J J ?_)
    refine Za 7 J J J (Ze J J (Vp (Zb (Zg (Zc (Za 33 J J J (Zh J tf_73_2 J (Za 34 J J J (Zq (i := 3) J ta_22 J J J (Za 35 J J J (Zd J J (Za 36 J J J (Zd J J ?_)))))))))))))
    refine Za 37 J J J (Ym (ns := [0, 1]) (xs := [.const (.int .i64 1), .tmp 36]) J tz_25 J tfl_25 J J J J (Za 38 J J J (Ym (ns := [0, 1]) (xs := [.tmp 35, .tmp 37]) J tz_27 J tfl_27 J J J J (Za 39 J J J (Yi (xs := [.tmp 38]) el_22 J J J J J J (Uc J) (Za 40 J J J (Xj (i := 4) el_22 J J J J (.seq _ _) by6 ?_)))))))
    intro u40
    refine Za 41 J J J (Zh J tf_73_2 J (Zs J J (Zo (cs' := [_, _, _, _, _, _, _, _]) (i := 3) J ts_22 J J J J J (Uc J) J (Vp (Zb (Zc (Za 42 J J J (Zd J J (Za 43 J J J (op_mayc (xs := [.tmp 42, .const (.string ⟨#[44]⟩)]) (i := 2) J J J (may_c b L hL q2 kComma) by1 ?_ ?_))))))))))
    ·intro g43
     refine Za 5 J J J (Ze J J (Vp (Yv (Xa ?_))))
     first
     | (rw [if_pos g43] at hu; have l4 := (Xo l2 g43).ok l2; have l5 := (is_lt g43).2; exact ⟨(stepP q2, f, acc ++ [Pr.mk ct (Ty.mk 1 vt 0 [])], u40, true), ⟨l4, (by show L.length - (q2.at_ + 1) < f; omega), (fun _ => by show (acc ++ _).length ≤ q2.at_ + 1; rw [List.length_append]; simp; omega), hu⟩, (by show 2 * f + 1 < 2 * (f + 1) + 1; omega), Vz rfl (Vw _) by4, (Vs _ (Vs _ (Vs _ (Vu _ (Vy (Vw _) (Vy (Vw _) (Vy (Vw _) (Vy (Vw _) (Vy (Vw _) (Vy (preds_snoc acc ct vt) (Vx _))))))) (Vv rfl)))))⟩)
     | (rw [if_neg g43] at hu; exact ⟨(q2, f + 1, acc ++ [Pr.mk ct (Ty.mk 1 vt 0 [])], u40, false), ⟨l2, (by show L.length - q2.at_ < f + 1; omega), (fun h => by cases h), hu⟩, (by show 2 * (f + 1) + 0 < 2 * (f + 1) + 1; omega), Vz rfl (Vw _) by4, (Vs _ (Vs _ (Vs _ (Vu _ (Vy (Vw _) (Vy (Vw _) (Vy (Vw _) (Vy (Vw _) (Vy (Vw _) (Vy (preds_snoc acc ct vt) (Vx _))))))) (Vv rfl)))))⟩)
    ·intro g43
     refine Za 5 J J J (Ze J J (Vp (Yv (Xa ?_))))
     first
     | (rw [if_pos g43] at hu; have l4 := (Xo l2 g43).ok l2; have l5 := (is_lt g43).2; exact ⟨(stepP q2, f, acc ++ [Pr.mk ct (Ty.mk 1 vt 0 [])], u40, true), ⟨l4, (by show L.length - (q2.at_ + 1) < f; omega), (fun _ => by show (acc ++ _).length ≤ q2.at_ + 1; rw [List.length_append]; simp; omega), hu⟩, (by show 2 * f + 1 < 2 * (f + 1) + 1; omega), Vz rfl (Vw _) by4, (Vs _ (Vs _ (Vs _ (Vu _ (Vy (Vw _) (Vy (Vw _) (Vy (Vw _) (Vy (Vw _) (Vy (Vw _) (Vy (preds_snoc acc ct vt) (Vx _))))))) (Vv rfl)))))⟩)
     | (rw [if_neg g43] at hu; exact ⟨(q2, f + 1, acc ++ [Pr.mk ct (Ty.mk 1 vt 0 [])], u40, false), ⟨l2, (by show L.length - q2.at_ < f + 1; omega), (fun h => by cases h), hu⟩, (by show 2 * (f + 1) + 0 < 2 * (f + 1) + 1; omega), Vz rfl (Vw _) by4, (Vs _ (Vs _ (Vs _ (Vu _ (Vy (Vw _) (Vy (Vw _) (Vy (Vw _) (Vy (Vw _) (Vy (Vw _) (Vy (preds_snoc acc ct vt) (Vx _))))))) (Vv rfl)))))⟩)
 rintro z hI
 try dsimp only [List.cons_append, List.nil_append] at hI ⊢
 refine Zb (Zg (Zc (Za 44 J J J (Zd J J (Za 45 J J J (Yg (xs := [.tmp 44, .const (.int .i64 6), .const (.string ⟨#[119, 104, 101, 114, 101]⟩)]) (i := 2) J J J (H4) by1 ?_))))))
 refine Vp (Zb (Zg (Zz (We 112 13 ?_))))
 apply Wg [1, 3, 5, 6, 7, 8, 9, 10, 11, 12, 13, 14, 15, 16, 17, 18, 19, 20, 21, 22, 23, 24, 25, 26, 27, 28, 29, 30, 31, 32, 33, 34, 35, 36, 37, 38, 39, 40, 41, 42, 43, 44, 45, 46, 47, 48, 49, 50, 51, 52, 53, 54, 55, 56, 57, 58, 59, 60, 61, 62, 63, 64, 65, 66] (σ := PS × Nat × List Bi × Value) (fun zz => match zz with | (q, f, bs, v) => []) (fun zz => match zz with | (q, f, bs, v) => [.loc b3 (Tok.mk tk tt tn ta).av, .loc b2 zIn, .loc b (psC L q), .loc b4 [.val (.string tt), .val (.int .i64 hk), .val (.string hs), .val (.int .i64 hn), .seq 4 (Ty.cellss hl), .seq 5 (Pr.cellss cxs), .own v 13 (Bi.cellss bs), .val (.int .i64 ta)], .own 112 13 v]) (fun zz => match zz with | (q, f, bs, v) => POk L 302 q ∧ (q.e = 0 → L.length - q.at_ < f ∧ bs.length ≤ q.at_) ∧ insL L f q bs = (bl, p5)) (fun zz => match zz with | (q, f, bs, v) => f) ((p4, L.length + 1, [], .slice none 0 0))
 ·repeat' (first | exact Uf | apply Ud rfl | apply Ue rfl)
 ·exact ⟨k4, fun _ => ⟨by omega, Nat.zero_le _⟩, e5⟩
 ·exact by4
 ·exact (Vs _ (Vs _ (Vs _ (Vu _ (Vy (Vw _) (Vy (Vw _) (Vy (Vw _) (Vy (Vw _) (Vy (Vw _) (Vy (Vw _) (Vy (Le.nilOwn 13) (Vx _)))))))) (Vq _)))))
 rintro ⟨q, f, bs, v⟩ hI
 try dsimp only [List.cons_append, List.nil_append] at hI ⊢
 obtain ⟨i1, i2, hu⟩ := hI
 have hq1 := i1.1
 refine Zg (Zg (Zc (Za 46 J J J (Zd J J (Za 47 J J J (Yj J J (Za 48 J J J (Zh J Vl J (Za 49 J J J (Zq (i := 2) J Xb J J J (Za 50 J J J (Yr J J J ?_)))))))))))); intro c50 h50
 refine Za 51 J J J (Zd J J ?_)
 rcases Zi h50 with ⟨rfl, g50⟩ | ⟨rfl, g50⟩
 ·skip
  refine Zk 52 J J J J J (Zk 53 J J J J J (Zk 54 J J J J J (Za 55 J J J (Zn J J J (Vp (Zb (Zr J ?_)))))))
  refine Xc (Xd (Xv (Xe (Zb (Zg (Zc (Za 67 J J J (Zx (cs' := [_, _, _, _, _, _, _, _]) (i := 3) J ta_73 J J J J (Zs J J (Zo (cs' := [_, _, _, _, _, _, _, _]) (i := 1) J ts_73 J J J J J (Uc J) J (Vp (Zb (Ya ?_)))))))))))))
  first
  | (rw [insL_err g50] at hu; cases hu; subst hr; exact Yl (i := 1) rfl rfl rfl ta_73 rfl by0 (Vt _ (Vt _ (Vs _ (Vr _)))) ⟨rfl, rfl⟩)
  | (obtain ⟨f, rfl⟩ : ∃ f', f = f' + 1 := ⟨f - 1, by have := (i2 g50).1; omega⟩; rw [insL_end g50 g53] at hu; cases hu; subst hr; exact Yl (i := 1) rfl rfl rfl ta_73 rfl by0 (Vt _ (Vt _ (Vs _ (Vr _)))) ⟨rfl, rfl⟩)
 ·skip
  refine Zl 52 J J J J J (Zd J J (Zl 53 J J J J J (op_mayc (xs := [.tmp 52, .const (.string ⟨#[101, 110, 100]⟩)]) (i := 2) J J J (may_c b L hL q kEnd) by1 ?_ ?_)))
  ·intro g53
   refine Zl 54 J J J J J (Xt J J ?_); intro c54 h54
   try replace h54 := nott h54 h53
   obtain rfl : c54 = false := by
    cases c54 with
    | false => rfl
    | true => exact absurd (h54.1 rfl) (by decide)
   refine Za 55 J J J (Zn J J J (Vp (Zb (Zr J (Xc (Xd (Xv (Xe (Zb (Zg (Zc (Za 67 J J J (Zx (cs' := [_, _, _, _, _, _, _, _]) (i := 3) J ta_73 J J J J ?_)))))))))))))
   refine Zs J J (Zo (cs' := [_, _, _, _, _, _, _, _]) (i := 1) J ts_73 J J J J J (Uc J) J (Vp (Zb (Ya ?_))))
   first
   | (rw [insL_err g50] at hu; cases hu; subst hr; exact Yl (i := 1) rfl rfl rfl ta_73 rfl by0 (Vt _ (Vt _ (Vs _ (Vr _)))) ⟨rfl, rfl⟩)
   | (obtain ⟨f, rfl⟩ : ∃ f', f = f' + 1 := ⟨f - 1, by have := (i2 g50).1; omega⟩; rw [insL_end g50 g53] at hu; cases hu; subst hr; exact Yl (i := 1) rfl rfl rfl ta_73 rfl by0 (Vt _ (Vt _ (Vs _ (Vr _)))) ⟨rfl, rfl⟩)
  ·intro g53
   refine Zl 54 J J J J J (Xt J J ?_); intro c54 h54
   try replace h54 := nott h54 h53
   obtain rfl : c54 = true := h54.2 rfl
   refine Za 55 J J J (Zn J J J (Vp (Zb (Zt J (Zv (Zb (Zz (Zg ?_))))))))
   obtain ⟨i3, i4⟩ := i2 g50
   have hl2 : (Bi.cellss bs).length ≤ 200000 := by rw [Bi.cellss_len]; omega
   obtain ⟨f, rfl⟩ : ∃ f', f = f' + 1 := ⟨f - 1, by omega⟩
   rw [insL, if_neg (by rw [g50]; simp), if_neg g53] at hu
   have HD := take_c b L hL q hq1 6 kDef
   have l1 := (Yn (kind := 6) (s := kDef) (by decide) i1).ok i1
   have b1 := (Yn (L := L) (kind := 6) (s := kDef) (by decide) i1).1
   obtain ⟨⟨u7, q1⟩, f1⟩ : ∃ r, takeP L q 6 kDef = r := ⟨_, rfl⟩
   rw [f1] at HD l1 b1 hu
   simp only [] at HD l1 b1 hu
   have HB := bindP_c b L hL q1 l1
   have l2 := (bindP_adv l1).ok l1
   have b2' := (bindP_adv l1).1
   obtain ⟨⟨⟨bn, ⟨xk, xs, xn, ⟨xtk, xts, xtn, xtl⟩, xks, xal, xbs, xp⟩, bp⟩, q2⟩, f2⟩ : ∃ r, bindP L q1 = r := ⟨_, rfl⟩
   rw [f2] at HB l2 b2' hu
   simp only [Bi.cells, Ex.cells, Ty.cells, List.cons_append, List.nil_append] at HB l2 b2' hu
   have HS := take_c b L hL q2 l2.1 7 kSemi
   have hpr := take_prog (L := L) (p := q2) (kind := 7) (s := kSemi) (by decide)
   have l5 := (Yn (kind := 7) (s := kSemi) (by decide) l2).ok l2
   obtain ⟨⟨u6, q5⟩, f5⟩ : ∃ r, takeP L q2 7 kSemi = r := ⟨_, rfl⟩
   rw [f5] at HS hpr l5 hu
   simp only [Prod.mk.injEq] at HS hpr l5 hu
   refine Zc (Za 56 J J J (Zd J J (Za 57 J J J (Yg (xs := [.tmp 56, .const (.int .i64 6), .const (.string ⟨#[100, 101, 102]⟩)]) (i := 2) J J J (HD) by1 ?_))))
   refine Vp (Zb (Zg (Xw [0, 1, 2, 3, 4, 5, 6, 7] [3, 5, 7] [[], [0], [], [2], [2, 3], [0, 1, 2, 3, 4], [0, 1, 2, 3, 4, 5], [0, 1, 2, 3, 4, 5, 6]] Wr J (Yb 58 (none) (i := 0) J J J J J (Zh J tf_73_3 J ⟨J, J⟩) ?_))))
   refine Yb 59 (some 3) (i := 1) J J J J J (Zq (i := 0) J ta_53 J J J ⟨J, J⟩) ?_
   refine Yb 60 (none) (i := 2) J J J J J (Zd J J ⟨J, J⟩) ?_
   refine Xn 2 (i := 3) J J J J J (Yg (xs := [.tmp 60]) (i := 0) J J J (HB) by1 ⟨_, J, ?_⟩)
   refine Yb 62 (none) (i := 4) J J J J J (Yi (xs := [.tmp 61]) el_53 J J J J J J (Uc J) ⟨J, J⟩) ?_
   refine Xn 4 (i := 5) J J J J J (Xj (i := 0) el_53 J J J J (.seq _ _) by6 (fun u63 => ⟨_, J, ?_⟩))
   refine Yb 64 (none) (i := 6) J J J J J (Zh J tf_73_3 J ⟨J, J⟩) ?_
   refine Xn 3 (i := 7) J J J J J (Zo (cs' := [_, _, _, _, _, _, _, _]) (i := 0) J ts_53 J J J J J (Uc J) J ⟨_, J, ?_⟩)
   show AGo _ _ _ _ _ _ _
   refine Zb (Zc (Za 65 J J J (Zd J J (Za 66 J J J (Yg (xs := [.tmp 65, .const (.int .i64 7), .const (.string ⟨#[59]⟩)]) (i := 2) J J J (HS) by1 ?_)))))
   refine Vp (Yv (Xa ?_))
   exact ⟨(q5, f, bs ++ [Bi.mk bn (Ex.mk xk xs xn (Ty.mk xtk xts xtn xtl) xks xal xbs xp) bp], u63), ⟨l5, (fun e => by obtain ⟨⟨_, h5⟩, _, h6⟩ := hpr e; rw [h5]; refine ⟨?_, ?_⟩; (show L.length - (q2.at_ + 1) < f; omega); (show (bs ++ _).length ≤ q2.at_ + 1; rw [List.length_append]; simp; omega)), hu⟩, Nat.lt_succ_self f, by4, (Vs _ (Vs _ (Vs _ (Vu _ (Vy (Vw _) (Vy (Vw _) (Vy (Vw _) (Vy (Vw _) (Vy (Vw _) (Vy (Vw _) (Vy (Ub by10) (Vx _)))))))) (Vv rfl)))))⟩
theorem inst_c (b : Nat) (L : List Tok) (hL : L.length ≤ 100000) (p : PS) (k : POk L 302 p) : MCall Tryz.prog 54 [.ptr b 0] (.loc b (psC L p)) (.agg (instP L p).1.cells) (.loc b (psC L (instP L p).2)) := inst_b b L hL p k _ rfl
set_option maxHeartbeats 4000000 in
set_option maxRecDepth 100000 in
theorem begin_c (s : ByteArray) : ACall Tryz.prog 49 [.val (.string s)] [] (fun v M' => ∃ b, v = .ptr b 0 ∧ M' = [.loc b (psC (scanT s).1 (beginP (scanT s)))]) := by
 have HS := Scan_c s
 obtain ⟨⟨L, e, w⟩, hs⟩ : ∃ r, scanT s = r := ⟨_, rfl⟩
 rw [hs] at HS ⊢
 have HF := fun b => fail_c b L ⟨0, 0, 0, 0⟩ e w
 unfold beginP
 simp only [scanR] at HS ⊢
 refine Zw Tryz.func49 J (by kernel_rfl) J (Uc J) ?_
 refine Ye (Zg (Zc (Za 2 J J J (Ze J J (Vp (Zb (Zg (Zc (Za 8 J J J (Zd J J (Za 9 J J J (Yp (xs := [.tmp 8]) J J (HS) by1 ?_))))))))))))
 refine Za 7 J J J (Zd J J (Za 10 J J J (Ys J J J (Za 11 J J J (Ys J J J (Za 12 J J J (Ys J J J (Za 3 J J J (Ze J J (Za 4 J J J (Ze J J ?_)))))))))))
 refine Za 5 J J J (Ze J J (Vp (Zb (Zg (Zc (Za 13 J J J (Zd J J (Za 14 J J J (Ym (ns := [0]) (xs := [.tmp 13]) J tz_95 J tfl_95 J J J J (Za 15 J J J (op_boxe (cs' := [_, _, _, _, _]) J J J J ?_))))))))))); intro b15
 refine Za 6 J J J (Ze J J (Vp (Zb (Zg (Zg (Zc (Za 16 J J J (Zd J J (Za 17 J J J (Xq J J J ?_)))))))))); intro c17 h17
 refine Vp (Zb ?_)
 rcases Zi h17 with ⟨rfl, g17⟩ | ⟨rfl, g17⟩
 ·refine Zr J (Zv (Zb (Zg (Zc (Za 22 J J J (Zd J J (Za 2 J J J (Ze J J (Vp (Zb (Ya ?_)))))))))))
  first
  | (rw [if_pos g17]; exact Yh rfl rfl (Vw _) (Vv rfl) ⟨b15, rfl, rfl⟩)
  | (rw [if_neg g17]; exact Yh rfl rfl (Vw _) (Vv rfl) ⟨b15, rfl, rfl⟩)
 ·refine Zt J (Zc (Za 18 J J J (Zd J J (Za 19 J J J (Zd J J (Za 20 J J J (Zd J J (Za 21 J J J (Yg (xs := [.tmp 18, .tmp 19, .tmp 20]) (i := 0) J J J (HF b15) by1 ?_)))))))))
  refine Vp (Zb (Zg (Zc (Za 22 J J J (Zd J J (Za 2 J J J (Ze J J (Vp (Zb (Ya ?_))))))))))
  first
  | (rw [if_pos g17]; exact Yh rfl rfl (Vw _) (Vv rfl) ⟨b15, rfl, rfl⟩)
  | (rw [if_neg g17]; exact Yh rfl rfl (Vw _) (Vv rfl) ⟨b15, rfl, rfl⟩)
theorem progL_end {L : List Tok} {f : Nat} {p : PS} {x : Pg} (h : p.e ≠ 0 ∨ (nxt L p).k = 0) : progL L f p x = (x, p) := by
 cases f with
 | zero => rfl
 | succ f => rw [progL, if_pos h]
theorem Da.cellss_app' (a b : List Da) : Da.cellss (a ++ b) = Da.cellss a ++ Da.cellss b := by simp [Da.cellss]
theorem Cl.cellss_app' (a b : List Cl) : Cl.cellss (a ++ b) = Cl.cellss a ++ Cl.cellss b := by simp [Cl.cellss]
theorem In.cellss_app' (a b : List In) : In.cellss (a ++ b) = In.cellss a ++ In.cellss b := by simp [In.cellss]
abbrev zPg : List AV := [.val (.slice none 0 0), .val (.slice none 0 0), .val (.slice none 0 0), .val (.slice none 0 0)]
def progR (o : Pg × Int × Int) : AV := .tup [.agg o.1.cells, .val (.int .i64 o.2.1), .val (.int .i64 o.2.2)]
theorem begin_ok (s : ByteArray) : POk (scanT s).1 302 (beginP (scanT s)) := by
 have h : ∀ e w, POk (scanT s).1 302 (failP ⟨0, 0, 0, 0⟩ e w) := fun e w => by
  unfold failP
  refine ⟨?_, ?_, ?_, fun _ => ⟨?_, ?_⟩⟩ <;> simp
 unfold beginP
 split
 ·exact h _ _
 ·refine ⟨?_, ?_, ?_, fun _ => ⟨?_, ?_⟩⟩ <;> simp
set_option maxHeartbeats 4000000 in
set_option maxRecDepth 100000 in
theorem Prog_c (s : ByteArray) : PCall Tryz.prog 24 [.val (.string s)] (progR (progT s)) := by
 have HB := begin_c s
 have hL := scanT_len s
 have k0 := begin_ok s
 obtain ⟨r, hr⟩ : ∃ r, progT s = r := ⟨_, rfl⟩
 rw [hr]
 unfold progT at hr
 simp only [] at hr
 obtain ⟨L, hLe⟩ : ∃ L, (scanT s).1 = L := ⟨_, rfl⟩
 obtain ⟨p0, hp0⟩ : ∃ p, beginP (scanT s) = p := ⟨_, rfl⟩
 rw [hLe, hp0] at HB k0 hr
 rw [hLe] at hL
 have hL : L.length ≤ 100000 := by omega
 obtain ⟨⟨⟨fd, fc, fi, fb⟩, p9⟩, e9⟩ : ∃ r, progL L (L.length + 1) p0 pg0 = r := ⟨_, rfl⟩
 rw [e9] at hr
 simp only [] at hr
 refine Zw Tryz.func24 J (by kernel_rfl) J (Uc J) ?_
 refine Ye (Zg (Zc (Za 2 J J J (Zy (cs' := [_, _, _, _]) J tz_55 J J ?_)))); intro b2
 refine Za 3 J J J (Ze J J (Za 4 J J J (Ze J J (Vp (Zb (Zg (Zc (Za 7 J J J (Zd J J (Za 8 J J J (op_callat [] (xs := [.tmp 7]) J J J (HB) by1 ?_)))))))))))
 rintro v M' ⟨b, rfl, rfl⟩
 refine Za 5 J J J (Ze J J (Vp (Zb (Zg (Zc (Za 9 J J J (Ym (ns := []) (xs := []) J tz_55 J tfl_55 J J J J (Za 6 J J J (Zy (cs' := [_, _, _, _]) J tz_55 J J ?_))))))))); intro b6
 refine Zs J J (Zo (cs' := [_, _, _, _]) (i := 0) J ts_55 J J J J J (Uc J) J (Vp (Zb (Zg (Zz (We 102 5 (We 77 6 (We 73 8 (We 112 13 ?_)))))))))
 apply Wg [0, 1, 7, 8, 9, 10, 11, 12, 13, 14, 15, 16, 17, 18, 19, 20, 21, 22, 23, 24, 25, 26, 27, 28, 29, 30, 31, 32, 33, 34, 35, 36, 37, 38, 39, 40, 41, 42, 43, 44, 45, 46, 47, 48, 49, 50, 51, 52, 53, 54, 55, 56, 57, 58] (σ := PS × Nat × Pg × Value × Value × Value × Value) (fun zz => match zz with | (q, f, Pg.mk da cl ins bs, u1, u2, u3, u4) => []) (fun zz => match zz with | (q, f, Pg.mk da cl ins bs, u1, u2, u3, u4) => [.loc b6 [.own u1 5 (Da.cellss da), .own u2 6 (Cl.cellss cl), .own u3 8 (In.cellss ins), .own u4 13 (Bi.cellss bs)], .loc b (psC L q), .loc b2 zPg, .own 102 5 u1, .own 77 6 u2, .own 73 8 u3, .own 112 13 u4]) (fun zz => match zz with | (q, f, Pg.mk da cl ins bs, u1, u2, u3, u4) => POk L 302 q ∧ (q.e = 0 → L.length - q.at_ < f ∧ da.length + cl.length + ins.length + bs.length ≤ q.at_) ∧ progL L f q (Pg.mk da cl ins bs) = (Pg.mk fd fc fi fb, p9)) (fun zz => match zz with | (q, f, Pg.mk da cl ins bs, u1, u2, u3, u4) => f) ((p0, L.length + 1, Pg.mk [] [] [] [], .slice none 0 0, .slice none 0 0, .slice none 0 0, .slice none 0 0))
 ·repeat' (first | exact Uf | apply Ud rfl | apply Ue rfl)
 ·exact ⟨k0, fun _ => ⟨by omega, Nat.zero_le _⟩, e9⟩
 ·exact by4
 ·exact (Vu _ (Vy (Le.nilOwn 5) (Vy (Le.nilOwn 6) (Vy (Le.nilOwn 8) (Vy (Le.nilOwn 13) (Vx _))))) (Vv J))
 rintro ⟨q, f, ⟨da, cl, ins, bs⟩, u1, u2, u3, u4⟩ hI
 try dsimp only [List.cons_append, List.nil_append] at hI ⊢
 obtain ⟨i1, i2, hu⟩ := hI
 have hq1 := i1.1
 have HN := next_c b L q
 have hend := fun h => progL_end (L := L) (f := f) (p := q) (x := Pg.mk da cl ins bs) h
 obtain ⟨⟨qk, qt, qn, qa⟩, hqt⟩ : ∃ t, nxt L q = t := ⟨_, rfl⟩
 have hgo : ∀ f x, q.e = 0 → qk ≠ 0 → progL L (f + 1) q x = progL L f (takeP L (declP L q x).2 7 kSemi).2 (declP L q x).1 := fun f x h1 h2 => by
  rw [progL, hqt, if_neg (fun h => by rcases h with h | h; exact h h1; exact h2 h)]
 rw [hqt] at HN hend
 simp only [Tok.av] at HN hend
 refine Zg (Zg (Xm 20 (q.e = 0 ∧ qk ≠ 0) ?_ _ _ J ?_))
 ·skip
  refine Za 10 J J J (Zd J J (Za 11 J J J (Yj J J (Za 12 J J J (Zh J Vl J (Za 13 J J J (Zq (i := 1) J Xb J J J (Za 14 J J J (Yr J J J ?_))))))))); intro c14 h14
  refine Za 15 J J J (Zd J J ?_)
  rcases Zi h14 with ⟨rfl, g14⟩ | ⟨rfl, g14⟩
  ·skip
   refine Zk 16 J J J J J (Zk 17 J J J J J (Zk 18 J J J J J (Zk 19 J J J J J (Za 20 J J J (Zn J J J (Vp ?_))))))
   refine Ua J ?_ by5 by3
   clear HN hend hgo HB; first | (simp_all; done) | grind
  ·skip
   refine Zl 16 J J J J J (Zd J J (Zl 17 J J J J J (Wq (xs := [.tmp 16]) [1] J J J (HN) by1 ?_)))
   refine Zl 18 J J J J J (Wy (ft := 3) (fo := 0) J (by kernel_rfl) Xb J J ?_)
   refine Zl 19 J J J J J (Xq J J J ?_); intro c19 h19
   refine Za 20 J J J (Zn J J J (Vp (Ua J ?_ by5 by3)))
   clear HN hend hgo HB; first | (simp_all; done) | grind
 intro c20 h20
 refine Zb ?_
 rcases Zi h20 with ⟨rfl, g20⟩ | ⟨rfl, g20⟩
 ·refine Zr J (Xc (Xd (Xv (Xe (Zb (Zg (Zg ?_)))))))
  have hx2 : q.e ≠ 0 ∨ qk = 0 := by
   rcases Classical.em (q.e = 0) with h | h
   ·exact .inr (Classical.not_not.1 fun h2 => g20 ⟨h, h2⟩)
   ·exact .inl h
  rw [hend hx2] at hu
  cases hu
  refine Zc (Za 59 J J J (Zd J J (Za 60 J J J (Yj J J (Za 61 J J J (Zh J Vl J (Za 62 J J J (Zq (i := 1) J Xb J J J (Za 63 J J J (Xq J J J ?_)))))))))); intro c63 h63
  refine Vp (Zb ?_)
  rcases Zi h63 with ⟨rfl, g63⟩ | ⟨rfl, g63⟩
  ·refine Zr J (Zv (Zb (Zg (Zc (Za 73 J J J (Zx (cs' := [_, _, _, _]) (i := 0) J ta_55 J J J J (Zs J J (Zo (cs' := [_, _, _, _]) (i := 2) J ts_55 J J J J J (Uc J) J (Za 3 J J J (Ze J J (Za 4 J J J (Ze J J (Vp (Zb ?_))))))))))))))
   refine Ya ?_
   rw [if_neg g63] at hr; subst hr; exact Yo (i := 2) rfl rfl rfl rfl rfl ta_55 rfl by0 (Vr _) ⟨rfl, rfl⟩
  ·refine Zt J (Zg (Xw [0, 1, 2, 3, 4, 5, 6, 7, 8, 9, 10, 11] [9] [[], [], [1], [1, 2], [1, 2, 3], [], [5], [5, 6], [5, 6, 7], [0], [0, 1, 2, 3, 4, 9], [0, 1, 2, 3, 4, 5, 6, 7, 8, 9, 10]] Wr J (Yb 64 (none) (i := 0) J J J J J (Ym (ns := []) (xs := []) J tz_55 J tfl_55 J J J J ⟨J, J⟩) ?_)))
   refine Yb 65 (none) (i := 1) J J J J J (Zd J J ⟨J, J⟩) ?_
   refine Yb 66 (none) (i := 2) J J J J J (Yj J J ⟨J, J⟩) ?_
   refine Yb 67 (none) (i := 3) J J J J J (Zh J Vl J ⟨J, J⟩) ?_
   refine Yb 68 (some 1) (i := 4) J J J J J (Zq (i := 0) J Xb J J J ⟨J, J⟩) ?_
   refine Yb 69 (none) (i := 5) J J J J J (Zd J J ⟨J, J⟩) ?_
   refine Yb 70 (none) (i := 6) J J J J J (Yj J J ⟨J, J⟩) ?_
   refine Yb 71 (none) (i := 7) J J J J J (Zh J tf_95_4 J ⟨J, J⟩) ?_
   refine Yb 72 (some 1) (i := 8) J J J J J (Zq (i := 0) J Xb J J J ⟨J, J⟩) ?_
   refine Xn 2 (i := 9) J J J J J (Zo (cs' := [_, _, _, _]) (i := 0) J ts_55 J J J J J (Uc J) J ⟨_, J, ?_⟩)
   refine Yb 3 (none) (i := 10) J J J J J (Ze J J ⟨J, J⟩) ?_
   refine Yb 4 (none) (i := 11) J J J J J (Ze J J ⟨J, J⟩) ?_
   show AGo _ _ _ _ _ _ _
   refine Zb (Ya ?_)
   rw [if_pos g63] at hr; subst hr; exact Yo (i := 2) rfl rfl rfl rfl rfl ta_55 rfl by0 (Vr _) ⟨rfl, rfl⟩
 ·refine Zt J (Zv (Zb (Zz (Zg (Zg ?_)))))
  obtain ⟨i3, i4⟩ := i2 g20.1
  have hl1 : (Da.cellss da).length ≤ 200000 := by rw [Da.cellss_len]; omega
  have hl2 : (Cl.cellss cl).length ≤ 200000 := by rw [Cl.cellss_len]; omega
  have hl3 : (In.cellss ins).length ≤ 200000 := by rw [In.cellss_len]; omega
  have hl4 : (Bi.cellss bs).length ≤ 200000 := by rw [Bi.cellss_len]; omega
  obtain ⟨f, rfl⟩ : ∃ f', f = f' + 1 := ⟨f - 1, by omega⟩
  rw [hgo f _ g20.1 g20.2] at hu
  have l2 := (decl_adv (Pg.mk da cl ins bs) i1).ok i1
  have b2' := (decl_adv (Pg.mk da cl ins bs) i1).1
  obtain ⟨⟨x, q2⟩, hx⟩ : ∃ r, declP L q (Pg.mk da cl ins bs) = r := ⟨_, rfl⟩
  have hx0 := hx
  unfold declP at hx
  rw [hx0] at hu l2 b2'
  simp only [Pg.da, Pg.cl, Pg.ins, Pg.bs] at hu l2 b2' hx
  have HS := take_c b L hL q2 l2.1 7 kSemi
  have hpr := take_prog (L := L) (p := q2) (kind := 7) (s := kSemi) (by decide)
  have l5 := (Yn (kind := 7) (s := kSemi) (by decide) l2).ok l2
  obtain ⟨⟨u6, q5⟩, f5⟩ : ∃ r, takeP L q2 7 kSemi = r := ⟨_, rfl⟩
  rw [f5] at HS hpr l5 hu
  simp only [Prod.mk.injEq] at HS hpr l5 hu
  refine Zc (Za 21 J J J (Zd J J (Za 22 J J J (op_mayc (xs := [.tmp 21, .const (.string ⟨#[100, 97, 116, 97]⟩)]) (i := 1) J J J (may_c b L hL q kData) by1 ?_ ?_))))
  ·intro g22
   refine Vp (Zb (Zt J ?_))
   rw [if_pos g22] at hx
   have HX := data_c b L hL (stepP q) ((Xo i1 g22).ok i1)
   obtain ⟨⟨⟨xs, xps, xcs, xdv, xp⟩, q3⟩, e3⟩ : ∃ r, dataP L (stepP q) = r := ⟨_, rfl⟩
   rw [e3] at HX hx
   cases hx
   refine Xw [0, 1, 2, 3, 4, 5, 6, 7] [3, 5, 7] [[], [0], [], [2], [2, 3], [0, 1, 2, 3, 4], [0, 1, 2, 3, 4, 5], [0, 1, 2, 3, 4, 5, 6]] Wr J (Yb 23 (none) (i := 0) J J J J J (Zh J tf_55_0 J ⟨J, J⟩) ?_)
   refine Yb 24 (some 0) (i := 1) J J J J J (Zq (i := 0) J ta_34 J J J ⟨J, J⟩) ?_
   refine Yb 25 (none) (i := 2) J J J J J (Zd J J ⟨J, J⟩) ?_
   refine Xn 1 (i := 3) J J J J J (Yg (xs := [.tmp 25]) (i := 0) J J J (HX) by1 ⟨_, J, ?_⟩)
   refine Yb 27 (none) (i := 4) J J J J J (Yi (xs := [.tmp 26]) el_34 J J J J J J (Uc J) ⟨J, J⟩) ?_
   refine Xn 3 (i := 5) J J J J J (Xj (i := 0) el_34 J J J J (.seq _ _) by6 (fun u28 => ⟨_, J, ?_⟩))
   refine Yb 29 (none) (i := 6) J J J J J (Zh J tf_55_0 J ⟨J, J⟩) ?_
   refine Xn 0 (i := 7) J J J J J (Zo (cs' := [_, _, _, _]) (i := 0) J ts_34 J J J J J (Uc J) J ⟨_, J, ?_⟩)
   show AGo _ _ _ _ _ _ _
   refine Zb (Zc (Za 57 J J J (Zd J J (Za 58 J J J (Yg (xs := [.tmp 57, .const (.int .i64 7), .const (.string ⟨#[59]⟩)]) (i := 1) J J J (HS) by1 ?_)))))
   refine Vp (Yv (Xa ?_))
   first
   | exact ⟨(q5, f, Pg.mk (da ++ [Da.mk xs xps xcs xdv xp]) cl ins bs, u28, u2, u3, u4), ⟨l5, (fun e => by obtain ⟨⟨_, h5⟩, _, h6⟩ := hpr e; have b3 : q.at_ ≤ q3.at_ := b2'; rw [h5]; simp only [stepP, List.length_append, List.length_singleton]; omega), hu⟩, Nat.lt_succ_self f, by4, (Vu _ (Vy (Ub (by rw [Da.cellss_app']; rfl)) (Vx _)) (Vv rfl))⟩
   | exact ⟨(q5, f, Pg.mk da (cl ++ [Cl.mk xs xv xsu xms xds xp]) ins bs, u1, u37, u3, u4), ⟨l5, (fun e => by obtain ⟨⟨_, h5⟩, _, h6⟩ := hpr e; have b3 : q.at_ ≤ q3.at_ := b2'; rw [h5]; simp only [stepP, List.length_append, List.length_singleton]; omega), hu⟩, Nat.lt_succ_self f, by4, (Vu _ (Vy (Vw _) (Vy (Ub (by rw [Cl.cellss_app']; rfl)) (Vx _))) (Vv rfl))⟩
   | exact ⟨(q5, f, Pg.mk da cl (ins ++ [In.mk xc (Ty.mk xhk xhs xhn xhl) xcx xbs xp]) bs, u1, u2, u46, u4), ⟨l5, (fun e => by obtain ⟨⟨_, h5⟩, _, h6⟩ := hpr e; have b3 : q.at_ ≤ q3.at_ := b2'; rw [h5]; simp only [stepP, List.length_append, List.length_singleton]; omega), hu⟩, Nat.lt_succ_self f, by4, (Vu _ (Vy (Vw _) (Vy (Vw _) (Vy (Ub (by rw [In.cellss_app']; rfl)) (Vx _)))) (Vv rfl))⟩
   | exact ⟨(q5, f, Pg.mk da cl ins (bs ++ [Bi.mk bn (Ex.mk xk xs xn (Ty.mk xtk xts xtn xtl) xks xal xbs xp) bp]), u1, u2, u3, u55), ⟨l5, (fun e => by obtain ⟨⟨_, h5⟩, _, h6⟩ := hpr e; have b3 : q.at_ ≤ q3.at_ := b2'; rw [h5]; simp only [stepP, List.length_append, List.length_singleton]; omega), hu⟩, Nat.lt_succ_self f, by4, (Vu _ (Vy (Vw _) (Vy (Vw _) (Vy (Vw _) (Vy (Ub by10) (Vx _))))) (Vv rfl))⟩
  ·intro g22
   refine Vp (Zb (Zr J (Zg (Zc (Za 30 J J J (Zd J J (Za 31 J J J (op_mayc (xs := [.tmp 30, .const (.string ⟨#[99, 108, 97, 115, 115]⟩)]) (i := 1) J J J (may_c b L hL q kClass) by1 ?_ ?_))))))))
   ·intro g31
    refine Vp (Zb (Zt J ?_))
    rw [if_neg g22, if_pos g31] at hx
    have HX := class_c b L hL (stepP q) ((Xo i1 g31).ok i1)
    obtain ⟨⟨⟨xs, xv, xsu, xms, xds, xp⟩, q3⟩, e3⟩ : ∃ r, classP L (stepP q) = r := ⟨_, rfl⟩
    rw [e3] at HX hx
    cases hx
    refine Xw [0, 1, 2, 3, 4, 5, 6, 7] [3, 5, 7] [[], [0], [], [2], [2, 3], [0, 1, 2, 3, 4], [0, 1, 2, 3, 4, 5], [0, 1, 2, 3, 4, 5, 6]] Wr J (Yb 32 (none) (i := 0) J J J J J (Zh J tf_55_1 J ⟨J, J⟩) ?_)
    refine Yb 33 (some 0) (i := 1) J J J J J (Zq (i := 0) J Vn J J J ⟨J, J⟩) ?_
    refine Yb 34 (none) (i := 2) J J J J J (Zd J J ⟨J, J⟩) ?_
    refine Xn 1 (i := 3) J J J J J (Yg (xs := [.tmp 34]) (i := 0) J J J (HX) by1 ⟨_, J, ?_⟩)
    refine Yb 36 (none) (i := 4) J J J J J (Yi (xs := [.tmp 35]) el_35 J J J J J J (Uc J) ⟨J, J⟩) ?_
    refine Xn 4 (i := 5) J J J J J (Xj (i := 0) el_35 J J J J (.seq _ _) by6 (fun u37 => ⟨_, J, ?_⟩))
    refine Yb 38 (none) (i := 6) J J J J J (Zh J tf_55_1 J ⟨J, J⟩) ?_
    refine Xn 0 (i := 7) J J J J J (Zo (cs' := [_, _, _, _]) (i := 0) J ts_35 J J J J J (Uc J) J ⟨_, J, ?_⟩)
    show AGo _ _ _ _ _ _ _
    refine Zb (Zc (Za 57 J J J (Zd J J (Za 58 J J J (Yg (xs := [.tmp 57, .const (.int .i64 7), .const (.string ⟨#[59]⟩)]) (i := 1) J J J (HS) by1 ?_)))))
    refine Vp (Yv (Xa ?_))
    first
    | exact ⟨(q5, f, Pg.mk (da ++ [Da.mk xs xps xcs xdv xp]) cl ins bs, u28, u2, u3, u4), ⟨l5, (fun e => by obtain ⟨⟨_, h5⟩, _, h6⟩ := hpr e; have b3 : q.at_ ≤ q3.at_ := b2'; rw [h5]; simp only [stepP, List.length_append, List.length_singleton]; omega), hu⟩, Nat.lt_succ_self f, by4, (Vu _ (Vy (Ub (by rw [Da.cellss_app']; rfl)) (Vx _)) (Vv rfl))⟩
    | exact ⟨(q5, f, Pg.mk da (cl ++ [Cl.mk xs xv xsu xms xds xp]) ins bs, u1, u37, u3, u4), ⟨l5, (fun e => by obtain ⟨⟨_, h5⟩, _, h6⟩ := hpr e; have b3 : q.at_ ≤ q3.at_ := b2'; rw [h5]; simp only [stepP, List.length_append, List.length_singleton]; omega), hu⟩, Nat.lt_succ_self f, by4, (Vu _ (Vy (Vw _) (Vy (Ub (by rw [Cl.cellss_app']; rfl)) (Vx _))) (Vv rfl))⟩
    | exact ⟨(q5, f, Pg.mk da cl (ins ++ [In.mk xc (Ty.mk xhk xhs xhn xhl) xcx xbs xp]) bs, u1, u2, u46, u4), ⟨l5, (fun e => by obtain ⟨⟨_, h5⟩, _, h6⟩ := hpr e; have b3 : q.at_ ≤ q3.at_ := b2'; rw [h5]; simp only [stepP, List.length_append, List.length_singleton]; omega), hu⟩, Nat.lt_succ_self f, by4, (Vu _ (Vy (Vw _) (Vy (Vw _) (Vy (Ub (by rw [In.cellss_app']; rfl)) (Vx _)))) (Vv rfl))⟩
    | exact ⟨(q5, f, Pg.mk da cl ins (bs ++ [Bi.mk bn (Ex.mk xk xs xn (Ty.mk xtk xts xtn xtl) xks xal xbs xp) bp]), u1, u2, u3, u55), ⟨l5, (fun e => by obtain ⟨⟨_, h5⟩, _, h6⟩ := hpr e; have b3 : q.at_ ≤ q3.at_ := b2'; rw [h5]; simp only [stepP, List.length_append, List.length_singleton]; omega), hu⟩, Nat.lt_succ_self f, by4, (Vu _ (Vy (Vw _) (Vy (Vw _) (Vy (Vw _) (Vy (Ub by10) (Vx _))))) (Vv rfl))⟩
   ·intro g31
    refine Vp (Zb (Zr J (Zg (Zc (Za 39 J J J (Zd J J (Za 40 J J J (op_mayc (xs := [.tmp 39, .const (.string ⟨#[105, 110, 115, 116, 97, 110, 99, 101]⟩)]) (i := 1) J J J (may_c b L hL q kInst) by1 ?_ ?_))))))))
    ·intro g40
     refine Vp (Zb (Zt J ?_))
     rw [if_neg g22, if_neg g31, if_pos g40] at hx
     have HX := inst_c b L hL (stepP q) ((Xo i1 g40).ok i1)
     obtain ⟨⟨⟨xc, ⟨xhk, xhs, xhn, xhl⟩, xcx, xbs, xp⟩, q3⟩, e3⟩ : ∃ r, instP L (stepP q) = r := ⟨_, rfl⟩
     rw [e3] at HX hx
     simp only [In.cells, Ty.cells, List.cons_append, List.nil_append] at HX
     cases hx
     refine Xw [0, 1, 2, 3, 4, 5, 6, 7] [3, 5, 7] [[], [0], [], [2], [2, 3], [0, 1, 2, 3, 4], [0, 1, 2, 3, 4, 5], [0, 1, 2, 3, 4, 5, 6]] Wr J (Yb 41 (none) (i := 0) J J J J J (Zh J tf_55_2 J ⟨J, J⟩) ?_)
     refine Yb 42 (some 0) (i := 1) J J J J J (Zq (i := 0) J ta_36 J J J ⟨J, J⟩) ?_
     refine Yb 43 (none) (i := 2) J J J J J (Zd J J ⟨J, J⟩) ?_
     refine Xn 1 (i := 3) J J J J J (Yg (xs := [.tmp 43]) (i := 0) J J J (HX) by1 ⟨_, J, ?_⟩)
     refine Yb 45 (none) (i := 4) J J J J J (Yi (xs := [.tmp 44]) el_36 J J J J J J (Uc J) ⟨J, J⟩) ?_
     refine Xn 5 (i := 5) J J J J J (Xj (i := 0) el_36 J J J J (.seq _ _) by6 (fun u46 => ⟨_, J, ?_⟩))
     refine Yb 47 (none) (i := 6) J J J J J (Zh J tf_55_2 J ⟨J, J⟩) ?_
     refine Xn 0 (i := 7) J J J J J (Zo (cs' := [_, _, _, _]) (i := 0) J ts_36 J J J J J (Uc J) J ⟨_, J, ?_⟩)
     show AGo _ _ _ _ _ _ _
     refine Zb (Zc (Za 57 J J J (Zd J J (Za 58 J J J (Yg (xs := [.tmp 57, .const (.int .i64 7), .const (.string ⟨#[59]⟩)]) (i := 1) J J J (HS) by1 ?_)))))
     refine Vp (Yv (Xa ?_))
     first
     | exact ⟨(q5, f, Pg.mk (da ++ [Da.mk xs xps xcs xdv xp]) cl ins bs, u28, u2, u3, u4), ⟨l5, (fun e => by obtain ⟨⟨_, h5⟩, _, h6⟩ := hpr e; have b3 : q.at_ ≤ q3.at_ := b2'; rw [h5]; simp only [stepP, List.length_append, List.length_singleton]; omega), hu⟩, Nat.lt_succ_self f, by4, (Vu _ (Vy (Ub (by rw [Da.cellss_app']; rfl)) (Vx _)) (Vv rfl))⟩
     | exact ⟨(q5, f, Pg.mk da (cl ++ [Cl.mk xs xv xsu xms xds xp]) ins bs, u1, u37, u3, u4), ⟨l5, (fun e => by obtain ⟨⟨_, h5⟩, _, h6⟩ := hpr e; have b3 : q.at_ ≤ q3.at_ := b2'; rw [h5]; simp only [stepP, List.length_append, List.length_singleton]; omega), hu⟩, Nat.lt_succ_self f, by4, (Vu _ (Vy (Vw _) (Vy (Ub (by rw [Cl.cellss_app']; rfl)) (Vx _))) (Vv rfl))⟩
     | exact ⟨(q5, f, Pg.mk da cl (ins ++ [In.mk xc (Ty.mk xhk xhs xhn xhl) xcx xbs xp]) bs, u1, u2, u46, u4), ⟨l5, (fun e => by obtain ⟨⟨_, h5⟩, _, h6⟩ := hpr e; have b3 : q.at_ ≤ q3.at_ := b2'; rw [h5]; simp only [stepP, List.length_append, List.length_singleton]; omega), hu⟩, Nat.lt_succ_self f, by4, (Vu _ (Vy (Vw _) (Vy (Vw _) (Vy (Ub (by rw [In.cellss_app']; rfl)) (Vx _)))) (Vv rfl))⟩
     | exact ⟨(q5, f, Pg.mk da cl ins (bs ++ [Bi.mk bn (Ex.mk xk xs xn (Ty.mk xtk xts xtn xtl) xks xal xbs xp) bp]), u1, u2, u3, u55), ⟨l5, (fun e => by obtain ⟨⟨_, h5⟩, _, h6⟩ := hpr e; have b3 : q.at_ ≤ q3.at_ := b2'; rw [h5]; simp only [stepP, List.length_append, List.length_singleton]; omega), hu⟩, Nat.lt_succ_self f, by4, (Vu _ (Vy (Vw _) (Vy (Vw _) (Vy (Vw _) (Vy (Ub by10) (Vx _))))) (Vv rfl))⟩
    ·intro g40
     refine Vp (Zb (Zr J (Zg ?_)))
     rw [if_neg g22, if_neg g31, if_neg g40] at hx
     have HD := take_c b L hL q hq1 6 kDef
     have l1 := (Yn (kind := 6) (s := kDef) (by decide) i1).ok i1
     obtain ⟨⟨u7, q1⟩, f1⟩ : ∃ r, takeP L q 6 kDef = r := ⟨_, rfl⟩
     rw [f1] at HD l1 hx
     simp only [] at HD l1 hx
     have HX := bindP_c b L hL q1 l1
     obtain ⟨⟨⟨bn, ⟨xk, xs, xn, ⟨xtk, xts, xtn, xtl⟩, xks, xal, xbs, xp⟩, bp⟩, q3⟩, e3⟩ : ∃ r, bindP L q1 = r := ⟨_, rfl⟩
     rw [e3] at HX hx
     simp only [Bi.cells, Ex.cells, Ty.cells, List.cons_append, List.nil_append] at HX
     cases hx
     refine Zc (Za 48 J J J (Zd J J (Za 49 J J J (Yg (xs := [.tmp 48, .const (.int .i64 6), .const (.string ⟨#[100, 101, 102]⟩)]) (i := 1) J J J (HD) by1 ?_))))
     refine Vp (Zb (Xw [0, 1, 2, 3, 4, 5, 6, 7] [3, 5, 7] [[], [0], [], [2], [2, 3], [0, 1, 2, 3, 4], [0, 1, 2, 3, 4, 5], [0, 1, 2, 3, 4, 5, 6]] Wr J (Yb 50 (none) (i := 0) J J J J J (Zh J tf_55_3 J ⟨J, J⟩) ?_)))
     refine Yb 51 (some 0) (i := 1) J J J J J (Zq (i := 0) J ta_53 J J J ⟨J, J⟩) ?_
     refine Yb 52 (none) (i := 2) J J J J J (Zd J J ⟨J, J⟩) ?_
     refine Xn 1 (i := 3) J J J J J (Yg (xs := [.tmp 52]) (i := 0) J J J (HX) by1 ⟨_, J, ?_⟩)
     refine Yb 54 (none) (i := 4) J J J J J (Yi (xs := [.tmp 53]) el_53 J J J J J J (Uc J) ⟨J, J⟩) ?_
     refine Xn 6 (i := 5) J J J J J (Xj (i := 0) el_53 J J J J (.seq _ _) by6 (fun u55 => ⟨_, J, ?_⟩))
     refine Yb 56 (none) (i := 6) J J J J J (Zh J tf_55_3 J ⟨J, J⟩) ?_
     refine Xn 0 (i := 7) J J J J J (Zo (cs' := [_, _, _, _]) (i := 0) J ts_53 J J J J J (Uc J) J ⟨_, J, ?_⟩)
     show AGo _ _ _ _ _ _ _
     refine Zb (Zc (Za 57 J J J (Zd J J (Za 58 J J J (Yg (xs := [.tmp 57, .const (.int .i64 7), .const (.string ⟨#[59]⟩)]) (i := 1) J J J (HS) by1 ?_)))))
     refine Vp (Yv (Xa ?_))
     first
     | exact ⟨(q5, f, Pg.mk (da ++ [Da.mk xs xps xcs xdv xp]) cl ins bs, u28, u2, u3, u4), ⟨l5, (fun e => by obtain ⟨⟨_, h5⟩, _, h6⟩ := hpr e; have b3 : q.at_ ≤ q3.at_ := b2'; rw [h5]; simp only [stepP, List.length_append, List.length_singleton]; omega), hu⟩, Nat.lt_succ_self f, by4, (Vu _ (Vy (Ub (by rw [Da.cellss_app']; rfl)) (Vx _)) (Vv rfl))⟩
     | exact ⟨(q5, f, Pg.mk da (cl ++ [Cl.mk xs xv xsu xms xds xp]) ins bs, u1, u37, u3, u4), ⟨l5, (fun e => by obtain ⟨⟨_, h5⟩, _, h6⟩ := hpr e; have b3 : q.at_ ≤ q3.at_ := b2'; rw [h5]; simp only [stepP, List.length_append, List.length_singleton]; omega), hu⟩, Nat.lt_succ_self f, by4, (Vu _ (Vy (Vw _) (Vy (Ub (by rw [Cl.cellss_app']; rfl)) (Vx _))) (Vv rfl))⟩
     | exact ⟨(q5, f, Pg.mk da cl (ins ++ [In.mk xc (Ty.mk xhk xhs xhn xhl) xcx xbs xp]) bs, u1, u2, u46, u4), ⟨l5, (fun e => by obtain ⟨⟨_, h5⟩, _, h6⟩ := hpr e; have b3 : q.at_ ≤ q3.at_ := b2'; rw [h5]; simp only [stepP, List.length_append, List.length_singleton]; omega), hu⟩, Nat.lt_succ_self f, by4, (Vu _ (Vy (Vw _) (Vy (Vw _) (Vy (Ub (by rw [In.cellss_app']; rfl)) (Vx _)))) (Vv rfl))⟩
     | exact ⟨(q5, f, Pg.mk da cl ins (bs ++ [Bi.mk bn (Ex.mk xk xs xn (Ty.mk xtk xts xtn xtl) xks xal xbs xp) bp]), u1, u2, u3, u55), ⟨l5, (fun e => by obtain ⟨⟨_, h5⟩, _, h6⟩ := hpr e; have b3 : q.at_ ≤ q3.at_ := b2'; rw [h5]; simp only [stepP, List.length_append, List.length_singleton]; omega), hu⟩, Nat.lt_succ_self f, by4, (Vu _ (Vy (Vw _) (Vy (Vw _) (Vy (Vw _) (Vy (Ub by10) (Vx _))))) (Vv rfl))⟩
def envR (s : ByteArray) : En × Bool :=
 if 3000 < (s.size : Int) then (.mk [] [] [], false)
 else if (progT s).2.1 ≠ 0 ∨ (checkR (progT s).1).1 ≠ 0 then (.mk [] [] [], false)
 else (envOf (progT s).1, decide ((progT s).1.cl.length ≤ 12 ∧ (progT s).1.ins.length ≤ 30))
theorem envR_ok {s : ByteArray} (h : (envR s).2 = true) : EnC (envR s).1 ∧ (envR s).1.cl.length ≤ 12 ∧ (envR s).1.ins.length ≤ 30 := by
 unfold envR at h ⊢
 split at h
 ·simp at h
 rename_i h1
 split at h
 ·simp at h
 rename_i h2
 rw [if_neg h1, if_neg h2]
 simp only [decide_eq_true_eq] at h
 refine ⟨check_c (progT_g s).1 (by omega), ?_⟩
 generalize (progT s).1 = x at h
 obtain ⟨da, cl, ins, bs⟩ := x
 exact h
set_option maxHeartbeats 4000000 in
set_option maxRecDepth 100000 in
theorem Env_c (s : ByteArray) : PCall Tryz.prog 9 [.val (.string s)] (.tup [.agg (envR s).1.cells, .val (.bool (envR s).2)]) := by
 have HP := Prog_c s
 have HC := fun (p : Pg) hp hb => Check_c p hp hb
 obtain ⟨hg, hb⟩ := progT_g s
 have HC := HC _ hg.b hb
 obtain ⟨r, hr⟩ : ∃ r, envR s = r := ⟨_, rfl⟩
 rw [hr]
 unfold envR at hr
 unfold progR at HP
 generalize progT s = o at *
 obtain ⟨⟨da, cl, ins, bs⟩, e, w⟩ := o
 generalize checkR (.mk da cl ins bs) = f at *
 obtain ⟨f1, f2⟩ := f
 have hcl := Cl.cellss_len cl
 have hin := In.cellss_len ins
 simp only [Pg.cells, faultA] at HP HC
 refine Zw Tryz.func9 J (by kernel_rfl) J (Uc J) ?_
 refine Ye (Zg (Zc (Za 2 J J J (Zy (cs' := [_, _, _]) J tz_38 J J ?_)))); intro b2
 refine Za 3 J J J (Ze J J (Vp (Zb (Zg (Zg (Zc (Za 7 J J J (Zd J J (Za 8 J J J (Xr J Wp J (Za 9 J J J (Ww J J J ?_)))))))))))); intro c9 h9
 refine Vp (Zb ?_)
 rcases Zi h9 with ⟨rfl, g9⟩ | ⟨rfl, g9⟩
 ·refine Zr J (Zv (Zb (Zg ?_)))
  rw [if_neg g9] at hr
  refine Zc (Za 12 J J J (Zd J J (Za 13 J J J (Yp (xs := [.tmp 12]) J J (HP) by1 ?_))))
  refine Za 11 J J J (Zd J J (Za 14 J J J (Ys J J J (Za 15 J J J (Ys J J J (Za 16 J J J (Ys J J J (Za 4 J J J (Zy (cs' := [_, _, _, _]) J tz_55 J J ?_))))))))); intro b4
  refine Zs J J (Zo (cs' := [_, _, _, _]) (i := 0) J ts_55 J J J J J (Uc J) J (Za 5 J J J (Ze J J (Za 6 J J J (Ze J J (Vp (Zb (Zg (Zg (Xm 24 (e ≠ 0 ∨ f1 ≠ 0) ?_ _ _ J ?_))))))))))
  ·skip
   refine Za 17 J J J (Zd J J (Za 18 J J J (Xq J J J ?_))); intro c18 h18
   refine Za 19 J J J (Zd J J ?_)
   rcases Zi h18 with ⟨rfl, g18⟩ | ⟨rfl, g18⟩
   ·skip
    refine Zl 20 J J J J J (Zx (cs' := [_, _, _, _]) (i := 0) J ta_55 J J J J (Zl 21 J J J J J (Yp (xs := [.tmp 20]) J J (HC) by1 ?_)))
    refine Zl 22 J J J J J (Wy (ft := 3) (fo := 0) J (by kernel_rfl) Xb J J ?_)
    refine Zl 23 J J J J J (Xq J J J ?_); intro c23 h23
    refine Za 24 J J J (Zn J J J (Vp (Ua J ?_ by5 by3)))
    first | (simp_all; done) | (simp_all; omega) | grind
   ·skip
    refine Zk 20 J J J J J (Zk 21 J J J J J (Zk 22 J J J J J (Zk 23 J J J J J (Za 24 J J J (Zn J J J (Vp ?_))))))
    refine Ua J ?_ by5 by3
    first | (simp_all; done) | (simp_all; omega) | grind
  intro c24 h24
  refine Zb ?_
  rcases Zi h24 with ⟨rfl, g24⟩ | ⟨rfl, g24⟩
  ·refine Zr J (Zv (Zb (Zg ?_)))
   rw [if_neg g24] at hr
   refine Xw [0, 1, 2, 3, 4, 5, 6, 7, 8, 9, 10, 11, 12, 13, 14, 15, 16, 17, 18] [17] [[], [0], [], [2], [], [4], [0, 1, 2, 3, 4, 5], [], [7], [7, 8], [7, 8, 9], [7, 8, 9, 10], [7, 8, 9, 10, 11], [7, 8, 9, 10, 11, 12], [7, 8, 9, 10, 11, 12, 13], [7, 8, 9, 10, 11, 12, 13, 14], [7, 8, 9, 10, 11, 12, 13, 14, 15], [0, 1, 2, 3, 4, 5, 6, 7, 8, 9, 10, 11], [0, 1, 2, 3, 4, 5, 6, 7, 8, 9, 10, 11, 12, 13, 14, 15, 16, 17]] Wr J (Yb 26 (none) (i := 0) J J J J J (Zh J tf_55_0 J ⟨J, J⟩) ?_)
   refine Yb 27 (some 0) (i := 1) J J J J J (Zq (i := 0) J ta_34 J J J ⟨J, J⟩) ?_
   refine Yb 28 (none) (i := 2) J J J J J (Zh J tf_55_1 J ⟨J, J⟩) ?_
   refine Yb 29 (some 0) (i := 3) J J J J J (Zq (i := 0) J Vn J J J ⟨J, J⟩) ?_
   refine Yb 30 (none) (i := 4) J J J J J (Zh J tf_55_2 J ⟨J, J⟩) ?_
   refine Yb 31 (some 0) (i := 5) J J J J J (Zq (i := 0) J ta_36 J J J ⟨J, J⟩) ?_
   refine Yb 32 (none) (i := 6) J J J J J (Ym (ns := [0, 1, 2]) (xs := [.tmp 27, .tmp 29, .tmp 31]) J tz_38 J tfl_38 J J J J ⟨J, J⟩) ?_
   refine Yb 33 (none) (i := 7) J J J J J (Zh J tf_55_1 J ⟨J, J⟩) ?_
   refine Yb 34 (some 0) (i := 8) J J J J J (Zq (i := 0) J Vn J J J ⟨J, J⟩) ?_
   refine Yb 35 none (i := 9) J J J J J (Yy J tu_35 J (.seq _ _) (fun _ => ⟨J, J⟩)) ?_
   refine EOps.cm 36 (i := 10) J J J J (fun _ q => op_leq J J J q) ?_; intro c36 h36
   refine Yb 37 (none) (i := 11) J J J J J (Zd J J ⟨J, J⟩) ?_
   rcases Zi h36 with ⟨rfl, g36⟩ | ⟨rfl, g36⟩
   ·skip
    refine EOps.df 38 (i := 12) J J J J J J (EOps.df 39 (i := 13) J J J J J J (EOps.df 40 (i := 14) J J J J J J (EOps.df 41 (i := 15) J J J J J J (Yb 42 (none) (i := 16) J J J J J (Zn J J J ⟨J, J⟩) ?_))))
    refine Xn 1 (i := 17) J J J J J (Zo (cs' := [_, _, _]) (i := 0) J ts_38 J J J J J (Uc J) J ⟨_, J, ?_⟩)
    refine Yb 3 (none) (i := 18) J J J J J (Ze J J ⟨J, J⟩) ?_
    show AGo _ _ _ _ _ _ _
    refine Zb (Ya ?_)
    have hr : (En.mk da cl ins, decide (cl.length ≤ 12 ∧ ins.length ≤ 30)) = r := hr
    first
     | (have hd : decide (cl.length ≤ 12 ∧ ins.length ≤ 30) = false := decide_eq_false (by omega)
        rw [hd] at hr; subst hr
        exact Wx (i := 1) J J J J Xy J by0 (Vr _) ⟨J, J⟩)
     | (rcases Zi h41 with ⟨rfl, g41⟩ | ⟨rfl, g41⟩
        ·have hd : decide (cl.length ≤ 12 ∧ ins.length ≤ 30) = false := decide_eq_false (by omega)
         rw [hd] at hr; subst hr
         exact Wx (i := 1) J J J J Xy J by0 (Vr _) ⟨J, J⟩
        ·have hd : decide (cl.length ≤ 12 ∧ ins.length ≤ 30) = true := decide_eq_true (by omega)
         rw [hd] at hr; subst hr
         exact Wx (i := 1) J J J J Xy J by0 (Vr _) ⟨J, J⟩)
   ·skip
    refine EOps.dg 38 (none) (i := 12) J J J J J J J (Zh J tf_55_2 J ⟨J, J⟩) ?_
    refine EOps.dg 39 (some 0) (i := 13) J J J J J J J (Zq (i := 0) J ta_36 J J J ⟨J, J⟩) ?_
    refine EOps.dg 40 none (i := 14) J J J J J J J (Yy J tu_36 J (.seq _ _) (fun _ => ⟨J, J⟩)) ?_
    refine EOps.cmg 41 (i := 15) J J J J J J (fun _ q => op_leq J J J q) ?_; intro c41 h41
    refine Yb 42 (none) (i := 16) J J J J J (Zn J J J ⟨J, J⟩) ?_
    refine Xn 1 (i := 17) J J J J J (Zo (cs' := [_, _, _]) (i := 0) J ts_38 J J J J J (Uc J) J ⟨_, J, ?_⟩)
    refine Yb 3 (none) (i := 18) J J J J J (Ze J J ⟨J, J⟩) ?_
    show AGo _ _ _ _ _ _ _
    refine Zb (Ya ?_)
    have hr : (En.mk da cl ins, decide (cl.length ≤ 12 ∧ ins.length ≤ 30)) = r := hr
    first
     | (have hd : decide (cl.length ≤ 12 ∧ ins.length ≤ 30) = false := decide_eq_false (by omega)
        rw [hd] at hr; subst hr
        exact Wx (i := 1) J J J J Xy J by0 (Vr _) ⟨J, J⟩)
     | (rcases Zi h41 with ⟨rfl, g41⟩ | ⟨rfl, g41⟩
        ·have hd : decide (cl.length ≤ 12 ∧ ins.length ≤ 30) = false := decide_eq_false (by omega)
         rw [hd] at hr; subst hr
         exact Wx (i := 1) J J J J Xy J by0 (Vr _) ⟨J, J⟩
        ·have hd : decide (cl.length ≤ 12 ∧ ins.length ≤ 30) = true := decide_eq_true (by omega)
         rw [hd] at hr; subst hr
         exact Wx (i := 1) J J J J Xy J by0 (Vr _) ⟨J, J⟩)
  ·refine Zt J (Zg (Zc (Za 25 J J J (Ym (ns := []) (xs := []) J tz_38 J tfl_38 J J J J (Zs J J (Zo (cs' := [_, _, _]) (i := 1) J ts_38 J J J J J (Uc J) J (Za 3 J J J (Ze J J (Vp (Zb (Ya ?_)))))))))))
   rw [if_pos g24] at hr; subst hr; exact Wx (i := 1) rfl rfl rfl rfl Xy rfl by0 (Vr _) ⟨rfl, rfl⟩
 ·refine Zt J (Zg (Zc (Za 10 J J J (Ym (ns := []) (xs := []) J tz_38 J tfl_38 J J J J (Zs J J (Zo (cs' := [_, _, _]) (i := 0) J ts_38 J J J J J (Uc J) J (Za 3 J J J (Ze J J (Vp (Zb (Ya ?_)))))))))))
  rw [if_pos g9] at hr; subst hr; exact Wx (i := 0) rfl rfl rfl rfl Xy rfl by0 (Vr _) ⟨rfl, rfl⟩
set_option maxRecDepth 100000 in
theorem src_size : ¬ (3000 < (srcB.size : Int)) := by decide +kernel
theorem src_env : envR srcB = (envOf srcPg, true) := by
 unfold envR
 rw [if_neg src_size, src_pg]
 simp only []
 rw [src_check]
 simp only []
 rw [if_neg (by simp)]
 simp [srcPg, Pg.cl, Pg.ins]
theorem srcC_ok : EnC (envOf srcPg) := by
 have h := envR_ok (s := srcB) (by rw [src_env])
 rw [src_env] at h
 exact h.1
set_option maxRecDepth 100000 in
theorem src_p1 : proveF (envOf srcPg) [] 10 (.mk sEq (tyc sList [tyc sInt []])) = (.mk 3 1 kE [.mk 3 0 kE []], true) := by kernel_rfl
set_option maxRecDepth 100000 in
theorem src_p2 : proveF (envOf srcPg) [.mk sOrd (tyv sa)] 10 (.mk sEq (tyv sa)) = (.mk 2 0 sOrd [.mk 1 0 kE []], true) := by kernel_rfl
end Go.Proofs.YtknodnfbaofngaaGreat
