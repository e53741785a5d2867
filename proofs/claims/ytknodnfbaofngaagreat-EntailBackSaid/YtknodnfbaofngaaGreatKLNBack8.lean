/- EntailBack: of any right declarations what is proved holds, and where a proof holds one is told. -/
import Derived.Test.YtknodnfbaofngaaGreatKLNBack7
import Derived.Test.YtknodnfbaofngaaGreatChecked
import Derived.Test.YtknodnfbaofngaaGreatRows
set_option maxRecDepth 100000
set_option maxHeartbeats 4000000
namespace Go.Proofs.YtknodnfbaofngaaGreat
open Go.RowKit
theorem Le.own_less {u : Value} {m : Nat} {es es' : List (List AV)} (h : Less es es') : Le (.own u m es) (.own u m es') := fun F x k => by
 cases k with | own _ k => exact .own _ (Le.seq h _ _ k)
theorem Less.snoc {a b : List AV} (h : Les a b) (hl : a.length = b.length) : ∀ es : List (List AV), Less (es ++ [a]) (es ++ [b])
 | [] => .cons h hl .nil
 | _ :: es => .cons (Ua _) rfl (Less.snoc h hl es)
theorem preds_snoc {u : Value} (acc : List Pr) (ct vt : ByteArray) : Le (.own u 5 (Pr.cellss acc ++ [[.val (.string ct), .val (.int .i64 1), .val (.string vt), .val (.int .i64 0), .val (.slice none 0 0)]])) (.own u 5 (Pr.cellss (acc ++ [Pr.mk ct (Ty.mk 1 vt 0 [])]))) := by
 rw [show Pr.cellss (acc ++ [Pr.mk ct (Ty.mk 1 vt 0 [])]) = Pr.cellss acc ++ [[.val (.string ct), .val (.int .i64 1), .val (.string vt), .val (.int .i64 0), .seq 4 []]] by simp [Pr.cellss, Pr.cells, Ty.cells, Ty.cellss]]
 exact Le.own_less (Less.snoc (Ub (Vz _) (Ub (Vz _) (Ub (Vz _) (Ub (Vz _) (Ub (Le.nil _) (Ua _)))))) V _)
theorem ctxL_err {L : List Tok} {f : Nat} {p : PS} {acc : List Pr} (h : p.e ≠ 0) : ctxL L f p acc = (acc, p) := by
 cases f with
 | zero => rfl
 | succ f => rw [ctxL, if_pos h]
theorem insL_err {L : List Tok} {f : Nat} {p : PS} {bs : List Bi} (h : p.e ≠ 0) : insL L f p bs = (bs, p) := by
 cases f with
 | zero => rfl
 | succ f => rw [insL, if_pos h]
theorem insL_end {L : List Tok} {f : Nat} {p : PS} {bs : List Bi} (h : p.e = 0) (h2 : isP L p kEnd = true) : insL L (f + 1) p bs = (bs, stepP p) := by rw [insL, if_neg (by rw [h]; simp), if_pos h2]
abbrev zIn : List AV := [.val (.string kE), .val (.int .i64 0), .val (.string kE), .val (.int .i64 0), .val (.slice none 0 0), .val (.slice none 0 0), .val (.slice none 0 0), .val (.int .i64 0)]
theorem inst_b (b : Nat) (L : List Tok) (hL : L.length ≤ 100000) (p : PS) (k : POk L 302 p) (c18 : Bool) (h3 : isP L (atypeG L (typeP L) (takeP L p 2 kE).2).2 kFrom = c18) : MCall Tryz.prog 54 [.ptr b 0] (.loc b (psC L p)) (.agg (instP L p).1.cells) (.loc b (psC L (instP L p).2)) := by
 have H1 := take_c b L hL p k.1 2 kE
 have k1 := (Yo (kind := 2) (s := kE) (by decide) k).ok k
 obtain ⟨r, hr⟩ : ∃ r, instP L p = r := ⟨_, rfl⟩
 rw [hr]
 unfold instP at hr
 simp only [] at hr
 obtain ⟨⟨⟨tk, tt, tn, ta⟩, p1⟩, e1⟩ : ∃ r, takeP L p 2 kE = r := ⟨_, rfl⟩
 rw [e1] at H1 k1 hr h3
 simp only [Tok.av] at H1 k1 hr h3
 have H2 := atype_c b L hL 302 (typeP L) (Type_c b L hL 302) typeP_adv' p1 k1
 have k2 := (atype_adv typeP_adv' k1).ok k1
 obtain ⟨⟨⟨hk, hs, hn, hl⟩, p2⟩, e2⟩ : ∃ r, atypeG L (typeP L) p1 = r := ⟨_, rfl⟩
 rw [e2] at H2 k2 hr h3
 simp only [Ty.cells] at H2 k2 hr h3
 have HM := may_eq (b := b) hL h3
 have k3 := (ctx_adv k2).ok k2
 obtain ⟨⟨cxs, p3⟩, e3⟩ : ∃ r, ctxP L p2 = r := ⟨_, rfl⟩
 rw [e3] at k3 hr
 simp only [] at k3 hr
 have e3 : (if c18 = true then ctxL L (L.length + 1) (stepP p2) [] else ([], p2)) = (cxs, p3) := by rw [← e3, ctxP, h3]
 have H4 := take_c b L hL p3 k3.1 6 kWhere
 have k4 := (Yo (kind := 6) (s := kWhere) (by decide) k3).ok k3
 obtain ⟨⟨u4, p4⟩, e4⟩ : ∃ r, takeP L p3 6 kWhere = r := ⟨_, rfl⟩
 rw [e4] at H4 k4 hr
 simp only [] at H4 k4 hr
 obtain ⟨⟨bl, p5⟩, e5⟩ : ∃ r, insL L (L.length + 1) p4 [] = r := ⟨_, rfl⟩
 rw [e5] at hr
 simp only [] at hr
 refine Zw Tryz.func54 V (by kernel_rfl) V (Uf V) ?_
 refine Yf (Zg (Zc (Za 2 V V V (Zy (cs' := [_, _, _, _, _, _, _, _]) V tz_73 V V ?_)))); intro b2
 refine Vs (Zb (Zg (Zc (Za 8 V V V (Zd V V (Za 9 V V V (Yi (xs := [.tmp 8, .const (.int .i64 2), .const (.string ⟨#[]⟩)]) (i := 1) V V V (H1) by1 ?_)))))))
 refine Za 3 V V V (Zy (cs' := [_, _, _, _]) V Wj V V ?_); intro b3
 refine Zs V V (Zq (cs' := [_, _, _, _]) (i := 0) V Xk V V V V V (Uf V) V (Vs (Zb (Zg (c_drawnEF [0, 1, 2, 4, 5, 3, 6, 7, 8] [3, 7, 8] [[], [0], [], [2], [], [4], [0, 1, 2, 3, 4, 5], [], [0, 1, 2, 3, 4, 5, 6, 7]] 7 (cs0 := [_, _, _, _, _, _, _, _]) Wo V V V V tz_73 V V (EOpsF.d 10 (none) (i := 0) V V V V V V (Zh V Xh V ⟨V, V⟩) ?_))))))
 refine EOpsF.d 11 (some 0) (i := 1) V V V V V V (Zp (i := 0) V Xb V V V ⟨V, V⟩) ?_
 refine EOpsF.d 12 (none) (i := 2) V V V V V V (Zd V V ⟨V, V⟩) ?_
 refine EOpsF.d 14 (none) (i := 4) V V V V V V (Zh V Wv V ⟨V, V⟩) ?_
 refine EOpsF.d 15 (some 0) (i := 5) V V V V V V (Zp (i := 0) V Xa V V V ⟨V, V⟩) ?_
 refine EOpsF.w 2 (i := 3) V V V V V V (Yi (xs := [.tmp 12]) (i := 0) V V V (H2) by1 ⟨_, V, ?_⟩)
 refine EOpsF.d 16 (none) (i := 6) V V V V V V (Yl (ns := [0, 1, 4]) (xs := [.tmp 11, .tmp 13, .tmp 15]) V tz_73 V tfl_73 V V V V ⟨V, V⟩) ?_
 refine EOpsF.free (i := 7) V V V ?_; intro b4
 refine EOpsF.w 3 (i := 8) V V V V V V (Zq (cs' := [_, _, _, _, _, _, _, _]) (i := 0) V ts_73 V V V V V (Uf V) V ⟨_, V, ?_⟩)
 show AGo _ _ _ _ _ _ _
 refine Zb (Zg (Zg (Zc (Za 17 V V V (Zd V V (Za 18 V V V (Yi (xs := [.tmp 17, .const (.string ⟨#[102, 114, 111, 109]⟩)]) (i := 2) V V V (HM) by1 ?_)))))))
 refine Vs (Zb ?_)
 apply c_joink [1, 3, 5, 6, 7, 8, 9, 10, 11, 12, 13, 14, 15, 16, 17, 18, 19, 20, 21, 22, 23, 24, 25, 26, 27, 28, 29, 30, 31, 32, 33, 34, 35, 36, 37, 38, 39, 40, 41, 42, 43, 45, 57, 66] (σ := Unit) (fun zz => match zz with | z => []) (fun zz => match zz with | z => [.loc b3 (Tok.mk tk tt tn ta).av, .loc b2 zIn, .loc b (psC L p3), .loc b4 [.val (.string tt), .val (.int .i64 hk), .val (.string hs), .val (.int .i64 hn), .seq 4 (Ty.cellss hl), .seq 5 (Pr.cellss cxs), .val (.slice none 0 0), .val (.int .i64 ta)]]) (fun zz => match zz with | z => True)
 ·repeat' (first | exact Ui | apply Ug rfl | apply Uh rfl)
 ·skip
  rcases c18 with _ | _
  ·refine Zr V (Zv (Yz ?_))
   first
   | (rw [if_neg (by decide)] at e3; cases e3; exact ⟨(), trivial, by4, (Vv _ (Vv _ (Vv _ (Vx _ by0 (MLe.nil)))))⟩)
   | (have hu2 : (acc, q) = (cxs, p3) := by
       cases mo with
       | false => exact hu
       | true => rw [if_pos rfl, ctxL_err (fun e => g26 ⟨rfl, e⟩)] at hu; exact hu
      simp only [Prod.mk.injEq] at hu2
      obtain ⟨rfl, rfl⟩ := hu2
      exact ⟨(), trivial, by4, (Vv _ (Vv _ (Vv _ (Vx _ by0 (Vw _ (MLe.nil))))))⟩)
  refine Zt V (Zg ?_)
  rw [if_pos rfl] at e3
  have kA := (Xo k2 h3).ok k2
  refine Zc (Za 5 V V V (Ze V V (Vs (Zb (Zz (We 27 5 ?_))))))
  apply Wg [1, 3, 5, 6, 7, 8, 9, 10, 11, 12, 13, 14, 15, 16, 17, 18, 19, 20, 21, 22, 23, 24, 25, 26, 27, 28, 29, 30, 31, 32, 33, 34, 35, 36, 37, 38, 39, 40, 41, 42, 43, 45, 57, 66] (σ := PS × Nat × List Pr × Value × Bool) (fun zz => match zz with | (q, f, acc, u, mo) => [(5, .val (.bool mo))]) (fun zz => match zz with | (q, f, acc, u, mo) => [.loc b3 (Tok.mk tk tt tn ta).av, .loc b2 zIn, .loc b (psC L q), .loc b4 [.val (.string tt), .val (.int .i64 hk), .val (.string hs), .val (.int .i64 hn), .seq 4 (Ty.cellss hl), .own u 5 (Pr.cellss acc), .val (.slice none 0 0), .val (.int .i64 ta)], .own 27 5 u]) (fun zz => match zz with | (q, f, acc, u, mo) => POk L 302 q ∧ L.length - q.at_ < f ∧ (mo = true → acc.length ≤ q.at_) ∧ (if mo = true then ctxL L f q acc else (acc, q)) = (cxs, p3)) (fun zz => match zz with | (q, f, acc, u, mo) => 2 * f + (if mo = true then 1 else 0)) ((stepP p2, L.length + 1, [], .slice none 0 0, true))
  ·repeat' (first | exact Ui | apply Ug rfl | apply Uh rfl)
  ·exact ⟨kA, by omega, fun _ => Nat.zero_le _, e3⟩
  ·exact by4
  ·exact (Vv _ (Vv _ (Vv _ (Vx _ (Ub (Vz _) (Ub (Vz _) (Ub (Vz _) (Ub (Vz _) (Ub (Vz _) (Ub (Le.nilOwn 5) (Ua _))))))) (Vt _)))))
  rintro ⟨q, f, acc, u, mo⟩ hI
  try dsimp only [List.cons_append, List.nil_append] at hI ⊢
  obtain ⟨i1, i2, i3, hu⟩ := hI
  have hq1 := i1.1
  refine Zg (Zg (Xl 26 (mo = true ∧ q.e = 0) ?_ _ _ V ?_))
  ·skip
   refine Za 19 V V V (Zd V V (Za 20 V V V (Zd V V ?_)))
   have h20 : (mo = true ↔ mo = true) := Iff.rfl
   rcases Zi h20 with ⟨rfl, g20⟩ | ⟨rfl, g20⟩
   ·skip
    refine Zk 21 V V V V V (Zk 22 V V V V V (Zk 23 V V V V V (Zk 24 V V V V V (Zk 25 V V V V V (Za 26 V V V (Zn V V V (Vs (Ud V ?_ by5 by3))))))))
    simp_all; done
   skip
   refine Zl 21 V V V V V (Zd V V (Zl 22 V V V V V (Yk V V (Zl 23 V V V V V (Zh V Vo V (Zl 24 V V V V V (Zp (i := 2) V Xa V V V (Zl 25 V V V V V (Yr V V V ?_))))))))); intro c25 h25
   refine Za 26 V V V (Zn V V V (Vs (Ud V ?_ by5 by3)))
   simp_all; done
  intro c26 h26
  refine Zb ?_
  rcases Zi h26 with ⟨rfl, g26⟩ | ⟨rfl, g26⟩
  ·refine Zr V (Xc (Xe (Xv (Xd (Yz ?_)))))
   first
   | (rw [if_neg (by decide)] at e3; cases e3; exact ⟨(), trivial, by4, (Vv _ (Vv _ (Vv _ (Vx _ by0 (MLe.nil)))))⟩)
   | (have hu2 : (acc, q) = (cxs, p3) := by
       cases mo with
       | false => exact hu
       | true => rw [if_pos rfl, ctxL_err (fun e => g26 ⟨rfl, e⟩)] at hu; exact hu
      simp only [Prod.mk.injEq] at hu2
      obtain ⟨rfl, rfl⟩ := hu2
      exact ⟨(), trivial, by4, (Vv _ (Vv _ (Vv _ (Vx _ by0 (Vw _ (MLe.nil))))))⟩)
  refine Zt V (Zv (Zb (Zz (Zg ?_))))
  obtain ⟨rfl, hq0⟩ := g26
  have i3 := i3 rfl
  have hle : (Pr.cellss acc).length ≤ 200000 := by rw [Pr.cellss_len]; omega
  rw [if_pos rfl] at hu
  obtain ⟨f, rfl⟩ : ∃ f', f = f' + 1 := ⟨f - 1, by omega⟩
  rw [ctxL, if_neg (by rw [hq0]; simp)] at hu
  have HP := take_c b L hL q i1.1 2 kE
  have l1 := (Yo (kind := 2) (s := kE) (by decide) i1).ok i1
  have b1 := (Yo (L := L) (kind := 2) (s := kE) (by decide) i1).1
  obtain ⟨z, hz⟩ : ∃ z, predP L q = z := ⟨_, rfl⟩
  rw [hz] at hu
  unfold predP at hz
  obtain ⟨⟨⟨ck, ct, cn, ca⟩, q1⟩, f1⟩ : ∃ r, takeP L q 2 kE = r := ⟨_, rfl⟩
  rw [f1] at HP hz l1 b1
  simp only [Tok.av] at HP hz l1 b1
  have HV := take_c b L hL q1 l1.1 1 kE
  have l2 := (Yo (kind := 1) (s := kE) (by decide) l1).ok l1
  have b2' := (Yo (L := L) (kind := 1) (s := kE) (by decide) l1).1
  obtain ⟨⟨⟨vk, vt, vn, va⟩, q2⟩, f2⟩ : ∃ r, takeP L q1 1 kE = r := ⟨_, rfl⟩
  rw [f2] at HV l2 b2' hz
  simp only [Tok.av] at HV l2 b2' hz
  subst hz
  simp only [] at hu
  have l2a := l2.1
  refine Zc (Za 27 V V V (Zd V V (Za 28 V V V (Yi (xs := [.tmp 27, .const (.int .i64 2), .const (.string ⟨#[]⟩)]) (i := 2) V V V (HP) by1 ?_))))
  refine Za 29 V V V (Va (ft := 9) (fo := 1) V (by kernel_rfl) Xb V V ?_)
  refine Za 6 V V V (Ze V V (Vs (Zb (Zg (Zc (Za 30 V V V (Zd V V (Za 31 V V V (Yi (xs := [.tmp 30, .const (.int .i64 1), .const (.string ⟨#[]⟩)]) (i := 2) V V V (HV) by1 ?_)))))))))
  refine Za 32 V V V (Va (ft := 9) (fo := 1) V (by kernel_rfl) Xb V V ?_)
  refine Za 7 V V V (Ze V V (Vs (Zb (Zg (Zc (Za 33 V V V (Zh V tf_73_2 V (Za 34 V V V (Zp (i := 3) V ta_22 V V V (Za 35 V V V (Zd V V (Za 36 V V V (Zd V V (Za 37 V V V (Yl (ns := [0, 1]) (xs := [.const (.int .i64 1), .tmp 36]) V tz_25 V tfl_25 V V V V (Za 38 V V V (Yl (ns := [0, 1]) (xs := [.tmp 35, .tmp 37]) V tz_27 V tfl_27 V V V V (Za 39 V V V (Ye (xs := [.tmp 38]) el_22 V V V V V V (Uf V) (Za 40 V V V (Xj (i := 4) el_22 V V V V (.seq _ _) by6 ?_)))))))))))))))))))))
  intro u40
  refine Za 41 V V V (Zh V tf_73_2 V (Zs V V (Zq (cs' := [_, _, _, _, _, _, _, _]) (i := 3) V ts_22 V V V V V (Uf V) V (Vs (Zb (Zc (Za 42 V V V (Zd V V (Za 43 V V V (op_mayc (xs := [.tmp 42, .const (.string ⟨#[44]⟩)]) (i := 2) V V V (may_c b L hL q2 kComma) by1 ?_ ?_))))))))))
  ·intro g43
   refine Za 5 V V V (Ze V V (Vs (Yt (Yz ?_))))
   first
   | (rw [if_pos g43] at hu; have l4 := (Xo l2 g43).ok l2; have l5 := (is_lt g43).2; exact ⟨(stepP q2, f, acc ++ [Pr.mk ct (Ty.mk 1 vt 0 [])], u40, true), ⟨l4, (by show L.length - (q2.at_ + 1) < f; omega), (fun _ => by show (acc ++ _).length ≤ q2.at_ + 1; rw [List.length_append]; simp; omega), hu⟩, (by show 2 * f + 1 < 2 * (f + 1) + 1; omega), Uc rfl (Vz _) by4, (Vv _ (Vv _ (Vv _ (Vx _ (Ub (Vz _) (Ub (Vz _) (Ub (Vz _) (Ub (Vz _) (Ub (Vz _) (Ub (preds_snoc acc ct vt) (Ua _))))))) (Vy rfl)))))⟩)
   | (rw [if_neg g43] at hu; exact ⟨(q2, f + 1, acc ++ [Pr.mk ct (Ty.mk 1 vt 0 [])], u40, false), ⟨l2, (by show L.length - q2.at_ < f + 1; omega), (fun h => by cases h), hu⟩, (by show 2 * (f + 1) + 0 < 2 * (f + 1) + 1; omega), Uc rfl (Vz _) by4, (Vv _ (Vv _ (Vv _ (Vx _ (Ub (Vz _) (Ub (Vz _) (Ub (Vz _) (Ub (Vz _) (Ub (Vz _) (Ub (preds_snoc acc ct vt) (Ua _))))))) (Vy rfl)))))⟩)
  intro g43
  refine Za 5 V V V (Ze V V (Vs (Yt (Yz ?_))))
  first
  | (rw [if_pos g43] at hu; have l4 := (Xo l2 g43).ok l2; have l5 := (is_lt g43).2; exact ⟨(stepP q2, f, acc ++ [Pr.mk ct (Ty.mk 1 vt 0 [])], u40, true), ⟨l4, (by show L.length - (q2.at_ + 1) < f; omega), (fun _ => by show (acc ++ _).length ≤ q2.at_ + 1; rw [List.length_append]; simp; omega), hu⟩, (by show 2 * f + 1 < 2 * (f + 1) + 1; omega), Uc rfl (Vz _) by4, (Vv _ (Vv _ (Vv _ (Vx _ (Ub (Vz _) (Ub (Vz _) (Ub (Vz _) (Ub (Vz _) (Ub (Vz _) (Ub (preds_snoc acc ct vt) (Ua _))))))) (Vy rfl)))))⟩)
  | (rw [if_neg g43] at hu; exact ⟨(q2, f + 1, acc ++ [Pr.mk ct (Ty.mk 1 vt 0 [])], u40, false), ⟨l2, (by show L.length - q2.at_ < f + 1; omega), (fun h => by cases h), hu⟩, (by show 2 * (f + 1) + 0 < 2 * (f + 1) + 1; omega), Uc rfl (Vz _) by4, (Vv _ (Vv _ (Vv _ (Vx _ (Ub (Vz _) (Ub (Vz _) (Ub (Vz _) (Ub (Vz _) (Ub (Vz _) (Ub (preds_snoc acc ct vt) (Ua _))))))) (Vy rfl)))))⟩)
 rintro z hI
 try dsimp only [List.cons_append, List.nil_append] at hI ⊢
 refine Zb (Zg (Zc (Za 44 V V V (Zd V V (Za 45 V V V (Yi (xs := [.tmp 44, .const (.int .i64 6), .const (.string ⟨#[119, 104, 101, 114, 101]⟩)]) (i := 2) V V V (H4) by1 ?_))))))
 refine Vs (Zb (Zg (Zz (We 112 13 ?_))))
 apply Wg [1, 3, 5, 6, 7, 8, 9, 10, 11, 12, 13, 14, 15, 16, 17, 18, 19, 20, 21, 22, 23, 24, 25, 26, 27, 28, 29, 30, 31, 32, 33, 34, 35, 36, 37, 38, 39, 40, 41, 42, 43, 44, 45, 46, 47, 48, 49, 50, 51, 52, 53, 54, 55, 56, 57, 58, 59, 60, 61, 62, 63, 64, 65, 66] (σ := PS × Nat × List Bi × Value) (fun zz => match zz with | (q, f, bs, v) => []) (fun zz => match zz with | (q, f, bs, v) => [.loc b3 (Tok.mk tk tt tn ta).av, .loc b2 zIn, .loc b (psC L q), .loc b4 [.val (.string tt), .val (.int .i64 hk), .val (.string hs), .val (.int .i64 hn), .seq 4 (Ty.cellss hl), .seq 5 (Pr.cellss cxs), .own v 13 (Bi.cellss bs), .val (.int .i64 ta)], .own 112 13 v]) (fun zz => match zz with | (q, f, bs, v) => POk L 302 q ∧ (q.e = 0 → L.length - q.at_ < f ∧ bs.length ≤ q.at_) ∧ insL L f q bs = (bl, p5)) (fun zz => match zz with | (q, f, bs, v) => f) ((p4, L.length + 1, [], .slice none 0 0))
 ·repeat' (first | exact Ui | apply Ug rfl | apply Uh rfl)
 ·exact ⟨k4, fun _ => ⟨by omega, Nat.zero_le _⟩, e5⟩
 ·exact by4
 ·exact (Vv _ (Vv _ (Vv _ (Vx _ (Ub (Vz _) (Ub (Vz _) (Ub (Vz _) (Ub (Vz _) (Ub (Vz _) (Ub (Vz _) (Ub (Le.nilOwn 13) (Ua _)))))))) (Vt _)))))
 rintro ⟨q, f, bs, v⟩ hI
 try dsimp only [List.cons_append, List.nil_append] at hI ⊢
 obtain ⟨i1, i2, hu⟩ := hI
 have hq1 := i1.1
 refine Zg (Zg (Zc (Za 46 V V V (Zd V V (Za 47 V V V (Yk V V (Za 48 V V V (Zh V Vo V (Za 49 V V V (Zp (i := 2) V Xa V V V (Za 50 V V V (Yr V V V ?_)))))))))))); intro c50 h50
 refine Za 51 V V V (Zd V V ?_)
 rcases Zi h50 with ⟨rfl, g50⟩ | ⟨rfl, g50⟩
 ·skip
  refine Zk 52 V V V V V (Zk 53 V V V V V (Zk 54 V V V V V (Za 55 V V V (Zn V V V (Vs (Zb (Zr V (Xc (Xe (Xv (Xd (Zb (Zg (Zc (Za 67 V V V (Zx (cs' := [_, _, _, _, _, _, _, _]) (i := 3) V ta_73 V V V V (Zs V V (Zq (cs' := [_, _, _, _, _, _, _, _]) (i := 1) V ts_73 V V V V V (Uf V) V (Vs (Zb (Ya ?_)))))))))))))))))))))
  first
  | (rw [insL_err g50] at hu; cases hu; subst hr; exact Yn (i := 1) rfl rfl rfl ta_73 rfl by0 (Vw _ (Vw _ (Vv _ (Vu _)))) ⟨rfl, rfl⟩)
  | (obtain ⟨f, rfl⟩ : ∃ f', f = f' + 1 := ⟨f - 1, by have := (i2 g50).1; omega⟩; rw [insL_end g50 g53] at hu; cases hu; subst hr; exact Yn (i := 1) rfl rfl rfl ta_73 rfl by0 (Vw _ (Vw _ (Vv _ (Vu _)))) ⟨rfl, rfl⟩)
 skip
 refine Zl 52 V V V V V (Zd V V (Zl 53 V V V V V (op_mayc (xs := [.tmp 52, .const (.string ⟨#[101, 110, 100]⟩)]) (i := 2) V V V (may_c b L hL q kEnd) by1 ?_ ?_)))
 ·intro g53
  refine Zl 54 V V V V V (Xr V V ?_); intro c54 h54
  try replace h54 := nott h54 h53
  obtain rfl : c54 = false := by
   cases c54 with
   | false => rfl
   | true => exact absurd (h54.1 rfl) (by decide)
  refine Za 55 V V V (Zn V V V (Vs (Zb (Zr V (Xc (Xe (Xv (Xd (Zb (Zg (Zc (Za 67 V V V (Zx (cs' := [_, _, _, _, _, _, _, _]) (i := 3) V ta_73 V V V V (Zs V V (Zq (cs' := [_, _, _, _, _, _, _, _]) (i := 1) V ts_73 V V V V V (Uf V) V (Vs (Zb (Ya ?_))))))))))))))))))
  first
  | (rw [insL_err g50] at hu; cases hu; subst hr; exact Yn (i := 1) rfl rfl rfl ta_73 rfl by0 (Vw _ (Vw _ (Vv _ (Vu _)))) ⟨rfl, rfl⟩)
  | (obtain ⟨f, rfl⟩ : ∃ f', f = f' + 1 := ⟨f - 1, by have := (i2 g50).1; omega⟩; rw [insL_end g50 g53] at hu; cases hu; subst hr; exact Yn (i := 1) rfl rfl rfl ta_73 rfl by0 (Vw _ (Vw _ (Vv _ (Vu _)))) ⟨rfl, rfl⟩)
 intro g53
 refine Zl 54 V V V V V (Xr V V ?_); intro c54 h54
 try replace h54 := nott h54 h53
 obtain rfl : c54 = true := h54.2 rfl
 refine Za 55 V V V (Zn V V V (Vs (Zb (Zt V (Zv (Zb (Zz (Zg ?_))))))))
 obtain ⟨i3, i4⟩ := i2 g50
 have hl2 : (Bi.cellss bs).length ≤ 200000 := by rw [Bi.cellss_len]; omega
 obtain ⟨f, rfl⟩ : ∃ f', f = f' + 1 := ⟨f - 1, by omega⟩
 rw [insL, if_neg (by rw [g50]; simp), if_neg g53] at hu
 have HD := take_c b L hL q hq1 6 kDef
 have l1 := (Yo (kind := 6) (s := kDef) (by decide) i1).ok i1
 have b1 := (Yo (L := L) (kind := 6) (s := kDef) (by decide) i1).1
 obtain ⟨⟨u7, q1⟩, f1⟩ : ∃ r, takeP L q 6 kDef = r := ⟨_, rfl⟩
 rw [f1] at HD l1 b1 hu
 simp only [] at HD l1 b1 hu
 have HB := bindP_c b L hL q1 l1
 have l2 := (bindP_adv l1).ok l1
 have b2' := (bindP_adv l1).1
 obtain ⟨⟨⟨bn, ⟨xk, xs, xn, ⟨xtk, xts, xtn, xtl⟩, xks, xal, xbs, xp⟩, bp⟩, q2⟩, f2⟩ : ∃ r, bindP L q1 = r := ⟨_, rfl⟩
 rw [f2] at HB l2 b2' hu
 simp only [Bi.cells, Ex.cells, Ty.cells, List.cons_append, List.nil_append] at HB l2 b2' hu
 have HS := take_c b L hL q2 l2.1 7 kSemi
 have hpr := take_prog (L := L) (p := q2) (kind := 7) (s := kSemi) (by decide)
 have l5 := (Yo (kind := 7) (s := kSemi) (by decide) l2).ok l2
 obtain ⟨⟨u6, q5⟩, f5⟩ : ∃ r, takeP L q2 7 kSemi = r := ⟨_, rfl⟩
 rw [f5] at HS hpr l5 hu
 simp only [Prod.mk.injEq] at HS hpr l5 hu
 refine Zc (Za 56 V V V (Zd V V (Za 57 V V V (Yi (xs := [.tmp 56, .const (.int .i64 6), .const (.string ⟨#[100, 101, 102]⟩)]) (i := 2) V V V (HD) by1 ?_))))
 refine Vs (Zb (Zg (Xu [0, 1, 2, 3, 4, 5, 6, 7] [3, 5, 7] [[], [0], [], [2], [2, 3], [0, 1, 2, 3, 4], [0, 1, 2, 3, 4, 5], [0, 1, 2, 3, 4, 5, 6]] Wo V (Yb 58 (none) (i := 0) V V V V V (Zh V tf_73_3 V ⟨V, V⟩) ?_))))
 refine Yb 59 (some 3) (i := 1) V V V V V (Zp (i := 0) V ta_53 V V V ⟨V, V⟩) ?_
 refine Yb 60 (none) (i := 2) V V V V V (Zd V V ⟨V, V⟩) ?_
 refine Xn 2 (i := 3) V V V V V (Yi (xs := [.tmp 60]) (i := 0) V V V (HB) by1 ⟨_, V, ?_⟩)
 refine Yb 62 (none) (i := 4) V V V V V (Ye (xs := [.tmp 61]) el_53 V V V V V V (Uf V) ⟨V, V⟩) ?_
 refine Xn 4 (i := 5) V V V V V (Xj (i := 0) el_53 V V V V (.seq _ _) by6 (fun u63 => ⟨_, V, ?_⟩))
 refine Yb 64 (none) (i := 6) V V V V V (Zh V tf_73_3 V ⟨V, V⟩) ?_
 refine Xn 3 (i := 7) V V V V V (Zq (cs' := [_, _, _, _, _, _, _, _]) (i := 0) V ts_53 V V V V V (Uf V) V ⟨_, V, ?_⟩)
 show AGo _ _ _ _ _ _ _
 refine Zb (Zc (Za 65 V V V (Zd V V (Za 66 V V V (Yi (xs := [.tmp 65, .const (.int .i64 7), .const (.string ⟨#[59]⟩)]) (i := 2) V V V (HS) by1 ?_)))))
 refine Vs (Yt (Yz ?_))
 exact ⟨(q5, f, bs ++ [Bi.mk bn (Ex.mk xk xs xn (Ty.mk xtk xts xtn xtl) xks xal xbs xp) bp], u63), ⟨l5, (fun e => by obtain ⟨⟨_, h5⟩, _, h6⟩ := hpr e; rw [h5]; refine ⟨?_, ?_⟩; (show L.length - (q2.at_ + 1) < f; omega); (show (bs ++ _).length ≤ q2.at_ + 1; rw [List.length_append]; simp; omega)), hu⟩, Nat.lt_succ_self f, by4, (Vv _ (Vv _ (Vv _ (Vx _ (Ub (Vz _) (Ub (Vz _) (Ub (Vz _) (Ub (Vz _) (Ub (Vz _) (Ub (Vz _) (Ub (Ue by10) (Ua _)))))))) (Vy rfl)))))⟩
theorem inst_c (b : Nat) (L : List Tok) (hL : L.length ≤ 100000) (p : PS) (k : POk L 302 p) : MCall Tryz.prog 54 [.ptr b 0] (.loc b (psC L p)) (.agg (instP L p).1.cells) (.loc b (psC L (instP L p).2)) := inst_b b L hL p k _ rfl
theorem begin_c (s : ByteArray) : ACall Tryz.prog 49 [.val (.string s)] [] (fun v M' => ∃ b, v = .ptr b 0 ∧ M' = [.loc b (psC (scanT s).1 (beginP (scanT s)))]) := by
 have HS := Scan_c s
 obtain ⟨⟨L, e, w⟩, hs⟩ : ∃ r, scanT s = r := ⟨_, rfl⟩
 rw [hs] at HS ⊢
 have HF := fun b => fail_c b L ⟨0, 0, 0, 0⟩ e w
 unfold beginP
 simp only [scanR] at HS ⊢
 refine Zw Tryz.func49 V (by kernel_rfl) V (Uf V) ?_
 refine Yf (Zg (Zc (Za 2 V V V (Ze V V (Vs (Zb (Zg (Zc (Za 8 V V V (Zd V V (Za 9 V V V (Ym (xs := [.tmp 8]) V V (HS) by1 ?_))))))))))))
 refine Za 7 V V V (Zd V V (Za 10 V V V (Yv V V V (Za 11 V V V (Yv V V V (Za 12 V V V (Yv V V V (Za 3 V V V (Ze V V (Za 4 V V V (Ze V V (Za 5 V V V (Ze V V (Vs (Zb (Zg (Zc (Za 13 V V V (Zd V V (Za 14 V V V (Yl (ns := [0]) (xs := [.tmp 13]) V tz_95 V tfl_95 V V V V (Za 15 V V V (op_boxe (cs' := [_, _, _, _, _]) V V V V ?_))))))))))))))))))))))); intro b15
 refine Za 6 V V V (Ze V V (Vs (Zb (Zg (Zg (Zc (Za 16 V V V (Zd V V (Za 17 V V V (Xq V V V ?_)))))))))); intro c17 h17
 refine Vs (Zb ?_)
 rcases Zi h17 with ⟨rfl, g17⟩ | ⟨rfl, g17⟩
 ·refine Zr V (Zv (Zb (Zg (Zc (Za 22 V V V (Zd V V (Za 2 V V V (Ze V V (Vs (Zb (Ya ?_)))))))))))
  first
  | (rw [if_pos g17]; exact Yh rfl rfl (Vz _) (Vy rfl) ⟨b15, rfl, rfl⟩)
  | (rw [if_neg g17]; exact Yh rfl rfl (Vz _) (Vy rfl) ⟨b15, rfl, rfl⟩)
 refine Zt V (Zc (Za 18 V V V (Zd V V (Za 19 V V V (Zd V V (Za 20 V V V (Zd V V (Za 21 V V V (Yi (xs := [.tmp 18, .tmp 19, .tmp 20]) (i := 0) V V V (HF b15) by1 ?_)))))))))
 refine Vs (Zb (Zg (Zc (Za 22 V V V (Zd V V (Za 2 V V V (Ze V V (Vs (Zb (Ya ?_))))))))))
 first
 | (rw [if_pos g17]; exact Yh rfl rfl (Vz _) (Vy rfl) ⟨b15, rfl, rfl⟩)
 | (rw [if_neg g17]; exact Yh rfl rfl (Vz _) (Vy rfl) ⟨b15, rfl, rfl⟩)
theorem progL_end {L : List Tok} {f : Nat} {p : PS} {x : Pg} (h : p.e ≠ 0 ∨ (nxt L p).k = 0) : progL L f p x = (x, p) := by
 cases f with
 | zero => rfl
 | succ f => rw [progL, if_pos h]
theorem Da.cellss_app' (a b : List Da) : Da.cellss (a ++ b) = Da.cellss a ++ Da.cellss b := by simp [Da.cellss]
theorem Cl.cellss_app' (a b : List Cl) : Cl.cellss (a ++ b) = Cl.cellss a ++ Cl.cellss b := by simp [Cl.cellss]
theorem In.cellss_app' (a b : List In) : In.cellss (a ++ b) = In.cellss a ++ In.cellss b := by simp [In.cellss]
abbrev zPg : List AV := [.val (.slice none 0 0), .val (.slice none 0 0), .val (.slice none 0 0), .val (.slice none 0 0)]
def progR (o : Pg × Int × Int) : AV := .tup [.agg o.1.cells, .val (.int .i64 o.2.1), .val (.int .i64 o.2.2)]
theorem begin_ok (s : ByteArray) : POk (scanT s).1 302 (beginP (scanT s)) := by
 have h : ∀ e w, POk (scanT s).1 302 (failP ⟨0, 0, 0, 0⟩ e w) := fun e w => by
  unfold failP
  refine ⟨?_, ?_, ?_, fun _ => ⟨?_, ?_⟩⟩ <;> simp
 unfold beginP
 split
 ·exact h _ _
 refine ⟨?_, ?_, ?_, fun _ => ⟨?_, ?_⟩⟩ <;> simp
theorem Prog_c (s : ByteArray) : PCall Tryz.prog 24 [.val (.string s)] (progR (progT s)) := by
 have HB := begin_c s
 have hL := scanT_len s
 have k0 := begin_ok s
 obtain ⟨r, hr⟩ : ∃ r, progT s = r := ⟨_, rfl⟩
 rw [hr]
 unfold progT at hr
 simp only [] at hr
 obtain ⟨L, hLe⟩ : ∃ L, (scanT s).1 = L := ⟨_, rfl⟩
 obtain ⟨p0, hp0⟩ : ∃ p, beginP (scanT s) = p := ⟨_, rfl⟩
 rw [hLe, hp0] at HB k0 hr
 rw [hLe] at hL
 have hL : L.length ≤ 100000 := by omega
 obtain ⟨⟨⟨fd, fc, fi, fb⟩, p9⟩, e9⟩ : ∃ r, progL L (L.length + 1) p0 pg0 = r := ⟨_, rfl⟩
 rw [e9] at hr
 simp only [] at hr
 refine Zw Tryz.func24 V (by kernel_rfl) V (Uf V) ?_
 refine Yf (Zg (Zc (Za 2 V V V (Zy (cs' := [_, _, _, _]) V tz_55 V V ?_)))); intro b2
 refine Za 3 V V V (Ze V V (Za 4 V V V (Ze V V (Vs (Zb (Zg (Zc (Za 7 V V V (Zd V V (Za 8 V V V (op_callat [] (xs := [.tmp 7]) V V V (HB) by1 ?_)))))))))))
 rintro v M' ⟨b, rfl, rfl⟩
 refine Za 5 V V V (Ze V V (Vs (Zb (Zg (Zc (Za 9 V V V (Yl (ns := []) (xs := []) V tz_55 V tfl_55 V V V V (Za 6 V V V (Zy (cs' := [_, _, _, _]) V tz_55 V V ?_))))))))); intro b6
 refine Zs V V (Zq (cs' := [_, _, _, _]) (i := 0) V ts_55 V V V V V (Uf V) V (Vs (Zb (Zg (Zz (We 102 5 (We 77 6 (We 73 8 (We 112 13 ?_)))))))))
 apply Wg [0, 1, 7, 8, 9, 10, 11, 12, 13, 14, 15, 16, 17, 18, 19, 20, 21, 22, 23, 24, 25, 26, 27, 28, 29, 30, 31, 32, 33, 34, 35, 36, 37, 38, 39, 40, 41, 42, 43, 44, 45, 46, 47, 48, 49, 50, 51, 52, 53, 54, 55, 56, 57, 58] (σ := PS × Nat × Pg × Value × Value × Value × Value) (fun zz => match zz with | (q, f, Pg.mk da cl ins bs, u1, u2, u3, u4) => []) (fun zz => match zz with | (q, f, Pg.mk da cl ins bs, u1, u2, u3, u4) => [.loc b6 [.own u1 5 (Da.cellss da), .own u2 6 (Cl.cellss cl), .own u3 8 (In.cellss ins), .own u4 13 (Bi.cellss bs)], .loc b (psC L q), .loc b2 zPg, .own 102 5 u1, .own 77 6 u2, .own 73 8 u3, .own 112 13 u4]) (fun zz => match zz with | (q, f, Pg.mk da cl ins bs, u1, u2, u3, u4) => POk L 302 q ∧ (q.e = 0 → L.length - q.at_ < f ∧ da.length + cl.length + ins.length + bs.length ≤ q.at_) ∧ progL L f q (Pg.mk da cl ins bs) = (Pg.mk fd fc fi fb, p9)) (fun zz => match zz with | (q, f, Pg.mk da cl ins bs, u1, u2, u3, u4) => f) ((p0, L.length + 1, Pg.mk [] [] [] [], .slice none 0 0, .slice none 0 0, .slice none 0 0, .slice none 0 0))
 ·repeat' (first | exact Ui | apply Ug rfl | apply Uh rfl)
 ·exact ⟨k0, fun _ => ⟨by omega, Nat.zero_le _⟩, e9⟩
 ·exact by4
 ·exact (Vx _ (Ub (Le.nilOwn 5) (Ub (Le.nilOwn 6) (Ub (Le.nilOwn 8) (Ub (Le.nilOwn 13) (Ua _))))) (Vy V))
 rintro ⟨q, f, ⟨da, cl, ins, bs⟩, u1, u2, u3, u4⟩ hI
 try dsimp only [List.cons_append, List.nil_append] at hI ⊢
 obtain ⟨i1, i2, hu⟩ := hI
 have hq1 := i1.1
 have HN := next_c b L q
 have hend := fun h => progL_end (L := L) (f := f) (p := q) (x := Pg.mk da cl ins bs) h
 obtain ⟨⟨qk, qt, qn, qa⟩, hqt⟩ : ∃ t, nxt L q = t := ⟨_, rfl⟩
 have hgo : ∀ f x, q.e = 0 → qk ≠ 0 → progL L (f + 1) q x = progL L f (takeP L (declP L q x).2 7 kSemi).2 (declP L q x).1 := fun f x h1 h2 => by
  rw [progL, hqt, if_neg (fun h => by rcases h with h | h; exact h h1; exact h2 h)]
 rw [hqt] at HN hend
 simp only [Tok.av] at HN hend
 refine Zg (Zg (Xl 20 (q.e = 0 ∧ qk ≠ 0) ?_ _ _ V ?_))
 ·skip
  refine Za 10 V V V (Zd V V (Za 11 V V V (Yk V V (Za 12 V V V (Zh V Vo V (Za 13 V V V (Zp (i := 1) V Xa V V V (Za 14 V V V (Yr V V V ?_))))))))); intro c14 h14
  refine Za 15 V V V (Zd V V ?_)
  rcases Zi h14 with ⟨rfl, g14⟩ | ⟨rfl, g14⟩
  ·skip
   refine Zk 16 V V V V V (Zk 17 V V V V V (Zk 18 V V V V V (Zk 19 V V V V V (Za 20 V V V (Zn V V V (Vs (Ud V ?_ by5 by3)))))))
   clear HN hend hgo HB; first | (simp_all; done) | grind
  skip
  refine Zl 16 V V V V V (Zd V V (Zl 17 V V V V V (Wr (xs := [.tmp 16]) [1] V V V (HN) by1 ?_)))
  refine Zl 18 V V V V V (Va (ft := 3) (fo := 0) V (by kernel_rfl) Xa V V ?_)
  refine Zl 19 V V V V V (Xq V V V ?_); intro c19 h19
  refine Za 20 V V V (Zn V V V (Vs (Ud V ?_ by5 by3)))
  clear HN hend hgo HB; first | (simp_all; done) | grind
 intro c20 h20
 refine Zb ?_
 rcases Zi h20 with ⟨rfl, g20⟩ | ⟨rfl, g20⟩
 ·refine Zr V (Xc (Xe (Xv (Xd (Zb (Zg (Zg ?_)))))))
  have hx2 : q.e ≠ 0 ∨ qk = 0 := by
   rcases Classical.em (q.e = 0) with h | h
   ·exact .inr (Classical.not_not.1 fun h2 => g20 ⟨h, h2⟩)
   exact .inl h
  rw [hend hx2] at hu
  cases hu
  refine Zc (Za 59 V V V (Zd V V (Za 60 V V V (Yk V V (Za 61 V V V (Zh V Vo V (Za 62 V V V (Zp (i := 1) V Xa V V V (Za 63 V V V (Xq V V V ?_)))))))))); intro c63 h63
  refine Vs (Zb ?_)
  rcases Zi h63 with ⟨rfl, g63⟩ | ⟨rfl, g63⟩
  ·refine Zr V (Zv (Zb (Zg (Zc (Za 73 V V V (Zx (cs' := [_, _, _, _]) (i := 0) V ta_55 V V V V (Zs V V (Zq (cs' := [_, _, _, _]) (i := 2) V ts_55 V V V V V (Uf V) V (Za 3 V V V (Ze V V (Za 4 V V V (Ze V V (Vs (Zb (Ya ?_)))))))))))))))
   rw [if_neg g63] at hr; subst hr; exact Yp (i := 2) rfl rfl rfl rfl rfl ta_55 rfl by0 (Vu _) ⟨rfl, rfl⟩
  refine Zt V (Zg (Xu [0, 1, 2, 3, 4, 5, 6, 7, 8, 9, 10, 11] [9] [[], [], [1], [1, 2], [1, 2, 3], [], [5], [5, 6], [5, 6, 7], [0], [0, 1, 2, 3, 4, 9], [0, 1, 2, 3, 4, 5, 6, 7, 8, 9, 10]] Wo V (Yb 64 (none) (i := 0) V V V V V (Yl (ns := []) (xs := []) V tz_55 V tfl_55 V V V V ⟨V, V⟩) ?_)))
  refine Yb 65 (none) (i := 1) V V V V V (Zd V V ⟨V, V⟩) ?_
  refine Yb 66 (none) (i := 2) V V V V V (Yk V V ⟨V, V⟩) ?_
  refine Yb 67 (none) (i := 3) V V V V V (Zh V Vo V ⟨V, V⟩) ?_
  refine Yb 68 (some 1) (i := 4) V V V V V (Zp (i := 0) V Xa V V V ⟨V, V⟩) ?_
  refine Yb 69 (none) (i := 5) V V V V V (Zd V V ⟨V, V⟩) ?_
  refine Yb 70 (none) (i := 6) V V V V V (Yk V V ⟨V, V⟩) ?_
  refine Yb 71 (none) (i := 7) V V V V V (Zh V tf_95_4 V ⟨V, V⟩) ?_
  refine Yb 72 (some 1) (i := 8) V V V V V (Zp (i := 0) V Xa V V V ⟨V, V⟩) ?_
  refine Xn 2 (i := 9) V V V V V (Zq (cs' := [_, _, _, _]) (i := 0) V ts_55 V V V V V (Uf V) V ⟨_, V, ?_⟩)
  refine Yb 3 (none) (i := 10) V V V V V (Ze V V ⟨V, V⟩) ?_
  refine Yb 4 (none) (i := 11) V V V V V (Ze V V ⟨V, V⟩) ?_
  show AGo _ _ _ _ _ _ _
  refine Zb (Ya ?_)
  rw [if_pos g63] at hr; subst hr; exact Yp (i := 2) rfl rfl rfl rfl rfl ta_55 rfl by0 (Vu _) ⟨rfl, rfl⟩
 refine Zt V (Zv (Zb (Zz (Zg (Zg ?_)))))
 obtain ⟨i3, i4⟩ := i2 g20.1
 have hl1 : (Da.cellss da).length ≤ 200000 := by rw [Da.cellss_len]; omega
 have hl2 : (Cl.cellss cl).length ≤ 200000 := by rw [Cl.cellss_len]; omega
 have hl3 : (In.cellss ins).length ≤ 200000 := by rw [In.cellss_len]; omega
 have hl4 : (Bi.cellss bs).length ≤ 200000 := by rw [Bi.cellss_len]; omega
 obtain ⟨f, rfl⟩ : ∃ f', f = f' + 1 := ⟨f - 1, by omega⟩
 rw [hgo f _ g20.1 g20.2] at hu
 have l2 := (decl_adv (Pg.mk da cl ins bs) i1).ok i1
 have b2' := (decl_adv (Pg.mk da cl ins bs) i1).1
 obtain ⟨⟨x, q2⟩, hx⟩ : ∃ r, declP L q (Pg.mk da cl ins bs) = r := ⟨_, rfl⟩
 have hx0 := hx
 unfold declP at hx
 rw [hx0] at hu l2 b2'
 simp only [Pg.da, Pg.cl, Pg.ins, Pg.bs] at hu l2 b2' hx
 have HS := take_c b L hL q2 l2.1 7 kSemi
 have hpr := take_prog (L := L) (p := q2) (kind := 7) (s := kSemi) (by decide)
 have l5 := (Yo (kind := 7) (s := kSemi) (by decide) l2).ok l2
 obtain ⟨⟨u6, q5⟩, f5⟩ : ∃ r, takeP L q2 7 kSemi = r := ⟨_, rfl⟩
 rw [f5] at HS hpr l5 hu
 simp only [Prod.mk.injEq] at HS hpr l5 hu
 refine Zc (Za 21 V V V (Zd V V (Za 22 V V V (op_mayc (xs := [.tmp 21, .const (.string ⟨#[100, 97, 116, 97]⟩)]) (i := 1) V V V (may_c b L hL q kData) by1 ?_ ?_))))
 ·intro g22
  refine Vs (Zb (Zt V ?_))
  rw [if_pos g22] at hx
  have HX := data_c b L hL (stepP q) ((Xo i1 g22).ok i1)
  obtain ⟨⟨⟨xs, xps, xcs, xdv, xp⟩, q3⟩, e3⟩ : ∃ r, dataP L (stepP q) = r := ⟨_, rfl⟩
  rw [e3] at HX hx
  cases hx
  refine Xu [0, 1, 2, 3, 4, 5, 6, 7] [3, 5, 7] [[], [0], [], [2], [2, 3], [0, 1, 2, 3, 4], [0, 1, 2, 3, 4, 5], [0, 1, 2, 3, 4, 5, 6]] Wo V (Yb 23 (none) (i := 0) V V V V V (Zh V tf_55_0 V ⟨V, V⟩) ?_)
  refine Yb 24 (some 0) (i := 1) V V V V V (Zp (i := 0) V ta_34 V V V ⟨V, V⟩) ?_
  refine Yb 25 (none) (i := 2) V V V V V (Zd V V ⟨V, V⟩) ?_
  refine Xn 1 (i := 3) V V V V V (Yi (xs := [.tmp 25]) (i := 0) V V V (HX) by1 ⟨_, V, ?_⟩)
  refine Yb 27 (none) (i := 4) V V V V V (Ye (xs := [.tmp 26]) el_34 V V V V V V (Uf V) ⟨V, V⟩) ?_
  refine Xn 3 (i := 5) V V V V V (Xj (i := 0) el_34 V V V V (.seq _ _) by6 (fun u28 => ⟨_, V, ?_⟩))
  refine Yb 29 (none) (i := 6) V V V V V (Zh V tf_55_0 V ⟨V, V⟩) ?_
  refine Xn 0 (i := 7) V V V V V (Zq (cs' := [_, _, _, _]) (i := 0) V ts_34 V V V V V (Uf V) V ⟨_, V, ?_⟩)
  show AGo _ _ _ _ _ _ _
  refine Zb (Zc (Za 57 V V V (Zd V V (Za 58 V V V (Yi (xs := [.tmp 57, .const (.int .i64 7), .const (.string ⟨#[59]⟩)]) (i := 1) V V V (HS) by1 ?_)))))
  refine Vs (Yt (Yz ?_))
  first
  | exact ⟨(q5, f, Pg.mk (da ++ [Da.mk xs xps xcs xdv xp]) cl ins bs, u28, u2, u3, u4), ⟨l5, (fun e => by obtain ⟨⟨_, h5⟩, _, h6⟩ := hpr e; have b3 : q.at_ ≤ q3.at_ := b2'; rw [h5]; simp only [stepP, List.length_append, List.length_singleton]; omega), hu⟩, Nat.lt_succ_self f, by4, (Vx _ (Ub (Ue (by rw [Da.cellss_app']; rfl)) (Ua _)) (Vy rfl))⟩
  | exact ⟨(q5, f, Pg.mk da (cl ++ [Cl.mk xs xv xsu xms xds xp]) ins bs, u1, u37, u3, u4), ⟨l5, (fun e => by obtain ⟨⟨_, h5⟩, _, h6⟩ := hpr e; have b3 : q.at_ ≤ q3.at_ := b2'; rw [h5]; simp only [stepP, List.length_append, List.length_singleton]; omega), hu⟩, Nat.lt_succ_self f, by4, (Vx _ (Ub (Vz _) (Ub (Ue (by rw [Cl.cellss_app']; rfl)) (Ua _))) (Vy rfl))⟩
  | exact ⟨(q5, f, Pg.mk da cl (ins ++ [In.mk xc (Ty.mk xhk xhs xhn xhl) xcx xbs xp]) bs, u1, u2, u46, u4), ⟨l5, (fun e => by obtain ⟨⟨_, h5⟩, _, h6⟩ := hpr e; have b3 : q.at_ ≤ q3.at_ := b2'; rw [h5]; simp only [stepP, List.length_append, List.length_singleton]; omega), hu⟩, Nat.lt_succ_self f, by4, (Vx _ (Ub (Vz _) (Ub (Vz _) (Ub (Ue (by rw [In.cellss_app']; rfl)) (Ua _)))) (Vy rfl))⟩
  | exact ⟨(q5, f, Pg.mk da cl ins (bs ++ [Bi.mk bn (Ex.mk xk xs xn (Ty.mk xtk xts xtn xtl) xks xal xbs xp) bp]), u1, u2, u3, u55), ⟨l5, (fun e => by obtain ⟨⟨_, h5⟩, _, h6⟩ := hpr e; have b3 : q.at_ ≤ q3.at_ := b2'; rw [h5]; simp only [stepP, List.length_append, List.length_singleton]; omega), hu⟩, Nat.lt_succ_self f, by4, (Vx _ (Ub (Vz _) (Ub (Vz _) (Ub (Vz _) (Ub (Ue by10) (Ua _))))) (Vy rfl))⟩
 intro g22
 refine Vs (Zb (Zr V (Zg (Zc (Za 30 V V V (Zd V V (Za 31 V V V (op_mayc (xs := [.tmp 30, .const (.string ⟨#[99, 108, 97, 115, 115]⟩)]) (i := 1) V V V (may_c b L hL q kClass) by1 ?_ ?_))))))))
 ·intro g31
  refine Vs (Zb (Zt V ?_))
  rw [if_neg g22, if_pos g31] at hx
  have HX := class_c b L hL (stepP q) ((Xo i1 g31).ok i1)
  obtain ⟨⟨⟨xs, xv, xsu, xms, xds, xp⟩, q3⟩, e3⟩ : ∃ r, classP L (stepP q) = r := ⟨_, rfl⟩
  rw [e3] at HX hx
  cases hx
  refine Xu [0, 1, 2, 3, 4, 5, 6, 7] [3, 5, 7] [[], [0], [], [2], [2, 3], [0, 1, 2, 3, 4], [0, 1, 2, 3, 4, 5], [0, 1, 2, 3, 4, 5, 6]] Wo V (Yb 32 (none) (i := 0) V V V V V (Zh V tf_55_1 V ⟨V, V⟩) ?_)
  refine Yb 33 (some 0) (i := 1) V V V V V (Zp (i := 0) V Vm V V V ⟨V, V⟩) ?_
  refine Yb 34 (none) (i := 2) V V V V V (Zd V V ⟨V, V⟩) ?_
  refine Xn 1 (i := 3) V V V V V (Yi (xs := [.tmp 34]) (i := 0) V V V (HX) by1 ⟨_, V, ?_⟩)
  refine Yb 36 (none) (i := 4) V V V V V (Ye (xs := [.tmp 35]) el_35 V V V V V V (Uf V) ⟨V, V⟩) ?_
  refine Xn 4 (i := 5) V V V V V (Xj (i := 0) el_35 V V V V (.seq _ _) by6 (fun u37 => ⟨_, V, ?_⟩))
  refine Yb 38 (none) (i := 6) V V V V V (Zh V tf_55_1 V ⟨V, V⟩) ?_
  refine Xn 0 (i := 7) V V V V V (Zq (cs' := [_, _, _, _]) (i := 0) V ts_35 V V V V V (Uf V) V ⟨_, V, ?_⟩)
  show AGo _ _ _ _ _ _ _
  refine Zb (Zc (Za 57 V V V (Zd V V (Za 58 V V V (Yi (xs := [.tmp 57, .const (.int .i64 7), .const (.string ⟨#[59]⟩)]) (i := 1) V V V (HS) by1 ?_)))))
  refine Vs (Yt (Yz ?_))
  first
  | exact ⟨(q5, f, Pg.mk (da ++ [Da.mk xs xps xcs xdv xp]) cl ins bs, u28, u2, u3, u4), ⟨l5, (fun e => by obtain ⟨⟨_, h5⟩, _, h6⟩ := hpr e; have b3 : q.at_ ≤ q3.at_ := b2'; rw [h5]; simp only [stepP, List.length_append, List.length_singleton]; omega), hu⟩, Nat.lt_succ_self f, by4, (Vx _ (Ub (Ue (by rw [Da.cellss_app']; rfl)) (Ua _)) (Vy rfl))⟩
  | exact ⟨(q5, f, Pg.mk da (cl ++ [Cl.mk xs xv xsu xms xds xp]) ins bs, u1, u37, u3, u4), ⟨l5, (fun e => by obtain ⟨⟨_, h5⟩, _, h6⟩ := hpr e; have b3 : q.at_ ≤ q3.at_ := b2'; rw [h5]; simp only [stepP, List.length_append, List.length_singleton]; omega), hu⟩, Nat.lt_succ_self f, by4, (Vx _ (Ub (Vz _) (Ub (Ue (by rw [Cl.cellss_app']; rfl)) (Ua _))) (Vy rfl))⟩
  | exact ⟨(q5, f, Pg.mk da cl (ins ++ [In.mk xc (Ty.mk xhk xhs xhn xhl) xcx xbs xp]) bs, u1, u2, u46, u4), ⟨l5, (fun e => by obtain ⟨⟨_, h5⟩, _, h6⟩ := hpr e; have b3 : q.at_ ≤ q3.at_ := b2'; rw [h5]; simp only [stepP, List.length_append, List.length_singleton]; omega), hu⟩, Nat.lt_succ_self f, by4, (Vx _ (Ub (Vz _) (Ub (Vz _) (Ub (Ue (by rw [In.cellss_app']; rfl)) (Ua _)))) (Vy rfl))⟩
  | exact ⟨(q5, f, Pg.mk da cl ins (bs ++ [Bi.mk bn (Ex.mk xk xs xn (Ty.mk xtk xts xtn xtl) xks xal xbs xp) bp]), u1, u2, u3, u55), ⟨l5, (fun e => by obtain ⟨⟨_, h5⟩, _, h6⟩ := hpr e; have b3 : q.at_ ≤ q3.at_ := b2'; rw [h5]; simp only [stepP, List.length_append, List.length_singleton]; omega), hu⟩, Nat.lt_succ_self f, by4, (Vx _ (Ub (Vz _) (Ub (Vz _) (Ub (Vz _) (Ub (Ue by10) (Ua _))))) (Vy rfl))⟩
 intro g31
 refine Vs (Zb (Zr V (Zg (Zc (Za 39 V V V (Zd V V (Za 40 V V V (op_mayc (xs := [.tmp 39, .const (.string ⟨#[105, 110, 115, 116, 97, 110, 99, 101]⟩)]) (i := 1) V V V (may_c b L hL q kInst) by1 ?_ ?_))))))))
 ·intro g40
  refine Vs (Zb (Zt V ?_))
  rw [if_neg g22, if_neg g31, if_pos g40] at hx
  have HX := inst_c b L hL (stepP q) ((Xo i1 g40).ok i1)
  obtain ⟨⟨⟨xc, ⟨xhk, xhs, xhn, xhl⟩, xcx, xbs, xp⟩, q3⟩, e3⟩ : ∃ r, instP L (stepP q) = r := ⟨_, rfl⟩
  rw [e3] at HX hx
  simp only [In.cells, Ty.cells, List.cons_append, List.nil_append] at HX
  cases hx
  refine Xu [0, 1, 2, 3, 4, 5, 6, 7] [3, 5, 7] [[], [0], [], [2], [2, 3], [0, 1, 2, 3, 4], [0, 1, 2, 3, 4, 5], [0, 1, 2, 3, 4, 5, 6]] Wo V (Yb 41 (none) (i := 0) V V V V V (Zh V tf_55_2 V ⟨V, V⟩) ?_)
  refine Yb 42 (some 0) (i := 1) V V V V V (Zp (i := 0) V ta_36 V V V ⟨V, V⟩) ?_
  refine Yb 43 (none) (i := 2) V V V V V (Zd V V ⟨V, V⟩) ?_
  refine Xn 1 (i := 3) V V V V V (Yi (xs := [.tmp 43]) (i := 0) V V V (HX) by1 ⟨_, V, ?_⟩)
  refine Yb 45 (none) (i := 4) V V V V V (Ye (xs := [.tmp 44]) el_36 V V V V V V (Uf V) ⟨V, V⟩) ?_
  refine Xn 5 (i := 5) V V V V V (Xj (i := 0) el_36 V V V V (.seq _ _) by6 (fun u46 => ⟨_, V, ?_⟩))
  refine Yb 47 (none) (i := 6) V V V V V (Zh V tf_55_2 V ⟨V, V⟩) ?_
  refine Xn 0 (i := 7) V V V V V (Zq (cs' := [_, _, _, _]) (i := 0) V ts_36 V V V V V (Uf V) V ⟨_, V, ?_⟩)
  show AGo _ _ _ _ _ _ _
  refine Zb (Zc (Za 57 V V V (Zd V V (Za 58 V V V (Yi (xs := [.tmp 57, .const (.int .i64 7), .const (.string ⟨#[59]⟩)]) (i := 1) V V V (HS) by1 ?_)))))
  refine Vs (Yt (Yz ?_))
  first
  | exact ⟨(q5, f, Pg.mk (da ++ [Da.mk xs xps xcs xdv xp]) cl ins bs, u28, u2, u3, u4), ⟨l5, (fun e => by obtain ⟨⟨_, h5⟩, _, h6⟩ := hpr e; have b3 : q.at_ ≤ q3.at_ := b2'; rw [h5]; simp only [stepP, List.length_append, List.length_singleton]; omega), hu⟩, Nat.lt_succ_self f, by4, (Vx _ (Ub (Ue (by rw [Da.cellss_app']; rfl)) (Ua _)) (Vy rfl))⟩
  | exact ⟨(q5, f, Pg.mk da (cl ++ [Cl.mk xs xv xsu xms xds xp]) ins bs, u1, u37, u3, u4), ⟨l5, (fun e => by obtain ⟨⟨_, h5⟩, _, h6⟩ := hpr e; have b3 : q.at_ ≤ q3.at_ := b2'; rw [h5]; simp only [stepP, List.length_append, List.length_singleton]; omega), hu⟩, Nat.lt_succ_self f, by4, (Vx _ (Ub (Vz _) (Ub (Ue (by rw [Cl.cellss_app']; rfl)) (Ua _))) (Vy rfl))⟩
  | exact ⟨(q5, f, Pg.mk da cl (ins ++ [In.mk xc (Ty.mk xhk xhs xhn xhl) xcx xbs xp]) bs, u1, u2, u46, u4), ⟨l5, (fun e => by obtain ⟨⟨_, h5⟩, _, h6⟩ := hpr e; have b3 : q.at_ ≤ q3.at_ := b2'; rw [h5]; simp only [stepP, List.length_append, List.length_singleton]; omega), hu⟩, Nat.lt_succ_self f, by4, (Vx _ (Ub (Vz _) (Ub (Vz _) (Ub (Ue (by rw [In.cellss_app']; rfl)) (Ua _)))) (Vy rfl))⟩
  | exact ⟨(q5, f, Pg.mk da cl ins (bs ++ [Bi.mk bn (Ex.mk xk xs xn (Ty.mk xtk xts xtn xtl) xks xal xbs xp) bp]), u1, u2, u3, u55), ⟨l5, (fun e => by obtain ⟨⟨_, h5⟩, _, h6⟩ := hpr e; have b3 : q.at_ ≤ q3.at_ := b2'; rw [h5]; simp only [stepP, List.length_append, List.length_singleton]; omega), hu⟩, Nat.lt_succ_self f, by4, (Vx _ (Ub (Vz _) (Ub (Vz _) (Ub (Vz _) (Ub (Ue by10) (Ua _))))) (Vy rfl))⟩
 intro g40
 refine Vs (Zb (Zr V (Zg ?_)))
 rw [if_neg g22, if_neg g31, if_neg g40] at hx
 have HD := take_c b L hL q hq1 6 kDef
 have l1 := (Yo (kind := 6) (s := kDef) (by decide) i1).ok i1
 obtain ⟨⟨u7, q1⟩, f1⟩ : ∃ r, takeP L q 6 kDef = r := ⟨_, rfl⟩
 rw [f1] at HD l1 hx
 simp only [] at HD l1 hx
 have HX := bindP_c b L hL q1 l1
 obtain ⟨⟨⟨bn, ⟨xk, xs, xn, ⟨xtk, xts, xtn, xtl⟩, xks, xal, xbs, xp⟩, bp⟩, q3⟩, e3⟩ : ∃ r, bindP L q1 = r := ⟨_, rfl⟩
 rw [e3] at HX hx
 simp only [Bi.cells, Ex.cells, Ty.cells, List.cons_append, List.nil_append] at HX
 cases hx
 refine Zc (Za 48 V V V (Zd V V (Za 49 V V V (Yi (xs := [.tmp 48, .const (.int .i64 6), .const (.string ⟨#[100, 101, 102]⟩)]) (i := 1) V V V (HD) by1 ?_))))
 refine Vs (Zb (Xu [0, 1, 2, 3, 4, 5, 6, 7] [3, 5, 7] [[], [0], [], [2], [2, 3], [0, 1, 2, 3, 4], [0, 1, 2, 3, 4, 5], [0, 1, 2, 3, 4, 5, 6]] Wo V (Yb 50 (none) (i := 0) V V V V V (Zh V tf_55_3 V ⟨V, V⟩) ?_)))
 refine Yb 51 (some 0) (i := 1) V V V V V (Zp (i := 0) V ta_53 V V V ⟨V, V⟩) ?_
 refine Yb 52 (none) (i := 2) V V V V V (Zd V V ⟨V, V⟩) ?_
 refine Xn 1 (i := 3) V V V V V (Yi (xs := [.tmp 52]) (i := 0) V V V (HX) by1 ⟨_, V, ?_⟩)
 refine Yb 54 (none) (i := 4) V V V V V (Ye (xs := [.tmp 53]) el_53 V V V V V V (Uf V) ⟨V, V⟩) ?_
 refine Xn 6 (i := 5) V V V V V (Xj (i := 0) el_53 V V V V (.seq _ _) by6 (fun u55 => ⟨_, V, ?_⟩))
 refine Yb 56 (none) (i := 6) V V V V V (Zh V tf_55_3 V ⟨V, V⟩) ?_
 refine Xn 0 (i := 7) V V V V V (Zq (cs' := [_, _, _, _]) (i := 0) V ts_53 V V V V V (Uf V) V ⟨_, V, ?_⟩)
 show AGo _ _ _ _ _ _ _
 refine Zb (Zc (Za 57 V V V (Zd V V (Za 58 V V V (Yi (xs := [.tmp 57, .const (.int .i64 7), .const (.string ⟨#[59]⟩)]) (i := 1) V V V (HS) by1 ?_)))))
 refine Vs (Yt (Yz ?_))
 first
 | exact ⟨(q5, f, Pg.mk (da ++ [Da.mk xs xps xcs xdv xp]) cl ins bs, u28, u2, u3, u4), ⟨l5, (fun e => by obtain ⟨⟨_, h5⟩, _, h6⟩ := hpr e; have b3 : q.at_ ≤ q3.at_ := b2'; rw [h5]; simp only [stepP, List.length_append, List.length_singleton]; omega), hu⟩, Nat.lt_succ_self f, by4, (Vx _ (Ub (Ue (by rw [Da.cellss_app']; rfl)) (Ua _)) (Vy rfl))⟩
 | exact ⟨(q5, f, Pg.mk da (cl ++ [Cl.mk xs xv xsu xms xds xp]) ins bs, u1, u37, u3, u4), ⟨l5, (fun e => by obtain ⟨⟨_, h5⟩, _, h6⟩ := hpr e; have b3 : q.at_ ≤ q3.at_ := b2'; rw [h5]; simp only [stepP, List.length_append, List.length_singleton]; omega), hu⟩, Nat.lt_succ_self f, by4, (Vx _ (Ub (Vz _) (Ub (Ue (by rw [Cl.cellss_app']; rfl)) (Ua _))) (Vy rfl))⟩
 | exact ⟨(q5, f, Pg.mk da cl (ins ++ [In.mk xc (Ty.mk xhk xhs xhn xhl) xcx xbs xp]) bs, u1, u2, u46, u4), ⟨l5, (fun e => by obtain ⟨⟨_, h5⟩, _, h6⟩ := hpr e; have b3 : q.at_ ≤ q3.at_ := b2'; rw [h5]; simp only [stepP, List.length_append, List.length_singleton]; omega), hu⟩, Nat.lt_succ_self f, by4, (Vx _ (Ub (Vz _) (Ub (Vz _) (Ub (Ue (by rw [In.cellss_app']; rfl)) (Ua _)))) (Vy rfl))⟩
 | exact ⟨(q5, f, Pg.mk da cl ins (bs ++ [Bi.mk bn (Ex.mk xk xs xn (Ty.mk xtk xts xtn xtl) xks xal xbs xp) bp]), u1, u2, u3, u55), ⟨l5, (fun e => by obtain ⟨⟨_, h5⟩, _, h6⟩ := hpr e; have b3 : q.at_ ≤ q3.at_ := b2'; rw [h5]; simp only [stepP, List.length_append, List.length_singleton]; omega), hu⟩, Nat.lt_succ_self f, by4, (Vx _ (Ub (Vz _) (Ub (Vz _) (Ub (Vz _) (Ub (Ue by10) (Ua _))))) (Vy rfl))⟩
def envR (s : ByteArray) : En × Bool :=
 if 3000 < (s.size : Int) then (.mk [] [] [], false)
 else if (progT s).2.1 ≠ 0 ∨ (checkR (progT s).1).1 ≠ 0 then (.mk [] [] [], false)
 else (envOf (progT s).1, decide ((progT s).1.cl.length ≤ 12 ∧ (progT s).1.ins.length ≤ 30))
theorem envR_ok {s : ByteArray} (h : (envR s).2 = true) : EnC (envR s).1 ∧ (envR s).1.cl.length ≤ 12 ∧ (envR s).1.ins.length ≤ 30 := by
 unfold envR at h ⊢
 split at h
 ·simp at h
 rename_i h1
 split at h
 ·simp at h
 rename_i h2
 rw [if_neg h1, if_neg h2]
 simp only [decide_eq_true_eq] at h
 refine ⟨check_c (progT_g s).1 (by omega), ?_⟩
 generalize (progT s).1 = x at h
 obtain ⟨da, cl, ins, bs⟩ := x
 exact h
theorem Env_c (s : ByteArray) : PCall Tryz.prog 9 [.val (.string s)] (.tup [.agg (envR s).1.cells, .val (.bool (envR s).2)]) := by
 have HP := Prog_c s
 have HC := fun (p : Pg) hp hb => Check_c p hp hb
 obtain ⟨hg, hb⟩ := progT_g s
 have HC := HC _ hg.b hb
 obtain ⟨r, hr⟩ : ∃ r, envR s = r := ⟨_, rfl⟩
 rw [hr]
 unfold envR at hr
 unfold progR at HP
 generalize progT s = o at *
 obtain ⟨⟨da, cl, ins, bs⟩, e, w⟩ := o
 generalize checkR (.mk da cl ins bs) = f at *
 obtain ⟨f1, f2⟩ := f
 have hcl := Cl.cellss_len cl
 have hin := In.cellss_len ins
 simp only [Pg.cells, faultA] at HP HC
 refine Zw Tryz.func9 V (by kernel_rfl) V (Uf V) ?_
 refine Yf (Zg (Zc (Za 2 V V V (Zy (cs' := [_, _, _]) V tz_38 V V ?_)))); intro b2
 refine Za 3 V V V (Ze V V (Vs (Zb (Zg (Zg (Zc (Za 7 V V V (Zd V V (Za 8 V V V (Xs V Ws V (Za 9 V V V (Ww V V V ?_)))))))))))); intro c9 h9
 refine Vs (Zb ?_)
 rcases Zi h9 with ⟨rfl, g9⟩ | ⟨rfl, g9⟩
 ·refine Zr V (Zv (Zb (Zg ?_)))
  rw [if_neg g9] at hr
  refine Zc (Za 12 V V V (Zd V V (Za 13 V V V (Ym (xs := [.tmp 12]) V V (HP) by1 ?_))))
  refine Za 11 V V V (Zd V V (Za 14 V V V (Yv V V V (Za 15 V V V (Yv V V V (Za 16 V V V (Yv V V V (Za 4 V V V (Zy (cs' := [_, _, _, _]) V tz_55 V V ?_))))))))); intro b4
  refine Zs V V (Zq (cs' := [_, _, _, _]) (i := 0) V ts_55 V V V V V (Uf V) V (Za 5 V V V (Ze V V (Za 6 V V V (Ze V V (Vs (Zb (Zg (Zg (Xl 24 (e ≠ 0 ∨ f1 ≠ 0) ?_ _ _ V ?_))))))))))
  ·skip
   refine Za 17 V V V (Zd V V (Za 18 V V V (Xq V V V ?_))); intro c18 h18
   refine Za 19 V V V (Zd V V ?_)
   rcases Zi h18 with ⟨rfl, g18⟩ | ⟨rfl, g18⟩
   ·skip
    refine Zl 20 V V V V V (Zx (cs' := [_, _, _, _]) (i := 0) V ta_55 V V V V (Zl 21 V V V V V (Ym (xs := [.tmp 20]) V V (HC) by1 ?_)))
    refine Zl 22 V V V V V (Va (ft := 3) (fo := 0) V (by kernel_rfl) Xa V V ?_)
    refine Zl 23 V V V V V (Xq V V V ?_); intro c23 h23
    refine Za 24 V V V (Zn V V V (Vs (Ud V ?_ by5 by3)))
    first | (simp_all; done) | (simp_all; omega) | grind
   skip
   refine Zk 20 V V V V V (Zk 21 V V V V V (Zk 22 V V V V V (Zk 23 V V V V V (Za 24 V V V (Zn V V V (Vs (Ud V ?_ by5 by3)))))))
   first | (simp_all; done) | (simp_all; omega) | grind
  intro c24 h24
  refine Zb ?_
  rcases Zi h24 with ⟨rfl, g24⟩ | ⟨rfl, g24⟩
  ·refine Zr V (Zv (Zb (Zg ?_)))
   rw [if_neg g24] at hr
   refine Xu [0, 1, 2, 3, 4, 5, 6, 7, 8, 9, 10, 11, 12, 13, 14, 15, 16, 17, 18] [17] [[], [0], [], [2], [], [4], [0, 1, 2, 3, 4, 5], [], [7], [7, 8], [7, 8, 9], [7, 8, 9, 10], [7, 8, 9, 10, 11], [7, 8, 9, 10, 11, 12], [7, 8, 9, 10, 11, 12, 13], [7, 8, 9, 10, 11, 12, 13, 14], [7, 8, 9, 10, 11, 12, 13, 14, 15], [0, 1, 2, 3, 4, 5, 6, 7, 8, 9, 10, 11], [0, 1, 2, 3, 4, 5, 6, 7, 8, 9, 10, 11, 12, 13, 14, 15, 16, 17]] Wo V (Yb 26 (none) (i := 0) V V V V V (Zh V tf_55_0 V ⟨V, V⟩) ?_)
   refine Yb 27 (some 0) (i := 1) V V V V V (Zp (i := 0) V ta_34 V V V ⟨V, V⟩) ?_
   refine Yb 28 (none) (i := 2) V V V V V (Zh V tf_55_1 V ⟨V, V⟩) ?_
   refine Yb 29 (some 0) (i := 3) V V V V V (Zp (i := 0) V Vm V V V ⟨V, V⟩) ?_
   refine Yb 30 (none) (i := 4) V V V V V (Zh V tf_55_2 V ⟨V, V⟩) ?_
   refine Yb 31 (some 0) (i := 5) V V V V V (Zp (i := 0) V ta_36 V V V ⟨V, V⟩) ?_
   refine Yb 32 (none) (i := 6) V V V V V (Yl (ns := [0, 1, 2]) (xs := [.tmp 27, .tmp 29, .tmp 31]) V tz_38 V tfl_38 V V V V ⟨V, V⟩) ?_
   refine Yb 33 (none) (i := 7) V V V V V (Zh V tf_55_1 V ⟨V, V⟩) ?_
   refine Yb 34 (some 0) (i := 8) V V V V V (Zp (i := 0) V Vm V V V ⟨V, V⟩) ?_
   refine Yb 35 none (i := 9) V V V V V (Yy V tu_35 V (.seq _ _) (fun _ => ⟨V, V⟩)) ?_
   refine EOps.cm 36 (i := 10) V V V V (fun _ q => op_leq V V V q) ?_; intro c36 h36
   refine Yb 37 (none) (i := 11) V V V V V (Zd V V ⟨V, V⟩) ?_
   rcases Zi h36 with ⟨rfl, g36⟩ | ⟨rfl, g36⟩
   ·skip
    refine EOps.df 38 (i := 12) V V V V V V (EOps.df 39 (i := 13) V V V V V V (EOps.df 40 (i := 14) V V V V V V (EOps.df 41 (i := 15) V V V V V V (Yb 42 (none) (i := 16) V V V V V (Zn V V V ⟨V, V⟩) ?_))))
    refine Xn 1 (i := 17) V V V V V (Zq (cs' := [_, _, _]) (i := 0) V ts_38 V V V V V (Uf V) V ⟨_, V, ?_⟩)
    refine Yb 3 (none) (i := 18) V V V V V (Ze V V ⟨V, V⟩) ?_
    show AGo _ _ _ _ _ _ _
    refine Zb (Ya ?_)
    have hr : (En.mk da cl ins, decide (cl.length ≤ 12 ∧ ins.length ≤ 30)) = r := hr
    first
     | (have hd : decide (cl.length ≤ 12 ∧ ins.length ≤ 30) = false := decide_eq_false (by omega)
        rw [hd] at hr; subst hr
        exact Wz (i := 1) V V V V Xw V by0 (Vu _) ⟨V, V⟩)
     | (rcases Zi h41 with ⟨rfl, g41⟩ | ⟨rfl, g41⟩
        ·have hd : decide (cl.length ≤ 12 ∧ ins.length ≤ 30) = false := decide_eq_false (by omega)
         rw [hd] at hr; subst hr
         exact Wz (i := 1) V V V V Xw V by0 (Vu _) ⟨V, V⟩
        have hd : decide (cl.length ≤ 12 ∧ ins.length ≤ 30) = true := decide_eq_true (by omega)
        rw [hd] at hr; subst hr
        exact Wz (i := 1) V V V V Xw V by0 (Vu _) ⟨V, V⟩)
   skip
   refine EOps.dg 38 (none) (i := 12) V V V V V V V (Zh V tf_55_2 V ⟨V, V⟩) ?_
   refine EOps.dg 39 (some 0) (i := 13) V V V V V V V (Zp (i := 0) V ta_36 V V V ⟨V, V⟩) ?_
   refine EOps.dg 40 none (i := 14) V V V V V V V (Yy V tu_36 V (.seq _ _) (fun _ => ⟨V, V⟩)) ?_
   refine EOps.cmg 41 (i := 15) V V V V V V (fun _ q => op_leq V V V q) ?_; intro c41 h41
   refine Yb 42 (none) (i := 16) V V V V V (Zn V V V ⟨V, V⟩) ?_
   refine Xn 1 (i := 17) V V V V V (Zq (cs' := [_, _, _]) (i := 0) V ts_38 V V V V V (Uf V) V ⟨_, V, ?_⟩)
   refine Yb 3 (none) (i := 18) V V V V V (Ze V V ⟨V, V⟩) ?_
   show AGo _ _ _ _ _ _ _
   refine Zb (Ya ?_)
   have hr : (En.mk da cl ins, decide (cl.length ≤ 12 ∧ ins.length ≤ 30)) = r := hr
   first
    | (have hd : decide (cl.length ≤ 12 ∧ ins.length ≤ 30) = false := decide_eq_false (by omega)
       rw [hd] at hr; subst hr
       exact Wz (i := 1) V V V V Xw V by0 (Vu _) ⟨V, V⟩)
    | (rcases Zi h41 with ⟨rfl, g41⟩ | ⟨rfl, g41⟩
       ·have hd : decide (cl.length ≤ 12 ∧ ins.length ≤ 30) = false := decide_eq_false (by omega)
        rw [hd] at hr; subst hr
        exact Wz (i := 1) V V V V Xw V by0 (Vu _) ⟨V, V⟩
       have hd : decide (cl.length ≤ 12 ∧ ins.length ≤ 30) = true := decide_eq_true (by omega)
       rw [hd] at hr; subst hr
       exact Wz (i := 1) V V V V Xw V by0 (Vu _) ⟨V, V⟩)
  refine Zt V (Zg (Zc (Za 25 V V V (Yl (ns := []) (xs := []) V tz_38 V tfl_38 V V V V (Zs V V (Zq (cs' := [_, _, _]) (i := 1) V ts_38 V V V V V (Uf V) V (Za 3 V V V (Ze V V (Vs (Zb (Ya ?_)))))))))))
  rw [if_pos g24] at hr; subst hr; exact Wz (i := 1) rfl rfl rfl rfl Xw rfl by0 (Vu _) ⟨rfl, rfl⟩
 refine Zt V (Zg (Zc (Za 10 V V V (Yl (ns := []) (xs := []) V tz_38 V tfl_38 V V V V (Zs V V (Zq (cs' := [_, _, _]) (i := 0) V ts_38 V V V V V (Uf V) V (Za 3 V V V (Ze V V (Vs (Zb (Ya ?_)))))))))))
 rw [if_pos g9] at hr; subst hr; exact Wz (i := 0) rfl rfl rfl rfl Xw rfl by0 (Vu _) ⟨rfl, rfl⟩
end Go.Proofs.YtknodnfbaofngaaGreat
namespace Go.Proofs.YtknodnfbaofngaaGreat
structure EnS (v : En) : Prop where
 cls : ∀ (i : Nat) (c : Cl), v.cl[i]? = some c → classI v c.s = i
 ar : ∀ x ∈ v.ins, arityR v x.hd.name = x.hd.kids.length
 nd : ∀ x ∈ v.ins, (varsR x).Nodup
 sup : ∀ x ∈ v.ins, ∀ s ∈ supersOf v x.c, ∃ (i : Nat) (y : In), v.ins[i]? = some y ∧ y.c = s ∧ y.hd.name = x.hd.name ∧ ∀ p ∈ y.cx, ∀ (j : Nat) (t : Ty), y.hd.kids[j]? = some t → t.name = p.t.name → ∃ q ∈ x.cx, q.t.name = ((x.hd.kids[j]?).map Ty.name).getD kE ∧ (q.c = p.c ∨ p.c ∈ aboveR v q.c)
theorem classes1_all : ∀ (l : List Cl) (met : List ByteArray), (classes1 met l).1 = 0 → (∀ c ∈ l, c.s ∉ met) ∧ (l.map Cl.s).Nodup
 | [], _, _ => ⟨by simp, by simp⟩
 | c :: l, met, h => by
  rw [classes1] at h
  split at h
  ·simp at h
  rename_i hc
  obtain ⟨h1, h2⟩ := classes1_all l _ h
  refine ⟨fun d hd => ?_, ?_⟩
  ·rcases List.mem_cons.1 hd with rfl | hd
   ·exact fun q => hc (hasB_iff.2 q)
   exact fun q => h1 d hd (List.mem_append_left _ q)
  rw [List.map_cons, List.nodup_cons]
  refine ⟨fun q => ?_, h2⟩
  obtain ⟨d, hd, e⟩ := List.mem_map.1 q
  exact h1 d hd (by rw [e]; simp)
theorem nodup_inj {α : Type} : ∀ {l : List α}, l.Nodup → ∀ {i j : Nat} {x : α}, l[i]? = some x → l[j]? = some x → i = j
 | [], _, i, j, x, hi, _ => by simp at hi
 | y :: l, h, i, j, x, hi, hj => by
  rw [List.nodup_cons] at h
  cases i with
  | zero =>
   cases j with
   | zero => rfl
   | succ j =>
    simp at hi hj
    subst hi
    exact absurd (Uk hj) h.1
  | succ i =>
   cases j with
   | zero =>
    simp at hi hj
    subst hj
    exact absurd (Uk hi) h.1
   | succ j =>
    simp at hi hj
    rw [nodup_inj h.2 hi hj]
theorem headL_all : ∀ (l : List Ty) (pre : List ByteArray), headL pre l = 0 → (∀ t ∈ l, t.name ∉ pre) ∧ (l.map Ty.name).Nodup
 | [], _, _ => ⟨by simp, by simp⟩
 | t :: l, pre, h => by
  rw [headL] at h
  split at h
  ·simp at h
  rename_i hc
  obtain ⟨h1, h2⟩ := headL_all l _ h
  refine ⟨fun d hd => ?_, ?_⟩
  ·rcases List.mem_cons.1 hd with rfl | hd
   ·exact fun q => hc (.inr (.inr (hasB_iff.2 q)))
   exact fun q => h1 d hd (List.mem_append_left _ q)
  rw [List.map_cons, List.nodup_cons]
  refine ⟨fun q => ?_, h2⟩
  obtain ⟨d, hd, e⟩ := List.mem_map.1 q
  exact h1 d hd (by rw [e]; simp)
theorem instR_head {v : En} {i : Nat} {x : In} (h : (instR v i x).1 = 0) : headR v x = 0 := by
 unfold instR at h
 split at h
 ·simp at h
 rename_i hc
 cases hq : v.cl[(classI v x.c).toNat]? with
 | none =>
  obtain ⟨y, h1, _⟩ := Vq (fun (c : Cl) => sameB c.s x.c) v.cl 0 (by unfold classI at hc; omega)
  unfold classI at hq
  simp at h1
  rw [hq] at h1; cases h1
 | some c =>
  rw [hq] at h
  simp only [] at h
  unfold instR1 at h
  split at h
  ·rename_i h1; exact absurd h h1
  rename_i h1
  omega
theorem supA_all {v : En} {x : In} {p : Pr} : ∀ (l : List Ty) (j : Nat), supA v x p l j = true → ∀ (k : Nat) (t : Ty), l[k]? = some t → t.name = p.t.name → givenR v x p.c (((x.hd.kids[j + k]?).map Ty.name).getD kE) = true
 | [], _, _, k, t, h, _ => by simp at h
 | u :: l, j, h, k, t, hk, hn => by
  rw [supA] at h
  split at h
  ·simp at h
  rename_i hc
  cases k with
  | zero =>
   simp at hk; subst hk
   cases q : givenR v x p.c (((x.hd.kids[j + 0]?).map Ty.name).getD kE) with
   | true => rfl
   | false => exact absurd ⟨Wt.2 hn, q⟩ hc
  | succ k =>
   have := supA_all l (j + 1) h k t (by simpa using hk) hn
   rwa [show j + (k + 1) = j + 1 + k by omega]
theorem supB_all {v : En} {x y : In} : ∀ l : List Pr, supB v x y l = true → ∀ p ∈ l, supA v x p y.hd.kids 0 = true
 | [], _, p, h => by simp at h
 | q :: l, h, p, hp => by
  rw [supB] at h
  split at h
  ·simp at h
  rename_i hc
  rcases List.mem_cons.1 hp with rfl | hp
  ·simpa using hc
  exact supB_all l h p hp
theorem instI_hitS {v : En} {c s : ByteArray} (h : 0 ≤ instI v c s) : ∃ y, v.ins[(instI v c s).toNat]? = some y ∧ y.c = c ∧ y.hd.name = s := by
 obtain ⟨y, h1, h2, _⟩ := Vq (fun (x : In) => sameB x.c c && sameB x.hd.name s) v.ins 0 h
 simp only [Bool.and_eq_true, Wt] at h2
 exact ⟨y, h1, h2⟩
theorem supC_all {v : En} {x : In} : ∀ l : List ByteArray, supC v x l = true → ∀ s ∈ l, ∃ (i : Nat) (y : In), v.ins[i]? = some y ∧ y.c = s ∧ y.hd.name = x.hd.name ∧ supB v x y y.cx = true
 | [], _, s, h => by simp at h
 | u :: l, h, s, hs => by
  rw [supC] at h
  split at h
  ·simp at h
  rename_i y hy
  split at h
  ·simp at h
  rename_i hi
  split at h
  ·simp at h
  rename_i hb
  rcases List.mem_cons.1 hs with rfl | hs
  ·obtain ⟨z, h1, h2, h3⟩ := instI_hitS (v := v) (c := s) (s := x.hd.name) (by omega)
   rw [hy] at h1
   cases h1
   exact ⟨_, y, hy, h2, h3, by simpa using hb⟩
  exact supC_all l h s hs
theorem insts2_all {v : En} : ∀ l : List In, (insts2 v l).1 = 0 → ∀ x ∈ l, supersR v x = true
 | [], _, x, h => by simp at h
 | y :: l, h, x, hx => by
  rw [insts2] at h
  split at h
  ·simp at h
  rename_i hc
  rcases List.mem_cons.1 hx with rfl | hx
  ·simpa using hc
  exact insts2_all l h x hx
theorem check_s {p : Pg} (h : (checkR p).1 = 0) : EnS (envOf p) := by
 unfold checkR at h
 dsimp only at h
 split at h
 ·rename_i q; exact absurd h q
 split at h
 ·rename_i q; exact absurd h q
 split at h
 ·rename_i q; exact absurd h q
 split at h
 ·rename_i q; exact absurd h q
 rename_i hcl hin hin2
 have hcl : (classesR (envOf p)).1 = 0 := by omega
 have hin : (insts1 (envOf p) 0 (envOf p).ins).1 = 0 := by omega
 have hin2 : (insts2 (envOf p) (envOf p).ins).1 = 0 := by omega
 generalize envOf p = v at *
 have hhd : ∀ x ∈ v.ins, headR v x = 0 := fun x hx => by
  obtain ⟨i, hi⟩ := List.mem_iff_getElem?.1 hx
  have := insts1_all _ _ 0 hin i x hi
  exact instR_head this
 refine ⟨fun i c hc => ?_, fun x hx => ?_, fun x hx => ?_, fun x hx s hs => ?_⟩
 ·unfold classesR at hcl
  split at hcl
  ·rename_i q; exact absurd hcl q
  rename_i q
  have hnd := (classes1_all v.cl [] (by omega)).2
  have h2 := findI_min (fun (y : Cl) => sameB y.s c.s) v.cl 0 i c hc (by simp [sameB])
  obtain ⟨y, h3, h4, _⟩ := Vq (fun (y : Cl) => sameB y.s c.s) v.cl 0 h2.2
  have h3 : v.cl[(classI v c.s).toNat]? = some y := h3
  have := nodup_inj hnd (i := (classI v c.s).toNat) (j := i) (x := c.s) (by rw [List.getElem?_map, h3, ← Wt.1 h4]; rfl) (by rw [List.getElem?_map, hc]; rfl)
  unfold classI at *
  omega
 ·have := hhd x hx
  unfold headR at this
  split at this
  ·simp at this
  split at this
  ·simp at this
  rename_i q
  omega
 ·have := hhd x hx
  unfold headR at this
  split at this
  ·simp at this
  split at this
  ·simp at this
  exact (headL_all _ _ this).2
 obtain ⟨i, y, h1, h2, h3, h4⟩ := supC_all _ (insts2_all _ hin2 x hx) s hs
 refine ⟨i, y, h1, h2, h3, fun p hp j t hj hn => ?_⟩
 have := supA_all _ _ (supB_all _ h4 p hp) j t hj hn
 unfold givenR at this
 rw [List.any_eq_true] at this
 obtain ⟨q, hq, hh⟩ := this
 simp only [Bool.and_eq_true, Bool.or_eq_true, Wt, hasB_iff] at hh
 rw [Nat.zero_add] at hh
 exact ⟨q, hq, hh⟩
theorem envR_oks {s : ByteArray} (h : (envR s).2 = true) : EnS (envR s).1 := by
 unfold envR at h ⊢
 split at h
 ·simp at h
 rename_i h1
 split at h
 ·simp at h
 rename_i h2
 rw [if_neg h1, if_neg h2]
 exact check_s (by omega)
theorem firstAt_nd {s : ByteArray} : ∀ {l : List ByteArray} {j : Nat} (k : Nat), l.Nodup → l[j]? = some s → firstAt s l k = ((k + j : Nat) : Int)
 | [], j, k, _, h => by simp at h
 | y :: l, 0, k, _, h => by
  simp at h; subst h
  rw [firstAt, if_pos rfl, Nat.add_zero]
 | y :: l, j + 1, k, hn, h => by
  simp at h
  rw [List.nodup_cons] at hn
  rw [firstAt, if_neg (fun e => hn.1 (by rw [← e]; exact Uk h)), firstAt_nd (k + 1) hn.2 h]
  congr 1
  omega
theorem need_put {x : In} (hn : (varsR x).Nodup) {s : ByteArray} {j : Nat} {tl : List Ty} {tj : Ty} (hj : (varsR x)[j]? = some s) (ht : tl[j]? = some tj) : (Ty.mk 1 s 0 []).turn (putO (varsR x) tl) = tj := by
 have h := firstAt_nd 0 hn hj
 rw [Nat.zero_add] at h
 exact Ty.turn_some (by rw [putO_in h]; exact ht)
theorem prove_edge {v : En} (hv : EnC v) (hs : EnS v) {gs : List Pr} : ∀ (n : Nat) (c s : ByteArray) (t : Ty), t.size < n → Edge v c s → (proveF v gs n (.mk c t)).2 = true → (proveF v gs n (.mk s t)).2 = true
 | 0, _, _, _, h, _, _ => by omega
 | n + 1, c, s, t, hz, he, h => by
  have UP : ∀ {a b : ByteArray} {u : Ty}, u.size < n → Up v a b → (proveF v gs n (.mk a u)).2 = true → (proveF v gs n (.mk b u)).2 = true := by
   intro a b u hu k
   induction k with
   | one e => exact prove_edge hv hs n _ _ u hu e
   | step e _ ih => exact fun h => ih (prove_edge hv hs n _ _ u hu e h)
  rw [prove_iff] at h ⊢
  rcases h with h | ⟨h1, h2⟩ | ⟨g, hg, h3, h4⟩
  ·exact .inr (.inr ⟨_, h, V, (above_iff v c s).2 (.one he)⟩)
  ·have h0 : 0 ≤ instI v c t.name := by unfold fitsR at h1; exact (of_decide_eq_true h1).1
   obtain ⟨x, hx, hxc, hxn⟩ := instI_hitS h0
   obtain ⟨f1, f2, f3, f4⟩ := (fits_iff hv (p := .mk c t) (i := (instI v c t.name).toNat) hx).2 ⟨h1, by show instI v c t.name = _; omega⟩
   have hmx := Uk hx
   obtain ⟨i, y, hy, hyc, hyn, hsup⟩ := hs.sup x hmx s (by rw [hxc]; exact he.2)
   have hmy := Uk hy
   have hlen : y.hd.kids.length = x.hd.kids.length := by
    have a1 := hs.ar x hmx
    have a2 := hs.ar y hmy
    rw [hyn] at a2
    omega
   obtain ⟨k1, k2⟩ := (fits_iff hv (p := .mk s t) (i := i) hy).1 ⟨hyc, f2, by show y.hd.name = t.name; rw [hyn, hxn], by show y.hd.kids.length = t.kids.length; rw [hlen]; exact f4⟩
   have f2 : t.kind = 3 := f2
   have f4 : x.hd.kids.length = t.kids.length := f4
   refine .inr (.inl ⟨k1, fun q hq => ?_⟩)
   have k2 : instI v s t.name = i := k2
   have hq : q ∈ needsR v (instI v s t.name) t := hq
   rw [k2, needsR_in hy, if_neg (fun e => e.elim (fun e => e f2) (fun e => by omega))] at hq
   obtain ⟨p, hp, rfl⟩ := List.mem_map.1 hq
   have hpv := hv.var y hmy p hp
   obtain ⟨a, b, rfl⟩ := hv.g.cv y hmy p hp
   obtain ⟨j, hj⟩ := List.mem_iff_getElem?.1 hpv
   have hj : (varsR y)[j]? = some b := hj
   have hjl := Vf hj
   have hjl2 : j < y.hd.kids.length := by unfold varsR at hjl; rwa [List.length_map] at hjl
   obtain ⟨tj, htj⟩ := Yw (l := t.kids) (i := j) (by omega)
   obtain ⟨u, hu⟩ := Yw (l := y.hd.kids) (i := j) hjl2
   obtain ⟨w, hw⟩ := Yw (l := x.hd.kids) (i := j) (by omega)
   have hun : u.name = b := by
    unfold varsR at hj
    rw [List.getElem?_map, hu] at hj
    exact Option.some.inj hj
   obtain ⟨q, hqx, hqn, hqc⟩ := hsup _ hp j u hu hun
   rw [hw] at hqn
   have hqn : q.t.name = w.name := hqn
   obtain ⟨a2, b2, rfl⟩ := hv.g.cv x hmx q hqx
   have hwj : (varsR x)[j]? = some b2 := by
    unfold varsR
    rw [List.getElem?_map, hw, show b2 = w.name from hqn]
    rfl
   rw [show Pr.mk (Pr.mk a (Ty.mk 1 b 0 [])).c ((Pr.mk a (Ty.mk 1 b 0 [])).t.turn (putO (varsR y) t.kids)) = Pr.mk a tj by rw [show (Pr.mk a (Ty.mk 1 b 0 [])).t = Ty.mk 1 b 0 [] from rfl, need_put (hs.nd y hmy) hj htj]; rfl]
   have hP := h2 (.mk a2 tj) (by
    show Pr.mk a2 tj ∈ needsR v (instI v c t.name) t
    rw [show instI v c t.name = ((instI v c t.name).toNat : Int) by omega, needsR_in hx, if_neg (fun e => e.elim (fun e => e f2) (fun e => by omega))]
    refine List.mem_map.2 ⟨_, hqx, ?_⟩
    rw [show (Pr.mk a2 (Ty.mk 1 b2 0 [])).t = Ty.mk 1 b2 0 [] from rfl, need_put (hs.nd x hmx) hwj htj]
    rfl)
   have hts : tj.size < n := by have := Ty.size_kid (Uk htj); omega
   rcases hqc with e | e
   ·have e : a2 = a := e
    rw [← e]; exact hP
   exact UP hts ((above_iff v a2 a).1 e) hP
  have h4 : c ∈ aboveR v g.c := h4
  exact .inr (.inr ⟨g, hg, h3, (above_iff v g.c s).2 (((above_iff v g.c c).1 h4).trans (.one he))⟩)
theorem holds_prove {v : En} (hv : EnC v) (hs : EnS v) {gs : List Pr} : ∀ (m : Nat) (x : Pf) (p : Pr) (n : Nat), x.size ≤ m → p.t.size < n → holdsP v gs x p → (proveF v gs n p).2 = true
 | 0, x, _, _, h, _, _ => by cases x; simp [Pf.size] at h
 | m + 1, .mk k i c ks, p, n, hm, hn, h => by
  obtain ⟨n, rfl⟩ : ∃ n', n = n' + 1 := ⟨n - 1, by omega⟩
  rw [Pf.size] at hm
  have hkz : ∀ y ∈ ks, y.size ≤ m := fun y hy => by
   have := Pf.size_mem hy
   omega
  by_cases h1 : k = 1
  ·subst h1
   rw [holds_1] at h
   rw [prove_iff]
   exact .inl (Uk h.2.2.2)
  by_cases h2 : k = 2
  ·subst h2
   rw [holds_2, holdsL_one] at h
   obtain ⟨h3, h4, h5, y, rfl, hy⟩ := h
   obtain ⟨pc, t⟩ := p
   exact prove_edge hv hs (n + 1) c pc t hn ⟨h3, Uk h5⟩ (holds_prove hv hs m y _ (n + 1) (hkz y (by simp)) hn hy)
  by_cases h3 : k = 3
  ·subst h3
   rw [holds_3] at h
   obtain ⟨_, h0, ⟨y, hy, hf⟩, hl⟩ := h
   obtain ⟨k1, k2⟩ := (fits_iff hv hy).1 hf
   rw [prove_iff]
   refine .inr (.inl ⟨k1, fun q hq => ?_⟩)
   rw [k2, show ((i.toNat : Nat) : Int) = i by omega] at hq
   obtain ⟨y, hy, hh⟩ := holdsL_mem hl hq
   exact holds_prove hv hs m y q n (hkz y hy) (by have := hv.needs_size hq; omega) hh
  exact absurd h (holds_0 h1 h2 h3)
where
 holdsL_mem {v : En} {gs : List Pr} : ∀ {xs : List Pf} {qs : List Pr}, holdsL v gs xs qs → ∀ {q : Pr}, q ∈ qs → ∃ y ∈ xs, holdsP v gs y q
 | [], [], _, q, hq => by simp at hq
 | [], _ :: _, h, _, _ => by simp [holdsL] at h
 | _ :: _, [], h, _, _ => by simp [holdsL] at h
 | x :: xs, r :: qs, h, q, hq => by
  rw [holdsL] at h
  rcases List.mem_cons.1 hq with rfl | hq
  ·exact ⟨x, by simp, h.1⟩
  obtain ⟨y, hy, hh⟩ := holdsL_mem h.2 hq
  exact ⟨y, by simp [hy], hh⟩
theorem prove_no {v : En} {gs : List Pr} : ∀ (n : Nat) (p : Pr), (proveF v gs n p).2 = false → (proveF v gs n p).1 = pf0
 | 0, _, _ => rfl
 | n + 1, p, h => by
  rw [proveF] at h ⊢
  split at h
  ·simp at h
  split at h
  ·simp at h
  rename_i h1 h2
  rw [if_neg h1, if_neg h2]
  by_cases q : 0 ≤ supI v gs p
  ·exact absurd (supP_iff.2 q) (by rw [h]; simp)
  rw [supP_no (by omega)]
/- every proof of the list holds -/
theorem givs_mem {p : Pr} {gs : List Pr} : ∀ (l : List Pr) (i : Nat), (∀ k q, l[k]? = some q → gs[i + k]? = some q) → ∀ y ∈ givsF p l i, ∃ k : Nat, gs[k]? = some p ∧ y = .mk 1 k kE []
 | [], _, _, y, hy => by simp [givsF] at hy
 | g :: l, i, h, y, hy => by
  rw [givsF] at hy
  rcases List.mem_append.1 hy with hy1 | hy
  ·split at hy1
   ·rename_i e
    subst e
    rw [List.mem_singleton] at hy1
    exact ⟨i, by simpa using h 0 g V, hy1⟩
   simp at hy1
  exact givs_mem l (i + 1) (fun k q hk => by
   have := h (k + 1) q (by simpa using hk)
   rwa [show i + 1 + k = i + (k + 1) by omega]) y hy
theorem holdsL_snoc {v : En} {gs : List Pr} : ∀ {xs : List Pf} {qs : List Pr} {x : Pf} {q : Pr}, holdsL v gs xs qs → holdsP v gs x q → holdsL v gs (xs ++ [x]) (qs ++ [q])
 | [], [], x, q, _, h => by simp only [List.nil_append]; rw [holdsL_one]; exact ⟨x, rfl, h⟩
 | [], _ :: _, _, _, h, _ => by simp [holdsL] at h
 | _ :: _, [], _, _, h, _ => by simp [holdsL] at h
 | y :: xs, r :: qs, x, q, h, k => by
  rw [holdsL] at h
  rw [List.cons_append, List.cons_append, holdsL]
  exact ⟨h.1, holdsL_snoc h.2 k⟩
theorem rows_holds {v : En} {gs : List Pr} {W : Pr → List Pf} : ∀ (l pre : List Pr) (out : List (List Pf)), (∀ r ∈ out, holdsL v gs r pre) → (∀ q ∈ l, ∀ x ∈ W q, holdsP v gs x q) → ∀ r ∈ l.foldl (fun out q => out.flatMap fun r => (W q).map fun x => r ++ [x]) out, holdsL v gs r (pre ++ l)
 | [], pre, out, h, _, r, hr => by rw [List.append_nil]; exact h r hr
 | q :: l, pre, out, h, hW, r, hr => by
  rw [List.foldl_cons] at hr
  rw [show pre ++ q :: l = (pre ++ [q]) ++ l by simp]
  refine rows_holds l (pre ++ [q]) _ (fun r hr => ?_) (fun q' hq' => hW q' (by simp [hq'])) r hr
  obtain ⟨s, hs, hr⟩ := List.mem_flatMap.1 hr
  obtain ⟨x, hx, rfl⟩ := List.mem_map.1 hr
  exact holdsL_snoc (h s hs) (hW q (by simp) x hx)
theorem sups_mem {W : Pr → List Pf} {c : ByteArray} {t : Ty} {pc : ByteArray} {su0 : List ByteArray} : ∀ (su : List ByteArray) (n : Nat), (∀ k s, su[k]? = some s → su0[n + k]? = some s) → ∀ y ∈ supsF W c t pc su n, ∃ (k : Nat) (x : Pf), su0[k]? = some pc ∧ x ∈ W (.mk c t) ∧ y = .mk 2 k c [x]
 | [], _, _, y, hy => by simp [supsF] at hy
 | s :: su, n, h, y, hy => by
  rw [supsF] at hy
  rcases List.mem_append.1 hy with hy1 | hy
  ·split at hy1
   ·rename_i e
    subst e
    obtain ⟨x, hx, rfl⟩ := List.mem_map.1 hy1
    exact ⟨n, x, by simpa using h 0 s V, hx, V⟩
   simp at hy1
  exact sups_mem su (n + 1) (fun k q hk => by
   have := h (k + 1) q (by simpa using hk)
   rwa [show n + 1 + k = n + (k + 1) by omega]) y hy
theorem cls_mem {W : Pr → List Pf} {p : Pr} : ∀ (cl : List Cl), ∀ y ∈ clsF W p cl, ∃ c ∈ cl, y ∈ supsF W c.s p.t p.c c.su 0
 | [], y, hy => by simp [clsF] at hy
 | c :: cl, y, hy => by
  rw [clsF] at hy
  rcases List.mem_append.1 hy with hy | hy
  ·exact ⟨c, by simp, hy⟩
  obtain ⟨d, hd, h⟩ := cls_mem cl y hy
  exact ⟨d, by simp [hd], h⟩
theorem proofs_hold {v : En} (hv : EnC v) (hs : EnS v) {gs : List Pr} : ∀ (d : Nat) (p : Pr), ∀ y ∈ proofsF v gs d p, holdsP v gs y p
 | 0, _, y, hy => by simp [proofsF] at hy
 | d + 1, p, y, hy => by
  rw [proofsF] at hy
  rcases List.mem_append.1 hy with hy | hy
  ·obtain ⟨k, hk, rfl⟩ := givs_mem gs 0 (fun k q h => by simpa using h) y hy
   rw [holds_1]
   exact ⟨V, V, by omega, by simpa using hk⟩
  rcases List.mem_append.1 hy with hy | hy
  ·unfold insF at hy
   split at hy
   ·rename_i hf
    obtain ⟨r, hr, rfl⟩ := List.mem_map.1 hy
    have h0 : 0 ≤ instI v p.c p.t.name := by unfold fitsR at hf; exact (of_decide_eq_true hf).1
    obtain ⟨z, hz, _⟩ := instI_hitS h0
    rw [holds_3]
    refine ⟨V, h0, ⟨z, hz, (fits_iff hv (i := (instI v p.c p.t.name).toNat) hz).2 ⟨hf, by omega⟩⟩, ?_⟩
    exact rows_holds (needsR v (instI v p.c p.t.name) p.t) [] [[]] (fun r hr => by rw [List.mem_singleton.1 hr, holdsL]; trivial) (fun q _ x hx => proofs_hold hv hs d q x hx) r hr
   simp at hy
  obtain ⟨c, hc, hy⟩ := cls_mem v.cl y hy
  obtain ⟨k, x, hk, hx, rfl⟩ := sups_mem (su0 := c.su) c.su 0 (fun k s h => by simpa using h) y hy
  obtain ⟨i, hi⟩ := List.mem_iff_getElem?.1 hc
  have hci := hs.cls i c hi
  rw [holds_2, holdsL_one]
  refine ⟨by omega, by omega, ?_, x, V, proofs_hold hv hs d _ x hx⟩
  unfold supersOf
  rw [hci, show ((i : Int)).toNat = i by omega, hi]
  simpa using hk
def srcB : ByteArray := ⟨#[100, 97, 116, 97, 32, 76, 105, 115, 116, 32, 97, 32, 61, 32, 78, 105, 108, 32, 124, 32, 67, 111, 110, 115, 32, 97, 32, 40, 76, 105, 115, 116, 32, 97, 41, 59, 32, 99, 108, 97, 115, 115, 32, 69, 113, 32, 97, 32, 119, 104, 101, 114, 101, 32, 101, 110, 100, 59, 32, 99, 108, 97, 115, 115, 32, 79, 114, 100, 32, 97, 32, 102, 114, 111, 109, 32, 69, 113, 32, 119, 104, 101, 114, 101, 32, 101, 110, 100, 59, 32, 105, 110, 115, 116, 97, 110, 99, 101, 32, 69, 113, 32, 73, 110, 116, 32, 119, 104, 101, 114, 101, 32, 101, 110, 100, 59, 32, 105, 110, 115, 116, 97, 110, 99, 101, 32, 69, 113, 32, 40, 76, 105, 115, 116, 32, 97, 41, 32, 102, 114, 111, 109, 32, 69, 113, 32, 97, 32, 119, 104, 101, 114, 101, 32, 101, 110, 100, 59, 32, 105, 110, 115, 116, 97, 110, 99, 101, 32, 79, 114, 100, 32, 40, 76, 105, 115, 116, 32, 97, 41, 32, 102, 114, 111, 109, 32, 79, 114, 100, 32, 97, 32, 119, 104, 101, 114, 101, 32, 101, 110, 100, 59]⟩
open Go.RowKit
def tyv (s : ByteArray) : Ty := .mk 1 s 0 []
def tyc (s : ByteArray) (l : List Ty) : Ty := .mk 3 s 0 l
abbrev sList : ByteArray := ⟨#[76, 105, 115, 116]⟩
abbrev sNil : ByteArray := ⟨#[78, 105, 108]⟩
abbrev sCons : ByteArray := ⟨#[67, 111, 110, 115]⟩
abbrev sa : ByteArray := ⟨#[97]⟩
abbrev sEq : ByteArray := ⟨#[69, 113]⟩
abbrev sOrd : ByteArray := ⟨#[79, 114, 100]⟩
abbrev sInt : ByteArray := ⟨#[73, 110, 116]⟩
def srcPg : Pg := .mk
 [.mk sList [sa] [.mk sNil [] 14, .mk sCons [tyv sa, tyc sList [tyv sa]] 20] [] 5]
 [.mk sEq sa [] [] [] 43, .mk sOrd sa [sEq] [] [] 65]
 [.mk sEq (tyc sInt []) [] [] 99, .mk sEq (tyc sList [tyv sa]) [.mk sEq (tyv sa)] [] 126, .mk sOrd (tyc sList [tyv sa]) [.mk sOrd (tyv sa)] [] 168] []
theorem src_pg : progT srcB = (srcPg, 0, 0) := by kernel_rfl
theorem src_check : checkR srcPg = (0, 0) := by kernel_rfl
theorem src_size : ¬ (3000 < (srcB.size : Int)) := by decide +kernel
theorem src_env : envR srcB = (envOf srcPg, true) := by
 unfold envR
 rw [if_neg src_size, src_pg]
 simp only []
 rw [src_check]
 simp only []
 rw [if_neg (by simp)]
 simp [srcPg, Pg.cl, Pg.ins]
theorem srcC_ok : EnC (envOf srcPg) := by
 have h := envR_ok (s := srcB) (by rw [src_env])
 rw [src_env] at h
 exact h.1
theorem src_p1 : proveF (envOf srcPg) [] 10 (.mk sEq (tyc sList [tyc sInt []])) = (.mk 3 1 kE [.mk 3 0 kE []], true) := by kernel_rfl
theorem src_p2 : proveF (envOf srcPg) [.mk sOrd (tyv sa)] 10 (.mk sEq (tyv sa)) = (.mk 2 0 sOrd [.mk 1 0 kE []], true) := by kernel_rfl
theorem con_c (s : ByteArray) (l : List Ty) : PCall Tryz.prog 23 [.val (.string s), .seq 4 (Ty.cellss l)] (.agg (tyc s l).cells) := by
 simp only [tyc, Ty.cells]
 refine Zw Tryz.func23 V (by kernel_rfl) V (Uf V) ?_
 refine Yf (Zg (Zc (Za 4 V V V (Zy (cs' := [_, _, _, _]) V tz_25 V V ?_)))); intro b4
 exact Vs (Zb (Zg (Zc (Za 5 V V V (Zd V V (Za 6 V V V (Zd V V (Za 7 V V V (Yl (ns := [0, 1, 3]) (xs := [.const (.int .i64 3), .tmp 5, .tmp 6]) V tz_25 V tfl_25 V V V V (Zs V V (Zq (cs' := [_, _, _, _]) (i := 0) V ts_25 V V V V V (Uf V) V (Vs (Zb (Ya (Yn (i := 0) V V V Xz V (Vz _) (Vu _) ⟨V, V⟩)))))))))))))))
theorem awake_c : BCall Tryz.prog 8 [] True := by
 have HE := Env_c srcB
 rw [src_env] at HE
 have H1 := con_c sInt []
 have H2 := con_c sList [tyc sInt []]
 have HP := Prove_c (envOf srcPg) srcC_ok [] 10 (.mk sEq (tyc sList [tyc sInt []])) (by decide) (by decide)
 rw [src_p1] at HP
 have HQ := Prove_c (envOf srcPg) srcC_ok [.mk sOrd (tyv sa)] 10 (.mk sEq (tyv sa)) (by decide) (by decide)
 rw [src_p2] at HQ
 generalize envOf srcPg = v at *
 obtain ⟨da, cl, ins⟩ := v
 simp only [En.cells, tyc, tyv, Ty.cells, Ty.cellss, Pr.cells, Pf.cells, Pf.cellss, Pr.cellss, List.map] at HE H1 H2 HP HQ
 refine Zw Tryz.func8 V (by kernel_rfl) V (Uf V) ?_
 refine Yf (Zg (Zc (Za 0 V V V (Ze V V (Vs (Zb (Zg (Zc (Za 9 V V V (Ym (xs := [.const (.string ⟨#[100, 97, 116, 97, 32, 76, 105, 115, 116, 32, 97, 32, 61, 32, 78, 105, 108, 32, 124, 32, 67, 111, 110, 115, 32, 97, 32, 40, 76, 105, 115, 116, 32, 97, 41, 59, 32, 99, 108, 97, 115, 115, 32, 69, 113, 32, 97, 32, 119, 104, 101, 114, 101, 32, 101, 110, 100, 59, 32, 99, 108, 97, 115, 115, 32, 79, 114, 100, 32, 97, 32, 102, 114, 111, 109, 32, 69, 113, 32, 119, 104, 101, 114, 101, 32, 101, 110, 100, 59, 32, 105, 110, 115, 116, 97, 110, 99, 101, 32, 69, 113, 32, 73, 110, 116, 32, 119, 104, 101, 114, 101, 32, 101, 110, 100, 59, 32, 105, 110, 115, 116, 97, 110, 99, 101, 32, 69, 113, 32, 40, 76, 105, 115, 116, 32, 97, 41, 32, 102, 114, 111, 109, 32, 69, 113, 32, 97, 32, 119, 104, 101, 114, 101, 32, 101, 110, 100, 59, 32, 105, 110, 115, 116, 97, 110, 99, 101, 32, 79, 114, 100, 32, 40, 76, 105, 115, 116, 32, 97, 41, 32, 102, 114, 111, 109, 32, 79, 114, 100, 32, 97, 32, 119, 104, 101, 114, 101, 32, 101, 110, 100, 59]⟩)]) V V (HE) by1 ?_))))))))))
 refine Za 8 V V V (Zd V V (Za 10 V V V (Yv V V V (Za 11 V V V (Yv V V V (Za 1 V V V (Zy (cs' := [_, _, _]) V tz_38 V V ?_))))))); intro b1
 refine Zs V V (Zq (cs' := [_, _, _]) (i := 0) V ts_38 V V V V V (Uf V) V (Za 2 V V V (Ze V V (Vs (Zb (Zg (Xu [0, 1, 2, 3, 4, 5, 6, 7, 8, 9, 10, 11] [9, 10] [[], [], [1], [1, 2], [1, 2, 3], [0, 1, 2, 3, 4], [0, 1, 2, 3, 4, 5], [0, 1, 2, 3, 4, 5, 6], [0, 1, 2, 3, 4, 5, 6], [], [0, 1, 2, 3, 4, 5, 6, 7, 9], [0, 1, 2, 3, 4, 5, 6, 7, 8, 9, 10]] Wo V (Yb 13 (some 0) (i := 0) V V V V V (Zx (cs' := [_, _, _]) (i := 0) V Xw V V V V ⟨V, V⟩) ?_))))))))
 refine Yb 14 (none) (i := 1) V V V V V (Ym (xs := [.const (.string ⟨#[73, 110, 116]⟩), .const (.slice none 0 0)]) V V (H1) by1 ⟨V, V⟩) ?_
 refine Yb 15 (none) (i := 2) V V V V V (Ye (xs := [.tmp 14]) el_23 V V V V V V (Uf V) ⟨V, V⟩) ?_
 refine Yb 16 (none) (i := 3) V V V V V (Ym (xs := [.const (.string ⟨#[76, 105, 115, 116]⟩), .tmp 15]) V V (H2) by1 ⟨V, V⟩) ?_
 refine Yb 17 (none) (i := 4) V V V V V (Yl (ns := [0, 1]) (xs := [.const (.string ⟨#[69, 113]⟩), .tmp 16]) V tz_27 V tfl_27 V V V V ⟨V, V⟩) ?_
 refine Yb 18 (none) (i := 5) V V V V V (Ym (xs := [.tmp 13, .const (.slice none 0 0), .tmp 17]) V V (HP) by1 ⟨V, V⟩) ?_
 refine Yb 12 (none) (i := 6) V V V V V (Zd V V ⟨V, V⟩) ?_
 refine Yb 19 (none) (i := 7) V V V V V (Yv V V V ⟨V, V⟩) ?_
 refine Yb 20 (none) (i := 8) V V V V V (Yv V V V ⟨V, V⟩) ?_
 refine EOps.nw (i := 9) V V V (Zy (cs' := [_, _, _, _]) V tz_30 V V (fun b3 => ⟨_, V, ?_⟩))
 refine Xn 1 (i := 10) V V V V V (Zq (cs' := [_, _, _, _]) (i := 0) V ts_30 V V V V V (Uf V) V ⟨_, V, ?_⟩)
 refine Yb 4 (none) (i := 11) V V V V V (Ze V V ⟨V, V⟩) ?_
 show AGo _ _ _ _ _ _ _
 refine Zb (Zg (Zc (Za 21 V V V (Yl (ns := [0, 1]) (xs := [.const (.int .i64 1), .const (.string ⟨#[97]⟩)]) V tz_25 V tfl_25 V V V V ?_))))
 refine Za 5 V V V (Zy (cs' := [_, _, _, _]) V tz_25 V V ?_); intro b5
 refine Zs V V (Zq (cs' := [_, _, _, _]) (i := 0) V ts_25 V V V V V (Uf V) V (Vs (Zb (Zg (Zc (Za 23 V V V (Zx (cs' := [_, _, _]) (i := 1) V Xw V V V V (Za 24 V V V (Zx (cs' := [_, _, _, _]) (i := 0) V Xz V V V V (Za 25 V V V (Yl (ns := [0, 1]) (xs := [.const (.string ⟨#[79, 114, 100]⟩), .tmp 24]) V tz_27 V tfl_27 V V V V ?_)))))))))))
 refine Za 26 V V V (Ye (xs := [.tmp 25]) el_22 V V V V V V (Uf V) (Za 27 V V V (Zx (cs' := [_, _, _, _]) (i := 0) V Xz V V V V (Za 28 V V V (Yl (ns := [0, 1]) (xs := [.const (.string ⟨#[69, 113]⟩), .tmp 27]) V tz_27 V tfl_27 V V V V ?_)))))
 refine Za 29 V V V (op_callat [] (xs := [.tmp 23, .tmp 26, .tmp 28])  V V V HQ by0 ?_)
 rintro v29 M29 ⟨rfl, rfl⟩
 refine Za 22 V V V (Zd V V (Za 30 V V V (Yv V V V (Za 31 V V V (Yv V V V (Za 6 V V V (Zy (cs' := [_, _, _, _]) V tz_30 V V ?_))))))); intro b6
 refine Zs V V (Zq (cs' := [_, _, _, _]) (i := 0) V ts_30 V V V V V (Uf V) V (Za 7 V V V (Ze V V (Vs (Zb (Zg (Xl 0 (True) ?_ _ _ V ?_)))))))
 ·skip
  refine Za 32 V V V (Zd V V (Za 33 V V V (Zd V V (Zl 34 V V V V V (Zd V V (Za 35 V V V (Zn V V V (Za 36 V V V (Zd V V (Zl 37 V V V V V (Zd V V (Za 38 V V V (Zn V V V (Za 39 V V V (Zd V V (Zl 40 V V V V V (Zh V tf_30_0 V (Zl 41 V V V V V (Zp (i := 3) V Xa V V V (Zl 42 V V V V V (Yr V V V ?_))))))))))))))))))))); intro c42 h42
  refine Za 43 V V V (Zn V V V (Za 44 V V V (Zd V V ?_)))
  rcases Zi h42 with ⟨rfl, g42⟩ | ⟨rfl, g42⟩
  ·skip
   refine Zk 45 V V V V V (Zk 46 V V V V V (Zk 47 V V V V V (Zk 48 V V V V V (Za 49 V V V (Zn V V V (Za 50 V V V (Zd V V (Zk 51 V V V V V (Zk 52 V V V V V (Zk 53 V V V V V (Zk 54 V V V V V (Zk 55 V V V V V (Zk 56 V V V V V ?_)))))))))))))
   refine Za 57 V V V (Zn V V V (Za 58 V V V (Zd V V (Zk 59 V V V V V (Zk 60 V V V V V (Zk 61 V V V V V (Za 62 V V V (Zn V V V (Za 63 V V V (Zd V V (Zk 64 V V V V V (Zk 65 V V V V V (Zk 66 V V V V V (Zk 67 V V V V V (Za 68 V V V (Zn V V V ?_))))))))))))))))
   refine Za 69 V V V (Zd V V (Zk 70 V V V V V (Zk 71 V V V V V (Zk 72 V V V V V (Zk 73 V V V V V (Zk 74 V V V V V (Zk 75 V V V V V (Za 76 V V V (Zn V V V (Za 0 V V V (Ze V V (Vs (Ud V ?_ by5 by3)))))))))))))
   simp_all
  skip
  refine Zl 45 V V V V V (Zh V tf_30_3 V (Zl 46 V V V V V (Zp (i := 3) V ta_28 V V V ?_)))
  refine Zl 47 V V V V V (Yy V tu_28 V (.seq _ _) (fun n47 => ?_))
  refine Zl 48 V V V V V (Yr V V V ?_); intro c48 h48
  refine Za 49 V V V (Zn V V V (Za 50 V V V (Zd V V ?_)))
  rcases Zi h48 with ⟨rfl, g48⟩ | ⟨rfl, g48⟩
  ·skip
   refine Zk 51 V V V V V (Zk 52 V V V V V (Zk 53 V V V V V (Zk 54 V V V V V (Zk 55 V V V V V (Zk 56 V V V V V (Za 57 V V V (Zn V V V (Za 58 V V V (Zd V V (Zk 59 V V V V V (Zk 60 V V V V V (Zk 61 V V V V V (Za 62 V V V (Zn V V V ?_))))))))))))))
   refine Za 63 V V V (Zd V V (Zk 64 V V V V V (Zk 65 V V V V V (Zk 66 V V V V V (Zk 67 V V V V V (Za 68 V V V (Zn V V V (Za 69 V V V (Zd V V (Zk 70 V V V V V (Zk 71 V V V V V (Zk 72 V V V V V (Zk 73 V V V V V (Zk 74 V V V V V ?_))))))))))))))
   refine Zk 75 V V V V V (Za 76 V V V (Zn V V V (Za 0 V V V (Ze V V (Vs (Ud V ?_ by5 by3))))))
   simp_all
  skip
  refine Zl 51 V V V V V (Zh V tf_30_3 V (Zl 52 V V V V V (Zp (i := 3) V ta_28 V V V ?_)))
  refine Zl 53 V V V V V (Yd (i := 0) V te_28 V (.seq _ _) V V (by first | rfl | assumption) ?_)
  refine Zl 54 V V V V V (Zj V tf_30_0 V V (Zl 55 V V V V V (Zo V Xa V V (Zl 56 V V V V V (Yr V V V ?_))))); intro c56 h56
  refine Za 57 V V V (Zn V V V (Za 58 V V V (Zd V V ?_)))
  rcases Zi h56 with ⟨rfl, g56⟩ | ⟨rfl, g56⟩
  ·skip
   refine Zk 59 V V V V V (Zk 60 V V V V V (Zk 61 V V V V V (Za 62 V V V (Zn V V V (Za 63 V V V (Zd V V (Zk 64 V V V V V (Zk 65 V V V V V (Zk 66 V V V V V (Zk 67 V V V V V (Za 68 V V V (Zn V V V (Za 69 V V V (Zd V V (Zk 70 V V V V V ?_)))))))))))))))
   refine Zk 71 V V V V V (Zk 72 V V V V V (Zk 73 V V V V V (Zk 74 V V V V V (Zk 75 V V V V V (Za 76 V V V (Zn V V V (Za 0 V V V (Ze V V (Vs (Ud V ?_ by5 by3))))))))))
   simp_all
  skip
  refine Zl 59 V V V V V (Zh V tf_30_0 V (Zl 60 V V V V V (Zp (i := 0) V Xa V V V (Zl 61 V V V V V (Yr V V V ?_))))); intro c61 h61
  refine Za 62 V V V (Zn V V V (Za 63 V V V (Zd V V ?_)))
  rcases Zi h61 with ⟨rfl, g61⟩ | ⟨rfl, g61⟩
  ·skip
   refine Zk 64 V V V V V (Zk 65 V V V V V (Zk 66 V V V V V (Zk 67 V V V V V (Za 68 V V V (Zn V V V (Za 69 V V V (Zd V V (Zk 70 V V V V V (Zk 71 V V V V V (Zk 72 V V V V V (Zk 73 V V V V V (Zk 74 V V V V V (Zk 75 V V V V V ?_)))))))))))))
   refine Za 76 V V V (Zn V V V (Za 0 V V V (Ze V V (Vs (Ud V ?_ by5 by3)))))
   simp_all
  skip
  refine Zl 64 V V V V V (Zh V tf_30_3 V (Zl 65 V V V V V (Zp (i := 0) V ta_28 V V V ?_)))
  refine Zl 66 V V V V V (Yy V tu_28 V (.seq _ _) (fun n66 => ?_))
  refine Zl 67 V V V V V (Yr V V V ?_); intro c67 h67
  refine Za 68 V V V (Zn V V V (Za 69 V V V (Zd V V ?_)))
  rcases Zi h67 with ⟨rfl, g67⟩ | ⟨rfl, g67⟩
  ·skip
   refine Zk 70 V V V V V (Zk 71 V V V V V (Zk 72 V V V V V (Zk 73 V V V V V (Zk 74 V V V V V (Zk 75 V V V V V (Za 76 V V V (Zn V V V (Za 0 V V V (Ze V V (Vs (Ud V ?_ by5 by3)))))))))))
   simp_all
  skip
  refine Zl 70 V V V V V (Zh V tf_30_3 V (Zl 71 V V V V V (Zp (i := 0) V ta_28 V V V ?_)))
  refine Zl 72 V V V V V (Yd (i := 0) V te_28 V (.seq _ _) V V (by first | rfl | assumption) ?_)
  refine Zl 73 V V V V V (Zj V tf_30_0 V V (Zl 74 V V V V V (Zo V Xa V V (Zl 75 V V V V V (Yr V V V ?_))))); intro c75 h75
  refine Za 76 V V V (Zn V V V (Za 0 V V V (Ze V V (Vs (Ud V ?_ by5 by3)))))
  simp_all
 intro c0 h0
 exact Zb (Ya (Yh V V (Vz _) by3 ⟨⟨_, h0, V⟩, V⟩))
end Go.Proofs.YtknodnfbaofngaaGreat
namespace Go.Proofs.YtknodnfbaofngaaGreat
open Go.ChangeShapes Go.WideShapes Go.ChangeAt Go.RowKit
theorem EntailBack_c (s : ByteArray) (a : Ask) : ACall Tryz.prog 7 [.val (.string s), .agg a.cells] [] (fun v _ => v = .val (.bool true)) := by
 have HE := Env_c s
 have HS := askSmall_c a
 have hok := envR_ok (s := s)
 obtain ⟨⟨v, c18⟩, he⟩ : ∃ e, envR s = e := ⟨_, rfl⟩
 rw [he] at HE hok
 simp only [] at HE hok
 have hos := envR_oks (s := s)
 rw [he] at hos
 simp only [] at hos
 have hsz : a.small → a.p.t.size < 31 := fun h => by have := (Ty.small_size (by decide) h.2.2.1).1; omega
 have HP := fun (h : c18 = true) (hs : a.small) => Prove_c v (hok h).1 a.gs 31 a.p (hsz hs) (by have := hsz hs; omega)
 have HA := fun (h : c18 = true) (hs : a.small) (hd : ¬ a.deep > 6) => entAll_c v (hok h).1 a.gs (by have := hs.2.1; omega) a.p (by have := hsz hs; omega) a.deep a.most (by omega)
 have HH := fun (h : c18 = true) (hs : a.small) (x : Pf) => Holds_c v (hok h).1 a.gs x.size x (Nat.le_refl _) a.p (by have := hsz hs; omega)
 have h1 := fun (h : c18 = true) (hs : a.small) => prove_holds (hok h).1 (gs := a.gs) 31 a.p
 have h2 := prove_no (v := v) (gs := a.gs) 31 a.p
 have h3 := fun (h : c18 = true) (hs : a.small) (x : Pf) => holds_prove (hok h).1 (hos h) (gs := a.gs) x.size x a.p 31 (Nat.le_refl _) (hsz hs)
 have h4 : c18 = true → ∀ y ∈ allF v a.gs a.p a.deep a.most, holdsP v a.gs y a.p := fun h y hy => proofs_hold (hok h).1 (hos h) _ _ y (List.mem_of_mem_take hy)
 clear hok hos hsz
 obtain ⟨⟨⟨yk, yn, yc, yl⟩, c44⟩, hr⟩ : ∃ r, proveF v a.gs 31 a.p = r := ⟨_, rfl⟩
 rw [hr] at HP h1 h2 h3
 have HN := nodes_c _ (Pf.mk yk yn yc yl) 2 (Nat.le_refl _) (by decide) (by decide)
 have hn : c44 = false → (Pf.mk yk yn yc yl).cnt 2 = 1 := fun e => by
  rw [show Pf.mk yk yn yc yl = pf0 from h2 e]
  decide
 clear hr h2
 generalize (Pf.mk yk yn yc yl).cnt 2 = nn at *
 generalize allF v a.gs a.p a.deep a.most = l at *
 clear he
 have HHx : ∀ (h : c18 = true) (hs : a.small), _ := fun h hs => HH h hs a.x
 have h3x := fun (h : c18 = true) (hs : a.small) => h3 h hs a.x
 generalize holdsP v a.gs = hp at *
 generalize a.small = sm at *
 obtain ⟨da, cl, ins⟩ := v
 obtain ⟨gs, ⟨pc, ⟨pk, ps, pn, pl⟩⟩, ⟨xk, xn, xc, xl⟩, deep, most⟩ := a
 have hll := Pf.cellss_len l
 simp only [Ask.cells, En.cells, Pr.cells, Ty.cells, List.cons_append, List.nil_append] at *
 rw [Pf.cells] at HS HHx ⊢
 refine Zw Tryz.func7 V (by kernel_rfl) V (Uf V) ?_
 refine Yf (Zg (Zc (Za 3 V V V (Ys (cs' := [_, _, _, _, _, _, _, _, _, _, _, _]) V V V V (Za 4 V V V (Ze V V (Vs (Zb (Zg (Zg (Zc (Za 12 V V V (Ym (xs := []) V V (awake_c.yes trivial) by1 ?_)))))))))))))
 refine Za 13 V V V (Xr V V ?_); intro c13 h13
 try replace h13 := nott h13 h12
 refine Vs (Zb ?_)
 rcases Zi h13 with ⟨rfl, g13⟩ | ⟨rfl, g13⟩
 ·refine Zr V (Zv (Zb (Zg (Zc (Za 15 V V V (Zd V V (Za 16 V V V (Ym (xs := [.tmp 15]) V V (HE) by1 ?_))))))))
  refine Za 14 V V V (Zd V V (Za 17 V V V (Yv V V V (Za 18 V V V (Yv V V V (Za 5 V V V (Zy (cs' := [_, _, _]) V tz_38 V V ?_))))))); intro b5
  refine Zs V V (Zq (cs' := [_, _, _]) (i := 0) V ts_38 V V V V V (Uf V) V (Za 6 V V V (Ze V V (Vs (Zb (Zg (Zg (Xl 35 (c18 = false ∨ ¬ sm ∨ deep > 6 ∨ most > 60) ?_ _ _ V ?_))))))))
  ·skip
   refine Za 19 V V V (Zd V V (Za 20 V V V (Xr V V ?_))); intro c20 h20
   try replace h20 := nott h20 h18
   refine Za 21 V V V (Zd V V ?_)
   rcases Zi h20 with ⟨rfl, g20⟩ | ⟨rfl, g20⟩
   ·skip
    refine Zl 22 V V V V V (Yc (cs' := [_, _, _, _, _, _, _, _, _, _, _, _]) V ta_32 V V V (Zl 23 V V V V V (Yg (xs := [.tmp 22]) V V (HS) by1 ?_))); intro c23 h23
    refine Zl 24 V V V V V (Xr V V ?_); intro c24 h24
    try replace h24 := nott h24 h23
    refine Za 25 V V V (Zn V V V (Za 26 V V V (Zd V V ?_)))
    rcases Zi h24 with ⟨rfl, g24⟩ | ⟨rfl, g24⟩
    ·skip
     refine Zl 27 V V V V V (Zj V tf_32_3 V V (Zl 28 V V V V V (Zo V Xa V V (Zl 29 V V V V V (Ww V V V ?_))))); intro c29 h29
     refine Za 30 V V V (Zn V V V (Za 31 V V V (Zd V V ?_)))
     rcases Zi h29 with ⟨rfl, g29⟩ | ⟨rfl, g29⟩
     ·skip
      refine Zl 32 V V V V V (Zj V tf_32_4 V V (Zl 33 V V V V V (Zo V Xa V V (Zl 34 V V V V V (Ww V V V ?_))))); intro c34 h34
      refine Za 35 V V V (Zn V V V (Vs (Ud V ?_ by5 by3)))
      clear HE HS HP HA HH HHx HN hn h1 h3 h3x h4; first | (simp_all; done) | grind
     skip
     refine Zk 32 V V V V V (Zk 33 V V V V V (Zk 34 V V V V V (Za 35 V V V (Zn V V V (Vs (Ud V ?_ by5 by3))))))
     clear HE HS HP HA HH HHx HN hn h1 h3 h3x h4; first | (simp_all; done) | grind
    skip
    refine Zk 27 V V V V V (Zk 28 V V V V V (Zk 29 V V V V V (Za 30 V V V (Zn V V V (Za 31 V V V (Zd V V (Zk 32 V V V V V (Zk 33 V V V V V (Zk 34 V V V V V (Za 35 V V V (Zn V V V (Vs (Ud V ?_ by5 by3)))))))))))))
    clear HE HS HP HA HH HHx HN hn h1 h3 h3x h4; first | (simp_all; done) | grind
   skip
   refine Zk 22 V V V V V (Zk 23 V V V V V (Zk 24 V V V V V (Za 25 V V V (Zn V V V (Za 26 V V V (Zd V V (Zk 27 V V V V V (Zk 28 V V V V V (Zk 29 V V V V V (Za 30 V V V (Zn V V V (Za 31 V V V (Zd V V (Zk 32 V V V V V (Zk 33 V V V V V ?_)))))))))))))))
   refine Zk 34 V V V V V (Za 35 V V V (Zn V V V (Vs (Ud V ?_ by5 by3))))
   clear HE HS HP HA HH HHx HN hn h1 h3 h3x h4; first | (simp_all; done) | grind
  intro c35 h35
  refine Zb ?_
  rcases Zi h35 with ⟨rfl, g35⟩ | ⟨rfl, g35⟩
  ·refine Zr V (Zv (Zb (Zg ?_)))
   obtain ⟨h17, hsm, hdp⟩ : c18 = true ∧ sm ∧ ¬ deep > 6 := by
    clear HE HS HP HA HH HHx HN hn h1 h3 h3x h4
    cases c18 <;> simp_all
   have HP1 := HP h17 hsm
   have HA1 := HA h17 hsm hdp
   have HH1 := HH h17 hsm
   have HHx1 := HHx h17 hsm
   have HHy := HH1 (Pf.mk yk yn yc yl)
   have h1 := h1 h17 hsm
   have h3 := h3 h17 hsm
   have h3x := h3x h17 hsm
   have h4 := h4 h17
   have h5 : c44 = false → (Pf.cellss l).length = 0 := fun e => by
    cases l with
    | nil => rfl
    | cons y l =>
     have := h3 y (h4 y (by simp))
     rw [e] at this
     exact absurd this (by simp)
   clear HE HS HP HA HH HHx
   simp only [Pf.cells] at HP1 HHy HN
   refine Zc (Za 37 V V V (Zx (cs' := [_, _, _]) (i := 0) V Xw V V V V (Za 38 V V V (Zj V tf_32_0 V V (Za 39 V V V (Zo V ta_22 V V (Za 40 V V V (Zj V tf_32_1 V V (Za 41 V V V (Yc (cs' := [_, _, _, _, _]) V ta_27 V V V (Za 42 V V V (Ym (xs := [.tmp 37, .tmp 39, .tmp 41]) V V (HP1) by1 ?_))))))))))))
   refine Za 36 V V V (Zd V V (Za 43 V V V (Yv V V V (Za 44 V V V (Yv V V V (Za 7 V V V (Zy (cs' := [_, _, _, _]) V tz_30 V V ?_))))))); intro b7
   refine Zs V V (Zq (cs' := [_, _, _, _]) (i := 0) V ts_30 V V V V V (Uf V) V (Za 8 V V V (Ze V V (Vs (Zb (Zg (Zg (Xl 64 (False) ?_ _ _ V ?_))))))))
   ·skip
    refine Za 45 V V V (Zd V V (Za 46 V V V (Zd V V ?_)))
    have h46 : (c44 = true ↔ c44 = true) := Iff.rfl
    rcases Zi h46 with ⟨rfl, g46⟩ | ⟨rfl, g46⟩
    ·skip
     refine Zk 47 V V V V V (Zk 48 V V V V V (Zk 49 V V V V V (Zk 50 V V V V V (Zk 51 V V V V V (Zk 52 V V V V V (Zk 53 V V V V V (Zk 54 V V V V V (Za 55 V V V (Zn V V V (Za 56 V V V (Zd V V (Zl 57 V V V V V (Zd V V (Zl 58 V V V V V (Xr V V ?_))))))))))))))); intro c58 h58
     try replace h58 := nott h58 h44
     refine Zl 59 V V V V V (Zd V V ?_)
     rcases Zi h58 with ⟨rfl, g58⟩ | ⟨rfl, g58⟩
     ·skip
      refine Zk 60 V V V V V (Zk 61 V V V V V (Zk 62 V V V V V (Zl 63 V V V V V (Zn V V V (Za 64 V V V (Zn V V V (Vs (Ud V ?_ by5 by3))))))))
      clear HP1 HHy HA1 HH1 HHx1 HN; first | (simp_all; done) | grind
     skip
     refine Zl 60 V V V V V (Zx (cs' := [_, _, _, _]) (i := 0) V Wm V V V V (Zl 61 V V V V V (Ym (xs := [.tmp 60, .const (.int .i64 2)]) V V (HN) by1 ?_)))
     refine Zl 62 V V V V V (Xq V V V ?_); intro c62 h62
     refine Zl 63 V V V V V (Zn V V V (Za 64 V V V (Zn V V V (Vs (Ud V ?_ by5 by3)))))
     clear HP1 HHy HA1 HH1 HHx1 HN; first | (simp_all; done) | grind
    skip
    refine Zl 47 V V V V V (Zx (cs' := [_, _, _]) (i := 1) V Xw V V V V (Zl 48 V V V V V (Zj V tf_32_0 V V (Zl 49 V V V V V (Zo V ta_22 V V (Zl 50 V V V V V (Zx (cs' := [_, _, _, _]) (i := 0) V Wm V V V V (Zl 51 V V V V V (Zj V tf_32_1 V V (Zl 52 V V V V V (Yc (cs' := [_, _, _, _, _]) V ta_27 V V V (Zl 53 V V V V V (Yg (xs := [.tmp 47, .tmp 49, .tmp 50, .tmp 52]) V V (HHy) by1 ?_))))))))))))); intro c53 h53
    refine Zl 54 V V V V V (Xr V V ?_); intro c54 h54
    try replace h54 := nott h54 h53
    refine Za 55 V V V (Zn V V V (Za 56 V V V (Zd V V ?_)))
    rcases Zi h54 with ⟨rfl, g54⟩ | ⟨rfl, g54⟩
    ·skip
     refine Zl 57 V V V V V (Zd V V (Zl 58 V V V V V (Xr V V ?_))); intro c58 h58
     try replace h58 := nott h58 h44
     refine Zl 59 V V V V V (Zd V V ?_)
     rcases Zi h58 with ⟨rfl, g58⟩ | ⟨rfl, g58⟩
     ·skip
      refine Zk 60 V V V V V (Zk 61 V V V V V (Zk 62 V V V V V (Zl 63 V V V V V (Zn V V V (Za 64 V V V (Zn V V V (Vs (Ud V ?_ by5 by3))))))))
      clear HP1 HHy HA1 HH1 HHx1 HN; first | (simp_all; done) | grind
     skip
     refine Zl 60 V V V V V (Zx (cs' := [_, _, _, _]) (i := 0) V Wm V V V V (Zl 61 V V V V V (Ym (xs := [.tmp 60, .const (.int .i64 2)]) V V (HN) by1 ?_)))
     refine Zl 62 V V V V V (Xq V V V ?_); intro c62 h62
     refine Zl 63 V V V V V (Zn V V V (Za 64 V V V (Zn V V V (Vs (Ud V ?_ by5 by3)))))
     clear HP1 HHy HA1 HH1 HHx1 HN; first | (simp_all; done) | grind
    skip
    refine Zk 57 V V V V V (Zk 58 V V V V V (Zk 59 V V V V V (Yj 60 V V V V V (Yj 61 V V V V V (Yj 62 V V V V V (Zk 63 V V V V V (Za 64 V V V (Zn V V V (Vs (Ud V ?_ by5 by3))))))))))
    clear HP1 HHy HA1 HH1 HHx1 HN; first | (simp_all; done) | grind
   intro c64 h64
   refine Zb ?_
   rcases Zi h64 with ⟨rfl, g64⟩ | ⟨rfl, g64⟩
   ·refine Zr V (Zv (Zb (Zg (Zc (Za 65 V V V (Zx (cs' := [_, _, _]) (i := 1) V Xw V V V V (Za 66 V V V (Zj V tf_32_0 V V (Za 67 V V V (Zo V ta_22 V V (Za 68 V V V (Zj V tf_32_1 V V (Za 69 V V V (Yc (cs' := [_, _, _, _, _]) V ta_27 V V V (Za 70 V V V (Zj V tf_32_3 V V (Za 71 V V V (Zo V Xa V V (Za 72 V V V (Zj V tf_32_4 V V (Za 73 V V V (Zo V Xa V V (Za 74 V V V (Ym (xs := [.tmp 65, .tmp 67, .tmp 69, .tmp 71, .tmp 73]) V V (HA1) by1 ?_))))))))))))))))))))))))
    refine Za 9 V V V (Ze V V (Vs (Zb (Zg (Zg (Zc (Za 75 V V V (Zd V V ?_))))))))
    refine Za 76 V V V (Yy V tu_28 V (.seq _ _) (fun n76 => ?_))
    refine Za 77 V V V (Zd V V (Vs (Zb (Zz ?_))))
    apply Xm [0, 1, 2, 4, 6, 7, 10, 11, 12, 13, 14, 15, 16, 17, 18, 19, 20, 21, 22, 23, 24, 25, 26, 27, 28, 29, 30, 31, 32, 33, 34, 35, 36, 37, 38, 39, 40, 41, 42, 43, 44, 45, 46, 47, 48, 49, 50, 51, 52, 53, 54, 55, 56, 57, 58, 59, 60, 61, 62, 63, 64, 65, 66, 67, 68, 69, 70, 71, 72, 73, 74, 77, 78, 79, 80, 81, 82, 83, 84, 85, 86, 87, 88, 89] (σ := Nat) (fun zz => match zz with | i => [(77, .val (.int .i64 i))]) (fun zz => match zz with | i => i ≤ l.length) (fun zz => match zz with | i => l.length - i) (0)
    ·repeat' (first | exact Ui | apply Ug rfl | apply Uh rfl)
    ·exact Nat.zero_le _
    ·exact by4
    rintro i hI
    try dsimp only [List.cons_append, List.nil_append] at hI ⊢
    have hi := hI
    refine Zg (Zc (Za 78 V V V (Yu V V V ?_))); intro c78 h78
    refine Vs (Zb (Zg ?_))
    rcases Zi h78 with ⟨rfl, g78⟩ | ⟨rfl, g78⟩
    ·refine Zr V (Xc (Xe (Xv (Xd (Zb (Zg (Xl 4 (True) ?_ _ _ V ?_)))))))
     ·skip
      refine Za 90 V V V (Zd V V (Za 91 V V V (Zd V V ?_)))
      have h91 : (c44 = true ↔ c44 = true) := Iff.rfl
      rcases Zi h91 with ⟨rfl, g91⟩ | ⟨rfl, g91⟩
      ·skip
       refine Zl 92 V V V V V (Zd V V ?_)
       refine Zl 93 V V V V V (Yy V tu_28 V (.seq _ _) (fun n93 => ?_))
       refine Zl 94 V V V V V (Yr V V V ?_); intro c94 h94
       refine Zl 95 V V V V V (Zd V V ?_)
       rcases Zi h94 with ⟨rfl, g94⟩ | ⟨rfl, g94⟩
       ·skip
        refine Zk 96 V V V V V (Zk 97 V V V V V (Zk 98 V V V V V (Zk 99 V V V V V (Zk 100 V V V V V (Zk 101 V V V V V (Zk 102 V V V V V (Zk 103 V V V V V (Zk 104 V V V V V (Zl 105 V V V V V (Zn V V V (Za 106 V V V (Zn V V V (Za 4 V V V (Ze V V ?_))))))))))))))
        refine Vs (Ud V ?_ by5 by3)
        clear HP1 HHy HA1 HH1 HHx1 HN; first | (simp_all; done) | grind
       skip
       refine Zl 96 V V V V V (Zx (cs' := [_, _, _]) (i := 1) V Xw V V V V (Zl 97 V V V V V (Zj V tf_32_0 V V (Zl 98 V V V V V (Zo V ta_22 V V (Zl 99 V V V V V (Zj V tf_32_2 V V (Zl 100 V V V V V (Yc (cs' := [_, _, _, _]) V Wm V V V (Zl 101 V V V V V (Zj V tf_32_1 V V (Zl 102 V V V V V (Yc (cs' := [_, _, _, _, _]) V ta_27 V V V (Zl 103 V V V V V (Yg (xs := [.tmp 96, .tmp 98, .tmp 100, .tmp 102]) V V (HHx1) by1 ?_))))))))))))))); intro c103 h103
       refine Zl 104 V V V V V (Xr V V ?_); intro c104 h104
       try replace h104 := nott h104 h103
       refine Zl 105 V V V V V (Zn V V V (Za 106 V V V (Zn V V V (Za 4 V V V (Ze V V (Vs (Ud V ?_ by5 by3)))))))
       clear HP1 HHy HA1 HH1 HHx1 HN; first | (simp_all; done) | grind
      skip
      refine Zk 92 V V V V V (Zk 93 V V V V V (Zk 94 V V V V V (Zk 95 V V V V V (Yj 96 V V V V V (Yj 97 V V V V V (Yj 98 V V V V V (Yj 99 V V V V V (Yj 100 V V V V V (Yj 101 V V V V V (Yj 102 V V V V V (Yj 103 V V V V V ?_)))))))))))
      refine Yj 104 V V V V V (Zk 105 V V V V V (Za 106 V V V (Zn V V V (Za 4 V V V (Ze V V (Vs (Ud V ?_ by5 by3)))))))
      clear HP1 HHy HA1 HH1 HHx1 HN; first | (simp_all; done) | grind
     intro c4 h4
     exact Zb (Ya (Yh V V (Vz _) (Vu _) (by simp_all)))
    refine Zt V (Zv (Zb (Zg (Zz (Zg ?_)))))
    obtain ⟨⟨zk, zn, zc, zl⟩, hxy⟩ := Yw (l := l) (i := i) (by omega)
    have hcy := Pf.cellss_get hxy
    have HXy := HH1 ⟨zk, zn, zc, zl⟩
    have h4y := h4 _ (Uk hxy)
    simp only [Pf.cells] at hcy HXy
    refine Zc (Za 79 V V V (Yd V te_28 V (.seq _ _) V V (hcy) (Za 80 V V V (Yc (cs' := [_, _, _, _]) V Wm V V V (Za 11 V V V (Zy (cs' := [_, _, _, _]) V tz_30 V V ?_)))))); intro b11
    refine Zs V V (Zq (cs' := [_, _, _, _]) (i := 0) V ts_30 V V V V V (Uf V) V (Vs (Zb (Zg (Zc (Za 81 V V V (Zx (cs' := [_, _, _]) (i := 2) V Xw V V V V (Za 82 V V V (Zj V tf_32_0 V V (Za 83 V V V (Zo V ta_22 V V (Za 84 V V V (Zx (cs' := [_, _, _, _]) (i := 0) V Wm V V V V (Za 85 V V V (Zj V tf_32_1 V V (Za 86 V V V (Yc (cs' := [_, _, _, _, _]) V ta_27 V V V (Za 87 V V V (Yg (xs := [.tmp 81, .tmp 83, .tmp 84, .tmp 86]) V V (HXy) by1 ?_))))))))))))))))))); intro c87 h87
    refine Za 88 V V V (Xr V V ?_); intro c88 h88
    try replace h88 := nott h88 h87
    refine Vs (Zb ?_)
    rcases Zi h88 with ⟨rfl, g88⟩ | ⟨rfl, g88⟩
    ·refine Zr V (Zv (Yt (Zb (Zc (Za 89 V V V (Yx V V V (Uj _ (by omega)) ?_))))))
     refine Za 77 V V V (Zd V V (Vs (Yz ?_)))
     exact ⟨i + 1, (by show i + 1 ≤ l.length; omega), by show l.length - (i + 1) < l.length - i; omega, by4, by3⟩
    refine Zt V (Zg (Zc (Za 4 V V V (Ze V V (Vs (Zb (Ya ?_)))))))
    first | exact absurd h4y g88 | exact absurd h4y g87
   refine Zt V (Zg ?_)
   exact g64.elim
  exact Zt V (Zg (Zc (Za 4 V V V (Ze V V (Vs (Zb (Ya (Yh V V (Vz _) (Vu _) V))))))))
 refine Zt V (Zg ?_)
 exact absurd g13 (by simp)
theorem entailBack_own : ownKnob Tryz.prog.godebug = none := by kernel_rfl
theorem entailBack_laidOut : laidOutB Tryz.prog = true := by kernel_rfl
theorem entailBack_lifted (os : Os) (started : os.Started) (H : Type) (enc : TypeId × Value → H) :
    ReturnsInHanded {} Tryz.checked os 7 .any (Rows.entailBackSpec.pre6 enc Tryz.prog Tryz.f7 Rows.entailBackRow.domain false) (Rows.entailBackSpec.post enc Tryz.prog Tryz.f7 false true false false) := by
 refine returnsInHanded_of_change_sized (C := Tryz.checked) entailBack_own started (by kernel_rfl) Tryz.func7
  (ChangeSpec.witness6 (enc := enc) (C := Tryz.checked) false ⟨#[], #[.string ⟨#[]⟩, .agg #[.slice none 0 0, .string ⟨#[]⟩, .int .i64 0, .string ⟨#[]⟩, .int .i64 0, .slice none 0 0, .int .i64 0, .int .i64 0, .string ⟨#[]⟩, .slice none 0 0, .int .i64 0, .int .i64 0]], []⟩ 8 (by kernel_rfl) (by kernel_rfl) (by kernel_rfl) (by kernel_rfl)) ?_
 intro W base args ds gs before hval0 hW hcnd hsz0 _
 have hval : ∀ (j : Nat) t v, Tryz.f7.params[j]? = some t → args[j]? = some v → Value.okWide Tryz.prog W .any base t v := hval0
 have hsz : (DataW.weightsEach Tryz.prog (Tryz.f7.params.toList ++ Rows.entailBackSpec.plain.varTypes Tryz.prog) (ds ++ gs)).all (· ≤ reachBytes) = true := hsz0
 have hW' := hW
 obtain ⟨p, q, hA0, hV, rfl, hfz, hnd⟩ := hW
 have hA : DataW.TrodAll enc Tryz.prog W 0 (fun _ => true) true Tryz.f7.params.toList args.toList ds p := hA0
 rw [Tryz.params7] at hA hval hsz
 obtain ⟨rfl, rfl⟩ := trodVars_none hV
 obtain ⟨v0, v1, d0, d1, p0, p1, rfl, rfl, rfl, h0, h1⟩ := trodAll_two hA
 obtain ⟨f0, c0, s0, r0, o0⟩ := open_one closed12 (by decide) h0
 obtain ⟨s, l0, rfl⟩ := shape_str Ws s0
 obtain ⟨f1, c1, s1, r1, o1⟩ := open_one closed12 (by decide) h1
 obtain ⟨a, rfl⟩ := shape_ask s1
 refine (law_run (EntailBack_c s a) (.cons (rel_cell (okw_str Tryz.underlying9 (hval 0 9 v0 rfl rfl)) r0) (.cons (rel_agg' (by rw [Ask.cells_len]; decide) r1 o1) .nil))).mono fun e W' ⟨he, hb⟩ => ?_
 subst he
 exact ⟨_, V, law_post (tb := 4) entailBack_laidOut (by kernel_rfl) (by kernel_rfl) Tryz.underlying4 V V V V hW' hb⟩
theorem entailBack_holds : Rows.EntailBackSaid :=
 OpenClaim.holds_of_wide 7 Tryz.f7 rfl rfl rfl rfl rfl rfl rfl ⟨rfl, rfl, rfl, rfl, rfl⟩ rfl rfl rfl rfl rfl (by kernel_rfl) Tryz.func7 (by kernel_rfl)
  (of_decide_eq_true (by kernel_rfl)) (by unfold Func.isWrapper; first | (rw [if_pos (by decide +kernel)]; kernel_rfl) | (rw [if_neg (by decide +kernel)]; exact ⟨rfl, rfl⟩))
  (fun os started H enc _ => entailBack_lifted os started H enc)
#print axioms entailBack_holds
end Go.Proofs.YtknodnfbaofngaaGreat
