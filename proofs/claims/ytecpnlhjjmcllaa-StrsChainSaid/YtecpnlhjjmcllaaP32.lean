/- Plain texts as objects: which objects are texts. -/
import Derived.Test.YtecpnlhjjmcllaaB31c
import Derived.Test.YtecpnlhjjmcllaaB32w
namespace Go.Proofs.Ytecpnlhjjmcllaa
def need (n : Int) : Int := (max n 0 + 7) / 8 + 2
def txt (s : ByteArray) : List Int := intW s.size :: (packL (bytesN s)).map (fun n : Nat => (n : Int))
def textO (s : ByteArray) : HO := ⟨3, 0, txt s⟩
/-- are an object's parts such that its words are told? -/
def wordsOk (o : HO) : Prop := o.kind = 3 ∧ o.tag = 0 ∧ isI (o.parts.headD 0) = true ∧ 0 ≤ toI (o.parts.headD 0) ∧ toI (o.parts.headD 0) ≤ (o.parts.length - 1 : Int) * 8 ∧ need (toI (o.parts.headD 0)) = o.parts.length + 1
def natsOf (l : List Int) : List Nat := l.map Int.toNat
theorem natsOf_cast {l : List Int} (h : ∀ x ∈ l, 0 ≤ x) : (natsOf l).map (fun n : Nat => (n : Int)) = l := by
  unfold natsOf
  rw [List.map_map]
  conv => rhs; rw [← List.map_id l]
  apply List.map_congr_left
  intro x hx
  have := h x hx
  simp; omega
theorem natsOf_map (l : List Nat) : natsOf (l.map (fun n : Nat => (n : Int))) = l := by
  unfold natsOf
  rw [List.map_map]
  conv => rhs; rw [← List.map_id l]
  apply List.map_congr_left
  intro x _
  simp
theorem toI_intW (n : Nat) (h : n < 4611686018427387904) : toI (intW n) = n ∧ isI (intW n) = true := by
  have := back_int n
  refine ⟨?_, this.2⟩
  rw [this.1]; unfold W63; omega
theorem intW_toI {w : Int} (h0 : 0 ≤ w) (h1 : w ≤ 18446744073709551615) (h : isI w = true) : intW (toI w) = w := by
  unfold isI at h
  have h : w % 2 = 1 := by simpa using h
  unfold intW toI
  rw [if_pos h]
  unfold R63 W63
  omega
theorem txt_len (s : ByteArray) : (txt s).length = (s.size + 7) / 8 + 1 := by simp [txt, packL_len, bytesN_len]
theorem intW_bounds (n : Int) : 0 ≤ intW n ∧ intW n ≤ 18446744073709551615 := ⟨intW_lo n, intW_hi n⟩
theorem txt_bounds (s : ByteArray) : ∀ x ∈ txt s, 0 ≤ x ∧ x ≤ 18446744073709551615 := by
  intro x hx
  rcases List.mem_cons.1 hx with rfl | hx
  · exact intW_bounds _
  · obtain ⟨n, hn, rfl⟩ := List.mem_map.1 hx
    have := packL_lt (bytesN s) (bytesN_lt s) n hn
    omega
/-- the words of a text are told, and they are the text -/
theorem text_words {s : ByteArray} (hs : s.size ≤ 1000000000) : wordsOk (textO s) ∧ toI ((textO s).parts.headD 0) = s.size ∧ natsOf (textO s).parts.tail = packL (bytesN s) := by
  have h1 := toI_intW s.size (by omega)
  refine ⟨⟨rfl, rfl, h1.2, ?_, ?_, ?_⟩, h1.1, natsOf_map _⟩
  · show 0 ≤ toI (intW s.size); rw [h1.1]; omega
  · show toI (intW s.size) ≤ ((txt s).length - 1 : Int) * 8; rw [h1.1, txt_len]; omega
  · show need (toI (intW s.size)) = (txt s).length + 1; rw [h1.1, txt_len]; unfold need; omega
theorem words_text {o : HO} (ho : o.ok) (hw : wordsOk o) (ht : tOk (natsOf o.parts.tail) (toI (o.parts.headD 0)) = true) : o = textO (tS (natsOf o.parts.tail) (toI (o.parts.headD 0))) := by
  obtain ⟨kd, tg, ps⟩ := o
  obtain ⟨_, hpos, hb⟩ := ho
  simp only at hb hpos
  obtain ⟨k1, k2, k3, k4, k5, k6⟩ := hw
  simp only at k1 k2 k3 k4 k5 k6 ht ⊢
  cases ps with
  | nil => simp at hpos
  | cons p l =>
    simp only [List.headD_cons, List.tail_cons] at *
    obtain ⟨n, hn⟩ : ∃ n : Nat, toI p = n := ⟨(toI p).toNat, by omega⟩
    have hp := hb p (by simp)
    have e := intW_toI hp.1 hp.2 k3
    rw [hn] at ht e ⊢
    have hlt : ∀ x ∈ natsOf l, x < 18446744073709551616 := by
      intro x hx
      obtain ⟨y, hy, rfl⟩ := List.mem_map.1 hx
      have := hb y (by simp [hy])
      omega
    have ht' := ht
    unfold tOk at ht
    simp only [Bool.and_eq_true, beq_iff_eq, Int.toNat_natCast] at ht
    have hbn : bytesN (tS (natsOf l) n) = bytesOf (natsOf l) n := by
      unfold tS unpS
      rw [ht', if_pos rfl, Int.toNat_natCast]
      refine bytesN_strN _ (fun x hx => ?_)
      obtain ⟨i, _, rfl⟩ := List.mem_map.1 hx
      exact byteAt_lt _ _
    have hsz : (tS (natsOf l) n).size = n := by rw [← bytesN_len, hbn, bytesOf_len]
    subst k1 k2
    unfold textO txt
    rw [hbn, hsz, e, ht.2, natsOf_cast (fun x hx => (hb x (by simp [hx])).1)]
/-- is an object a text? -/
def IsT (o : HO) (s : ByteArray) : Prop := o = textO s ∧ s.size ≤ 1000000000
theorem isT_iff {o : HO} (ho : o.ok) {s : ByteArray} : IsT o s ↔ wordsOk o ∧ tOk (natsOf o.parts.tail) (toI (o.parts.headD 0)) = true ∧ s = tS (natsOf o.parts.tail) (toI (o.parts.headD 0)) := by
  constructor
  · rintro ⟨rfl, hs⟩
    obtain ⟨h1, h2, h3⟩ := text_words hs
    rw [h2, h3]
    exact ⟨h1, (tOk_pack s).1, (tOk_pack s).2.symm⟩
  · rintro ⟨h1, h2, rfl⟩
    have h := words_text ho h1 h2
    refine ⟨h, ?_⟩
    have hl := ho.1
    unfold headOk at hl
    simp only [Bool.and_eq_true, decide_eq_true_eq] at hl
    have h6 : (textO (tS (natsOf o.parts.tail) (toI (o.parts.headD 0)))).parts.length = o.parts.length := by rw [← h]
    rw [show (textO (tS (natsOf o.parts.tail) (toI (o.parts.headD 0)))).parts = txt (tS (natsOf o.parts.tail) (toI (o.parts.headD 0))) from rfl, txt_len] at h6
    omega
/-- the text of a word -/
noncomputable def getT (H : List HO) (w : Int) : Option ByteArray := by
  classical exact match objOf H w with
  | some o => if wordsOk o ∧ tOk (natsOf o.parts.tail) (toI (o.parts.headD 0)) = true then some (tS (natsOf o.parts.tail) (toI (o.parts.headD 0))) else none
  | none => none
noncomputable def getR (H : List HO) (w : Int) : AV := match getT H w with
  | some s => .tup [.val (.string s), .val (.bool true)]
  | none => .tup [.val (.string ⟨#[]⟩), .val (.bool false)]
theorem txt_iv (s : ByteArray) : (txt s).map iv = iv (intW s.size) :: (packL (bytesN s)).map ivN := by
  unfold txt; rw [List.map_cons, List.map_map]; rfl
end Go.Proofs.Ytecpnlhjjmcllaa
