/- Packing and unpacking of texts, in the words of the logic. -/
import Derived.Test.YtecpnlhjjmcllaaW02v
import Derived.Test.YtecpnlhjjmcllaaB31w
import Derived.Test.YtecpnlhjjmcllaaAY
namespace Go.Proofs.Ytecpnlhjjmcllaa
open Go.RowKit
theorem ones_map {α : Type} (f : α → Value) (h : ∀ x, (f x).oneCell' = true) (l : List α) : Ones (l.map f) := fun v hv => by
  obtain ⟨x, _, rfl⟩ := List.mem_map.1 hv
  exact h x
theorem flat_ones : ∀ l : List Value, (l.map fun x => [AV.val x]).flatten = l.map AV.val
  | [] => rfl
  | x :: l => by simp [flat_ones l]
/-- a contract of the model's own kind whose answer is a slice of the call's own -/
theorem OCall.of_calls {P : Program} {f : FuncId} {vs : List Value} {e : TypeId} {n : Nat} {xs : List Value} (he : Enters P f) (h1 : Ones xs) (hn : xs.length = n) (hm : n ≤ maxLen)
    (h : ∀ w, Calls P f vs.toArray w fun ee w' => ∃ v, ee = .returned v ∧ w'.ownsRow w.heap.size e 1 v n xs ∧ Below w.heap.size w w') : OCall P f (vs.map AV.val) e 1 (xs.map fun x => [.val x]) := by
  refine ⟨he, fun B F Mf w us hi hr => ?_⟩
  have e0 : us = vs := by
    have key : ∀ (vs us : List Value), Rels F (vs.map AV.val) us → us = vs := by
      intro vs
      induction vs with
      | nil => intro us h; cases h; rfl
      | cons v vs ih =>
        intro us h
        cases h with
        | cons h hs => cases h; rw [ih _ hs]
    exact key vs us hr
  subst e0
  refine (h w).mono ?_
  rintro ee w' ⟨v, rfl, hown, hb⟩
  have hk := hi.kept hb
  have hg : ∀ g, v.ownBlock = some g → w.heap.size ≤ g := by
    intro g hg
    rcases hown.2 with ⟨rfl, _⟩ | ⟨g', cap, cur, rfl, hge, _⟩
    · simp [Value.ownBlock] at hg
    · simp [Value.ownBlock] at hg; omega
  have hF : ∀ g i, v.ownBlock = some g → F g i = none := fun g i q => hi.dom (hg g q)
  have hext : Ext F (F.grow v.ownBlock xs) := by
    intro b j x h
    unfold EH.grow
    split
    · rename_i hh
      rw [hF b j hh.1.symm] at h; cases h
    · exact h
  have hfix : ∀ b i x, (F.grow v.ownBlock xs) b i = some x → w'.cell? ⟨b, i, none⟩ = some x := by
    intro b j x h
    unfold EH.grow at h
    split at h
    · rename_i hh
      obtain ⟨hb', hj⟩ := hh
      rcases hown.2 with ⟨rfl, _⟩ | ⟨g, cap, cur, rfl, _⟩
      · simp [Value.ownBlock] at hb'
      · simp [Value.ownBlock] at hb'
        subst hb'
        rw [hown.cellAt j (by rw [← hown.1]; exact hj)]; exact h
    · exact hk.fix b j x h
  refine ⟨v, .own v 1 (xs.map fun x => [.val x]), [.own e 1 v], F.grow v.ownBlock xs, rfl, ⟨v, rfl, rfl⟩, ?_, hext, ?_, hb.mono hi.base⟩
  · refine .own v ?_
    have hwid : ∀ z ∈ xs.map (fun x => [AV.val x]), z.length = 1 := fun z hz => by obtain ⟨x, _, rfl⟩ := List.mem_map.1 hz; rfl
    rcases hown.2 with ⟨rfl, h0⟩ | ⟨g, cap, cur, rfl, _, _, hnc, hcm, _⟩
    · have : xs = [] := List.eq_nil_of_length_eq_zero (by omega)
      subst this
      exact .seq0 1 none 0 (fun _ => rfl)
    · have hl : (xs.map fun x => [AV.val x]).length = n := by simpa using hn
      have key := Rel.seq (F := F.grow (Value.slice (some ⟨g, 0, none⟩) n cap).ownBlock xs) (m := 1) (es := xs.map fun x => [AV.val x]) (vs := xs) g 0 cap hwid (by rw [hl]; exact hm) (fun j x hx => by
        unfold EH.grow
        rw [if_pos ⟨by simp [Value.ownBlock], by simpa using get_lt hx⟩, Nat.zero_add]; exact hx) (by rw [flat_ones]; exact Rels.vals _ xs) h1 (by rw [hl]; exact hnc)
      rw [hl] at key
      exact key
  · refine ⟨hk.base, hfix, fun r hr => ?_, List.pairwise_cons.2 ⟨fun r hr => ?_, hi.far⟩⟩
    · rcases List.mem_cons.1 hr with rfl | hr
      · refine ⟨n, xs, ⟨hown.1, ?_⟩, fun g i q hi' => ?_⟩
        · rcases hown.2 with q | ⟨g, cap, cur, q1, q2, q3⟩
          · exact .inl q
          · exact .inr ⟨g, cap, cur, q1, Nat.le_trans hi.base q2, q3⟩
        · unfold EH.grow
          rw [if_neg (by rintro ⟨_, z⟩; omega)]
          exact hF g i q
      · refine (hk.ok r hr).stay hext (fun b hb' => ⟨rfl, fun i => ?_⟩)
        unfold EH.grow
        rw [if_neg]
        rintro ⟨z, _⟩
        have := (hi.ok r hr).lt hb'
        have := hg b z.symm
        omega
    · show Far (.own e 1 v) r
      cases q : v.ownBlock with
      | none => exact .inl q
      | some g =>
        right
        show v.ownBlock ≠ r.blk
        rw [q]
        intro z
        have := (hi.ok r hr).lt z.symm
        have := hg g q
        omega
def ivN (n : Nat) : List AV := [.val (.int .u64 (n : Int))]
theorem Pack_o (s : ByteArray) (hs : s.size ≤ 1000000000) : OCall Try.prog 58 [.val (.string s)] 42 1 ((packL (bytesN s)).map ivN) := by
  have := OCall.of_calls (vs := [.string s]) (xs := u64s (packL (bytesN s))) (n := (s.size + 7) / 8) (enters_of Try.func58 (by kernel_rfl) rfl) (ones_map _ (fun _ => rfl) _) (by rw [u64s_len, packL_len, bytesN_len]) (by unfold maxLen; omega) (fun w => Pack_c s w hs)
  rw [u64s, List.map_map] at this
  exact this
theorem rPack_o (s : ByteArray) (hs : s.size ≤ 1000000000) : OCall Try.prog 54 [.val (.string s)] 42 1 ((packL (bytesN s)).map ivN) := by
  have := OCall.of_calls (vs := [.string s]) (xs := u64s (packL (bytesN s))) (n := (s.size + 7) / 8) (enters_of Try.func54 (by kernel_rfl) rfl) (ones_map _ (fun _ => rfl) _) (by rw [u64s_len, packL_len, bytesN_len]) (by unfold maxLen; omega) (fun w => rPack_c s w hs)
  rw [u64s, List.map_map] at this
  exact this
/-- whether so many bytes of words are a text, and which -/
def tOk (ls : List Nat) (n : Int) : Bool := decide (0 ≤ n) && decide (n ≤ 8 * (ls.length : Int)) && (packL (bytesOf ls n.toNat) == ls)
def tS (ls : List Nat) (n : Int) : ByteArray := unpS (tOk ls n) ls n.toNat
theorem Unpack_any (a : Option Addr) (m ca : Nat) (n : Int) (ls : List Nat) (w : World) (ha : SlAt w a 1 m (u64s ls)) (hu : ∀ x ∈ ls, x < 18446744073709551616) (hm : m ≤ 1000000) :
    Calls Try.prog 52 #[.slice a m ca, .int .i64 n] w fun e w' => e = .returned (.tuple #[.string (tS ls n), .int .i64 (okE (tOk ls n))]) ∧ Below w.heap.size w w' := by
  have lx : ls.length = m := by have := ha.len; simpa [u64s_len] using this
  by_cases h : n < 0 ∨ 8 * (m : Int) < n ∨ n ≤ 8 * ((m : Int) - 1)
  · have hno : tOk ls n = false := by
      unfold tOk
      by_cases h0 : n < 0 ∨ 8 * (m : Int) < n
      · rw [lx]
        have : (decide (0 ≤ n) && decide (n ≤ 8 * (m : Int))) = false := by simp; omega
        rw [this]; rfl
      · have hf : ¬ packL (bytesOf ls n.toNat) = ls := by
          rw [pack_bytesOf ls n.toNat hu (by rw [lx]; omega)]
          rintro ⟨k1, _⟩
          rw [lx] at k1
          omega
        rw [beq_eq_false_iff_ne.2 hf]; simp
    refine (Unpack_no a m ca n w hm h).mono ?_
    rintro e w' ⟨rfl, rfl⟩
    exact ⟨by unfold tS; rw [hno]; rfl, Below.refl _ _⟩
  · obtain ⟨k, rfl⟩ : ∃ k : Nat, n = k := ⟨n.toNat, by omega⟩
    have hok : tOk ls k = (packL (bytesOf ls k) == ls) := by
      unfold tOk
      rw [lx, Int.toNat_natCast]
      have : (decide ((0 : Int) ≤ k) && decide ((k : Int) ≤ 8 * (m : Int))) = true := by simp; omega
      rw [this]; rfl
    refine (Unpack_run a m ca k ls w ha hm (by omega) (by omega) (packL (bytesOf ls k) == ls) ?_).mono ?_
    · rw [beq_iff_eq]; exact pack_bytesOf ls k hu (by rw [lx]; omega)
    · rintro e w' ⟨rfl, hb⟩
      exact ⟨by unfold tS; rw [hok, Int.toNat_natCast], hb⟩
theorem tOk_pack (s : ByteArray) : tOk (packL (bytesN s)) (s.size : Int) = true ∧ tS (packL (bytesN s)) (s.size : Int) = s := by
  have h1 : bytesOf (packL (bytesN s)) s.size = bytesN s := by
    have := bytes_pack (bytesN s) (bytesN_lt s)
    rwa [bytesN_len] at this
  have hok : tOk (packL (bytesN s)) (s.size : Int) = true := by
    unfold tOk
    rw [packL_len, bytesN_len, Int.toNat_natCast, h1]
    simp; omega
  refine ⟨hok, ?_⟩
  unfold tS
  rw [hok, Int.toNat_natCast]
  unfold unpS
  rw [if_pos rfl, h1, strN_bytesN]
theorem Unpack_p (ls : List Nat) (n : Int) (hu : ∀ x ∈ ls, x < 18446744073709551616) (hm : ls.length ≤ 1000000) : PCall Try.prog 52 [.seq 1 (ls.map ivN), .val (.int .i64 n)] (.tup [.val (.string (tS ls n)), .val (.int .i64 (okE (tOk ls n)))]) := by
  refine ⟨enters_of Try.func52 (by kernel_rfl) rfl, fun B F Mf w us hi hr => ?_⟩
  cases hr with
  | cons h1 hs =>
    rename_i u1 _
    cases hs with
    | cons h2 hs2 =>
      cases hs2
      cases h2
      have hsl : ∃ (ao : Option Addr) (cap : Nat), u1 = Value.slice ao ls.length cap ∧ SlAt w ao 1 ls.length (u64s ls) := by
        generalize hes : ls.map ivN = es at h1
        cases h1 with
        | seq0 _ ao cap _ =>
          have : ls = [] := by simpa using hes
          subst this
          exact ⟨ao, cap, rfl, SlAt.nil w ao 1⟩
        | seq b off cap hm hn hl h h1 hc =>
          subst hes
          rename_i vs
          have e : vs = u64s ls := by
            have e1 : (ls.map ivN).flatten = (u64s ls).map AV.val := by unfold u64s ivN; rw [← flat_ones, List.map_map]; rfl
            rw [e1] at h
            exact rels_vals h
          subst e
          refine ⟨some ⟨b, off, none⟩, cap, by simp, by simp [u64s_len], .inr ⟨b, off, rfl, fun j hj => ?_⟩⟩
          have hj2 : j < (u64s ls).length := by simpa [u64s_len] using hj
          rw [List.getElem?_eq_getElem hj2]
          exact hi.fix _ _ _ (hl j _ (List.getElem?_eq_getElem hj2))
      obtain ⟨ao, cap, rfl, ha⟩ := hsl
      refine (Unpack_any ao ls.length cap n ls w ha hu hm).mono ?_
      rintro e w' ⟨rfl, hb⟩
      refine ⟨_, _, [], F, rfl, ⟨rfl, rfl⟩, ?_, Ext.refl F, hi.kept hb, hb.mono hi.base⟩
      exact .tup (.cons (.val _) (.cons (.val _) .nil))
end Go.Proofs.Ytecpnlhjjmcllaa
