/- (*Heap).Alloc, where there is room. -/
import Derived.Test.YtecpnlhjjmcllaaW31l
namespace Go.Proofs.Ytecpnlhjjmcllaa
open Go.RowKit
set_option maxHeartbeats 1000000 in
theorem Alloc_0 (w : World) (base p : Nat) (H : Hp) (a b c d : Value) (h : HpAt w base p H a b c d) (h0 : H.now = 0) (hx : H.xs.length ≤ 50000000) (hbs : H.bs.length ≤ 50000000) (hbase : base ≤ w.heap.size) (k t : Int) (m : Nat) (hok : headOk k t m = true) (hm : 1 ≤ m) (hr : roomB H ((m : Int) + 1) = true)
    (ao : Option Addr) (cp : Nat) (ps : List Nat) (hp : SlAt w ao 1 m (u64s ps)) (hcp : ao = none → cp = 0) (hq : ∀ b o, ao = some ⟨b, o, none⟩ → a.ownBlock ≠ some b) :
    Calls Try.prog 22 #[.pointer (some ⟨p, 0, none⟩), .int .i64 k, .int .i64 t, .slice ao m cp] w fun e w' => e = .returned (.tuple #[.int .u64 (ptrW (H.xs.length : Int)), .bool true]) ∧ ∃ a' b', HpAt w' base p (H.put (headW k t m).toNat ps) a' b' c d ∧ Below base w w' := by
  have hk : 0 ≤ k ∧ k ≤ 3 ∧ 0 ≤ t ∧ t ≤ 65535 ∧ (m : Int) ≤ 16777216 := by
    unfold headOk at hok; simp at hok; omega
  have e1 : okE (headOk k t m) = 0 := by rw [hok]; rfl
  have c5 : w.cell? ⟨p, 5, none⟩ = some (.int .i64 0) := by have := h.s0.bk.cell 5; rw [this]; simp [arrH, h0]
  have m0 : ((m : Int) == 0) = false := by simp; omega
  obtain ⟨r, hrr⟩ : ∃ r, r = roomB H ((m : Int) + 1) := ⟨_, rfl⟩
  have RC := Lib.hid (Room_some w base p H a b c d h (by omega) ((m : Int) + 1))
  rw [hr] at RC
  have hH := Lib.hid h
  have HOK := Lib.hid hok
  have HCP := Lib.hid hcp
  have HQ := Lib.hid hq
  have H0 := Lib.hid h0
  clear h hok hcp hq hr h0 hrr
  go_enter Try.func22, Try.ntmps22
  go_wp2_with (first | (go_at_call 47; refine (Head_c k t m _ (by omega) (by omega) (by omega) (by omega) (by omega) (by omega)).mono ?_; rintro e w' ⟨rfl, rfl⟩) | (go_at_call 25; refine RC.out.mono ?_; rintro e w' ⟨rfl, j, rfl⟩))
  have hS : SpAt (w.drewN j).drew base p 1 (arrH H a b c d) 81 H.x0 H.b0 a b := ⟨hH.out.s0.bk, hH.out.s0.cw, hH.out.s0.cb, hH.out.s0.ow, hH.out.s0.ob, hH.out.s0.ap, hH.out.s0.pw, hH.out.s0.pb, hH.out.s0.bp⟩
  have hP : SlAt (w.drewN j).drew ao 1 m (u64s ps) := hp
  have hxx : H.x0.length ≤ 50000000 := by have := hx; unfold Hp.xs at this; rw [if_pos H0.out] at this; exact this
  have hbb : H.b0.length ≤ 50000000 := by have := hbs; unfold Hp.bs at this; rw [if_pos H0.out] at this; exact this
  have hxe : H.xs.length = H.x0.length := by unfold Hp.xs; rw [if_pos H0.out]
  have HXE := Lib.hid hxe
  clear hxe
  have hlo := headW_lo k t m
  have hN : ((headW k t m).toNat : Int) = headW k t m := by omega
  have PC := put_c (w.drewN j).drew base p 1 (arrH H a b c d) 81 H.x0 H.b0 a b hS (headW k t m).toNat ao m cp ps hP HCP.out HQ.out hbase (by omega) (by omega) (by omega)
  rw [hN] at PC
  have PCH := Lib.hid PC
  clear PC hN
  go_cut [12] (fun s wx => s = .int .u64 (ptrW (H.x0.length : Int)) ∧ ∃ a', PutRel (w.drewN j).drew wx base p 1 (arrH H a b c d) 81 (H.x0 ++ (headW k t m).toNat :: ps) (H.b0 ++ true :: List.replicate m false) a b a')
  case first =>
    go_region_with (first | (go_at_call 49; refine PCH.out.mono ?_; rintro e w1 ⟨rfl, a', hr⟩; have HR := Lib.hid hr; clear hr) | (go_at_call 48; refine (Ptr_c _ _ (by omega) (by omega)).mono ?_; rintro e w2 ⟨rfl, rfl⟩))
    all_goals go_wp2_with fail
    all_goals go_meet
    all_goals exact ⟨rfl, _, HR.out⟩
  case rest =>
    obtain ⟨rfl, a', hr⟩ := hcut
    have HR := Lib.hid hr
    clear hr
    go_wp2_with fail
    go_ret2
    have lps : ps.length = m := by have := hp.len; simpa [u64s] using this
    refine ⟨by rw [HXE.out]; rfl, a', ?_⟩
    have hr := HR.out
    rw [← lps] at hr
    obtain ⟨b', hb'⟩ := HpAt.put0 (w := (w.drewN j).drew) ⟨hS, ⟨hH.out.s1.bk, hH.out.s1.cw, hH.out.s1.cb, hH.out.s1.ow, hH.out.s1.ob, hH.out.s1.ap, hH.out.s1.pw, hH.out.s1.pb, hH.out.s1.bp⟩, hH.out.ac, hH.out.ad, hH.out.bc, hH.out.bd, hH.out.now, hH.out.lo, hH.out.hi⟩ H0.out _ _ hr
    rw [lps] at hb'
    obtain ⟨_, _, _, _, _, hbel⟩ := hr
    exact ⟨b', hb', ⟨hbel.os, hbel.tape, hbel.output, hbel.size, hbel.block⟩⟩
end Go.Proofs.Ytecpnlhjjmcllaa
