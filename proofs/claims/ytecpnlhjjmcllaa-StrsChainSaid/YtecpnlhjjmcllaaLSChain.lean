/- StrsChain returns true for every input: the order of any three texts is the other way round the other way round, and goes on; a text behind another one is greater than that, or it is empty. -/
import Derived.Test.YtecpnlhjjmcllaaB32a
import Derived.Test.YtecpnlhjjmcllaaAO3
import Derived.Test.YtecpnlhjjmcllaaL00
import Derived.Test.YtecpnlhjjmcllaaChecked
import Derived.Test.YtecpnlhjjmcllaaRows
import Derived.ChangeMaps5
namespace Go.Proofs.Ytecpnlhjjmcllaa
open Go.ChangeShapes Go.WideShapes Go.ChangeAt Go.RowKit
theorem Order_t (b : Nat) (sz : Int) (ss : List ByteArray) (M : Mem) (hM : HeapAt b sz (hT ss) M) (h : 0 < sz) (hs : ∀ s ∈ ss, s.size ≤ 1000000) (hu : used (hT ss) ≤ 1000000) (i j : Nat) (x y : ByteArray) (hx : ss[i]? = some x) (hy : ss[j]? = some y) : KCall Try.prog 34 [.ptr b 0, .val (.int .u64 (2 * ((adr (hT ss) i : Nat) : Int))), .val (.int .u64 (2 * ((adr (hT ss) j : Nat) : Int)))] M (.tup [.val (.int .i64 (cmpB x.data.toList y.data.toList)), .val (.bool true)]) := by
  have h1 := adr_fit (H := hT ss) (k := i) (o := textO x) (by simp [hT, hx])
  have h2 := adr_fit (H := hT ss) (k := j) (o := textO y) (by simp [hT, hy])
  have := Order_c b sz _ M hM h (hT_ok hs) hu (2 * ((adr (hT ss) i : Nat) : Int)) (2 * ((adr (hT ss) j : Nat) : Int)) (by omega) (by omega) (by omega) (by omega)
  rw [hT_get hx (hs x (List.mem_of_getElem? hx)), hT_get hy (hs y (List.mem_of_getElem? hy))] at this
  unfold ordV at this
  rw [hT_get hx (hs x (List.mem_of_getElem? hx)), hT_get hy (hs y (List.mem_of_getElem? hy))] at this
  exact this
theorem Cat_t (b : Nat) (sz : Int) (ss : List ByteArray) (M : Mem) (hM : HeapAt b sz (hT ss) M) (h : 0 < sz) (hsz : sz ≤ 16777216) (hs : ∀ s ∈ ss, s.size ≤ 1000000) (hu : used (hT ss) ≤ 1000000) (i j : Nat) (x y : ByteArray) (hx : ss[i]? = some x) (hy : ss[j]? = some y) (hxy : (x ++ y).size ≤ 1000000) (hfit : (used (hT ss) : Int) + (((x ++ y).size + 7) / 8 + 2 : Nat) ≤ sz) :
    ACall Try.prog 35 [.ptr b 0, .val (.int .u64 (2 * ((adr (hT ss) i : Nat) : Int))), .val (.int .u64 (2 * ((adr (hT ss) j : Nat) : Int)))] M (fun v M' => v = .tup [.val (.int .u64 (2 * ((adr (hT (ss ++ [x ++ y])) ss.length : Nat) : Int))), .val (.bool true)] ∧ HeapAt b sz (hT (ss ++ [x ++ y])) M') := by
  have h1 := adr_fit (H := hT ss) (k := i) (o := textO x) (by simp [hT, hx])
  have h2 := adr_fit (H := hT ss) (k := j) (o := textO y) (by simp [hT, hy])
  have hgx := hT_get hx (hs x (List.mem_of_getElem? hx))
  have hgy := hT_get hy (hs y (List.mem_of_getElem? hy))
  refine (Cat_c b sz _ M hM h hsz (hT_ok hs) hu (2 * ((adr (hT ss) i : Nat) : Int)) (2 * ((adr (hT ss) j : Nat) : Int)) (by omega) (by omega) (by omega) (by omega)).mono ?_
  rintro v M' ⟨ok, w, H', hr, rfl, hM'⟩
  have hl := txt_len (x ++ y)
  have e : adr (hT (ss ++ [x ++ y])) ss.length = used (hT ss) + 1 := by
    rw [hT_adr ss [x ++ y] (Nat.le_refl _)]
    unfold adr
    rw [List.take_of_length_le (by rw [hT_len]; exact Nat.le_refl _)]
  unfold CatR at hr
  rw [hgx, hgy] at hr
  rcases hr with ⟨_, hr⟩ | ⟨hr, _⟩
  · rcases hr with ⟨h1, rfl, rfl, rfl⟩ | ⟨h1, _⟩
    · rw [e, hT_app]
      exact ⟨by rw [Int.natCast_add]; rfl, hM'⟩
    · exfalso
      apply h1
      refine ⟨?_, ?_, ?_⟩
      · show headOk 3 0 (txt (x ++ y)).length = true
        rw [hl]; generalize (x ++ y).size = q at *; unfold headOk; simp; omega
      · show 0 < (txt (x ++ y)).length
        omega
      · show (used (hT ss) : Int) + (txt (x ++ y)).length + 1 ≤ sz
        omega
  · cases hr
abbrev SS32 : List TypeId := [9]
theorem closedS : closedL Try.prog SS32 = true := by kernel_rfl
set_option maxHeartbeats 4000000 in
set_option maxRecDepth 100000 in
theorem StrsChain_c (a b c : ByteArray) (la : a.size ≤ reachBytes) (lb : b.size ≤ reachBytes) (lc : c.size ≤ reachBytes) : ACall Try.prog 8 [.val (.string a), .val (.string b), .val (.string c)] [] (fun v _ => v = .val (.bool true)) := by
  unfold reachBytes at la lb lc
  have q1 := cmp_anti a.data.toList b.data.toList
  have q2 := cmp_trans a.data.toList b.data.toList c.data.toList
  have q3 := cmp_app a.data.toList b.data.toList
  have hab : (a ++ b).data.toList = a.data.toList ++ b.data.toList := by simp
  rw [← hab] at q3
  have hbe : b.data.toList = [] ↔ b = ⟨#[]⟩ := ⟨fun e => by apply Go.WideShapes.bytes_inj; rw [e], fun e => by rw [e]⟩
  rw [hbe] at q3
  have hsz : (a ++ b).size = a.size + b.size := ByteArray.size_append
  have u0 : used (hT []) = 0 := rfl
  have u1 := hT_used [] a
  have u2 := hT_used [a] b
  have u3 := hT_used [a, b] c
  have u4 := hT_used [a, b, c] (a ++ b)
  simp only [List.nil_append, List.cons_append] at u1 u2 u3 u4
  have hP1 := fun bb M hM hs hf => Put_t bb 5000 [] M hM (by omega) (by omega) a hs hf
  have hP2 := fun bb M hM hs hf => Put_t bb 5000 [a] M hM (by omega) (by omega) b hs hf
  have hP3 := fun bb M hM hs hf => Put_t bb 5000 [a, b] M hM (by omega) (by omega) c hs hf
  have hO1 := fun bb M hM hs hu => Order_t bb 5000 [a, b, c] M hM (by omega) hs hu 0 1 a b rfl rfl
  have hO2 := fun bb M hM hs hu => Order_t bb 5000 [a, b, c] M hM (by omega) hs hu 1 0 b a rfl rfl
  have hO3 := fun bb M hM hs hu => Order_t bb 5000 [a, b, c] M hM (by omega) hs hu 1 2 b c rfl rfl
  have hO4 := fun bb M hM hs hu => Order_t bb 5000 [a, b, c] M hM (by omega) hs hu 0 2 a c rfl rfl
  have hC := fun bb M hM hs hu hxy hf => Cat_t bb 5000 [a, b, c] M hM (by omega) (by omega) hs hu 0 1 a b rfl rfl hxy hf
  have hO5 := fun bb M hM hs hu => Order_t bb 5000 [a, b, c, a ++ b] M hM (by omega) hs hu 3 0 (a ++ b) a rfl rfl
  have d1 : adr (hT [a]) 0 = 1 := rfl
  have d2 : adr (hT [a, b]) 1 = adr (hT [a, b, c]) 1 := rfl
  have d3 : adr (hT [a, b, c]) 0 = 1 := rfl
  have d4 : adr (hT [a, b, c, a ++ b]) 0 = 1 := rfl
  simp only [List.nil_append, List.cons_append, List.length_nil, List.length_cons, d1, d2, d3, d4] at hP1 hP2 hP3 hO1 hO2 hO3 hO4 hC hO5
  generalize hcab : cmpB a.data.toList b.data.toList = cab at *
  generalize hcba : cmpB b.data.toList a.data.toList = cba at *
  generalize hcbc : cmpB b.data.toList c.data.toList = cbc at *
  generalize hcac : cmpB a.data.toList c.data.toList = cac at *
  generalize hcabb : cmpB (a ++ b).data.toList a.data.toList = cabb at *
  have hr : -1 ≤ cba ∧ cba ≤ 1 := by
    have : cmpB b.data.toList a.data.toList = -1 ∨ cmpB b.data.toList a.data.toList = 0 ∨ cmpB b.data.toList a.data.toList = 1 := cmp_three _ _
    omega
  refine ACall.enter Try.func8 rfl (by kernel_rfl) rfl (Nat.le_of_ble_eq_true rfl) ?_
  refine c_start ?_
  refine c_seq ?_
  refine c_region ?_
  refine AOps.st 6 rfl rfl rfl (op_assign rfl rfl ?_)
  refine AOps.nil ?_
  refine go_code ?_
  refine c_seq ?_
  refine c_seq ?_
  refine c_region ?_
  refine AOps.st 27 rfl rfl rfl (op_callp (xs := []) rfl rfl (awake32_c) (by first | exact Les.refl _ | (repeat' (first | exact Les.refl _ | refine Les.cons ?_ ?_ | exact Le.refl _ | exact Le.own _ _ _ | exact Le.nil _ | refine Le.agg ?_))) ?_)
  refine AOps.st 28 rfl rfl rfl (op_notc rfl rfl ?_); intro c28 h28
  try replace h28 := nott h28 h27
  refine AOps.nil ?_
  refine go_code ?_
  rcases bool_split h28 with ⟨rfl, g28⟩ | ⟨rfl, g28⟩
  · refine c_cond_f rfl ?_
    refine c_skip ?_
    refine go_code ?_
    refine c_seq ?_
    refine c_seq ?_
    refine c_region ?_
    refine AOps.st 29 rfl rfl rfl (op_move rfl rfl ?_)
    refine AOps.st 30 rfl rfl rfl (op_len_str rfl tu_9 rfl ?_)
    refine AOps.st 31 rfl rfl rfl (op_move rfl rfl ?_)
    refine AOps.st 32 rfl rfl rfl (op_len_str rfl tu_9 rfl ?_)
    first | (refine AOps.st 33 rfl rfl rfl (op_add rfl rfl rfl (IntWalk.i64_in _ (by omega)) ?_)) | (refine AOps.st 33 rfl rfl rfl (op_add rfl rfl rfl rfl ?_))
    refine AOps.st 34 rfl rfl rfl (op_move rfl rfl ?_)
    refine AOps.st 35 rfl rfl rfl (op_len_str rfl tu_9 rfl ?_)
    first | (refine AOps.st 36 rfl rfl rfl (op_add rfl rfl rfl (IntWalk.i64_in _ (by omega)) ?_)) | (refine AOps.st 36 rfl rfl rfl (op_add rfl rfl rfl rfl ?_))
    refine AOps.st 37 rfl rfl rfl (op_gtr rfl rfl rfl ?_); intro c37 h37
    refine AOps.nil ?_
    refine go_code ?_
    rcases bool_split h37 with ⟨rfl, g37⟩ | ⟨rfl, g37⟩
    · refine c_cond_f rfl ?_
      refine c_skip ?_
      refine go_code ?_
      refine c_seq ?_
      refine c_region ?_
      refine AOps.st 39 rfl rfl rfl (op_callat [] (xs := [.const (.int .i64 5000)]) rfl rfl rfl (New_y 5000 (by omega) (by omega)) (by first | exact Les.refl _ | (repeat' (first | exact Les.refl _ | refine Les.cons ?_ ?_ | exact Le.refl _ | exact Le.own _ _ _ | exact Le.nil _ | refine Le.agg ?_))) ?_)
      rintro v1 M1 ⟨bb, rfl, hM⟩
      obtain ⟨r0, r1, r2, rfl⟩ := hM.three
      have hP1 := hP1 bb _ hM (by omega) (by omega)
      refine AOps.st 38 rfl rfl rfl (op_move rfl rfl ?_)
      refine AOps.st 40 rfl rfl rfl (op_extract rfl rfl rfl ?_)
      refine AOps.st 41 rfl rfl rfl (op_extract rfl rfl rfl ?_)
      refine AOps.st 7 rfl rfl rfl (op_assign rfl rfl ?_)
      refine AOps.st 8 rfl rfl rfl (op_assign rfl rfl ?_)
      refine AOps.nil ?_
      refine go_code ?_
      refine c_seq ?_
      refine c_region ?_
      refine AOps.st 43 rfl rfl rfl (op_move rfl rfl ?_)
      refine AOps.st 44 rfl rfl rfl (op_move rfl rfl ?_)
      refine AOps.st 45 rfl rfl rfl (op_callat [0,0,0] (xs := [.tmp 43, .tmp 44])  rfl rfl rfl hP1 (by first | exact Les.refl _ | (repeat' (first | exact Les.refl _ | refine Les.cons ?_ ?_ | exact Le.refl _ | exact Le.own _ _ _ | exact Le.nil _ | refine Le.agg ?_))) ?_)
      rintro v1 M1 ⟨rfl, hM⟩
      obtain ⟨r0, r1, r2, rfl⟩ := hM.three
      have hP2 := hP2 bb _ hM (by omega) (by omega)
      refine AOps.st 42 rfl rfl rfl (op_move rfl rfl ?_)
      refine AOps.st 46 rfl rfl rfl (op_extract rfl rfl rfl ?_)
      refine AOps.st 47 rfl rfl rfl (op_extract rfl rfl rfl ?_)
      refine AOps.st 9 rfl rfl rfl (op_assign rfl rfl ?_)
      refine AOps.st 10 rfl rfl rfl (op_assign rfl rfl ?_)
      refine AOps.nil ?_
      refine go_code ?_
      refine c_seq ?_
      refine c_region ?_
      refine AOps.st 49 rfl rfl rfl (op_move rfl rfl ?_)
      refine AOps.st 50 rfl rfl rfl (op_move rfl rfl ?_)
      refine AOps.st 51 rfl rfl rfl (op_callat [0,0,0] (xs := [.tmp 49, .tmp 50])  rfl rfl rfl hP2 (by first | exact Les.refl _ | (repeat' (first | exact Les.refl _ | refine Les.cons ?_ ?_ | exact Le.refl _ | exact Le.own _ _ _ | exact Le.nil _ | refine Le.agg ?_))) ?_)
      rintro v1 M1 ⟨rfl, hM⟩
      obtain ⟨r0, r1, r2, rfl⟩ := hM.three
      have hP3 := hP3 bb _ hM (by omega) (by omega)
      refine AOps.st 48 rfl rfl rfl (op_move rfl rfl ?_)
      refine AOps.st 52 rfl rfl rfl (op_extract rfl rfl rfl ?_)
      refine AOps.st 53 rfl rfl rfl (op_extract rfl rfl rfl ?_)
      refine AOps.st 11 rfl rfl rfl (op_assign rfl rfl ?_)
      refine AOps.st 12 rfl rfl rfl (op_assign rfl rfl ?_)
      refine AOps.nil ?_
      refine go_code ?_
      refine c_seq ?_
      refine c_region ?_
      refine AOps.st 55 rfl rfl rfl (op_move rfl rfl ?_)
      refine AOps.st 56 rfl rfl rfl (op_move rfl rfl ?_)
      refine AOps.st 57 rfl rfl rfl (op_callat [0,0,0] (xs := [.tmp 55, .tmp 56])  rfl rfl rfl hP3 (by first | exact Les.refl _ | (repeat' (first | exact Les.refl _ | refine Les.cons ?_ ?_ | exact Le.refl _ | exact Le.own _ _ _ | exact Le.nil _ | refine Le.agg ?_))) ?_)
      rintro v1 M1 ⟨rfl, hM⟩
      obtain ⟨r0, r1, r2, rfl⟩ := hM.three
      have hsm : ∀ s ∈ [a, b, c], s.size ≤ 1000000 := by simp; omega
      have hO1 := hO1 bb _ hM hsm (by omega)
      have hO2 := hO2 bb _ hM hsm (by omega)
      have hO3 := hO3 bb _ hM hsm (by omega)
      have hO4 := hO4 bb _ hM hsm (by omega)
      have hC := hC bb _ hM hsm (by omega) (by omega) (by omega)
      refine AOps.st 54 rfl rfl rfl (op_move rfl rfl ?_)
      refine AOps.st 58 rfl rfl rfl (op_extract rfl rfl rfl ?_)
      refine AOps.st 59 rfl rfl rfl (op_extract rfl rfl rfl ?_)
      refine AOps.st 13 rfl rfl rfl (op_assign rfl rfl ?_)
      refine AOps.st 14 rfl rfl rfl (op_assign rfl rfl ?_)
      refine AOps.nil ?_
      refine go_code ?_
      refine c_seq ?_
      refine c_region ?_
      refine AOps.st 61 rfl rfl rfl (op_move rfl rfl ?_)
      refine AOps.st 62 rfl rfl rfl (op_move rfl rfl ?_)
      refine AOps.st 63 rfl rfl rfl (op_move rfl rfl ?_)
      refine AOps.st 64 rfl rfl rfl (op_callk (xs := [.tmp 61, .tmp 62, .tmp 63]) [0,0,0] rfl rfl rfl (hO1) (by first | exact Les.refl _ | (repeat' (first | exact Les.refl _ | refine Les.cons ?_ ?_ | exact Le.refl _ | exact Le.own _ _ _ | exact Le.nil _ | refine Le.agg ?_))) ?_)
      refine AOps.st 60 rfl rfl rfl (op_move rfl rfl ?_)
      refine AOps.st 65 rfl rfl rfl (op_extract rfl rfl rfl ?_)
      refine AOps.st 66 rfl rfl rfl (op_extract rfl rfl rfl ?_)
      refine AOps.st 15 rfl rfl rfl (op_assign rfl rfl ?_)
      refine AOps.st 16 rfl rfl rfl (op_assign rfl rfl ?_)
      refine AOps.nil ?_
      refine go_code ?_
      refine c_seq ?_
      refine c_region ?_
      refine AOps.st 68 rfl rfl rfl (op_move rfl rfl ?_)
      refine AOps.st 69 rfl rfl rfl (op_move rfl rfl ?_)
      refine AOps.st 70 rfl rfl rfl (op_move rfl rfl ?_)
      refine AOps.st 71 rfl rfl rfl (op_callk (xs := [.tmp 68, .tmp 69, .tmp 70]) [0,0,0] rfl rfl rfl (hO2) (by first | exact Les.refl _ | (repeat' (first | exact Les.refl _ | refine Les.cons ?_ ?_ | exact Le.refl _ | exact Le.own _ _ _ | exact Le.nil _ | refine Le.agg ?_))) ?_)
      refine AOps.st 67 rfl rfl rfl (op_move rfl rfl ?_)
      refine AOps.st 72 rfl rfl rfl (op_extract rfl rfl rfl ?_)
      refine AOps.st 73 rfl rfl rfl (op_extract rfl rfl rfl ?_)
      refine AOps.st 17 rfl rfl rfl (op_assign rfl rfl ?_)
      refine AOps.st 18 rfl rfl rfl (op_assign rfl rfl ?_)
      refine AOps.nil ?_
      refine go_code ?_
      refine c_seq ?_
      refine c_region ?_
      refine AOps.st 75 rfl rfl rfl (op_move rfl rfl ?_)
      refine AOps.st 76 rfl rfl rfl (op_move rfl rfl ?_)
      refine AOps.st 77 rfl rfl rfl (op_move rfl rfl ?_)
      refine AOps.st 78 rfl rfl rfl (op_callk (xs := [.tmp 75, .tmp 76, .tmp 77]) [0,0,0] rfl rfl rfl (hO3) (by first | exact Les.refl _ | (repeat' (first | exact Les.refl _ | refine Les.cons ?_ ?_ | exact Le.refl _ | exact Le.own _ _ _ | exact Le.nil _ | refine Le.agg ?_))) ?_)
      refine AOps.st 74 rfl rfl rfl (op_move rfl rfl ?_)
      refine AOps.st 79 rfl rfl rfl (op_extract rfl rfl rfl ?_)
      refine AOps.st 80 rfl rfl rfl (op_extract rfl rfl rfl ?_)
      refine AOps.st 19 rfl rfl rfl (op_assign rfl rfl ?_)
      refine AOps.st 20 rfl rfl rfl (op_assign rfl rfl ?_)
      refine AOps.nil ?_
      refine go_code ?_
      refine c_seq ?_
      refine c_region ?_
      refine AOps.st 82 rfl rfl rfl (op_move rfl rfl ?_)
      refine AOps.st 83 rfl rfl rfl (op_move rfl rfl ?_)
      refine AOps.st 84 rfl rfl rfl (op_move rfl rfl ?_)
      refine AOps.st 85 rfl rfl rfl (op_callk (xs := [.tmp 82, .tmp 83, .tmp 84]) [0,0,0] rfl rfl rfl (hO4) (by first | exact Les.refl _ | (repeat' (first | exact Les.refl _ | refine Les.cons ?_ ?_ | exact Le.refl _ | exact Le.own _ _ _ | exact Le.nil _ | refine Le.agg ?_))) ?_)
      refine AOps.st 81 rfl rfl rfl (op_move rfl rfl ?_)
      refine AOps.st 86 rfl rfl rfl (op_extract rfl rfl rfl ?_)
      refine AOps.st 87 rfl rfl rfl (op_extract rfl rfl rfl ?_)
      refine AOps.st 21 rfl rfl rfl (op_assign rfl rfl ?_)
      refine AOps.st 22 rfl rfl rfl (op_assign rfl rfl ?_)
      refine AOps.nil ?_
      refine go_code ?_
      refine c_seq ?_
      refine c_seq ?_
      refine c_bool 126 (False) ?_ _ _ rfl ?_
      · skip
        refine AOps.st 88 rfl rfl rfl (op_move rfl rfl ?_)
        refine AOps.st 89 rfl rfl rfl (op_notc rfl rfl ?_); intro c89 h89
        try replace h89 := nott h89 h66
        refine AOps.st 90 rfl rfl rfl (op_move rfl rfl ?_)
        rcases bool_split h89 with ⟨rfl, g89⟩ | ⟨rfl, g89⟩
        · skip
          refine AOps.gt 91 rfl rfl rfl rfl rfl (op_move rfl rfl ?_)
          refine AOps.gt 92 rfl rfl rfl rfl rfl (op_notc rfl rfl ?_); intro c92 h92
          try replace h92 := nott h92 h73
          refine AOps.st 93 rfl rfl rfl (op_pick rfl rfl rfl ?_)
          refine AOps.st 94 rfl rfl rfl (op_move rfl rfl ?_)
          rcases bool_split h92 with ⟨rfl, g92⟩ | ⟨rfl, g92⟩
          · skip
            refine AOps.gt 95 rfl rfl rfl rfl rfl (op_move rfl rfl ?_)
            refine AOps.gt 96 rfl rfl rfl rfl rfl (op_notc rfl rfl ?_); intro c96 h96
            try replace h96 := nott h96 h80
            refine AOps.st 97 rfl rfl rfl (op_pick rfl rfl rfl ?_)
            refine AOps.st 98 rfl rfl rfl (op_move rfl rfl ?_)
            rcases bool_split h96 with ⟨rfl, g96⟩ | ⟨rfl, g96⟩
            · skip
              refine AOps.gt 99 rfl rfl rfl rfl rfl (op_move rfl rfl ?_)
              refine AOps.gt 100 rfl rfl rfl rfl rfl (op_notc rfl rfl ?_); intro c100 h100
              try replace h100 := nott h100 h87
              refine AOps.st 101 rfl rfl rfl (op_pick rfl rfl rfl ?_)
              refine AOps.st 102 rfl rfl rfl (op_move rfl rfl ?_)
              rcases bool_split h100 with ⟨rfl, g100⟩ | ⟨rfl, g100⟩
              · skip
                refine AOps.gt 103 rfl rfl rfl rfl rfl (op_move rfl rfl ?_)
                refine AOps.gt 104 rfl rfl rfl rfl rfl (op_move rfl rfl ?_)
                first | (refine AOps.gt 105 rfl rfl rfl rfl rfl (op_neg rfl rfl (IntWalk.i64_in _ (by omega)) ?_)) | (refine AOps.gt 105 rfl rfl rfl rfl rfl (op_neg rfl rfl rfl ?_))
                refine AOps.gt 106 rfl rfl rfl rfl rfl (op_neq rfl rfl rfl ?_); intro c106 h106
                refine AOps.st 107 rfl rfl rfl (op_pick rfl rfl rfl ?_)
                refine AOps.st 108 rfl rfl rfl (op_move rfl rfl ?_)
                rcases bool_split h106 with ⟨rfl, g106⟩ | ⟨rfl, g106⟩
                · skip
                  refine AOps.gt 109 rfl rfl rfl rfl rfl (op_move rfl rfl ?_)
                  refine AOps.gt 110 rfl rfl rfl rfl rfl (op_move rfl rfl ?_)
                  refine AOps.gt 111 rfl rfl rfl rfl rfl (op_eql rfl rfl rfl ?_); intro c111 h111
                  refine AOps.gt 112 rfl rfl rfl rfl rfl (op_move rfl rfl ?_)
                  rcases bool_split h111 with ⟨rfl, g111⟩ | ⟨rfl, g111⟩
                  · skip
                    refine AOps.gf 113 rfl rfl rfl rfl rfl ?_
                    refine AOps.gf 114 rfl rfl rfl rfl rfl ?_
                    refine AOps.gf 115 rfl rfl rfl rfl rfl ?_
                    refine AOps.gt 116 rfl rfl rfl rfl rfl (op_pick rfl rfl rfl ?_)
                    refine AOps.st 117 rfl rfl rfl (op_pick rfl rfl rfl ?_)
                    refine AOps.st 118 rfl rfl rfl (op_move rfl rfl ?_)
                    refine AOps.gt 119 rfl rfl rfl rfl rfl (op_move rfl rfl ?_)
                    refine AOps.gt 120 rfl rfl rfl rfl rfl (op_eql rfl rfl rfl ?_); intro c120 h120
                    refine AOps.gt 121 rfl rfl rfl rfl rfl (op_move rfl rfl ?_)
                    rcases bool_split h120 with ⟨rfl, g120⟩ | ⟨rfl, g120⟩
                    · skip
                      refine AOps.gf 122 rfl rfl rfl rfl rfl ?_
                      refine AOps.gf 123 rfl rfl rfl rfl rfl ?_
                      refine AOps.gf 124 rfl rfl rfl rfl rfl ?_
                      refine AOps.gt 125 rfl rfl rfl rfl rfl (op_pick rfl rfl rfl ?_)
                      refine AOps.st 126 rfl rfl rfl (op_pick rfl rfl rfl ?_)
                      refine AOps.nil ?_
                      refine BoolQ.mk rfl ?_ (by repeat' (first | exact SLe.wo _ _ | exact SLe.refl _ | refine SLe.fresh rfl ?_)) (by first | exact MLe.none _ | exact MLe.refl _ | (repeat' (first | exact MLe.nil | exact MLe.refl _ | refine MLe.cons _ ?_ | refine MLe.drop _ ?_)))
                      clear hP1 hP2 hP3 hO1 hO2 hO3 hO4 hO5 hC
                      first | grind | (simp_all; done) | (simp_all; omega)
                    · skip
                      refine AOps.gt 122 rfl rfl rfl rfl rfl (op_move rfl rfl ?_)
                      refine AOps.gt 123 rfl rfl rfl rfl rfl (op_move rfl rfl ?_)
                      refine AOps.gt 124 rfl rfl rfl rfl rfl (op_neq rfl rfl rfl ?_); intro c124 h124
                      refine AOps.gt 125 rfl rfl rfl rfl rfl (op_pick rfl rfl rfl ?_)
                      refine AOps.st 126 rfl rfl rfl (op_pick rfl rfl rfl ?_)
                      refine AOps.nil ?_
                      refine BoolQ.mk rfl ?_ (by repeat' (first | exact SLe.wo _ _ | exact SLe.refl _ | refine SLe.fresh rfl ?_)) (by first | exact MLe.none _ | exact MLe.refl _ | (repeat' (first | exact MLe.nil | exact MLe.refl _ | refine MLe.cons _ ?_ | refine MLe.drop _ ?_)))
                      clear hP1 hP2 hP3 hO1 hO2 hO3 hO4 hO5 hC
                      first | grind | (simp_all; done) | (simp_all; omega)
                  · skip
                    refine AOps.gt 113 rfl rfl rfl rfl rfl (op_move rfl rfl ?_)
                    refine AOps.gt 114 rfl rfl rfl rfl rfl (op_move rfl rfl ?_)
                    refine AOps.gt 115 rfl rfl rfl rfl rfl (op_neq rfl rfl rfl ?_); intro c115 h115
                    refine AOps.gt 116 rfl rfl rfl rfl rfl (op_pick rfl rfl rfl ?_)
                    refine AOps.st 117 rfl rfl rfl (op_pick rfl rfl rfl ?_)
                    refine AOps.st 118 rfl rfl rfl (op_move rfl rfl ?_)
                    rcases bool_split h115 with ⟨rfl, g115⟩ | ⟨rfl, g115⟩
                    · skip
                      refine AOps.gt 119 rfl rfl rfl rfl rfl (op_move rfl rfl ?_)
                      refine AOps.gt 120 rfl rfl rfl rfl rfl (op_eql rfl rfl rfl ?_); intro c120 h120
                      refine AOps.gt 121 rfl rfl rfl rfl rfl (op_move rfl rfl ?_)
                      rcases bool_split h120 with ⟨rfl, g120⟩ | ⟨rfl, g120⟩
                      · skip
                        refine AOps.gf 122 rfl rfl rfl rfl rfl ?_
                        refine AOps.gf 123 rfl rfl rfl rfl rfl ?_
                        refine AOps.gf 124 rfl rfl rfl rfl rfl ?_
                        refine AOps.gt 125 rfl rfl rfl rfl rfl (op_pick rfl rfl rfl ?_)
                        refine AOps.st 126 rfl rfl rfl (op_pick rfl rfl rfl ?_)
                        refine AOps.nil ?_
                        refine BoolQ.mk rfl ?_ (by repeat' (first | exact SLe.wo _ _ | exact SLe.refl _ | refine SLe.fresh rfl ?_)) (by first | exact MLe.none _ | exact MLe.refl _ | (repeat' (first | exact MLe.nil | exact MLe.refl _ | refine MLe.cons _ ?_ | refine MLe.drop _ ?_)))
                        clear hP1 hP2 hP3 hO1 hO2 hO3 hO4 hO5 hC
                        first | grind | (simp_all; done) | (simp_all; omega)
                      · skip
                        refine AOps.gt 122 rfl rfl rfl rfl rfl (op_move rfl rfl ?_)
                        refine AOps.gt 123 rfl rfl rfl rfl rfl (op_move rfl rfl ?_)
                        refine AOps.gt 124 rfl rfl rfl rfl rfl (op_neq rfl rfl rfl ?_); intro c124 h124
                        refine AOps.gt 125 rfl rfl rfl rfl rfl (op_pick rfl rfl rfl ?_)
                        refine AOps.st 126 rfl rfl rfl (op_pick rfl rfl rfl ?_)
                        refine AOps.nil ?_
                        refine BoolQ.mk rfl ?_ (by repeat' (first | exact SLe.wo _ _ | exact SLe.refl _ | refine SLe.fresh rfl ?_)) (by first | exact MLe.none _ | exact MLe.refl _ | (repeat' (first | exact MLe.nil | exact MLe.refl _ | refine MLe.cons _ ?_ | refine MLe.drop _ ?_)))
                        clear hP1 hP2 hP3 hO1 hO2 hO3 hO4 hO5 hC
                        first | grind | (simp_all; done) | (simp_all; omega)
                    · skip
                      refine AOps.gf 119 rfl rfl rfl rfl rfl ?_
                      refine AOps.gf 120 rfl rfl rfl rfl rfl ?_
                      refine AOps.gf 121 rfl rfl rfl rfl rfl ?_
                      refine AOps.gu 122 rfl rfl rfl rfl rfl ?_
                      refine AOps.gu 123 rfl rfl rfl rfl rfl ?_
                      refine AOps.gu 124 rfl rfl rfl rfl rfl ?_
                      refine AOps.gf 125 rfl rfl rfl rfl rfl ?_
                      refine AOps.st 126 rfl rfl rfl (op_pick rfl rfl rfl ?_)
                      refine AOps.nil ?_
                      refine BoolQ.mk rfl ?_ (by repeat' (first | exact SLe.wo _ _ | exact SLe.refl _ | refine SLe.fresh rfl ?_)) (by first | exact MLe.none _ | exact MLe.refl _ | (repeat' (first | exact MLe.nil | exact MLe.refl _ | refine MLe.cons _ ?_ | refine MLe.drop _ ?_)))
                      clear hP1 hP2 hP3 hO1 hO2 hO3 hO4 hO5 hC
                      first | grind | (simp_all; done) | (simp_all; omega)
                · skip
                  refine AOps.gf 109 rfl rfl rfl rfl rfl ?_
                  refine AOps.gf 110 rfl rfl rfl rfl rfl ?_
                  refine AOps.gf 111 rfl rfl rfl rfl rfl ?_
                  refine AOps.gf 112 rfl rfl rfl rfl rfl ?_
                  refine AOps.gu 113 rfl rfl rfl rfl rfl ?_
                  refine AOps.gu 114 rfl rfl rfl rfl rfl ?_
                  refine AOps.gu 115 rfl rfl rfl rfl rfl ?_
                  refine AOps.gf 116 rfl rfl rfl rfl rfl ?_
                  refine AOps.st 117 rfl rfl rfl (op_pick rfl rfl rfl ?_)
                  refine AOps.st 118 rfl rfl rfl (op_move rfl rfl ?_)
                  refine AOps.gf 119 rfl rfl rfl rfl rfl ?_
                  refine AOps.gf 120 rfl rfl rfl rfl rfl ?_
                  refine AOps.gf 121 rfl rfl rfl rfl rfl ?_
                  refine AOps.gu 122 rfl rfl rfl rfl rfl ?_
                  refine AOps.gu 123 rfl rfl rfl rfl rfl ?_
                  refine AOps.gu 124 rfl rfl rfl rfl rfl ?_
                  refine AOps.gf 125 rfl rfl rfl rfl rfl ?_
                  refine AOps.st 126 rfl rfl rfl (op_pick rfl rfl rfl ?_)
                  refine AOps.nil ?_
                  refine BoolQ.mk rfl ?_ (by repeat' (first | exact SLe.wo _ _ | exact SLe.refl _ | refine SLe.fresh rfl ?_)) (by first | exact MLe.none _ | exact MLe.refl _ | (repeat' (first | exact MLe.nil | exact MLe.refl _ | refine MLe.cons _ ?_ | refine MLe.drop _ ?_)))
                  clear hP1 hP2 hP3 hO1 hO2 hO3 hO4 hO5 hC
                  first | grind | (simp_all; done) | (simp_all; omega)
              · skip
                refine AOps.gf 103 rfl rfl rfl rfl rfl ?_
                refine AOps.gf 104 rfl rfl rfl rfl rfl ?_
                refine AOps.gf 105 rfl rfl rfl rfl rfl ?_
                refine AOps.gf 106 rfl rfl rfl rfl rfl ?_
                refine AOps.st 107 rfl rfl rfl (op_pick rfl rfl rfl ?_)
                refine AOps.st 108 rfl rfl rfl (op_move rfl rfl ?_)
                refine AOps.gf 109 rfl rfl rfl rfl rfl ?_
                refine AOps.gf 110 rfl rfl rfl rfl rfl ?_
                refine AOps.gf 111 rfl rfl rfl rfl rfl ?_
                refine AOps.gf 112 rfl rfl rfl rfl rfl ?_
                refine AOps.gu 113 rfl rfl rfl rfl rfl ?_
                refine AOps.gu 114 rfl rfl rfl rfl rfl ?_
                refine AOps.gu 115 rfl rfl rfl rfl rfl ?_
                refine AOps.gf 116 rfl rfl rfl rfl rfl ?_
                refine AOps.st 117 rfl rfl rfl (op_pick rfl rfl rfl ?_)
                refine AOps.st 118 rfl rfl rfl (op_move rfl rfl ?_)
                refine AOps.gf 119 rfl rfl rfl rfl rfl ?_
                refine AOps.gf 120 rfl rfl rfl rfl rfl ?_
                refine AOps.gf 121 rfl rfl rfl rfl rfl ?_
                refine AOps.gu 122 rfl rfl rfl rfl rfl ?_
                refine AOps.gu 123 rfl rfl rfl rfl rfl ?_
                refine AOps.gu 124 rfl rfl rfl rfl rfl ?_
                refine AOps.gf 125 rfl rfl rfl rfl rfl ?_
                refine AOps.st 126 rfl rfl rfl (op_pick rfl rfl rfl ?_)
                refine AOps.nil ?_
                refine BoolQ.mk rfl ?_ (by repeat' (first | exact SLe.wo _ _ | exact SLe.refl _ | refine SLe.fresh rfl ?_)) (by first | exact MLe.none _ | exact MLe.refl _ | (repeat' (first | exact MLe.nil | exact MLe.refl _ | refine MLe.cons _ ?_ | refine MLe.drop _ ?_)))
                clear hP1 hP2 hP3 hO1 hO2 hO3 hO4 hO5 hC
                first | grind | (simp_all; done) | (simp_all; omega)
            · skip
              refine AOps.gf 99 rfl rfl rfl rfl rfl ?_
              refine AOps.gf 100 rfl rfl rfl rfl rfl ?_
              refine AOps.st 101 rfl rfl rfl (op_pick rfl rfl rfl ?_)
              refine AOps.st 102 rfl rfl rfl (op_move rfl rfl ?_)
              refine AOps.gf 103 rfl rfl rfl rfl rfl ?_
              refine AOps.gf 104 rfl rfl rfl rfl rfl ?_
              refine AOps.gf 105 rfl rfl rfl rfl rfl ?_
              refine AOps.gf 106 rfl rfl rfl rfl rfl ?_
              refine AOps.st 107 rfl rfl rfl (op_pick rfl rfl rfl ?_)
              refine AOps.st 108 rfl rfl rfl (op_move rfl rfl ?_)
              refine AOps.gf 109 rfl rfl rfl rfl rfl ?_
              refine AOps.gf 110 rfl rfl rfl rfl rfl ?_
              refine AOps.gf 111 rfl rfl rfl rfl rfl ?_
              refine AOps.gf 112 rfl rfl rfl rfl rfl ?_
              refine AOps.gu 113 rfl rfl rfl rfl rfl ?_
              refine AOps.gu 114 rfl rfl rfl rfl rfl ?_
              refine AOps.gu 115 rfl rfl rfl rfl rfl ?_
              refine AOps.gf 116 rfl rfl rfl rfl rfl ?_
              refine AOps.st 117 rfl rfl rfl (op_pick rfl rfl rfl ?_)
              refine AOps.st 118 rfl rfl rfl (op_move rfl rfl ?_)
              refine AOps.gf 119 rfl rfl rfl rfl rfl ?_
              refine AOps.gf 120 rfl rfl rfl rfl rfl ?_
              refine AOps.gf 121 rfl rfl rfl rfl rfl ?_
              refine AOps.gu 122 rfl rfl rfl rfl rfl ?_
              refine AOps.gu 123 rfl rfl rfl rfl rfl ?_
              refine AOps.gu 124 rfl rfl rfl rfl rfl ?_
              refine AOps.gf 125 rfl rfl rfl rfl rfl ?_
              refine AOps.st 126 rfl rfl rfl (op_pick rfl rfl rfl ?_)
              refine AOps.nil ?_
              refine BoolQ.mk rfl ?_ (by repeat' (first | exact SLe.wo _ _ | exact SLe.refl _ | refine SLe.fresh rfl ?_)) (by first | exact MLe.none _ | exact MLe.refl _ | (repeat' (first | exact MLe.nil | exact MLe.refl _ | refine MLe.cons _ ?_ | refine MLe.drop _ ?_)))
              clear hP1 hP2 hP3 hO1 hO2 hO3 hO4 hO5 hC
              first | grind | (simp_all; done) | (simp_all; omega)
          · skip
            refine AOps.gf 95 rfl rfl rfl rfl rfl ?_
            refine AOps.gf 96 rfl rfl rfl rfl rfl ?_
            refine AOps.st 97 rfl rfl rfl (op_pick rfl rfl rfl ?_)
            refine AOps.st 98 rfl rfl rfl (op_move rfl rfl ?_)
            refine AOps.gf 99 rfl rfl rfl rfl rfl ?_
            refine AOps.gf 100 rfl rfl rfl rfl rfl ?_
            refine AOps.st 101 rfl rfl rfl (op_pick rfl rfl rfl ?_)
            refine AOps.st 102 rfl rfl rfl (op_move rfl rfl ?_)
            refine AOps.gf 103 rfl rfl rfl rfl rfl ?_
            refine AOps.gf 104 rfl rfl rfl rfl rfl ?_
            refine AOps.gf 105 rfl rfl rfl rfl rfl ?_
            refine AOps.gf 106 rfl rfl rfl rfl rfl ?_
            refine AOps.st 107 rfl rfl rfl (op_pick rfl rfl rfl ?_)
            refine AOps.st 108 rfl rfl rfl (op_move rfl rfl ?_)
            refine AOps.gf 109 rfl rfl rfl rfl rfl ?_
            refine AOps.gf 110 rfl rfl rfl rfl rfl ?_
            refine AOps.gf 111 rfl rfl rfl rfl rfl ?_
            refine AOps.gf 112 rfl rfl rfl rfl rfl ?_
            refine AOps.gu 113 rfl rfl rfl rfl rfl ?_
            refine AOps.gu 114 rfl rfl rfl rfl rfl ?_
            refine AOps.gu 115 rfl rfl rfl rfl rfl ?_
            refine AOps.gf 116 rfl rfl rfl rfl rfl ?_
            refine AOps.st 117 rfl rfl rfl (op_pick rfl rfl rfl ?_)
            refine AOps.st 118 rfl rfl rfl (op_move rfl rfl ?_)
            refine AOps.gf 119 rfl rfl rfl rfl rfl ?_
            refine AOps.gf 120 rfl rfl rfl rfl rfl ?_
            refine AOps.gf 121 rfl rfl rfl rfl rfl ?_
            refine AOps.gu 122 rfl rfl rfl rfl rfl ?_
            refine AOps.gu 123 rfl rfl rfl rfl rfl ?_
            refine AOps.gu 124 rfl rfl rfl rfl rfl ?_
            refine AOps.gf 125 rfl rfl rfl rfl rfl ?_
            refine AOps.st 126 rfl rfl rfl (op_pick rfl rfl rfl ?_)
            refine AOps.nil ?_
            refine BoolQ.mk rfl ?_ (by repeat' (first | exact SLe.wo _ _ | exact SLe.refl _ | refine SLe.fresh rfl ?_)) (by first | exact MLe.none _ | exact MLe.refl _ | (repeat' (first | exact MLe.nil | exact MLe.refl _ | refine MLe.cons _ ?_ | refine MLe.drop _ ?_)))
            clear hP1 hP2 hP3 hO1 hO2 hO3 hO4 hO5 hC
            first | grind | (simp_all; done) | (simp_all; omega)
        · skip
          refine AOps.gf 91 rfl rfl rfl rfl rfl ?_
          refine AOps.gf 92 rfl rfl rfl rfl rfl ?_
          refine AOps.st 93 rfl rfl rfl (op_pick rfl rfl rfl ?_)
          refine AOps.st 94 rfl rfl rfl (op_move rfl rfl ?_)
          refine AOps.gf 95 rfl rfl rfl rfl rfl ?_
          refine AOps.gf 96 rfl rfl rfl rfl rfl ?_
          refine AOps.st 97 rfl rfl rfl (op_pick rfl rfl rfl ?_)
          refine AOps.st 98 rfl rfl rfl (op_move rfl rfl ?_)
          refine AOps.gf 99 rfl rfl rfl rfl rfl ?_
          refine AOps.gf 100 rfl rfl rfl rfl rfl ?_
          refine AOps.st 101 rfl rfl rfl (op_pick rfl rfl rfl ?_)
          refine AOps.st 102 rfl rfl rfl (op_move rfl rfl ?_)
          refine AOps.gf 103 rfl rfl rfl rfl rfl ?_
          refine AOps.gf 104 rfl rfl rfl rfl rfl ?_
          refine AOps.gf 105 rfl rfl rfl rfl rfl ?_
          refine AOps.gf 106 rfl rfl rfl rfl rfl ?_
          refine AOps.st 107 rfl rfl rfl (op_pick rfl rfl rfl ?_)
          refine AOps.st 108 rfl rfl rfl (op_move rfl rfl ?_)
          refine AOps.gf 109 rfl rfl rfl rfl rfl ?_
          refine AOps.gf 110 rfl rfl rfl rfl rfl ?_
          refine AOps.gf 111 rfl rfl rfl rfl rfl ?_
          refine AOps.gf 112 rfl rfl rfl rfl rfl ?_
          refine AOps.gu 113 rfl rfl rfl rfl rfl ?_
          refine AOps.gu 114 rfl rfl rfl rfl rfl ?_
          refine AOps.gu 115 rfl rfl rfl rfl rfl ?_
          refine AOps.gf 116 rfl rfl rfl rfl rfl ?_
          refine AOps.st 117 rfl rfl rfl (op_pick rfl rfl rfl ?_)
          refine AOps.st 118 rfl rfl rfl (op_move rfl rfl ?_)
          refine AOps.gf 119 rfl rfl rfl rfl rfl ?_
          refine AOps.gf 120 rfl rfl rfl rfl rfl ?_
          refine AOps.gf 121 rfl rfl rfl rfl rfl ?_
          refine AOps.gu 122 rfl rfl rfl rfl rfl ?_
          refine AOps.gu 123 rfl rfl rfl rfl rfl ?_
          refine AOps.gu 124 rfl rfl rfl rfl rfl ?_
          refine AOps.gf 125 rfl rfl rfl rfl rfl ?_
          refine AOps.st 126 rfl rfl rfl (op_pick rfl rfl rfl ?_)
          refine AOps.nil ?_
          refine BoolQ.mk rfl ?_ (by repeat' (first | exact SLe.wo _ _ | exact SLe.refl _ | refine SLe.fresh rfl ?_)) (by first | exact MLe.none _ | exact MLe.refl _ | (repeat' (first | exact MLe.nil | exact MLe.refl _ | refine MLe.cons _ ?_ | refine MLe.drop _ ?_)))
          clear hP1 hP2 hP3 hO1 hO2 hO3 hO4 hO5 hC
          first | grind | (simp_all; done) | (simp_all; omega)
      intro c126 h126
      refine go_code ?_
      rcases bool_split h126 with ⟨rfl, g126⟩ | ⟨rfl, g126⟩
      · refine c_cond_f rfl ?_
        refine c_skip ?_
        refine go_code ?_
        refine c_seq ?_
        refine c_region ?_
        refine AOps.st 128 rfl rfl rfl (op_move rfl rfl ?_)
        refine AOps.st 129 rfl rfl rfl (op_move rfl rfl ?_)
        refine AOps.st 130 rfl rfl rfl (op_move rfl rfl ?_)
        refine AOps.st 131 rfl rfl rfl (op_callat [0,0,0] (xs := [.tmp 128, .tmp 129, .tmp 130])  rfl rfl rfl hC (by first | exact Les.refl _ | (repeat' (first | exact Les.refl _ | refine Les.cons ?_ ?_ | exact Le.refl _ | exact Le.own _ _ _ | exact Le.nil _ | refine Le.agg ?_))) ?_)
        rintro v1 M1 ⟨rfl, hM⟩
        obtain ⟨r0, r1, r2, rfl⟩ := hM.three
        have hO5 := hO5 bb _ hM (by simp; omega) (by omega)
        refine AOps.st 127 rfl rfl rfl (op_move rfl rfl ?_)
        refine AOps.st 132 rfl rfl rfl (op_extract rfl rfl rfl ?_)
        refine AOps.st 133 rfl rfl rfl (op_extract rfl rfl rfl ?_)
        refine AOps.st 23 rfl rfl rfl (op_assign rfl rfl ?_)
        refine AOps.st 24 rfl rfl rfl (op_assign rfl rfl ?_)
        refine AOps.nil ?_
        refine go_code ?_
        refine c_seq ?_
        refine c_region ?_
        refine AOps.st 135 rfl rfl rfl (op_move rfl rfl ?_)
        refine AOps.st 136 rfl rfl rfl (op_move rfl rfl ?_)
        refine AOps.st 137 rfl rfl rfl (op_move rfl rfl ?_)
        refine AOps.st 138 rfl rfl rfl (op_callk (xs := [.tmp 135, .tmp 136, .tmp 137]) [0,0,0] rfl rfl rfl (hO5) (by first | exact Les.refl _ | (repeat' (first | exact Les.refl _ | refine Les.cons ?_ ?_ | exact Le.refl _ | exact Le.own _ _ _ | exact Le.nil _ | refine Le.agg ?_))) ?_)
        refine AOps.st 134 rfl rfl rfl (op_move rfl rfl ?_)
        refine AOps.st 139 rfl rfl rfl (op_extract rfl rfl rfl ?_)
        refine AOps.st 140 rfl rfl rfl (op_extract rfl rfl rfl ?_)
        refine AOps.st 25 rfl rfl rfl (op_assign rfl rfl ?_)
        refine AOps.st 26 rfl rfl rfl (op_assign rfl rfl ?_)
        refine AOps.nil ?_
        refine go_code ?_
        refine c_seq ?_
        refine c_bool 6 (True) ?_ _ _ rfl ?_
        · skip
          refine AOps.st 141 rfl rfl rfl (op_move rfl rfl ?_)
          refine AOps.st 142 rfl rfl rfl (op_move rfl rfl ?_)
          refine AOps.gt 143 rfl rfl rfl rfl rfl (op_move rfl rfl ?_)
          refine AOps.st 144 rfl rfl rfl (op_pick rfl rfl rfl ?_)
          refine AOps.st 145 rfl rfl rfl (op_move rfl rfl ?_)
          refine AOps.gt 146 rfl rfl rfl rfl rfl (op_move rfl rfl ?_)
          refine AOps.gt 147 rfl rfl rfl rfl rfl (op_eql rfl rfl rfl ?_); intro c147 h147
          refine AOps.gt 148 rfl rfl rfl rfl rfl (op_move rfl rfl ?_)
          rcases bool_split h147 with ⟨rfl, g147⟩ | ⟨rfl, g147⟩
          · skip
            refine AOps.gt 149 rfl rfl rfl rfl rfl (op_move rfl rfl ?_)
            refine AOps.gt 150 rfl rfl rfl rfl rfl (op_eql rfl rfl rfl ?_); intro c150 h150
            refine AOps.gt 151 rfl rfl rfl rfl rfl (op_move rfl rfl ?_)
            rcases bool_split h150 with ⟨rfl, g150⟩ | ⟨rfl, g150⟩
            · skip
              refine AOps.gf 152 rfl rfl rfl rfl rfl ?_
              refine AOps.gf 153 rfl rfl rfl rfl rfl ?_
              refine AOps.gt 154 rfl rfl rfl rfl rfl (op_pick rfl rfl rfl ?_)
              refine AOps.gt 155 rfl rfl rfl rfl rfl (op_pick rfl rfl rfl ?_)
              refine AOps.st 156 rfl rfl rfl (op_pick rfl rfl rfl ?_)
              refine AOps.st 6 rfl rfl rfl (op_assign rfl rfl ?_)
              refine AOps.nil ?_
              refine BoolQ.mk rfl ?_ (by repeat' (first | exact SLe.wo _ _ | exact SLe.refl _ | refine SLe.fresh rfl ?_)) (by first | exact MLe.none _ | exact MLe.refl _ | (repeat' (first | exact MLe.nil | exact MLe.refl _ | refine MLe.cons _ ?_ | refine MLe.drop _ ?_)))
              clear hP1 hP2 hP3 hO1 hO2 hO3 hO4 hO5 hC
              first | grind | (simp_all; done) | (simp_all; omega)
            · skip
              refine AOps.gt 152 rfl rfl rfl rfl rfl (op_move rfl rfl ?_)
              refine AOps.gt 153 rfl rfl rfl rfl rfl (op_seql rfl rfl rfl ?_); intro c153 h153
              refine AOps.gt 154 rfl rfl rfl rfl rfl (op_pick rfl rfl rfl ?_)
              refine AOps.gt 155 rfl rfl rfl rfl rfl (op_pick rfl rfl rfl ?_)
              refine AOps.st 156 rfl rfl rfl (op_pick rfl rfl rfl ?_)
              refine AOps.st 6 rfl rfl rfl (op_assign rfl rfl ?_)
              refine AOps.nil ?_
              refine BoolQ.mk rfl ?_ (by repeat' (first | exact SLe.wo _ _ | exact SLe.refl _ | refine SLe.fresh rfl ?_)) (by first | exact MLe.none _ | exact MLe.refl _ | (repeat' (first | exact MLe.nil | exact MLe.refl _ | refine MLe.cons _ ?_ | refine MLe.drop _ ?_)))
              clear hP1 hP2 hP3 hO1 hO2 hO3 hO4 hO5 hC
              first | grind | (simp_all; done) | (simp_all; omega)
          · skip
            refine AOps.gf 149 rfl rfl rfl rfl rfl ?_
            refine AOps.gf 150 rfl rfl rfl rfl rfl ?_
            refine AOps.gf 151 rfl rfl rfl rfl rfl ?_
            refine AOps.gu 152 rfl rfl rfl rfl rfl ?_
            refine AOps.gu 153 rfl rfl rfl rfl rfl ?_
            refine AOps.gf 154 rfl rfl rfl rfl rfl ?_
            refine AOps.gt 155 rfl rfl rfl rfl rfl (op_pick rfl rfl rfl ?_)
            refine AOps.st 156 rfl rfl rfl (op_pick rfl rfl rfl ?_)
            refine AOps.st 6 rfl rfl rfl (op_assign rfl rfl ?_)
            refine AOps.nil ?_
            refine BoolQ.mk rfl ?_ (by repeat' (first | exact SLe.wo _ _ | exact SLe.refl _ | refine SLe.fresh rfl ?_)) (by first | exact MLe.none _ | exact MLe.refl _ | (repeat' (first | exact MLe.nil | exact MLe.refl _ | refine MLe.cons _ ?_ | refine MLe.drop _ ?_)))
            clear hP1 hP2 hP3 hO1 hO2 hO3 hO4 hO5 hC
            first | grind | (simp_all; done) | (simp_all; omega)
        intro c6 h6
        refine go_code ?_
        refine c_ret ?_
        exact out_tmp rfl rfl (Le.beq (h6.2 trivial)) (MLe.refl _) rfl
      · refine c_cond_t rfl ?_
        refine c_seq ?_
        exact g126.elim
    · refine c_cond_t rfl ?_
      refine c_seq ?_
      refine c_region ?_
      refine AOps.st 6 rfl rfl rfl (op_assign rfl rfl ?_)
      refine AOps.nil ?_
      refine go_code ?_
      refine c_ret ?_
      exact out_tmp rfl rfl (Le.refl _) (MLe.refl _) rfl
  · refine c_cond_t rfl ?_
    refine c_seq ?_
    exact absurd g28 (by simp)
theorem strsChain_own : ownKnob Try.prog.godebug = none := by kernel_rfl
theorem strsChain_laidOut : laidOutB Try.prog = true := by kernel_rfl
set_option maxRecDepth 100000 in
theorem strsChain_lifted (os : Os) (started : os.Started) (H : Type) (enc : TypeId × Value → H) :
    ReturnsInHanded {} Try.checked os 8 .any (Rows.strsChainSpec.pre6 enc Try.prog Try.f8 Rows.strsChainRow.domain false) (Rows.strsChainSpec.post enc Try.prog Try.f8 false true false false) := by
  refine returnsInHanded_of_change_sized (C := Try.checked) strsChain_own started (by kernel_rfl) Try.func8
    (ChangeSpec.witness6 (enc := enc) (C := Try.checked) false ⟨#[], #[.string ⟨#[]⟩, .string ⟨#[]⟩, .string ⟨#[]⟩], []⟩ 8 (by kernel_rfl) (by kernel_rfl) (by kernel_rfl) (by kernel_rfl)) ?_
  intro W base args ds gs before hval0 hW hcnd hsz0 _
  have hval : ∀ (j : Nat) t v, Try.f8.params[j]? = some t → args[j]? = some v → Value.okWide Try.prog W .any base t v := hval0
  have hsz : (DataW.weightsEach Try.prog (Try.f8.params.toList ++ Rows.strsChainSpec.plain.varTypes Try.prog) (ds ++ gs)).all (· ≤ reachBytes) = true := hsz0
  have hW' := hW
  obtain ⟨p, q, hA0, hV, rfl, hfz, hnd⟩ := hW
  have hA : DataW.TrodAll enc Try.prog W 0 (fun _ => true) true Try.f8.params.toList args.toList ds p := hA0
  rw [Try.params8] at hA hval hsz
  obtain ⟨rfl, rfl⟩ := trodVars_none hV
  obtain ⟨v0, v1, v2, d0, d1, d2, p0, p1, p2, rfl, rfl, rfl, h0, h1, h2⟩ := trodAll_three hA
  obtain ⟨f0, c0, s0, r0, o0, _⟩ := open_two closedS hsz 0 rfl rfl (by decide) h0
  obtain ⟨a, l0, rfl⟩ := shapeL_str tu_9 s0
  obtain ⟨f1, c1, s1, r1, o1, _⟩ := open_two closedS hsz 1 rfl rfl (by decide) h1
  obtain ⟨b, l1, rfl⟩ := shapeL_str tu_9 s1
  obtain ⟨f2, c2, s2, r2, o2, _⟩ := open_two closedS hsz 2 rfl rfl (by decide) h2
  obtain ⟨c, l2, rfl⟩ := shapeL_str tu_9 s2
  refine (law_run (StrsChain_c a b c l0 l1 l2) (.cons (rel_cell (okw_str Try.underlying9 (hval 0 9 v0 rfl rfl)) r0) (.cons (rel_cell (okw_str Try.underlying9 (hval 1 9 v1 rfl rfl)) r1) (.cons (rel_cell (okw_str Try.underlying9 (hval 2 9 v2 rfl rfl)) r2) .nil)))).mono fun e W' ⟨he, hb⟩ => ?_
  subst he
  exact ⟨_, rfl, law_post (tb := 4) strsChain_laidOut (by kernel_rfl) (by kernel_rfl) Try.underlying4 rfl rfl rfl rfl hW' hb⟩
theorem strsChain_holds : Rows.StrsChainSaid :=
  OpenClaim.holds_of_wide 8 Try.f8 rfl rfl rfl rfl rfl rfl rfl ⟨rfl, rfl, rfl, rfl, rfl⟩ rfl rfl rfl rfl rfl (by kernel_rfl) Try.func8 (by kernel_rfl)
    (of_decide_eq_true (by kernel_rfl)) (by unfold Func.isWrapper; first | (rw [if_pos (by decide +kernel)]; kernel_rfl) | (rw [if_neg (by decide +kernel)]; exact ⟨rfl, rfl⟩))
    (fun os started H enc _ => strsChain_lifted os started H enc)
#print axioms strsChain_holds
end Go.Proofs.Ytecpnlhjjmcllaa
