/- The reference's reader of chapter 11: what it takes bytes for. No condition but lengths. -/
import Derived.Test.YtkfinaongajhmaaDoorXRef
import Derived.Test.YtkfinaongajhmaaDoorXGuess
import Derived.Test.YtkfinaongajhmaaDoorXOne
import Derived.Laws.BitsAllLaws
namespace Go.Proofs.YtkfinaongajhmaaDoor.X
open Go.Ob Go.Ob.Xc Go.RowKit Go.Proofs.YtkfinaongajhmaaDoorW.PrintWords Go.Proofs.YtkfinaongajhmaaDoorW.PrintMore
attribute [local go_sem] max2_int min2_int max_two min_two
set_option linter.unusedVariables false
set_option linter.unusedSimpArgs false
theorem gor (L x : Int) (h0 : 0 ≤ L) (h1 : L < 72057594037927936) (x0 : 0 ≤ x) (x1 : x < 256) : bits .or .u64 (IntKind.u64.wrap (L * 256)) (IntKind.u64.wrap x) = L * 256 + x := by
  have e1 : IntKind.u64.wrap (L * 256) = L * 256 := by show (L * 256) % 18446744073709551616 = _; omega
  have e2 : IntKind.u64.wrap x = x := by show x % 18446744073709551616 = _; omega
  rw [e1, e2]
  obtain ⟨a, rfl⟩ := Int.eq_ofNat_of_zero_le h0
  obtain ⟨b, rfl⟩ := Int.eq_ofNat_of_zero_le x0
  have q := Go.u64_or_nat (a * 256) b (by omega) (by omega)
  rw [show ((a : Int) * 256) = ((a * 256 : Nat) : Int) by omega, q]
  have r := Nat.two_pow_add_eq_or_of_lt (i := 8) (b := b) (by omega) a
  rw [show (2 : Nat) ^ 8 * a = a * 256 by omega] at r
  rw [← r]
  omega
theorem gor0 (x : Int) (x0 : 0 ≤ x) (x1 : x < 256) : bits .or .u64 0 (IntKind.u64.wrap x) = x := by
  have := gor 0 x (by decide) (by decide) x0 x1
  rw [show (0 : Int) * 256 = 0 by decide, show IntKind.u64.wrap 0 = 0 by rfl] at this
  omega
theorem gor_4 (a0 a1 a2 a3 : Int) (d0 : 0 ≤ a0 ∧ a0 < 256) (d1 : 0 ≤ a1 ∧ a1 < 256) (d2 : 0 ≤ a2 ∧ a2 < 256) (d3 : 0 ≤ a3 ∧ a3 < 256) : bits .or .u64 (IntKind.u64.wrap ((bits .or .u64 (IntKind.u64.wrap ((bits .or .u64 (IntKind.u64.wrap ((bits .or .u64 0 (IntKind.u64.wrap a3)) * 256)) (IntKind.u64.wrap a2)) * 256)) (IntKind.u64.wrap a1)) * 256)) (IntKind.u64.wrap a0) = (((a3 * 256 + a2) * 256 + a1) * 256 + a0) := by
  rw [gor0 _ d3.1 d3.2, gor _ _ (by omega) (by omega) d2.1 d2.2, gor _ _ (by omega) (by omega) d1.1 d1.2, gor _ _ (by omega) (by omega) d0.1 d0.2]
theorem gor_8 (a0 a1 a2 a3 a4 a5 a6 a7 : Int) (d0 : 0 ≤ a0 ∧ a0 < 256) (d1 : 0 ≤ a1 ∧ a1 < 256) (d2 : 0 ≤ a2 ∧ a2 < 256) (d3 : 0 ≤ a3 ∧ a3 < 256) (d4 : 0 ≤ a4 ∧ a4 < 256) (d5 : 0 ≤ a5 ∧ a5 < 256) (d6 : 0 ≤ a6 ∧ a6 < 256) (d7 : 0 ≤ a7 ∧ a7 < 256) : bits .or .u64 (IntKind.u64.wrap ((bits .or .u64 (IntKind.u64.wrap ((bits .or .u64 (IntKind.u64.wrap ((bits .or .u64 (IntKind.u64.wrap ((bits .or .u64 (IntKind.u64.wrap ((bits .or .u64 (IntKind.u64.wrap ((bits .or .u64 (IntKind.u64.wrap ((bits .or .u64 0 (IntKind.u64.wrap a7)) * 256)) (IntKind.u64.wrap a6)) * 256)) (IntKind.u64.wrap a5)) * 256)) (IntKind.u64.wrap a4)) * 256)) (IntKind.u64.wrap a3)) * 256)) (IntKind.u64.wrap a2)) * 256)) (IntKind.u64.wrap a1)) * 256)) (IntKind.u64.wrap a0) = (((((((a7 * 256 + a6) * 256 + a5) * 256 + a4) * 256 + a3) * 256 + a2) * 256 + a1) * 256 + a0) := by
  rw [gor0 _ d7.1 d7.2, gor _ _ (by omega) (by omega) d6.1 d6.2, gor _ _ (by omega) (by omega) d5.1 d5.2, gor _ _ (by omega) (by omega) d4.1 d4.2, gor _ _ (by omega) (by omega) d3.1 d3.2, gor _ _ (by omega) (by omega) d2.1 d2.2, gor _ _ (by omega) (by omega) d1.1 d1.2, gor _ _ (by omega) (by omega) d0.1 d0.2]
set_option maxHeartbeats 8000000 in
set_option maxRecDepth 100000 in
theorem RValue4 (s : ByteArray) (w : World) (hz : s.size = 4) :
    Calls Tryd.prog 69 #[.string s] w fun e w' => e = .returned (.int .i64 (sg4 (bl s) 0)) ∧ w = w' := by
  have d0 := at0_bd s 0
  have e0 := at0_byte s 0 (by omega)
  have d1 := at0_bd s 1
  have e1 := at0_byte s 1 (by omega)
  have d2 := at0_bd s 2
  have e2 := at0_byte s 2 (by omega)
  have d3 := at0_bd s 3
  have e3 := at0_byte s 3 (by omega)
  have HS : sg4 (bl s) 0 = wrap64 (wrap32 ((((at0 (bl s) 3 * 256 + at0 (bl s) 2) * 256 + at0 (bl s) 1) * 256 + at0 (bl s) 0) % 4294967296)) := by
    unfold sg4 num4
    simp only [Nat.zero_add, Nat.reduceAdd]
    unfold wrap64 wrap32
    split <;> omega
  rw [e0] at d0
  rw [e1] at d1
  rw [e2] at d2
  rw [e3] at d3
  rw [e0, e1, e2, e3] at HS
  have H := Aside0.mk (And.intro HS (And.intro d0 (And.intro d1 (And.intro d2 (d3)))))
  clear HS d0 d1 d2 d3 e0 e1 e2 e3
  go_enter Tryd.func69, Tryd.ntmps69
  go_wp2
  refine wp_loop_rounds 5 ?_
  rw [rounds_succ]
  go_wp2
  rw [rounds_succ]
  go_wp2
  rw [rounds_succ]
  go_wp2
  rw [rounds_succ]
  go_wp2
  rw [rounds_succ]
  go_wp2
  go_ret
  obtain ⟨hv, d0, d1, d2, d3⟩ := H.out
  exact ⟨by rw [hv, ← gor_4 _ _ _ _ d0 d1 d2 d3]; rfl, rfl⟩
set_option maxHeartbeats 8000000 in
set_option maxRecDepth 100000 in
theorem RValue8 (s : ByteArray) (w : World) (hz : s.size = 8) :
    Calls Tryd.prog 69 #[.string s] w fun e w' => e = .returned (.int .i64 (sg8 (bl s) 0)) ∧ w = w' := by
  have d0 := at0_bd s 0
  have e0 := at0_byte s 0 (by omega)
  have d1 := at0_bd s 1
  have e1 := at0_byte s 1 (by omega)
  have d2 := at0_bd s 2
  have e2 := at0_byte s 2 (by omega)
  have d3 := at0_bd s 3
  have e3 := at0_byte s 3 (by omega)
  have d4 := at0_bd s 4
  have e4 := at0_byte s 4 (by omega)
  have d5 := at0_bd s 5
  have e5 := at0_byte s 5 (by omega)
  have d6 := at0_bd s 6
  have e6 := at0_byte s 6 (by omega)
  have d7 := at0_bd s 7
  have e7 := at0_byte s 7 (by omega)
  have HS : sg8 (bl s) 0 = wrap64 (((((((at0 (bl s) 7 * 256 + at0 (bl s) 6) * 256 + at0 (bl s) 5) * 256 + at0 (bl s) 4) * 256 + at0 (bl s) 3) * 256 + at0 (bl s) 2) * 256 + at0 (bl s) 1) * 256 + at0 (bl s) 0) := by
    unfold sg8 num8 num4
    simp only [Nat.zero_add, Nat.reduceAdd]
    unfold wrap64
    split <;> omega
  rw [e0] at d0
  rw [e1] at d1
  rw [e2] at d2
  rw [e3] at d3
  rw [e4] at d4
  rw [e5] at d5
  rw [e6] at d6
  rw [e7] at d7
  rw [e0, e1, e2, e3, e4, e5, e6, e7] at HS
  have H := Aside0.mk (And.intro HS (And.intro d0 (And.intro d1 (And.intro d2 (And.intro d3 (And.intro d4 (And.intro d5 (And.intro d6 d7))))))))
  clear HS d0 d1 d2 d3 d4 d5 d6 d7 e0 e1 e2 e3 e4 e5 e6 e7
  go_enter Tryd.func69, Tryd.ntmps69
  go_wp2
  refine wp_loop_rounds 9 ?_
  rw [rounds_succ]
  go_wp2
  rw [rounds_succ]
  go_wp2
  rw [rounds_succ]
  go_wp2
  rw [rounds_succ]
  go_wp2
  rw [rounds_succ]
  go_wp2
  rw [rounds_succ]
  go_wp2
  rw [rounds_succ]
  go_wp2
  rw [rounds_succ]
  go_wp2
  rw [rounds_succ]
  go_wp2
  go_ret
  obtain ⟨hv, d0, d1, d2, d3, d4, d5, d6, d7⟩ := H.out
  exact ⟨by rw [hv, ← gor_8 _ _ _ _ _ _ _ _ d0 d1 d2 d3 d4 d5 d6 d7]; rfl, rfl⟩
theorem sg4_cut (s : ByteArray) (a b : Nat) (h1 : a + 4 = b) (h2 : b ≤ s.size) : sg4 (bl (s.extract a b)) 0 = sg4 (bl s) a := by
  have e : ∀ j, j < 4 → at0 (bl (s.extract a b)) j = at0 (bl s) (a + j) := by
    intro j hj
    unfold at0
    rw [bl_extract, List.getD_eq_getElem?_getD, List.getD_eq_getElem?_getD, List.getElem?_take, if_pos (by omega), List.getElem?_drop]
  unfold sg4 num4
  simp only [Nat.zero_add]
  rw [e 0 (by omega), e 1 (by omega), e 2 (by omega), e 3 (by omega), Nat.add_zero]
theorem below_own0 {w W : World} (h : Below w.heap.size w W) (j : Nat) (u : Value) : Below w.heap.size w (W.setCell ⟨w.heap.size, j, none⟩ u) := h.setCell (Nat.le_refl _) u
set_option maxHeartbeats 16000000 in
set_option maxRecDepth 100000 in
theorem RFar (wd : Bool) (op : Int) (t : ByteArray) (r m : Int) (w : World) (hop : 0 ≤ op ∧ op < 256) (ht : t.size ≤ 281474976710656) :
    Calls Tryd.prog 68 #[xv ⟨0, wd, 0, 0, 0, 0, 0⟩, .int .i64 op, .string t, .int .i64 r, .int .i64 m] w fun e w' => e = .returned (.tuple #[xv (gfar wd op (bl t) r m).1, .bool (gfar wd op (bl t) r m).2]) ∧ Below w.heap.size w w' := by
  have H0 := Aside0.mk (Below.refl w.heap.size w)
  have hc : (op < 11) ∨ (op = 11) ∨ (11 < op ∧ op < 64) ∨ (64 ≤ op ∧ op < 80) ∨ (80 ≤ op ∧ op < 128) ∨ (128 ≤ op ∧ op < 144) ∨ (144 ≤ op ∧ op < 160) ∨ (160 ≤ op ∧ op < 175) ∨ (op = 175) ∨ (175 < op ∧ op < 182) ∨ (op = 182) ∨ (182 < op) := by omega
  rcases hc with h | rfl | ⟨h, h'⟩ | ⟨h, h'⟩ | ⟨h, h'⟩ | ⟨h, h'⟩ | ⟨h, h'⟩ | ⟨h, h'⟩ | rfl | ⟨h, h'⟩ | rfl | h
  · have q : gfar wd op (bl t) r m = (⟨0, wd, 0, 0, 0, 0, 0⟩, false) := by
      unfold gfar gno
      try simp only [Int.reduceEq, Int.reduceLE, Int.reduceLT, and_true, and_false, true_and, false_and, if_true, if_false]
      repeat' (first | rw [if_pos (by omega)] | rw [if_neg (by omega)])
    rw [q]
    clear q hop
    go_enter Tryd.func68, Tryd.ntmps68
    go_wp2
    exact bodyPost_ret (v := .tuple #[xv ⟨0, wd, 0, 0, 0, 0, 0⟩, .bool false]) (by simp [results, Tryd.results68, go_sem]) rfl ⟨rfl, by with_reducible repeat (first | exact H0.out | refine below_own0 ?_ _ _ | refine below_own1 ?_ _ _ | refine below_own2 ?_ _ _ | refine below_alloc ?_ _ | refine below_drew ?_ | refine pw_below_drewN ?_ _)⟩
  · have q : gfar wd 11 (bl t) r m = (⟨22, wd, 0, 0, 0, 0, 0⟩, true) := by
      unfold gfar gno
      try simp only [Int.reduceEq, Int.reduceLE, Int.reduceLT, and_true, and_false, true_and, false_and, if_true, if_false]
      repeat' (first | rw [if_pos (by omega)] | rw [if_neg (by omega)])
    rw [q]
    clear q hop
    go_enter Tryd.func68, Tryd.ntmps68
    go_wp2
    exact bodyPost_ret (v := .tuple #[xv ⟨22, wd, 0, 0, 0, 0, 0⟩, .bool true]) (by simp [results, Tryd.results68, go_sem]) rfl ⟨rfl, by with_reducible repeat (first | exact H0.out | refine below_own0 ?_ _ _ | refine below_own1 ?_ _ _ | refine below_own2 ?_ _ _ | refine below_alloc ?_ _ | refine below_drew ?_ | refine pw_below_drewN ?_ _)⟩
  · have q : gfar wd op (bl t) r m = (⟨0, wd, 0, 0, 0, 0, 0⟩, false) := by
      unfold gfar gno
      try simp only [Int.reduceEq, Int.reduceLE, Int.reduceLT, and_true, and_false, true_and, false_and, if_true, if_false]
      repeat' (first | rw [if_pos (by omega)] | rw [if_neg (by omega)])
    rw [q]
    clear q hop
    go_enter Tryd.func68, Tryd.ntmps68
    go_wp2
    exact bodyPost_ret (v := .tuple #[xv ⟨0, wd, 0, 0, 0, 0, 0⟩, .bool false]) (by simp [results, Tryd.results68, go_sem]) rfl ⟨rfl, by with_reducible repeat (first | exact H0.out | refine below_own0 ?_ _ _ | refine below_own1 ?_ _ _ | refine below_own2 ?_ _ _ | refine below_alloc ?_ _ | refine below_drew ?_ | refine pw_below_drewN ?_ _)⟩
  · have q : gfar wd op (bl t) r m = (⟨15, wd, r, m, 0, op - 64, 0⟩, true) := by
      unfold gfar gno
      try simp only [Int.reduceEq, Int.reduceLE, Int.reduceLT, and_true, and_false, true_and, false_and, if_true, if_false]
      repeat' (first | rw [if_pos (by omega)] | rw [if_neg (by omega)])
    rw [q]
    clear q hop
    go_enter Tryd.func68, Tryd.ntmps68
    go_wp2
    exact bodyPost_ret (v := .tuple #[xv ⟨15, wd, r, m, 0, op - 64, 0⟩, .bool true]) (by simp [results, Tryd.results68, go_sem]) rfl ⟨rfl, by with_reducible repeat (first | exact H0.out | refine below_own0 ?_ _ _ | refine below_own1 ?_ _ _ | refine below_own2 ?_ _ _ | refine below_alloc ?_ _ | refine below_drew ?_ | refine pw_below_drewN ?_ _)⟩
  · have q : gfar wd op (bl t) r m = (⟨0, wd, 0, 0, 0, 0, 0⟩, false) := by
      unfold gfar gno
      try simp only [Int.reduceEq, Int.reduceLE, Int.reduceLT, and_true, and_false, true_and, false_and, if_true, if_false]
      repeat' (first | rw [if_pos (by omega)] | rw [if_neg (by omega)])
    rw [q]
    clear q hop
    go_enter Tryd.func68, Tryd.ntmps68
    go_wp2
    exact bodyPost_ret (v := .tuple #[xv ⟨0, wd, 0, 0, 0, 0, 0⟩, .bool false]) (by simp [results, Tryd.results68, go_sem]) rfl ⟨rfl, by with_reducible repeat (first | exact H0.out | refine below_own0 ?_ _ _ | refine below_own1 ?_ _ _ | refine below_own2 ?_ _ _ | refine below_alloc ?_ _ | refine below_drew ?_ | refine pw_below_drewN ?_ _)⟩
  · by_cases hl : t.size < 4
    · have q : gfar wd op (bl t) r m = (⟨0, wd, 0, 0, 0, 0, 0⟩, false) := by
        unfold gfar gno
        rw [if_neg (by omega), if_neg (by omega), if_neg (by omega), if_neg (by omega), if_pos (by omega), if_pos (by rw [bl_length]; exact hl)]
      rw [q]
      clear q hop
      go_enter Tryd.func68, Tryd.ntmps68
      go_wp2
      exact bodyPost_ret (v := .tuple #[xv ⟨0, wd, 0, 0, 0, 0, 0⟩, .bool false]) (by simp [results, Tryd.results68, go_sem]) rfl ⟨rfl, by with_reducible repeat (first | exact H0.out | refine below_own0 ?_ _ _ | refine below_own1 ?_ _ _ | refine below_own2 ?_ _ _ | refine below_alloc ?_ _ | refine below_drew ?_ | refine pw_below_drewN ?_ _)⟩
    · have q : gfar wd op (bl t) r m = (⟨18, wd, 0, 0, 0, op - 128, sg4 (bl t) 0⟩, true) := by
        unfold gfar gno
        rw [if_neg (by omega), if_neg (by omega), if_neg (by omega), if_neg (by omega), if_pos (by omega), if_neg (by rw [bl_length]; exact hl)]
      rw [q]
      clear q hop
      have hx : (t.extract 0 4).size = 4 := by rw [ByteArray.size_extract]; omega
      have hq : sg4 (bl (t.extract 0 4)) 0 = sg4 (bl t) 0 := sg4_cut t 0 4 (by omega) (by omega)
      have HV := Aside0.mk (fun W => RValue4 (t.extract 0 4) W hx)
      rw [hq] at HV
      clear hx hq
      go_enter Tryd.func68, Tryd.ntmps68
      go_wp2_with (go_at_call 69; (with_reducible refine (HV.out _).mono ?_); rintro e w1 ⟨rfl, rfl⟩)
      exact bodyPost_ret (v := .tuple #[xv ⟨18, wd, 0, 0, 0, op - 128, sg4 (bl t) 0⟩, .bool true]) (by simp [results, Tryd.results68, go_sem]) rfl ⟨rfl, by with_reducible repeat (first | exact H0.out | refine below_own0 ?_ _ _ | refine below_own1 ?_ _ _ | refine below_own2 ?_ _ _ | refine below_alloc ?_ _ | refine below_drew ?_ | refine pw_below_drewN ?_ _)⟩
  · have q : gfar wd op (bl t) r m = (⟨13, wd, 0, 0, 0, op - 144, 0⟩, true) := by
      unfold gfar gno
      try simp only [Int.reduceEq, Int.reduceLE, Int.reduceLT, and_true, and_false, true_and, false_and, if_true, if_false]
      repeat' (first | rw [if_pos (by omega)] | rw [if_neg (by omega)])
    rw [q]
    clear q hop
    go_enter Tryd.func68, Tryd.ntmps68
    go_wp2
    exact bodyPost_ret (v := .tuple #[xv ⟨13, wd, 0, 0, 0, op - 144, 0⟩, .bool true]) (by simp [results, Tryd.results68, go_sem]) rfl ⟨rfl, by with_reducible repeat (first | exact H0.out | refine below_own0 ?_ _ _ | refine below_own1 ?_ _ _ | refine below_own2 ?_ _ _ | refine below_alloc ?_ _ | refine below_drew ?_ | refine pw_below_drewN ?_ _)⟩
  · have q : gfar wd op (bl t) r m = (⟨0, wd, 0, 0, 0, 0, 0⟩, false) := by
      unfold gfar gno
      try simp only [Int.reduceEq, Int.reduceLE, Int.reduceLT, and_true, and_false, true_and, false_and, if_true, if_false]
      repeat' (first | rw [if_pos (by omega)] | rw [if_neg (by omega)])
    rw [q]
    clear q hop
    go_enter Tryd.func68, Tryd.ntmps68
    go_wp2
    exact bodyPost_ret (v := .tuple #[xv ⟨0, wd, 0, 0, 0, 0, 0⟩, .bool false]) (by simp [results, Tryd.results68, go_sem]) rfl ⟨rfl, by with_reducible repeat (first | exact H0.out | refine below_own0 ?_ _ _ | refine below_own1 ?_ _ _ | refine below_own2 ?_ _ _ | refine below_alloc ?_ _ | refine below_drew ?_ | refine pw_below_drewN ?_ _)⟩
  · have q : gfar wd 175 (bl t) r m = (⟨6, wd, r, m, 0, 0, 0⟩, true) := by
      unfold gfar gno
      try simp only [Int.reduceEq, Int.reduceLE, Int.reduceLT, and_true, and_false, true_and, false_and, if_true, if_false]
      repeat' (first | rw [if_pos (by omega)] | rw [if_neg (by omega)])
    rw [q]
    clear q hop
    go_enter Tryd.func68, Tryd.ntmps68
    go_wp2
    exact bodyPost_ret (v := .tuple #[xv ⟨6, wd, r, m, 0, 0, 0⟩, .bool true]) (by simp [results, Tryd.results68, go_sem]) rfl ⟨rfl, by with_reducible repeat (first | exact H0.out | refine below_own0 ?_ _ _ | refine below_own1 ?_ _ _ | refine below_own2 ?_ _ _ | refine below_alloc ?_ _ | refine below_drew ?_ | refine pw_below_drewN ?_ _)⟩
  · have q : gfar wd op (bl t) r m = (⟨0, wd, 0, 0, 0, 0, 0⟩, false) := by
      unfold gfar gno
      try simp only [Int.reduceEq, Int.reduceLE, Int.reduceLT, and_true, and_false, true_and, false_and, if_true, if_false]
      repeat' (first | rw [if_pos (by omega)] | rw [if_neg (by omega)])
    rw [q]
    clear q hop
    go_enter Tryd.func68, Tryd.ntmps68
    go_wp2
    exact bodyPost_ret (v := .tuple #[xv ⟨0, wd, 0, 0, 0, 0, 0⟩, .bool false]) (by simp [results, Tryd.results68, go_sem]) rfl ⟨rfl, by with_reducible repeat (first | exact H0.out | refine below_own0 ?_ _ _ | refine below_own1 ?_ _ _ | refine below_own2 ?_ _ _ | refine below_alloc ?_ _ | refine below_drew ?_ | refine pw_below_drewN ?_ _)⟩
  · have q : gfar wd 182 (bl t) r m = (⟨14, wd, 0, 0, 0, 0, 0⟩, true) := by
      unfold gfar gno
      try simp only [Int.reduceEq, Int.reduceLE, Int.reduceLT, and_true, and_false, true_and, false_and, if_true, if_false]
      repeat' (first | rw [if_pos (by omega)] | rw [if_neg (by omega)])
    rw [q]
    clear q hop
    go_enter Tryd.func68, Tryd.ntmps68
    go_wp2
    exact bodyPost_ret (v := .tuple #[xv ⟨14, wd, 0, 0, 0, 0, 0⟩, .bool true]) (by simp [results, Tryd.results68, go_sem]) rfl ⟨rfl, by with_reducible repeat (first | exact H0.out | refine below_own0 ?_ _ _ | refine below_own1 ?_ _ _ | refine below_own2 ?_ _ _ | refine below_alloc ?_ _ | refine below_drew ?_ | refine pw_below_drewN ?_ _)⟩
  · have q : gfar wd op (bl t) r m = (⟨0, wd, 0, 0, 0, 0, 0⟩, false) := by
      unfold gfar gno
      try simp only [Int.reduceEq, Int.reduceLE, Int.reduceLT, and_true, and_false, true_and, false_and, if_true, if_false]
      repeat' (first | rw [if_pos (by omega)] | rw [if_neg (by omega)])
    rw [q]
    clear q hop
    go_enter Tryd.func68, Tryd.ntmps68
    go_wp2
    exact bodyPost_ret (v := .tuple #[xv ⟨0, wd, 0, 0, 0, 0, 0⟩, .bool false]) (by simp [results, Tryd.results68, go_sem]) rfl ⟨rfl, by with_reducible repeat (first | exact H0.out | refine below_own0 ?_ _ _ | refine below_own1 ?_ _ _ | refine below_own2 ?_ _ _ | refine below_alloc ?_ _ | refine below_drew ?_ | refine pw_below_drewN ?_ _)⟩
end Go.Proofs.YtkfinaongajhmaaDoor.X
