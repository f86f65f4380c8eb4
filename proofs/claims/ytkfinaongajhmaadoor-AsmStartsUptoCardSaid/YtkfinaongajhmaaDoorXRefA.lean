/- The reference's small functions of chapter 11: what they compute. No condition but the numbers' bounds. -/
import Derived.Test.YtkfinaongajhmaaDoorXJoin
namespace Go.Proofs.YtkfinaongajhmaaDoor.X
open Go.Ob Go.Ob.Xc Go.RowKit Go.Proofs.YtkfinaongajhmaaDoorW.PrintWords Go.Proofs.YtkfinaongajhmaaDoorW.PrintMore
attribute [local go_sem] max2_int min2_int max_two min_two
set_option linter.unusedVariables false
set_option linter.unusedSimpArgs false
set_option maxHeartbeats 4000000 in
theorem RWord (n : Int) (w : World) : Calls Tryd.prog 42 #[.int .i64 n] w fun e w' => e = .returned (.bool (word n)) ∧ w = w' := by
  have hc : (n < -2147483648) ∨ (2147483648 ≤ n) ∨ (-2147483648 ≤ n ∧ n < 2147483648) := by omega
  rcases hc with h | h | ⟨h, h'⟩
  · have q : word n = false := by unfold word; first | exact decide_eq_true (by omega) | exact decide_eq_false (by omega)
    rw [q]
    clear q
    go_enter Tryd.func42, Tryd.ntmps42
    go_wp2
    go_ret
    first | exact ⟨rfl, rfl⟩ | exact ⟨by simp <;> omega, rfl⟩
  · have q : word n = false := by unfold word; first | exact decide_eq_true (by omega) | exact decide_eq_false (by omega)
    rw [q]
    clear q
    go_enter Tryd.func42, Tryd.ntmps42
    go_wp2
    go_ret
    first | exact ⟨rfl, rfl⟩ | exact ⟨by simp <;> omega, rfl⟩
  · have q : word n = true := by unfold word; first | exact decide_eq_true (by omega) | exact decide_eq_false (by omega)
    rw [q]
    clear q
    go_enter Tryd.func42, Tryd.ntmps42
    go_wp2
    go_ret
    first | exact ⟨rfl, rfl⟩ | exact ⟨by simp <;> omega, rfl⟩
set_option maxHeartbeats 4000000 in
theorem RAlu (n : Int) (w : World) : Calls Tryd.prog 43 #[.int .i64 n] w fun e w' => e = .returned (.bool (alu n)) ∧ w = w' := by
  have hc : (n < 0) ∨ (n = 0) ∨ (n = 1) ∨ (n = 2) ∨ (n = 3) ∨ (4 ≤ n ∧ n ≤ 7) ∨ (7 < n) := by omega
  rcases hc with h | h | h | h | h | ⟨h, h'⟩ | h
  · have q : alu n = false := by unfold alu; first | exact decide_eq_true (by omega) | exact decide_eq_false (by omega)
    rw [q]
    clear q
    go_enter Tryd.func43, Tryd.ntmps43
    go_wp2
    go_ret
    first | exact ⟨rfl, rfl⟩ | exact ⟨by simp <;> omega, rfl⟩
  · have q : alu n = true := by unfold alu; first | exact decide_eq_true (by omega) | exact decide_eq_false (by omega)
    rw [q]
    clear q
    subst h
    go_enter Tryd.func43, Tryd.ntmps43
    go_wp2
    go_ret
    first | exact ⟨rfl, rfl⟩ | exact ⟨by simp <;> omega, rfl⟩
  · have q : alu n = true := by unfold alu; first | exact decide_eq_true (by omega) | exact decide_eq_false (by omega)
    rw [q]
    clear q
    subst h
    go_enter Tryd.func43, Tryd.ntmps43
    go_wp2
    go_ret
    first | exact ⟨rfl, rfl⟩ | exact ⟨by simp <;> omega, rfl⟩
  · have q : alu n = false := by unfold alu; first | exact decide_eq_true (by omega) | exact decide_eq_false (by omega)
    rw [q]
    clear q
    subst h
    go_enter Tryd.func43, Tryd.ntmps43
    go_wp2
    go_ret
    first | exact ⟨rfl, rfl⟩ | exact ⟨by simp <;> omega, rfl⟩
  · have q : alu n = false := by unfold alu; first | exact decide_eq_true (by omega) | exact decide_eq_false (by omega)
    rw [q]
    clear q
    subst h
    go_enter Tryd.func43, Tryd.ntmps43
    go_wp2
    go_ret
    first | exact ⟨rfl, rfl⟩ | exact ⟨by simp <;> omega, rfl⟩
  · have q : alu n = true := by unfold alu; first | exact decide_eq_true (by omega) | exact decide_eq_false (by omega)
    rw [q]
    clear q
    go_enter Tryd.func43, Tryd.ntmps43
    go_wp2
    go_ret
    first | exact ⟨rfl, rfl⟩ | exact ⟨by simp <;> omega, rfl⟩
  · have q : alu n = false := by unfold alu; first | exact decide_eq_true (by omega) | exact decide_eq_false (by omega)
    rw [q]
    clear q
    go_enter Tryd.func43, Tryd.ntmps43
    go_wp2
    go_ret
    first | exact ⟨rfl, rfl⟩ | exact ⟨by simp <;> omega, rfl⟩
set_option maxHeartbeats 4000000 in
theorem RShift (n : Int) (w : World) : Calls Tryd.prog 44 #[.int .i64 n] w fun e w' => e = .returned (.bool (shf n)) ∧ w = w' := by
  have hc : (n < 0) ∨ (n = 0) ∨ (n = 1) ∨ (n = 2) ∨ (n = 3) ∨ (n = 4) ∨ (n = 5) ∨ (n = 6) ∨ (n = 7) ∨ (7 < n) := by omega
  rcases hc with h | h | h | h | h | h | h | h | h | h
  · have q : shf n = false := by unfold shf; first | exact decide_eq_true (by omega) | exact decide_eq_false (by omega)
    rw [q]
    clear q
    go_enter Tryd.func44, Tryd.ntmps44
    go_wp2
    go_ret
    first | exact ⟨rfl, rfl⟩ | exact ⟨by simp <;> omega, rfl⟩
  · have q : shf n = true := by unfold shf; first | exact decide_eq_true (by omega) | exact decide_eq_false (by omega)
    rw [q]
    clear q
    subst h
    go_enter Tryd.func44, Tryd.ntmps44
    go_wp2
    go_ret
    first | exact ⟨rfl, rfl⟩ | exact ⟨by simp <;> omega, rfl⟩
  · have q : shf n = true := by unfold shf; first | exact decide_eq_true (by omega) | exact decide_eq_false (by omega)
    rw [q]
    clear q
    subst h
    go_enter Tryd.func44, Tryd.ntmps44
    go_wp2
    go_ret
    first | exact ⟨rfl, rfl⟩ | exact ⟨by simp <;> omega, rfl⟩
  · have q : shf n = false := by unfold shf; first | exact decide_eq_true (by omega) | exact decide_eq_false (by omega)
    rw [q]
    clear q
    subst h
    go_enter Tryd.func44, Tryd.ntmps44
    go_wp2
    go_ret
    first | exact ⟨rfl, rfl⟩ | exact ⟨by simp <;> omega, rfl⟩
  · have q : shf n = false := by unfold shf; first | exact decide_eq_true (by omega) | exact decide_eq_false (by omega)
    rw [q]
    clear q
    subst h
    go_enter Tryd.func44, Tryd.ntmps44
    go_wp2
    go_ret
    first | exact ⟨rfl, rfl⟩ | exact ⟨by simp <;> omega, rfl⟩
  · have q : shf n = true := by unfold shf; first | exact decide_eq_true (by omega) | exact decide_eq_false (by omega)
    rw [q]
    clear q
    subst h
    go_enter Tryd.func44, Tryd.ntmps44
    go_wp2
    go_ret
    first | exact ⟨rfl, rfl⟩ | exact ⟨by simp <;> omega, rfl⟩
  · have q : shf n = true := by unfold shf; first | exact decide_eq_true (by omega) | exact decide_eq_false (by omega)
    rw [q]
    clear q
    subst h
    go_enter Tryd.func44, Tryd.ntmps44
    go_wp2
    go_ret
    first | exact ⟨rfl, rfl⟩ | exact ⟨by simp <;> omega, rfl⟩
  · have q : shf n = false := by unfold shf; first | exact decide_eq_true (by omega) | exact decide_eq_false (by omega)
    rw [q]
    clear q
    subst h
    go_enter Tryd.func44, Tryd.ntmps44
    go_wp2
    go_ret
    first | exact ⟨rfl, rfl⟩ | exact ⟨by simp <;> omega, rfl⟩
  · have q : shf n = true := by unfold shf; first | exact decide_eq_true (by omega) | exact decide_eq_false (by omega)
    rw [q]
    clear q
    subst h
    go_enter Tryd.func44, Tryd.ntmps44
    go_wp2
    go_ret
    first | exact ⟨rfl, rfl⟩ | exact ⟨by simp <;> omega, rfl⟩
  · have q : shf n = false := by unfold shf; first | exact decide_eq_true (by omega) | exact decide_eq_false (by omega)
    rw [q]
    clear q
    go_enter Tryd.func44, Tryd.ntmps44
    go_wp2
    go_ret
    first | exact ⟨rfl, rfl⟩ | exact ⟨by simp <;> omega, rfl⟩
set_option maxHeartbeats 4000000 in
theorem RCond (n : Int) (w : World) : Calls Tryd.prog 45 #[.int .i64 n] w fun e w' => e = .returned (.bool (cnd n)) ∧ w = w' := by
  have hc : (n < 2) ∨ (2 ≤ n ∧ n ≤ 7) ∨ (7 < n ∧ n < 12) ∨ (12 ≤ n ∧ n ≤ 15) ∨ (15 < n) := by omega
  rcases hc with h | ⟨h, h'⟩ | ⟨h, h'⟩ | ⟨h, h'⟩ | h
  · have q : cnd n = false := by unfold cnd; first | exact decide_eq_true (by omega) | exact decide_eq_false (by omega)
    rw [q]
    clear q
    go_enter Tryd.func45, Tryd.ntmps45
    go_wp2
    go_ret
    first | exact ⟨rfl, rfl⟩ | exact ⟨by simp <;> omega, rfl⟩
  · have q : cnd n = true := by unfold cnd; first | exact decide_eq_true (by omega) | exact decide_eq_false (by omega)
    rw [q]
    clear q
    go_enter Tryd.func45, Tryd.ntmps45
    go_wp2
    go_ret
    first | exact ⟨rfl, rfl⟩ | exact ⟨by simp <;> omega, rfl⟩
  · have q : cnd n = false := by unfold cnd; first | exact decide_eq_true (by omega) | exact decide_eq_false (by omega)
    rw [q]
    clear q
    go_enter Tryd.func45, Tryd.ntmps45
    go_wp2
    go_ret
    first | exact ⟨rfl, rfl⟩ | exact ⟨by simp <;> omega, rfl⟩
  · have q : cnd n = true := by unfold cnd; first | exact decide_eq_true (by omega) | exact decide_eq_false (by omega)
    rw [q]
    clear q
    go_enter Tryd.func45, Tryd.ntmps45
    go_wp2
    go_ret
    first | exact ⟨rfl, rfl⟩ | exact ⟨by simp <;> omega, rfl⟩
  · have q : cnd n = false := by unfold cnd; first | exact decide_eq_true (by omega) | exact decide_eq_false (by omega)
    rw [q]
    clear q
    go_enter Tryd.func45, Tryd.ntmps45
    go_wp2
    go_ret
    first | exact ⟨rfl, rfl⟩ | exact ⟨by simp <;> omega, rfl⟩
set_option maxHeartbeats 4000000 in
theorem ROne (n : Int) (w : World) : Calls Tryd.prog 38 #[.int .i64 n] w fun e w' => e = .returned (.string (strOfNums [n % 256])) ∧ Below w.heap.size w w' := by
  have hcv := run_convert_bytes_arg (P := Tryd.prog) (w.alloc (.cells #[.int .u8 (n % 256)] 5)) 82 5 Tryd.underlying82 Tryd.underlying5 w.heap.size 0 1 1 [n % 256] rfl (fun i hi => by
    rw [Nat.zero_add, blk_cell (blk_new w _) i]
    have : i = 0 := by omega
    subst this
    rfl) 9 Tryd.underlying9
  go_enter Tryd.func38, Tryd.ntmps38
  go_wp2
  go_ret
  exact ⟨rfl, below_alloc (Below.refl _ _) _⟩
theorem rmr_bits (m r b : Int) (hm : 0 ≤ m ∧ m ≤ 3) : Go.bits .or .i64 (Go.bits .or .i64 (wrap64 (m * 64)) (r % 8 * 8)) (b % 8) = mr m r b := by
  have H : ∀ (m : Fin 4) (r b : Fin 8), Go.bits .or .i64 (Go.bits .or .i64 (wrap64 ((m.val : Int) * 64)) ((r.val : Int) * 8)) (b.val : Int) = 64 * (m.val : Int) + 8 * (r.val : Int) + (b.val : Int) := by decide +kernel
  have h := H ⟨m.toNat, by omega⟩ ⟨(r % 8).toNat, by omega⟩ ⟨(b % 8).toNat, by omega⟩
  simp only [Int.toNat_of_nonneg hm.1, Int.toNat_of_nonneg (show 0 ≤ r % 8 by omega), Int.toNat_of_nonneg (show 0 ≤ b % 8 by omega)] at h
  unfold mr
  exact h
set_option maxHeartbeats 4000000 in
theorem RMr (m r b : Int) (w : World) (hm : 0 ≤ m ∧ m ≤ 3) (hr : 0 ≤ r ∧ r ≤ 15) (hb : 0 ≤ b ∧ b ≤ 15) :
    Calls Tryd.prog 37 #[.int .i64 m, .int .i64 r, .int .i64 b] w fun e w' => e = .returned (.string (strOfNums [mr m r b])) ∧ Below w.heap.size w w' := by
  have hq := rmr_bits m r b hm
  have hk : mr m r b % 256 = mr m r b := by unfold mr; omega
  obtain ⟨hr0, hr1⟩ := hr
  obtain ⟨hb0, hb1⟩ := hb
  have HQ := Aside0.mk (And.intro hq hk)
  clear hq hk hm
  go_enter Tryd.func37, Tryd.ntmps37
  go_wp2_with (go_at_call 38; refine (ROne _ _).mono ?_; rintro e w1 ⟨rfl, h1⟩; have H1 := Aside0.mk h1; clear h1)
  go_ret
  exact ⟨by rw [HQ.out.1, HQ.out.2]; rfl, H1.out⟩
set_option maxHeartbeats 16000000 in
theorem RRex (wd : Bool) (r i b : Int) (w : World) (hr : 0 ≤ r ∧ r ≤ 15) (hi : 0 ≤ i ∧ i ≤ 15) (hb : 0 ≤ b ∧ b ≤ 15) :
    Calls Tryd.prog 36 #[.bool wd, .int .i64 r, .int .i64 i, .int .i64 b] w fun e w' => e = .returned (.string (strOfNums (rexL wd r i b))) ∧ Below w.heap.size w w' := by
  have hv : rexL wd r i b = if (64 + (if wd then 8 else 0) + (if 7 < r then 4 else 0) + (if 7 < i then 2 else 0) + (if 7 < b then 1 else 0) : Int) = 64 then [] else [64 + (if wd then 8 else 0) + (if 7 < r then 4 else 0) + (if 7 < i then 2 else 0) + (if 7 < b then 1 else 0)] := by
    have e : rexN wd r i b = 64 + (if wd then 8 else 0) + (if 7 < r then 4 else 0) + (if 7 < i then 2 else 0) + (if 7 < b then 1 else 0) := by
      unfold rexN
      have h1 : (if 7 < r then (4 : Int) else 0) = 4 * (r / 8) := by split <;> omega
      have h2 : (if 7 < i then (2 : Int) else 0) = 2 * (i / 8) := by split <;> omega
      have h3 : (if 7 < b then (1 : Int) else 0) = b / 8 := by split <;> omega
      rw [h1, h2, h3]
    unfold rexL
    rw [e]
  rw [hv]
  clear hv hr hi hb
  by_cases c1 : 7 < r <;> by_cases c2 : 7 < i <;> by_cases c3 : 7 < b <;> cases wd
  all_goals
    simp only [c1, c2, c3, if_true, if_false, Bool.false_eq_true]
    try rw [if_neg (by decide)]
    try rw [if_pos (by decide)]
    go_enter Tryd.func36, Tryd.ntmps36
    go_wp2_with (go_at_call 38; refine (ROne _ _).mono ?_; rintro e w1 ⟨rfl, h1⟩; have H1 := Aside0.mk h1; clear h1)
    go_ret
    first | exact ⟨rfl, H1.out⟩ | exact ⟨rfl, Below.refl _ _⟩
theorem cat_nums (x y : List Int) : strOfNums x ++ strOfNums y = strOfNums (x ++ y) := by
  apply ByteArray.ext
  simp [strOfNums]
theorem ROne1 (n : Int) (w : World) : Calls Tryd.prog 38 #[.int .i64 n] w fun e w' => ∃ s : ByteArray, e = .returned (.string s) ∧ s.size = 1 ∧ Aside0 (bl s = [n % 256]) ∧ Below w.heap.size w w' :=
  (ROne n w).mono fun e w' ⟨he, hb⟩ => ⟨_, he, rfl, ⟨bl_num _ (by intro b hb; simp at hb; subst hb; omega)⟩, hb⟩
theorem and255 (m : Int) (h0 : 0 ≤ m) (h1 : m < 18446744073709551616) : Go.bits .and .u64 m 255 = m % 256 := by
  rw [u64_and m 255 h0 h1 (by decide) (by decide)]
  rw [show (255 : Int).toNat = 255 by rfl, nat_mask8]
  omega
theorem byte_of (n d : Int) (hd : d = 256 ∨ d = 65536 ∨ d = 16777216 ∨ d = 4294967296 ∨ d = 1099511627776 ∨ d = 281474976710656 ∨ d = 72057594037927936) :
    wrap64 (Go.bits .and .u64 (IntKind.u64.wrap n / d) 255) % 256 = n / d % 256 := by
  rw [show IntKind.u64.wrap n = n % 18446744073709551616 by rfl]
  rcases hd with rfl | rfl | rfl | rfl | rfl | rfl | rfl
  all_goals
    rw [and255 _ (by omega) (by omega)]
    unfold wrap64
    omega
theorem byte_0 (n : Int) : wrap64 (Go.bits .and .u64 (IntKind.u64.wrap n) 255) % 256 = n % 256 := by
  rw [show IntKind.u64.wrap n = n % 18446744073709551616 by rfl, and255 _ (by omega) (by omega)]
  unfold wrap64
  omega
theorem le4_bd (n : Int) : ∀ b ∈ le4 n, 0 ≤ b ∧ b < 256 := by
  intro b hb
  simp [le4] at hb
  omega
theorem le8_bd (n : Int) : ∀ b ∈ le8 n, 0 ≤ b ∧ b < 256 := by
  intro b hb
  simp [le8, le4] at hb
  omega
set_option maxHeartbeats 16000000 in
set_option maxRecDepth 100000 in
theorem RNumber4 (n : Int) (w : World) (hn : -9223372036854775808 ≤ n ∧ n ≤ 9223372036854775807) :
    Calls Tryd.prog 39 #[.int .i64 n, .int .i64 4] w fun e w' => e = .returned (.string (strOfNums (le4 n))) ∧ Below w.heap.size w w' := by
  have HN := Aside0.mk hn
  clear hn
  have H0 := Aside0.mk (Below.refl w.heap.size w)
  go_enter Tryd.func39, Tryd.ntmps39
  go_wp2
  refine wp_loop_rounds 5 ?_
  rw [rounds_succ]
  go_wp2_with (go_at_call 38; refine (ROne1 _ _).mono ?_; rintro e w1 ⟨s1, rfl, z1, d1, h1⟩; have H1 := Aside0.mk (H0.out.trans (h1.mono H0.out.size)); clear h1)
  rw [rounds_succ]
  go_wp2_with (go_at_call 38; refine (ROne1 _ _).mono ?_; rintro e w2 ⟨s2, rfl, z2, d2, h1⟩; have H2 := Aside0.mk (H1.out.trans (h1.mono H1.out.size)); clear h1)
  rw [rounds_succ]
  go_wp2_with (go_at_call 38; refine (ROne1 _ _).mono ?_; rintro e w3 ⟨s3, rfl, z3, d3, h1⟩; have H3 := Aside0.mk (H2.out.trans (h1.mono H2.out.size)); clear h1)
  rw [rounds_succ]
  go_wp2_with (go_at_call 38; refine (ROne1 _ _).mono ?_; rintro e w4 ⟨s4, rfl, z4, d4, h1⟩; have H4 := Aside0.mk (H3.out.trans (h1.mono H3.out.size)); clear h1)
  rw [rounds_succ]
  go_wp2
  go_ret
  have hv : (((s1 ++ s2) ++ s3) ++ s4) = strOfNums (le4 n) := by
    apply bl_inj
    rw [bl_num _ (le4_bd n)]
    simp only [bl_append, d1.out, d2.out, d3.out, d4.out]
    rw [byte_0, byte_of n 256 (by decide), byte_of n 65536 (by decide), byte_of n 16777216 (by decide)]
    simp [le4, le8]
  exact ⟨by rw [← hv]; rfl, H4.out⟩
set_option maxHeartbeats 16000000 in
set_option maxRecDepth 100000 in
theorem RNumber8 (n : Int) (w : World) (hn : -9223372036854775808 ≤ n ∧ n ≤ 9223372036854775807) :
    Calls Tryd.prog 39 #[.int .i64 n, .int .i64 8] w fun e w' => e = .returned (.string (strOfNums (le8 n))) ∧ Below w.heap.size w w' := by
  have HN := Aside0.mk hn
  clear hn
  have H0 := Aside0.mk (Below.refl w.heap.size w)
  go_enter Tryd.func39, Tryd.ntmps39
  go_wp2
  refine wp_loop_rounds 9 ?_
  rw [rounds_succ]
  go_wp2_with (go_at_call 38; refine (ROne1 _ _).mono ?_; rintro e w1 ⟨s1, rfl, z1, d1, h1⟩; have H1 := Aside0.mk (H0.out.trans (h1.mono H0.out.size)); clear h1)
  rw [rounds_succ]
  go_wp2_with (go_at_call 38; refine (ROne1 _ _).mono ?_; rintro e w2 ⟨s2, rfl, z2, d2, h1⟩; have H2 := Aside0.mk (H1.out.trans (h1.mono H1.out.size)); clear h1)
  rw [rounds_succ]
  go_wp2_with (go_at_call 38; refine (ROne1 _ _).mono ?_; rintro e w3 ⟨s3, rfl, z3, d3, h1⟩; have H3 := Aside0.mk (H2.out.trans (h1.mono H2.out.size)); clear h1)
  rw [rounds_succ]
  go_wp2_with (go_at_call 38; refine (ROne1 _ _).mono ?_; rintro e w4 ⟨s4, rfl, z4, d4, h1⟩; have H4 := Aside0.mk (H3.out.trans (h1.mono H3.out.size)); clear h1)
  rw [rounds_succ]
  go_wp2_with (go_at_call 38; refine (ROne1 _ _).mono ?_; rintro e w5 ⟨s5, rfl, z5, d5, h1⟩; have H5 := Aside0.mk (H4.out.trans (h1.mono H4.out.size)); clear h1)
  rw [rounds_succ]
  go_wp2_with (go_at_call 38; refine (ROne1 _ _).mono ?_; rintro e w6 ⟨s6, rfl, z6, d6, h1⟩; have H6 := Aside0.mk (H5.out.trans (h1.mono H5.out.size)); clear h1)
  rw [rounds_succ]
  go_wp2_with (go_at_call 38; refine (ROne1 _ _).mono ?_; rintro e w7 ⟨s7, rfl, z7, d7, h1⟩; have H7 := Aside0.mk (H6.out.trans (h1.mono H6.out.size)); clear h1)
  rw [rounds_succ]
  go_wp2_with (go_at_call 38; refine (ROne1 _ _).mono ?_; rintro e w8 ⟨s8, rfl, z8, d8, h1⟩; have H8 := Aside0.mk (H7.out.trans (h1.mono H7.out.size)); clear h1)
  rw [rounds_succ]
  go_wp2
  go_ret
  have hv : (((((((s1 ++ s2) ++ s3) ++ s4) ++ s5) ++ s6) ++ s7) ++ s8) = strOfNums (le8 n) := by
    apply bl_inj
    rw [bl_num _ (le8_bd n)]
    simp only [bl_append, d1.out, d2.out, d3.out, d4.out, d5.out, d6.out, d7.out, d8.out]
    rw [byte_0, byte_of n 256 (by decide), byte_of n 65536 (by decide), byte_of n 16777216 (by decide), byte_of n 4294967296 (by decide), byte_of n 1099511627776 (by decide), byte_of n 281474976710656 (by decide), byte_of n 72057594037927936 (by decide)]
    simp [le4, le8]
  exact ⟨by rw [← hv]; rfl, H8.out⟩
end Go.Proofs.YtkfinaongajhmaaDoor.X
