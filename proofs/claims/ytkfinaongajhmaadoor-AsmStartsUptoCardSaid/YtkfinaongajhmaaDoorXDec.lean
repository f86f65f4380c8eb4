/- Bytes on their way to be an instruction: what the program's readers of one byte, of a number, of registers compute. No condition but lengths. -/
import Derived.Test.YtkfinaongajhmaaDoorXSmall
import Derived.BigQuiet
namespace Go.Proofs.YtkfinaongajhmaaDoor.X
open Go.Ob Go.Ob.Xc Go.RowKit Go.Proofs.YtkfinaongajhmaaDoorW.PrintWords Go.Proofs.YtkfinaongajhmaaDoorW.PrintMore
attribute [local go_sem] max2_int min2_int max_two min_two
set_option linter.unusedVariables false
set_option linter.unusedSimpArgs false
/-- a number of bytes, the least first -/
def le : List Int → Int
  | [] => 0
  | b :: r => b + 256 * le r
theorem le_append (l m : List Int) : le (l ++ m) = le l + 256 ^ l.length * le m := by
  induction l with
  | nil => simp [le]
  | cons b l ih => simp only [List.cons_append, le, ih, List.length_cons, Int.pow_succ]; grind
theorem le_bd (l : List Int) (h : ∀ b ∈ l, 0 ≤ b ∧ b < 256) : 0 ≤ le l ∧ le l < 256 ^ l.length := by
  induction l with
  | nil => simp [le]
  | cons b l ih =>
    have hb := h b (by simp)
    obtain ⟨h0, h1⟩ := ih (fun x hx => h x (by simp [hx]))
    simp only [le, List.length_cons, Int.pow_succ]
    omega
theorem or_comm_i64 (a b : Int) : bits .or .i64 a b = bits .or .i64 b a := by rw [bits_or_i64, bits_or_i64, BitVec.or_comm]
theorem or_step (L x : Int) (k : Nat) (hk : k < 8) (h0 : 0 ≤ L) (h1 : L < 256 ^ k) (hx0 : 0 ≤ x) (hx1 : x < 256) : bits .or .i64 (wrap64 L) (wrap64 (x * 2 ^ (8 * k))) = wrap64 (L + 256 ^ k * x) := by
  obtain rfl | rfl | rfl | rfl | rfl | rfl | rfl | rfl : k = 0 ∨ k = 1 ∨ k = 2 ∨ k = 3 ∨ k = 4 ∨ k = 5 ∨ k = 6 ∨ k = 7 := by omega
  all_goals
    simp only [Nat.reduceMul, Int.reducePow] at h1 ⊢
    have hw : wrap64 L = L := by unfold wrap64; omega
    rw [hw, or_comm_i64]
  · rw [or_add _ L (by unfold wrap64; omega) (by unfold wrap64; omega) 0 (by decide) (by omega) h0 (by omega)]; unfold wrap64; omega
  · rw [or_add _ L (by unfold wrap64; omega) (by unfold wrap64; omega) 8 (by decide) (by unfold wrap64; omega) h0 (by omega)]; unfold wrap64; omega
  · rw [or_add _ L (by unfold wrap64; omega) (by unfold wrap64; omega) 16 (by decide) (by unfold wrap64; omega) h0 (by omega)]; unfold wrap64; omega
  · rw [or_add _ L (by unfold wrap64; omega) (by unfold wrap64; omega) 24 (by decide) (by unfold wrap64; omega) h0 (by omega)]; unfold wrap64; omega
  · rw [or_add _ L (by unfold wrap64; omega) (by unfold wrap64; omega) 32 (by decide) (by unfold wrap64; omega) h0 (by omega)]; unfold wrap64; omega
  · rw [or_add _ L (by unfold wrap64; omega) (by unfold wrap64; omega) 40 (by decide) (by unfold wrap64; omega) h0 (by omega)]; unfold wrap64; omega
  · rw [or_add _ L (by unfold wrap64; omega) (by unfold wrap64; omega) 48 (by decide) (by unfold wrap64; omega) h0 (by omega)]; unfold wrap64; omega
  · rw [or_add _ L (by unfold wrap64; omega) (by unfold wrap64; omega) 56 (by decide) (by unfold wrap64; omega) h0 (by omega)]; unfold wrap64; omega
theorem le_step (B : List Int) (k : Nat) (hk : k < 8) (hl : k < B.length) (hb : ∀ b ∈ B, 0 ≤ b ∧ b < 256) : bits .or .i64 (wrap64 (le (B.take k))) (wrap64 (B.getD k 0 * 2 ^ (8 * k))) = wrap64 (le (B.take (k + 1))) := by
  have hx := hb (B.getD k 0) (by rw [List.getD_eq_getElem?_getD, List.getElem?_eq_getElem hl]; exact List.getElem_mem _)
  have hL := le_bd (B.take k) (fun b h => hb b (List.mem_of_mem_take h))
  have hlen : (B.take k).length = k := by rw [List.length_take]; omega
  rw [hlen] at hL
  rw [or_step _ _ k hk hL.1 hL.2 hx.1 hx.2, List.take_succ_eq_append_getElem hl, le_append, hlen]
  congr 3
  simp [le, List.getD_eq_getElem?_getD, List.getElem?_eq_getElem hl]
/-- bytes on their way, as cells -/
abbrev co (s : ByteArray) (r i m : Int) : Obj := .cells #[.string s, .int .i64 r, .int .i64 i, .int .i64 m] 76 (0, 0)
theorem at0_bd (s : ByteArray) (k : Nat) : 0 ≤ at0 (bl s) k ∧ at0 (bl s) k < 256 := by
  unfold at0
  rw [List.getD_eq_getElem?_getD]
  by_cases h : k < (bl s).length
  · rw [List.getElem?_eq_getElem h]
    exact bl_bytes s _ (List.getElem_mem h)
  · rw [List.getElem?_eq_none (by omega)]
    decide
theorem at0_byte (s : ByteArray) (k : Nat) (h : k < s.size) : at0 (bl s) k = (s[k].toNat : Int) := by
  unfold at0 bl
  rw [List.getD_eq_getElem?_getD, List.getElem?_map, List.getElem?_eq_getElem (by rw [Array.length_toList]; exact h)]
  simp
  rfl
set_option maxHeartbeats 4000000 in
theorem At (s : ByteArray) (r i m : Int) (g : Nat) (k : Int) (w : World) (hk : 0 ≤ k) (hs : s.size ≤ 281474976710656) (hg : w.heap[g]? = some (co s r i m)) :
    Calls Tryd.prog 46 #[.pointer (some ⟨g, 0, none⟩), .int .i64 k] w fun e w' => e = .returned (.int .i64 (at0 (bl s) k.toNat)) ∧ w = w' := by
  obtain ⟨j, rfl⟩ := Int.eq_ofNat_of_zero_le hk
  rw [Int.toNat_natCast]
  have c0 := blk_cell hg 0
  simp at c0
  have HG := Aside0.mk hg
  clear hg hk
  by_cases h : j < s.size
  · have hb := at0_byte s j h
    rw [hb]
    clear hb
    have hw : wrap64 (s[j].toNat : Int) = s[j].toNat := by have := s[j].toNat_lt; unfold wrap64; omega
    have HW := Aside0.mk hw
    clear hw
    go_enter Tryd.func46, Tryd.ntmps46
    go_wp2
    go_ret
    exact ⟨by show Ending.returned (.int .i64 (wrap64 _)) = _; rw [HW.out], rfl⟩
  · have hb : at0 (bl s) j = 0 := by
      unfold at0
      rw [List.getD_eq_getElem?_getD, List.getElem?_eq_none (by rw [bl_length]; omega)]
      rfl
    rw [hb]
    clear hb
    go_enter Tryd.func46, Tryd.ntmps46
    go_wp2
    go_ret
    exact ⟨rfl, rfl⟩
theorem reg_bits (a r : Int) (h0 : 0 ≤ a) (h1 : a < 256) (hr : r = 0 ∨ r = 8) : Go.bits .or .i64 (Go.bits .and .i64 (a / 8) 7) r = a / 8 % 8 + r := by
  have hm := and_mask (a / 8) 3 (by decide)
  rw [show ((2 : Int) ^ 3 - 1) = 7 by decide, show ((2 : Int) ^ 3) = 8 by decide] at hm
  rw [hm]
  have H : ∀ c : Fin 8, Go.bits .or .i64 (c.val : Int) 0 = (c.val : Int) + 0 ∧ Go.bits .or .i64 (c.val : Int) 8 = (c.val : Int) + 8 := by decide +kernel
  have h := H ⟨(a / 8 % 8).toNat, by omega⟩
  simp only [Int.toNat_of_nonneg (show 0 ≤ a / 8 % 8 by omega)] at h
  rcases hr with rfl | rfl
  · exact h.1
  · exact h.2
theorem low_bits (a r : Int) (hr : r = 0 ∨ r = 8) : Go.bits .or .i64 (Go.bits .and .i64 a 7) r = a % 8 + r := by
  have hm := and_mask a 3 (by decide)
  rw [show ((2 : Int) ^ 3 - 1) = 7 by decide, show ((2 : Int) ^ 3) = 8 by decide] at hm
  rw [hm]
  have H : ∀ c : Fin 8, Go.bits .or .i64 (c.val : Int) 0 = (c.val : Int) + 0 ∧ Go.bits .or .i64 (c.val : Int) 8 = (c.val : Int) + 8 := by decide +kernel
  have h := H ⟨(a % 8).toNat, by omega⟩
  simp only [Int.toNat_of_nonneg (show 0 ≤ a % 8 by omega)] at h
  rcases hr with rfl | rfl
  · exact h.1
  · exact h.2
set_option maxHeartbeats 4000000 in
theorem RegAt (s : ByteArray) (r i m : Int) (g : Nat) (k : Nat) (w : World) (hk : k ≤ 100) (hs : s.size ≤ 281474976710656) (hr : r = 0 ∨ r = 8) (hg : w.heap[g]? = some (co s r i m)) :
    Calls Tryd.prog 62 #[.pointer (some ⟨g, 0, none⟩), .int .i64 k] w fun e w' => e = .returned (.int .i64 (rg (bl s) k r)) ∧ ∃ n, w' = w.drewN n := by
  have hb := at0_bd s k
  have hbit := reg_bits (at0 (bl s) k) r hb.1 hb.2 hr
  have c1 := blk_cell hg 1
  simp at c1
  have HA := Aside0.mk (fun n => (At s r i m g k (w.drewN n) (by omega) hs (blk_drewN hg n)).mono fun e w2 h => (⟨h.1, h.2.symm⟩ : e = .returned (.int .i64 (at0 (bl s) (k : Int).toNat)) ∧ w2 = w.drewN n))
  rw [Int.toNat_natCast] at HA
  obtain ⟨hb0, hb1⟩ := hb
  unfold rg
  rw [← hbit]
  clear hbit hg
  generalize at0 (bl s) k = a at *
  go_enter Tryd.func62, Tryd.ntmps62
  go_wp2_with fail
  go_quiet ((go_at_call 46; exact Calls.quiet_of_same (HA.out _)))
  go_wp2
  go_ret
  exact ⟨rfl, _, rfl⟩
set_option maxHeartbeats 4000000 in
theorem LowAt (s : ByteArray) (r i m : Int) (g : Nat) (k : Nat) (w : World) (hk : k ≤ 100) (hs : s.size ≤ 281474976710656) (hr : m = 0 ∨ m = 8) (hg : w.heap[g]? = some (co s r i m)) :
    Calls Tryd.prog 63 #[.pointer (some ⟨g, 0, none⟩), .int .i64 k] w fun e w' => e = .returned (.int .i64 (lw (bl s) k m)) ∧ ∃ n, w' = w.drewN n := by
  have hbit := low_bits (at0 (bl s) k) m hr
  have c3 := blk_cell hg 3
  simp at c3
  have HA := Aside0.mk (fun n => (At s r i m g k (w.drewN n) (by omega) hs (blk_drewN hg n)).mono fun e w2 h => (⟨h.1, h.2.symm⟩ : e = .returned (.int .i64 (at0 (bl s) (k : Int).toNat)) ∧ w2 = w.drewN n))
  rw [Int.toNat_natCast] at HA
  unfold lw
  rw [← hbit]
  clear hbit hg
  generalize at0 (bl s) k = a at *
  go_enter Tryd.func63, Tryd.ntmps63
  go_wp2_with fail
  go_quiet ((go_at_call 46; exact Calls.quiet_of_same (HA.out _)))
  go_wp2
  go_ret
  exact ⟨rfl, _, rfl⟩
/-- the bytes of a number on its way -/
def bys (l : List Int) (k n : Nat) : List Int := (List.range n).map fun j => at0 l (k + j)
theorem bys_length (l : List Int) (k n : Nat) : (bys l k n).length = n := by simp [bys]
theorem bys_bytes (s : ByteArray) (k n : Nat) : ∀ b ∈ bys (bl s) k n, 0 ≤ b ∧ b < 256 := by
  intro b hb
  simp only [bys, List.mem_map] at hb
  obtain ⟨j, _, rfl⟩ := hb
  exact at0_bd s _
theorem bys_at (l : List Int) (k n j : Nat) (h : j < n) : (bys l k n).getD j 0 = at0 l (k + j) := by
  simp [bys, List.getD_eq_getElem?_getD, h]
theorem sg4_le (s : ByteArray) (k : Nat) : wrap64 (wrap32 (wrap64 (le (bys (bl s) k 4)))) = sg4 (bl s) k := by
  have h0 := at0_bd s k
  have h1 := at0_bd s (k + 1)
  have h2 := at0_bd s (k + 2)
  have h3 := at0_bd s (k + 3)
  have e : le (bys (bl s) k 4) = num4 (bl s) k := by
    simp [bys, le, num4, List.range_succ]
    omega
  rw [e]
  unfold sg4
  have hb : 0 ≤ num4 (bl s) k ∧ num4 (bl s) k < 4294967296 := by unfold num4; omega
  unfold wrap64 wrap32
  split <;> omega
theorem sg8_le (s : ByteArray) (k : Nat) : wrap64 (le (bys (bl s) k 8)) = sg8 (bl s) k := by
  have h0 := at0_bd s k
  have h1 := at0_bd s (k + 1)
  have h2 := at0_bd s (k + 2)
  have h3 := at0_bd s (k + 3)
  have h4 := at0_bd s (k + 4)
  have h5 := at0_bd s (k + 4 + 1)
  have h6 := at0_bd s (k + 4 + 2)
  have h7 := at0_bd s (k + 4 + 3)
  have e : le (bys (bl s) k 8) = num8 (bl s) k := by
    simp [bys, le, num8, num4, List.range_succ, Nat.add_assoc]
    omega
  rw [e]
  unfold sg8
  have hb : 0 ≤ num8 (bl s) k ∧ num8 (bl s) k < 18446744073709551616 := by unfold num8 num4; omega
  unfold wrap64
  split <;> omega
set_option maxHeartbeats 8000000 in
set_option maxRecDepth 100000 in
theorem SignedR (s : ByteArray) (r i m : Int) (g : Nat) (k N : Nat) (R : Int) (w : World) (hR : (if N = 4 then wrap64 (wrap32 (wrap64 (le (bys (bl s) k N)))) else wrap64 (le (bys (bl s) k N))) = R) (hk : k ≤ 100) (hN : N = 4 ∨ N = 8) (hs : s.size ≤ 281474976710656) (hg : w.heap[g]? = some (co s r i m)) :
    Calls Tryd.prog 64 #[.pointer (some ⟨g, 0, none⟩), .int .i64 k, .int .i64 N] w fun e w' => e = .returned (.int .i64 R) ∧ w = w' := by
  have HG := Aside0.mk hg
  obtain ⟨B, hB⟩ : ∃ B, bys (bl s) k N = B := ⟨_, rfl⟩
  have hBl : B.length = N := by rw [← hB]; exact bys_length _ _ _
  have hBb : ∀ b ∈ B, 0 ≤ b ∧ b < 256 := by rw [← hB]; exact bys_bytes s k N
  have hBa : ∀ j, j < N → B.getD j 0 = at0 (bl s) (k + j) := fun j hj => by rw [← hB]; exact bys_at _ _ _ _ hj
  have HBB := Aside0.mk (And.intro hBl (And.intro hBb hBa))
  have HBE := Aside0.mk hB
  clear hg hBl hBb hBa hB
  go_enter Tryd.func64, Tryd.ntmps64
  go_wp2
  go_loop [7, 8, 10] (fun v _ i => ∃ j : Nat, j ≤ N ∧ i = .int .i64 j ∧ v = .int .i64 (wrap64 (le (B.take j)))) (fun _ _ i => N - (intOf i).toNat)
  case atStart => exact ⟨0, Nat.zero_le _, rfl, by simp [le, wrap64]⟩
  case round =>
    obtain ⟨j, hj, rfl, rfl⟩ := hrel
    by_cases hlt : j < N
    · have hj8 : j < 8 := by omega
      have hst := le_step B j hj8 (by rw [HBB.out.1]; exact hlt) HBB.out.2.1
      have ha := HBB.out.2.2 j hlt
      have hA := At s r i m g ((k : Int) + j) w (by omega) hs HG.out
      rw [show ((k : Int) + j).toNat = k + j by omega, ← ha] at hA
      have HA := Aside0.mk hA
      have hb := HBB.out.2.1 (B.getD j 0) (by rw [List.getD_eq_getElem?_getD, List.getElem?_eq_getElem (by rw [HBB.out.1]; exact hlt)]; exact List.getElem_mem _)
      clear hA ha
      generalize B.getD j 0 = x at *
      obtain ⟨hb0, hb1⟩ := hb
      obtain ⟨v, hv⟩ : ∃ v, wrap64 (le (B.take j)) = v := ⟨_, rfl⟩
      rw [hv] at hst ⊢
      have HV := Aside0.mk hst
      clear hv hst
      go_wp2_with (first
        | (go_at_call 46; (with_reducible refine HA.out.mono ?_); rintro e w1 ⟨rfl, rfl⟩))
      exact ⟨⟨j + 1, hlt, rfl, congrArg _ HV.out⟩, by simp [intOf]; omega⟩
    · obtain rfl : j = N := by omega
      have hall : B.take j = B := List.take_of_length_le (by rw [HBB.out.1]; exact Nat.le_refl _)
      rw [hall]
      clear hall
      have hr := hR
      rw [HBE.out] at hr
      have HR := Aside0.mk hr
      clear hR hr
      generalize wrap64 (le B) = v at *
      rcases hN with rfl | rfl
      · go_wp2
        go_ret
        exact ⟨by rw [← HR.out]; simp, rfl⟩
      · go_wp2
        go_ret
        exact ⟨by rw [← HR.out]; simp, rfl⟩
theorem Signed4 (s : ByteArray) (r i m : Int) (g : Nat) (k : Nat) (w : World) (hk : k ≤ 100) (hs : s.size ≤ 281474976710656) (hg : w.heap[g]? = some (co s r i m)) :
    Calls Tryd.prog 64 #[.pointer (some ⟨g, 0, none⟩), .int .i64 k, .int .i64 4] w fun e w' => e = .returned (.int .i64 (sg4 (bl s) k)) ∧ w = w' :=
  SignedR s r i m g k 4 _ w (by rw [if_pos rfl, sg4_le]) hk (.inl rfl) hs hg
theorem Signed8 (s : ByteArray) (r i m : Int) (g : Nat) (k : Nat) (w : World) (hk : k ≤ 100) (hs : s.size ≤ 281474976710656) (hg : w.heap[g]? = some (co s r i m)) :
    Calls Tryd.prog 64 #[.pointer (some ⟨g, 0, none⟩), .int .i64 k, .int .i64 8] w fun e w' => e = .returned (.int .i64 (sg8 (bl s) k)) ∧ w = w' :=
  SignedR s r i m g k 8 _ w (by rw [if_neg (by decide), sg8_le]) hk (.inr rfl) hs hg
end Go.Proofs.YtkfinaongajhmaaDoor.X
