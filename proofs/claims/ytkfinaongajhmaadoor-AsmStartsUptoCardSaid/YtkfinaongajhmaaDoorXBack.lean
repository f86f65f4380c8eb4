/- The machine's instructions of chapter 11: what was written is read as it was: plain, no program. -/
import Derived.Test.YtkfinaongajhmaaDoorXMath
namespace Go.Ob.Xc
open Go
set_option linter.unusedVariables false
set_option linter.unusedSimpArgs false
theorem rg1 (a m r b : Int) (l : List Int) : rg (a :: mr m r b :: l) 1 (r / 8 * 8) = r := by
  unfold rg
  rw [at_1, mr_reg, up8]
theorem lw1 (a m r b : Int) (l : List Int) : lw (a :: mr m r b :: l) 1 (b / 8 * 8) = b := by
  unfold lw
  rw [at_1, mr_rm, up8]
theorem rg2 (a a' m r b : Int) (l : List Int) : rg (a :: a' :: mr m r b :: l) 2 (r / 8 * 8) = r := by
  unfold rg
  rw [at_2, mr_reg, up8]
theorem lw2 (a a' m r b : Int) (l : List Int) : lw (a :: a' :: mr m r b :: l) 2 (b / 8 * 8) = b := by
  unfold lw
  rw [at_2, mr_rm, up8]
theorem sg_1 (a n : Int) (l : List Int) (h : word n = true) : sg4 (a :: (le4 n ++ l)) 1 = n := le4_sg n h _ 1 rfl rfl rfl rfl
theorem sg_2 (a b n : Int) (l : List Int) (h : word n = true) : sg4 (a :: b :: (le4 n ++ l)) 2 = n := le4_sg n h _ 2 rfl rfl rfl rfl
theorem sg_3 (a b c n : Int) (l : List Int) (h : word n = true) : sg4 (a :: b :: c :: (le4 n ++ l)) 3 = n := le4_sg n h _ 3 rfl rfl rfl rfl
theorem sg8_1 (a n : Int) (l : List Int) (h : -9223372036854775808 ≤ n ∧ n ≤ 9223372036854775807) : sg8 (a :: (le8 n ++ l)) 1 = n := le8_sg n h _ 1 rfl rfl rfl rfl rfl rfl rfl rfl
theorem ix_bd {i : Int} (h : idx i = true) : 0 ≤ ix i ∧ ix i ≤ 15 := by
  have := idx_iff.mp h
  unfold ix
  split <;> omega
theorem ix_back {i : Int} (h : idx i = true) : (if ix i = 4 then 0 else ix i + 1) = i := by
  have := idx_iff.mp h
  unfold ix
  split
  · omega
  · rw [if_neg (by omega)]; omega
theorem cand_enc (x : XI) (rest : List Int) (h : right x = true) (hn : -9223372036854775808 ≤ x.n ∧ x.n ≤ 9223372036854775807) : cand (enc x ++ rest) = x := by
  obtain ⟨op, w, r, b, i, c, n⟩ := x
  have z15 : (0 : Int) ≤ 0 ∧ (0 : Int) ≤ 15 := by decide
  rcases right_cases h with ⟨h0, hr, hb, hi, hc, h5⟩ | ⟨h0, hr, hb, hw, hi, hc, h5⟩ | ⟨h0, hr, hw, hb, hi, hc⟩ | ⟨h0, hb, hc, h5, hr, hi⟩ | ⟨h0, hr, hb, hc, hi, h5⟩ | ⟨h0, hb, hc, hr, hi, h5⟩ | ⟨h0, hb, hr, hi, hc, h5⟩ | ⟨h0, hr, hb, hi, hc, h5⟩ | ⟨h0, hr, hb, hi, h5, hc⟩ | ⟨h0, hr, hb, hc, hi, h5⟩ | ⟨h0, hc, h5, hw, hr, hb, hi⟩ | ⟨h0, hc, hw, hr, hb, hi, h5⟩ | ⟨h0, h5, hw, hr, hb, hi, hc⟩ | ⟨h0, hw, hr, hb, hi, hc, h5⟩
  all_goals (try dsimp only at h0; try dsimp only at hr; try dsimp only at hb; try dsimp only at hi; try dsimp only at hc; try dsimp only at hn; try dsimp only at h5)
  -- 1, 5, 6
  · subst hi hc h5
    rcases h0 with rfl | rfl | rfl
    · show cand (rexL w r 0 b ++ [137, mr 3 r b] ++ rest) = _
      rw [List.append_assoc, cand_rex w r 0 b (reg_iff.mp hr) z15 (reg_iff.mp hb) _ (by show (137 : Int) / 16 ≠ 4; decide)]
      show body (137 :: mr 3 r b :: rest) w _ _ _ = _
      simp [body, one, at_0, at_1, mr_mod, rg1, lw1]
    · show cand (rexL w r 0 b ++ [133, mr 3 r b] ++ rest) = _
      rw [List.append_assoc, cand_rex w r 0 b (reg_iff.mp hr) z15 (reg_iff.mp hb) _ (by show (133 : Int) / 16 ≠ 4; decide)]
      show body (133 :: mr 3 r b :: rest) w _ _ _ = _
      simp [body, one, at_0, at_1, mr_mod, rg1, lw1]
    · show cand (rexL w r 0 b ++ [15, 175, mr 3 r b] ++ rest) = _
      rw [List.append_assoc, cand_rex w r 0 b (reg_iff.mp hr) z15 (reg_iff.mp hb) _ (by show (15 : Int) / 16 ≠ 4; decide)]
      show body (15 :: 175 :: mr 3 r b :: rest) w _ _ _ = _
      simp [body, two, at_0, at_1, mr_mod, rg2, lw2]
  -- 16
  · dsimp only at hw
    subst h0 hi hc h5 hw
    show cand (rexL true r 0 b ++ [99, mr 3 r b] ++ rest) = _
    rw [List.append_assoc, cand_rex true r 0 b (reg_iff.mp hr) z15 (reg_iff.mp hb) _ (by show (99 : Int) / 16 ≠ 4; decide)]
    show body (99 :: mr 3 r b :: rest) true _ _ _ = _
    simp [body, one, at_0, at_1, mr_mod, rg1, lw1]
  -- 2
  · dsimp only at hw
    subst h0 hb hi hc hw
    have hr' := reg_iff.mp hr
    show cand (rexL true 0 0 r ++ [184 + r % 8] ++ le8 n ++ rest) = _
    rw [List.append_assoc, List.append_assoc, cand_rex true 0 0 r z15 z15 hr' _ (by show (184 + r % 8) / 16 ≠ 4; omega)]
    show body ((184 + r % 8) :: (le8 n ++ rest)) true _ _ _ = _
    unfold body
    rw [if_neg (by rw [at_0]; omega)]
    unfold one
    rw [if_neg (by rw [at_0]; omega), if_neg (by rw [at_0]; omega), if_neg (by rw [at_0]; omega), if_pos (by rw [at_0]; omega), sg8_1 _ _ _ hn]
    unfold lw
    rw [at_0, show (184 + r % 8) % 8 + r / 8 * 8 = r by omega]
  -- 4
  · subst h0 hr hi
    show cand (rexL w 0 0 b ++ [129, mr 3 c b] ++ le4 n ++ rest) = _
    rw [List.append_assoc, List.append_assoc, cand_rex w 0 0 b z15 z15 (reg_iff.mp hb) _ (by show (129 : Int) / 16 ≠ 4; decide)]
    show body (129 :: mr 3 c b :: (le4 n ++ rest)) w _ _ _ = _
    have hc' : c % 8 = c := by have := alu_iff.mp hc; omega
    simp [body, one, at_0, at_1, mr_mod, mr_reg, lw1, sg_2 _ _ _ _ h5, hc']
  -- 3
  · subst h0 hi h5
    show cand (rexL w r 0 b ++ [8 * c + 1, mr 3 r b] ++ rest) = _
    have hc' := alu_iff.mp hc
    rw [List.append_assoc, cand_rex w r 0 b (reg_iff.mp hr) z15 (reg_iff.mp hb) _ (by show (8 * c + 1) / 16 ≠ 4; omega)]
    show body ((8 * c + 1) :: mr 3 r b :: rest) w _ _ _ = _
    have : c = 0 ∨ c = 1 ∨ c = 4 ∨ c = 5 ∨ c = 6 ∨ c = 7 := by omega
    rcases this with rfl | rfl | rfl | rfl | rfl | rfl <;> simp [body, one, at_0, at_1, mr_mod, rg1, lw1]
  -- 7
  · subst h0 hr hi h5
    show cand (rexL w 0 0 b ++ [211, mr 3 c b] ++ rest) = _
    rw [List.append_assoc, cand_rex w 0 0 b z15 z15 (reg_iff.mp hb) _ (by show (211 : Int) / 16 ≠ 4; decide)]
    show body (211 :: mr 3 c b :: rest) w _ _ _ = _
    have hc' : c % 8 = c := by have := shf_iff.mp hc; omega
    simp [body, one, at_0, at_1, mr_mod, mr_reg, lw1, hc']
  -- 8, 9
  · subst hr hi hc h5
    rcases h0 with rfl | rfl
    · show cand (rexL w 0 0 b ++ [247, mr 3 6 b] ++ rest) = _
      rw [List.append_assoc, cand_rex w 0 0 b z15 z15 (reg_iff.mp hb) _ (by show (247 : Int) / 16 ≠ 4; decide)]
      show body (247 :: mr 3 6 b :: rest) w _ _ _ = _
      simp [body, one, at_0, at_1, mr_mod, mr_reg, lw1]
    · show cand (rexL w 0 0 b ++ [247, mr 3 7 b] ++ rest) = _
      rw [List.append_assoc, cand_rex w 0 0 b z15 z15 (reg_iff.mp hb) _ (by show (247 : Int) / 16 ≠ 4; decide)]
      show body (247 :: mr 3 7 b :: rest) w _ _ _ = _
      simp [body, one, at_0, at_1, mr_mod, mr_reg, lw1]
  -- 10
  · subst h0 hr hb hi hc h5
    show cand (rexL w 0 0 0 ++ [153] ++ rest) = _
    rw [List.append_assoc, cand_rex w 0 0 0 z15 z15 z15 _ (by show (153 : Int) / 16 ≠ 4; decide)]
    show body (153 :: rest) w _ _ _ = _
    simp [body, one, at_0]
  -- 11, 12
  · subst hc
    rcases h0 with rfl | rfl
    · show cand (rexL w r (ix i) b ++ [139, mr 2 r 4, mr 0 (ix i) b] ++ le4 n ++ rest) = _
      rw [List.append_assoc, List.append_assoc, cand_rex w r (ix i) b (reg_iff.mp hr) (ix_bd hi) (reg_iff.mp hb) _ (by show (139 : Int) / 16 ≠ 4; decide)]
      show body (139 :: mr 2 r 4 :: mr 0 (ix i) b :: (le4 n ++ rest)) w _ _ _ = _
      simp [body, one, at_0, at_1, mr_mod, rg1, rg2, lw2, sg_3 _ _ _ _ _ h5, ix_back hi]
    · show cand (rexL w r (ix i) b ++ [137, mr 2 r 4, mr 0 (ix i) b] ++ le4 n ++ rest) = _
      rw [List.append_assoc, List.append_assoc, cand_rex w r (ix i) b (reg_iff.mp hr) (ix_bd hi) (reg_iff.mp hb) _ (by show (137 : Int) / 16 ≠ 4; decide)]
      show body (137 :: mr 2 r 4 :: mr 0 (ix i) b :: (le4 n ++ rest)) w _ _ _ = _
      simp [body, one, at_0, at_1, mr_mod, rg1, rg2, lw2, sg_3 _ _ _ _ _ h5, ix_back hi]
  -- 15
  · subst h0 hi h5
    show cand (rexL w r 0 b ++ [15, 64 + c, mr 3 r b] ++ rest) = _
    rw [List.append_assoc, cand_rex w r 0 b (reg_iff.mp hr) z15 (reg_iff.mp hb) _ (by show (15 : Int) / 16 ≠ 4; decide)]
    show body (15 :: (64 + c) :: mr 3 r b :: rest) w _ _ _ = _
    have : c = 2 ∨ c = 3 ∨ c = 4 ∨ c = 5 ∨ c = 6 ∨ c = 7 ∨ c = 12 ∨ c = 13 ∨ c = 14 ∨ c = 15 := by have := cnd_iff.mp hc; omega
    rcases this with rfl | rfl | rfl | rfl | rfl | rfl | rfl | rfl | rfl | rfl <;> simp [body, two, at_0, at_1, mr_mod, rg2, lw2]
  -- 18
  · dsimp only at hw
    subst h0 hw hr hb hi
    show cand ([15, 128 + c] ++ le4 n ++ rest) = _
    rw [List.append_assoc, cand_bare _ (by show (15 : Int) / 16 ≠ 4; decide)]
    show body (15 :: (128 + c) :: (le4 n ++ rest)) false _ _ _ = _
    have : c = 2 ∨ c = 3 ∨ c = 4 ∨ c = 5 ∨ c = 6 ∨ c = 7 ∨ c = 12 ∨ c = 13 ∨ c = 14 ∨ c = 15 := by have := cnd_iff.mp hc; omega
    rcases this with rfl | rfl | rfl | rfl | rfl | rfl | rfl | rfl | rfl | rfl <;> simp [body, two, at_0, at_1, sg_2 _ _ _ _ h5]
  -- 13
  · dsimp only at hw
    subst h0 hw hr hb hi h5
    show cand ([15, 144 + c, 192] ++ rest) = _
    rw [cand_bare _ (by show (15 : Int) / 16 ≠ 4; decide)]
    show body (15 :: (144 + c) :: 192 :: rest) false _ _ _ = _
    have : c = 2 ∨ c = 3 ∨ c = 4 ∨ c = 5 ∨ c = 6 ∨ c = 7 ∨ c = 12 ∨ c = 13 ∨ c = 14 ∨ c = 15 := by have := cnd_iff.mp hc; omega
    rcases this with rfl | rfl | rfl | rfl | rfl | rfl | rfl | rfl | rfl | rfl <;> simp [body, two, at_0, at_1]
  -- 17, 19
  · dsimp only at hw
    subst hw hr hb hi hc
    rcases h0 with rfl | rfl
    · show cand ([233] ++ le4 n ++ rest) = _
      rw [List.append_assoc, cand_bare _ (by show (233 : Int) / 16 ≠ 4; decide)]
      show body (233 :: (le4 n ++ rest)) false _ _ _ = _
      simp [body, one, at_0, sg_1 _ _ _ h5]
    · show cand ([232] ++ le4 n ++ rest) = _
      rw [List.append_assoc, cand_bare _ (by show (232 : Int) / 16 ≠ 4; decide)]
      show body (232 :: (le4 n ++ rest)) false _ _ _ = _
      simp [body, one, at_0, sg_1 _ _ _ h5]
  -- 14, 20, 21, 22, 23
  · dsimp only at hw
    subst hw hr hb hi hc h5
    rcases h0 with rfl | rfl | rfl | rfl | rfl
    · show cand (15 :: 182 :: 192 :: rest) = _
      rw [cand_bare _ (by show (15 : Int) / 16 ≠ 4; decide)]
      simp [body, two, at_0, at_1]
    · show cand (195 :: rest) = _
      rw [cand_bare _ (by show (195 : Int) / 16 ≠ 4; decide)]
      simp [body, one, at_0]
    · show cand (244 :: rest) = _
      rw [cand_bare _ (by show (244 : Int) / 16 ≠ 4; decide)]
      simp [body, one, at_0]
    · show cand (15 :: 11 :: rest) = _
      rw [cand_bare _ (by show (15 : Int) / 16 ≠ 4; decide)]
      simp [body, two, at_0, at_1]
    · show cand (204 :: rest) = _
      rw [cand_bare _ (by show (204 : Int) / 16 ≠ 4; decide)]
      simp [body, one, at_0]
theorem dec_enc (x : XI) (rest : List Int) (h : right x = true) (hn : -9223372036854775808 ≤ x.n ∧ x.n ≤ 9223372036854775807) : dec (enc x ++ rest) = some (x, (enc x).length) := by
  unfold dec
  rw [cand_enc x rest h hn, if_pos ⟨h, List.prefix_append _ _⟩]
theorem dec_some {l : List Int} {x : XI} {k : Nat} (h : dec l = some (x, k)) : right x = true ∧ enc x <+: l ∧ k = (enc x).length := by
  unfold dec at h
  split at h
  · rename_i hc
    simp only [Option.some.injEq, Prod.mk.injEq] at h
    obtain ⟨rfl, rfl⟩ := h
    exact ⟨hc.1, hc.2, rfl⟩
  · cases h
end Go.Ob.Xc
