/- The machine's instructions of chapter 11: what the reference takes bytes for: plain, no program. -/
import Derived.Test.YtkfinaongajhmaaDoorXBack
namespace Go.Ob.Xc
open Go
set_option linter.unusedVariables false
set_option linter.unusedSimpArgs false
def gno (w : Bool) : XI × Bool := (⟨0, w, 0, 0, 0, 0, 0⟩, false)
def gfar (w : Bool) (op : Int) (t : List Int) (r m : Int) : XI × Bool :=
  if op = 175 then (⟨6, w, r, m, 0, 0, 0⟩, true)
  else if 144 ≤ op ∧ op < 160 then (⟨13, w, 0, 0, 0, op - 144, 0⟩, true)
  else if op = 182 then (⟨14, w, 0, 0, 0, 0, 0⟩, true)
  else if 64 ≤ op ∧ op < 80 then (⟨15, w, r, m, 0, op - 64, 0⟩, true)
  else if 128 ≤ op ∧ op < 144 then (if t.length < 4 then gno w else (⟨18, w, 0, 0, 0, op - 128, sg4 t 0⟩, true))
  else if op = 11 then (⟨22, w, 0, 0, 0, 0, 0⟩, true)
  else gno w
def gone (w : Bool) (op : Int) (t : List Int) (i base md r m : Int) : XI × Bool :=
  if op = 137 ∧ md = 3 then (⟨1, w, r, m, 0, 0, 0⟩, true)
  else if (op = 139 ∨ op = 137) ∧ md = 2 then
    (if t.length < 6 then gno w else (⟨if op = 137 then 12 else 11, w, r, lw t 1 base, if rg t 1 i + 1 = 5 then 0 else rg t 1 i + 1, 0, sg4 t 2⟩, true))
  else if 184 ≤ op ∧ op < 192 then (if t.length < 8 then gno w else (⟨2, w, op - 184 + base, 0, 0, 0, sg8 t 0⟩, true))
  else if op < 64 ∧ op % 8 = 1 then (⟨3, w, r, m, 0, op / 8, 0⟩, true)
  else if op = 129 then (if t.length < 5 then gno w else (⟨4, w, 0, m, 0, r, sg4 t 1⟩, true))
  else if op = 133 then (⟨5, w, r, m, 0, 0, 0⟩, true)
  else if op = 211 then (⟨7, w, 0, m, 0, r, 0⟩, true)
  else if op = 247 ∧ r = 6 then (⟨8, w, 0, m, 0, 0, 0⟩, true)
  else if op = 247 then (⟨9, w, 0, m, 0, 0, 0⟩, true)
  else if op = 153 then (⟨10, w, 0, 0, 0, 0, 0⟩, true)
  else if op = 99 then (⟨16, w, r, m, 0, 0, 0⟩, true)
  else if op = 233 ∨ op = 232 then (if t.length < 4 then gno w else (⟨if op = 232 then 19 else 17, w, 0, 0, 0, 0, sg4 t 0⟩, true))
  else if op = 195 then (⟨20, w, 0, 0, 0, 0, 0⟩, true)
  else if op = 244 then (⟨21, w, 0, 0, 0, 0, 0⟩, true)
  else if op = 204 then (⟨23, w, 0, 0, 0, 0, 0⟩, true)
  else gno w
def gr (t : List Int) (r : Int) : Int := if t = [] then 0 else at0 t 0 / 8 % 8 + r
def gl (t : List Int) (m : Int) : Int := if t = [] then 0 else at0 t 0 % 8 + m
def gm (t : List Int) : Int := if t = [] then 0 else at0 t 0 / 64
def gbody (l : List Int) (w : Bool) (r i m : Int) : XI × Bool :=
  if l = [] then gno w
  else if at0 l 0 = 15 then (if l.length < 2 then gno w else gfar w (at0 l 1) (l.drop 2) (gr (l.drop 2) r) (gl (l.drop 2) m))
  else gone w (at0 l 0) (l.drop 1) i m (gm (l.drop 1)) (gr (l.drop 1) r) (gl (l.drop 1) m)
def gcand (l : List Int) : XI × Bool :=
  if at0 l 0 / 16 = 4 then gbody l.tail (decide (at0 l 0 / 8 % 2 = 1)) (at0 l 0 / 4 % 2 * 8) (at0 l 0 / 2 % 2 * 8) (at0 l 0 % 2 * 8)
  else gbody l false 0 0 0
theorem gcand_rex (w : Bool) (r i b : Int) (hr : 0 ≤ r ∧ r ≤ 15) (hi : 0 ≤ i ∧ i ≤ 15) (hb : 0 ≤ b ∧ b ≤ 15) (t : List Int) (ht : at0 t 0 / 16 ≠ 4) :
    gcand (rexL w r i b ++ t) = gbody t w (r / 8 * 8) (i / 8 * 8) (b / 8 * 8) := by
  unfold rexL
  split
  · rename_i h
    unfold rexN at h
    have hw : w = false := by
      cases w with
      | false => rfl
      | true => simp at h; omega
    subst hw
    simp at h
    rw [List.nil_append]
    unfold gcand
    rw [if_neg ht, show r / 8 * 8 = 0 by omega, show i / 8 * 8 = 0 by omega, show b / 8 * 8 = 0 by omega]
  · have e0 : at0 (rexN w r i b :: t) 0 = rexN w r i b := rfl
    show gcand (rexN w r i b :: t) = _
    unfold gcand
    rw [e0, List.tail_cons]
    have h4 : rexN w r i b / 16 = 4 := by unfold rexN; cases w <;> simp <;> omega
    have hw : decide (rexN w r i b / 8 % 2 = 1) = w := by
      unfold rexN
      cases w with
      | false => exact decide_eq_false (by simp; omega)
      | true => exact decide_eq_true (by simp; omega)
    have h1 : rexN w r i b / 4 % 2 * 8 = r / 8 * 8 := by unfold rexN; cases w <;> simp <;> omega
    have h2 : rexN w r i b / 2 % 2 * 8 = i / 8 * 8 := by unfold rexN; cases w <;> simp <;> omega
    have h3 : rexN w r i b % 2 * 8 = b / 8 * 8 := by unfold rexN; cases w <;> simp <;> omega
    rw [if_pos h4, hw, h1, h2, h3]
theorem gcand_bare (t : List Int) (ht : at0 t 0 / 16 ≠ 4) : gcand t = gbody t false 0 0 0 := by unfold gcand; rw [if_neg ht]
theorem gr_mr (m r b : Int) (l : List Int) : gr (mr m r b :: l) (r / 8 * 8) = r := by
  unfold gr
  rw [if_neg (by simp), at_0, mr_reg, up8]
theorem gr_mr0 (m r b : Int) (l : List Int) : gr (mr m r b :: l) 0 = r % 8 := by
  unfold gr
  rw [if_neg (by simp), at_0, mr_reg, Int.add_zero]
theorem gl_mr (m r b : Int) (l : List Int) : gl (mr m r b :: l) (b / 8 * 8) = b := by
  unfold gl
  rw [if_neg (by simp), at_0, mr_rm, up8]
theorem gm_mr (m r b : Int) (l : List Int) : gm (mr m r b :: l) = m := by
  unfold gm
  rw [if_neg (by simp), at_0, mr_mod]
theorem kf2 (n : Nat) : (n + 1 + 1 < 2) ↔ False := by simp
theorem kf3 (n : Nat) : (n + 1 + 1 + 1 < 2) ↔ False := ⟨fun h => by omega, False.elim⟩
theorem kf4 (n : Nat) : (4 + n < 4) ↔ False := ⟨fun h => by omega, False.elim⟩
theorem kf5 (n : Nat) : (4 + n + 1 < 5) ↔ False := ⟨fun h => by omega, False.elim⟩
theorem kf6 (n : Nat) : (4 + n + 1 + 1 < 6) ↔ False := ⟨fun h => by omega, False.elim⟩
theorem ix_back5 {i : Int} (h : idx i = true) : (if ix i + 1 = 5 then 0 else ix i + 1) = i := by
  have := idx_iff.mp h
  unfold ix
  split
  · omega
  · rw [if_neg (by omega)]; omega
theorem le4_len (n : Int) : (le4 n).length = 4 := rfl
theorem le8_len (n : Int) : (le8 n).length = 8 := rfl
theorem sg_0 (n : Int) (l : List Int) (h : word n = true) : sg4 (le4 n ++ l) 0 = n := le4_sg n h _ 0 rfl rfl rfl rfl
theorem sg8_0 (n : Int) (l : List Int) (h : -9223372036854775808 ≤ n ∧ n ≤ 9223372036854775807) : sg8 (le8 n ++ l) 0 = n := le8_sg n h _ 0 rfl rfl rfl rfl rfl rfl rfl rfl
theorem gcand_enc (x : XI) (rest : List Int) (h : right x = true) (hn : -9223372036854775808 ≤ x.n ∧ x.n ≤ 9223372036854775807) : gcand (enc x ++ rest) = (x, true) := by
  obtain ⟨op, w, r, b, i, c, n⟩ := x
  have z15 : (0 : Int) ≤ 0 ∧ (0 : Int) ≤ 15 := by decide
  rcases right_cases h with ⟨h0, hr, hb, hi, hc, h5⟩ | ⟨h0, hr, hb, hw, hi, hc, h5⟩ | ⟨h0, hr, hw, hb, hi, hc⟩ | ⟨h0, hb, hc, h5, hr, hi⟩ | ⟨h0, hr, hb, hc, hi, h5⟩ | ⟨h0, hb, hc, hr, hi, h5⟩ | ⟨h0, hb, hr, hi, hc, h5⟩ | ⟨h0, hr, hb, hi, hc, h5⟩ | ⟨h0, hr, hb, hi, h5, hc⟩ | ⟨h0, hr, hb, hc, hi, h5⟩ | ⟨h0, hc, h5, hw, hr, hb, hi⟩ | ⟨h0, hc, hw, hr, hb, hi, h5⟩ | ⟨h0, h5, hw, hr, hb, hi, hc⟩ | ⟨h0, hw, hr, hb, hi, hc, h5⟩
  all_goals (try dsimp only at h0; try dsimp only at hr; try dsimp only at hb; try dsimp only at hi; try dsimp only at hc; try dsimp only at hn; try dsimp only at h5)
  -- 1, 5, 6
  · subst hi hc h5
    rcases h0 with rfl | rfl | rfl
    · show gcand (rexL w r 0 b ++ [137, mr 3 r b] ++ rest) = _
      rw [List.append_assoc, gcand_rex w r 0 b (reg_iff.mp hr) z15 (reg_iff.mp hb) _ (by show (137 : Int) / 16 ≠ 4; decide)]
      show gbody (137 :: mr 3 r b :: rest) w _ _ _ = _
      simp [gbody, gone, gr_mr, gr_mr0, gl_mr, gm_mr, le4_len, kf2, kf3, kf4, kf5, kf6, at_0, at_1, mr_mod, rg1, lw1]
    · show gcand (rexL w r 0 b ++ [133, mr 3 r b] ++ rest) = _
      rw [List.append_assoc, gcand_rex w r 0 b (reg_iff.mp hr) z15 (reg_iff.mp hb) _ (by show (133 : Int) / 16 ≠ 4; decide)]
      show gbody (133 :: mr 3 r b :: rest) w _ _ _ = _
      simp [gbody, gone, gr_mr, gr_mr0, gl_mr, gm_mr, le4_len, kf2, kf3, kf4, kf5, kf6, at_0, at_1, mr_mod, rg1, lw1]
    · show gcand (rexL w r 0 b ++ [15, 175, mr 3 r b] ++ rest) = _
      rw [List.append_assoc, gcand_rex w r 0 b (reg_iff.mp hr) z15 (reg_iff.mp hb) _ (by show (15 : Int) / 16 ≠ 4; decide)]
      show gbody (15 :: 175 :: mr 3 r b :: rest) w _ _ _ = _
      simp [gbody, gfar, gr_mr, gr_mr0, gl_mr, gm_mr, le4_len, kf2, kf3, kf4, kf5, kf6, at_0, at_1, mr_mod, rg2, lw2]
  -- 16
  · dsimp only at hw
    subst h0 hi hc h5 hw
    show gcand (rexL true r 0 b ++ [99, mr 3 r b] ++ rest) = _
    rw [List.append_assoc, gcand_rex true r 0 b (reg_iff.mp hr) z15 (reg_iff.mp hb) _ (by show (99 : Int) / 16 ≠ 4; decide)]
    show gbody (99 :: mr 3 r b :: rest) true _ _ _ = _
    simp [gbody, gone, gr_mr, gr_mr0, gl_mr, gm_mr, le4_len, kf2, kf3, kf4, kf5, kf6, at_0, at_1, mr_mod, rg1, lw1]
  -- 2
  · dsimp only at hw
    subst h0 hb hi hc hw
    have hr' := reg_iff.mp hr
    show gcand (rexL true 0 0 r ++ [184 + r % 8] ++ le8 n ++ rest) = _
    rw [List.append_assoc, List.append_assoc, gcand_rex true 0 0 r z15 z15 hr' _ (by show (184 + r % 8) / 16 ≠ 4; omega)]
    show gbody ((184 + r % 8) :: (le8 n ++ rest)) true _ _ _ = _
    unfold gbody
    rw [if_neg (by simp), if_neg (by rw [at_0]; omega), at_0]
    show gone true (184 + r % 8) (le8 n ++ rest) _ _ _ _ _ = _
    unfold gone
    rw [if_neg (by omega), if_neg (by omega), if_pos (by omega), if_neg (by rw [List.length_append, le8_len]; omega), sg8_0 _ _ hn, show 184 + r % 8 - 184 + r / 8 * 8 = r by omega]
  -- 4
  · subst h0 hr hi
    show gcand (rexL w 0 0 b ++ [129, mr 3 c b] ++ le4 n ++ rest) = _
    rw [List.append_assoc, List.append_assoc, gcand_rex w 0 0 b z15 z15 (reg_iff.mp hb) _ (by show (129 : Int) / 16 ≠ 4; decide)]
    show gbody (129 :: mr 3 c b :: (le4 n ++ rest)) w _ _ _ = _
    have hc' : c % 8 = c := by have := alu_iff.mp hc; omega
    simp [gbody, gone, gr_mr, gr_mr0, gl_mr, gm_mr, le4_len, kf2, kf3, kf4, kf5, kf6, at_0, at_1, mr_mod, mr_reg, lw1, sg_2 _ _ _ _ h5, sg_1 _ _ _ h5, sg_0 _ _ h5, hc']
  -- 3
  · subst h0 hi h5
    show gcand (rexL w r 0 b ++ [8 * c + 1, mr 3 r b] ++ rest) = _
    have hc' := alu_iff.mp hc
    rw [List.append_assoc, gcand_rex w r 0 b (reg_iff.mp hr) z15 (reg_iff.mp hb) _ (by show (8 * c + 1) / 16 ≠ 4; omega)]
    show gbody ((8 * c + 1) :: mr 3 r b :: rest) w _ _ _ = _
    have : c = 0 ∨ c = 1 ∨ c = 4 ∨ c = 5 ∨ c = 6 ∨ c = 7 := by omega
    rcases this with rfl | rfl | rfl | rfl | rfl | rfl <;> simp [gbody, gone, gr_mr, gr_mr0, gl_mr, gm_mr, le4_len, kf2, kf3, kf4, kf5, kf6, at_0, at_1, mr_mod, rg1, lw1]
  -- 7
  · subst h0 hr hi h5
    show gcand (rexL w 0 0 b ++ [211, mr 3 c b] ++ rest) = _
    rw [List.append_assoc, gcand_rex w 0 0 b z15 z15 (reg_iff.mp hb) _ (by show (211 : Int) / 16 ≠ 4; decide)]
    show gbody (211 :: mr 3 c b :: rest) w _ _ _ = _
    have hc' : c % 8 = c := by have := shf_iff.mp hc; omega
    simp [gbody, gone, gr_mr, gr_mr0, gl_mr, gm_mr, le4_len, kf2, kf3, kf4, kf5, kf6, at_0, at_1, mr_mod, mr_reg, lw1, hc']
  -- 8, 9
  · subst hr hi hc h5
    rcases h0 with rfl | rfl
    · show gcand (rexL w 0 0 b ++ [247, mr 3 6 b] ++ rest) = _
      rw [List.append_assoc, gcand_rex w 0 0 b z15 z15 (reg_iff.mp hb) _ (by show (247 : Int) / 16 ≠ 4; decide)]
      show gbody (247 :: mr 3 6 b :: rest) w _ _ _ = _
      simp [gbody, gone, gr_mr, gr_mr0, gl_mr, gm_mr, le4_len, kf2, kf3, kf4, kf5, kf6, at_0, at_1, mr_mod, mr_reg, lw1]
    · show gcand (rexL w 0 0 b ++ [247, mr 3 7 b] ++ rest) = _
      rw [List.append_assoc, gcand_rex w 0 0 b z15 z15 (reg_iff.mp hb) _ (by show (247 : Int) / 16 ≠ 4; decide)]
      show gbody (247 :: mr 3 7 b :: rest) w _ _ _ = _
      simp [gbody, gone, gr_mr, gr_mr0, gl_mr, gm_mr, le4_len, kf2, kf3, kf4, kf5, kf6, at_0, at_1, mr_mod, mr_reg, lw1]
  -- 10
  · subst h0 hr hb hi hc h5
    show gcand (rexL w 0 0 0 ++ [153] ++ rest) = _
    rw [List.append_assoc, gcand_rex w 0 0 0 z15 z15 z15 _ (by show (153 : Int) / 16 ≠ 4; decide)]
    show gbody (153 :: rest) w _ _ _ = _
    simp [gbody, gone, gr_mr, gr_mr0, gl_mr, gm_mr, le4_len, kf2, kf3, kf4, kf5, kf6, at_0]
  -- 11, 12
  · subst hc
    rcases h0 with rfl | rfl
    · show gcand (rexL w r (ix i) b ++ [139, mr 2 r 4, mr 0 (ix i) b] ++ le4 n ++ rest) = _
      rw [List.append_assoc, List.append_assoc, gcand_rex w r (ix i) b (reg_iff.mp hr) (ix_bd hi) (reg_iff.mp hb) _ (by show (139 : Int) / 16 ≠ 4; decide)]
      show gbody (139 :: mr 2 r 4 :: mr 0 (ix i) b :: (le4 n ++ rest)) w _ _ _ = _
      simp [gbody, gone, gr_mr, gr_mr0, gl_mr, gm_mr, le4_len, kf2, kf3, kf4, kf5, kf6, at_0, at_1, mr_mod, rg1, rg2, lw2, sg_2 _ _ _ _ h5, sg_3 _ _ _ _ _ h5, ix_back5 hi, lw1]
    · show gcand (rexL w r (ix i) b ++ [137, mr 2 r 4, mr 0 (ix i) b] ++ le4 n ++ rest) = _
      rw [List.append_assoc, List.append_assoc, gcand_rex w r (ix i) b (reg_iff.mp hr) (ix_bd hi) (reg_iff.mp hb) _ (by show (137 : Int) / 16 ≠ 4; decide)]
      show gbody (137 :: mr 2 r 4 :: mr 0 (ix i) b :: (le4 n ++ rest)) w _ _ _ = _
      simp [gbody, gone, gr_mr, gr_mr0, gl_mr, gm_mr, le4_len, kf2, kf3, kf4, kf5, kf6, at_0, at_1, mr_mod, rg1, rg2, lw2, sg_2 _ _ _ _ h5, sg_3 _ _ _ _ _ h5, ix_back5 hi, lw1]
  -- 15
  · subst h0 hi h5
    show gcand (rexL w r 0 b ++ [15, 64 + c, mr 3 r b] ++ rest) = _
    rw [List.append_assoc, gcand_rex w r 0 b (reg_iff.mp hr) z15 (reg_iff.mp hb) _ (by show (15 : Int) / 16 ≠ 4; decide)]
    show gbody (15 :: (64 + c) :: mr 3 r b :: rest) w _ _ _ = _
    have : c = 2 ∨ c = 3 ∨ c = 4 ∨ c = 5 ∨ c = 6 ∨ c = 7 ∨ c = 12 ∨ c = 13 ∨ c = 14 ∨ c = 15 := by have := cnd_iff.mp hc; omega
    rcases this with rfl | rfl | rfl | rfl | rfl | rfl | rfl | rfl | rfl | rfl <;> simp [gbody, gfar, gr_mr, gr_mr0, gl_mr, gm_mr, le4_len, kf2, kf3, kf4, kf5, kf6, at_0, at_1, mr_mod, rg2, lw2]
  -- 18
  · dsimp only at hw
    subst h0 hw hr hb hi
    show gcand ([15, 128 + c] ++ le4 n ++ rest) = _
    rw [List.append_assoc, gcand_bare _ (by show (15 : Int) / 16 ≠ 4; decide)]
    show gbody (15 :: (128 + c) :: (le4 n ++ rest)) false _ _ _ = _
    have : c = 2 ∨ c = 3 ∨ c = 4 ∨ c = 5 ∨ c = 6 ∨ c = 7 ∨ c = 12 ∨ c = 13 ∨ c = 14 ∨ c = 15 := by have := cnd_iff.mp hc; omega
    rcases this with rfl | rfl | rfl | rfl | rfl | rfl | rfl | rfl | rfl | rfl <;> simp [gbody, gfar, gr_mr, gr_mr0, gl_mr, gm_mr, le4_len, kf2, kf3, kf4, kf5, kf6, at_0, at_1, sg_2 _ _ _ _ h5, sg_1 _ _ _ h5, sg_0 _ _ h5]
  -- 13
  · dsimp only at hw
    subst h0 hw hr hb hi h5
    show gcand ([15, 144 + c, 192] ++ rest) = _
    rw [gcand_bare _ (by show (15 : Int) / 16 ≠ 4; decide)]
    show gbody (15 :: (144 + c) :: 192 :: rest) false _ _ _ = _
    have : c = 2 ∨ c = 3 ∨ c = 4 ∨ c = 5 ∨ c = 6 ∨ c = 7 ∨ c = 12 ∨ c = 13 ∨ c = 14 ∨ c = 15 := by have := cnd_iff.mp hc; omega
    rcases this with rfl | rfl | rfl | rfl | rfl | rfl | rfl | rfl | rfl | rfl <;> simp [gbody, gfar, gr_mr, gr_mr0, gl_mr, gm_mr, le4_len, kf2, kf3, kf4, kf5, kf6, at_0, at_1]
  -- 17, 19
  · dsimp only at hw
    subst hw hr hb hi hc
    rcases h0 with rfl | rfl
    · show gcand ([233] ++ le4 n ++ rest) = _
      rw [List.append_assoc, gcand_bare _ (by show (233 : Int) / 16 ≠ 4; decide)]
      show gbody (233 :: (le4 n ++ rest)) false _ _ _ = _
      simp [gbody, gone, gr_mr, gr_mr0, gl_mr, gm_mr, le4_len, kf2, kf3, kf4, kf5, kf6, at_0, sg_1 _ _ _ h5, sg_0 _ _ h5]
    · show gcand ([232] ++ le4 n ++ rest) = _
      rw [List.append_assoc, gcand_bare _ (by show (232 : Int) / 16 ≠ 4; decide)]
      show gbody (232 :: (le4 n ++ rest)) false _ _ _ = _
      simp [gbody, gone, gr_mr, gr_mr0, gl_mr, gm_mr, le4_len, kf2, kf3, kf4, kf5, kf6, at_0, sg_1 _ _ _ h5, sg_0 _ _ h5]
  -- 14, 20, 21, 22, 23
  · dsimp only at hw
    subst hw hr hb hi hc h5
    rcases h0 with rfl | rfl | rfl | rfl | rfl
    · show gcand (15 :: 182 :: 192 :: rest) = _
      rw [gcand_bare _ (by show (15 : Int) / 16 ≠ 4; decide)]
      simp [gbody, gfar, gr_mr, gr_mr0, gl_mr, gm_mr, le4_len, kf2, kf3, kf4, kf5, kf6, at_0, at_1]
    · show gcand (195 :: rest) = _
      rw [gcand_bare _ (by show (195 : Int) / 16 ≠ 4; decide)]
      simp [gbody, gone, gr_mr, gr_mr0, gl_mr, gm_mr, le4_len, kf2, kf3, kf4, kf5, kf6, at_0]
    · show gcand (244 :: rest) = _
      rw [gcand_bare _ (by show (244 : Int) / 16 ≠ 4; decide)]
      simp [gbody, gone, gr_mr, gr_mr0, gl_mr, gm_mr, le4_len, kf2, kf3, kf4, kf5, kf6, at_0]
    · show gcand (15 :: 11 :: rest) = _
      rw [gcand_bare _ (by show (15 : Int) / 16 ≠ 4; decide)]
      simp [gbody, gfar, gr_mr, gr_mr0, gl_mr, gm_mr, le4_len, kf2, kf3, kf4, kf5, kf6, at_0, at_1]
    · show gcand (204 :: rest) = _
      rw [gcand_bare _ (by show (204 : Int) / 16 ≠ 4; decide)]
      simp [gbody, gone, gr_mr, gr_mr0, gl_mr, gm_mr, le4_len, kf2, kf3, kf4, kf5, kf6, at_0]
end Go.Ob.Xc
