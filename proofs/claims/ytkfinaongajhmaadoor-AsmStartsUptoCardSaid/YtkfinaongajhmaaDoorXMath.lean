/- The machine's instructions of chapter 11 as lists of bytes, and how they are read again: plain, no program. -/
import Derived.Test.YtkfinaongajhmaaDoorText
import Derived.Test.YtkfinaongajhmaaDoorBits
namespace Go.Ob.Xc
open Go
set_option linter.unusedVariables false
set_option linter.unusedSimpArgs false
structure XI where
  op : Int
  wide : Bool
  r : Int
  b : Int
  i : Int
  c : Int
  n : Int
theorem XI.ext' {x y : XI} (h1 : x.op = y.op) (h2 : x.wide = y.wide) (h3 : x.r = y.r) (h4 : x.b = y.b) (h5 : x.i = y.i) (h6 : x.c = y.c) (h7 : x.n = y.n) : x = y := by
  cases x; cases y; simp_all
def xz : XI := ⟨0, false, 0, 0, 0, 0, 0⟩
/-- REX: the byte ahead, or none -/
def rexN (w : Bool) (r i b : Int) : Int := 64 + (if w then 8 else 0) + 4 * (r / 8) + 2 * (i / 8) + b / 8
def rexL (w : Bool) (r i b : Int) : List Int := if rexN w r i b = 64 then [] else [rexN w r i b]
def mr (m r b : Int) : Int := 64 * m + 8 * (r % 8) + b % 8
def le4 (n : Int) : List Int := [n % 256, n / 256 % 256, n / 65536 % 256, n / 16777216 % 256]
def le8 (n : Int) : List Int := le4 n ++ [n / 4294967296 % 256, n / 1099511627776 % 256, n / 281474976710656 % 256, n / 72057594037927936 % 256]
def word (n : Int) : Bool := decide (-2147483648 ≤ n ∧ n ≤ 2147483647)
def reg (n : Int) : Bool := decide (0 ≤ n ∧ n ≤ 15)
def cnd (c : Int) : Bool := decide ((2 ≤ c ∧ c ≤ 7) ∨ (12 ≤ c ∧ c ≤ 15))
def alu (c : Int) : Bool := decide (c = 0 ∨ c = 1 ∨ (4 ≤ c ∧ c ≤ 7))
def shf (c : Int) : Bool := decide (c = 0 ∨ c = 1 ∨ c = 4 ∨ c = 5 ∨ c = 7)
def idx (i : Int) : Bool := decide (0 ≤ i ∧ i ≤ 16 ∧ i ≠ 5)
/-- what an index is in the bytes -/
def ix (i : Int) : Int := if i = 0 then 4 else i - 1
/-- is it an instruction? -/
def right (x : XI) : Bool :=
  if x.op = 1 ∨ x.op = 5 ∨ x.op = 6 then reg x.r && reg x.b && decide (x.i = 0 ∧ x.c = 0 ∧ x.n = 0)
  else if x.op = 16 then reg x.r && reg x.b && decide (x.wide = true ∧ x.i = 0 ∧ x.c = 0 ∧ x.n = 0)
  else if x.op = 2 then reg x.r && decide (x.wide = true ∧ x.b = 0 ∧ x.i = 0 ∧ x.c = 0)
  else if x.op = 4 then reg x.b && alu x.c && word x.n && decide (x.r = 0 ∧ x.i = 0)
  else if x.op = 3 then reg x.r && reg x.b && alu x.c && decide (x.i = 0 ∧ x.n = 0)
  else if x.op = 7 then reg x.b && shf x.c && decide (x.r = 0 ∧ x.i = 0 ∧ x.n = 0)
  else if x.op = 8 ∨ x.op = 9 then reg x.b && decide (x.r = 0 ∧ x.i = 0 ∧ x.c = 0 ∧ x.n = 0)
  else if x.op = 10 then decide (x.r = 0 ∧ x.b = 0 ∧ x.i = 0 ∧ x.c = 0 ∧ x.n = 0)
  else if x.op = 11 ∨ x.op = 12 then reg x.r && reg x.b && idx x.i && word x.n && decide (x.c = 0)
  else if x.op = 15 then reg x.r && reg x.b && cnd x.c && decide (x.i = 0 ∧ x.n = 0)
  else if x.op = 18 then cnd x.c && word x.n && decide (x.wide = false ∧ x.r = 0 ∧ x.b = 0 ∧ x.i = 0)
  else if x.op = 13 then cnd x.c && decide (x.wide = false ∧ x.r = 0 ∧ x.b = 0 ∧ x.i = 0 ∧ x.n = 0)
  else if x.op = 17 ∨ x.op = 19 then word x.n && decide (x.wide = false ∧ x.r = 0 ∧ x.b = 0 ∧ x.i = 0 ∧ x.c = 0)
  else if x.op = 14 ∨ x.op = 20 ∨ x.op = 21 ∨ x.op = 22 ∨ x.op = 23 then decide (x.wide = false ∧ x.r = 0 ∧ x.b = 0 ∧ x.i = 0 ∧ x.c = 0 ∧ x.n = 0)
  else false
/-- its bytes -/
def enc (x : XI) : List Int :=
  if x.op = 1 then rexL x.wide x.r 0 x.b ++ [137, mr 3 x.r x.b]
  else if x.op = 2 then rexL true 0 0 x.r ++ [184 + x.r % 8] ++ le8 x.n
  else if x.op = 3 then rexL x.wide x.r 0 x.b ++ [8 * x.c + 1, mr 3 x.r x.b]
  else if x.op = 4 then rexL x.wide 0 0 x.b ++ [129, mr 3 x.c x.b] ++ le4 x.n
  else if x.op = 5 then rexL x.wide x.r 0 x.b ++ [133, mr 3 x.r x.b]
  else if x.op = 6 then rexL x.wide x.r 0 x.b ++ [15, 175, mr 3 x.r x.b]
  else if x.op = 7 then rexL x.wide 0 0 x.b ++ [211, mr 3 x.c x.b]
  else if x.op = 8 then rexL x.wide 0 0 x.b ++ [247, mr 3 6 x.b]
  else if x.op = 9 then rexL x.wide 0 0 x.b ++ [247, mr 3 7 x.b]
  else if x.op = 10 then rexL x.wide 0 0 0 ++ [153]
  else if x.op = 11 then rexL x.wide x.r (ix x.i) x.b ++ [139, mr 2 x.r 4, mr 0 (ix x.i) x.b] ++ le4 x.n
  else if x.op = 12 then rexL x.wide x.r (ix x.i) x.b ++ [137, mr 2 x.r 4, mr 0 (ix x.i) x.b] ++ le4 x.n
  else if x.op = 13 then [15, 144 + x.c, 192]
  else if x.op = 14 then [15, 182, 192]
  else if x.op = 15 then rexL x.wide x.r 0 x.b ++ [15, 64 + x.c, mr 3 x.r x.b]
  else if x.op = 16 then rexL x.wide x.r 0 x.b ++ [99, mr 3 x.r x.b]
  else if x.op = 17 then [233] ++ le4 x.n
  else if x.op = 18 then [15, 128 + x.c] ++ le4 x.n
  else if x.op = 19 then [232] ++ le4 x.n
  else if x.op = 20 then [195]
  else if x.op = 21 then [244]
  else if x.op = 22 then [15, 11]
  else [204]
/-- byte k of some, or nought -/
def at0 (l : List Int) (k : Nat) : Int := l.getD k 0
def num4 (l : List Int) (k : Nat) : Int := at0 l k + 256 * at0 l (k + 1) + 65536 * at0 l (k + 2) + 16777216 * at0 l (k + 3)
def sg4 (l : List Int) (k : Nat) : Int := if num4 l k < 2147483648 then num4 l k else num4 l k - 4294967296
def num8 (l : List Int) (k : Nat) : Int := num4 l k + 4294967296 * num4 l (k + 4)
def sg8 (l : List Int) (k : Nat) : Int := if num8 l k < 9223372036854775808 then num8 l k else num8 l k - 18446744073709551616
def rg (l : List Int) (k : Nat) (r : Int) : Int := at0 l k / 8 % 8 + r
def lw (l : List Int) (k : Nat) (m : Int) : Int := at0 l k % 8 + m
/-- what the bytes behind 0F would be -/
def two (l : List Int) (w : Bool) (r m : Int) : XI :=
  if at0 l 1 = 175 then ⟨6, w, rg l 2 r, lw l 2 m, 0, 0, 0⟩
  else if at0 l 1 = 182 then ⟨14, w, 0, 0, 0, 0, 0⟩
  else if at0 l 1 = 11 then ⟨22, w, 0, 0, 0, 0, 0⟩
  else if at0 l 1 / 16 = 9 then ⟨13, w, 0, 0, 0, at0 l 1 % 16, 0⟩
  else if at0 l 1 / 16 = 8 then ⟨18, w, 0, 0, 0, at0 l 1 % 16, sg4 l 2⟩
  else if at0 l 1 / 16 = 4 then ⟨15, w, rg l 2 r, lw l 2 m, 0, at0 l 1 % 16, 0⟩
  else xz
/-- what other bytes would be -/
def one (l : List Int) (w : Bool) (r i m : Int) : XI :=
  if at0 l 0 = 137 ∧ at0 l 1 / 64 = 3 then ⟨1, w, rg l 1 r, lw l 1 m, 0, 0, 0⟩
  else if at0 l 0 = 137 then ⟨12, w, rg l 1 r, lw l 2 m, if rg l 2 i = 4 then 0 else rg l 2 i + 1, 0, sg4 l 3⟩
  else if at0 l 0 = 139 then ⟨11, w, rg l 1 r, lw l 2 m, if rg l 2 i = 4 then 0 else rg l 2 i + 1, 0, sg4 l 3⟩
  else if at0 l 0 / 8 = 23 then ⟨2, w, lw l 0 m, 0, 0, 0, sg8 l 1⟩
  else if at0 l 0 < 64 ∧ at0 l 0 % 8 = 1 then ⟨3, w, rg l 1 r, lw l 1 m, 0, at0 l 0 / 8, 0⟩
  else if at0 l 0 = 129 then ⟨4, w, 0, lw l 1 m, 0, at0 l 1 / 8 % 8, sg4 l 2⟩
  else if at0 l 0 = 133 then ⟨5, w, rg l 1 r, lw l 1 m, 0, 0, 0⟩
  else if at0 l 0 = 211 then ⟨7, w, 0, lw l 1 m, 0, at0 l 1 / 8 % 8, 0⟩
  else if at0 l 0 = 247 then ⟨if at0 l 1 / 8 % 8 = 7 then 9 else 8, w, 0, lw l 1 m, 0, 0, 0⟩
  else if at0 l 0 = 99 then ⟨16, w, rg l 1 r, lw l 1 m, 0, 0, 0⟩
  else if at0 l 0 = 153 then ⟨10, w, 0, 0, 0, 0, 0⟩
  else if at0 l 0 = 233 then ⟨17, w, 0, 0, 0, 0, sg4 l 1⟩
  else if at0 l 0 = 232 then ⟨19, w, 0, 0, 0, 0, sg4 l 1⟩
  else if at0 l 0 = 195 then ⟨20, w, 0, 0, 0, 0, 0⟩
  else if at0 l 0 = 244 then ⟨21, w, 0, 0, 0, 0, 0⟩
  else if at0 l 0 = 204 then ⟨23, w, 0, 0, 0, 0, 0⟩
  else ⟨0, w, 0, 0, 0, 0, 0⟩
def body (l : List Int) (w : Bool) (r i m : Int) : XI := if at0 l 0 = 15 then two l w r m else one l w r i m
/-- what bytes would be -/
def cand (l : List Int) : XI :=
  if at0 l 0 / 16 = 4 then body l.tail (decide (at0 l 0 / 8 % 2 = 1)) (at0 l 0 / 4 % 2 * 8) (at0 l 0 / 2 % 2 * 8) (at0 l 0 % 2 * 8)
  else body l false 0 0 0
/-- what they are -/
def dec (l : List Int) : Option (XI × Nat) := if right (cand l) = true ∧ enc (cand l) <+: l then some (cand l, (enc (cand l)).length) else none
theorem le4_sg (n : Int) (h : word n = true) (l : List Int) (k : Nat) (h0 : at0 l k = n % 256) (h1 : at0 l (k + 1) = n / 256 % 256) (h2 : at0 l (k + 2) = n / 65536 % 256) (h3 : at0 l (k + 3) = n / 16777216 % 256) : sg4 l k = n := by
  unfold word at h
  have h := of_decide_eq_true h
  unfold sg4 num4
  rw [h0, h1, h2, h3]
  split <;> omega
theorem le8_sg (n : Int) (hn : -9223372036854775808 ≤ n ∧ n ≤ 9223372036854775807) (l : List Int) (k : Nat) (h0 : at0 l k = n % 256) (h1 : at0 l (k + 1) = n / 256 % 256) (h2 : at0 l (k + 2) = n / 65536 % 256) (h3 : at0 l (k + 3) = n / 16777216 % 256)
    (h4 : at0 l (k + 4) = n / 4294967296 % 256) (h5 : at0 l (k + 4 + 1) = n / 1099511627776 % 256) (h6 : at0 l (k + 4 + 2) = n / 281474976710656 % 256) (h7 : at0 l (k + 4 + 3) = n / 72057594037927936 % 256) : sg8 l k = n := by
  unfold sg8 num8 num4
  rw [h0, h1, h2, h3, h4, h5, h6, h7]
  split <;> omega
theorem mr_mod (m r b : Int) : mr m r b / 64 = m := by unfold mr; omega
theorem mr_reg (m r b : Int) : mr m r b / 8 % 8 = r % 8 := by unfold mr; omega
theorem mr_rm (m r b : Int) : mr m r b % 8 = b % 8 := by unfold mr; omega
theorem up8 (r : Int) : r % 8 + r / 8 * 8 = r := by omega
theorem at_0 (a : Int) (l : List Int) : at0 (a :: l) 0 = a := rfl
theorem at_1 (a b : Int) (l : List Int) : at0 (a :: b :: l) 1 = b := rfl
theorem at_2 (a b c : Int) (l : List Int) : at0 (a :: b :: c :: l) 2 = c := rfl
theorem at_s (a : Int) (l : List Int) (k : Nat) : at0 (a :: l) (k + 1) = at0 l k := rfl
theorem cand_rex (w : Bool) (r i b : Int) (hr : 0 ≤ r ∧ r ≤ 15) (hi : 0 ≤ i ∧ i ≤ 15) (hb : 0 ≤ b ∧ b ≤ 15) (t : List Int) (ht : at0 t 0 / 16 ≠ 4) :
    cand (rexL w r i b ++ t) = body t w (r / 8 * 8) (i / 8 * 8) (b / 8 * 8) := by
  unfold rexL
  split
  · rename_i h
    unfold rexN at h
    have hw : w = false := by
      cases w with
      | false => rfl
      | true => simp at h; omega
    subst hw
    simp at h
    rw [List.nil_append]
    unfold cand
    rw [if_neg ht, show r / 8 * 8 = 0 by omega, show i / 8 * 8 = 0 by omega, show b / 8 * 8 = 0 by omega]
  · have e0 : at0 (rexN w r i b :: t) 0 = rexN w r i b := rfl
    show cand (rexN w r i b :: t) = _
    unfold cand
    rw [e0, List.tail_cons]
    have h4 : rexN w r i b / 16 = 4 := by unfold rexN; cases w <;> simp <;> omega
    have hw : decide (rexN w r i b / 8 % 2 = 1) = w := by
      unfold rexN
      cases w with
      | false => exact decide_eq_false (by simp; omega)
      | true => exact decide_eq_true (by simp; omega)
    have h1 : rexN w r i b / 4 % 2 * 8 = r / 8 * 8 := by unfold rexN; cases w <;> simp <;> omega
    have h2 : rexN w r i b / 2 % 2 * 8 = i / 8 * 8 := by unfold rexN; cases w <;> simp <;> omega
    have h3 : rexN w r i b % 2 * 8 = b / 8 * 8 := by unfold rexN; cases w <;> simp <;> omega
    rw [if_pos h4, hw, h1, h2, h3]
theorem cand_bare (t : List Int) (ht : at0 t 0 / 16 ≠ 4) : cand t = body t false 0 0 0 := by unfold cand; rw [if_neg ht]
theorem reg_iff {n : Int} : reg n = true ↔ 0 ≤ n ∧ n ≤ 15 := by unfold reg; exact decide_eq_true_iff
theorem cnd_iff {c : Int} : cnd c = true ↔ (2 ≤ c ∧ c ≤ 7) ∨ (12 ≤ c ∧ c ≤ 15) := by unfold cnd; exact decide_eq_true_iff
theorem alu_iff {c : Int} : alu c = true ↔ c = 0 ∨ c = 1 ∨ (4 ≤ c ∧ c ≤ 7) := by unfold alu; exact decide_eq_true_iff
theorem shf_iff {c : Int} : shf c = true ↔ c = 0 ∨ c = 1 ∨ c = 4 ∨ c = 5 ∨ c = 7 := by unfold shf; exact decide_eq_true_iff
theorem idx_iff {i : Int} : idx i = true ↔ 0 ≤ i ∧ i ≤ 16 ∧ i ≠ 5 := by unfold idx; exact decide_eq_true_iff
theorem word_iff {n : Int} : word n = true ↔ -2147483648 ≤ n ∧ n ≤ 2147483647 := by unfold word; exact decide_eq_true_iff
/-- the kinds of a right instruction -/
theorem right_cases {x : XI} (h : right x = true) :
    ((x.op = 1 ∨ x.op = 5 ∨ x.op = 6) ∧ reg x.r = true ∧ reg x.b = true ∧ x.i = 0 ∧ x.c = 0 ∧ x.n = 0) ∨ (x.op = 16 ∧ reg x.r = true ∧ reg x.b = true ∧ x.wide = true ∧ x.i = 0 ∧ x.c = 0 ∧ x.n = 0) ∨
    (x.op = 2 ∧ reg x.r = true ∧ x.wide = true ∧ x.b = 0 ∧ x.i = 0 ∧ x.c = 0) ∨ (x.op = 4 ∧ reg x.b = true ∧ alu x.c = true ∧ word x.n = true ∧ x.r = 0 ∧ x.i = 0) ∨
    (x.op = 3 ∧ reg x.r = true ∧ reg x.b = true ∧ alu x.c = true ∧ x.i = 0 ∧ x.n = 0) ∨ (x.op = 7 ∧ reg x.b = true ∧ shf x.c = true ∧ x.r = 0 ∧ x.i = 0 ∧ x.n = 0) ∨
    ((x.op = 8 ∨ x.op = 9) ∧ reg x.b = true ∧ x.r = 0 ∧ x.i = 0 ∧ x.c = 0 ∧ x.n = 0) ∨ (x.op = 10 ∧ x.r = 0 ∧ x.b = 0 ∧ x.i = 0 ∧ x.c = 0 ∧ x.n = 0) ∨
    ((x.op = 11 ∨ x.op = 12) ∧ reg x.r = true ∧ reg x.b = true ∧ idx x.i = true ∧ word x.n = true ∧ x.c = 0) ∨ (x.op = 15 ∧ reg x.r = true ∧ reg x.b = true ∧ cnd x.c = true ∧ x.i = 0 ∧ x.n = 0) ∨
    (x.op = 18 ∧ cnd x.c = true ∧ word x.n = true ∧ x.wide = false ∧ x.r = 0 ∧ x.b = 0 ∧ x.i = 0) ∨ (x.op = 13 ∧ cnd x.c = true ∧ x.wide = false ∧ x.r = 0 ∧ x.b = 0 ∧ x.i = 0 ∧ x.n = 0) ∨
    ((x.op = 17 ∨ x.op = 19) ∧ word x.n = true ∧ x.wide = false ∧ x.r = 0 ∧ x.b = 0 ∧ x.i = 0 ∧ x.c = 0) ∨
    ((x.op = 14 ∨ x.op = 20 ∨ x.op = 21 ∨ x.op = 22 ∨ x.op = 23) ∧ x.wide = false ∧ x.r = 0 ∧ x.b = 0 ∧ x.i = 0 ∧ x.c = 0 ∧ x.n = 0) := by
  unfold right at h
  by_cases c0 : x.op = 1 ∨ x.op = 5 ∨ x.op = 6
  · rw [if_pos c0] at h
    simp only [Bool.and_eq_true, decide_eq_true_eq] at h
    exact .inl ⟨c0, h.1.1, h.1.2, h.2⟩
  rw [if_neg c0] at h
  by_cases c1 : x.op = 16
  · rw [if_pos c1] at h
    simp only [Bool.and_eq_true, decide_eq_true_eq] at h
    exact .inr (.inl ⟨c1, h.1.1, h.1.2, h.2⟩)
  rw [if_neg c1] at h
  by_cases c2 : x.op = 2
  · rw [if_pos c2] at h
    simp only [Bool.and_eq_true, decide_eq_true_eq] at h
    exact .inr (.inr (.inl ⟨c2, h.1, h.2⟩))
  rw [if_neg c2] at h
  by_cases c3 : x.op = 4
  · rw [if_pos c3] at h
    simp only [Bool.and_eq_true, decide_eq_true_eq] at h
    exact .inr (.inr (.inr (.inl ⟨c3, h.1.1.1, h.1.1.2, h.1.2, h.2⟩)))
  rw [if_neg c3] at h
  by_cases c4 : x.op = 3
  · rw [if_pos c4] at h
    simp only [Bool.and_eq_true, decide_eq_true_eq] at h
    exact .inr (.inr (.inr (.inr (.inl ⟨c4, h.1.1.1, h.1.1.2, h.1.2, h.2⟩))))
  rw [if_neg c4] at h
  by_cases c5 : x.op = 7
  · rw [if_pos c5] at h
    simp only [Bool.and_eq_true, decide_eq_true_eq] at h
    exact .inr (.inr (.inr (.inr (.inr (.inl ⟨c5, h.1.1, h.1.2, h.2⟩)))))
  rw [if_neg c5] at h
  by_cases c6 : x.op = 8 ∨ x.op = 9
  · rw [if_pos c6] at h
    simp only [Bool.and_eq_true, decide_eq_true_eq] at h
    exact .inr (.inr (.inr (.inr (.inr (.inr (.inl ⟨c6, h.1, h.2⟩))))))
  rw [if_neg c6] at h
  by_cases c7 : x.op = 10
  · rw [if_pos c7] at h
    simp only [Bool.and_eq_true, decide_eq_true_eq] at h
    exact .inr (.inr (.inr (.inr (.inr (.inr (.inr (.inl ⟨c7, h⟩)))))))
  rw [if_neg c7] at h
  by_cases c8 : x.op = 11 ∨ x.op = 12
  · rw [if_pos c8] at h
    simp only [Bool.and_eq_true, decide_eq_true_eq] at h
    exact .inr (.inr (.inr (.inr (.inr (.inr (.inr (.inr (.inl ⟨c8, h.1.1.1.1, h.1.1.1.2, h.1.1.2, h.1.2, h.2⟩))))))))
  rw [if_neg c8] at h
  by_cases c9 : x.op = 15
  · rw [if_pos c9] at h
    simp only [Bool.and_eq_true, decide_eq_true_eq] at h
    exact .inr (.inr (.inr (.inr (.inr (.inr (.inr (.inr (.inr (.inl ⟨c9, h.1.1.1, h.1.1.2, h.1.2, h.2⟩)))))))))
  rw [if_neg c9] at h
  by_cases c10 : x.op = 18
  · rw [if_pos c10] at h
    simp only [Bool.and_eq_true, decide_eq_true_eq] at h
    exact .inr (.inr (.inr (.inr (.inr (.inr (.inr (.inr (.inr (.inr (.inl ⟨c10, h.1.1, h.1.2, h.2⟩))))))))))
  rw [if_neg c10] at h
  by_cases c11 : x.op = 13
  · rw [if_pos c11] at h
    simp only [Bool.and_eq_true, decide_eq_true_eq] at h
    exact .inr (.inr (.inr (.inr (.inr (.inr (.inr (.inr (.inr (.inr (.inr (.inl ⟨c11, h.1, h.2⟩)))))))))))
  rw [if_neg c11] at h
  by_cases c12 : x.op = 17 ∨ x.op = 19
  · rw [if_pos c12] at h
    simp only [Bool.and_eq_true, decide_eq_true_eq] at h
    exact .inr (.inr (.inr (.inr (.inr (.inr (.inr (.inr (.inr (.inr (.inr (.inr (.inl ⟨c12, h.1, h.2⟩))))))))))))
  rw [if_neg c12] at h
  by_cases c13 : x.op = 14 ∨ x.op = 20 ∨ x.op = 21 ∨ x.op = 22 ∨ x.op = 23
  · rw [if_pos c13] at h
    simp only [Bool.and_eq_true, decide_eq_true_eq] at h
    exact .inr (.inr (.inr (.inr (.inr (.inr (.inr (.inr (.inr (.inr (.inr (.inr (.inr (⟨c13, h⟩)))))))))))))
  rw [if_neg c13] at h
  cases h
end Go.Ob.Xc
