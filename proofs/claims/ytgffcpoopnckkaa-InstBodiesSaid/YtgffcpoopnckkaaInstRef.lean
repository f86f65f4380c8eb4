/- The reference's instructions as bytes: what it answers, in plain lists. -/
import Derived.Test.YtgffcpoopnckkaaLebRefUSInst
import Derived.Test.YtgffcpoopnckkaaInstCore
import Derived.Test.YtgffcpoopnckkaaMIx15
namespace Go.Proofs.Ytgffcpoopnckkaa.CoreInst
open Go.RowKit Go.Proofs.Ytgffcpoopnckkaa.MI Go.Proofs.YtgffcpoopnckkaaW.PrintWords Go.Proofs.YtgffcpoopnckkaaW.PrintLast Go.Proofs.YtgffcpoopnckkaaW.PrintMore Go.Ob Go.Ob.Leb Go.Ob.Inst
set_option linter.unusedVariables false
set_option linter.unusedSimpArgs false

theorem r_ar (x : Int) (k : Nat) (hk : 10 ≤ k) : ∃ a b c, oublietteref02_Arity.f k x = some (a, b, c, ar x) := by
  obtain ⟨k, rfl⟩ : ∃ m, k = m + 5 := ⟨k - 5, by omega⟩
  by_cases g0 : x = 69
  · subst g0; exact ⟨_, _, _, rfl⟩
  by_cases g1 : x = 80
  · subst g1; exact ⟨_, _, _, rfl⟩
  by_cases g2 : x = 167
  · subst g2; exact ⟨_, _, _, rfl⟩
  by_cases g3 : x = 172
  · subst g3; exact ⟨_, _, _, rfl⟩
  by_cases g4 : x = 173
  · subst g4; exact ⟨_, _, _, rfl⟩
  simp only [oublietteref02_Arity.f, oublietteref02_Arity.j0, oublietteref02_Arity.j1, oublietteref02_Arity.j2, oublietteref02_Arity.j3, g0, g1, g2, g3, g4, if_false, Bool.false_eq_true, decide_eq_true_eq]
  have e : ar x = decide ((70 ≤ x ∧ x ≤ 79) ∨ (81 ≤ x ∧ x ≤ 90) ∨ (106 ≤ x ∧ x ≤ 120) ∨ (124 ≤ x ∧ x ≤ 138)) := by
    unfold ar
    rw [Bool.eq_iff_iff]
    simp only [Bool.or_eq_true, decide_eq_true_eq]
    omega
  rw [e]
  repeat' split
  all_goals first
    | exact ⟨_, _, _, by rw [decide_eq_true (by omega)]⟩
    | exact ⟨_, _, _, by rw [decide_eq_false (by omega)]⟩

set_option maxHeartbeats 4000000 in
theorem rKind_eq (x : Int) (k : Nat) (hk : 20 ≤ k) : oublietteref04_Kind.f k x = some (kd x) := by
  obtain ⟨k, rfl⟩ : ∃ m, k = m + 5 := ⟨k - 5, by omega⟩
  by_cases h0 : x = 0
  · subst h0; rfl
  by_cases h1 : x = 1
  · subst h1; rfl
  by_cases h2 : x = 5
  · subst h2; rfl
  by_cases h3 : x = 11
  · subst h3; rfl
  by_cases h4 : x = 15
  · subst h4; rfl
  by_cases h5 : x = 26
  · subst h5; rfl
  by_cases h6 : x = 27
  · subst h6; rfl
  by_cases h7 : x = 240
  · subst h7; rfl
  by_cases h8 : x = 241
  · subst h8; rfl
  by_cases h9 : x = 2
  · subst h9; rfl
  by_cases h10 : x = 3
  · subst h10; rfl
  by_cases h11 : x = 4
  · subst h11; rfl
  by_cases h12 : x = 12
  · subst h12; rfl
  by_cases h13 : x = 13
  · subst h13; rfl
  by_cases h14 : x = 16
  · subst h14; rfl
  by_cases h15 : x = 32
  · subst h15; rfl
  by_cases h16 : x = 33
  · subst h16; rfl
  by_cases h17 : x = 34
  · subst h17; rfl
  by_cases h18 : x = 35
  · subst h18; rfl
  by_cases h19 : x = 36
  · subst h19; rfl
  by_cases h20 : x = 40
  · subst h20; rfl
  by_cases h21 : x = 41
  · subst h21; rfl
  by_cases h22 : x = 54
  · subst h22; rfl
  by_cases h23 : x = 55
  · subst h23; rfl
  by_cases h24 : x = 65
  · subst h24; rfl
  by_cases h25 : x = 66
  · subst h25; rfl
  have e : ∀ y : Int, x ≠ y → (x == y) = false := fun y h => by simp [h]
  have hw : ∀ k', 10 ≤ k' → ∃ a b c, oublietteref02_Arity.f k' x = some (a, b, c, ar x) := fun k' => r_ar x k'
  obtain ⟨a, b, c, hw⟩ := hw (k + 1) (by omega)
  simp only [oublietteref04_Kind.f, oublietteref04_Kind.j0, oublietteref04_Kind.j1, oublietteref04_Kind.j2, oublietteref04_Kind.j3, if_neg h0, if_neg h1, if_neg h2, if_neg h3, if_neg h4, if_neg h5, if_neg h6, if_neg h7, if_neg h8, if_neg h9, if_neg h10, if_neg h11, if_neg h12, if_neg h13, if_neg h14, if_neg h15, if_neg h16, if_neg h17, if_neg h18, if_neg h19, if_neg h20, if_neg h21, if_neg h22, if_neg h23, if_neg h24, if_neg h25, e 241 h8, e 4 h11, e 36 h19, e 55 h23, Bool.false_eq_true, if_false, hw, Option.bind_some]
  have hkd : kd x = if ar x = true then 1 else 0 := by
    unfold kd
    rw [if_neg (by omega), if_neg (by omega), if_neg (by omega), if_neg (by omega), if_neg (by omega), if_neg (by omega)]
  rw [hkd]
  split <;> rfl

theorem rRight_eq (op n m : Int) (k : Nat) (hk : 30 ≤ k) : oublietteref04_Right.f k op n m = some (rt op n m) := by
  obtain ⟨k, rfl⟩ : ∃ j, k = j + 1 := ⟨k - 1, by omega⟩
  have hj : oublietteref04_Right.f (k + 1) op n m = oublietteref04_Right.j0 (k + 1) (decide (0 ≤ n) && decide (n < 4294967296)) op n m := by
    unfold oublietteref04_Right.f
    by_cases h : 0 ≤ n
    · rw [if_pos h, decide_eq_true h, Bool.true_and]
    · rw [if_neg h, decide_eq_false h, Bool.false_and]
  rw [hj]
  simp only [oublietteref04_Right.j0]
  rw [rKind_eq op k (by omega), Option.bind_some]
  unfold rt
  rcases kd_cases op with h | h | h | h | h | h | h <;> rw [h] <;> simp only [Int.reduceEq, reduceCtorEq, if_true, if_false]
  all_goals
    repeat' split
  all_goals
    clear hj
    refine congrArg some ?_
    rw [Bool.eq_iff_iff]
    simp only [Bool.and_eq_true, decide_eq_true_eq, beq_iff_eq, Bool.false_eq_true, ge_iff_le, false_iff, true_iff, iff_true, iff_false] at *
    try omega

theorem rBytes_ok (op n m : Int) (hn0 : -9223372036854775808 ≤ n) (hn1 : n ≤ 9223372036854775807) (hm0 : -9223372036854775808 ≤ m) (hm1 : m ≤ 9223372036854775807) (h : rt op n m = true) (k : Nat) (hk : 40 ≤ k) : oublietteref04_Bytes.f k op n m = some (strOfNums (enc op n m), true) := by
  have k0 : kd op ≠ 0 := by intro k0; unfold rt at h; rw [if_pos k0] at h; cases h
  have ho := kd_byte op k0
  have hr := rRight_eq op n m k (by omega)
  have hS := rS_eq n hn0 hn1 k (by omega)
  have hSl := encS_len64 hn0 hn1
  have bS := bl_S n
  have hop : op % 256 = op := by omega
  have b1 : bl (strOfNums [op]) = [op] := bl_num _ (by intro b hb; simp at hb; omega)
  have s1 : (strOfNums [op]).size = 1 := by rw [← bl_length, b1]; rfl
  have cat : ∀ (x y : List Int), (∀ b ∈ x, 0 ≤ b ∧ b < 256) → (∀ b ∈ y, 0 ≤ b ∧ b < 256) → strOfNums x ++ strOfNums y = strOfNums (x ++ y) := fun x y hx hy => bl_inj (by rw [bl_append, bl_num x hx, bl_num y hy, bl_num _ (by intro b hb; rcases List.mem_append.mp hb with hb | hb; exact hx b hb; exact hy b hb)])
  have o1 : ∀ b ∈ [op], 0 ≤ b ∧ b < 256 := by intro b hb; simp at hb; omega
  obtain ⟨un, hun, hunp⟩ : ∃ un : ByteArray × Bool, oublietteref01_U.f k n = some un ∧ (0 ≤ n → un.1 = strOfNums (encU n.toNat)) := by
    by_cases h0 : n < 0
    · exact ⟨_, rU_neg n h0 k, fun h => by omega⟩
    · exact ⟨_, rU_pos n (by omega) hn1 k (by omega), fun _ => rfl⟩
  obtain ⟨um, hum, hump⟩ : ∃ um : ByteArray × Bool, oublietteref01_U.f k m = some um ∧ (0 ≤ m → um.1 = strOfNums (encU m.toNat)) := by
    by_cases h0 : m < 0
    · exact ⟨_, rU_neg m h0 k, fun h => by omega⟩
    · exact ⟨_, rU_pos m (by omega) hm1 k (by omega), fun _ => rfl⟩
  unfold oublietteref04_Bytes.f
  rw [hr, h, rKind_eq op k (by omega), hun, hum, hS]
  simp only [Option.bind_some, if_true, hop, s1]
  unfold rt at h
  rw [if_neg k0] at h
  rcases kd_cases op with e | e | e | e | e | e | e
  · exact absurd e k0
  all_goals simp only [e, Int.reduceEq, reduceCtorEq, if_true, if_false, Bool.and_eq_true, decide_eq_true_eq] at h
  all_goals simp only [enc, e, Int.reduceEq, reduceCtorEq, if_true, if_false, or_false, or_true, false_or, true_or]
  · obtain ⟨rfl, h0, h4⟩ := h
    by_cases hm : m = 0
    · subst hm
      simp only [if_true]
      rw [if_pos (by decide), show (⟨#[64]⟩ : ByteArray) = strOfNums [64] by rfl, cat [op] [64] o1 (by simp)]
      rfl
    · rw [if_neg hm, if_neg hm]
      rw [wrap_in (x := m - 1) (by omega) (by omega), wrap_in (by omega) (by omega), show (127 - (m - 1)) % 256 = 128 - m by omega]
      have o2 : ∀ b ∈ [128 - m], 0 ≤ b ∧ b < 256 := by intro b hb; simp at hb; omega
      rw [if_pos (by rw [← bl_length, bl_num _ o2]; simp), cat [op] [128 - m] o1 o2]
      rfl
  · have hUl := encU_len63 (n := n.toNat) (by omega)
    rw [hunp (by omega), if_pos (by rw [← bl_length, bl_U]; omega), cat [op] _ o1 (encU_bytes _)]
    rfl
  · have hUl := encU_len63 (n := n.toNat) (by omega)
    have hUm := encU_len63 (n := m.toNat) (by omega)
    rw [hunp (by omega), hump (by omega), if_pos (by rw [← bl_length, bl_U]; omega), cat [op] _ o1 (encU_bytes _)]
    have o2 : ∀ b ∈ [op] ++ encU m.toNat, 0 ≤ b ∧ b < 256 := by intro b hb; rcases List.mem_append.mp hb with hb | hb; exact o1 b hb; exact encU_bytes _ b hb
    rw [if_pos (by rw [← bl_length, ← bl_length, bl_U, bl_num _ o2]; simp; omega), cat _ _ o2 (encU_bytes _), List.append_assoc]
    rfl
  · rw [if_pos (by rw [← bl_length, bS]; omega), cat [op] _ o1 (encS_bytes _)]
    rfl
  · rw [if_pos (by rw [← bl_length, bS]; omega), cat [op] _ o1 (encS_bytes _)]
    rfl
theorem rBytes_no (op n m : Int) (h : rt op n m = false) (k : Nat) (hk : 40 ≤ k) : oublietteref04_Bytes.f k op n m = some ((⟨#[]⟩ : ByteArray), false) := by
  unfold oublietteref04_Bytes.f
  rw [rRight_eq op n m k (by omega), h]
  rfl
end Go.Proofs.Ytgffcpoopnckkaa.CoreInst
