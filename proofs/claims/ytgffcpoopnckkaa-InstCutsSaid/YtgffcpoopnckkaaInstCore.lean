/- The program's instructions as bytes: what its functions answer, in plain lists. -/
import Derived.Test.YtgffcpoopnckkaaLebCoreInst
import Derived.Test.YtgffcpoopnckkaaInstMath
import Derived.Test.YtgffcpoopnckkaaMIx7
namespace Go.Proofs.Ytgffcpoopnckkaa.CoreInst
open Go.RowKit Go.Proofs.Ytgffcpoopnckkaa.MI Go.Proofs.YtgffcpoopnckkaaW.PrintWords Go.Proofs.YtgffcpoopnckkaaW.PrintLast Go.Proofs.YtgffcpoopnckkaaW.PrintMore Go.Ob Go.Ob.Leb Go.Ob.Inst
set_option linter.unusedVariables false
set_option linter.unusedSimpArgs false

theorem ar_word (x : Int) : ∃ a b c, word_Arity.f x = some (a, b, c, ar x) := by
  unfold word_Arity.f word_Arity.in ar
  by_cases h1 : x = 69
  · subst h1; exact ⟨1, 0, 0, rfl⟩
  by_cases h2 : x = 80
  · subst h2; exact ⟨1, 1, 0, rfl⟩
  by_cases h3 : x = 167
  · subst h3; exact ⟨1, 1, 0, rfl⟩
  by_cases h4 : x = 172
  · subst h4; exact ⟨1, 0, 1, rfl⟩
  by_cases h5 : x = 173
  · subst h5; exact ⟨1, 0, 1, rfl⟩
  simp only [h1, h2, h3, h4, h5, if_false, or_false, decide_false, Bool.or_false, Bool.and_eq_true, decide_eq_true_eq]
  have e : ∀ (a b c : Int) (p : Prop) [Decidable p], p → ∃ a' b' c', some (a, b, c, true) = some (a', b', c', decide p) := fun a b c p _ h => ⟨a, b, c, by simp [h]⟩
  rw [show (decide (69 ≤ x ∧ x ≤ 90) || decide (106 ≤ x ∧ x ≤ 120) || decide (124 ≤ x ∧ x ≤ 138)) = decide ((70 ≤ x ∧ x ≤ 79 ∨ 106 ≤ x ∧ x ≤ 120) ∨ (81 ≤ x ∧ x ≤ 90) ∨ (124 ≤ x ∧ x ≤ 138)) by
    rw [Bool.eq_iff_iff]; simp only [Bool.or_eq_true, decide_eq_true_eq]; omega]
  by_cases c1 : (70 ≤ x ∧ x ≤ 79 ∨ 106 ≤ x ∧ x ≤ 120)
  · rw [if_pos c1]; exact e _ _ _ _ (.inl c1)
  rw [if_neg c1]
  by_cases c2 : (81 ≤ x ∧ x ≤ 90)
  · rw [if_pos c2]; exact e _ _ _ _ (.inr (.inl c2))
  rw [if_neg c2]
  by_cases c3 : (124 ≤ x ∧ x ≤ 138)
  · rw [if_pos c3]; exact e _ _ _ _ (.inr (.inr c3))
  rw [if_neg c3]
  exact ⟨0, 0, 0, by simp [c1, c2, c3]⟩

set_option maxHeartbeats 4000000 in
theorem Kind_eq (x : Int) (k : Nat) (hk : 10 ≤ k) : inst_Kind.f k x = some (kd x) := by
  obtain ⟨k, rfl⟩ : ∃ m, k = m + 5 := ⟨k - 5, by omega⟩
  by_cases h1 : x = 2
  · subst h1; rfl
  by_cases h2 : x = 3
  · subst h2; rfl
  by_cases h3 : x = 4
  · subst h3; rfl
  by_cases h4 : x = 12
  · subst h4; rfl
  by_cases h5 : x = 13
  · subst h5; rfl
  by_cases h6 : x = 16
  · subst h6; rfl
  by_cases h7 : x = 32
  · subst h7; rfl
  by_cases h8 : x = 33
  · subst h8; rfl
  by_cases h9 : x = 34
  · subst h9; rfl
  by_cases h10 : x = 35
  · subst h10; rfl
  by_cases h11 : x = 36
  · subst h11; rfl
  by_cases h12 : x = 40
  · subst h12; rfl
  by_cases h13 : x = 41
  · subst h13; rfl
  by_cases h14 : x = 54
  · subst h14; rfl
  by_cases h15 : x = 55
  · subst h15; rfl
  by_cases h16 : x = 65
  · subst h16; rfl
  by_cases h17 : x = 66
  · subst h17; rfl
  by_cases h18 : x = 0
  · subst h18; rfl
  by_cases h19 : x = 1
  · subst h19; rfl
  by_cases h20 : x = 5
  · subst h20; rfl
  by_cases h21 : x = 11
  · subst h21; rfl
  by_cases h22 : x = 15
  · subst h22; rfl
  by_cases h23 : x = 26
  · subst h23; rfl
  by_cases h24 : x = 27
  · subst h24; rfl
  by_cases h25 : x = 240
  · subst h25; rfl
  by_cases h26 : x = 241
  · subst h26; rfl
  obtain ⟨a, b, c, hw⟩ := ar_word x
  have e : ∀ y : Int, x ≠ y → (x == y) = false := fun y h => by simp [h]
  simp only [inst_Kind.f, inst_Kind.j0, inst_Kind.j1, inst_Kind.j2, inst_Kind.j3, if_neg h1, if_neg h2, if_neg h3, if_neg h4, if_neg h5, if_neg h6, if_neg h7, if_neg h8, if_neg h9, if_neg h10, if_neg h11, if_neg h12, if_neg h13, if_neg h14, if_neg h15, if_neg h16, if_neg h17, if_neg h18, if_neg h19, if_neg h20, if_neg h21, if_neg h22, if_neg h23, if_neg h24, if_neg h25, if_neg h26,
    e 4 h3, e 36 h11, e 55 h15, e 241 h26, Bool.false_eq_true, if_false, hw, Option.bind_some]
  have hkd : kd x = if ar x = true then 1 else 0 := by
    unfold kd
    rw [if_neg (by omega), if_neg (by omega), if_neg (by omega), if_neg (by omega), if_neg (by omega), if_neg (by omega)]
  rw [hkd]
  split <;> rfl

theorem Right_eq (op n m : Int) (k : Nat) (hk : 10 ≤ k) : inst_Right.f k op n m = some (rt op n m) := by
  unfold inst_Right.f rt inst_Right.lo inst_Right.hi inst_Right.top
  rw [Kind_eq op k hk, Option.bind_some]
  rcases kd_cases op with h | h | h | h | h | h | h <;> rw [h]
  · rfl
  all_goals
    simp only [show ¬ ((1 : Int) = 0) by decide, show ¬ ((2 : Int) = 0) by decide, show ¬ ((3 : Int) = 0) by decide, show ¬ ((4 : Int) = 0) by decide, show ¬ ((5 : Int) = 0) by decide, show ¬ ((6 : Int) = 0) by decide, if_false]
    refine congrArg some ?_
    rw [Bool.eq_iff_iff]
    simp only [Bool.and_eq_true, decide_eq_true_eq, reduceCtorEq, Int.reduceEq, if_true, if_false, ge_iff_le]
    omega

theorem one_byte (x : Int) : ∀ b ∈ [x % 256], 0 ≤ b ∧ b < 256 := by intro b hb; simp at hb; omega
theorem strOf_bl {l : List Int} {s : ByteArray} (h : bl s = l) : s = strOfNums l := by rw [← h, num_bl]
theorem bytesOf_eq (s : ByteArray) : bytesOf s = bl s := rfl

theorem Bytes_ok (op n m : Int) (hn0 : -9223372036854775808 ≤ n) (hn1 : n ≤ 9223372036854775807) (h : rt op n m = true) (k : Nat) (hk : 20 ≤ k) : inst_Bytes.f k op n m = some (strOfNums (enc op n m), 0) := by
  obtain ⟨k, rfl⟩ : ∃ j, k = j + 3 := ⟨k - 3, by omega⟩
  have k0 : kd op ≠ 0 := by intro k0; unfold rt at h; rw [if_pos k0] at h; cases h
  have ho := kd_byte op k0
  have hr := Right_eq op n m (k + 3) (by omega)
  have hS := S_eq n hn0 hn1 (k + 2) (by omega)
  have hSl := encS_len64 hn0 hn1
  have bS := bl_S n
  have hop : op % 256 = op := by omega
  unfold inst_Bytes.f
  rw [hr, h, Kind_eq op (k + 3) (by omega)]
  simp only [Option.bind_some, if_true, hop]
  unfold rt at h
  rw [if_neg k0] at h
  rcases kd_cases op with e | e | e | e | e | e | e
  · exact absurd e k0
  all_goals simp only [e, Int.reduceEq, reduceCtorEq, if_true, if_false, Bool.and_eq_true, decide_eq_true_eq] at h
  all_goals simp only [enc, e, Int.reduceEq, reduceCtorEq, if_true, if_false, or_false, or_true, false_or, true_or]
  · simp [inst_Bytes.j0]
  · obtain ⟨rfl, h0, h4⟩ := h
    by_cases hm : m = 0
    · subst hm; simp
    · rw [if_neg hm, if_pos (by simp)]
      rw [wrap_in (x := 127 - m) (by omega) (by omega), wrap_in (by omega) (by omega), show (127 - m + 1) % 256 = 128 - m by omega, if_neg hm]
      rfl
  · have hU := U_pos n (by omega) (by omega) (k + 2) (by omega)
    have hUl := encU_len63 (n := n.toNat) (by omega)
    have bU := bl_U n.toNat
    simp only [inst_Bytes.j1, hU, Option.bind_some]
    rw [if_pos (by rw [← bl_length, bU]; simp; omega), bytesOf_eq, bU]
    rfl
  · have hU := U_pos n (by omega) (by omega) (k + 2) (by omega)
    have hUl := encU_len63 (n := n.toNat) (by omega)
    have bU := bl_U n.toNat
    have em : encU m.toNat = [m % 256] := by rw [encU_lt (by omega)]; congr 1; omega
    rw [if_pos (by simp)]
    simp only [inst_Bytes.j1, hU, Option.bind_some]
    rw [if_pos (by rw [← bl_length, bU]; simp; omega), bytesOf_eq, bU, em]
    rfl
  · simp only [inst_Bytes.j0, hS, Option.bind_some, beq_self_eq_true, if_true]
    rw [if_pos (by rw [← bl_length, bS]; simp; omega), bytesOf_eq, bS]
    rfl
  · simp only [inst_Bytes.j0, hS, Option.bind_some, beq_self_eq_true, if_true]
    rw [if_pos (by rw [← bl_length, bS]; simp; omega), bytesOf_eq, bS]
    rfl
theorem Bytes_no (op n m : Int) (h : rt op n m = false) (k : Nat) (hk : 20 ≤ k) : inst_Bytes.f k op n m = some ((⟨#[]⟩ : ByteArray), 4) := by
  unfold inst_Bytes.f
  rw [Right_eq op n m k (by omega), h]
  rfl

/-- what the program reads -/
def tk (l : List Int) : Int × Int × Int × ByteArray × Int := match take l with | none => (0, 0, 0, (⟨#[]⟩ : ByteArray), 6) | some (op, n, m, r) => (op, n, m, strOfNums r, 0)
theorem Take_eq (s : ByteArray) (k : Nat) (hk : 30 ≤ k) : inst_Take.f k s = some (tk (bl s)) := by
  obtain ⟨k, rfl⟩ : ∃ j, k = j + 4 := ⟨k - 4, by omega⟩
  cases hl : bl s with
  | nil =>
    have : s.toList = ([] : List UInt8) := (toList_iff_lit s []).mpr (by rw [hl]; rfl)
    unfold inst_Take.f
    rw [if_pos this]
    rfl
  | cons b l =>
    have hsz : s.size = l.length + 1 := by rw [← bl_length, hl]; rfl
    have hb := bl_bytes s b (by rw [hl]; simp)
    have hbt : bt s 0 = b := by
      have := bt_eq s 0 (by omega)
      simp only [hl] at this
      exact this
    have hr : s.extract 1 s.size = strOfNums l := by rw [rest_eq, hl]; rfl
    have hlb : ∀ c ∈ l, 0 ≤ c ∧ c < 256 := fun c hc => bl_bytes s c (by rw [hl]; simp [hc])
    have hbl : bl (strOfNums l) = l := bl_num l hlb
    have hne : s.toList ≠ ([] : List UInt8) := fun h => by rw [toList_iff_lit, hl] at h; cases h
    unfold inst_Take.f
    rw [if_neg hne, if_pos (by omega), if_pos (by omega), hbt, wrap_in (by omega) (by omega), Kind_eq b _ (by omega), hr]
    simp only [Option.bind_some]
    unfold tk take
    simp only []
    rcases kd_cases b with e | e | e | e | e | e | e <;> rw [e] <;> simp only [Int.reduceEq, reduceCtorEq, if_true, if_false]
    · simp [inst_Take.j2]
    · simp [inst_Take.j2]
    · cases l with
      | nil =>
        rw [if_pos ((toList_iff_lit _ []).mpr (by rw [hbl]; rfl))]
      | cons c l =>
        have hc := hlb c (by simp)
        have hs2 : (strOfNums (c :: l)).size = l.length + 1 := by rw [← bl_length, hbl]; rfl
        have hbt1 : bt (strOfNums (c :: l)) 0 = c := by
          have := bt_eq (strOfNums (c :: l)) 0 (by omega)
          simp only [hbl] at this
          exact this
        have hbt2 : bt s 1 = c := by
          have := bt_eq s 1 (by simp only [List.length_cons] at hsz; omega)
          simp only [hl] at this
          exact this
        have hr2 : (strOfNums (c :: l)).extract 1 (strOfNums (c :: l)).size = strOfNums l := by rw [rest_eq, hbl]; rfl
        have hs2n : (1 : Int) ≤ ((strOfNums (c :: l)).size : Int) := by omega
        have hszn : (1 : Int) < (s.size : Int) := by simp only [List.length_cons] at hsz; omega
        rw [if_neg (fun h => by rw [toList_iff_lit, hbl] at h; cases h), if_pos (by omega), hbt1]
        simp only [inst_Take.j0, inst_Take.j1, inst_Take.j2, hbt2, hr2]
        rw [if_pos (show (1 : Int) ≤ ((strOfNums (c :: l)).size : Int) by omega), if_pos (show (1 : Int) < (s.size : Int) by simp only [List.length_cons] at hsz; omega)]
        by_cases hc64 : c = 64
        · subst hc64; simp
        · rw [if_neg hc64, if_neg hc64, wrap_in (x := c) (by omega) (by omega), wrap_in (x := 127 - c) (by omega) (by omega), wrap_in (by omega) (by omega), show 127 - c + 1 = 128 - c by omega]
          by_cases h1 : 128 - c < 0
          · rw [if_pos h1, if_neg (show ¬ (1 ≤ 128 - c ∧ 128 - c ≤ 4) by omega)]; simp [hs2n, hszn]
          · rw [if_neg h1]
            by_cases h2 : 128 - c > 4
            · rw [if_pos h2, if_neg (show ¬ (1 ≤ 128 - c ∧ 128 - c ≤ 4) by omega)]; simp [hs2n, hszn]
            · rw [if_neg h2]
              by_cases h3 : 128 - c = 0
              · rw [if_pos h3, if_neg (show ¬ (1 ≤ 128 - c ∧ 128 - c ≤ 4) by omega)]
                simp [hc64, hs2n, hszn]
              · rw [if_neg h3, if_pos (show 1 ≤ 128 - c ∧ 128 - c ≤ 4 by omega)]
                simp [hs2n, hszn]
    · rw [TakeU_eq _ 32 (by decide) (by decide) _ (by omega), hbl]
      simp only [Option.bind_some, inst_Take.j2]
      split <;> simp
    · rw [TakeU_eq _ 1 (by decide) (by decide) _ (by omega), hbl]
      simp only [Option.bind_some, inst_Take.j2]
      by_cases he : (takeU l 1).2.2 = 0
      · rw [if_pos he, if_pos he]
        have hl2 : ∀ c ∈ (takeU l 1).2.1, 0 ≤ c ∧ c < 256 := fun c hc => hlb c (by rw [← (takeU_off l hlb 1 he).2.2.2]; simp [hc])
        rw [TakeU_eq _ 32 (by decide) (by decide) _ (by omega), bl_num _ hl2]
        simp only [Option.bind_some]
        split <;> simp
      · rw [if_neg he, if_neg he, if_neg he]
    · rw [TakeS_eq _ 32 (by decide) (by decide) _ (by omega), hbl]
      simp only [Option.bind_some, inst_Take.j2]
      split <;> simp
    · rw [TakeS_eq _ 64 (by decide) (by decide) _ (by omega), hbl]
      simp only [Option.bind_some, inst_Take.j2]
      split <;> simp
end Go.Proofs.Ytgffcpoopnckkaa.CoreInst
