/- The reference's readers of numbers as bytes: what they answer, in plain lists. -/
import Derived.Test.YtgffcpoopnckkaaLebRefUSInst
import Derived.Test.YtgffcpoopnckkaaMIx11
import Derived.Test.YtgffcpoopnckkaaLebReadMath
namespace Go.Proofs.Ytgffcpoopnckkaa.CoreInst
open Go.RowKit Go.Proofs.Ytgffcpoopnckkaa.MI Go.Proofs.YtgffcpoopnckkaaW.PrintWords Go.Proofs.YtgffcpoopnckkaaW.PrintLast Go.Proofs.YtgffcpoopnckkaaW.PrintMore Go.Ob Go.Ob.Leb
set_option linter.unusedVariables false
theorem rlength_l0 (d : Nat) : ∀ (s : ByteArray) (i : Nat) (k : Nat), i + d = 10 → 2 * d + 2 ≤ k → i ≤ s.size →
    oublietteref01_length.l0 k s i = some (match scan d ((bl s).drop i) with | none => 0 | some j => ((i + j : Nat) : Int)) := by
  induction d with
  | zero =>
    intro s i k hi hk hs
    obtain ⟨k, rfl⟩ : ∃ m, k = m + 2 := ⟨k - 2, by omega⟩
    simp only [oublietteref01_length.l0, scan]
    rw [decide_eq_false (show ¬ ((i : Int) < 10) by omega)]
    split <;> simp only [oublietteref01_length.j1, Bool.false_eq_true, if_false]
  | succ d ih =>
    intro s i k hi hk hs
    obtain ⟨k, rfl⟩ : ∃ m, k = m + 2 := ⟨k - 2, by omega⟩
    simp only [oublietteref01_length.l0]
    by_cases hlt : i < s.size
    · have hl : i < (bl s).length := by rw [bl_length]; exact hlt
      rw [if_pos (by omega), decide_eq_true (show ((i : Int) < 10) by omega)]
      simp only [oublietteref01_length.j1, if_true]
      rw [if_pos (by omega), if_pos (by omega), bt_eq s i hlt, List.drop_eq_getElem_cons hl]
      simp only [scan]
      by_cases h128 : (bl s)[i] < 128
      · rw [if_pos h128, if_pos h128, wrap_in (by omega) (by omega)]; rfl
      · rw [if_neg h128, if_neg h128, wrap_in (by omega) (by omega), show ((i : Int) + 1) = ((i + 1 : Nat) : Int) by omega, ih s (i + 1) k (by omega) (by omega) (by omega)]
        cases scan d ((bl s).drop (i + 1)) with
        | none => rfl
        | some j => simp only [Option.map_some]; rw [show i + 1 + j = i + (j + 1) by omega]
    · rw [if_neg (by omega), List.drop_eq_nil_of_le (by rw [bl_length]; omega)]
      simp only [oublietteref01_length.j1, Bool.false_eq_true, if_false, scan]
theorem rlength_eq (s : ByteArray) (k : Nat) (hk : 22 ≤ k) : oublietteref01_length.f k s = some (match scan 10 (bl s) with | none => 0 | some j => (j : Int)) := by
  unfold oublietteref01_length.f
  have := rlength_l0 10 s 0 k (by omega) (by omega) (by omega)
  simpa using this
theorem pow_le63 (b : Nat) (hb : b ≤ 63) : (1 : Int) ≤ 2 ^ b ∧ (2 : Int) ^ b ≤ 9223372036854775808 := ⟨Int.pow_pos (by decide), pow_bits b hb⟩
theorem shl_one (b : Nat) (hb : b ≤ 63) : wrap64 (shl .i64 1 (b : Int) - 1) = 2 ^ b - 1 := by
  have hp := pow_le63 b hb
  unfold shl wrap64
  rw [show min ((b : Int)).toNat IntKind.i64.bits = b by simp [IntKind.bits]; omega, IntKind.wrap_i64, Int.one_mul]
  omega
theorem shl_neg (b : Nat) (hb : b ≤ 63) : shl .i64 (-1) (b : Int) = -(2 ^ b) := by
  have hp := pow_le63 b hb
  unfold shl
  rw [show min ((b : Int)).toNat IntKind.i64.bits = b by simp [IntKind.bits]; omega, IntKind.wrap_i64]
  omega
theorem tmod128 (x : Int) (h : 0 ≤ x) : Int.tmod x 128 = x % 128 := Int.tmod_eq_emod_of_nonneg h
theorem take_get {l : List Int} {j m : Nat} (hm : m < j) (hj : j ≤ l.length) : ∃ h : m < (l.take j).length, (l.take j)[m] = l[m] := ⟨by rw [List.length_take]; omega, by simp⟩
theorem rTakeU_l0 (s : ByteArray) (b : Nat) (hb1 : 1 ≤ b) (hb : b ≤ 63) (j : Nat) (hj1 : 1 ≤ j) (hjl : j ≤ (bl s).length) (hj10 : j ≤ 10) : ∀ (m : Nat) (k : Nat), m ≤ j → m + 10 ≤ k → valU (((bl s).take j).drop m) < 9223372036854775808 →
    oublietteref01_TakeU.l0 k s (b : Int) (j : Int) (valU (((bl s).take j).drop m)) ((m : Int) - 1) =
      some (if valU ((bl s).take j) < 2 ^ b ∧ encU (valU ((bl s).take j)).toNat = (bl s).take j then (valU ((bl s).take j), strOfNums ((bl s).drop j), 0) else (0, (⟨#[]⟩ : ByteArray), 6)) := by
  intro m
  induction m with
  | zero =>
    intro k hm hk hv
    obtain ⟨k, rfl⟩ : ∃ q, k = q + 2 := ⟨k - 2, by omega⟩
    rw [List.drop_zero] at hv ⊢
    have hV := valU_nonneg ((bl s).take j)
    simp only [oublietteref01_TakeU.l0, oublietteref01_TakeU.j2, decide_eq_true_eq, if_true]
    rw [if_neg (by omega), rU_pos _ hV (by omega) (k + 1) (by omega)]
    simp only [Option.bind_some, Int.toNat_natCast, show ((j : Int) = 0) = False from eq_false (by omega), show (0 ≤ (j : Int)) = True from eq_true (by omega), show ((j : Int) ≤ (s.size : Int)) = True from eq_true (by rw [← bl_length]; omega), show (0 ≤ (b : Int)) = True from eq_true (by omega), if_true, if_false, shl_one b (by omega)]
    have ht := txt_iff _ (form_encU (valU ((bl s).take j)).toNat).bytes s j
    by_cases he : encU (valU ((bl s).take j)).toNat = (bl s).take j
    · rw [if_pos (ht.mpr he)]
      by_cases hlt : valU ((bl s).take j) < 2 ^ b
      · rw [if_neg (show ¬ (valU ((bl s).take j) > 2 ^ b - 1) by omega), if_pos ⟨hlt, he⟩, rest_eq]
      · rw [if_pos (show valU ((bl s).take j) > 2 ^ b - 1 by omega), if_neg (fun h => hlt h.1)]
    · rw [if_neg (fun h => he (ht.mp h)), if_neg (fun h => he h.2)]
  | succ m ih =>
    intro k hm hk hv
    obtain ⟨k, rfl⟩ : ∃ q, k = q + 1 := ⟨k - 1, by omega⟩
    simp only [oublietteref01_TakeU.l0]
    rw [if_pos (by omega)]
    by_cases hbig : 72057594037927936 ≤ valU (((bl s).take j).drop (m + 1))
    · have := valU_big _ _ hbig
      have hp := pow_le63 b hb
      rw [if_pos (by omega), if_neg (by rintro ⟨h, _⟩; omega)]
    · have hn := valU_nonneg (((bl s).take j).drop (m + 1))
      obtain ⟨hml, hget⟩ := take_get (l := bl s) (j := j) (m := m) (by omega) hjl
      have hd := valU_drop hml
      rw [hget] at hd
      have hms : m < s.size := by rw [← bl_length]; omega
      have hbt := bt_eq s m hms
      have hb8 := bl_bytes s _ (List.getElem_mem (show m < (bl s).length by omega))
      rw [if_neg (by omega), if_pos (by omega), if_pos (by omega)]
      rw [show ((m + 1 : Nat) : Int) - 1 = (m : Int) by omega, hbt, tmod128 _ hb8.1, wrap_in (x := (bl s)[m] % 128) (by omega) (by omega), wrap_in (x := valU (((bl s).take j).drop (m + 1)) * 128) (by omega) (by omega), wrap_in (by omega) (by omega), wrap_in (x := (m : Int) - 1) (by omega) (by omega)]
      rw [show valU (((bl s).take j).drop (m + 1)) * 128 + (bl s)[m] % 128 = valU (((bl s).take j).drop m) by omega]
      exact ih k (by omega) (by omega) (by omega)
theorem rTakeU_eq (s : ByteArray) (bits : Int) (hb0 : -9223372036854775808 ≤ bits) (hb1 : bits ≤ 9223372036854775807) (k : Nat) (hk : 30 ≤ k) :
    oublietteref01_TakeU.f k s bits = some ((takeU (bl s) bits).1, strOfNums (takeU (bl s) bits).2.1, (takeU (bl s) bits).2.2) := by
  obtain ⟨k, rfl⟩ : ∃ m, k = m + 1 := ⟨k - 1, by omega⟩
  unfold oublietteref01_TakeU.f takeU
  by_cases hbits : bits < 1 ∨ bits > 63
  · rw [if_pos hbits]
    by_cases h1 : bits < 1
    · rw [if_pos h1]; simp only [oublietteref01_TakeU.j0, if_true]; rfl
    · rw [if_neg h1, decide_eq_true (show bits > 63 by omega)]; simp only [oublietteref01_TakeU.j0, if_true]; rfl
  · rw [if_neg hbits, if_neg (by omega), decide_eq_false (by omega)]
    simp only [oublietteref01_TakeU.j0, Bool.false_eq_true, if_false]
    rw [rlength_eq s k (by omega)]
    obtain ⟨b, rfl⟩ := Int.eq_ofNat_of_zero_le (show 0 ≤ bits by omega)
    cases hsc : scan 10 (bl s) with
    | none =>
      obtain ⟨k, rfl⟩ : ∃ m, k = m + 2 := ⟨k - 2, by omega⟩
      simp only [Option.bind_some, oublietteref01_TakeU.l0, oublietteref01_TakeU.j2]
      rw [wrap_in (by omega) (by omega), if_neg (by omega), rU_pos 0 (by omega) (by omega) (k + 1) (by omega)]
      simp only [Option.bind_some, if_true]
      rfl
    | some j =>
      obtain ⟨hf, hj1, hj10, hjl⟩ := scan_form 10 _ j (bl_bytes s) hsc
      simp only [Option.bind_some, Int.toNat_natCast]
      have hz : valU (((bl s).take j).drop j) = 0 := by rw [List.drop_eq_nil_of_le (by rw [List.length_take]; omega)]; rfl
      have := rTakeU_l0 s b (by omega) (by omega) j hj1 hjl hj10 j k (by omega) (by omega) (by omega)
      rw [hz] at this
      rw [wrap_in (by omega) (by omega), this]
      split <;> rfl
theorem div_range (n : Int) (b : Nat) (hb : b ≤ 63) (h0 : -9223372036854775808 ≤ n) (h1 : n ≤ 9223372036854775807) : (n / 2 ^ b = 0 ∨ n / 2 ^ b = -1) ↔ -(2 ^ b) ≤ n ∧ n < 2 ^ b := by
  have hp := pow_le63 b hb
  have e := Int.emod_add_mul_ediv n (2 ^ b)
  have m0 := Int.emod_nonneg n (show (2 : Int) ^ b ≠ 0 by omega)
  have m1 := Int.emod_lt_of_pos n (show (0 : Int) < 2 ^ b by omega)
  constructor
  · rintro (h | h) <;> rw [h] at e <;> omega
  · rintro ⟨g0, g1⟩
    by_cases hn : 0 ≤ n
    · exact .inl (Int.ediv_eq_zero_of_lt hn g1)
    · refine .inr ?_
      have a1 : n / 2 ^ b < 0 := Int.ediv_neg_of_neg_of_pos (by omega) (by omega)
      have a2 : -1 ≤ n / 2 ^ b := Int.le_ediv_of_mul_le (by omega) (by omega)
      omega
theorem rTakeS_j3 (s : ByteArray) (b : Nat) (hb1 : 1 ≤ b) (hb : b ≤ 64) (j : Nat) (hjl : j ≤ (bl s).length) (n : Int) (h0 : -9223372036854775808 ≤ n) (h1 : n ≤ 9223372036854775807) (k : Nat) (hk : 12 ≤ k) :
    oublietteref01_TakeS.j3 k s (b : Int) (j : Int) n =
      some (if encS n = (bl s).take j ∧ (n / 2 ^ (b - 1) = 0 ∨ n / 2 ^ (b - 1) = -1) then (n, strOfNums ((bl s).drop j), 0) else (0, (⟨#[]⟩ : ByteArray), 6)) := by
  obtain ⟨k, rfl⟩ : ∃ m, k = m + 2 := ⟨k - 2, by omega⟩
  simp only [oublietteref01_TakeS.j3, oublietteref01_TakeS.j4, decide_eq_true_eq, if_true, Bool.false_eq_true, if_false]
  rw [rS_eq n h0 h1 (k + 1) (by omega)]
  simp only [Option.bind_some, Int.toNat_natCast, show (0 ≤ (j : Int)) = True from eq_true (by omega), show ((j : Int) ≤ (s.size : Int)) = True from eq_true (by rw [← bl_length]; omega), if_true]
  have ht := txt_iff _ (form_encS n).bytes s j
  have hr := div_range n (b - 1) (by omega) h0 h1
  by_cases he : encS n = (bl s).take j
  · rw [if_pos (ht.mpr he)]
    by_cases h64 : b < 64
    · rw [if_pos (show (b : Int) < 64 by omega), wrap_in (x := (b : Int) - 1) (by omega) (by omega), if_pos (show 0 ≤ (b : Int) - 1 by omega), show (b : Int) - 1 = ((b - 1 : Nat) : Int) by omega, shl_neg (b - 1) (by omega), shl_one (b - 1) (by omega)]
      by_cases c0 : n < -(2 ^ (b - 1))
      · rw [if_pos c0, if_neg (fun h => by have := hr.mp h.2; omega)]
      · rw [if_neg c0]
        by_cases c1 : n > 2 ^ (b - 1) - 1
        · rw [if_pos c1, if_neg (fun h => by have := hr.mp h.2; omega)]
        · rw [if_neg c1, if_pos ⟨he, hr.mpr (by omega)⟩, rest_eq]
    · obtain rfl : b = 64 := by omega
      rw [if_neg (show ¬ (((64 : Nat) : Int) < 64) by omega), if_pos ⟨he, hr.mpr (by omega)⟩, rest_eq]
  · rw [if_neg (fun h => he (ht.mp h)), if_neg (fun h => he h.1)]
theorem shl_7 (j : Nat) (hj : j ≤ 9) (x : Int) : wrap64 (x - shl .i64 1 (wrap64 (7 * (j : Int)))) = w64 (x - 128 ^ j) := by
  have e : (128 : Int) ^ j = 2 ^ (7 * j) := by rw [Int.pow_mul]; rfl
  have hp := pow_le63 (7 * j) (by omega)
  rw [wrap_in (x := 7 * (j : Int)) (by omega) (by omega)]
  unfold shl
  rw [show min (7 * (j : Int)).toNat IntKind.i64.bits = 7 * j by simp [IntKind.bits]; omega, IntKind.wrap_i64, Int.one_mul, e]
  unfold w64 wrap64
  omega
theorem rTakeS_l0 (s : ByteArray) (b : Nat) (hb1 : 1 ≤ b) (hb : b ≤ 64) (j : Nat) (hj1 : 1 ≤ j) (hjl : j ≤ (bl s).length) (hj10 : j ≤ 10) (hf : Leb.Form ((bl s).take j)) : ∀ (m : Nat) (k : Nat), m ≤ j → m + 15 ≤ k →
    oublietteref01_TakeS.l0 k s (b : Int) (j : Int) (valU (((bl s).take j).drop m) % 18446744073709551616) ((m : Int) - 1) =
      some (if encS (w64 (valS ((bl s).take j))) = (bl s).take j ∧ (w64 (valS ((bl s).take j)) / 2 ^ (b - 1) = 0 ∨ w64 (valS ((bl s).take j)) / 2 ^ (b - 1) = -1) then (w64 (valS ((bl s).take j)), strOfNums ((bl s).drop j), 0) else (0, (⟨#[]⟩ : ByteArray), 6)) := by
  have hlen : ((bl s).take j).length = (j - 1) + 1 := by rw [List.length_take]; omega
  intro m
  induction m with
  | zero =>
    intro k hm hk
    obtain ⟨k, rfl⟩ : ∃ q, k = q + 2 := ⟨k - 2, by omega⟩
    rw [List.drop_zero]
    have hV := valU_nonneg ((bl s).take j)
    have hVb := valU_lt ((bl s).take j)
    rw [hlen] at hVb
    simp only [oublietteref01_TakeS.l0]
    rw [if_neg (by omega)]
    by_cases h10 : j < 10
    · rw [if_pos (by omega), wrap_in (x := (j : Int) - 1) (by omega) (by omega), if_pos (by omega), if_pos (by rw [← bl_length]; omega)]
      have hjs : j - 1 < s.size := by rw [← bl_length]; omega
      have hbt := bt_eq s (j - 1) hjs
      have hb8 := bl_bytes s _ (List.getElem_mem (show j - 1 < (bl s).length by omega))
      obtain ⟨hml, hget⟩ := take_get (l := bl s) (j := j) (m := j - 1) (by omega) hjl
      have hsg := last_sign hlen
      rw [hget] at hsg
      rw [show (j : Int) - 1 = ((j - 1 : Nat) : Int) by omega, hbt, tmod128 _ hb8.1]
      have h9 : (128 : Int) ^ ((j - 1) + 1) ≤ 128 ^ 9 := pow128_le (by omega)
      have hz : valU ((bl s).take j) % 18446744073709551616 = valU ((bl s).take j) := by omega
      have hvs := valS_by hf hlen
      simp only [oublietteref01_TakeS.j2]
      rw [hz, wrap_in (x := valU ((bl s).take j)) (by omega) (by omega)]
      by_cases hs64 : valU ((bl s).take j) < 64 * 128 ^ (j - 1)
      · rw [if_pos hs64] at hvs
        rw [decide_eq_false (fun h => hsg.mp h hs64)]
        simp only [Bool.false_eq_true, if_false]
        have hw : w64 (valS ((bl s).take j)) = valU ((bl s).take j) := by rw [hvs]; unfold w64; omega
        rw [hw]
        exact rTakeS_j3 s b hb1 hb j hjl _ (by omega) (by omega) _ (by omega)
      · rw [if_neg hs64] at hvs
        rw [decide_eq_true (show (bl s)[j - 1] % 128 ≥ 64 from hsg.mpr hs64)]
        simp only [if_true]
        rw [if_pos (by rw [wrap_in (by omega) (by omega)]; omega)]
        simp only [shl_7 j (by omega)]
        rw [hvs, show j - 1 + 1 = j by omega]
        exact rTakeS_j3 s b hb1 hb j hjl _ (w64_bounds _).1 (w64_bounds _).2 _ (by omega)
    · rw [if_neg (by omega)]
      simp only [oublietteref01_TakeS.j2, Bool.false_eq_true, if_false]
      rw [w64_eq, w64_u (j - 1) (by omega) _ hf hlen, if_neg (by omega)]
      exact rTakeS_j3 s b hb1 hb j hjl _ (w64_bounds _).1 (w64_bounds _).2 _ (by omega)
  | succ m ih =>
    intro k hm hk
    obtain ⟨k, rfl⟩ : ∃ q, k = q + 1 := ⟨k - 1, by omega⟩
    simp only [oublietteref01_TakeS.l0]
    obtain ⟨hml, hget⟩ := take_get (l := bl s) (j := j) (m := m) (by omega) hjl
    have hd := valU_drop hml
    rw [hget] at hd
    have hms : m < s.size := by rw [← bl_length]; omega
    have hbt := bt_eq s m hms
    have hb8 := bl_bytes s _ (List.getElem_mem (show m < (bl s).length by omega))
    rw [if_pos (by omega), if_pos (by omega), if_pos (by omega)]
    rw [show ((m + 1 : Nat) : Int) - 1 = (m : Int) by omega, hbt, tmod128 _ hb8.1, wrap_in (x := (m : Int) - 1) (by omega) (by omega)]
    rw [IntKind.wrap_u64, IntKind.wrap_u64, IntKind.wrap_u64]
    rw [show ((valU (((bl s).take j).drop (m + 1)) % 18446744073709551616 * 128 % 18446744073709551616 + (bl s)[m] % 128 % 18446744073709551616) % 18446744073709551616) = valU (((bl s).take j).drop m) % 18446744073709551616 by omega]
    exact ih k (by omega) (by omega)
theorem rTakeS_eq (s : ByteArray) (bits : Int) (hb0 : -9223372036854775808 ≤ bits) (hb1 : bits ≤ 9223372036854775807) (k : Nat) (hk : 40 ≤ k) :
    oublietteref01_TakeS.f k s bits = some ((takeS (bl s) bits).1, strOfNums (takeS (bl s) bits).2.1, (takeS (bl s) bits).2.2) := by
  obtain ⟨k, rfl⟩ : ∃ m, k = m + 1 := ⟨k - 1, by omega⟩
  unfold oublietteref01_TakeS.f takeS
  by_cases hbits : bits < 1 ∨ bits > 64
  · rw [if_pos hbits]
    by_cases h1 : bits < 1
    · rw [if_pos h1]; simp only [oublietteref01_TakeS.j0, if_true]; rfl
    · rw [if_neg h1, decide_eq_true (show bits > 64 by omega)]; simp only [oublietteref01_TakeS.j0, if_true]; rfl
  · rw [if_neg hbits, if_neg (by omega), decide_eq_false (by omega)]
    simp only [oublietteref01_TakeS.j0, Bool.false_eq_true, if_false]
    rw [rlength_eq s k (by omega)]
    obtain ⟨b, rfl⟩ := Int.eq_ofNat_of_zero_le (show 0 ≤ bits by omega)
    cases hsc : scan 10 (bl s) with
    | none => simp only [Option.bind_some, if_true]; rfl
    | some j =>
      obtain ⟨hf, hj1, hj10, hjl⟩ := scan_form 10 _ j (bl_bytes s) hsc
      simp only [Option.bind_some, Int.toNat_natCast]
      have hz : valU (((bl s).take j).drop j) = 0 := by rw [List.drop_eq_nil_of_le (by rw [List.length_take]; omega)]; rfl
      have := rTakeS_l0 s b (by omega) (by omega) j hj1 hjl hj10 hf j k (by omega) (by omega)
      rw [hz, Int.zero_emod] at this
      rw [if_neg (by omega), wrap_in (by omega) (by omega), this]
      split <;> rfl
end Go.Proofs.Ytgffcpoopnckkaa.CoreInst
