/- The reference's numbers as bytes: what it writes, in plain lists. -/
import Derived.Test.YtgffcpoopnckkaaLebCoreInst
import Derived.Test.YtgffcpoopnckkaaMIx10
namespace Go.Proofs.Ytgffcpoopnckkaa.CoreInst
open Go.RowKit Go.Proofs.Ytgffcpoopnckkaa.MI Go.Proofs.YtgffcpoopnckkaaW.PrintWords Go.Proofs.YtgffcpoopnckkaaW.PrintLast Go.Proofs.YtgffcpoopnckkaaW.PrintMore Go.Ob Go.Ob.Leb
set_option linter.unusedVariables false
theorem tdiv_pos (n : Int) (h : 0 ≤ n) : Int.tdiv n 128 = n / 128 ∧ Int.tmod n 128 = n % 128 := ⟨Int.tdiv_eq_ediv_of_nonneg h, Int.tmod_eq_emod_of_nonneg h⟩
theorem rU_l0 (d : Nat) : ∀ (n : Nat) (acc : List Int) (k : Nat), n ≤ 9223372036854775807 → (encU n).length ≤ d → d ≤ k → acc.length + d ≤ 1000 → oublietteref01_U.l0 k n acc = some (strOfNums (acc ++ encU n), true) := by
  induction d with
  | zero => intro n acc k _ h; have := (form_encU n).pos; omega
  | succ d ih =>
    intro n acc k hb h hk ha
    obtain ⟨k, rfl⟩ : ∃ m, k = m + 1 := ⟨k - 1, by omega⟩
    simp only [oublietteref01_U.l0]
    by_cases hn : n < 128
    · rw [if_neg (by omega), if_pos (by omega), encU_lt hn]
      rw [show ((n : Int)) % 256 = n by omega]
    · rw [if_pos (by omega), if_pos (by omega)]
      rw [encU_ge hn] at h ⊢
      have ht := tdiv_pos (n : Int) (by omega)
      rw [ht.1, ht.2, wrap_in (x := (n : Int) / 128) (by omega) (by omega), wrap_in (x := (n : Int) % 128 + 128) (by omega) (by omega)]
      have := ih (n / 128) (acc ++ [((n % 128 : Nat) : Int) + 128]) k (by omega) (by simpa using h) (by omega) (by simp; omega)
      rw [show ((n : Int) % 128 + 128) % 256 = ((n % 128 : Nat) : Int) + 128 by omega, show ((n : Int) / 128) = ((n / 128 : Nat) : Int) by omega, this, List.append_assoc]
      rfl
theorem rU_pos (n : Int) (h0 : 0 ≤ n) (h1 : n ≤ 9223372036854775807) (k : Nat) (hk : 9 ≤ k) : oublietteref01_U.f k n = some (strOfNums (encU n.toNat), true) := by
  unfold oublietteref01_U.f
  rw [if_neg (by omega)]
  have := rU_l0 9 n.toNat [] k (by omega) (encU_len63 (by omega)) hk (by simp)
  rwa [Int.toNat_of_nonneg h0, List.nil_append] at this
theorem rU_neg (n : Int) (h0 : n < 0) (k : Nat) : oublietteref01_U.f k n = some ((⟨#[]⟩ : ByteArray), false) := by
  unfold oublietteref01_U.f
  rw [if_pos h0]
theorem and127i (n : Int) : Go.bits .and .i64 n 127 = n % 128 := Go.Ob.and_mask n 7 (by decide)
theorem rS_l0 (d : Nat) : ∀ (n : Int) (acc : List Int) (k : Nat), (encS n).length ≤ d → d ≤ k → acc.length + d ≤ 1000 → oublietteref01_S.l0 k n acc = some (strOfNums (acc ++ encS n)) := by
  induction d with
  | zero => intro n acc k h; have := (form_encS n).pos; omega
  | succ d ih =>
    intro n acc k h hk ha
    obtain ⟨k, rfl⟩ : ∃ m, k = m + 1 := ⟨k - 1, by omega⟩
    simp only [oublietteref01_S.l0, and127i]
    by_cases hn : -64 ≤ n ∧ n ≤ 63
    · rw [if_neg (by omega), if_neg (by omega), if_pos (by omega), encS_in hn, show n % 128 % 256 = n % 128 by omega]
    · rw [encS_out hn] at h ⊢
      have := ih (n / 128) (acc ++ [n % 128 + 128]) k (by simpa using h) (by omega) (by simp; omega)
      rw [List.append_assoc] at this
      by_cases h64 : n < -64
      · rw [if_pos h64, if_pos (by omega), show (n % 128 + 128) % 256 = n % 128 + 128 by omega, this]; rfl
      · rw [if_neg h64, if_pos (by omega), if_pos (by omega), show (n % 128 + 128) % 256 = n % 128 + 128 by omega, this]; rfl
theorem rS_eq (n : Int) (h0 : -9223372036854775808 ≤ n) (h1 : n ≤ 9223372036854775807) (k : Nat) (hk : 10 ≤ k) : oublietteref01_S.f k n = some (strOfNums (encS n)) := by
  unfold oublietteref01_S.f
  have := rS_l0 10 n [] k (encS_len64 h0 h1) hk (by simp)
  rwa [List.nil_append] at this
end Go.Proofs.Ytgffcpoopnckkaa.CoreInst
