/- The program's numbers as bytes: what its functions answer, in plain lists. No condition but that lengths and numbers are those of the language. -/
import Derived.Test.YtgffcpoopnckkaaMIx5
import Derived.Test.YtgffcpoopnckkaaMIx6
import Derived.Test.YtgffcpoopnckkaaText
import Derived.Test.YtgffcpoopnckkaaLebMath
import Derived.Test.YtgffcpoopnckkaaBits
namespace Go.Proofs.Ytgffcpoopnckkaa.CoreInst
open Go.RowKit Go.Proofs.Ytgffcpoopnckkaa.MI Go.Proofs.YtgffcpoopnckkaaW.PrintWords Go.Proofs.YtgffcpoopnckkaaW.PrintLast Go.Proofs.YtgffcpoopnckkaaW.PrintMore Go.Ob Go.Ob.Leb
set_option linter.unusedVariables false
set_option linter.unusedSimpArgs false

theorem wrap_in {x : Int} (h0 : -9223372036854775808 ≤ x) (h1 : x ≤ 9223372036854775807) : wrap64 x = x := by unfold wrap64; omega
theorem u64_in {x : Int} (h0 : 0 ≤ x) (h1 : x < 18446744073709551616) : IntKind.u64.wrap x = x := by rw [IntKind.wrap_u64]; omega
theorem bt_eq (s : ByteArray) (i : Nat) (h : i < s.size) : bt s (i : Int) = (bl s)[i]'(by rw [bl_length]; exact h) := by
  unfold bt
  rw [dif_pos (by simpa using h)]
  simp [bl]
  rfl

/-! ### U -/
theorem U_l0 (d : Nat) : ∀ (n : Nat) (acc : List Int) (k : Nat), (encU n).length ≤ d → d ≤ k → acc.length + d ≤ 1000 → leb_U.l0 k n acc = some (strOfNums (acc ++ encU n), 0) := by
  induction d with
  | zero => intro n acc k h; have := (form_encU n).pos; omega
  | succ d ih =>
    intro n acc k h hk ha
    obtain ⟨k, rfl⟩ : ∃ m, k = m + 1 := ⟨k - 1, by omega⟩
    simp only [leb_U.l0]
    by_cases hn : n < 128
    · rw [if_neg (by omega), if_pos (by omega), encU_lt hn]
      rw [show ((n : Int)) % 256 = n by omega]
    · rw [if_pos (by omega), if_pos (by omega)]
      rw [encU_ge hn] at h ⊢
      rw [or128 _ (by omega) (by omega)]
      have := ih (n / 128) (acc ++ [((n % 128 : Nat) : Int) + 128]) k (by simpa using h) (by omega) (by simp; omega)
      rw [show ((n : Int) % 256 % 128 + 128) = ((n % 128 : Nat) : Int) + 128 by omega, show ((n : Int) / 128) = ((n / 128 : Nat) : Int) by omega, this, List.append_assoc]
      rfl
theorem U_pos (n : Int) (h0 : 0 ≤ n) (h1 : n ≤ 9223372036854775807) (k : Nat) (hk : 9 ≤ k) : leb_U.f k n = some (strOfNums (encU n.toNat), 0) := by
  unfold leb_U.f
  rw [if_neg (by omega)]
  have := U_l0 9 n.toNat [] k (encU_len63 (by omega)) hk (by simp)
  rwa [Int.toNat_of_nonneg h0, List.nil_append] at this
theorem U_neg (n : Int) (h0 : n < 0) (k : Nat) : leb_U.f k n = some ((⟨#[]⟩ : ByteArray), 4) := by
  unfold leb_U.f
  rw [if_pos h0]
theorem bl_U (n : Nat) : bl (strOfNums (encU n)) = encU n := bl_num _ (form_encU n).bytes

/-! ### S -/
theorem S_l0 (d : Nat) : ∀ (n : Int) (acc : List Int) (k : Nat), (encS n).length ≤ d → d ≤ k → acc.length + d ≤ 1000 → leb_S.l0 k n acc = some (strOfNums (acc ++ encS n)) := by
  induction d with
  | zero => intro n acc k h; have := (form_encS n).pos; omega
  | succ d ih =>
    intro n acc k h hk ha
    obtain ⟨k, rfl⟩ : ∃ m, k = m + 1 := ⟨k - 1, by omega⟩
    simp only [leb_S.l0]
    by_cases hn : -64 ≤ n ∧ n ≤ 63
    · rw [and127 _ (by omega) (by omega), show n % 256 % 128 = n % 128 by omega, encS_in hn]
      by_cases h0 : n / 64 = 0
      · rw [if_pos h0, if_pos (by omega)]
      · rw [if_neg h0, if_pos (by omega), if_pos (by omega)]
    · rw [if_neg (by omega), if_neg (by omega), if_pos (by omega)]
      rw [encS_out hn] at h ⊢
      rw [or128 _ (by omega) (by omega)]
      have := ih (n / 128) (acc ++ [n % 128 + 128]) k (by simpa using h) (by omega) (by simp; omega)
      rw [show (n % 256 % 128 + 128) = n % 128 + 128 by omega, this, List.append_assoc]
      rfl
theorem S_eq (n : Int) (h0 : -9223372036854775808 ≤ n) (h1 : n ≤ 9223372036854775807) (k : Nat) (hk : 10 ≤ k) : leb_S.f k n = some (strOfNums (encS n)) := by
  unfold leb_S.f
  have := S_l0 10 n [] k (encS_len64 h0 h1) hk (by simp)
  rwa [List.nil_append] at this
theorem bl_S (n : Int) : bl (strOfNums (encS n)) = encS n := bl_num _ (form_encS n).bytes

/-! ### groups -/
theorem groups_l0 (d : Nat) : ∀ (s : ByteArray) (i : Nat) (k : Nat), i + d = 10 → d < k → i ≤ s.size →
    leb_groups.l0 k s (valU ((bl s).take i)) (mn (s.size : Int) 10) i = some (match scan d ((bl s).drop i) with | none => (0, 0) | some j => (valU ((bl s).take (i + j)) % 18446744073709551616, ((i + j : Nat) : Int))) := by
  induction d with
  | zero =>
    intro s i k hi hk hs
    obtain ⟨k, rfl⟩ : ∃ m, k = m + 1 := ⟨k - 1, by omega⟩
    simp only [leb_groups.l0, scan]
    rw [if_neg (by unfold mn; split <;> omega)]
  | succ d ih =>
    intro s i k hi hk hs
    obtain ⟨k, rfl⟩ : ∃ m, k = m + 1 := ⟨k - 1, by omega⟩
    simp only [leb_groups.l0]
    by_cases hlt : i < s.size
    · have hl : i < (bl s).length := by rw [bl_length]; exact hlt
      rw [if_pos (by unfold mn; split <;> omega), if_pos (by omega), if_pos (by omega), wrap_in (x := 7 * (i : Int)) (by omega) (by omega), if_pos (by omega)]
      rw [List.drop_eq_getElem_cons hl, bt_eq s i hlt]
      have hb := bl_bytes s _ (List.getElem_mem hl)
      have htk : (bl s).take (i + 1) = (bl s).take i ++ [(bl s)[i]] := by rw [List.take_succ_eq_append_getElem hl]
      have hv : valU ((bl s).take (i + 1)) = valU ((bl s).take i) + (bl s)[i] % 128 * 128 ^ i := by rw [htk, valU_snoc, List.length_take, Nat.min_eq_left (by omega)]
      have hz := valU_lt ((bl s).take i)
      rw [List.length_take, Nat.min_eq_left (by omega)] at hz
      have hz0 := valU_nonneg ((bl s).take i)
      have hbit : Go.bits .or .u64 (valU ((bl s).take i)) (shl .u64 (IntKind.u64.wrap (Go.bits .and .u8 (bl s)[i] 127)) (7 * (i : Int))) = valU ((bl s).take (i + 1)) % 18446744073709551616 := by
        rw [and127 _ hb.1 hb.2, u64_in (by omega) (by omega)]
        unfold shl
        rw [IntKind.wrap_u64, show min ((7 * (i : Int)).toNat) IntKind.u64.bits = 7 * i by simp [IntKind.bits]; omega, hv]
        exact or_round i (by omega) _ _ hz0 hz (by omega) (by omega)
      rw [hbit]
      by_cases h128 : (bl s)[i] < 128
      · rw [if_pos h128, wrap_in (by omega) (by omega)]
        simp only [scan]
        rw [if_pos h128]
        rfl
      · rw [if_neg h128, wrap_in (by omega) (by omega)]
        simp only [scan]
        rw [if_neg h128]
        by_cases hd : d = 0
        · subst hd
          obtain ⟨k, rfl⟩ : ∃ m, k = m + 1 := ⟨k - 1, by omega⟩
          simp only [leb_groups.l0, scan, Option.map_none]
          rw [if_neg (by unfold mn; split <;> omega)]
        · have hsm : valU ((bl s).take (i + 1)) % 18446744073709551616 = valU ((bl s).take (i + 1)) := by
            have h1 := valU_lt ((bl s).take (i + 1))
            have h2 := valU_nonneg ((bl s).take (i + 1))
            rw [List.length_take, Nat.min_eq_left (by omega)] at h1
            have : (128 : Int) ^ (i + 1) ≤ 128 ^ 9 := pow128_le (by omega)
            have e9 : (128 : Int) ^ 9 = 9223372036854775808 := by decide
            omega
          rw [hsm]
          have := ih s (i + 1) k (by omega) (by omega) (by omega)
          rw [show ((i : Int) + 1) = ((i + 1 : Nat) : Int) by omega, this]
          cases scan d ((bl s).drop (i + 1)) with
          | none => rfl
          | some j => simp only [Option.map_some]; rw [show i + 1 + j = i + (j + 1) by omega]
    · rw [if_neg (by unfold mn; split <;> omega), List.drop_eq_nil_of_le (by rw [bl_length]; omega)]
      rfl
theorem groups_eq (s : ByteArray) (k : Nat) (hk : 11 ≤ k) : leb_groups.f k s = some (match scan 10 (bl s) with | none => (0, 0) | some j => (valU ((bl s).take j) % 18446744073709551616, (j : Int))) := by
  unfold leb_groups.f
  have := groups_l0 10 s 0 k (by omega) (by omega) (by omega)
  simpa [valU] using this

/-! ### TakeU -/
theorem w64_eq (x : Int) : wrap64 x = w64 x := by unfold wrap64 w64; rfl
theorem rest_eq (s : ByteArray) (j : Nat) : s.extract j s.size = strOfNums ((bl s).drop j) := by
  apply bl_inj
  rw [bl_num _ (fun x hx => bl_bytes s x (List.mem_of_mem_drop hx)), bl_extract]
  exact List.take_of_length_le (by rw [List.length_drop, bl_length]; exact Nat.le_refl _)
theorem pow_bits (b : Nat) (hb : b ≤ 63) : (2 : Int) ^ b ≤ 9223372036854775808 := by
  have : (2 : Nat) ^ b ≤ 2 ^ 63 := Nat.pow_le_pow_right (by decide) hb
  have h2 : ((2 ^ b : Nat) : Int) ≤ ((2 ^ 63 : Nat) : Int) := Int.ofNat_le.mpr this
  simpa using h2
theorem txt_iff (l : List Int) (hl : ∀ x ∈ l, 0 ≤ x ∧ x < 256) (s : ByteArray) (j : Nat) : (strOfNums l).toList = (s.extract 0 j).toList ↔ l = (bl s).take j := by
  rw [toList_iff, bl_num l hl, bl_extract, List.drop_zero, Nat.sub_zero]
theorem shr_zero (z : Int) (b : Nat) (hb : b ≤ 63) (h0 : 0 ≤ z) : shr .u64 z (b : Int) = 0 ↔ z < 2 ^ b := by
  unfold shr
  rw [show min ((b : Int)).toNat IntKind.u64.bits = b by simp [IntKind.bits]; omega]
  have hp : (0 : Int) < 2 ^ b := Int.pow_pos (by decide)
  constructor
  · intro h
    have h1 := Int.emod_add_mul_ediv z (2 ^ b)
    have h2 := Int.emod_lt_of_pos z hp
    rw [h] at h1
    omega
  · intro h
    exact Int.ediv_eq_zero_of_lt h0 h
theorem TakeU_eq (s : ByteArray) (bits : Int) (hb0 : -9223372036854775808 ≤ bits) (hb1 : bits ≤ 9223372036854775807) (k : Nat) (hk : 20 ≤ k) :
    leb_TakeU.f k s bits = some ((takeU (bl s) bits).1, strOfNums (takeU (bl s) bits).2.1, (takeU (bl s) bits).2.2) := by
  obtain ⟨k, rfl⟩ : ∃ m, k = m + 1 := ⟨k - 1, by omega⟩
  unfold leb_TakeU.f takeU
  by_cases hbits : bits < 1 ∨ bits > 63
  · rw [if_pos hbits]
    by_cases h1 : bits < 1
    · rw [if_pos h1]; simp only [leb_TakeU.j0, if_true]; rfl
    · rw [if_neg h1, decide_eq_true (show bits > 63 by omega)]; simp only [leb_TakeU.j0, if_true]; rfl
  · rw [if_neg hbits, if_neg (by omega), decide_eq_false (by omega)]
    simp only [leb_TakeU.j0, Bool.false_eq_true, if_false]
    rw [groups_eq s k (by omega)]
    cases hsc : scan 10 (bl s) with
    | none =>
      obtain ⟨k, rfl⟩ : ∃ m, k = m + 1 := ⟨k - 1, by omega⟩
      simp only [Option.bind_some, if_true, leb_TakeU.j1]
      rfl
    | some j =>
      obtain ⟨hf, hj1, hj10, hjl⟩ := scan_form 10 _ j (bl_bytes s) hsc
      obtain ⟨k, rfl⟩ : ∃ m, k = m + 1 := ⟨k - 1, by omega⟩
      have hV := valU_nonneg ((bl s).take j)
      have hVb := valU_lt ((bl s).take j)
      simp only [Option.bind_some]
      rw [if_neg (show ¬ ((j : Int) = 0) by omega), if_pos (show 0 ≤ bits by omega)]
      obtain ⟨b, rfl⟩ := Int.eq_ofNat_of_zero_le (show 0 ≤ bits by omega)
      have hpb := pow_bits b (by omega)
      generalize hz : valU ((bl s).take j) % 18446744073709551616 = z
      have hz0 : 0 ≤ z := by omega
      simp only [leb_TakeU.j1, Int.toNat_natCast]
      by_cases hsh : z < 2 ^ b
      · rw [(shr_zero z b (by omega) hz0).mpr hsh, if_neg (by decide), w64_eq, show w64 z = z by unfold w64; omega, U_pos z hz0 (by omega) k (by omega)]
        simp only [Option.bind_some]
        rw [if_pos (show 0 ≤ (j : Int) by omega), if_pos (show (j : Int) ≤ (s.size : Int) by rw [← bl_length]; omega)]
        have ht := txt_iff _ (form_encU z.toNat).bytes s j
        by_cases he : encU z.toNat = (bl s).take j
        · have hzV : valU ((bl s).take j) = z := by rw [← he, valU_encU]; omega
          rw [if_pos (ht.mpr he), hzV, if_pos ⟨hsh, he⟩, rest_eq]
        · rw [if_neg (fun h => he (ht.mp h))]
          rw [if_neg]
          · rfl
          · rintro ⟨c1, c2⟩
            have : z = valU ((bl s).take j) := by omega
            rw [← this] at c2
            exact he c2
      · rw [if_pos (by rw [bne_iff_ne]; intro h; exact hsh ((shr_zero z b (by omega) hz0).mp h)), if_neg]
        · rfl
        · rintro ⟨c1, c2⟩
          have : z = valU ((bl s).take j) := by omega
          omega

/-! ### TakeS -/
theorem TakeS_j1 (s : ByteArray) (b : Nat) (hb1 : 1 ≤ b) (hb : b ≤ 64) (j : Nat) (hjl : j ≤ (bl s).length) (x n : Int) (hx : wrap64 x = n) (h0 : -9223372036854775808 ≤ n) (h1 : n ≤ 9223372036854775807) (k : Nat) (hk : 12 ≤ k) :
    leb_TakeS.j1 k s (b : Int) x (j : Int) = some (if encS n = (bl s).take j ∧ (n / 2 ^ (b - 1) = 0 ∨ n / 2 ^ (b - 1) = -1) then (n, strOfNums ((bl s).drop j), 0) else (0, (⟨#[]⟩ : ByteArray), 6)) := by
  obtain ⟨k, rfl⟩ : ∃ m, k = m + 2 := ⟨k - 2, by omega⟩
  have hsh : shr .i64 n (wrap64 ((b : Int) - 1)) = n / 2 ^ (b - 1) := by
    unfold shr
    rw [wrap_in (by omega) (by omega), show min ((b : Int) - 1).toNat IntKind.i64.bits = b - 1 by simp [IntKind.bits]; omega]
  simp only [leb_TakeS.j1, leb_TakeS.j2, hx, hsh, S_eq n h0 h1 (k + 1) (by omega), Option.bind_some]
  rw [wrap_in (x := (b : Int) - 1) (by omega) (by omega), if_pos (by omega)]
  simp only [show (0 ≤ (j : Int)) = True from eq_true (by omega), show ((j : Int) ≤ (s.size : Int)) = True from eq_true (by rw [← bl_length]; omega), if_true, Int.toNat_natCast, Bool.false_eq_true, if_false]
  have ht := txt_iff _ (form_encS n).bytes s j
  by_cases he : encS n = (bl s).take j
  · rw [if_pos (ht.mpr he)]
    by_cases c0 : n / 2 ^ (b - 1) = 0
    · rw [if_pos c0, if_pos ⟨he, .inl c0⟩, rest_eq]
    · rw [if_neg c0]
      by_cases c1 : n / 2 ^ (b - 1) = -1
      · rw [if_neg (by simp [c1]), if_pos ⟨he, .inr c1⟩, rest_eq]
      · rw [if_pos (by simp [c1]), if_neg (fun h => h.2.elim c0 c1)]
  · rw [if_neg (fun h => he (ht.mp h)), if_neg (fun h => he h.1)]
theorem w64_bounds (x : Int) : -9223372036854775808 ≤ w64 x ∧ w64 x ≤ 9223372036854775807 := by unfold w64; omega
theorem TakeS_eq (s : ByteArray) (bits : Int) (hb0 : -9223372036854775808 ≤ bits) (hb1 : bits ≤ 9223372036854775807) (k : Nat) (hk : 20 ≤ k) :
    leb_TakeS.f k s bits = some ((takeS (bl s) bits).1, strOfNums (takeS (bl s) bits).2.1, (takeS (bl s) bits).2.2) := by
  obtain ⟨k, rfl⟩ : ∃ m, k = m + 1 := ⟨k - 1, by omega⟩
  unfold leb_TakeS.f takeS
  by_cases hbits : bits < 1 ∨ bits > 64
  · rw [if_pos hbits]
    by_cases h1 : bits < 1
    · rw [if_pos h1]; simp only [leb_TakeS.j0, if_true]; rfl
    · rw [if_neg h1, decide_eq_true (show bits > 64 by omega)]; simp only [leb_TakeS.j0, if_true]; rfl
  · rw [if_neg hbits, if_neg (by omega), decide_eq_false (by omega)]
    simp only [leb_TakeS.j0, Bool.false_eq_true, if_false]
    rw [groups_eq s k (by omega)]
    cases hsc : scan 10 (bl s) with
    | none =>
      simp only [Option.bind_some, if_true]
      rfl
    | some j =>
      obtain ⟨hf, hj1, hj10, hjl⟩ := scan_form 10 _ j (bl_bytes s) hsc
      have hV := valU_nonneg ((bl s).take j)
      have hVb := valU_lt ((bl s).take j)
      have hlen : ((bl s).take j).length = (j - 1) + 1 := by rw [List.length_take]; omega
      obtain ⟨b, rfl⟩ := Int.eq_ofNat_of_zero_le (show 0 ≤ bits by omega)
      simp only [Option.bind_some, Int.toNat_natCast]
      rw [if_neg (show ¬ ((j : Int) = 0) by omega), wrap_in (x := 7 * (j : Int)) (by omega) (by omega)]
      have key : some (if encS (w64 (valS ((bl s).take j))) = (bl s).take j ∧ (w64 (valS ((bl s).take j)) / 2 ^ (b - 1) = 0 ∨ w64 (valS ((bl s).take j)) / 2 ^ (b - 1) = -1) then (w64 (valS ((bl s).take j)), strOfNums ((bl s).drop j), (0 : Int)) else (0, (⟨#[]⟩ : ByteArray), 6)) =
          some ((if encS (w64 (valS ((bl s).take j))) = (bl s).take j ∧ (w64 (valS ((bl s).take j)) / 2 ^ (b - 1) = 0 ∨ w64 (valS ((bl s).take j)) / 2 ^ (b - 1) = -1) then (w64 (valS ((bl s).take j)), (bl s).drop j, (0 : Int)) else (0, [], 6)).1,
            strOfNums (if encS (w64 (valS ((bl s).take j))) = (bl s).take j ∧ (w64 (valS ((bl s).take j)) / 2 ^ (b - 1) = 0 ∨ w64 (valS ((bl s).take j)) / 2 ^ (b - 1) = -1) then (w64 (valS ((bl s).take j)), (bl s).drop j, (0 : Int)) else (0, [], 6)).2.1,
            (if encS (w64 (valS ((bl s).take j))) = (bl s).take j ∧ (w64 (valS ((bl s).take j)) / 2 ^ (b - 1) = 0 ∨ w64 (valS ((bl s).take j)) / 2 ^ (b - 1) = -1) then (w64 (valS ((bl s).take j)), (bl s).drop j, (0 : Int)) else (0, [], 6)).2.2) := by
        split <;> rfl
      rw [← key]
      by_cases h9 : j ≤ 9
      · rw [if_pos (by omega), wrap_in (x := 64 - 7 * (j : Int)) (by omega) (by omega), if_pos (by omega)]
        have hz : valU ((bl s).take j) % 18446744073709551616 = valU ((bl s).take j) := by
          have : (128 : Int) ^ ((j - 1) + 1) ≤ 128 ^ 9 := pow128_le (by omega)
          rw [hlen] at hVb
          omega
        have hn : wrap64 (IntKind.u64.wrap (shr .i64 (wrap64 (shl .u64 (valU ((bl s).take j) % 18446744073709551616) (64 - 7 * (j : Int)))) (64 - 7 * (j : Int)))) = w64 (valS ((bl s).take j)) := by
          rw [hz]
          unfold shr shl
          rw [show min (64 - 7 * (j : Int)).toNat IntKind.i64.bits = 64 - 7 * ((j - 1) + 1) by simp [IntKind.bits]; omega, show min (64 - 7 * (j : Int)).toNat IntKind.u64.bits = 64 - 7 * ((j - 1) + 1) by simp [IntKind.bits]; omega]
          rw [IntKind.wrap_u64, IntKind.wrap_u64, w64_eq, w64_eq]
          have := spread_small (j - 1) (by omega) (valU ((bl s).take j)) hV (by rw [← hlen]; exact hVb)
          rw [this, valS_by hf hlen]
          unfold w64
          split <;> omega
        exact TakeS_j1 s b (by omega) (by omega) j hjl _ _ hn (w64_bounds _).1 (w64_bounds _).2 k (by omega)
      · rw [if_neg (by omega)]
        have hn : wrap64 (valU ((bl s).take j) % 18446744073709551616) = w64 (valS ((bl s).take j)) := by
          rw [w64_eq, w64_u (j - 1) (by omega) _ hf hlen, if_neg (by omega)]
        exact TakeS_j1 s b (by omega) (by omega) j hjl _ _ hn (w64_bounds _).1 (w64_bounds _).2 k (by omega)
end Go.Proofs.Ytgffcpoopnckkaa.CoreInst
