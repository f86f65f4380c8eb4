/- Plain lemmas on numbers as bytes (seven bits a byte, the topmost bit of all but the last one set). -/
namespace Go.Ob.Leb

/-- a number's bytes without a sign -/
def encU (n : Nat) : List Int := if h : n < 128 then [(n : Int)] else (((n % 128 : Nat) : Int) + 128) :: encU (n / 128)
termination_by n
decreasing_by omega
theorem encU_lt {n : Nat} (h : n < 128) : encU n = [(n : Int)] := by rw [encU, dif_pos h]
theorem encU_ge {n : Nat} (h : ¬ n < 128) : encU n = (((n % 128 : Nat) : Int) + 128) :: encU (n / 128) := by rw [encU, dif_neg h]

/-- a number's bytes with a sign -/
def encS (n : Int) : List Int := if h : -64 ≤ n ∧ n ≤ 63 then [n % 128] else (n % 128 + 128) :: encS (n / 128)
termination_by n.natAbs
decreasing_by omega
theorem encS_in {n : Int} (h : -64 ≤ n ∧ n ≤ 63) : encS n = [n % 128] := by rw [encS, dif_pos h]
theorem encS_out {n : Int} (h : ¬ (-64 ≤ n ∧ n ≤ 63)) : encS n = (n % 128 + 128) :: encS (n / 128) := by rw [encS, dif_neg h]

/-- l is a number's form: all bytes but the last one at least 128, the last one below -/
inductive Form : List Int → Prop where
  | one (b : Int) (h0 : 0 ≤ b) (h1 : b < 128) : Form [b]
  | more (b : Int) (l : List Int) (h0 : 128 ≤ b) (h1 : b < 256) (h : Form l) : Form (b :: l)

theorem form_encU (n : Nat) : Form (encU n) := by
  induction n using Nat.strongRecOn with
  | ind n ih =>
    by_cases h : n < 128
    · rw [encU_lt h]; exact .one _ (by omega) (by omega)
    · rw [encU_ge h]; exact .more _ _ (by omega) (by omega) (ih _ (by omega))
theorem form_encS (n : Int) : Form (encS n) := by
  suffices H : ∀ k : Nat, ∀ n : Int, n.natAbs ≤ k → Form (encS n) from H n.natAbs n (Nat.le_refl _)
  intro k
  induction k with
  | zero => intro n hn; obtain rfl : n = 0 := by omega
            rw [encS_in (by omega)]; exact .one _ (by omega) (by omega)
  | succ k ih =>
    intro n hn
    by_cases h : -64 ≤ n ∧ n ≤ 63
    · rw [encS_in h]; exact .one _ (by omega) (by omega)
    · rw [encS_out h]; exact .more _ _ (by omega) (by omega) (ih _ (by omega))

theorem Form.pos {l : List Int} (h : Form l) : 0 < l.length := by cases h <;> simp
theorem Form.ne {l : List Int} (h : Form l) : l ≠ [] := by cases h <;> simp

/-- the value without a sign -/
def valU : List Int → Int
  | [] => 0
  | b :: l => b % 128 + 128 * valU l
/-- the value with a sign: the last byte from 64 on counts 128 less -/
def valS : List Int → Int
  | [] => 0
  | [b] => if b % 128 < 64 then b % 128 else b % 128 - 128
  | b :: c :: l => b % 128 + 128 * valS (c :: l)

theorem valU_nonneg (l : List Int) : 0 ≤ valU l := by
  induction l with
  | nil => simp [valU]
  | cons b l ih => simp only [valU]; omega
theorem valU_encU (n : Nat) : valU (encU n) = n := by
  induction n using Nat.strongRecOn with
  | ind n ih =>
    by_cases h : n < 128
    · rw [encU_lt h]; simp only [valU]; omega
    · rw [encU_ge h]; simp only [valU]; rw [ih _ (by omega)]; omega
theorem valS_cons (b : Int) {l : List Int} (h : l ≠ []) : valS (b :: l) = b % 128 + 128 * valS l := by
  cases l with
  | nil => exact absurd rfl h
  | cons c l => rfl
theorem valS_encS (n : Int) : valS (encS n) = n := by
  suffices H : ∀ k : Nat, ∀ n : Int, n.natAbs ≤ k → valS (encS n) = n from H n.natAbs n (Nat.le_refl _)
  intro k
  induction k with
  | zero => intro n hn; obtain rfl : n = 0 := by omega
            rw [encS_in (by omega)]; rfl
  | succ k ih =>
    intro n hn
    by_cases h : -64 ≤ n ∧ n ≤ 63
    · rw [encS_in h]; simp only [valS]; split <;> omega
    · rw [encS_out h, valS_cons _ (form_encS _).ne, ih _ (by omega)]; omega

/-- of two forms at the beginning of one text each is the other -/
theorem Form.unique {l m r s : List Int} (hl : Form l) (hm : Form m) (h : l ++ r = m ++ s) : l = m ∧ r = s := by
  induction hl generalizing m with
  | one b h0 h1 =>
    cases hm with
    | one c c0 c1 => simpa using h
    | more c m' c0 c1 hm' => simp at h; omega
  | more b l' b0 b1 hl' ih =>
    cases hm with
    | one c c0 c1 => simp at h; omega
    | more c m' c0 c1 hm' =>
      simp only [List.cons_append, List.cons.injEq] at h
      obtain ⟨h1, h2⟩ := ih hm' h.2
      exact ⟨by rw [h.1, h1], h2⟩

theorem encU_inj {n m : Nat} (h : encU n = encU m) : n = m := by have := congrArg valU h; rw [valU_encU, valU_encU] at this; omega
theorem encS_inj {n m : Int} (h : encS n = encS m) : n = m := by have := congrArg valS h; rwa [valS_encS, valS_encS] at this

/-- how a form's value lies -/
theorem valU_lt (l : List Int) : valU l < 128 ^ l.length := by
  induction l with
  | nil => simp [valU]
  | cons b l ih =>
    simp only [valU, List.length_cons]
    rw [Int.pow_succ]
    omega
/-- how many bytes a number has, with a sign -/
theorem encS_len (j : Nat) : ∀ n : Int, (encS n).length ≤ j + 1 ↔ -(64 * 128 ^ j) ≤ n ∧ n < 64 * 128 ^ j := by
  induction j with
  | zero =>
    intro n
    by_cases h : -64 ≤ n ∧ n ≤ 63
    · rw [encS_in h]; simp; omega
    · rw [encS_out h, List.length_cons, show (64 * 128 ^ 0 : Int) = 64 by decide]; have := (form_encS (n / 128)).pos; omega
  | succ j ih =>
    intro n
    have hp : (1 : Int) ≤ 128 ^ j := Int.pow_pos (by decide)
    by_cases h : -64 ≤ n ∧ n ≤ 63
    · rw [encS_in h, Int.pow_succ]; simp; omega
    · rw [encS_out h, List.length_cons, Nat.add_le_add_iff_right, ih (n / 128), Int.pow_succ]; omega
/-- how many bytes a number has, without a sign -/
theorem encU_len (j : Nat) : ∀ n : Nat, (encU n).length ≤ j + 1 ↔ n < 128 ^ (j + 1) := by
  induction j with
  | zero =>
    intro n
    by_cases h : n < 128
    · rw [encU_lt h]; simp; omega
    · rw [encU_ge h, List.length_cons, show (128 ^ (0 + 1) : Nat) = 128 by decide]; have := (form_encU (n / 128)).pos; omega
  | succ j ih =>
    intro n
    have hp : 1 ≤ 128 ^ j := Nat.pow_pos (by decide)
    by_cases h : n < 128
    · rw [encU_lt h, Nat.pow_succ, Nat.pow_succ]; simp; omega
    · rw [encU_ge h, List.length_cons, Nat.add_le_add_iff_right, ih (n / 128), Nat.pow_succ 128 (j + 1)]; omega
theorem encS_len64 {n : Int} (h0 : -9223372036854775808 ≤ n) (h1 : n ≤ 9223372036854775807) : (encS n).length ≤ 10 := by
  rw [encS_len 9]; constructor <;> omega
theorem encU_len63 {n : Nat} (h1 : n ≤ 9223372036854775807) : (encU n).length ≤ 9 := by
  rw [encU_len 8]; omega
theorem Form.bytes {l : List Int} (h : Form l) : ∀ b ∈ l, 0 ≤ b ∧ b < 256 := by
  induction h with
  | one b h0 h1 => intro c hc; simp at hc; subst hc; omega
  | more b l h0 h1 h ih => intro c hc; simp at hc; rcases hc with rfl | hc; omega; exact ih c hc
theorem valS_eq {l : List Int} (h : Form l) : valS l = valU l ∨ valS l = valU l - 128 ^ l.length := by
  induction h with
  | one b h0 h1 => simp only [valS, valU, List.length_singleton]; split <;> omega
  | more b l h0 h1 h ih =>
    rw [valS_cons _ h.ne]
    simp only [valU, List.length_cons, Int.pow_succ]
    rcases ih with ih | ih <;> rw [ih] <;> omega
theorem valS_in {l : List Int} (h : Form l) : -(64 * 128 ^ (l.length - 1)) ≤ valS l ∧ valS l < 64 * 128 ^ (l.length - 1) := by
  induction h with
  | one b h0 h1 => simp only [valS, List.length_singleton]; split <;> simp <;> omega
  | more b l h0 h1 h ih =>
    rw [valS_cons _ h.ne]
    have hp := h.pos
    have e : (b :: l).length - 1 = (l.length - 1) + 1 := by simp; omega
    rw [e, Int.pow_succ]
    omega
theorem valU_snoc (l : List Int) (b : Int) : valU (l ++ [b]) = valU l + b % 128 * 128 ^ l.length := by
  induction l with
  | nil => simp [valU]
  | cons c l ih =>
    simp only [List.cons_append, valU, ih, List.length_cons, Int.pow_succ]
    rw [Int.mul_add, ← Int.mul_assoc, Int.mul_comm 128 (b % 128), Int.mul_assoc (b % 128), Int.mul_comm (128 ^ l.length) 128]
    omega

/-- how many bytes the number at the beginning has, of at most f -/
def scan : Nat → List Int → Option Nat
  | 0, _ => none
  | _ + 1, [] => none
  | f + 1, b :: l => if b < 128 then some 1 else (scan f l).map (· + 1)
theorem scan_form (f : Nat) : ∀ (l : List Int) (j : Nat), (∀ b ∈ l, 0 ≤ b ∧ b < 256) → scan f l = some j → Form (l.take j) ∧ 1 ≤ j ∧ j ≤ f ∧ j ≤ l.length := by
  induction f with
  | zero => intro l j _ h; simp [scan] at h
  | succ f ih =>
    intro l j hb h
    cases l with
    | nil => simp [scan] at h
    | cons b l =>
      have hb0 := hb b (by simp)
      simp only [scan] at h
      split at h
      · obtain rfl : 1 = j := by simpa using h
        refine ⟨?_, by omega, by omega, by simp⟩
        simpa using Form.one b (by omega) (by omega)
      · obtain ⟨i, hi, rfl⟩ := Option.map_eq_some_iff.mp h
        obtain ⟨h1, h2, h3, h4⟩ := ih l i (fun c hc => hb c (by simp [hc])) hi
        refine ⟨?_, by omega, by omega, by simpa using h4⟩
        rw [List.take_succ_cons]
        exact .more b _ (by omega) (by omega) h1
theorem scan_append {m : List Int} (h : Form m) : ∀ (r : List Int) (f : Nat), m.length ≤ f → scan f (m ++ r) = some m.length := by
  induction h with
  | one b h0 h1 =>
    intro r f hf
    obtain ⟨f, rfl⟩ : ∃ g, f = g + 1 := ⟨f - 1, by simp at hf; omega⟩
    simp only [List.singleton_append, scan]
    rw [if_pos h1]; rfl
  | more b l h0 h1 h ih =>
    intro r f hf
    simp only [List.length_cons] at hf
    obtain ⟨f, rfl⟩ : ∃ g, f = g + 1 := ⟨f - 1, by omega⟩
    simp only [List.cons_append, scan]
    rw [if_neg (by omega), ih r f (by omega)]
    rfl
/-- all bytes from 128 on: no number -/
theorem scan_none (f : Nat) : ∀ (l : List Int), (∀ b ∈ l, 128 ≤ b) → scan f l = none := by
  induction f with
  | zero => intro l _; rfl
  | succ f ih =>
    intro l h
    cases l with
    | nil => rfl
    | cons b l =>
      simp only [scan]
      rw [if_neg (by have := h b (by simp); omega), ih l (fun c hc => h c (by simp [hc]))]
      rfl
theorem pow128_le {i j : Nat} (h : i ≤ j) : (128 : Int) ^ i ≤ 128 ^ j := by
  have : (128 : Nat) ^ i ≤ 128 ^ j := Nat.pow_le_pow_right (by decide) h
  exact_mod_cast this
/-- what is read without a sign: the number, the rest, the error -/
def takeU (l : List Int) (bits : Int) : Int × List Int × Int :=
  if bits < 1 ∨ bits > 63 then (0, [], 4) else match scan 10 l with
  | none => (0, [], 6)
  | some j => if valU (l.take j) < 2 ^ bits.toNat ∧ encU (valU (l.take j)).toNat = l.take j then (valU (l.take j), l.drop j, 0) else (0, [], 6)
def w64 (n : Int) : Int := (n + 9223372036854775808) % 18446744073709551616 - 9223372036854775808
/-- what is read with a sign -/
def takeS (l : List Int) (bits : Int) : Int × List Int × Int :=
  if bits < 1 ∨ bits > 64 then (0, [], 4) else match scan 10 l with
  | none => (0, [], 6)
  | some j => if encS (w64 (valS (l.take j))) = l.take j ∧ (w64 (valS (l.take j)) / 2 ^ (bits.toNat - 1) = 0 ∨ w64 (valS (l.take j)) / 2 ^ (bits.toNat - 1) = -1) then (w64 (valS (l.take j)), l.drop j, 0) else (0, [], 6)

/-- the sign of a form, by its size -/
theorem valS_by {f : List Int} (h : Form f) {j : Nat} (hj : f.length = j + 1) : valS f = if valU f < 64 * 128 ^ j then valU f else valU f - 128 ^ (j + 1) := by
  have h1 := valS_in h
  have h2 := valS_eq h
  have h3 := valU_lt f
  have h4 := valU_nonneg f
  rw [hj] at h1 h2 h3
  rw [Nat.add_sub_cancel] at h1
  rw [Int.pow_succ] at h2 h3 ⊢
  split <;> omega
/-- moved up and back down again, with its sign -/
theorem spread_small (j : Nat) (hj : j < 9) (z : Int) (h0 : 0 ≤ z) (h1 : z < 128 ^ (j + 1)) :
    w64 ((z * 2 ^ (64 - 7 * (j + 1))) % 18446744073709551616) / 2 ^ (64 - 7 * (j + 1)) = if z < 64 * 128 ^ j then z else z - 128 ^ (j + 1) := by
  unfold w64
  obtain rfl | rfl | rfl | rfl | rfl | rfl | rfl | rfl | rfl : j = 0 ∨ j = 1 ∨ j = 2 ∨ j = 3 ∨ j = 4 ∨ j = 5 ∨ j = 6 ∨ j = 7 ∨ j = 8 := by omega
  all_goals (split <;> omega)
theorem w64_u (j : Nat) (hj : j < 10) (f : List Int) (h : Form f) (hl : f.length = j + 1) : w64 (valU f % 18446744073709551616) = if j < 9 then valU f else w64 (valS f) := by
  have h3 := valU_lt f
  have h4 := valU_nonneg f
  have h2 := valS_eq h
  rw [hl] at h3 h2
  split
  · have : (128 : Int) ^ (j + 1) ≤ 128 ^ 9 := pow128_le (by omega)
    unfold w64
    omega
  · obtain rfl : j = 9 := by omega
    unfold w64
    rcases h2 with h2 | h2 <;> rw [h2] <;> omega
end Go.Ob.Leb
