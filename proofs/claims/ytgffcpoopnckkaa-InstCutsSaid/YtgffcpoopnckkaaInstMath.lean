/- Plain lemmas on instructions as bytes. -/
import Derived.Test.YtgffcpoopnckkaaLebMath
namespace Go.Ob.Inst
open Go.Ob.Leb
set_option linter.unusedVariables false
set_option linter.unusedSimpArgs false

/-- is it an instruction that reckons -/
def ar (op : Int) : Bool := decide (69 ≤ op ∧ op ≤ 90) || decide (106 ≤ op ∧ op ≤ 120) || decide (124 ≤ op ∧ op ≤ 138) || decide (op = 167) || decide (op = 172) || decide (op = 173)
/-- an instruction's kind, by its first byte -/
def kd (op : Int) : Int :=
  if op = 2 ∨ op = 3 ∨ op = 4 then 2
  else if op = 12 ∨ op = 13 ∨ op = 16 ∨ op = 32 ∨ op = 33 ∨ op = 34 ∨ op = 35 ∨ op = 36 then 3
  else if op = 40 ∨ op = 41 ∨ op = 54 ∨ op = 55 then 4
  else if op = 65 then 5 else if op = 66 then 6
  else if op = 0 ∨ op = 1 ∨ op = 5 ∨ op = 11 ∨ op = 15 ∨ op = 26 ∨ op = 27 ∨ op = 240 ∨ op = 241 then 1
  else if ar op = true then 1 else 0
theorem kd_cases (op : Int) : kd op = 0 ∨ kd op = 1 ∨ kd op = 2 ∨ kd op = 3 ∨ kd op = 4 ∨ kd op = 5 ∨ kd op = 6 := by
  unfold kd
  repeat' split
  all_goals omega
theorem kd_byte (op : Int) (h : kd op ≠ 0) : 0 ≤ op ∧ op < 256 := by
  unfold kd at h
  repeat' split at h
  all_goals first | omega | skip
  · rename_i ha
    unfold ar at ha
    simp only [Bool.or_eq_true, decide_eq_true_eq] at ha
    omega
/-- may it be one -/
def rt (op n m : Int) : Bool :=
  if kd op = 0 then false
  else if kd op = 2 then decide (n = 0) && (decide (0 ≤ m) && decide (m ≤ 4))
  else if kd op = 3 then (decide (0 ≤ n) && decide (n < 4294967296)) && decide (m = 0)
  else if kd op = 4 then (decide (0 ≤ n) && decide (n < 4294967296)) && (decide (0 ≤ m) && decide (m ≤ 1))
  else if kd op = 5 then (decide (-2147483648 ≤ n) && decide (n < 2147483648)) && decide (m = 0)
  else if kd op = 6 then decide (m = 0)
  else decide (n = 0) && decide (m = 0)
/-- its bytes -/
def enc (op n m : Int) : List Int :=
  op :: (if kd op = 2 then [if m = 0 then 64 else 128 - m] else if kd op = 3 then encU n.toNat else if kd op = 4 then encU m.toNat ++ encU n.toNat else if kd op = 5 ∨ kd op = 6 then encS n else [])
/-- the one at the beginning -/
def take (l : List Int) : Option (Int × Int × Int × List Int) :=
  match l with
  | [] => none
  | b :: r =>
    if kd b = 0 then none
    else if kd b = 2 then (match r with
      | [] => none
      | c :: r' => if c = 64 then some (b, 0, 0, r') else if 1 ≤ 128 - c ∧ 128 - c ≤ 4 then some (b, 0, 128 - c, r') else none)
    else if kd b = 3 then (if (takeU r 32).2.2 = 0 then some (b, (takeU r 32).1, 0, (takeU r 32).2.1) else none)
    else if kd b = 4 then (if (takeU r 1).2.2 = 0 then (if (takeU (takeU r 1).2.1 32).2.2 = 0 then some (b, (takeU (takeU r 1).2.1 32).1, (takeU r 1).1, (takeU (takeU r 1).2.1 32).2.1) else none) else none)
    else if kd b = 5 then (if (takeS r 32).2.2 = 0 then some (b, (takeS r 32).1, 0, (takeS r 32).2.1) else none)
    else if kd b = 6 then (if (takeS r 64).2.2 = 0 then some (b, (takeS r 64).1, 0, (takeS r 64).2.1) else none)
    else some (b, 0, 0, r)

theorem takeU_on (n : Nat) (b : Int) (hb1 : 1 ≤ b) (hb : b ≤ 63) (h1 : (n : Int) < 2 ^ b.toNat) (r : List Int) : takeU (encU n ++ r) b = ((n : Int), r, 0) := by
  have h2 : (2 : Int) ^ b.toNat ≤ 2 ^ 63 := by
    have : (2 : Nat) ^ b.toNat ≤ 2 ^ 63 := Nat.pow_le_pow_right (by decide) (by omega)
    have h3 : ((2 ^ b.toNat : Nat) : Int) ≤ ((2 ^ 63 : Nat) : Int) := Int.ofNat_le.mpr this
    simpa using h3
  unfold takeU
  rw [if_neg (by omega), scan_append (form_encU n) r 10 (by have := encU_len63 (n := n) (by omega); omega)]
  simp only [List.take_left', List.drop_left']
  rw [valU_encU, if_pos ⟨h1, by simp⟩]
theorem takeS_on (n : Int) (b : Int) (hb1 : 1 ≤ b) (hb : b ≤ 64) (h0 : -(2 ^ (b.toNat - 1)) ≤ n) (h1 : n < 2 ^ (b.toNat - 1)) (r : List Int) : takeS (encS n ++ r) b = (n, r, 0) := by
  have hp : (0 : Int) < 2 ^ (b.toNat - 1) := Int.pow_pos (by decide)
  have h2 : (2 : Int) ^ (b.toNat - 1) ≤ 2 ^ 63 := by
    have : (2 : Nat) ^ (b.toNat - 1) ≤ 2 ^ 63 := Nat.pow_le_pow_right (by decide) (by omega)
    have h3 : ((2 ^ (b.toNat - 1) : Nat) : Int) ≤ ((2 ^ 63 : Nat) : Int) := Int.ofNat_le.mpr this
    simpa using h3
  unfold takeS
  rw [if_neg (by omega), scan_append (form_encS n) r 10 (encS_len64 (by omega) (by omega))]
  simp only [List.take_left', List.drop_left']
  have hw : w64 n = n := by unfold w64; omega
  rw [valS_encS, hw, if_pos]
  refine ⟨rfl, ?_⟩
  by_cases hn : 0 ≤ n
  · exact .inl (Int.ediv_eq_zero_of_lt hn h1)
  · refine .inr ?_
    have a1 : n / 2 ^ (b.toNat - 1) < 0 := Int.ediv_neg_of_neg_of_pos (by omega) hp
    have a2 : -1 ≤ n / 2 ^ (b.toNat - 1) := Int.le_ediv_of_mul_le hp (by omega)
    omega
theorem takeU_off (l : List Int) (hl : ∀ b ∈ l, 0 ≤ b ∧ b < 256) (b : Int) (h : (takeU l b).2.2 = 0) :
    (1 ≤ b ∧ b ≤ 63) ∧ 0 ≤ (takeU l b).1 ∧ (takeU l b).1 < 2 ^ b.toNat ∧ encU (takeU l b).1.toNat ++ (takeU l b).2.1 = l := by
  unfold takeU at h ⊢
  split at h
  · simp at h
  · rename_i hb
    rw [if_neg hb]
    cases hs : scan 10 l with
    | none => rw [hs] at h; simp at h
    | some j =>
      rw [hs] at h
      simp only [] at h ⊢
      split at h
      · rename_i hc
        rw [if_pos hc]
        refine ⟨by omega, valU_nonneg _, hc.1, ?_⟩
        rw [hc.2]
        exact List.take_append_drop _ _
      · simp at h
theorem w64_in (x : Int) : -9223372036854775808 ≤ w64 x ∧ w64 x ≤ 9223372036854775807 := by unfold w64; omega
theorem takeS_off (l : List Int) (hl : ∀ b ∈ l, 0 ≤ b ∧ b < 256) (b : Int) (h : (takeS l b).2.2 = 0) :
    -(2 ^ (b.toNat - 1)) ≤ (takeS l b).1 ∧ (takeS l b).1 < 2 ^ (b.toNat - 1) ∧ encS (takeS l b).1 ++ (takeS l b).2.1 = l ∧ -9223372036854775808 ≤ (takeS l b).1 ∧ (takeS l b).1 ≤ 9223372036854775807 := by
  unfold takeS at h ⊢
  split at h
  · simp at h
  · rename_i hb
    rw [if_neg hb]
    cases hs : scan 10 l with
    | none => rw [hs] at h; simp at h
    | some j =>
      rw [hs] at h
      simp only [] at h ⊢
      split at h
      · rename_i hc
        rw [if_pos hc]
        have hp : (0 : Int) < 2 ^ (b.toNat - 1) := Int.pow_pos (by decide)
        have e := Int.emod_add_mul_ediv (w64 (valS (l.take j))) (2 ^ (b.toNat - 1))
        have m0 := Int.emod_nonneg (w64 (valS (l.take j))) (show (2 : Int) ^ (b.toNat - 1) ≠ 0 by omega)
        have m1 := Int.emod_lt_of_pos (w64 (valS (l.take j))) hp
        have hw := w64_in (valS (l.take j))
        have hr : -(2 ^ (b.toNat - 1)) ≤ w64 (valS (l.take j)) ∧ w64 (valS (l.take j)) < 2 ^ (b.toNat - 1) := by
          rcases hc.2 with h0 | h0 <;> rw [h0] at e <;> omega
        refine ⟨hr.1, hr.2, ?_, hw.1, hw.2⟩
        show encS (w64 (valS (l.take j))) ++ l.drop j = l
        rw [hc.1]
        exact List.take_append_drop _ _
      · simp at h

/-- what is written is read -/
theorem take_enc (op n m : Int) (hn0 : -9223372036854775808 ≤ n) (hn1 : n ≤ 9223372036854775807) (h : rt op n m = true) (r : List Int) : take (enc op n m ++ r) = some (op, n, m, r) := by
  unfold rt at h
  unfold enc take
  simp only [List.cons_append]
  by_cases k0 : kd op = 0
  · rw [if_pos k0] at h; cases h
  rw [if_neg k0] at h ⊢
  by_cases k2 : kd op = 2
  · rw [if_pos k2] at h
    rw [if_pos k2, if_pos k2]
    simp only [Bool.and_eq_true, decide_eq_true_eq] at h
    obtain ⟨rfl, h0, h4⟩ := h
    simp only [List.cons_append, List.nil_append]
    by_cases hm : m = 0
    · subst hm; simp
    · rw [if_neg hm, if_neg (by omega), if_pos (by omega), show 128 - (128 - m) = m by omega]
  rw [if_neg k2] at h ⊢
  rw [if_neg k2]
  by_cases k3 : kd op = 3
  · rw [if_pos k3] at h
    rw [if_pos k3, if_pos k3]
    simp only [Bool.and_eq_true, decide_eq_true_eq] at h
    obtain ⟨⟨h0, h1⟩, rfl⟩ := h
    rw [takeU_on n.toNat 32 (by decide) (by decide) (by show (n.toNat : Int) < 2 ^ 32; omega) r]
    simp; omega
  rw [if_neg k3] at h ⊢
  rw [if_neg k3]
  by_cases k4 : kd op = 4
  · rw [if_pos k4] at h
    rw [if_pos k4, if_pos k4]
    simp only [Bool.and_eq_true, decide_eq_true_eq] at h
    obtain ⟨⟨h0, h1⟩, h2, h3⟩ := h
    rw [List.append_assoc, takeU_on m.toNat 1 (by decide) (by decide) (by show (m.toNat : Int) < 2 ^ 1; omega)]
    simp only [if_true]
    rw [takeU_on n.toNat 32 (by decide) (by decide) (by show (n.toNat : Int) < 2 ^ 32; omega) r]
    simp; omega
  rw [if_neg k4] at h ⊢
  rw [if_neg k4]
  by_cases k5 : kd op = 5
  · rw [if_pos k5] at h
    rw [if_pos k5, if_pos (show kd op = 5 ∨ kd op = 6 from .inl k5)]
    simp only [Bool.and_eq_true, decide_eq_true_eq] at h
    obtain ⟨⟨h0, h1⟩, rfl⟩ := h
    rw [takeS_on n 32 (by decide) (by decide) (by show -(2 ^ 31) ≤ n; omega) (by show n < 2 ^ 31; omega) r]
    simp
  rw [if_neg k5] at h ⊢
  by_cases k6 : kd op = 6
  · rw [if_pos k6] at h
    rw [if_pos k6, if_pos (show kd op = 5 ∨ kd op = 6 from .inr k6)]
    simp only [decide_eq_true_eq] at h
    subst h
    rw [takeS_on n 64 (by decide) (by decide) (by show -(2 ^ 63) ≤ n; omega) (by show n < 2 ^ 63; omega) r]
    simp
  rw [if_neg k6] at h ⊢
  rw [if_neg (by rintro (h | h); exact k5 h; exact k6 h)]
  simp only [Bool.and_eq_true, decide_eq_true_eq] at h
  obtain ⟨rfl, rfl⟩ := h
  rfl
/-- what is read is written as it stood -/
theorem take_back (l : List Int) (hl : ∀ b ∈ l, 0 ≤ b ∧ b < 256) (op n m : Int) (r : List Int) (h : take l = some (op, n, m, r)) : rt op n m = true ∧ enc op n m ++ r = l ∧ (-9223372036854775808 ≤ n ∧ n ≤ 9223372036854775807) ∧ kd op ≠ 0 := by
  cases l with
  | nil => simp [take] at h
  | cons b l =>
    have hb := hl b (by simp)
    have hl' : ∀ c ∈ l, 0 ≤ c ∧ c < 256 := fun c hc => hl c (by simp [hc])
    simp only [take] at h
    by_cases k0 : kd b = 0
    · rw [if_pos k0] at h; cases h
    rw [if_neg k0] at h
    by_cases k2 : kd b = 2
    · rw [if_pos k2] at h
      cases l with
      | nil => simp at h
      | cons c l =>
        simp only [] at h
        by_cases c64 : c = 64
        · rw [if_pos c64] at h
          simp only [Option.some.injEq, Prod.mk.injEq] at h
          obtain ⟨rfl, rfl, rfl, rfl⟩ := h
          refine ⟨by unfold rt; rw [if_neg k0, if_pos k2]; simp, by unfold enc; rw [if_pos k2, c64]; simp, by omega, k0⟩
        · rw [if_neg c64] at h
          by_cases c14 : 1 ≤ 128 - c ∧ 128 - c ≤ 4
          · rw [if_pos c14] at h
            simp only [Option.some.injEq, Prod.mk.injEq] at h
            obtain ⟨rfl, rfl, rfl, rfl⟩ := h
            refine ⟨by unfold rt; rw [if_neg k0, if_pos k2]; simp; omega, ?_, by omega, k0⟩
            unfold enc
            rw [if_pos k2, if_neg (by omega), show 128 - (128 - c) = c by omega]
            simp
          · rw [if_neg c14] at h; cases h
    rw [if_neg k2] at h
    by_cases k3 : kd b = 3
    · rw [if_pos k3] at h
      by_cases he : (takeU l 32).2.2 = 0
      · rw [if_pos he] at h
        simp only [Option.some.injEq, Prod.mk.injEq] at h
        obtain ⟨rfl, rfl, rfl, rfl⟩ := h
        have hu := takeU_off l hl' 32 he
        rw [show ((2 : Int) ^ (32 : Int).toNat) = 4294967296 by rfl] at hu
        refine ⟨by unfold rt; rw [if_neg k0, if_neg k2, if_pos k3]; simp; omega, ?_, by omega, k0⟩
        unfold enc
        rw [if_neg k2, if_pos k3, List.cons_append, hu.2.2.2]
      · rw [if_neg he] at h; cases h
    rw [if_neg k3] at h
    by_cases k4 : kd b = 4
    · rw [if_pos k4] at h
      by_cases he : (takeU l 1).2.2 = 0
      · rw [if_pos he] at h
        have hu := takeU_off l hl' 1 he
        have hl2 : ∀ c ∈ (takeU l 1).2.1, 0 ≤ c ∧ c < 256 := fun c hc => hl' c (by rw [← hu.2.2.2]; simp [hc])
        by_cases he2 : (takeU (takeU l 1).2.1 32).2.2 = 0
        · rw [if_pos he2] at h
          simp only [Option.some.injEq, Prod.mk.injEq] at h
          obtain ⟨rfl, rfl, rfl, rfl⟩ := h
          have hu2 := takeU_off _ hl2 32 he2
          rw [show ((2 : Int) ^ (32 : Int).toNat) = 4294967296 by rfl] at hu2
          rw [show ((2 : Int) ^ (1 : Int).toNat) = 2 by rfl] at hu
          refine ⟨by unfold rt; rw [if_neg k0, if_neg k2, if_neg k3, if_pos k4]; simp; omega, ?_, by omega, k0⟩
          unfold enc
          rw [if_neg k2, if_neg k3, if_pos k4, List.cons_append, List.append_assoc, hu2.2.2.2, hu.2.2.2]
        · rw [if_neg he2] at h; cases h
      · rw [if_neg he] at h; cases h
    rw [if_neg k4] at h
    by_cases k5 : kd b = 5
    · rw [if_pos k5] at h
      by_cases he : (takeS l 32).2.2 = 0
      · rw [if_pos he] at h
        simp only [Option.some.injEq, Prod.mk.injEq] at h
        obtain ⟨rfl, rfl, rfl, rfl⟩ := h
        have hu := takeS_off l hl' 32 he
        rw [show ((2 : Int) ^ ((32 : Int).toNat - 1)) = 2147483648 by rfl] at hu
        refine ⟨by unfold rt; rw [if_neg k0, if_neg k2, if_neg k3, if_neg k4, if_pos k5]; simp; omega, ?_, by omega, k0⟩
        unfold enc
        rw [if_neg k2, if_neg k3, if_neg k4, if_pos (.inl k5), List.cons_append, hu.2.2.1]
      · rw [if_neg he] at h; cases h
    rw [if_neg k5] at h
    by_cases k6 : kd b = 6
    · rw [if_pos k6] at h
      by_cases he : (takeS l 64).2.2 = 0
      · rw [if_pos he] at h
        simp only [Option.some.injEq, Prod.mk.injEq] at h
        obtain ⟨rfl, rfl, rfl, rfl⟩ := h
        have hu := takeS_off l hl' 64 he
        refine ⟨by unfold rt; rw [if_neg k0, if_neg k2, if_neg k3, if_neg k4, if_neg k5, if_pos k6]; simp, ?_, hu.2.2.2, k0⟩
        unfold enc
        rw [if_neg k2, if_neg k3, if_neg k4, if_pos (.inr k6), List.cons_append, hu.2.2.1]
      · rw [if_neg he] at h; cases h
    rw [if_neg k6] at h
    simp only [Option.some.injEq, Prod.mk.injEq] at h
    obtain ⟨rfl, rfl, rfl, rfl⟩ := h
    refine ⟨by unfold rt; rw [if_neg k0, if_neg k2, if_neg k3, if_neg k4, if_neg k5, if_neg k6]; simp, ?_, by omega, k0⟩
    unfold enc
    rw [if_neg k2, if_neg k3, if_neg k4, if_neg (by rintro (h | h); exact k5 h; exact k6 h)]
    simp
theorem encU_bytes (n : Nat) : ∀ b ∈ encU n, 0 ≤ b ∧ b < 256 := (form_encU n).bytes
theorem encS_bytes (n : Int) : ∀ b ∈ encS n, 0 ≤ b ∧ b < 256 := (form_encS n).bytes
theorem enc_bytes (op n m : Int) (h : rt op n m = true) : ∀ b ∈ enc op n m, 0 ≤ b ∧ b < 256 := by
  have k0 : kd op ≠ 0 := by intro k0; unfold rt at h; rw [if_pos k0] at h; cases h
  have ho := kd_byte op k0
  intro b hb
  unfold enc at hb
  simp only [List.mem_cons] at hb
  rcases hb with rfl | hb
  · exact ho
  · split at hb
    · rename_i k2
      unfold rt at h
      rw [if_neg k0, if_pos k2] at h
      simp only [Bool.and_eq_true, decide_eq_true_eq] at h
      simp at hb
      subst hb
      split <;> omega
    · split at hb
      · exact encU_bytes _ b hb
      · split at hb
        · simp only [List.mem_append] at hb
          rcases hb with hb | hb
          · exact encU_bytes _ b hb
          · exact encU_bytes _ b hb
        · split at hb
          · exact encS_bytes _ b hb
          · simp at hb
/-- an instruction has at most 13 bytes -/
theorem enc_len (op n m : Int) (hn0 : -9223372036854775808 ≤ n) (hn1 : n ≤ 9223372036854775807) (h : rt op n m = true) : (enc op n m).length ≤ 20 ∧ 1 ≤ (enc op n m).length := by
  have k0 : kd op ≠ 0 := by intro k0; unfold rt at h; rw [if_pos k0] at h; cases h
  unfold rt at h
  unfold enc
  rw [if_neg k0] at h
  simp only [List.length_cons]
  split
  · simp
  · rename_i k2
    rw [if_neg k2] at h
    split
    · have := encU_len63 (n := n.toNat) (by omega); omega
    · rename_i k3
      rw [if_neg k3] at h
      split
      · rename_i k4
        rw [if_pos k4] at h
        simp only [Bool.and_eq_true, decide_eq_true_eq] at h
        have := encU_len63 (n := n.toNat) (by omega)
        have := encU_len63 (n := m.toNat) (by omega)
        simp; omega
      · split
        · have := encS_len64 hn0 hn1; omega
        · simp
end Go.Ob.Inst
