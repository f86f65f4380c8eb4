/- No two regions touch, and where the law of their places reads: plain. -/
import Derived.Test.YtgaiehnbjggmdaaDoorFStarts
namespace Go.Proofs.YtgaiehnbjggmdaaDoor.F
open Go.Ob Go.RowKit Go.Proofs.YtgaiehnbjggmdaaDoorW.PrintWords Go.Proofs.YtgaiehnbjggmdaaDoorW.PrintMore
set_option linter.unusedVariables false
set_option linter.unusedSimpArgs false
theorem news_4096 (k e : Int) (ds : List D3) : (news k e ds).size ≤ 4096 := by
  unfold news
  split
  case isFalse => exact Nat.zero_le _
  case isTrue h =>
    rw [num_size, newM, lays_length, List.length_replicate]
    have he : e.toNat ≤ 12 := by
      simp only [memOk, decide_eq_true_eq] at h
      omega
    exact le_4096 _ he
theorem news_8 (k e : Int) (ds : List D3) (h : memOk k e = true) : 8 ≤ (news k e ds).size := by
  unfold news
  rw [if_pos h, num_size, newM, lays_length, List.length_replicate]
  have he : 3 ≤ e.toNat := by
    simp only [memOk, decide_eq_true_eq] at h
    omega
  exact Nat.pow_le_pow_right (n := 2) (by decide) he
/-- one behind the other, with something between -/
def Apart (a b : R3) : Prop := b.1 + b.2.1.size < a.1 ∨ a.1 + a.2.1.size < b.1
theorem regs_apart (code : ByteArray) (data stack : List Int) (m0 m1 : Int) (ds : List D3) (hd : data.length ≤ 10000) (hs : stack.length = 16384) : (regs code data stack m0 m1 ds).Pairwise Apart := by
  have n0 := news_4096 0 m0 ds
  have n1 := news_4096 1 m1 ds
  have e1 : (strOfNums data).size = data.length := num_size data
  have e2 : (strOfNums stack).size = 16384 := by rw [num_size, hs]
  simp only [regs, memR]
  by_cases k0 : memOk 0 m0 <;> by_cases k1 : memOk 1 m1 <;> simp [k0, k1, Apart] <;> omega
theorem regs_small (code : ByteArray) (data stack : List Int) (m0 m1 : Int) (ds : List D3) (hc : code.size ≤ 100000) (hd : data.length ≤ 10000) (hs : stack.length = 16384) : ∀ r ∈ regs code data stack m0 m1 ds, 0 ≤ r.1 ∧ r.1 ≤ 1048576 ∧ r.2.1.size ≤ 100000 := by
  have n0 := news_4096 0 m0 ds
  have n1 := news_4096 1 m1 ds
  have e1 : (strOfNums data).size = data.length := num_size data
  have e2 : (strOfNums stack).size = 16384 := by rw [num_size, hs]
  simp only [regs, memR]
  by_cases k0 : memOk 0 m0 <;> by_cases k1 : memOk 1 m1 <;> simp [k0, k1] <;> omega
theorem read_global (gl : List Int) (i : Nat) (h : i < gl.length) (hr : -9223372036854775808 ≤ gl[i] ∧ gl[i] ≤ 9223372036854775807) : wrap64 (le (((bl (strOfNums (dataL gl))).drop (40 + 8 * i)).take 8)) = gl[i] := by
  have e : (dataL gl).drop (40 + 8 * i) = (b8 gl ++ []).drop (8 * i) := by
    rw [dataL, List.append_nil, ← List.drop_drop, List.drop_left' (by rw [List.length_replicate])]
  rw [bl_num _ (dataL_bytes gl), e, b8_at gl [] i h]
  exact le_bytesOf8 _ hr
/-- the regions that the law of places reads -/
structure ApOk (RL : List R3) (gl : List Int) (m0 m1 : Int) : Prop where
  ok : ∀ r ∈ RL, OkR r
  len : 3 ≤ RL.length ∧ RL.length ≤ 5
  apart : RL.Pairwise Apart
  small : ∀ r ∈ RL, 0 ≤ r.1 ∧ r.1 ≤ 1048576 ∧ r.2.1.size ≤ 100000
  glob : ∀ i, i < gl.length → fndF (65536 + ((40 + 8 * i : Nat) : Int)) 8 false RL 0 = some (1, 40 + 8 * i)
  globv : ∀ i (h : i < gl.length), wrap64 (le (((bl (RL.getD 1 (0, ⟨#[]⟩, false)).2.1).drop (40 + 8 * i)).take 8)) = gl[i]
  globz : (RL.getD 1 (0, ⟨#[]⟩, false)).2.1.size = 40 + 8 * gl.length
  mem0 : memOk 0 m0 = true → ∃ i k, fndF 131072 8 false RL 0 = some (i, k) ∧ i < RL.length ∧ k + 8 ≤ (RL.getD i (0, ⟨#[]⟩, false)).2.1.size
  no0 : memOk 0 m0 = false → fndF 131072 8 false RL 0 = none
  mem1 : memOk 1 m1 = true → ∃ i k, fndF 196608 8 false RL 0 = some (i, k) ∧ i < RL.length ∧ k + 8 ≤ (RL.getD i (0, ⟨#[]⟩, false)).2.1.size
  no1 : memOk 1 m1 = false → fndF 196608 8 false RL 0 = none
  top : fndF 278520 8 false RL 0 = some (RL.length - 1, 16376)
  topz : (RL.getD (RL.length - 1) (0, ⟨#[]⟩, false)).2.1.size = 16384
  over : fndF 278521 8 false RL 0 = none
theorem inR_iff (a n : Int) (s : ByteArray) (f : Bool) (p : Int) : inR (a, s, f) p n = decide (a ≤ p ∧ p - a ≤ (s.size : Int) ∧ n ≤ (s.size : Int) - (p - a)) := rfl
theorem find_mem0 (code : ByteArray) (data stack : List Int) (m0 m1 : Int) (ds : List D3) (hd : data.length ≤ 10000) (h : memOk 0 m0 = true) : fndF 131072 8 false (regs code data stack m0 m1 ds) 0 = some (2, 0) := by
  have n0 := news_8 0 m0 ds h
  have h1 := inR_far 65536 8 (strOfNums data) false 131072 (by rw [num_size]; omega)
  have h2 : inR (131072, news 0 m0 ds, false) 131072 8 = true := by rw [inR_iff, decide_eq_true_eq]; omega
  simp only [regs, memR]
  by_cases k1 : memOk 1 m1 <;> simp [h, k1, fndF, h1, h2]
theorem find_mem1 (code : ByteArray) (data stack : List Int) (m0 m1 : Int) (ds : List D3) (hd : data.length ≤ 10000) (h : memOk 1 m1 = true) : ∃ i, (i = 2 ∨ i = 3) ∧ fndF 196608 8 false (regs code data stack m0 m1 ds) 0 = some (i, 0) ∧ i < (regs code data stack m0 m1 ds).length ∧ (regs code data stack m0 m1 ds).getD i (0, ⟨#[]⟩, false) = (196608, news 1 m1 ds, false) := by
  have n1 := news_8 1 m1 ds h
  have n0 := news_4096 0 m0 ds
  have h1 := inR_far 65536 8 (strOfNums data) false 196608 (by rw [num_size]; omega)
  have h2 := inR_far 131072 8 (news 0 m0 ds) false 196608 (by omega)
  have h3 : inR (196608, news 1 m1 ds, false) 196608 8 = true := by rw [inR_iff, decide_eq_true_eq]; omega
  simp only [regs, memR]
  by_cases k0 : memOk 0 m0
  · exact ⟨3, .inr rfl, by simp [h, k0, fndF, h1, h2, h3], by simp [h, k0], by simp [h, k0]⟩
  · exact ⟨2, .inl rfl, by simp [h, k0, fndF, h1, h3], by simp [h, k0], by simp [h, k0]⟩
theorem inR_low (a n : Int) (s : ByteArray) (f : Bool) (p : Int) (h : p < a) : inR (a, s, f) p n = false := by
  rw [inR_iff, decide_eq_false_iff_not]
  omega
theorem find_no0 (code : ByteArray) (data stack : List Int) (m0 m1 : Int) (ds : List D3) (hd : data.length ≤ 10000) (h : memOk 0 m0 = false) : fndF 131072 8 false (regs code data stack m0 m1 ds) 0 = none := by
  have h1 := inR_far 65536 8 (strOfNums data) false 131072 (by rw [num_size]; omega)
  have h2 := inR_low 196608 8 (news 1 m1 ds) false 131072 (by omega)
  have h3 := inR_low 262144 8 (strOfNums stack) false 131072 (by omega)
  simp only [regs, memR]
  by_cases k1 : memOk 1 m1 <;> simp [h, k1, fndF, h1, h2, h3]
theorem find_no1 (code : ByteArray) (data stack : List Int) (m0 m1 : Int) (ds : List D3) (hd : data.length ≤ 10000) (h : memOk 1 m1 = false) : fndF 196608 8 false (regs code data stack m0 m1 ds) 0 = none := by
  have n0 := news_4096 0 m0 ds
  have h1 := inR_far 65536 8 (strOfNums data) false 196608 (by rw [num_size]; omega)
  have h2 := inR_far 131072 8 (news 0 m0 ds) false 196608 (by omega)
  have h3 := inR_low 262144 8 (strOfNums stack) false 196608 (by omega)
  simp only [regs, memR]
  by_cases k0 : memOk 0 m0 <;> simp [h, k0, fndF, h1, h2, h3]
theorem find_over (code : ByteArray) (data stack : List Int) (m0 m1 : Int) (ds : List D3) (hd : data.length ≤ 10000) (hs : stack.length = 16384) : fndF 278521 8 false (regs code data stack m0 m1 ds) 0 = none := by
  have n0 := news_4096 0 m0 ds
  have n1 := news_4096 1 m1 ds
  have h1 := inR_far 65536 8 (strOfNums data) false 278521 (by rw [num_size]; omega)
  have h2 := inR_far 131072 8 (news 0 m0 ds) false 278521 (by omega)
  have h3 := inR_far 196608 8 (news 1 m1 ds) false 278521 (by omega)
  have h4 := inR_far 262144 8 (strOfNums stack) false 278521 (by rw [num_size, hs]; omega)
  simp only [regs, memR]
  by_cases k0 : memOk 0 m0 <;> by_cases k1 : memOk 1 m1 <;> simp [k0, k1, fndF, h1, h2, h3, h4]
theorem regs_two (code : ByteArray) (data stack : List Int) (m0 m1 : Int) (ds : List D3) (h : memOk 0 m0 = true) : (regs code data stack m0 m1 ds).getD 2 (0, ⟨#[]⟩, false) = (131072, news 0 m0 ds, false) := by
  simp only [regs, memR, h]
  simp
theorem apOk_of (code : ByteArray) (gl : List Int) (m0 m1 : Int) (ds : List D3) (hc : code.size ≤ 100000) (hgl : gl.length ≤ 1000) (hb : ∀ v ∈ gl, -9223372036854775808 ≤ v ∧ v ≤ 9223372036854775807) :
    ApOk (regs code (dataL gl) (List.replicate 16384 0) m0 m1 ds) gl m0 m1 := by
  have hd : (dataL gl).length = 40 + 8 * gl.length := dataL_len gl
  have hst : (List.replicate 16384 (0 : Int)).length = 16384 := List.length_replicate
  refine ⟨regs_ok _ _ _ _ _ _ hc (by omega) hst, regs_len _ _ _ _ _ _, regs_apart _ _ _ _ _ _ (by omega) hst, regs_small _ _ _ _ _ _ hc (by omega) hst, fun i h => find_data _ _ _ _ _ _ _ (by omega), fun i h => ?_, ?_, fun h => ?_, find_no0 _ _ _ _ _ _ (by omega), fun h => ?_, find_no1 _ _ _ _ _ _ (by omega), find_stack _ _ _ _ _ _ (by omega) hst (news_small _ _ _) (news_small _ _ _), ?_, find_over _ _ _ _ _ _ (by omega) hst⟩
  · rw [regs_one]
    exact read_global gl i h (hb _ (List.getElem_mem _))
  · rw [regs_one]
    show (strOfNums _).size = _
    rw [num_size, hd]
  · have n0 := news_8 0 m0 ds h
    refine ⟨2, 0, find_mem0 _ _ _ _ _ _ (by omega) h, Nat.lt_of_lt_of_le (by decide) (regs_len _ _ _ _ _ _).1, ?_⟩
    rw [regs_two _ _ _ _ _ _ h]
    exact n0
  · have n1 := news_8 1 m1 ds h
    obtain ⟨i, _, f, hi, hg⟩ := find_mem1 code (dataL gl) (List.replicate 16384 0) m0 m1 ds (by omega) h
    refine ⟨i, 0, f, hi, ?_⟩
    rw [hg]
    exact n1
  · rw [regs_last]
    show (strOfNums _).size = _
    rw [num_size, hst]
end Go.Proofs.YtgaiehnbjggmdaaDoor.F
