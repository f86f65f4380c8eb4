/- Where a read of a machine that begins falls: plain. -/
import Derived.Test.YtgaiehnbjggmdaaDoorFRegs
namespace Go.Proofs.YtgaiehnbjggmdaaDoor.F
open Go.Ob Go.RowKit Go.Proofs.YtgaiehnbjggmdaaDoorW.PrintWords Go.Proofs.YtgaiehnbjggmdaaDoorW.PrintMore
theorem find_data (code : ByteArray) (data stack : List Int) (m0 m1 : Int) (ds : List D3) (i : Nat) (h : i + 8 ≤ data.length) : fndF (65536 + (i : Int)) 8 false (regs code data stack m0 m1 ds) 0 = some (1, i) := by
  have h1 : inR (65536, strOfNums data, false) (65536 + (i : Int)) 8 = true := by
    simp only [inR, num_size, decide_eq_true_eq]
    omega
  have h2 : (65536 + (i : Int) - 65536).toNat = i := by omega
  simp only [regs, List.cons_append, List.nil_append, fndF, h1, h2]
  simp
/-- a region that ends ahead of the stack holds no word of it -/
theorem inR_far (a n : Int) (s : ByteArray) (f : Bool) (p : Int) (h : a + s.size < p + n) : inR (a, s, f) p n = false := by
  simp only [inR, decide_eq_false_iff_not]
  omega
theorem find_stack (code : ByteArray) (data stack : List Int) (m0 m1 : Int) (ds : List D3) (hd : data.length ≤ 100000) (hs : stack.length = 16384) (z0 : (news 0 m0 ds).size ≤ 65536) (z1 : (news 1 m1 ds).size ≤ 65536) :
    fndF 278520 8 false (regs code data stack m0 m1 ds) 0 = some ((regs code data stack m0 m1 ds).length - 1, 16376) := by
  have h1 := inR_far 65536 8 (strOfNums data) false 278520 (by rw [num_size]; omega)
  have h2 := inR_far (131072 + 65536 * 0) 8 (news 0 m0 ds) false 278520 (by omega)
  have h3 := inR_far (131072 + 65536 * 1) 8 (news 1 m1 ds) false 278520 (by omega)
  have h4 : inR (262144, strOfNums stack, false) 278520 8 = true := by
    simp only [inR, num_size, decide_eq_true_eq, hs]
    decide
  simp only [regs, memR]
  by_cases k0 : memOk 0 m0 <;> by_cases k1 : memOk 1 m1 <;> simp [k0, k1, fndF, h1, h4] <;> (try simp at h2 h3) <;> simp_all
theorem news_small (k e : Int) (ds : List D3) : (news k e ds).size ≤ 65536 := by
  unfold news
  split
  case isFalse => exact Nat.zero_le _
  case isTrue h =>
    rw [num_size, newM, lays_length, List.length_replicate]
    have he : e.toNat ≤ 12 := by
      simp only [memOk, decide_eq_true_eq] at h
      omega
    exact Nat.le_trans (Nat.pow_le_pow_right (by decide) he) (by decide)
theorem regs_ok (code : ByteArray) (data stack : List Int) (m0 m1 : Int) (ds : List D3) (hc : code.size ≤ 100000) (hd : data.length ≤ 100000) (hs : stack.length = 16384) : ∀ r ∈ regs code data stack m0 m1 ds, OkR r := by
  have n0 := news_small 0 m0 ds
  have n1 := news_small 1 m1 ds
  intro r hr
  simp only [regs, memR] at hr
  rcases List.mem_append.1 hr with hr | hr
  · rcases List.mem_append.1 hr with hr | hr
    · rcases List.mem_append.1 hr with hr | hr
      · rcases List.mem_cons.1 hr with rfl | hr
        · refine ⟨⟨by simp, by simp⟩, ?_⟩
          show code.size ≤ _
          omega
        · rw [List.mem_singleton] at hr
          subst hr
          refine ⟨⟨by simp, by simp⟩, ?_⟩
          show (strOfNums data).size ≤ _
          rw [num_size]
          omega
      · split at hr
        · rw [List.mem_singleton] at hr
          subst hr
          exact ⟨⟨by simp, by simp⟩, Nat.le_trans n0 (by decide)⟩
        · cases hr
    · split at hr
      · rw [List.mem_singleton] at hr
        subst hr
        exact ⟨⟨by simp, by simp⟩, Nat.le_trans n1 (by decide)⟩
      · cases hr
  · rw [List.mem_singleton] at hr
    subst hr
    refine ⟨⟨by simp, by simp⟩, ?_⟩
    show (strOfNums stack).size ≤ _
    rw [num_size]
    omega
theorem cl3_at (l : List R3) : ∀ (i : Nat) (h : i < l.length), (cl3 l)[i * 3]? = some (.int .i64 l[i].1) ∧ (cl3 l)[i * 3 + 1]? = some (.string l[i].2.1) ∧ (cl3 l)[i * 3 + 2]? = some (.bool l[i].2.2) := by
  induction l with
  | nil => intro i h; cases h
  | cons r l ih =>
    intro i h
    have e : cl3 (r :: l) = .int .i64 r.1 :: .string r.2.1 :: .bool r.2.2 :: cl3 l := rfl
    rw [e]
    cases i with
    | zero => exact ⟨rfl, rfl, rfl⟩
    | succ i =>
      have hi := ih i (by simpa using h)
      have e1 : (i + 1) * 3 = i * 3 + 1 + 1 + 1 := by omega
      rw [e1]
      exact hi
theorem add_zero_at (g j : Nat) : (⟨g, 0, none⟩ : Addr).add j = ⟨g, j, none⟩ := by
  unfold Addr.add
  split <;> simp_all
theorem cells_of_owned {w : World} {b n : Nat} {v : Value} {l : List R3} (h : w.ownsRow b 33 3 v n (cl3 l)) (hn : l.length = n) (h0 : 0 < n) :
    ∃ g cap, v = .slice (some ⟨g, 0, none⟩) n cap ∧ b ≤ g ∧ g < w.heap.size ∧ CellsR w (some ⟨g, 0, none⟩) l := by
  rcases h.2 with ⟨_, h1⟩ | ⟨g, cap, cur, h1, h2, h3, _, _, _, h7⟩
  · omega
  · have hg := blk_lt h3
    have hcur : ∀ j, j < n * 3 → cur[j]? = (cl3 l)[j]? := fun j hj => by
      rw [← h7, List.getElem?_take_of_lt hj, Array.getElem?_toList]
    refine ⟨g, cap, h1, h2, hg, fun i hi => ⟨_, rfl, hg, ?_, ?_, ?_⟩⟩
    · rw [add_zero_at]
      show w.cell? ⟨g, i * 3, none⟩ = _
      rw [blk_cell h3, hcur _ (by omega)]
      exact (cl3_at l i hi).1
    · rw [add_zero_at]
      show w.cell? ⟨g, i * 3 + 1, none⟩ = _
      rw [blk_cell h3, hcur _ (by omega)]
      exact (cl3_at l i hi).2.1
    · rw [add_zero_at]
      show w.cell? ⟨g, i * 3 + 2, none⟩ = _
      rw [blk_cell h3, hcur _ (by omega)]
      exact (cl3_at l i hi).2.2
theorem b8_at (l : List Int) (Y : List Int) : ∀ (i : Nat) (h : i < l.length), (((b8 l ++ Y).drop (8 * i)).take 8) = bytesOf l[i] 8 := by
  intro i h
  have e : l = l.take i ++ (l[i] :: l.drop (i + 1)) := by rw [List.getElem_cons_drop, List.take_append_drop]
  have e2 : b8 l ++ Y = b8 (l.take i) ++ (bytesOf l[i] 8 ++ (b8 (l.drop (i + 1)) ++ Y)) := by
    conv => lhs; rw [e]
    rw [b8_append, show l[i] :: l.drop (i + 1) = [l[i]] ++ l.drop (i + 1) from rfl, b8_append, b8_one]
    simp only [List.append_assoc]
  have e3 : (b8 (l.take i)).length = 8 * i := by
    rw [b8_length, List.length_take, Nat.min_eq_left (Nat.le_of_lt h)]
  have e4 : (bytesOf l[i] 8).length = 8 := by
    have := b8_length [l[i]]
    rw [b8_one] at this
    exact this
  rw [e2, List.drop_left' e3, List.take_left' e4]
theorem read_arg (X args : List Int) (hX : ∀ b ∈ X, 0 ≤ b ∧ b < 256) (i : Nat) (h : i < args.length) (hr : -9223372036854775808 ≤ args[i] ∧ args[i] ≤ 9223372036854775807) :
    wrap64 (le (((bl (strOfNums (aI X args args.length))).drop (8 * i)).take 8)) = args[i] := by
  have hb : ∀ b ∈ aI X args args.length, 0 ≤ b ∧ b < 256 := by
    intro b hm
    rw [aI] at hm
    rcases List.mem_append.1 hm with hm | hm
    · exact b8_bytes _ b hm
    · exact hX b (List.mem_of_mem_drop hm)
  rw [bl_num _ hb, aI, List.take_length, b8_at args _ i h]
  exact le_bytesOf8 _ hr
theorem bytes8_len (v : Int) : (bytesOf v 8).length = 8 := by
  have := b8_length [v]
  rw [b8_one] at this
  exact this
theorem read_top (v : Int) (hr : -9223372036854775808 ≤ v ∧ v ≤ 9223372036854775807) :
    wrap64 (le (((bl (strOfNums (List.replicate 16376 0 ++ bytesOf v 8))).drop 16376).take 8)) = v := by
  have hb : ∀ b ∈ List.replicate 16376 (0 : Int) ++ bytesOf v 8, 0 ≤ b ∧ b < 256 := by
    intro b hm
    rcases List.mem_append.1 hm with hm | hm
    · have := List.eq_of_mem_replicate hm
      omega
    · have h8 := b8_bytes [v] b
      rw [b8_one] at h8
      exact h8 hm
  rw [bl_num _ hb, List.drop_left' (List.length_replicate), List.take_of_length_le (by rw [bytes8_len]; exact Nat.le_refl 8)]
  exact le_bytesOf8 _ hr
theorem read_calls (gl args : List Int) (h : args.length ≤ 4) : (((bl (strOfNums (aI (dataL gl) args args.length))).drop 32).take 8) = List.replicate 8 0 := by
  have hb : ∀ b ∈ aI (dataL gl) args args.length, 0 ≤ b ∧ b < 256 := by
    intro b hm
    rw [aI] at hm
    rcases List.mem_append.1 hm with hm | hm
    · exact b8_bytes _ b hm
    · exact dataL_bytes gl b (List.mem_of_mem_drop hm)
  rw [bl_num _ hb, aI, List.take_length, List.drop_append, List.drop_of_length_le (by rw [b8_length]; omega), List.nil_append, List.drop_drop, b8_length,
    show 8 * args.length + (32 - 8 * args.length) = 32 by omega, dataL, List.drop_append_of_le_length (by rw [List.length_replicate]; omega), List.drop_replicate]
  exact List.take_left' (by rw [List.length_replicate])
end Go.Proofs.YtgaiehnbjggmdaaDoor.F
