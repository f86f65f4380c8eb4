/- Numbers in memories: plain laws of what is stored and loaded. -/
import Derived.Test.YtiacmfgkbgfhkaaLinEx
namespace Go.Proofs.Ytiacmfgkbgfhkaa.Lin
open Go.Ob Go.RowKit Go.Proofs.YtiacmfgkbgfhkaaW.PrintWords
set_option linter.unusedVariables false
set_option linter.unusedSimpArgs false
theorem emod_two (v m : Int) (hm : 0 < m) : v % 256 + 256 * (v / 256 % m) = v % (256 * m) := by
  have h1 : v = (v % 256 + 256 * (v / 256 % m)) + (256 * m) * (v / 256 / m) := by
    have a := Int.emod_add_mul_ediv v 256
    have b := Int.emod_add_mul_ediv (v / 256) m
    have c : (256 * m) * (v / 256 / m) = 256 * (m * (v / 256 / m)) := by rw [Int.mul_assoc]
    rw [c]
    omega
  have h2 := Int.emod_nonneg (v / 256) (show m ≠ 0 by omega)
  have h3 := Int.emod_lt_of_pos (v / 256) hm
  have h4 : (v % 256 + 256 * (v / 256 % m)) % (256 * m) = v % 256 + 256 * (v / 256 % m) := Int.emod_eq_of_lt (by omega) (by omega)
  rw [← h4]
  conv => rhs; rw [h1]
  rw [Int.add_mul_emod_self_left]
theorem le_bytesOf (v : Int) (n : Nat) : le (bytesOf v n) = v % 256 ^ n := by
  induction n generalizing v with
  | zero => simp [bytesOf, le, Int.emod_one]
  | succ n ih =>
    rw [bytesOf, le, ih, Int.pow_succ, Int.mul_comm (256 ^ n) 256]
    exact emod_two v (256 ^ n) (Int.pow_pos (by decide))
theorem bytesOf_le (B : List Int) (h : ∀ b ∈ B, 0 ≤ b ∧ b < 256) : bytesOf (le B) B.length = B := by
  induction B with
  | nil => rfl
  | cons b B ih =>
    have hb := h b (by simp)
    rw [List.length_cons, bytesOf, le]
    rw [show (b + 256 * le B) % 256 = b by omega, show (b + 256 * le B) / 256 = le B by omega, ih (fun x hx => h x (by simp [hx]))]
theorem bytesOf_wrap (v : Int) (n : Nat) (hn : n = 4 ∨ n = 8) : bytesOf (wrap64 v) n = bytesOf v n := by
  rcases hn with rfl | rfl
  all_goals
    simp only [bytesOf, List.cons.injEq, and_true]
    unfold wrap64
    omega
theorem wrap_pow (v : Int) (hv : -9223372036854775808 ≤ v ∧ v ≤ 9223372036854775807) : wrap64 (v % 256 ^ 8) = v := by
  simp only [Int.reducePow]
  unfold wrap64
  omega
theorem str_size (m : ByteArray) (addr off n v : Int) (h : okAt m.size (plc addr off) n = true) : (str m addr off n v).size = m.size := by
  obtain ⟨hN, hk⟩ := okAt_iff.mp h
  obtain ⟨N, rfl⟩ := Int.eq_ofNat_of_zero_le (show 0 ≤ n by omega)
  obtain ⟨K, hK⟩ := Int.eq_ofNat_of_zero_le (plc_bd addr off).1
  unfold str
  rw [h, if_pos rfl, hK]
  simp only [Int.toNat_natCast, ByteArray.size_append, ByteArray.size_extract, strOfNums_size, bytesOf_length]
  omega
theorem str_bl (m : ByteArray) (addr off v : Int) (K N : Nat) (hK : plc addr off = K) (h : okAt m.size (plc addr off) N = true) : bl (str m addr off N v) = (bl m).take K ++ (bytesOf v N ++ (bl m).drop (K + N)) := by
  obtain ⟨hN, hk⟩ := okAt_iff.mp h
  unfold str
  rw [h, if_pos rfl, hK]
  simp only [Int.toNat_natCast]
  rw [← text_spl m K N v (by omega), bl_num]
  · simp [spl, bytesOf_length]
  · intro b hb
    simp only [spl, List.mem_append] at hb
    rcases hb with hb | hb | hb
    · exact bl_bytes m b (List.mem_of_mem_take hb)
    · exact bytesOf_bytes v N b hb
    · exact bl_bytes m b (List.mem_of_mem_drop hb)
/-- what was stored is loaded as it was: its low bytes -/
theorem ldr_str (m : ByteArray) (addr off v : Int) (N : Nat) (h : okAt m.size (plc addr off) N = true) : ldr (str m addr off N v) addr off N = wrap64 (v % 256 ^ N) := by
  obtain ⟨hN, hk⟩ := okAt_iff.mp h
  obtain ⟨K, hK⟩ := Int.eq_ofNat_of_zero_le (plc_bd addr off).1
  unfold ldr ldv
  rw [str_size _ _ _ _ _ h, h, if_pos rfl, str_bl m addr off v K N hK h, hK]
  simp only [Int.toNat_natCast]
  rw [List.drop_append_of_le_length (by rw [List.length_take, bl_length]; omega), List.drop_eq_nil_of_le (by rw [List.length_take]; omega), List.nil_append, List.take_append_of_le_length (by rw [bytesOf_length]; exact Nat.le_refl _), List.take_of_length_le (by rw [bytesOf_length]; exact Nat.le_refl _), le_bytesOf]
theorem str_head (m : ByteArray) (addr off v : Int) (K N : Nat) (hK : plc addr off = K) (h : okAt m.size (plc addr off) N = true) : (str m addr off N v).extract 0 K = m.extract 0 K := by
  obtain ⟨hN, hk⟩ := okAt_iff.mp h
  apply bl_inj
  rw [bl_extract, bl_extract, str_bl m addr off v K N hK h]
  simp only [List.drop_zero, Nat.sub_zero]
  rw [List.take_append_of_le_length (by rw [List.length_take, bl_length]; omega), List.take_take, Nat.min_self]
theorem str_tail (m : ByteArray) (addr off v : Int) (K N : Nat) (hK : plc addr off = K) (h : okAt m.size (plc addr off) N = true) : (str m addr off N v).extract (K + N) m.size = m.extract (K + N) m.size := by
  obtain ⟨hN, hk⟩ := okAt_iff.mp h
  apply bl_inj
  rw [bl_extract, bl_extract, str_bl m addr off v K N hK h, ← List.append_assoc]
  rw [List.drop_append_of_le_length (by simp [bytesOf_length, bl_length]; omega), List.drop_eq_nil_of_le (by simp [bytesOf_length, bl_length]; omega), List.nil_append]
/-- of the same bytes the same memory is made again -/
theorem str_back (m : ByteArray) (addr off v : Int) (N : Nat) (h : okAt m.size (plc addr off) N = true) : str (str m addr off N v) addr off N (ldr m addr off N) = m := by
  obtain ⟨hN, hk⟩ := okAt_iff.mp h
  obtain ⟨K, hK⟩ := Int.eq_ofNat_of_zero_le (plc_bd addr off).1
  have hs : okAt (str m addr off N v).size (plc addr off) N = true := by rw [str_size _ _ _ _ _ h]; exact h
  have hlN : (((bl m).drop K).take N).length = N := by rw [List.length_take, List.length_drop, bl_length]; omega
  have hb : bytesOf (ldr m addr off N) N = ((bl m).drop K).take N := by
    unfold ldr ldv
    rw [h, if_pos rfl, hK, bytesOf_wrap _ _ (by omega)]
    simp only [Int.toNat_natCast]
    have := bytesOf_le (((bl m).drop K).take N) (fun b hb => bl_bytes m b (List.mem_of_mem_drop (List.mem_of_mem_take hb)))
    rwa [hlN] at this
  apply bl_inj
  rw [str_bl _ addr off _ K N hK hs, hb, str_bl m addr off v K N hK h]
  have hd : ((bl m).take K ++ (bytesOf v N ++ (bl m).drop (K + N))).drop (K + N) = (bl m).drop (K + N) := by
    rw [← List.append_assoc]
    exact List.drop_left' (by simp [bytesOf_length, bl_length]; omega)
  rw [hd, List.take_append_of_le_length (by rw [List.length_take, bl_length]; omega), List.take_take, Nat.min_self, ← List.drop_drop, List.take_append_drop, List.take_append_drop]
theorem okAt_half (size : Nat) (addr : Int) : okAt size (plc addr 0) 8 = okAt size (plc addr 4) 4 := by
  rw [Bool.eq_iff_iff, okAt_iff, okAt_iff]
  unfold plc
  omega
theorem okAt_first (size : Nat) (addr : Int) (h : okAt size (plc addr 0) 8 = true) : okAt size (plc addr 0) 4 = true := by
  rw [okAt_iff] at h ⊢
  omega
/-- eight bytes are four, and the four behind them -/
theorem halves (m : ByteArray) (addr : Int) (h : okAt m.size (plc addr 0) 8 = true) : (0 ≤ ldr m addr 0 4 ∧ ldr m addr 0 4 < 4294967296) ∧ ldr m addr 0 8 = bits .or .i64 (ldr m addr 0 4) (wrap64 (ldr m addr 4 4 * 4294967296)) := by
  have h1 := okAt_first _ _ h
  have h2 := h
  rw [okAt_half] at h2
  obtain ⟨_, hk⟩ := okAt_iff.mp h
  obtain ⟨K, hK⟩ := Int.eq_ofNat_of_zero_le (plc_bd addr 0).1
  have hK4 : plc addr 4 = ((K + 4 : Nat) : Int) := by unfold plc at hK ⊢; omega
  unfold ldr ldv
  rw [h, h1, h2, if_pos rfl, if_pos rfl, if_pos rfl, hK, hK4]
  simp only [Int.toNat_natCast]
  have t8 : (8 : Int).toNat = 8 := rfl
  have t4 : (4 : Int).toNat = 4 := rfl
  rw [t8, t4]
  have hsplit : ((bl m).drop K).take 8 = ((bl m).drop K).take 4 ++ ((bl m).drop (K + 4)).take 4 := by
    rw [← List.drop_drop, show 8 = 4 + 4 from rfl, List.take_add]
  have hl4 : (((bl m).drop K).take 4).length = 4 := by rw [List.length_take, List.length_drop, bl_length]; omega
  have hl5 : (((bl m).drop (K + 4)).take 4).length = 4 := by rw [List.length_take, List.length_drop, bl_length]; omega
  have b1 := le_bd (((bl m).drop K).take 4) (fun b hb => bl_bytes m b (List.mem_of_mem_drop (List.mem_of_mem_take hb)))
  have b2 := le_bd (((bl m).drop (K + 4)).take 4) (fun b hb => bl_bytes m b (List.mem_of_mem_drop (List.mem_of_mem_take hb)))
  rw [hsplit, le_append, hl4]
  rw [hl4] at b1
  rw [hl5] at b2
  simp only [Int.reducePow] at b1 b2 ⊢
  generalize le (((bl m).drop K).take 4) = x at *
  generalize le (((bl m).drop (K + 4)).take 4) = y at *
  have w1 : wrap64 x = x := by unfold wrap64; omega
  have w2 : wrap64 y = y := by unfold wrap64; omega
  rw [w1, w2]
  refine ⟨b1, ?_⟩
  rw [or_comm_i64, or_add _ x (by unfold wrap64; omega) (by unfold wrap64; omega) 32 (by decide) (by unfold wrap64; omega) b1.1 (by omega)]
  unfold wrap64
  omega
end Go.Proofs.Ytiacmfgkbgfhkaa.Lin
