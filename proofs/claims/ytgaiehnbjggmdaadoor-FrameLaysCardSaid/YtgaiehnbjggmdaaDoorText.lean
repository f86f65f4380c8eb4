/- Plain lemmas on texts seen as lists of numbers 0 to 255. -/
import Derived.Laws.BytesArg
import Derived.Lib.Strings
import Derived.Laws.BitsAllLaws
import Derived.Laws.Bits64b
namespace Go.Ob
open Go

/-- a text's bytes as numbers -/
def bl (s : ByteArray) : List Int := s.data.toList.map fun b => (b.toNat : Int)
theorem bl_length (s : ByteArray) : (bl s).length = s.size := by rw [bl, List.length_map, Array.length_toList]; rfl
theorem bl_bytes (s : ByteArray) : ∀ b ∈ bl s, 0 ≤ b ∧ b < 256 := by
  intro b hb
  simp only [bl, List.mem_map] at hb
  obtain ⟨x, _, rfl⟩ := hb
  have := x.toNat_lt
  omega
theorem u8_inj {a b : UInt8} (h : (a.toNat : Int) = (b.toNat : Int)) : a = b := UInt8.toNat_inj.mp (by omega)
theorem map_inj {l m : List UInt8} (h : l.map (fun b => (b.toNat : Int)) = m.map fun b => (b.toNat : Int)) : l = m := by
  induction l generalizing m with
  | nil => cases m with
    | nil => rfl
    | cons b m => simp at h
  | cons a l ih => cases m with
    | nil => simp at h
    | cons b m =>
      simp only [List.map_cons, List.cons.injEq] at h
      rw [u8_inj h.1, ih h.2]
theorem bl_inj {s t : ByteArray} (h : bl s = bl t) : s = t := by
  have := map_inj h
  cases s; cases t
  simp only [ByteArray.mk.injEq]
  exact Array.toList_inj.mp this
theorem toList_iff (s t : ByteArray) : s.toList = t.toList ↔ bl s = bl t := by
  rw [Lib.toList_data, Lib.toList_data]
  exact ⟨fun h => by rw [bl, bl, h], fun h => map_inj h⟩
theorem toList_iff_lit (s : ByteArray) (l : List UInt8) : s.toList = l ↔ bl s = l.map fun b => (b.toNat : Int) := by
  rw [Lib.toList_data]
  exact ⟨fun h => by rw [bl, h], fun h => map_inj h⟩
theorem bl_num (xs : List Int) (h : ∀ x ∈ xs, 0 ≤ x ∧ x < 256) : bl (strOfNums xs) = xs := by
  simp only [bl, strOfNums, List.map_map]
  induction xs with
  | nil => rfl
  | cons x xs ih =>
    have hx := h x (by simp)
    have hi := ih (fun y hy => h y (by simp [hy]))
    simp only [List.map_cons, List.cons.injEq]
    refine ⟨?_, hi⟩
    simp only [Function.comp_apply, UInt8.toNat_ofNat']
    omega
theorem num_bl (s : ByteArray) : strOfNums (bl s) = s := bl_inj (bl_num _ (bl_bytes s))
theorem bl_extract (s : ByteArray) (a b : Nat) : bl (s.extract a b) = ((bl s).drop a).take (b - a) := by
  simp only [bl, Lib.extract_data, List.map_take, List.map_drop]
theorem bl_append (s t : ByteArray) : bl (s ++ t) = bl s ++ bl t := by
  simp only [bl, ByteArray.data_append, Array.toList_append, List.map_append]
theorem bl_empty : bl ⟨#[]⟩ = [] := rfl

/-- or of 128 to a byte; the low seven bits of a byte -/
theorem or128 (v : Int) (h0 : 0 ≤ v) (h1 : v < 256) : bits .or .u8 v 128 = v % 128 + 128 := by
  have H : ∀ n : Fin 256, bits .or .u8 (n.val : Int) 128 = (n.val : Int) % 128 + 128 := by decide +kernel
  have := H ⟨v.toNat, by omega⟩
  simp only [Int.toNat_of_nonneg h0] at this
  exact this
theorem and127 (v : Int) (h0 : 0 ≤ v) (h1 : v < 256) : bits .and .u8 v 127 = v % 128 := by
  have H : ∀ n : Fin 256, bits .and .u8 (n.val : Int) 127 = (n.val : Int) % 128 := by decide +kernel
  have := H ⟨v.toNat, by omega⟩
  simp only [Int.toNat_of_nonneg h0] at this
  exact this
/-- an or of two u64 without a common bit -/
theorem or_u64 (lo hi : Int) (j : Nat) (h0 : 0 ≤ lo) (h1 : lo < 2 ^ j) (g0 : 0 ≤ hi) (g1 : hi < 18446744073709551616) (hd : hi % 2 ^ j = 0) (hl : lo < 18446744073709551616) :
    bits .or .u64 lo hi = lo + hi := by
  obtain ⟨a, rfl⟩ := Int.eq_ofNat_of_zero_le h0
  obtain ⟨b, rfl⟩ := Int.eq_ofNat_of_zero_le g0
  rw [bits_or_u64_nat a b (by omega) (by omega)]
  have ha : a < 2 ^ j := by exact_mod_cast h1
  have hb : b % 2 ^ j = 0 := by exact_mod_cast hd
  have hq : b = 2 ^ j * (b / 2 ^ j) := by have := Nat.div_add_mod b (2 ^ j); omega
  rw [Nat.or_comm, hq, ← Nat.two_pow_add_eq_or_of_lt ha]
  push_cast
  omega
theorem or_round (i : Nat) (hi : i < 10) (z b : Int) (hz0 : 0 ≤ z) (hz : z < 128 ^ i) (_hb0 : 0 ≤ b) (_hb : b < 128) :
    bits .or .u64 z ((b * 2 ^ (7 * i)) % 18446744073709551616) = (z + b * 128 ^ i) % 18446744073709551616 := by
  obtain rfl | rfl | rfl | rfl | rfl | rfl | rfl | rfl | rfl | rfl : i = 0 ∨ i = 1 ∨ i = 2 ∨ i = 3 ∨ i = 4 ∨ i = 5 ∨ i = 6 ∨ i = 7 ∨ i = 8 ∨ i = 9 := by omega
  · rw [or_u64 _ _ 0 hz0 (by omega) (by omega) (by omega) (by omega) (by omega)]; omega
  · rw [or_u64 _ _ 7 hz0 (by omega) (by omega) (by omega) (by omega) (by omega)]; omega
  · rw [or_u64 _ _ 14 hz0 (by omega) (by omega) (by omega) (by omega) (by omega)]; omega
  · rw [or_u64 _ _ 21 hz0 (by omega) (by omega) (by omega) (by omega) (by omega)]; omega
  · rw [or_u64 _ _ 28 hz0 (by omega) (by omega) (by omega) (by omega) (by omega)]; omega
  · rw [or_u64 _ _ 35 hz0 (by omega) (by omega) (by omega) (by omega) (by omega)]; omega
  · rw [or_u64 _ _ 42 hz0 (by omega) (by omega) (by omega) (by omega) (by omega)]; omega
  · rw [or_u64 _ _ 49 hz0 (by omega) (by omega) (by omega) (by omega) (by omega)]; omega
  · rw [or_u64 _ _ 56 hz0 (by omega) (by omega) (by omega) (by omega) (by omega)]; omega
  · rw [or_u64 _ _ 63 hz0 (by omega) (by omega) (by omega) (by omega) (by omega)]; omega
end Go.Ob
