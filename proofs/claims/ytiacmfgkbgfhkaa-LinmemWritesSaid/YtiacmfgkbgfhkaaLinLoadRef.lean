/- A number that stands in a memory: the program's function refused, and the reference's function. No condition but that numbers and lengths are those of the language. -/
import Derived.Test.YtiacmfgkbgfhkaaLinLoad
namespace Go.Proofs.Ytiacmfgkbgfhkaa.Lin
open Go.Ob Go.RowKit Go.Proofs.YtiacmfgkbgfhkaaW.PrintWords Go.Proofs.YtiacmfgkbgfhkaaW.PrintMore
attribute [local go_sem] max2_int min2_int max_two min_two
set_option linter.unusedVariables false
set_option linter.unusedSimpArgs false
/-- what is loaded -/
def ldr (m : ByteArray) (addr off n : Int) : Int := if okAt m.size (plc addr off) n then ldv (bl m) (plc addr off).toNat n.toNat else 0
set_option maxHeartbeats 1000000 in
set_option maxRecDepth 100000 in
theorem Load (m : ByteArray) (addr off n : Int) (w : World) (hm : m.size ≤ 9223372036854775807) (ha : -9223372036854775808 ≤ addr ∧ addr ≤ 9223372036854775807) (ho : -9223372036854775808 ≤ off ∧ off ≤ 9223372036854775807) (hn : -9223372036854775808 ≤ n ∧ n ≤ 9223372036854775807) :
    Calls Try.prog 30 #[.string m, .int .i64 addr, .int .i64 off, .int .i64 n] w fun e w' => e = .returned (.tuple #[.int .i64 (ldr m addr off n), .bool (okAt m.size (plc addr off) n)]) ∧ Below w.heap.size w w' := by
  unfold ldr
  cases hok : okAt m.size (plc addr off) n with
  | true =>
    have hN := (okAt_iff.mp hok).1
    obtain ⟨N, rfl⟩ := Int.eq_ofNat_of_zero_le (show 0 ≤ n by omega)
    exact Load_ok m addr off N w hm ha ho (by omega) hok
  | false =>
    have hc := fun W => At m addr off n W hm ha ho hn
    rw [hok] at hc
    have HA := Aside0.mk hc
    clear hc hok
    go_enter Try.func30, Try.ntmps30
    go_wp2_with (first
      | (go_at_call 39; (with_reducible refine (HA.out _).mono ?_); rintro e w1 ⟨rfl, rfl⟩))
    go_ret2
    exact ⟨rfl, Below.refl _ _⟩
theorem or_u64_comm (a b : Int) : bits .or .u64 a b = bits .or .u64 b a := by
  show IntKind.u64.wrap ((BitVec.ofInt 64 a ||| BitVec.ofInt 64 b).toNat : Int) = IntKind.u64.wrap ((BitVec.ofInt 64 b ||| BitVec.ofInt 64 a).toNat : Int)
  rw [BitVec.or_comm]
theorem u64_in {x : Int} (h0 : 0 ≤ x) (h1 : x < 18446744073709551616) : IntKind.u64.wrap x = x := by
  simp [IntKind.wrap, IntKind.bits, IntKind.signed]
  omega
theorem shl_or (v x : Int) (h0 : 0 ≤ v) (h1 : v < 72057594037927936) (hx0 : 0 ≤ x) (hx1 : x < 256) : bits .or .u64 (v * 256) (IntKind.u64.wrap x) = x + 256 * v := by
  rw [u64_in hx0 (by omega), or_u64_comm, or_u64 x (v * 256) 8 hx0 (by omega) (by omega) (by omega) (by omega) (by omega)]
  omega
theorem drop_le (B : List Int) (j : Nat) (hj : j < B.length) : le (B.drop j) = B.getD j 0 + 256 * le (B.drop (j + 1)) := by
  rw [List.drop_eq_getElem_cons hj, le]
  simp [List.getD_eq_getElem?_getD, List.getElem?_eq_getElem hj]
theorem drop_bd (B : List Int) (h : ∀ b ∈ B, 0 ≤ b ∧ b < 256) (j : Nat) (hl : B.length ≤ 8) : 0 ≤ le (B.drop (j + 1)) ∧ le (B.drop (j + 1)) < 72057594037927936 := by
  obtain ⟨h0, h1⟩ := le_bd (B.drop (j + 1)) (fun b hb => h b (List.mem_of_mem_drop hb))
  refine ⟨h0, Int.lt_of_lt_of_le h1 ?_⟩
  rw [List.length_drop]
  have h7 := Nat.pow_le_pow_right (n := 256) (by decide) (show B.length - (j + 1) ≤ 7 by omega)
  have h8 : ((256 ^ (B.length - (j + 1)) : Nat) : Int) ≤ ((256 ^ 7 : Nat) : Int) := Int.ofNat_le.mpr h7
  simpa using h8
set_option maxHeartbeats 4000000 in
set_option maxRecDepth 100000 in
theorem rLoad_ok (m : ByteArray) (addr off : Int) (N : Nat) (w : World) (hm : m.size ≤ 9223372036854775807) (ha : -9223372036854775808 ≤ addr ∧ addr ≤ 9223372036854775807) (ho : -9223372036854775808 ≤ off ∧ off ≤ 9223372036854775807)
    (hN : N = 4 ∨ N = 8) (hok : okAt m.size (plc addr off) N = true) :
    Calls Try.prog 31 #[.string m, .int .i64 addr, .int .i64 off, .int .i64 N] w fun e w' => e = .returned (.tuple #[.int .i64 (ldv (bl m) (plc addr off).toNat N), .bool true]) ∧ Below w.heap.size w w' := by
  have hc := Place m addr off N
  obtain ⟨K, hK⟩ := Int.eq_ofNat_of_zero_le (plc_bd addr off).1
  have hKN : K + N ≤ m.size := by have := (okAt_iff.mp hok).2; omega
  have hKb : K ≤ 8589934590 := by have := (plc_bd addr off).2; omega
  rw [hok, hK] at hc
  rw [hK, Int.toNat_natCast]
  have HA := Aside0.mk (fun W => hc W hm ha ho (by omega))
  clear hc hok hK
  have hlN : (((bl m).drop K).take N).length = N := by rw [List.length_take, List.length_drop, bl_length]; omega
  have hbN : ∀ b ∈ ((bl m).drop K).take N, 0 ≤ b ∧ b < 256 := fun b hb => bl_bytes m b (List.mem_of_mem_drop (List.mem_of_mem_take hb))
  have hatN : ∀ j, j < N → ∀ h : K + j < m.size, ((m[K + j]'h).toNat : Int) = (((bl m).drop K).take N).getD j 0 := by
    intro j hj h
    simp only [List.getD_eq_getElem?_getD, List.getElem?_take, List.getElem?_drop, if_pos hj]
    simp only [bl, List.getElem?_map]
    rw [Array.getElem?_toList, Array.getElem?_eq_getElem (by simpa using h)]
    rfl
  have HB := Aside0.mk (And.intro hlN (And.intro hbN hatN))
  have hfin : ldv (bl m) K N = wrap64 (le (((bl m).drop K).take N)) := rfl
  have HF := Aside0.mk hfin
  generalize ((bl m).drop K).take N = B at *
  clear hlN hbN hatN hfin
  have hN4 : 1 ≤ N ∧ N ≤ 8 := by omega
  obtain ⟨hN1, hN2⟩ := hN4
  go_enter Try.func31, Try.ntmps31
  go_wp2_with (first
    | (go_at_call 40; (with_reducible refine (HA.out _).mono ?_); rintro e w1 ⟨rfl, rfl⟩))
  go_loop [12, 13] (fun v i => ∃ i0 : Int, -1 ≤ i0 ∧ i0 < N ∧ i = .int .i64 i0 ∧ v = .int .u64 (le (B.drop (i0 + 1).toNat))) (fun _ i => (intOf i + 1).toNat)
  case atStart => exact ⟨(N : Int) - 1, by omega, by omega, rfl, by rw [show ((N : Int) - 1 + 1).toNat = B.length by rw [HB.out.1]; omega, List.drop_length]; rfl⟩
  case round =>
    obtain ⟨i0, h0, h1, rfl, rfl⟩ := hrel
    by_cases hge : 0 ≤ i0
    · obtain ⟨j, rfl⟩ := Int.eq_ofNat_of_zero_le hge
      have hj : j < N := by omega
      have hidx : K + j < m.size := by omega
      have hat := HB.out.2.2 j hj hidx
      have hlB : j < B.length := by rw [HB.out.1]; exact hj
      have hst := drop_le B j hlB
      have hvb := drop_bd B HB.out.2.1 j (by rw [HB.out.1]; exact hN2)
      have hxb := HB.out.2.1 (B.getD j 0) (by rw [List.getD_eq_getElem?_getD, List.getElem?_eq_getElem hlB]; exact List.getElem_mem _)
      rw [show ((j : Int) + 1).toNat = j + 1 by omega]
      generalize le (B.drop (j + 1)) = v at *
      generalize B.getD j 0 = x at *
      obtain ⟨hv0, hv1⟩ := hvb
      have HV := Aside0.mk (And.intro hst (And.intro hat hxb))
      clear hst hat hxb hlB
      go_wp2
      refine ⟨⟨(j : Int) - 1, by omega, by omega, rfl, ?_⟩, by simp [intOf]⟩
      rw [HV.out.2.1, shl_or v x hv0 hv1 HV.out.2.2.1 HV.out.2.2.2, show ((j : Int) - 1 + 1).toNat = j by omega, HV.out.1]
    · obtain rfl : i0 = -1 := by omega
      rw [show ((-1 : Int) + 1).toNat = 0 from rfl, List.drop_zero]
      have hB := le_bd B HB.out.2.1
      clear hge h0 h1
      go_wp2
      go_ret2
      exact ⟨by rw [HF.out]; rfl, Below.refl _ _⟩
set_option maxHeartbeats 1000000 in
set_option maxRecDepth 100000 in
theorem rLoad (m : ByteArray) (addr off n : Int) (w : World) (hm : m.size ≤ 9223372036854775807) (ha : -9223372036854775808 ≤ addr ∧ addr ≤ 9223372036854775807) (ho : -9223372036854775808 ≤ off ∧ off ≤ 9223372036854775807) (hn : -9223372036854775808 ≤ n ∧ n ≤ 9223372036854775807) :
    Calls Try.prog 31 #[.string m, .int .i64 addr, .int .i64 off, .int .i64 n] w fun e w' => e = .returned (.tuple #[.int .i64 (ldr m addr off n), .bool (okAt m.size (plc addr off) n)]) ∧ Below w.heap.size w w' := by
  unfold ldr
  cases hok : okAt m.size (plc addr off) n with
  | true =>
    have hN := (okAt_iff.mp hok).1
    obtain ⟨N, rfl⟩ := Int.eq_ofNat_of_zero_le (show 0 ≤ n by omega)
    exact rLoad_ok m addr off N w hm ha ho (by omega) hok
  | false =>
    have hc := fun W => Place m addr off n W hm ha ho hn
    rw [hok] at hc
    have HA := Aside0.mk hc
    clear hc hok
    go_enter Try.func31, Try.ntmps31
    go_wp2_with (first
      | (go_at_call 40; (with_reducible refine (HA.out _).mono ?_); rintro e w1 ⟨rfl, rfl⟩))
    go_ret2
    exact ⟨rfl, Below.refl _ _⟩
end Go.Proofs.Ytiacmfgkbgfhkaa.Lin
