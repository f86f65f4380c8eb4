/- A memory with a number in it: the program's function. No condition but that numbers and lengths are those of the language. -/
import Derived.Test.YtiacmfgkbgfhkaaLinLoad
import Derived.Deep.QuietTactic
import Derived.BigQuiet
import Derived.Lib.ConvBytes
namespace Go.Proofs.Ytiacmfgkbgfhkaa.Lin
open Go.Ob Go.RowKit Go.Proofs.YtiacmfgkbgfhkaaW.PrintWords Go.Proofs.YtiacmfgkbgfhkaaW.PrintMore
attribute [local go_sem] max2_int min2_int max_two min_two
set_option linter.unusedVariables false
set_option linter.unusedSimpArgs false
theorem bytesOf_succ (v : Int) (n : Nat) : bytesOf v (n + 1) = bytesOf v n ++ [v / 256 ^ n % 256] := by
  induction n generalizing v with
  | zero => simp [bytesOf]
  | succ n ih =>
    rw [bytesOf, ih, bytesOf]
    simp only [List.cons_append, List.cons.injEq, true_and]
    congr 3
    rw [Int.ediv_ediv_of_nonneg (by decide), Int.pow_succ, Int.mul_comm]
theorem below_own2 {w W : World} (h : Below w.heap.size w W) (j : Nat) (u : Value) : Below w.heap.size w (W.setCell ⟨w.heap.size, j, none⟩ u) := h.setCell (Nat.le_refl _) u
/-- the array's bytes after some rounds -/
def arr8 (v : Int) (k : Nat) : List Int := bytesOf v k ++ List.replicate (8 - k) 0
theorem arr8_length (v : Int) (k : Nat) (hk : k ≤ 8) : (arr8 v k).length = 8 := by simp [arr8, bytesOf_length]; omega
theorem arr8_step (v : Int) (k : Nat) (hk : k < 8) : (arr8 v k).set k (v / 256 ^ k % 256) = arr8 v (k + 1) := by
  unfold arr8
  rw [bytesOf_succ]
  have : List.replicate (8 - k) (0 : Int) = 0 :: List.replicate (8 - (k + 1)) 0 := by rw [show 8 - k = (8 - (k + 1)) + 1 by omega]; rfl
  rw [this, List.set_append_right _ _ (by rw [bytesOf_length]; exact Nat.le_refl _), bytesOf_length, Nat.sub_self]
  simp
theorem nums_put {W : World} {g : Nat} {xs : List Int} {t : TypeId} (h : W.heap[g]? = some (.cells (nums .u8 xs).toArray t (0, 0))) (k : Nat) (x : Int) :
    (W.setCell ⟨g, k, none⟩ (.int .u8 x)).heap[g]? = some (.cells (nums .u8 (xs.set k x)).toArray t (0, 0)) := by
  rw [blk_set h]
  congr 3
  simp [nums, List.map_set]
theorem arr_slice (g N : Nat) (hN : N = 4 ∨ N = 8) (W : World) : (Instr.sliceAt 60 (.pointer (some ⟨g, 0, none⟩)) none (some (.int .i64 N)) none).run Try.prog W = .ok (.slice (some ⟨g, 0, none⟩) N 8) W := by
  rcases hN with rfl | rfl
  · exact (by kernel_rfl : (Instr.sliceAt 60 (.pointer (some ⟨g, 0, none⟩)) none (some (.int .i64 4)) none).run Try.prog W = .ok (.slice (some ⟨g, 0, none⟩) 4 8) W)
  · exact (by kernel_rfl : (Instr.sliceAt 60 (.pointer (some ⟨g, 0, none⟩)) none (some (.int .i64 8)) none).run Try.prog W = .ok (.slice (some ⟨g, 0, none⟩) 8 8) W)
theorem pow_bytes (k : Nat) : (2 : Int) ^ (8 * k) = 256 ^ k := by rw [Int.pow_mul]; rfl
theorem arr8_all (v : Int) : arr8 v 8 = bytesOf v 8 := by simp [arr8]
theorem bytesOf_take (v : Int) (N : Nat) (hN : N = 4 ∨ N = 8) : (bytesOf v 8).take N = bytesOf v N := by
  rcases hN with rfl | rfl <;> simp [bytesOf]
set_option maxHeartbeats 4000000 in
set_option maxRecDepth 100000 in
theorem Store_ok (m : ByteArray) (addr off v : Int) (N : Nat) (w : World) (hm : m.size ≤ 9223372036854775807) (ha : -9223372036854775808 ≤ addr ∧ addr ≤ 9223372036854775807) (ho : -9223372036854775808 ≤ off ∧ off ≤ 9223372036854775807) (hv : -9223372036854775808 ≤ v ∧ v ≤ 9223372036854775807)
    (hN : N = 4 ∨ N = 8) (hok : okAt m.size (plc addr off) N = true) :
    Calls Try.prog 32 #[.string m, .int .i64 addr, .int .i64 off, .int .i64 N, .int .i64 v] w fun e w' => e = .returned (.tuple #[.string (m.extract 0 (plc addr off).toNat ++ strOfNums (bytesOf v N) ++ m.extract ((plc addr off).toNat + N) m.size), .bool true]) ∧ Below w.heap.size w w' := by
  have hc := At m addr off N
  obtain ⟨K, hK⟩ := Int.eq_ofNat_of_zero_le (plc_bd addr off).1
  have hKN : K + N ≤ m.size := by have := (okAt_iff.mp hok).2; omega
  have hKb : K ≤ 8589934590 := by have := (plc_bd addr off).2; omega
  rw [hok, hK] at hc
  rw [hK, Int.toNat_natCast]
  have HA := Aside0.mk (fun W => hc W hm ha ho (by omega))
  clear hc hok hK
  have hinfo := Aside0.mk info5
  obtain ⟨hv0, hv1⟩ := hv
  go_enter Try.func32, Try.ntmps32
  go_wp2_with (first
    | (go_at_call 39; (with_reducible refine (HA.out _).mono ?_); rintro e w1 ⟨rfl, rfl⟩))
  go_loopw [26, 15] (fun i _ wr => ∃ k : Nat, k ≤ 8 ∧ i = .int .i64 k ∧ wr.heap[w.heap.size]? = some (.cells (nums .u8 (arr8 v k)).toArray 60 (0, 0)) ∧ Below w.heap.size w wr) (fun i _ _ => 8 - (intOf i).toNat)
  case atStart => exact ⟨0, Nat.zero_le _, rfl, blk_new w _, below_alloc (Below.refl _ _) _⟩
  case round =>
    obtain ⟨k, hk, rfl, hblk, hbw⟩ := hrel
    have HW := Aside0.mk (And.intro hblk hbw)
    by_cases hlt : k < 8
    · have hck := nums_at hblk k (by rw [arr8_length v k hk]; exact hlt)
      have hfz := blk_frozen hblk k
      clear hblk hbw
      go_wp2
      refine ⟨⟨k + 1, hlt, rfl, ?_, below_own2 HW.out.2 _ _⟩, by simp [intOf]; omega⟩
      rw [pow_bytes, nums_put HW.out.1, arr8_step v k hlt]
    · obtain rfl : k = 8 := by omega
      rw [arr8_all] at HW
      have hcv : ∀ n, (convert 61 9 (.slice (some ⟨w.heap.size, 0, none⟩) N 8)).run Try.prog (wr.drewN n) = .ok (.string (strOfNums (bytesOf v N))) (wr.drewN n) := fun n =>
        run_convert_bytes_arg (wr.drewN n) 61 5 Try.underlying61 Try.underlying5 w.heap.size 0 N 8 (bytesOf v N) (bytesOf_length v N) (fun i hi => by
          have h1 := nums_at (blk_drewN HW.out.1 n) i (by rw [bytesOf_length]; omega)
          rw [Nat.zero_add, h1, ← bytesOf_take v N hN]
          simp [List.getD_eq_getElem?_getD, List.getElem?_take, hi]) 9 Try.underlying9
      have hsa := fun W => arr_slice w.heap.size N hN W
      have hKm : K ≤ m.size := by omega
      have hz1 : (strOfNums (bytesOf v N)).size = N := by rw [strOfNums_size, bytesOf_length]
      have hz2 : (m.extract 0 K ++ strOfNums (bytesOf v N)).size = K + N := by rw [ByteArray.size_append, ByteArray.size_extract, hz1]; omega
      have hz3 : (m.extract (K + N) m.size).size = m.size - (K + N) := by rw [ByteArray.size_extract]; omega
      have ha1 := fun W => run_string_add_sum (P := Try.prog) W (m.extract 0 K) (strOfNums (bytesOf v N)) (by rw [hz1, ByteArray.size_extract]; omega)
      have ha2 := fun W => run_string_add_sum (P := Try.prog) W (m.extract 0 K ++ strOfNums (bytesOf v N)) (m.extract (K + N) m.size) (by rw [hz2, hz3]; omega)
      clear hz1 hz2 hz3
      have hq1 : IntKind.i64.wrap ((K : Int) + N) = (K : Int) + N := by rw [IntKind.wrap_i64]; omega
      clear hblk hbw
      go_wp2
      go_quiet (fail)
      go_wp2
      go_ret2
      exact ⟨rfl, pw_below_drewN HW.out.2 _⟩
/-- what is stored -/
def str (m : ByteArray) (addr off n v : Int) : ByteArray := if okAt m.size (plc addr off) n then m.extract 0 (plc addr off).toNat ++ strOfNums (bytesOf v n.toNat) ++ m.extract ((plc addr off).toNat + n.toNat) m.size else ⟨#[]⟩
set_option maxHeartbeats 1000000 in
set_option maxRecDepth 100000 in
theorem Store (m : ByteArray) (addr off n v : Int) (w : World) (hm : m.size ≤ 9223372036854775807) (ha : -9223372036854775808 ≤ addr ∧ addr ≤ 9223372036854775807) (ho : -9223372036854775808 ≤ off ∧ off ≤ 9223372036854775807) (hn : -9223372036854775808 ≤ n ∧ n ≤ 9223372036854775807) (hv : -9223372036854775808 ≤ v ∧ v ≤ 9223372036854775807) :
    Calls Try.prog 32 #[.string m, .int .i64 addr, .int .i64 off, .int .i64 n, .int .i64 v] w fun e w' => e = .returned (.tuple #[.string (str m addr off n v), .bool (okAt m.size (plc addr off) n)]) ∧ Below w.heap.size w w' := by
  unfold str
  cases hok : okAt m.size (plc addr off) n with
  | true =>
    have hN := (okAt_iff.mp hok).1
    obtain ⟨N, rfl⟩ := Int.eq_ofNat_of_zero_le (show 0 ≤ n by omega)
    exact Store_ok m addr off v N w hm ha ho hv (by omega) hok
  | false =>
    have hc := fun W => At m addr off n W hm ha ho hn
    rw [hok] at hc
    have HA := Aside0.mk hc
    clear hc hok
    go_enter Try.func32, Try.ntmps32
    go_wp2_with (first
      | (go_at_call 39; (with_reducible refine (HA.out _).mono ?_); rintro e w1 ⟨rfl, rfl⟩))
    go_ret2
    exact ⟨rfl, Below.refl _ _⟩
end Go.Proofs.Ytiacmfgkbgfhkaa.Lin
