/- Where something stands in a memory: the program's function and the reference's. No condition but that numbers and lengths are those of the language. -/
import Derived.Test.YtiacmfgkbgfhkaaProg
import Derived.Test.YtiacmfgkbgfhkaaWMore
import Derived.Test.YtiacmfgkbgfhkaaWWords
import Derived.Test.YtiacmfgkbgfhkaaText
import Derived.Test.YtiacmfgkbgfhkaaBits
import Derived.WalkKit
import Derived.LoopTactic
import Derived.Outline
namespace Go.Proofs.Ytiacmfgkbgfhkaa.Lin
open Go.Ob Go.RowKit Go.Proofs.YtiacmfgkbgfhkaaW.PrintWords Go.Proofs.YtiacmfgkbgfhkaaW.PrintMore
attribute [local go_sem] max2_int min2_int max_two min_two
set_option linter.unusedVariables false
set_option linter.unusedSimpArgs false
/-- where something stands -/
def plc (addr off : Int) : Int := addr % 4294967296 + off % 4294967296
theorem plc_bd (addr off : Int) : 0 ≤ plc addr off ∧ plc addr off ≤ 8589934590 := by unfold plc; omega
/-- and may it? -/
def okAt (size : Nat) (k n : Int) : Bool := (n == 4 || n == 8) && decide (k ≤ (size : Int) - n)
theorem okAt_no {size : Nat} {k n : Int} (h4 : ¬ n = 4) (h8 : ¬ n = 8) : okAt size k n = false := by
  unfold okAt
  rw [beq_eq_false_iff_ne.mpr h4, beq_eq_false_iff_ne.mpr h8]
  rfl
set_option maxHeartbeats 1000000 in
set_option maxRecDepth 100000 in
theorem At (m : ByteArray) (addr off n : Int) (w : World) (hm : m.size ≤ 9223372036854775807) (ha : -9223372036854775808 ≤ addr ∧ addr ≤ 9223372036854775807) (ho : -9223372036854775808 ≤ off ∧ off ≤ 9223372036854775807) (hn : -9223372036854775808 ≤ n ∧ n ≤ 9223372036854775807) :
    Calls Try.prog 39 #[.string m, .int .i64 addr, .int .i64 off, .int .i64 n] w fun e w' => e = .returned (.tuple #[.int .i64 (plc addr off), .bool (okAt m.size (plc addr off) n)]) ∧ w = w' := by
  go_enter Try.func39, Try.ntmps39
  go_wp2
  · have h4 : n = 4 := by assumption
    go_ret2
    exact ⟨by rw [h4]; rfl, rfl⟩
  · have h8 : n = 8 := by assumption
    go_ret2
    exact ⟨by rw [h8]; rfl, rfl⟩
  · have h4 : ¬ n = 4 := by assumption
    have h8 : ¬ n = 8 := by assumption
    go_ret2
    exact ⟨by rw [okAt_no h4 h8]; rfl, rfl⟩
set_option maxHeartbeats 1000000 in
set_option maxRecDepth 100000 in
theorem Place (m : ByteArray) (addr off n : Int) (w : World) (hm : m.size ≤ 9223372036854775807) (ha : -9223372036854775808 ≤ addr ∧ addr ≤ 9223372036854775807) (ho : -9223372036854775808 ≤ off ∧ off ≤ 9223372036854775807) (hn : -9223372036854775808 ≤ n ∧ n ≤ 9223372036854775807) :
    Calls Try.prog 40 #[.string m, .int .i64 addr, .int .i64 off, .int .i64 n] w fun e w' => e = .returned (.tuple #[.int .i64 (plc addr off), .bool (okAt m.size (plc addr off) n)]) ∧ w = w' := by
  have e1 : bits .and .i64 addr 4294967295 = addr % 4294967296 := and_mask addr 32 (by decide)
  have e2 : bits .and .i64 off 4294967295 = off % 4294967296 := and_mask off 32 (by decide)
  go_enter Try.func40, Try.ntmps40
  go_wp2
  · have h4 : n = 4 := by assumption
    go_ret2
    exact ⟨by rw [h4]; rfl, rfl⟩
  · have h8 : n = 8 := by assumption
    go_ret2
    exact ⟨by rw [h8]; rfl, rfl⟩
  · have h4 : ¬ n = 4 := by assumption
    have h8 : ¬ n = 8 := by assumption
    go_ret2
    exact ⟨by rw [okAt_no h4 h8]; rfl, rfl⟩
/-- a number out of bytes, the least first -/
def le : List Int → Int
  | [] => 0
  | b :: r => b + 256 * le r
theorem le_append (l m : List Int) : le (l ++ m) = le l + 256 ^ l.length * le m := by
  induction l with
  | nil => simp [le]
  | cons b l ih => simp only [List.cons_append, le, ih, List.length_cons, Int.pow_succ]; grind
theorem le_bd (l : List Int) (h : ∀ b ∈ l, 0 ≤ b ∧ b < 256) : 0 ≤ le l ∧ le l < 256 ^ l.length := by
  induction l with
  | nil => simp [le]
  | cons b l ih =>
    have hb := h b (by simp)
    obtain ⟨h0, h1⟩ := ih (fun x hx => h x (by simp [hx]))
    simp only [le, List.length_cons, Int.pow_succ]
    omega
theorem le_zeros (n : Nat) : le (List.replicate n 0) = 0 := by
  induction n with
  | zero => rfl
  | succ n ih => rw [List.replicate_succ, le, ih]; rfl
/-- so many bytes of a number, the least first -/
def bytesOf (v : Int) : Nat → List Int
  | 0 => []
  | n + 1 => v % 256 :: bytesOf (v / 256) n
theorem bytesOf_length (v : Int) (n : Nat) : (bytesOf v n).length = n := by
  induction n generalizing v with
  | zero => rfl
  | succ n ih => simp [bytesOf, ih]
theorem bytesOf_bytes (v : Int) (n : Nat) : ∀ b ∈ bytesOf v n, 0 ≤ b ∧ b < 256 := by
  induction n generalizing v with
  | zero => simp [bytesOf]
  | succ n ih =>
    intro b hb
    simp only [bytesOf, List.mem_cons] at hb
    rcases hb with rfl | hb
    · omega
    · exact ih _ b hb
end Go.Proofs.Ytiacmfgkbgfhkaa.Lin
