/- Plain lemmas on numbers of 64 and of 32 bits. -/
import Derived.Test.YtmmbhhapkgnlfaaBits
namespace Go.Ob.Flags
open Go Go.RowKit Go.Ob
/-- a value at its width -/
def tr (w : Bool) (v : Int) : Int := if w = true then v else v % 4294967296
/-- a value as a signed number -/
def sg (w : Bool) (v : Int) : Int := if w = true then v else (v + 2147483648) % 4294967296 - 2147483648
theorem and32 (v : Int) : Go.bits .and .i64 v 4294967295 = v % 4294967296 := and_mask v 32 (by decide)
theorem and1 (v : Int) : Go.bits .and .i64 v 1 = v % 2 := and_mask v 1 (by decide)
theorem wrap_sg (v : Int) : wrap64 (wrap32 v) = (v + 2147483648) % 4294967296 - 2147483648 := by unfold wrap64 wrap32; omega
/-- equal but for multiples -/
theorem modEq {M x y : Int} (t : Int) (h : x = y + M * t) : x % M = y % M := by rw [h, Int.add_mul_emod_self_left]
theorem wrap64_is (x : Int) : ∃ t, wrap64 x = x + 18446744073709551616 * t := ⟨-((x + 9223372036854775808) / 18446744073709551616), by unfold wrap64; omega⟩
theorem emod_is (x M : Int) : ∃ t, x % M = x + M * t := ⟨-(x / M), by have := Int.emod_add_mul_ediv x M; rw [Int.mul_neg]; omega⟩
theorem tr_is (w : Bool) (x : Int) : ∃ t, tr w x = x + 4294967296 * t := by
  unfold tr
  split
  · exact ⟨0, by omega⟩
  · exact emod_is x _
theorem sg_is (x : Int) : ∃ t, sg false x = x + 4294967296 * t := ⟨-((x + 2147483648) / 4294967296), by simp [sg]; omega⟩
/-- quotient times divisor, and the rest: at 64 bits -/
theorem whole64 (l d q r b low : Int) (hq : ∃ t, q = l / d + 18446744073709551616 * t) (hr : ∃ t, r = l % d + 18446744073709551616 * t) (hb : ∃ t, b = d + 18446744073709551616 * t) (hl : ∃ t, low = l + 18446744073709551616 * t) :
    ∃ t, q * b + r = low + 18446744073709551616 * t := by
  obtain ⟨t1, rfl⟩ := hq
  obtain ⟨t2, rfl⟩ := hr
  obtain ⟨t3, rfl⟩ := hb
  obtain ⟨t4, rfl⟩ := hl
  have e := Int.emod_add_mul_ediv l d
  refine ⟨(l / d) * t3 + t1 * d + 18446744073709551616 * t1 * t3 + t2 - t4, ?_⟩
  generalize l / d = x at *
  generalize l % d = y at *
  subst e
  grind
theorem whole32 (l d q r b low : Int) (hq : ∃ t, q = l / d + 4294967296 * t) (hr : ∃ t, r = l % d + 4294967296 * t) (hb : ∃ t, b = d + 4294967296 * t) (hl : ∃ t, low = l + 4294967296 * t) :
    ∃ t, q * b + r = low + 4294967296 * t := by
  obtain ⟨t1, rfl⟩ := hq
  obtain ⟨t2, rfl⟩ := hr
  obtain ⟨t3, rfl⟩ := hb
  obtain ⟨t4, rfl⟩ := hl
  have e := Int.emod_add_mul_ediv l d
  refine ⟨(l / d) * t3 + t1 * d + 4294967296 * t1 * t3 + t2 - t4, ?_⟩
  generalize l / d = x at *
  generalize l % d = y at *
  subst e
  grind
end Go.Ob.Flags
