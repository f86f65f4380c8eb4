/- Two lists of numbers that are the same: what the law's comparison answers. -/
import Derived.Test.YtkfinaongajhmaaDoorAAsm
import Derived.Test.YtkfinaongajhmaaDoorAStarts
namespace Go.Proofs.YtkfinaongajhmaaDoor.X
open Go.Ob Go.Ob.Xc Go.RowKit Go.Proofs.YtkfinaongajhmaaDoorW.PrintWords Go.Proofs.YtkfinaongajhmaaDoorW.PrintMore
attribute [local go_sem] max2_int min2_int max_two min_two
set_option linter.unusedVariables false
set_option linter.unusedSimpArgs false
/-- a row of one's own, as a list of numbers -/
theorem reads_of_own {w : World} {base n : Nat} {v : Value} {xs : List Int} (h : w.ownsRow base 3 1 v n (xs.map (Value.int .i64))) (hn : n ≤ 9223372036854775807) : ∃ (A : Option Addr) (cap : Nat), v = .slice A n cap ∧ ReadsInt w .i64 A n xs := by
  obtain ⟨hlen, hv⟩ := id h
  rw [List.length_map, Nat.mul_one] at hlen
  rcases hv with ⟨rfl, rfl⟩ | ⟨g, cap, cur, rfl, hg, hh, hcn, hcm, hcs, htk⟩
  · exact ⟨none, 0, rfl, hlen, hn, fun c => absurd c (by omega)⟩
  · refine ⟨some ⟨g, 0, none⟩, cap, rfl, hlen, hn, fun _ => ⟨_, rfl, fun j hj => ?_⟩⟩
    have hc := h.cellAt j (by omega)
    rw [List.getElem?_map, List.getElem?_eq_getElem (by omega)] at hc
    rw [List.getD_eq_getElem?_getD, List.getElem?_eq_getElem (by omega)]
    rcases j with _ | j <;> simpa [Addr.add] using hc
set_option maxHeartbeats 16000000 in
set_option maxRecDepth 100000 in
theorem Numbers (xs : List Int) (A B : Option Addr) (n c1 c2 : Nat) (w : World) (hA : ReadsInt w .i64 A n xs) (hB : ReadsInt w .i64 B n xs) :
    Calls Tryd.prog 27 #[.slice A n c1, .slice B n c2] w fun e w' => e = .returned (.bool true) ∧ Below w.heap.size w w' := by
  have HA := Aside0.mk hA
  have HB := Aside0.mk hB
  obtain ⟨_, hm, _⟩ := hA
  clear hB
  go_enter Tryd.func27, Tryd.ntmps27
  go_wp2
  go_loopw [5] (fun i wr => ∃ k m : Nat, i = .int .i64 k ∧ k ≤ n ∧ wr = w.drewN m) (fun i _ => n - (intOf i).toNat)
  case atStart => exact ⟨0, 0, rfl, Nat.zero_le _, rfl⟩
  case round =>
    obtain ⟨k, m, rfl, hk, rfl⟩ := hrel
    by_cases hlt : k < n
    · obtain ⟨_, _, h1⟩ := HA.out.drewN m
      obtain ⟨_, _, h2⟩ := HB.out.drewN m
      obtain ⟨a, rfl, ha⟩ := h1 (by omega)
      obtain ⟨b, rfl, hb⟩ := h2 (by omega)
      have ca := ha k hlt
      have cb := hb k hlt
      clear h1 h2 ha hb
      generalize hx : xs.getD k 0 = x at *
      clear hx
      generalize hW : w.drewN m = W at *
      have j0 : (0 : Int) ≤ (k : Int) := by omega
      have j1 : (k : Int) < (n : Int) := by omega
      go_upto_region 6 with fail
      refine wp_region_still_lit (by kernel_rfl) (by kernel_rfl) ?_
      repeat still_step
      refine wpStill_nil ?_
      go_wp2
      refine ⟨⟨k + 1, m + 1, by simp, hlt, ?_⟩, by simp [intOf]; omega⟩
      rw [← hW]
      rfl
    · obtain rfl : k = n := by omega
      go_wp2
      go_ret
      exact ⟨rfl, pw_below_drewN (Below.refl _ _) _⟩
end Go.Proofs.YtkfinaongajhmaaDoor.X
