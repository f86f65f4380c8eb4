/- A number's eight bytes, one behind the other: the reference's function. -/
import Derived.Test.YtgaiehnbjggmdaaDoorFLay
namespace Go.Proofs.YtgaiehnbjggmdaaDoor.F
open Go.Ob Go.RowKit Go.Proofs.YtgaiehnbjggmdaaDoorW.PrintWords Go.Proofs.YtgaiehnbjggmdaaDoorW.PrintMore
set_option linter.unusedVariables false
set_option linter.unusedSimpArgs false
theorem bytesOf_le8 (v : Int) (k : Nat) : (nums .u8 (bytesOf v k)).length = k := by rw [nums_length, bytesOf_length]
/-- an owned row of bytes is a row -/
theorem row_of_owned {w : World} {b n : Nat} {v : Value} {xs : List Int} (h : w.ownsRow b 5 1 v n (nums .u8 xs)) (h0 : 0 < n) : ∃ g cap, v = .slice (some ⟨g, 0, none⟩) n cap ∧ Row w g xs ∧ xs.length = n := by
  have hl := h.1
  rw [nums_length] at hl
  rcases h.2 with ⟨_, h1⟩ | ⟨g, cap, cur, h1, h2, h3, _, _, _, h7⟩
  · rw [h1] at h0
    cases h0
  · have hcur : ∀ j, j < n → cur[j]? = (nums .u8 xs)[j]? := fun j hj => by
      rw [← h7, List.getElem?_take_of_lt (by omega), Array.getElem?_toList]
    refine ⟨g, cap, h1, ⟨blk_lt h3, fun j hj => ⟨?_, blk_frozen h3 j⟩⟩, by omega⟩
    rw [blk_cell h3, hcur j (by omega)]
    simp only [nums, List.getElem?_map, List.getD_eq_getElem?_getD, List.getElem?_eq_getElem hj, Option.map_some, Option.getD_some]
theorem add_zero_at2 (g : Nat) : (⟨g, 0, none⟩ : Addr).add 0 = ⟨g, 0, none⟩ := by
  unfold Addr.add
  split <;> simp_all
theorem info_u8 : (Tryd.prog.info? 5).map (fun i => (i.zero, i.size, i.bytes)) = some (some (.int .u8 0), 1, 1) := by kernel_rfl
theorem cell_new (W : World) (u : Value) (t : TypeId) : (W.alloc (.cells #[u] t)).cell? ((⟨W.heap.size, 0, none⟩ : Addr).add 0) = some u := by
  rw [add_zero_at2]
  exact blk_cell (blk_new W (.cells #[u] t)) 0
set_option maxHeartbeats 4000000 in
set_option maxRecDepth 100000 in
theorem Eight (v : Int) (w : World) (hv : -9223372036854775808 ≤ v ∧ v ≤ 9223372036854775807) :
    Calls Tryd.prog 63 #[.int .i64 v] w fun e w' => e = .returned (.string (strOfNums (bytesOf v 8))) ∧ Below w.heap.size w w' := by
  obtain ⟨i0, hi0, hz0, hz1, hz2⟩ := info_parts info_u8
  go_enter Tryd.func63, Tryd.ntmps63
  go_wp2
  go_loopw [3, 4] (fun s c wr => ∃ k : Nat, k ≤ 8 ∧ c = .int .i64 k ∧ wr.ownsRow w.heap.size 5 1 s k (nums .u8 (bytesOf v k)) ∧ Below w.heap.size w wr) (fun _ c _ => 8 - (intOf c).toNat)
  case atStart => exact ⟨0, by decide, rfl, World.ownsRow_nil _ _ _ _, Below.refl _ _⟩
  case round =>
    obtain ⟨k, hk, rfl, hown, hbw⟩ := hrel
    have HO := Aside0.mk hown
    have HB := Aside0.mk hbw
    clear hown hbw
    by_cases hlt : k < 8
    · have hby := u64_byte v k hlt
      have HBY := Aside0.mk hby
      clear hby
      go_wp2_with (at_builtin; refine wpList_append_own _ rfl _ _ 49 rfl w.heap.size 5 i0 _ 1 1 Tryd.underlying49 hi0 hz0 hz1 hz2 rfl (by decide) _ _ _ rfl (HO.out.alloc _) ⟨_, 0, none⟩ 1 1 (nums .u8 [IntKind.u64.wrap v / 2 ^ (8 * k) % 256]) rfl rfl ?c1 ?c2 ?c3 ?c4 ?c5 ?_)
      case c1 => intro j u hu; cases j with
        | zero => simp [nums] at hu; subst hu; exact cell_new wr _ _
        | succ j => simp [nums] at hu
      case c2 => intro u hu; simp [nums] at hu; subst hu; rfl
      case c3 => unfold maxLen; omega
      case c4 => omega
      case c5 => exact Nat.le_trans HB.out.size (by simp)
      intro v' w3 hown3 hgrow _
      have H3 := Aside0.mk (And.intro hown3 hgrow)
      clear hown3 hgrow
      go_wp2
      have B3 : Below w.heap.size w w3 := (HB.out.alloc HB.out.size _).grown H3.out.2 (Nat.le_trans HB.out.size (by simp)) (fun q hq => (HO.out.lt q hq).1)
      refine ⟨⟨k + 1, hlt, by simp, ?_, B3⟩, by simp [intOf]; omega⟩
      rw [bytesOf_succ, nums_append]
      have h3 := H3.out.1
      rw [HBY.out] at h3
      exact h3
    · obtain rfl : k = 8 := by omega
      obtain ⟨g, cap, rfl, hrow, hlen⟩ := row_of_owned HO.out (by omega)
      have hcv := hrow.text (P := Tryd.prog) 49 5 9 cap Tryd.underlying49 Tryd.underlying5 Tryd.underlying9
      rw [hlen] at hcv
      go_wp2
      go_ret
      exact ⟨rfl, HB.out⟩
end Go.Proofs.YtgaiehnbjggmdaaDoor.F
