/- A number that stands in a memory: the program's function. No condition but that numbers and lengths are those of the language. -/
import Derived.Test.YtiacmfgkbgfhkaaLinCopy
import Derived.StillTailTactics
namespace Go.Proofs.Ytiacmfgkbgfhkaa.Lin
open Go.Ob Go.RowKit Go.Proofs.YtiacmfgkbgfhkaaW.PrintWords Go.Proofs.YtiacmfgkbgfhkaaW.PrintMore
attribute [local go_sem] max2_int min2_int max_two min_two
set_option linter.unusedVariables false
set_option linter.unusedSimpArgs false
/-- the number that stands in a memory at a place -/
def ldv (M : List Int) (k n : Nat) : Int := wrap64 (le ((M.drop k).take n))
theorem okAt_iff {size : Nat} {k n : Int} : okAt size k n = true ↔ (n = 4 ∨ n = 8) ∧ k + n ≤ size := by
  unfold okAt
  simp
  omega
theorem info5 : (Try.prog.info? 5).map (·.size) = some 1 := by kernel_rfl
theorem or_comm_i64 (a b : Int) : bits .or .i64 a b = bits .or .i64 b a := by rw [bits_or_i64, bits_or_i64, BitVec.or_comm]
theorem or_step (L x : Int) (k : Nat) (hk : k < 8) (h0 : 0 ≤ L) (h1 : L < 256 ^ k) (hx0 : 0 ≤ x) (hx1 : x < 256) : bits .or .i64 (wrap64 L) (wrap64 (x * 2 ^ (8 * k))) = wrap64 (L + 256 ^ k * x) := by
  obtain rfl | rfl | rfl | rfl | rfl | rfl | rfl | rfl : k = 0 ∨ k = 1 ∨ k = 2 ∨ k = 3 ∨ k = 4 ∨ k = 5 ∨ k = 6 ∨ k = 7 := by omega
  all_goals
    simp only [Nat.reduceMul, Int.reducePow] at h1 ⊢
    have hw : wrap64 L = L := by unfold wrap64; omega
    rw [hw, or_comm_i64]
  · rw [or_add _ L (by unfold wrap64; omega) (by unfold wrap64; omega) 0 (by decide) (by omega) h0 (by omega)]; unfold wrap64; omega
  · rw [or_add _ L (by unfold wrap64; omega) (by unfold wrap64; omega) 8 (by decide) (by unfold wrap64; omega) h0 (by omega)]; unfold wrap64; omega
  · rw [or_add _ L (by unfold wrap64; omega) (by unfold wrap64; omega) 16 (by decide) (by unfold wrap64; omega) h0 (by omega)]; unfold wrap64; omega
  · rw [or_add _ L (by unfold wrap64; omega) (by unfold wrap64; omega) 24 (by decide) (by unfold wrap64; omega) h0 (by omega)]; unfold wrap64; omega
  · rw [or_add _ L (by unfold wrap64; omega) (by unfold wrap64; omega) 32 (by decide) (by unfold wrap64; omega) h0 (by omega)]; unfold wrap64; omega
  · rw [or_add _ L (by unfold wrap64; omega) (by unfold wrap64; omega) 40 (by decide) (by unfold wrap64; omega) h0 (by omega)]; unfold wrap64; omega
  · rw [or_add _ L (by unfold wrap64; omega) (by unfold wrap64; omega) 48 (by decide) (by unfold wrap64; omega) h0 (by omega)]; unfold wrap64; omega
  · rw [or_add _ L (by unfold wrap64; omega) (by unfold wrap64; omega) 56 (by decide) (by unfold wrap64; omega) h0 (by omega)]; unfold wrap64; omega
theorem le_step (B : List Int) (k : Nat) (hk : k < 8) (hl : k < B.length) (hb : ∀ b ∈ B, 0 ≤ b ∧ b < 256) : bits .or .i64 (wrap64 (le (B.take k))) (wrap64 (B.getD k 0 * 2 ^ (8 * k))) = wrap64 (le (B.take (k + 1))) := by
  have hx := hb (B.getD k 0) (by rw [List.getD_eq_getElem?_getD, List.getElem?_eq_getElem hl]; exact List.getElem_mem _)
  have hL := le_bd (B.take k) (fun b h => hb b (List.mem_of_mem_take h))
  have hlen : (B.take k).length = k := by rw [List.length_take]; omega
  rw [hlen] at hL
  rw [or_step _ _ k hk hL.1 hL.2 hx.1 hx.2, List.take_succ_eq_append_getElem hl, le_append, hlen]
  congr 3
  simp [le, List.getD_eq_getElem?_getD, List.getElem?_eq_getElem hl]
theorem nums_at {W : World} {g : Nat} {xs : List Int} {t : TypeId} (h : W.heap[g]? = some (.cells (nums .u8 xs).toArray t (0, 0))) (j : Nat) (hj : j < xs.length) : W.cell? ⟨g, j, none⟩ = some (.int .u8 (xs.getD j 0)) := by
  rw [blk_cell h]
  simp [nums, List.getD_eq_getElem?_getD, hj]
set_option maxHeartbeats 4000000 in
set_option maxRecDepth 100000 in
theorem Load_ok (m : ByteArray) (addr off : Int) (N : Nat) (w : World) (hm : m.size ≤ 9223372036854775807) (ha : -9223372036854775808 ≤ addr ∧ addr ≤ 9223372036854775807) (ho : -9223372036854775808 ≤ off ∧ off ≤ 9223372036854775807)
    (hN : N = 4 ∨ N = 8) (hok : okAt m.size (plc addr off) N = true) :
    Calls Try.prog 30 #[.string m, .int .i64 addr, .int .i64 off, .int .i64 N] w fun e w' => e = .returned (.tuple #[.int .i64 (ldv (bl m) (plc addr off).toNat N), .bool true]) ∧ Below w.heap.size w w' := by
  have hc := At m addr off N
  obtain ⟨K, hK⟩ := Int.eq_ofNat_of_zero_le (plc_bd addr off).1
  have hKN : K + N ≤ m.size := by have := (okAt_iff.mp hok).2; omega
  have hKb : K ≤ 8589934590 := by have := (plc_bd addr off).2; omega
  rw [hok, hK] at hc
  rw [hK, Int.toNat_natCast]
  have HA := Aside0.mk (fun W => hc W hm ha ho (by omega))
  clear hc hok hK
  have hmin : Nat.min (m.extract K (K + N)).size 8 = N := by
    rw [ByteArray.size_extract]
    show min _ _ = _
    omega
  have hex : (bl (m.extract K (K + N))).take 8 = ((bl m).drop K).take N := by
    rw [bl_extract, List.take_take]
    congr 1
    omega
  have HM := Aside0.mk (And.intro hmin hex)
  have hinfo := Aside0.mk info5
  clear hmin hex
  go_enter Try.func30, Try.ntmps30
  go_wp2_with (first
    | (go_at_call 39; (with_reducible refine (HA.out _).mono ?_); rintro e w1 ⟨rfl, rfl⟩))
  have hq1 : IntKind.i64.wrap ((K : Int) + N) = (K : Int) + N := by rw [IntKind.wrap_i64]; omega
  have hsl := fun W => slice_mid (P := Try.prog) 9 Try.underlying9 m K (K + N) K ((K : Int) + N) rfl (by omega) (by omega) hKN W
  go_still_tail 7, (by kernel_rfl)
  refine wpList_copy_bl rfl (.tmp 23) (.tmp 29) 61 9 rfl 5 Try.underlying61 hinfo.out w.heap.size 0 8 8 rfl (m.extract K (K + N)) rfl [0, 0, 0, 0, 0, 0, 0, 0] 60 (blk_new w _) (by decide) w.heap.size w (below_drew (below_alloc (Below.refl _ _) _)) (Nat.le_refl _) ?_
  intro w2 HC hb2 hk2 hz2
  have H2 := Aside0.mk hb2
  have hC : w2.heap[w.heap.size]? = some (.cells (nums .u8 (spl [0, 0, 0, 0, 0, 0, 0, 0] 0 (((bl m).drop K).take N))).toArray 60 (0, 0)) := by
    rw [← HM.out.2]
    exact HC.out
  have hlN : (((bl m).drop K).take N).length = N := by rw [List.length_take, List.length_drop, bl_length]; omega
  have hB8 : (spl [0, 0, 0, 0, 0, 0, 0, 0] 0 (((bl m).drop K).take N)).length = 8 ∧ (∀ b ∈ spl [0, 0, 0, 0, 0, 0, 0, 0] 0 (((bl m).drop K).take N), 0 ≤ b ∧ b < 256) ∧ le (spl [0, 0, 0, 0, 0, 0, 0, 0] 0 (((bl m).drop K).take N)) = le (((bl m).drop K).take N) := by
    refine ⟨by rw [spl_length (by simp [hlN]; omega)]; rfl, ?_, ?_⟩
    · intro b hb
      simp only [spl, List.take_zero, List.nil_append, List.mem_append] at hb
      rcases hb with hb | hb
      · exact bl_bytes m b (List.mem_of_mem_drop (List.mem_of_mem_take hb))
      · have := List.mem_of_mem_drop hb
        simp at this
        omega
    · simp only [spl, List.take_zero, List.nil_append, le_append, hlN, Nat.zero_add]
      have : [0, 0, 0, 0, 0, 0, 0, 0].drop N = List.replicate (8 - N) (0 : Int) := by rcases hN with rfl | rfl <;> rfl
      rw [this, le_zeros]
      simp
  have hfin : ldv (bl m) K N = wrap64 (le (spl [0, 0, 0, 0, 0, 0, 0, 0] 0 (((bl m).drop K).take N))) := by rw [hB8.2.2]; rfl
  have HF := Aside0.mk hfin
  generalize spl [0, 0, 0, 0, 0, 0, 0, 0] 0 (((bl m).drop K).take N) = B at *
  have HC2 := Aside0.mk (And.intro hC hB8)
  clear hb2 hk2 hz2 HC hC hq1 hsl hlN hB8 hfin
  go_wp2
  go_loop [8, 31] (fun v i => ∃ k : Nat, k ≤ 8 ∧ i = .int .i64 k ∧ v = .int .i64 (wrap64 (le (B.take k)))) (fun _ i => 8 - (intOf i).toNat)
  case atStart => exact ⟨0, Nat.zero_le _, rfl, by simp [le, wrap64]⟩
  case round =>
    obtain ⟨k, hk, rfl, rfl⟩ := hrel
    by_cases hlt : k < 8
    · have hck := nums_at HC2.out.1 k (by rw [HC2.out.2.1]; exact hlt)
      have hst := le_step B k hlt (by rw [HC2.out.2.1]; exact hlt) HC2.out.2.2.1
      have hb := HC2.out.2.2.1 (B.getD k 0) (by rw [List.getD_eq_getElem?_getD, List.getElem?_eq_getElem (by rw [HC2.out.2.1]; exact hlt)]; exact List.getElem_mem _)
      generalize B.getD k 0 = x at *
      obtain ⟨hb0, hb1⟩ := hb
      obtain ⟨v, hv⟩ : ∃ v, wrap64 (le (B.take k)) = v := ⟨_, rfl⟩
      rw [hv] at hst ⊢
      have HV := Aside0.mk hst
      clear hv hst
      go_wp2
      exact ⟨⟨k + 1, hlt, rfl, congrArg _ HV.out⟩, by simp [intOf]; omega⟩
    · obtain rfl : k = 8 := by omega
      have hall : B.take 8 = B := List.take_of_length_le (by rw [HC2.out.2.1]; exact Nat.le_refl _)
      rw [hall]
      clear hall
      go_wp2
      go_ret2
      exact ⟨by rw [HF.out]; rfl, H2.out⟩
end Go.Proofs.Ytiacmfgkbgfhkaa.Lin
