/- A machine that may not begin: the reference's function. -/
import Derived.Test.YtgaiehnbjggmdaaDoorFStart
namespace Go.Proofs.YtgaiehnbjggmdaaDoor.F
open Go.Ob Go.RowKit Go.Proofs.YtgaiehnbjggmdaaDoorW.PrintWords Go.Proofs.YtgaiehnbjggmdaaDoorW.PrintMore
set_option linter.unusedVariables false
set_option linter.unusedSimpArgs false
set_option maxHeartbeats 16000000 in
set_option maxRecDepth 100000 in
theorem rStart_no (sg im fn : Value) (m0 m1 gl dt v0 v1 v2 v3 v4 v5 v6 en : Value) (code : ByteArray) (halt entry : Int) (P : Option Addr) (na ca : Nat) (w : World) (hs : code.size ≤ 9223372036854775807) (hna : na ≤ 9223372036854775807) (h : entry < 0 ∨ (code.size : Int) ≤ entry ∨ 4 < na) :
    Calls Tryd.prog 38 #[.agg #[sg, im, fn, m0, m1, gl, dt], .agg #[v0, v1, v2, v3, v4, v5, v6, .string code, en, .int .i64 halt], .int .i64 entry, .slice P na ca] w fun e w' => e = .returned (.tuple #[machZ (.slice none 0 0), .bool false]) ∧ Below w.heap.size w w' := by
  have hc : entry < 0 ∨ (0 ≤ entry ∧ (code.size : Int) ≤ entry) ∨ (0 ≤ entry ∧ ¬ (code.size : Int) ≤ entry ∧ 4 < na) := by omega
  rcases hc with h1 | ⟨h1, h2⟩ | ⟨h1, h2, h3⟩
  all_goals
    clear h
    go_enter Tryd.func38, Tryd.ntmps38
    go_upto_region 2 with fail
    obtain ⟨W4, hW4⟩ : ∃ W, ((w.alloc (.cells #[sg, im, fn, m0, m1, gl, dt] 70)).alloc (.cells #[v0, v1, v2, v3, v4, v5, v6, .string code, en, .int .i64 halt] 72)).alloc (.cells #[.int .i64 0, .int .i64 0, .int .i64 0, .int .i64 0, .int .i64 0, .int .i64 0, .int .i64 0, .int .i64 0, .int .i64 0, .int .i64 0, .int .i64 0, .int .i64 0, .int .i64 0, .int .i64 0, .int .i64 0, .int .i64 0, .bool false, .bool false, .bool false, .bool false, .int .i64 0, .slice none 0 0, .int .i64 0] 27) = W := ⟨_, rfl⟩
    have X4 := blk_new ((w.alloc (.cells #[sg, im, fn, m0, m1, gl, dt] 70)).alloc (.cells #[v0, v1, v2, v3, v4, v5, v6, .string code, en, .int .i64 halt] 72)) (.cells #[.int .i64 0, .int .i64 0, .int .i64 0, .int .i64 0, .int .i64 0, .int .i64 0, .int .i64 0, .int .i64 0, .int .i64 0, .int .i64 0, .int .i64 0, .int .i64 0, .int .i64 0, .int .i64 0, .int .i64 0, .int .i64 0, .bool false, .bool false, .bool false, .bool false, .int .i64 0, .slice none 0 0, .int .i64 0] 27)
    rw [World.size_alloc, World.size_alloc] at X4
    have B4 : Below w.heap.size w W4 := by rw [← hW4]; exact below_alloc (below_alloc (below_alloc (Below.refl _ _) _) _) _
    rw [hW4] at X4 ⊢
    have H4 := Aside0.mk (And.intro B4 X4)
    clear hW4 B4 X4
    refine wp_region_lit ?_
    refine build_named rfl 27 _ rfl #[.int .i64 0, .int .i64 0, .int .i64 0, .int .i64 0, .int .i64 0, .int .i64 0, .int .i64 0, .int .i64 0, .int .i64 0, .int .i64 0, .int .i64 0, .int .i64 0, .int .i64 0, .int .i64 0, .int .i64 0, .int .i64 0, .bool false, .bool false, .bool false, .bool false, .int .i64 0, .slice none 0 0, .int .i64 0] (by kernel_rfl) ?_
    refine wpList_store_row rfl 27 (.tmp 8) (.tmp 29) rfl (w.heap.size + 1 + 1) #[.int .i64 0, .int .i64 0, .int .i64 0, .int .i64 0, .int .i64 0, .int .i64 0, .int .i64 0, .int .i64 0, .int .i64 0, .int .i64 0, .int .i64 0, .int .i64 0, .int .i64 0, .int .i64 0, .int .i64 0, .int .i64 0, .bool false, .bool false, .bool false, .bool false, .int .i64 0, .slice none 0 0, .int .i64 0] rfl rfl 27 _ H4.out.2 (by kernel_rfl) rfl (by kernel_rfl) ?_
    have H5 := Aside0.mk (And.intro (below_setRow H4.out.1 (by omega : w.heap.size ≤ w.heap.size + 1 + 1) #[.int .i64 0, .int .i64 0, .int .i64 0, .int .i64 0, .int .i64 0, .int .i64 0, .int .i64 0, .int .i64 0, .int .i64 0, .int .i64 0, .int .i64 0, .int .i64 0, .int .i64 0, .int .i64 0, .int .i64 0, .int .i64 0, .bool false, .bool false, .bool false, .bool false, .int .i64 0, .slice none 0 0, .int .i64 0]) (setRow_heap W4 (w.heap.size + 1 + 1) _ #[.int .i64 0, .int .i64 0, .int .i64 0, .int .i64 0, .int .i64 0, .int .i64 0, .int .i64 0, .int .i64 0, .int .i64 0, .int .i64 0, .int .i64 0, .int .i64 0, .int .i64 0, .int .i64 0, .int .i64 0, .int .i64 0, .bool false, .bool false, .bool false, .bool false, .int .i64 0, .slice none 0 0, .int .i64 0] _ _ H4.out.2))
    clear H4
    generalize W4.setRow _ _ = W5 at H5 ⊢
    go_wp2
    refine bodyPost_ret (results_row_tmp rfl _ _ (w.heap.size + 1 + 1) _ _ _ _ rfl H5.out.2 rfl rfl rfl) rfl ?_
    exact ⟨rfl, H5.out.1⟩
end Go.Proofs.YtgaiehnbjggmdaaDoor.F
