/- A machine that may not begin is refused: the law's function. No condition but that numbers and lengths are those of the language. -/
import Derived.Test.YtgaiehnbjggmdaaDoorFStarts
namespace Go.Proofs.YtgaiehnbjggmdaaDoor.F
open Go.Ob Go.RowKit Go.Proofs.YtgaiehnbjggmdaaDoorW.PrintWords Go.Proofs.YtgaiehnbjggmdaaDoorW.PrintMore
attribute [local go_sem] min2_mn min_two IsM_drew atM_drew
attribute [local go_sem ↓] loadAt_mach
attribute [local go_sem] run_loadMI
set_option linter.unusedVariables false
set_option linter.unusedSimpArgs false
set_option maxHeartbeats 16000000 in
set_option maxRecDepth 100000 in
theorem Starts_no (sg im fn : Value) (m0 m1 : Int) (G A : Option Addr) (gl : List (Int × Int)) (ds : List D3) (ng cg nd cd : Nat) (code : ByteArray) (halt entry : Int) (P : Option Addr) (na ca : Nat) (w : World) (hg : Glb w)
    (hgl : gl.length = ng) (hng : ng ≤ 9223372036854775807) (hgc : ng ≤ cg) (hG : CellsG w G gl) (hds : ds.length = nd) (hnd : nd ≤ 9223372036854775807) (hD : CellsD w A ds) (hs : code.size ≤ 9223372036854775807) (hna : na ≤ 9223372036854775807)
    (hh : -9223372036854775808 ≤ halt ∧ halt ≤ 9223372036854775807) (he : -9223372036854775808 ≤ entry ∧ entry ≤ 9223372036854775807) (h1 : entry < 0 ∨ ((min code.size 3000 : Nat) : Int) ≤ entry ∨ 4 < na) :
    Calls Tryd.prog 11 #[modV sg im fn m0 m1 G ng cg A nd cd, .string code, .int .i64 halt, .int .i64 entry, .slice P na ca] w fun e w' => e = .returned (.bool true) ∧ Below w.heap.size w w' := by
  obtain ⟨C, hC, S1⟩ := cut_text code 3000 (by omega) hs
  obtain ⟨k, hk, S3⟩ := cut_globals G ng cg 8 hgc
  have hCs : C.size ≤ 3000 := by omega
  have hN := fun W v0 v1 v2 v3 v4 v5 v6 en => Start_no sg im fn (.int .i64 m0) (.int .i64 m1) (.slice G k cg) (.slice A nd cd) v0 v1 v2 v3 v4 v5 v6 en C halt entry P na ca W (by omega) hna (by rw [hC]; omega)
  have HN := Aside0.mk hN
  have HO := Aside0.mk h1
  clear hN h1
  have HE := Aside0.mk (fun W hg => examples W hg)
  have HSS := Aside0.mk (And.intro S1 S3)
  have HK := Aside0.mk (And.intro hC hk)
  have HP := Aside0.mk hg
  clear hC S1 hk S3 hg hG hds hD hgl hs
  have s1 := HSS.out.1
  have s3 := HSS.out.2
  rw [show ((3000 : Nat) : Int) = 3000 from rfl] at s1
  rw [show ((8 : Nat) : Int) = 8 from rfl] at s3
  obtain ⟨W0, hW0⟩ : ∃ W, w.alloc (.cells #[sg, im, fn, .int .i64 m0, .int .i64 m1, .slice G ng cg, .slice A nd cd] 70) = W := ⟨_, rfl⟩
  have b0 : Below w.heap.size w W0 := by rw [← hW0]; exact below_alloc (Below.refl _ _) _
  have X0 : W0.heap[w.heap.size]? = some (.cells #[sg, im, fn, .int .i64 m0, .int .i64 m1, .slice G ng cg, .slice A nd cd] 70 (0, 0)) := by rw [← hW0]; exact blk_new w _
  have z0 : W0.heap.size = w.heap.size + 1 := by rw [← hW0, World.size_alloc]
  have H0 := Aside0.mk (And.intro b0 (And.intro X0 z0))
  have HW0 := Aside0.mk hW0
  clear hW0 b0 X0 z0
  go_enter Tryd.func11, Tryd.ntmps11
  go_wp2_with fail
  rw [HW0.out]
  clear HW0
  refine (HE.out _ (HP.out.below H0.out.1)).mono ?_
  rintro e w1 ⟨rfl, hb1⟩
  have X1 := (hb1.block w.heap.size (by rw [H0.out.2.2]; omega)).trans H0.out.2.1
  have y4 := blk_cell X1 4
  have y5 := blk_cell X1 5
  have f5 := blk_frozen X1 5
  simp at y4 y5
  have H1 := Aside0.mk (And.intro hb1 X1)
  clear hb1 X1
  go_upto_region 4 with fail
  obtain ⟨W2, hW2⟩ : ∃ W, w1.setCell ⟨w.heap.size, 5, none⟩ (.slice G k cg) = W := ⟨_, rfl⟩
  have X2 : W2.heap[w.heap.size]? = some (.cells #[sg, im, fn, .int .i64 m0, .int .i64 m1, .slice G k cg, .slice A nd cd] 70 (0, 0)) := by
    rw [← hW2]
    exact blk_set H1.out.2 5 (.slice G k cg)
  have b2 : Below w.heap.size w W2 := by
    rw [← hW2]
    exact (H0.out.1.trans (H1.out.1.mono (by rw [H0.out.2.2]; exact Nat.le_succ _))).setCell (Nat.le_refl _) _
  rw [hW2]
  clear hW2 y4 y5 f5
  have H2 := Aside0.mk (And.intro b2 X2)
  clear b2 X2 HE HSS s1 s3
  go_wp2_with (first
    | (refine wpList_load_row rfl 70 (.tmp 5) rfl w.heap.size rfl 70 _ (0, 0) _ H2.out.2 rfl rfl rfl ?_)
    | fail)
  refine (HN.out _ _ _ _ _ _ _ _ _).mono ?_
  rintro e w3 ⟨rfl, hb⟩
  have X4 := setRow_heap (w3.alloc (.cells #[.int .i64 0, .int .i64 0, .int .i64 0, .int .i64 0, .int .i64 0, .int .i64 0, .int .i64 0, .int .i64 0, .int .i64 0, .int .i64 0, .int .i64 0, .int .i64 0, .int .i64 0, .int .i64 0, .int .i64 0, .int .i64 0, .bool false, .bool false, .bool false, .bool false, .int .i64 0, .slice none 0 0, .int .i64 0] 27)) w3.heap.size _ #[.int .i64 0, .int .i64 0, .int .i64 0, .int .i64 0, .int .i64 0, .int .i64 0, .int .i64 0, .int .i64 0, .int .i64 0, .int .i64 0, .int .i64 0, .int .i64 0, .int .i64 0, .int .i64 0, .int .i64 0, .int .i64 0, .bool false, .bool false, .bool false, .bool false, .int .i64 0, .slice none 0 0, .int .i64 0] _ _ (blk_new w3 _)
  have b4 : Below w3.heap.size w3 ((w3.alloc (.cells #[.int .i64 0, .int .i64 0, .int .i64 0, .int .i64 0, .int .i64 0, .int .i64 0, .int .i64 0, .int .i64 0, .int .i64 0, .int .i64 0, .int .i64 0, .int .i64 0, .int .i64 0, .int .i64 0, .int .i64 0, .int .i64 0, .bool false, .bool false, .bool false, .bool false, .int .i64 0, .slice none 0 0, .int .i64 0] 27)).setRow w3.heap.size #[.int .i64 0, .int .i64 0, .int .i64 0, .int .i64 0, .int .i64 0, .int .i64 0, .int .i64 0, .int .i64 0, .int .i64 0, .int .i64 0, .int .i64 0, .int .i64 0, .int .i64 0, .int .i64 0, .int .i64 0, .int .i64 0, .bool false, .bool false, .bool false, .bool false, .int .i64 0, .slice none 0 0, .int .i64 0]) := below_setRow (below_alloc (Below.refl _ _) _) (Nat.le_refl _) _
  obtain ⟨W4, hW4⟩ : ∃ W, (w3.alloc (.cells #[.int .i64 0, .int .i64 0, .int .i64 0, .int .i64 0, .int .i64 0, .int .i64 0, .int .i64 0, .int .i64 0, .int .i64 0, .int .i64 0, .int .i64 0, .int .i64 0, .int .i64 0, .int .i64 0, .int .i64 0, .int .i64 0, .bool false, .bool false, .bool false, .bool false, .int .i64 0, .slice none 0 0, .int .i64 0] 27)).setRow w3.heap.size #[.int .i64 0, .int .i64 0, .int .i64 0, .int .i64 0, .int .i64 0, .int .i64 0, .int .i64 0, .int .i64 0, .int .i64 0, .int .i64 0, .int .i64 0, .int .i64 0, .int .i64 0, .int .i64 0, .int .i64 0, .int .i64 0, .bool false, .bool false, .bool false, .bool false, .int .i64 0, .slice none 0 0, .int .i64 0] = W := ⟨_, rfl⟩
  rw [hW4] at X4 b4
  have y21 := blk_cell X4 21
  simp at y21
  have HZ : Aside0 (Below w.heap.size w W4) := ⟨H2.out.1.trans ((hb.mono H2.out.1.size).trans (b4.mono (Nat.le_trans H2.out.1.size hb.size)))⟩
  have HW4 := Aside0.mk hW4
  clear hW4 b4 X4 hb HN
  rcases (show entry < 0 ∨ (0 ≤ entry ∧ (C.size : Int) ≤ entry) ∨ (0 ≤ entry ∧ entry < (C.size : Int) ∧ 4 < na) by have := HO.out; have := HK.out.1; omega) with o1 | ⟨o1, o2⟩ | ⟨o1, o2, o3⟩
  · have t1 : decide (entry < 0) = true := decide_eq_true (by omega)
    clear HO
    go_wp2_with (first
      | (refine wpList_store_row rfl 27 (.tmp 12) (.tmp 43) rfl w3.heap.size #[.int .i64 0, .int .i64 0, .int .i64 0, .int .i64 0, .int .i64 0, .int .i64 0, .int .i64 0, .int .i64 0, .int .i64 0, .int .i64 0, .int .i64 0, .int .i64 0, .int .i64 0, .int .i64 0, .int .i64 0, .int .i64 0, .bool false, .bool false, .bool false, .bool false, .int .i64 0, .slice none 0 0, .int .i64 0] rfl rfl 27 _ (blk_new w3 _) (by kernel_rfl) rfl (by kernel_rfl) ?_; rw [HW4.out])
      | fail)
    go_ret
    exact ⟨rfl, HZ.out⟩
  · have t1 : decide (entry < 0) = false := decide_eq_false (by omega)
    have t2 : decide ((C.size : Int) ≤ entry) = true := decide_eq_true (by omega)
    clear HO
    go_wp2_with (first
      | (refine wpList_store_row rfl 27 (.tmp 12) (.tmp 43) rfl w3.heap.size #[.int .i64 0, .int .i64 0, .int .i64 0, .int .i64 0, .int .i64 0, .int .i64 0, .int .i64 0, .int .i64 0, .int .i64 0, .int .i64 0, .int .i64 0, .int .i64 0, .int .i64 0, .int .i64 0, .int .i64 0, .int .i64 0, .bool false, .bool false, .bool false, .bool false, .int .i64 0, .slice none 0 0, .int .i64 0] rfl rfl 27 _ (blk_new w3 _) (by kernel_rfl) rfl (by kernel_rfl) ?_; rw [HW4.out])
      | fail)
    go_ret
    exact ⟨rfl, HZ.out⟩
  · have t1 : decide (entry < 0) = false := decide_eq_false (by omega)
    have t2 : decide ((C.size : Int) ≤ entry) = false := decide_eq_false (by omega)
    have t3 : decide ((4 : Int) < na) = true := decide_eq_true (by omega)
    clear HO
    go_wp2_with (first
      | (refine wpList_store_row rfl 27 (.tmp 12) (.tmp 43) rfl w3.heap.size #[.int .i64 0, .int .i64 0, .int .i64 0, .int .i64 0, .int .i64 0, .int .i64 0, .int .i64 0, .int .i64 0, .int .i64 0, .int .i64 0, .int .i64 0, .int .i64 0, .int .i64 0, .int .i64 0, .int .i64 0, .int .i64 0, .bool false, .bool false, .bool false, .bool false, .int .i64 0, .slice none 0 0, .int .i64 0] rfl rfl 27 _ (blk_new w3 _) (by kernel_rfl) rfl (by kernel_rfl) ?_; rw [HW4.out])
      | fail)
    go_ret
    exact ⟨rfl, HZ.out⟩
end Go.Proofs.YtgaiehnbjggmdaaDoor.F
