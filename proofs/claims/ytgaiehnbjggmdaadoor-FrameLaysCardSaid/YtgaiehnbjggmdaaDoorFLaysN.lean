/- A machine that may not begin, and a module's regions, are as the chapter says: the law's function. No condition but that numbers and lengths are those of the language. -/
import Derived.Test.YtgaiehnbjggmdaaDoorFLays
import Derived.Test.YtgaiehnbjggmdaaDoorFStartsT
namespace Go.Proofs.YtgaiehnbjggmdaaDoor.F
open Go.Ob Go.RowKit Go.Proofs.YtgaiehnbjggmdaaDoorW.PrintWords Go.Proofs.YtgaiehnbjggmdaaDoorW.PrintMore
attribute [local go_sem] min2_mn min_two IsM_drew atM_drew
attribute [local go_sem ↓] loadAt_mach
attribute [local go_sem] run_loadMI
set_option linter.unusedVariables false
set_option linter.unusedSimpArgs false
theorem cellsR_nil (w : World) : CellsR w none [] := fun i hi => absurd hi (by simp)
set_option maxHeartbeats 16000000 in
set_option maxRecDepth 100000 in
theorem Lays_no (sg im fn : Value) (m0 m1 : Int) (G A : Option Addr) (gl : List (Int × Int)) (ds : List D3) (ng cg nd cd : Nat) (v0 v1 v2 v3 v4 v5 v6 en : Value) (code : ByteArray) (halt entry : Int) (P : Option Addr) (na ca : Nat) (w : World) (hg : Glb w)
    (hgl : gl.length = ng) (hng : ng ≤ 9223372036854775807) (hgc : ng ≤ cg) (hG : CellsG w G gl) (hgv : ∀ g ∈ gl, -9223372036854775808 ≤ g.2 ∧ g.2 ≤ 9223372036854775807) (hds : ds.length = nd) (hnd : nd ≤ 9223372036854775807) (hD : CellsD w A ds) (hsz : ∀ d ∈ ds, d.2.2.size ≤ 9223372036854775807) (hs : code.size ≤ 9223372036854775807) (hna : na ≤ 9223372036854775807)
    (hh : -9223372036854775808 ≤ halt ∧ halt ≤ 9223372036854775807) (h1 : entry < 0 ∨ ((min code.size 5000 : Nat) : Int) ≤ entry ∨ 4 < na) :
    Calls Tryd.prog 9 #[.agg #[sg, im, fn, .int .i64 m0, .int .i64 m1, .slice G ng cg, .slice A nd cd], .agg #[v0, v1, v2, v3, v4, v5, v6, .string code, en, .int .i64 halt], .int .i64 entry, .slice P na ca] w fun e w' => e = .returned (.bool true) ∧ Below w.heap.size w w' := by
  obtain ⟨C, hC, S1⟩ := cut_text code 5000 (by omega) hs
  obtain ⟨k, hk, S3⟩ := cut_globals G ng cg 100 hgc
  have hCs : C.size ≤ 5000 := by omega
  have hk100 : k ≤ 100 := by omega
  have HEC : Aside0 (entry < 0 ∨ (C.size : Int) ≤ entry ∨ 4 < na) := ⟨by rw [hC]; exact h1⟩
  clear h1
  have HE := Aside0.mk (fun W hg => examples W hg)
  have hkl : (gl.take k).length = k := by rw [List.length_take, hgl]; omega
  have HP := Aside0.mk (And.intro hg (And.intro hG (And.intro hds (And.intro hD (And.intro hna (And.intro hna (And.intro hna (And.intro hgv (And.intro hsz (And.intro hkl hna))))))))))
  rw [show ((5000 : Nat) : Int) = 5000 from rfl] at S1
  rw [show ((100 : Nat) : Int) = 100 from rfl] at S3
  obtain ⟨W0, hW0⟩ : ∃ W, (w.alloc (.cells #[sg, im, fn, .int .i64 m0, .int .i64 m1, .slice G ng cg, .slice A nd cd] 70)).alloc (.cells #[v0, v1, v2, v3, v4, v5, v6, .string code, en, .int .i64 halt] 72) = W := ⟨_, rfl⟩
  have b0 : Below w.heap.size w W0 := by rw [← hW0]; exact below_alloc (below_alloc (Below.refl _ _) _) _
  have X0 : W0.heap[w.heap.size]? = some (.cells #[sg, im, fn, .int .i64 m0, .int .i64 m1, .slice G ng cg, .slice A nd cd] 70 (0, 0)) := by rw [← hW0]; exact blk_alloc (blk_new w _) _
  have X1 : W0.heap[w.heap.size + 1]? = some (.cells #[v0, v1, v2, v3, v4, v5, v6, .string code, en, .int .i64 halt] 72 (0, 0)) := by
    rw [← hW0]
    have := blk_new (w.alloc (.cells #[sg, im, fn, .int .i64 m0, .int .i64 m1, .slice G ng cg, .slice A nd cd] 70)) (.cells #[v0, v1, v2, v3, v4, v5, v6, .string code, en, .int .i64 halt] 72)
    rw [World.size_alloc] at this
    exact this
  have H0 := Aside0.mk (And.intro b0 (And.intro X0 X1))
  have HW0 := Aside0.mk hW0
  clear hW0 b0 X0 X1 hC hk hg hG hds hD hgl hgv hsz hna hs hkl
  go_enter Tryd.func9, Tryd.ntmps9
  go_wp2_with fail
  rw [HW0.out]
  clear HW0
  refine (HE.out _ (HP.out.1.below H0.out.1)).mono ?_
  rintro e w1 ⟨rfl, hb1⟩
  have X0 := blk_below H0.out.2.1 hb1
  have X1 := blk_below H0.out.2.2 hb1
  have y5 := blk_cell X0 5
  have f5 := blk_frozen X0 5
  have i7 := blk_cell X1 7
  have g7 := blk_frozen X1 7
  simp at y5 i7
  obtain ⟨W3, hW3⟩ : ∃ W, (w1.setCell ⟨w.heap.size, 5, none⟩ (.slice G k cg)).setCell ⟨w.heap.size + 1, 7, none⟩ (.string C) = W := ⟨_, rfl⟩
  have L3 : LX w.heap.size #[sg, im, fn, .int .i64 m0, .int .i64 m1, .slice G k cg, .slice A nd cd] #[v0, v1, v2, v3, v4, v5, v6, .string C, en, .int .i64 halt] W0 W3 → True := fun _ => trivial
  have k0 : W3.heap[w.heap.size]? = some (.cells #[sg, im, fn, .int .i64 m0, .int .i64 m1, .slice G k cg, .slice A nd cd] 70 (0, 0)) := by
    rw [← hW3]
    exact (Below.heap_setCell _ _ _ w.heap.size (by simp)).trans (blk_set X0 5 (.slice G k cg))
  have k1 : W3.heap[w.heap.size + 1]? = some (.cells #[v0, v1, v2, v3, v4, v5, v6, .string C, en, .int .i64 halt] 72 (0, 0)) := by
    rw [← hW3]
    exact blk_set ((Below.heap_setCell _ _ _ (w.heap.size + 1) (by simp)).trans X1) 7 (.string C)
  have b3 : Below w.heap.size w W3 := by
    rw [← hW3]
    exact ((H0.out.1.trans (hb1.mono H0.out.1.size)).setCell (Nat.le_refl _) _).setCell (Nat.le_succ _) _
  have H3 := Aside0.mk (And.intro k0 (And.intro k1 b3))
  have HW3 := Aside0.mk hW3
  clear hW3 k0 k1 b3 hb1 X0 X1 L3 H0 HE
  go_upto_region 4 with fail
  rw [HW3.out]
  clear HW3 y5 f5 i7 g7 S1 S3
  have hS := fun W => Start_no sg im fn (.int .i64 m0) (.int .i64 m1) (.slice G k cg) (.slice A nd cd) v0 v1 v2 v3 v4 v5 v6 en C halt entry P na ca W (by omega) HP.out.2.2.2.2.1 HEC.out
  have hT := fun W => rStart_no sg im fn (.int .i64 m0) (.int .i64 m1) (.slice G k cg) (.slice A nd cd) v0 v1 v2 v3 v4 v5 v6 en C halt entry P na ca W (by omega) HP.out.2.2.2.2.1 HEC.out
  have hR := fun W (hb : Below w.heap.size w W) => Regions sg im fn m0 m1 G A (gl.take k) ds k cg nd cd C W HP.out.2.2.2.2.2.2.2.2.2.1 (by omega) ((HP.out.2.1.take k).below hb) HP.out.2.2.1 hnd (HP.out.2.2.2.1.below hb)
  have hQ := fun W (hb : Below w.heap.size w W) => rRegions sg im fn m0 m1 G A (gl.take k) ds k cg nd cd C W HP.out.2.2.2.2.2.2.2.2.2.1 (by omega) ((HP.out.2.1.take k).below hb) (fun g hg => HP.out.2.2.2.2.2.2.2.1 g (List.mem_of_mem_take hg)) HP.out.2.2.1 hnd (HP.out.2.2.2.1.below hb) HP.out.2.2.2.2.2.2.2.2.1
  have hrl2 := regs_len C (dataL ((gl.take k).map (·.2))) (List.replicate 16384 0) m0 m1 ds
  obtain ⟨RM, hRM⟩ : ∃ RL, regs C (dataL ((gl.take k).map (·.2))) (List.replicate 16384 0) m0 m1 ds = RL := ⟨_, rfl⟩
  rw [hRM] at hR hQ hrl2
  have HS := Aside0.mk hS
  have HT := Aside0.mk hT
  have HR := Aside0.mk hR
  have HQ := Aside0.mk hQ
  clear hS hT hR hQ hRM
  go_wp2_with (first
    | (refine wpList_load_row rfl 70 (.tmp 4) rfl w.heap.size rfl 70 _ (0, 0) _ H3.out.1 rfl rfl rfl ?_)
    | (refine wpList_load_row rfl 72 (.tmp 5) rfl (w.heap.size + 1) rfl 72 _ (0, 0) _ H3.out.2.1 rfl rfl rfl ?_)
    | fail)
  refine (HS.out W3).mono ?_
  rintro e w4 ⟨rfl, hb⟩
  have X5 := setRow_heap (w4.alloc (.cells #[.int .i64 0, .int .i64 0, .int .i64 0, .int .i64 0, .int .i64 0, .int .i64 0, .int .i64 0, .int .i64 0, .int .i64 0, .int .i64 0, .int .i64 0, .int .i64 0, .int .i64 0, .int .i64 0, .int .i64 0, .int .i64 0, .bool false, .bool false, .bool false, .bool false, .int .i64 0, .slice none 0 0, .int .i64 0] 27)) w4.heap.size _ #[.int .i64 0, .int .i64 0, .int .i64 0, .int .i64 0, .int .i64 0, .int .i64 0, .int .i64 0, .int .i64 0, .int .i64 0, .int .i64 0, .int .i64 0, .int .i64 0, .int .i64 0, .int .i64 0, .int .i64 0, .int .i64 0, .bool false, .bool false, .bool false, .bool false, .int .i64 0, .slice none 0 0, .int .i64 0] _ _ (blk_new w4 _)
  have b5 : Below w4.heap.size w4 ((w4.alloc (.cells #[.int .i64 0, .int .i64 0, .int .i64 0, .int .i64 0, .int .i64 0, .int .i64 0, .int .i64 0, .int .i64 0, .int .i64 0, .int .i64 0, .int .i64 0, .int .i64 0, .int .i64 0, .int .i64 0, .int .i64 0, .int .i64 0, .bool false, .bool false, .bool false, .bool false, .int .i64 0, .slice none 0 0, .int .i64 0] 27)).setRow w4.heap.size #[.int .i64 0, .int .i64 0, .int .i64 0, .int .i64 0, .int .i64 0, .int .i64 0, .int .i64 0, .int .i64 0, .int .i64 0, .int .i64 0, .int .i64 0, .int .i64 0, .int .i64 0, .int .i64 0, .int .i64 0, .int .i64 0, .bool false, .bool false, .bool false, .bool false, .int .i64 0, .slice none 0 0, .int .i64 0]) := below_setRow (below_alloc (Below.refl _ _) _) (Nat.le_refl _) _
  obtain ⟨W5, hW5⟩ : ∃ W, (w4.alloc (.cells #[.int .i64 0, .int .i64 0, .int .i64 0, .int .i64 0, .int .i64 0, .int .i64 0, .int .i64 0, .int .i64 0, .int .i64 0, .int .i64 0, .int .i64 0, .int .i64 0, .int .i64 0, .int .i64 0, .int .i64 0, .int .i64 0, .bool false, .bool false, .bool false, .bool false, .int .i64 0, .slice none 0 0, .int .i64 0] 27)).setRow w4.heap.size #[.int .i64 0, .int .i64 0, .int .i64 0, .int .i64 0, .int .i64 0, .int .i64 0, .int .i64 0, .int .i64 0, .int .i64 0, .int .i64 0, .int .i64 0, .int .i64 0, .int .i64 0, .int .i64 0, .int .i64 0, .int .i64 0, .bool false, .bool false, .bool false, .bool false, .int .i64 0, .slice none 0 0, .int .i64 0] = W := ⟨_, rfl⟩
  rw [hW5] at X5 b5
  have q5 : Below w.heap.size w W5 := H3.out.2.2.trans ((hb.mono H3.out.2.2.size).trans (b5.mono (Nat.le_trans H3.out.2.2.size hb.size)))
  have k50 := blk_below (blk_below H3.out.1 hb) b5
  have k51 := blk_below (blk_below H3.out.2.1 hb) b5
  have H5 := Aside0.mk (And.intro k50 (And.intro k51 (And.intro q5 (And.intro X5 trivial))))
  have HW5 := Aside0.mk hW5
  clear hW5 X5 b5 q5 k50 k51 hb HS
  go_upto_region 5 with (first
    | (refine wpList_store_row rfl 27 (.tmp 10) (.tmp 39) rfl w4.heap.size #[.int .i64 0, .int .i64 0, .int .i64 0, .int .i64 0, .int .i64 0, .int .i64 0, .int .i64 0, .int .i64 0, .int .i64 0, .int .i64 0, .int .i64 0, .int .i64 0, .int .i64 0, .int .i64 0, .int .i64 0, .int .i64 0, .bool false, .bool false, .bool false, .bool false, .int .i64 0, .slice none 0 0, .int .i64 0] rfl rfl 27 _ (blk_new w4 _) (by kernel_rfl) rfl (by kernel_rfl) ?_; rw [HW5.out])
    | fail)
  clear HW5
  go_wp2_with (first
    | (refine wpList_load_row rfl 70 (.tmp 4) rfl w.heap.size rfl 70 _ (0, 0) _ H5.out.1 rfl rfl rfl ?_)
    | (refine wpList_load_row rfl 72 (.tmp 5) rfl (w.heap.size + 1) rfl 72 _ (0, 0) _ H5.out.2.1 rfl rfl rfl ?_)
    | fail)
  refine (HT.out W5).mono ?_
  rintro e w6 ⟨rfl, hb⟩
  have X7 := setRow_heap (w6.alloc (.cells #[.int .i64 0, .int .i64 0, .int .i64 0, .int .i64 0, .int .i64 0, .int .i64 0, .int .i64 0, .int .i64 0, .int .i64 0, .int .i64 0, .int .i64 0, .int .i64 0, .int .i64 0, .int .i64 0, .int .i64 0, .int .i64 0, .bool false, .bool false, .bool false, .bool false, .int .i64 0, .slice none 0 0, .int .i64 0] 27)) w6.heap.size _ #[.int .i64 0, .int .i64 0, .int .i64 0, .int .i64 0, .int .i64 0, .int .i64 0, .int .i64 0, .int .i64 0, .int .i64 0, .int .i64 0, .int .i64 0, .int .i64 0, .int .i64 0, .int .i64 0, .int .i64 0, .int .i64 0, .bool false, .bool false, .bool false, .bool false, .int .i64 0, .slice none 0 0, .int .i64 0] _ _ (blk_new w6 _)
  have b7 : Below w6.heap.size w6 ((w6.alloc (.cells #[.int .i64 0, .int .i64 0, .int .i64 0, .int .i64 0, .int .i64 0, .int .i64 0, .int .i64 0, .int .i64 0, .int .i64 0, .int .i64 0, .int .i64 0, .int .i64 0, .int .i64 0, .int .i64 0, .int .i64 0, .int .i64 0, .bool false, .bool false, .bool false, .bool false, .int .i64 0, .slice none 0 0, .int .i64 0] 27)).setRow w6.heap.size #[.int .i64 0, .int .i64 0, .int .i64 0, .int .i64 0, .int .i64 0, .int .i64 0, .int .i64 0, .int .i64 0, .int .i64 0, .int .i64 0, .int .i64 0, .int .i64 0, .int .i64 0, .int .i64 0, .int .i64 0, .int .i64 0, .bool false, .bool false, .bool false, .bool false, .int .i64 0, .slice none 0 0, .int .i64 0]) := below_setRow (below_alloc (Below.refl _ _) _) (Nat.le_refl _) _
  obtain ⟨W7, hW7⟩ : ∃ W, (w6.alloc (.cells #[.int .i64 0, .int .i64 0, .int .i64 0, .int .i64 0, .int .i64 0, .int .i64 0, .int .i64 0, .int .i64 0, .int .i64 0, .int .i64 0, .int .i64 0, .int .i64 0, .int .i64 0, .int .i64 0, .int .i64 0, .int .i64 0, .bool false, .bool false, .bool false, .bool false, .int .i64 0, .slice none 0 0, .int .i64 0] 27)).setRow w6.heap.size #[.int .i64 0, .int .i64 0, .int .i64 0, .int .i64 0, .int .i64 0, .int .i64 0, .int .i64 0, .int .i64 0, .int .i64 0, .int .i64 0, .int .i64 0, .int .i64 0, .int .i64 0, .int .i64 0, .int .i64 0, .int .i64 0, .bool false, .bool false, .bool false, .bool false, .int .i64 0, .slice none 0 0, .int .i64 0] = W := ⟨_, rfl⟩
  rw [hW7] at X7 b7
  have q7 : Below W5.heap.size W5 W7 := hb.trans (b7.mono hb.size)
  have H7 := Aside0.mk (And.intro (blk_below H5.out.1 q7) (And.intro (blk_below H5.out.2.1 q7) (And.intro (H5.out.2.2.1.trans (q7.mono H5.out.2.2.1.size)) (And.intro trivial trivial))))
  have mk1 := isM_of (blk_below H5.out.2.2.2.1 q7) rfl
  have mk2 := atM_of (blk_below H5.out.2.2.2.1 q7)
  have mk3 := isM_of X7 rfl
  have mk4 := atM_of X7
  have HW7 := Aside0.mk hW7
  clear hW7 X7 b7 q7 hb HT H5
  go_upto_region 6 with (first
    | (refine wpList_store_row rfl 27 (.tmp 12) (.tmp 47) rfl w6.heap.size #[.int .i64 0, .int .i64 0, .int .i64 0, .int .i64 0, .int .i64 0, .int .i64 0, .int .i64 0, .int .i64 0, .int .i64 0, .int .i64 0, .int .i64 0, .int .i64 0, .int .i64 0, .int .i64 0, .int .i64 0, .int .i64 0, .bool false, .bool false, .bool false, .bool false, .int .i64 0, .slice none 0 0, .int .i64 0] rfl rfl 27 _ (blk_new w6 _) (by kernel_rfl) rfl (by kernel_rfl) ?_; rw [HW7.out])
    | fail)
  clear HW7
  go_wp2_with fail
  refine (Same_yes 0 0 0 0 0 0 0 0 0 0 0 0 0 0 0 0 false false false false 0 0 none none 0 0 0 [] W7 rfl (by omega) (cellsR_nil _) (cellsR_nil _)).mono ?_
  rintro e w8 ⟨rfl, hb⟩
  have q8 : Below w.heap.size w w8 := H7.out.2.2.1.trans (hb.mono H7.out.2.2.1.size)
  have HL : Aside0 (LX w.heap.size #[sg, im, fn, .int .i64 m0, .int .i64 m1, .slice G k cg, .slice A nd cd] #[v0, v1, v2, v3, v4, v5, v6, .string C, en, .int .i64 halt] w8 w8) := ⟨⟨blk_below H7.out.1 hb, blk_below H7.out.2.1 hb, Below.refl _ _⟩⟩
  have H8 := Aside0.mk q8
  clear mk1 mk2 mk3 mk4 hb q8 H7
  go_upto_region 7 with fail
  have hx := HL.out
  have hxs := hx.cells
  have hbl : ∀ W, LX w.heap.size #[sg, im, fn, .int .i64 m0, .int .i64 m1, .slice G k cg, .slice A nd cd] #[v0, v1, v2, v3, v4, v5, v6, .string C, en, .int .i64 halt] w8 W → Below w.heap.size w W := fun W h => H8.out.trans (h.2.2.mono H8.out.size)
  have HBL := Aside0.mk hbl
  clear hbl
  go_region_held3 (fun wr => SLX w.heap.size sg im fn (.int .i64 m0) (.int .i64 m1) (.slice G k cg) (.slice A nd cd) v0 v1 v2 v3 v4 v5 v6 (.string C) en (.int .i64 halt) w8 wr) ((refine LX.cells ?_; (with_reducible repeat (first | assumption | refine LX.drew ?_ | refine LX.below ?_ (by assumption)))))
    (first
      | (go_at_call 40; (with_reducible refine (HR.out _ (HBL.out _ (SLX.box (by assumption)))).mono ?_); rintro e wa ⟨v, rfl, ho, hba⟩; obtain ⟨ga, ca2, rfl, hga, hgb, hCa⟩ := cells_of_owned ho rfl (by omega); have HA := Aside0.mk (And.intro hCa hba); clear ho hga hgb hCa)
      | (go_at_call 41; (with_reducible refine (HQ.out _ (HBL.out _ (SLX.box (by assumption)))).mono ?_); rintro e wb ⟨v, rfl, ho, hbb⟩; obtain ⟨gb, cb2, rfl, hga, hgb, hCb⟩ := cells_of_owned ho rfl (by omega); have HB := Aside0.mk (And.intro hCb hbb); clear ho hga hgb hCb)
      | (go_at_call 39; (with_reducible refine (Same_yes 0 0 0 0 0 0 0 0 0 0 0 0 0 0 0 0 false false false false 0 0 (some ⟨ga, 0, none⟩) (some ⟨gb, 0, none⟩) RM.length ca2 cb2 RM wb rfl (by omega) (HA.out.1.below HB.out.2) HB.out.1).mono ?_); rintro e wd ⟨rfl, hbd⟩))
  go_wp2
  go_ret
  exact ⟨rfl, HBL.out _ (SLX.box (by assumption))⟩
theorem LaysT (sg im fn : Value) (m0 m1 : Int) (G : Option Addr) (ng cg : Nat) (A : Option Addr) (nd cd : Nat) (gl : List (Int × Int)) (ds : List D3) (v0 v1 v2 v3 v4 v5 v6 : Value) (code : ByteArray) (en : Value) (halt entry : Int) (args : List Int) (P : Option Addr) (na ca : Nat) (w : World) (hg : Glb w)
    (hG : gl.length = ng ∧ ng ≤ cg ∧ ng ≤ 9223372036854775807 ∧ CellsG w G gl ∧ ∀ g ∈ gl, -9223372036854775808 ≤ g.2 ∧ g.2 ≤ 9223372036854775807) (hds : ds.length = nd) (hnd : nd ≤ 9223372036854775807) (hD : CellsD w A ds) (hz : ∀ d ∈ ds, d.2.2.size ≤ 9223372036854775807)
    (hs : code.size ≤ 9223372036854775807) (hh : -9223372036854775808 ≤ halt ∧ halt ≤ 9223372036854775807) (he : -9223372036854775808 ≤ entry ∧ entry ≤ 9223372036854775807) (hr : ReadsInt w .i64 P na args) (hw : ∀ x ∈ args, (Lit.int .i64 x).wf = true) :
    Calls Tryd.prog 9 #[.agg #[sg, im, fn, .int .i64 m0, .int .i64 m1, .slice G ng cg, .slice A nd cd], .agg #[v0, v1, v2, v3, v4, v5, v6, .string code, en, .int .i64 halt], .int .i64 entry, .slice P na ca] w fun e w' => e = .returned (.bool true) ∧ Below w.heap.size w w' := by
  obtain ⟨g1, g2, g3, g4, g5⟩ := hG
  by_cases h : entry < 0 ∨ ((min code.size 5000 : Nat) : Int) ≤ entry ∨ 4 < na
  · exact Lays_no sg im fn m0 m1 G A gl ds ng cg nd cd v0 v1 v2 v3 v4 v5 v6 en code halt entry P na ca w hg g1 g3 g2 g4 g5 hds hnd hD hz hs hr.2.1 hh h
  · exact Lays_ok sg im fn m0 m1 G A gl ds ng cg nd cd v0 v1 v2 v3 v4 v5 v6 en code halt entry P na ca args w hg g1 g3 g2 g4 g5 hds hnd hD hz hs hr.1 (by omega) hr (fun hn a e => reads_blk hr hn a e) (fun v hv => bounds_i64 (hw v hv)) hh (by omega) (by omega)
end Go.Proofs.YtgaiehnbjggmdaaDoor.F
