/- No two regions touch, and the places of the stack, of the data and of each memory lie within their own: the law's function. No condition but that numbers and lengths are those of the language. -/
import Derived.Test.YtgaiehnbjggmdaaDoorFApartP
namespace Go.Proofs.YtgaiehnbjggmdaaDoor.F
open Go.Ob Go.RowKit Go.Proofs.YtgaiehnbjggmdaaDoorW.PrintWords Go.Proofs.YtgaiehnbjggmdaaDoorW.PrintMore
attribute [local go_sem] min2_mn min_two IsM_drew atM_drew
attribute [local go_sem ↓] loadAt_mach
attribute [local go_sem] run_loadMI
set_option linter.unusedVariables false
set_option linter.unusedSimpArgs false
theorem sum_arg2 (K : Nat) (h : K ≤ 1000) : IntKind.i64.wrap (65536 + (K : Int)) = 65536 + (K : Int) := by
  rw [IntKind.wrap_i64]
  omega
theorem rng_arg2 (K : Nat) (h : K ≤ 1000) : -9223372036854775808 ≤ 65536 + (K : Int) ∧ 65536 + (K : Int) ≤ 9223372036854775807 := by omega
theorem memOk_lt (k e : Int) (h : e < 3) : memOk k e = false := by unfold memOk; exact decide_eq_false (by omega)
theorem memOk_gt (k e : Int) (h : 12 < e) : memOk k e = false := by unfold memOk; exact decide_eq_false (by omega)
theorem memOk_in (k e : Int) (hk : k = 0 ∨ k = 1) (h : 3 ≤ e) (h' : e ≤ 12) : memOk k e = true := by unfold memOk; exact decide_eq_true ⟨hk, h, h'⟩
theorem mem_0 : wrap64 (wrap64 (131072 + wrap64 (65536 * 0)) - 65536) = 65536 := by unfold wrap64; omega
theorem mem_1 : wrap64 (wrap64 (131072 + wrap64 (65536 * 1)) - 65536) = 131072 := by unfold wrap64; omega
theorem sum_m0 : IntKind.i64.wrap 131072 = 131072 := by rw [IntKind.wrap_i64]; omega
theorem sum_m1 : IntKind.i64.wrap 196608 = 196608 := by rw [IntKind.wrap_i64]; omega
theorem rng_m0 : (-9223372036854775808 : Int) ≤ 131072 ∧ (131072 : Int) ≤ 9223372036854775807 := by omega
theorem rng_m1 : (-9223372036854775808 : Int) ≤ 196608 ∧ (196608 : Int) ≤ 9223372036854775807 := by omega
theorem rng_ov : (-9223372036854775808 : Int) ≤ 278521 ∧ (278521 : Int) ≤ 9223372036854775807 := by omega
theorem rd_mem (RL : List R3) (ok : ∀ r ∈ RL, OkR r) (len : 3 ≤ RL.length ∧ RL.length ≤ 5) (ad : Addr) (cap : Nat) (at_ : Int) (b : Bool) (hy : b = true → ∃ i k, fndF at_ 8 false RL 0 = some (i, k) ∧ i < RL.length ∧ k + 8 ≤ (RL.getD i (0, ⟨#[]⟩, false)).2.1.size)
    (hn : b = false → fndF at_ 8 false RL 0 = none) (ha : -9223372036854775808 ≤ at_ ∧ at_ ≤ 9223372036854775807) (W5 : World) (hc : ∀ W, Below W5.heap.size W5 W → CellsR W (some ad) RL) :
    ∃ (v : Int) (ok : Bool), ok = b ∧ ∀ W, Below W5.heap.size W5 W → Calls Tryd.prog 17 #[mach (.int .i64 0) (.int .i64 0) (.int .i64 0) (.int .i64 0) (.int .i64 0) (.int .i64 0) (.int .i64 0) (.int .i64 0) (.int .i64 0) (.int .i64 0) (.int .i64 0) (.int .i64 0) (.int .i64 0) (.int .i64 0) (.int .i64 0) (.int .i64 0) (.bool false) (.bool false) (.bool false) (.bool false) (.int .i64 0) (.slice (some ad) RL.length cap) (.int .i64 0), .int .i64 at_, .int .i64 8] W fun e w' => e = .returned (.tuple #[.int .i64 v, .bool ok]) ∧ Below W.heap.size W w' := by
  cases b with
  | true =>
    obtain ⟨i, k, hf, hi, hk⟩ := hy rfl
    exact ⟨_, true, rfl, fun W h => Read_of RL ok ad RL.length cap at_ _ i k (.int .i64 0) (.int .i64 0) (.int .i64 0) (.int .i64 0) (.int .i64 0) (.int .i64 0) (.int .i64 0) (.int .i64 0) (.int .i64 0) (.int .i64 0) (.int .i64 0) (.int .i64 0) (.int .i64 0) (.int .i64 0) (.int .i64 0) (.int .i64 0) (.bool false) (.bool false) (.bool false) (.bool false) (.int .i64 0) (.int .i64 0) W rfl (by omega) (hc W h) ha hf hi rfl hk⟩
  | false =>
    exact ⟨0, false, rfl, fun W h => Read_no RL (some ad) RL.length cap at_ 8 (.int .i64 0) (.int .i64 0) (.int .i64 0) (.int .i64 0) (.int .i64 0) (.int .i64 0) (.int .i64 0) (.int .i64 0) (.int .i64 0) (.int .i64 0) (.int .i64 0) (.int .i64 0) (.int .i64 0) (.int .i64 0) (.int .i64 0) (.int .i64 0) (.bool false) (.bool false) (.bool false) (.bool false) (.int .i64 0) (.int .i64 0) W rfl (by omega) (hc W h) ok ha (Or.inr rfl) (hn rfl)⟩
theorem wrap_sum (a : Int) (n : Nat) (h : 0 ≤ a ∧ a ≤ 1048576 ∧ n ≤ 100000) : IntKind.i64.wrap (a + (n : Int)) = a + (n : Int) := by
  rw [IntKind.wrap_i64]
  omega
set_option maxHeartbeats 16000000 in
set_option maxRecDepth 100000 in
theorem Apart_w (sg im fn : Value) (m0 m1 : Int) (G A : Option Addr) (gl : List (Int × Int)) (ds : List D3) (ng cg nd cd : Nat) (code : ByteArray) (w : World) (hg : Glb w)
    (hgl : gl.length = ng) (hng : ng ≤ 9223372036854775807) (hgc : ng ≤ cg) (hG : CellsG w G gl) (hgv : ∀ g ∈ gl, -9223372036854775808 ≤ g.2 ∧ g.2 ≤ 9223372036854775807) (hds : ds.length = nd) (hnd : nd ≤ 9223372036854775807) (hD : CellsD w A ds) (hs : code.size ≤ 9223372036854775807) :
    Calls Tryd.prog 10 #[modV sg im fn m0 m1 G ng cg A nd cd, .string code] w fun e w' => e = .returned (.bool true) ∧ Below w.heap.size w w' := by
  obtain ⟨C, hC, S1⟩ := cut_text code 5000 (by omega) hs
  obtain ⟨k, hk, S3⟩ := cut_globals G ng cg 8 hgc
  have hCs : C.size ≤ 5000 := by omega
  have HE := Aside0.mk (fun W hg => examples W hg)
  have HSS := Aside0.mk (And.intro S1 S3)
  have HK := Aside0.mk (And.intro hC (And.intro hk hgl))
  have hk8 : k ≤ 8 := by omega
  have HP := Aside0.mk (And.intro hg (And.intro hG (And.intro hds (And.intro hD hgv))))
  clear hC S1 hk S3 hg hG hds hD hgl hs hgv
  have s1 := HSS.out.1
  have s3 := HSS.out.2
  rw [show ((5000 : Nat) : Int) = 5000 from rfl] at s1
  rw [show ((8 : Nat) : Int) = 8 from rfl] at s3
  obtain ⟨W0, hW0⟩ : ∃ W, w.alloc (.cells #[sg, im, fn, .int .i64 m0, .int .i64 m1, .slice G ng cg, .slice A nd cd] 70) = W := ⟨_, rfl⟩
  have b0 : Below w.heap.size w W0 := by rw [← hW0]; exact below_alloc (Below.refl _ _) _
  have X0 : W0.heap[w.heap.size]? = some (.cells #[sg, im, fn, .int .i64 m0, .int .i64 m1, .slice G ng cg, .slice A nd cd] 70 (0, 0)) := by rw [← hW0]; exact blk_new w _
  have z0 : W0.heap.size = w.heap.size + 1 := by rw [← hW0, World.size_alloc]
  have H0 := Aside0.mk (And.intro b0 (And.intro X0 z0))
  have HW0 := Aside0.mk hW0
  clear hW0 b0 X0 z0
  go_enter Tryd.func10, Tryd.ntmps10
  go_wp2_with fail
  rw [HW0.out]
  clear HW0
  refine (HE.out _ (HP.out.1.below H0.out.1)).mono ?_
  rintro e w1 ⟨rfl, hb1⟩
  have X1 := (hb1.block w.heap.size (by rw [H0.out.2.2]; omega)).trans H0.out.2.1
  have y4 := blk_cell X1 4
  have y5 := blk_cell X1 5
  have f5 := blk_frozen X1 5
  simp at y4 y5
  have H1 := Aside0.mk (And.intro hb1 X1)
  clear hb1 X1
  go_upto_region 3 with fail
  obtain ⟨W2, hW2⟩ : ∃ W, w1.setCell ⟨w.heap.size, 5, none⟩ (.slice G k cg) = W := ⟨_, rfl⟩
  have X2 : W2.heap[w.heap.size]? = some (.cells #[sg, im, fn, .int .i64 m0, .int .i64 m1, .slice G k cg, .slice A nd cd] 70 (0, 0)) := by
    rw [← hW2]
    exact blk_set H1.out.2 5 (.slice G k cg)
  have b2 : Below w.heap.size w W2 := by
    rw [← hW2]
    exact (H0.out.1.trans (H1.out.1.mono (by rw [H0.out.2.2]; exact Nat.le_succ _))).setCell (Nat.le_refl _) _
  rw [hW2]
  clear hW2 y4 y5 f5
  have hkl : (gl.take k).length = k := by rw [List.length_take, HK.out.2.2, HK.out.2.1]; omega
  have hS := fun W (hb : Below w.heap.size w W) => Regions sg im fn m0 m1 G A (gl.take k) ds k cg nd cd C W hkl (by omega) ((HP.out.2.1.take k).below hb) HP.out.2.2.1 hnd (HP.out.2.2.2.1.below hb)
  have hRd := apOk_of C ((gl.take k).map (·.2)) m0 m1 ds (by omega) (by rw [List.length_map, hkl]; omega) (fun v hv => by
    obtain ⟨g, hg1, hg2⟩ := List.mem_map.mp hv
    rw [← hg2]
    exact HP.out.2.2.2.2 g (List.mem_of_mem_take hg1))
  obtain ⟨RL, hRL⟩ : ∃ RL, regs C (dataL ((gl.take k).map (·.2))) (List.replicate 16384 0) m0 m1 ds = RL := ⟨_, rfl⟩
  rw [hRL] at hS hRd
  clear hRL
  have HS := Aside0.mk hS
  have HR := Aside0.mk hRd
  have H2 := Aside0.mk (And.intro b2 X2)
  have z0 := blk_cell X2 0
  have z1 := blk_cell X2 1
  have z2 := blk_cell X2 2
  have z3 := blk_cell X2 3
  have z4 := blk_cell X2 4
  have z5 := blk_cell X2 5
  have z6 := blk_cell X2 6
  simp at z0 z1 z2 z3 z4 z5 z6
  have HKL := Aside0.mk hkl
  clear hS hRd b2 X2 HE HSS s3 hkl
  go_cut [6] from 29 to 35 (fun v wx => ∃ ad : Addr, ∃ cap : Nat, v = .slice (some ad) RL.length cap ∧ CellsR wx (some ad) RL ∧ wx.heap[w.heap.size]? = some (.cells #[sg, im, fn, .int .i64 m0, .int .i64 m1, .slice G k cg, .slice A nd cd] 70 (0, 0)) ∧ Below w.heap.size w wx ∧ w.heap.size < wx.heap.size)
  case first =>
    go_region_with (first
      | (go_at_call 40; (with_reducible refine (HS.out _ (below_drew H2.out.1)).mono ?_); rintro e w3 ⟨v, rfl, ho, hb⟩; have H3 := Aside0.mk (And.intro ho hb); clear ho hb))
    all_goals
      go_wp2
      go_meet
      case rel =>
        obtain ⟨g, cap, rfl, hg0, hg1, hCR⟩ := cells_of_owned H3.out.1 rfl (by have := HR.out.len; omega)
        have hlt := blk_lt H2.out.2
        exact ⟨⟨g, 0, none⟩, cap, rfl, hCR, (H3.out.2.block w.heap.size hlt).trans H2.out.2, (below_drew H2.out.1).trans (H3.out.2.mono H2.out.1.size), Nat.lt_of_lt_of_le hlt H3.out.2.size⟩
  case rest =>
    rename_i w4
    obtain ⟨ad, cap, rfl, hCR, hX, hB, hZ⟩ := hcut
    have H4 := Aside0.mk (And.intro hCR (And.intro hX (And.intro hB hZ)))
    clear hCR hX hB hZ z0 z1 z2 z3 z4 z5 z6 s1
    go_wp2
    go_loopw [7, 8] (fun c _ wr => ∃ i : Nat, i ≤ RL.length ∧ c = .int .i64 i ∧ Below wc.heap.size wc wr) (fun c _ _ => RL.length - (intOf c).toNat)
    case atStart => exact ⟨0, Nat.zero_le _, rfl, Below.refl _ _⟩
    case round =>
      obtain ⟨i, hi, rfl, hbw⟩ := hrel
      have HB := Aside0.mk hbw
      clear hbw
      have hL := HR.out.len
      by_cases hlt : i < RL.length
      · as_aux_lemma =>
          obtain ⟨wo, rfl⟩ : ∃ wo : World, wo = wr := ⟨_, rfl⟩
          go_wp2
          go_loopw [8] (fun c wr => ∃ j : Nat, j ≤ i ∧ c = .int .i64 j ∧ Below wc.heap.size wc wr) (fun c _ => i - (intOf c).toNat)
          case atStart => exact ⟨0, Nat.zero_le _, rfl, HB.out⟩
          case round =>
            obtain ⟨j, hj, rfl, hbw⟩ := hrel
            have HC := Aside0.mk hbw
            clear hbw
            by_cases hjt : j < i
            · have hj2 : j < RL.length := by omega
              have hap := List.pairwise_iff_getElem.mp HR.out.apart j i hj2 hlt hjt
              have hs1 := HR.out.small RL[i] (List.getElem_mem _)
              have hs2 := HR.out.small RL[j] (List.getElem_mem _)
              obtain ⟨ad2, e2, _, c0, c1, _⟩ := (H4.out.1.below HC.out) i hlt
              obtain rfl := Option.some.inj e2
              obtain ⟨ad3, e3, _, d0, d1, _⟩ := (H4.out.1.below HC.out) j hj2
              obtain rfl := Option.some.inj e3
              clear e2 e3
              generalize RL[i] = ri at *
              generalize RL[j] = rj at *
              obtain ⟨ai, si, fi⟩ := ri
              obtain ⟨aj, sj, fj⟩ := rj
              unfold Apart at hap
              dsimp only at hap hs1 hs2 c0 c1 d0 d1
              have w1 := wrap_sum aj sj.size hs2
              have w2 := wrap_sum ai si.size hs1
              rcases hap with h | h
              · have t1 : decide (ai ≤ aj + (sj.size : Int)) = true := decide_eq_true (by omega)
                have t2 : decide (aj ≤ ai + (si.size : Int)) = false := decide_eq_false (by omega)
                clear h
                go_wp2
                go_quiet (fail)
                go_wp2
                refine ⟨⟨j + 1, hjt, by simp, pw_below_drewN HC.out _⟩, by simp [intOf]; omega⟩
              · have t1 : decide (ai ≤ aj + (sj.size : Int)) = false := decide_eq_false (by omega)
                clear h
                go_wp2
                go_quiet (fail)
                go_wp2
                refine ⟨⟨j + 1, hjt, by simp, pw_below_drewN HC.out _⟩, by simp [intOf]; omega⟩
            · obtain rfl : j = i := by omega
              go_wp2
              refine ⟨⟨j + 1, hlt, by simp, HC.out⟩, by simp [intOf]; omega⟩
      · obtain rfl : i = RL.length := by omega
        obtain ⟨wd, rfl⟩ : ∃ wd : World, wd = wr := ⟨_, rfl⟩
        have t0 : decide ((RL.length : Int) < 3) = false := decide_eq_false (by omega)
        have X5 := setRow_heap (wd.alloc (.cells #[.int .i64 0, .int .i64 0, .int .i64 0, .int .i64 0, .int .i64 0, .int .i64 0, .int .i64 0, .int .i64 0, .int .i64 0, .int .i64 0, .int .i64 0, .int .i64 0, .int .i64 0, .int .i64 0, .int .i64 0, .int .i64 0, .bool false, .bool false, .bool false, .bool false, .int .i64 0, .slice none 0 0, .int .i64 0] 27)) wd.heap.size _ #[.int .i64 0, .int .i64 0, .int .i64 0, .int .i64 0, .int .i64 0, .int .i64 0, .int .i64 0, .int .i64 0, .int .i64 0, .int .i64 0, .int .i64 0, .int .i64 0, .int .i64 0, .int .i64 0, .int .i64 0, .int .i64 0, .bool false, .bool false, .bool false, .bool false, .int .i64 0, .slice (some ad) RL.length cap, .int .i64 0] _ _ (blk_new wd _)
        have b5 : Below wd.heap.size wd ((wd.alloc (.cells #[.int .i64 0, .int .i64 0, .int .i64 0, .int .i64 0, .int .i64 0, .int .i64 0, .int .i64 0, .int .i64 0, .int .i64 0, .int .i64 0, .int .i64 0, .int .i64 0, .int .i64 0, .int .i64 0, .int .i64 0, .int .i64 0, .bool false, .bool false, .bool false, .bool false, .int .i64 0, .slice none 0 0, .int .i64 0] 27)).setRow wd.heap.size #[.int .i64 0, .int .i64 0, .int .i64 0, .int .i64 0, .int .i64 0, .int .i64 0, .int .i64 0, .int .i64 0, .int .i64 0, .int .i64 0, .int .i64 0, .int .i64 0, .int .i64 0, .int .i64 0, .int .i64 0, .int .i64 0, .bool false, .bool false, .bool false, .bool false, .int .i64 0, .slice (some ad) RL.length cap, .int .i64 0]) := below_setRow (below_alloc (Below.refl _ _) _) (Nat.le_refl _) _
        obtain ⟨W5, hW5⟩ : ∃ W, (wd.alloc (.cells #[.int .i64 0, .int .i64 0, .int .i64 0, .int .i64 0, .int .i64 0, .int .i64 0, .int .i64 0, .int .i64 0, .int .i64 0, .int .i64 0, .int .i64 0, .int .i64 0, .int .i64 0, .int .i64 0, .int .i64 0, .int .i64 0, .bool false, .bool false, .bool false, .bool false, .int .i64 0, .slice none 0 0, .int .i64 0] 27)).setRow wd.heap.size #[.int .i64 0, .int .i64 0, .int .i64 0, .int .i64 0, .int .i64 0, .int .i64 0, .int .i64 0, .int .i64 0, .int .i64 0, .int .i64 0, .int .i64 0, .int .i64 0, .int .i64 0, .int .i64 0, .int .i64 0, .int .i64 0, .bool false, .bool false, .bool false, .bool false, .int .i64 0, .slice (some ad) RL.length cap, .int .i64 0] = W := ⟨_, rfl⟩
        rw [hW5] at X5 b5
        have hCW : ∀ W, Below W5.heap.size W5 W → CellsR W (some ad) RL ∧ W.heap[wd.heap.size]? = some (.cells #[.int .i64 0, .int .i64 0, .int .i64 0, .int .i64 0, .int .i64 0, .int .i64 0, .int .i64 0, .int .i64 0, .int .i64 0, .int .i64 0, .int .i64 0, .int .i64 0, .int .i64 0, .int .i64 0, .int .i64 0, .int .i64 0, .bool false, .bool false, .bool false, .bool false, .int .i64 0, .slice (some ad) RL.length cap, .int .i64 0] 27 (0, 0)) ∧ W.heap[w.heap.size]? = some (.cells #[sg, im, fn, .int .i64 m0, .int .i64 m1, .slice G k cg, .slice A nd cd] 70 (0, 0)) ∧ Below w.heap.size w W := fun W hb => by
          have hx := blk_lt X5
          have q1 : Below wd.heap.size wd W := b5.trans (hb.mono b5.size)
          have q2 : Below wc.heap.size wc W := HB.out.trans (q1.mono HB.out.size)
          exact ⟨H4.out.1.below q2, (hb.block wd.heap.size hx).trans X5, (q2.block w.heap.size H4.out.2.2.2).trans H4.out.2.1, H4.out.2.2.1.trans (q2.mono H4.out.2.2.1.size)⟩
        have HCW := Aside0.mk hCW
        have HW5 := Aside0.mk hW5
        clear hCW hW5 X5 b5
        go_wp2_with (first
          | (refine wpList_store_row rfl 27 (.tmp 9) (.tmp 89) rfl wd.heap.size #[.int .i64 0, .int .i64 0, .int .i64 0, .int .i64 0, .int .i64 0, .int .i64 0, .int .i64 0, .int .i64 0, .int .i64 0, .int .i64 0, .int .i64 0, .int .i64 0, .int .i64 0, .int .i64 0, .int .i64 0, .int .i64 0, .bool false, .bool false, .bool false, .bool false, .int .i64 0, .slice (some ad) RL.length cap, .int .i64 0] rfl rfl 27 _ (blk_new wd _) (by kernel_rfl) rfl (by kernel_rfl) ?_; rw [HW5.out])
          | fail)
        clear t0 HW5
        go_loopw [10] (fun c wr => ∃ i : Nat, i ≤ k ∧ c = .int .i64 i ∧ Below W5.heap.size W5 wr) (fun c _ => k - (intOf c).toNat)
        case atStart => exact ⟨0, Nat.zero_le _, rfl, Below.refl _ _⟩
        case round =>
          obtain ⟨i, hi, rfl, hby⟩ := hrel
          have HY := Aside0.mk hby
          clear hby
          have hxy := HCW.out wr HY.out
          have z5 := blk_cell hxy.2.2.1 5
          simp at z5
          have mk1 := isM_of hxy.2.1 rfl
          have mk2 := atM_of hxy.2.1
          clear hxy
          by_cases hik : i < k
          · as_aux_lemma =>
              have hil : i < (gl.take k).length := by rw [HKL.out]; exact hik
              obtain ⟨adG, eG, hbG, g0, g1⟩ := (HP.out.2.1.take k) i hil
              have hgl2 : i < ((gl.take k).map (·.2)).length := by rw [List.length_map]; exact hil
              have hvv := HR.out.globv i hgl2
              rw [List.getElem_map] at hvv
              have hGl := fun W => Global (i : Int) W
              rw [gl_wrap i (by omega)] at hGl
              have hRd := fun W (h : Below W5.heap.size W5 W) => Read_of RL HR.out.ok ad RL.length cap (65536 + ((40 + 8 * i : Nat) : Int)) ((gl.take k)[i].2) 1 (40 + 8 * i) (.int .i64 0) (.int .i64 0) (.int .i64 0) (.int .i64 0) (.int .i64 0) (.int .i64 0) (.int .i64 0) (.int .i64 0) (.int .i64 0) (.int .i64 0) (.int .i64 0) (.int .i64 0) (.int .i64 0) (.int .i64 0) (.int .i64 0) (.int .i64 0) (.bool false) (.bool false) (.bool false) (.bool false) (.int .i64 0) (.int .i64 0) W rfl (by have := HR.out.len; omega) (HCW.out W h).1 (rng_arg2 (40 + 8 * i) (by omega)) (HR.out.glob i hgl2) (by have := HR.out.len; omega) hvv (by rw [HR.out.globz, List.length_map]; omega)
              have gc : ∀ W, Below W5.heap.size W5 W → W.cell? ⟨(adG.add (i * 2)).block, (adG.add (i * 2)).off + 1, none⟩ = some (.int .i64 (gl.take k)[i].2) := fun W h => by
                rw [(HCW.out W h).2.2.2.cell (p := ⟨(adG.add (i * 2)).block, (adG.add (i * 2)).off + 1, none⟩) (by show (adG.add (i * 2)).block < _; rw [add_blk]; exact hbG)]
                exact g1
              obtain ⟨K, hK⟩ : ∃ K, 40 + 8 * i = K := ⟨_, rfl⟩
              have hK2 : K ≤ 1000 := by omega
              rw [hK] at hGl hRd
              subst eG
              obtain ⟨av, hav⟩ : ∃ av, (gl.take k)[i].2 = av := ⟨_, rfl⟩
              rw [hav] at hRd gc
              have HGL := Aside0.mk hGl
              have HRD := Aside0.mk hRd
              have HGC := Aside0.mk gc
              clear hGl hRd gc hK hav hvv g0 g1 hgl2 hil hbG
              have ws := sum_arg2 K hK2
              go_wp2_with fail
              go_region_with (first
                | (go_at_call 33; (with_reducible refine (HGL.out _).mono ?_); rintro e w5 ⟨rfl, rfl⟩)
                | (go_at_call 17; (with_reducible refine (HRD.out _ (below_drew HY.out)).mono ?_); rintro e w5 ⟨rfl, hb5⟩; have H5 := Aside0.mk ((below_drew HY.out).trans (hb5.mono HY.out.size)); clear hb5))
              all_goals
                have c1 := HGC.out w5 H5.out
                have y5 := blk_cell (HCW.out w5 H5.out).2.2.1 5
                simp at y5
                clear mk1 mk2 ws z5
                go_wp2
                refine ⟨⟨i + 1, hik, by simp, H5.out⟩, by simp [intOf]; omega⟩
          · obtain rfl : i = k := by omega
            clear mk1 mk2
            go_wp2_with fail
            go_loopw [13] (fun c wr => ∃ i : Nat, i ≤ 2 ∧ c = .int .i64 i ∧ Below W5.heap.size W5 wr) (fun c _ => 2 - (intOf c).toNat)
            case atStart => exact ⟨0, Nat.zero_le _, rfl, HY.out⟩
            case round =>
              obtain ⟨j, hj, rfl, hby⟩ := hrel
              have HJ := Aside0.mk hby
              clear hby
              have hxy := HCW.out wr HJ.out
              have mk1 := isM_of hxy.2.1 rfl
              have mk2 := atM_of hxy.2.1
              rcases (show j = 0 ∨ j = 1 ∨ j = 2 by omega) with rfl | rfl | rfl
              · as_aux_lemma =>
                  clear hxy
                  have hM := fun W => Memory 0 W
                  rw [mem_0] at hM
                  obtain ⟨v, ok, hok, hRd⟩ := rd_mem RL HR.out.ok HR.out.len ad cap 131072 (memOk 0 m0) HR.out.mem0 HR.out.no0 rng_m0 W5 (fun W h => (HCW.out W h).1)
                  have HRD := Aside0.mk hRd
                  have HMM := Aside0.mk hM
                  have HOK := Aside0.mk hok
                  have ws := sum_m0
                  clear hRd hM hok
                  go_wp2_with fail
                  go_cut [14, 15] from 121 to 128 (fun _ o wx => o = .bool ok ∧ Below W5.heap.size W5 wx)
                  case first =>
                    go_region_with (first
                      | (go_at_call 35; (with_reducible refine (HMM.out _).mono ?_); rintro e w5 ⟨rfl, rfl⟩)
                      | (go_at_call 17; (with_reducible refine (HRD.out _ (below_drew HJ.out)).mono ?_); rintro e w5 ⟨rfl, hb5⟩; have H5 := Aside0.mk ((below_drew HJ.out).trans (hb5.mono HJ.out.size)); clear hb5))
                    all_goals
                      clear mk1 mk2 ws
                      go_wp2
                      go_meet
                      case rel => exact ⟨rfl, H5.out⟩
                  case rest =>
                    obtain ⟨rfl, hb5⟩ := hcut
                    have H5 := Aside0.mk hb5
                    have y3 := blk_cell (HCW.out _ hb5).2.2.1 3
                    simp at y3
                    clear hb5 mk1 mk2 ws
                    rcases (show m0 < 3 ∨ (3 ≤ m0 ∧ 12 < m0) ∨ (3 ≤ m0 ∧ m0 ≤ 12) by omega) with h | ⟨h, h'⟩ | ⟨h, h'⟩
                    · obtain rfl : ok = false := by rw [HOK.out, memOk_lt 0 m0 h]
                      have t1 : decide ((3 : Int) ≤ m0) = false := decide_eq_false (by omega)
                      go_wp2
                      refine ⟨⟨1, by omega, by simp, H5.out⟩, by simp [intOf]⟩
                    · obtain rfl : ok = false := by rw [HOK.out, memOk_gt 0 m0 h']
                      have t1 : decide ((3 : Int) ≤ m0) = true := decide_eq_true (by omega)
                      have t2 : decide (m0 ≤ (12 : Int)) = false := decide_eq_false (by omega)
                      go_wp2
                      refine ⟨⟨1, by omega, by simp, H5.out⟩, by simp [intOf]⟩
                    · obtain rfl : ok = true := by rw [HOK.out, memOk_in 0 m0 (by omega) h h']
                      have t1 : decide ((3 : Int) ≤ m0) = true := decide_eq_true (by omega)
                      have t2 : decide (m0 ≤ (12 : Int)) = true := decide_eq_true (by omega)
                      go_wp2
                      refine ⟨⟨1, by omega, by simp, H5.out⟩, by simp [intOf]⟩
              · as_aux_lemma =>
                  clear hxy
                  have hM := fun W => Memory 1 W
                  rw [mem_1] at hM
                  obtain ⟨v, ok, hok, hRd⟩ := rd_mem RL HR.out.ok HR.out.len ad cap 196608 (memOk 1 m1) HR.out.mem1 HR.out.no1 rng_m1 W5 (fun W h => (HCW.out W h).1)
                  have HRD := Aside0.mk hRd
                  have HMM := Aside0.mk hM
                  have HOK := Aside0.mk hok
                  have ws := sum_m1
                  clear hRd hM hok
                  go_wp2_with fail
                  go_cut [14, 15] from 121 to 128 (fun _ o wx => o = .bool ok ∧ Below W5.heap.size W5 wx)
                  case first =>
                    go_region_with (first
                      | (go_at_call 35; (with_reducible refine (HMM.out _).mono ?_); rintro e w5 ⟨rfl, rfl⟩)
                      | (go_at_call 17; (with_reducible refine (HRD.out _ (below_drew HJ.out)).mono ?_); rintro e w5 ⟨rfl, hb5⟩; have H5 := Aside0.mk ((below_drew HJ.out).trans (hb5.mono HJ.out.size)); clear hb5))
                    all_goals
                      clear mk1 mk2 ws
                      go_wp2
                      go_meet
                      case rel => exact ⟨rfl, H5.out⟩
                  case rest =>
                    obtain ⟨rfl, hb5⟩ := hcut
                    have H5 := Aside0.mk hb5
                    have y3 := blk_cell (HCW.out _ hb5).2.2.1 4
                    simp at y3
                    clear hb5 mk1 mk2 ws
                    rcases (show m1 < 3 ∨ (3 ≤ m1 ∧ 12 < m1) ∨ (3 ≤ m1 ∧ m1 ≤ 12) by omega) with h | ⟨h, h'⟩ | ⟨h, h'⟩
                    · obtain rfl : ok = false := by rw [HOK.out, memOk_lt 1 m1 h]
                      have t1 : decide ((3 : Int) ≤ m1) = false := decide_eq_false (by omega)
                      go_wp2
                      refine ⟨⟨2, by omega, by simp, H5.out⟩, by simp [intOf]⟩
                    · obtain rfl : ok = false := by rw [HOK.out, memOk_gt 1 m1 h']
                      have t1 : decide ((3 : Int) ≤ m1) = true := decide_eq_true (by omega)
                      have t2 : decide (m1 ≤ (12 : Int)) = false := decide_eq_false (by omega)
                      go_wp2
                      refine ⟨⟨2, by omega, by simp, H5.out⟩, by simp [intOf]⟩
                    · obtain rfl : ok = true := by rw [HOK.out, memOk_in 1 m1 (by omega) h h']
                      have t1 : decide ((3 : Int) ≤ m1) = true := decide_eq_true (by omega)
                      have t2 : decide (m1 ≤ (12 : Int)) = true := decide_eq_true (by omega)
                      go_wp2
                      refine ⟨⟨2, by omega, by simp, H5.out⟩, by simp [intOf]⟩
              · as_aux_lemma =>
                  clear hxy
                  have hR1 := fun W (h : Below W5.heap.size W5 W) => Read_of RL HR.out.ok ad RL.length cap 278520 _ (RL.length - 1) 16376 (.int .i64 0) (.int .i64 0) (.int .i64 0) (.int .i64 0) (.int .i64 0) (.int .i64 0) (.int .i64 0) (.int .i64 0) (.int .i64 0) (.int .i64 0) (.int .i64 0) (.int .i64 0) (.int .i64 0) (.int .i64 0) (.int .i64 0) (.int .i64 0) (.bool false) (.bool false) (.bool false) (.bool false) (.int .i64 0) (.int .i64 0) W rfl (by have := HR.out.len; omega) (HCW.out W h).1 rng_top HR.out.top (by have := HR.out.len; omega) rfl (by rw [HR.out.topz]; omega)
                  have hR2 := fun W (h : Below W5.heap.size W5 W) => Read_no RL (some ad) RL.length cap 278521 8 (.int .i64 0) (.int .i64 0) (.int .i64 0) (.int .i64 0) (.int .i64 0) (.int .i64 0) (.int .i64 0) (.int .i64 0) (.int .i64 0) (.int .i64 0) (.int .i64 0) (.int .i64 0) (.int .i64 0) (.int .i64 0) (.int .i64 0) (.int .i64 0) (.bool false) (.bool false) (.bool false) (.bool false) (.int .i64 0) (.int .i64 0) W rfl (by have := HR.out.len; omega) (HCW.out W h).1 HR.out.ok rng_ov (Or.inr rfl) HR.out.over
                  generalize wrap64 (le (((bl (RL.getD (RL.length - 1) (0, ⟨#[]⟩, false)).2.1).drop 16376).take 8)) = v1 at hR1
                  have HR1 := Aside0.mk hR1
                  have HR2 := Aside0.mk hR2
                  clear hR1 hR2
                  go_wp2_with fail
                  refine (HR1.out _ HJ.out).mono ?_
                  rintro e w5 ⟨rfl, hb5⟩
                  have H5 := Aside0.mk (HJ.out.trans (hb5.mono HJ.out.size))
                  have hx5 := (HCW.out w5 H5.out).2.1
                  clear mk1 mk2 hb5
                  have mk1 := isM_of hx5 rfl
                  have mk2 := atM_of hx5
                  clear hx5
                  go_wp2_with fail
                  refine (HR2.out _ H5.out).mono ?_
                  rintro e w6 ⟨rfl, hb6⟩
                  have H6 := Aside0.mk (H5.out.trans (hb6.mono H5.out.size))
                  clear mk1 mk2 hb6
                  go_wp2
                  go_ret
                  exact ⟨rfl, (HCW.out w6 H6.out).2.2.2⟩
end Go.Proofs.YtgaiehnbjggmdaaDoor.F
