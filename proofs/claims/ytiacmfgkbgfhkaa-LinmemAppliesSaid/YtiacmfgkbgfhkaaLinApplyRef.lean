/- Writes are applied to two memories, one behind the other, or refused: the reference's function. No condition but that numbers and lengths are those of the language. -/
import Derived.Test.YtiacmfgkbgfhkaaLinApply
import Derived.Test.YtiacmfgkbgfhkaaLinBack
import Derived.StillTailTactics
import Derived.BigQuiet
namespace Go.Proofs.Ytiacmfgkbgfhkaa.Lin
open Go.Ob Go.RowKit Go.Proofs.YtiacmfgkbgfhkaaW.PrintWords Go.Proofs.YtiacmfgkbgfhkaaW.PrintMore
attribute [local go_sem] max2_int min2_int max_two min_two
set_option linter.unusedVariables false
set_option linter.unusedSimpArgs false
theorem wr1_cut (m : ByteArray) (K : Nat) (bs : ByteArray) (h : K + bs.size ≤ m.size) : m.extract 0 K ++ bs ++ m.extract (K + bs.size) m.size = wr1 m K bs := by
  have hb : ∀ x ∈ spl (bl m) K (bl bs), 0 ≤ x ∧ x < 256 := by
    intro x hx
    simp only [spl, List.mem_append] at hx
    rcases hx with hx | hx | hx
    · exact bl_bytes m x (List.mem_of_mem_take hx)
    · exact bl_bytes bs x hx
    · exact bl_bytes m x (List.mem_of_mem_drop hx)
  apply bl_inj
  unfold wr1
  rw [bl_num _ hb, bl_append, bl_append, bl_extract, bl_extract, spl, bl_length, List.append_assoc]
  congr 1
  rw [List.take_of_length_le (by rw [List.length_drop, bl_length]; omega)]
set_option maxHeartbeats 16000000 in
set_option maxRecDepth 100000 in
theorem rApply (ma mb : ByteArray) (A : Option Addr) (ds : List D3) (n cap : Nat) (w : World) (hl : ds.length = n) (hn : n ≤ 9223372036854775807) (hd : CellsD w A ds) (hsz : ∀ d ∈ ds, d.2.2.size ≤ 9223372036854775807) (hat : ∀ d ∈ ds, -9223372036854775808 ≤ d.2.1 ∧ d.2.1 ≤ 9223372036854775807)
    (hma : ma.size ≤ 140737488351232) (hmb : mb.size ≤ 140737488351232) :
    Calls Try.prog 37 #[.agg #[.string ma, .string mb], .slice A n cap] w fun e w' => e = .returned (resA (apl (ma, mb) ds)) ∧ Below w.heap.size w w' := by
  have HD := Aside0.mk (And.intro hl (And.intro hd (And.intro hsz hat)))
  clear hl hd hsz hat
  go_enter Try.func37, Try.ntmps37
  go_wp2_with fail
  go_loopw [6, 7, 8] (fun i _ _ wr => ∃ j : Nat, ∃ x y : ByteArray, j ≤ n ∧ i = .int .i64 j ∧ apl (ma, mb) (ds.take j) = some (x, y) ∧ x.size = ma.size ∧ y.size = mb.size ∧ wr.heap[w.heap.size]? = some (.cells #[.string x, .string y] 51 (0, 0)) ∧
    wr.heap[w.heap.size + 1]? = some (.cells #[.string ⟨#[]⟩, .string ⟨#[]⟩] 51 (0, 0)) ∧ Below w.heap.size w wr) (fun i _ _ _ => n - (intOf i).toNat)
  case atStart =>
    refine ⟨0, ma, mb, Nat.zero_le _, rfl, rfl, rfl, rfl, ?_, ?_, ?_⟩
    · exact blk_alloc (blk_new w _) _
    · have := blk_new (w.alloc (.cells #[.string ma, .string mb] 51)) (.cells #[.string ⟨#[]⟩, .string ⟨#[]⟩] 51)
      rw [World.size_alloc] at this
      exact this
    · exact below_alloc (below_alloc (Below.refl _ _) _) _
  case round =>
    obtain ⟨j, x, y, hj, rfl, hap, hx, hy, hblk, hres, hbw⟩ := hrel
    by_cases hlt : j < n
    · obtain ⟨ad, rfl, hbk, d0, d1, d2⟩ := (HD.out.2.1.below hbw) j (by rw [HD.out.1]; exact hlt)
      have hst := apl_snoc (ma, mb) (x, y) ds j (by rw [HD.out.1]; exact hlt) hap
      have hds := HD.out.2.2.1 (ds[j]'(by rw [HD.out.1]; exact hlt)) (List.getElem_mem _)
      have hda := HD.out.2.2.2 (ds[j]'(by rw [HD.out.1]; exact hlt)) (List.getElem_mem _)
      have hu55 := Try.underlying55
      generalize ds[j]'(by rw [HD.out.1]; exact hlt) = d at *
      obtain ⟨dm, da, dbs⟩ := d
      dsimp only at d0 d1 d2 hds hda
      have m0 := blk_cell hblk 0
      have m1 := blk_cell hblk 1
      simp at m0 m1
      have hz := blk_lt hres
      have HB := Aside0.mk (And.intro hblk (And.intro hres (And.intro hbw hst)))
      have HS := Aside0.mk (And.intro hx hy)
      have hxs : x.size ≤ 140737488351232 := by omega
      have hys : y.size ≤ 140737488351232 := by omega
      clear hblk hres hbw hst hap hx hy hma hmb hds
      go_wp2_with fail
      have HBn := HB.out.2.2.2
      have cases6 : dm < 0 ∨ 1 < dm ∨ (dm = 0 ∧ da < 0) ∨ (dm = 1 ∧ da < 0) ∨ (dm = 0 ∧ (x.size : Int) < da) ∨ (dm = 1 ∧ (y.size : Int) < da) ∨ (dm = 0 ∧ 0 ≤ da ∧ da ≤ x.size ∧ (x.size : Int) - da < dbs.size) ∨
          (dm = 1 ∧ 0 ≤ da ∧ da ≤ y.size ∧ (y.size : Int) - da < dbs.size) ∨ (dm = 0 ∧ 0 ≤ da ∧ da + dbs.size ≤ x.size) ∨ (dm = 1 ∧ 0 ≤ da ∧ da + dbs.size ≤ y.size) := by omega
      rcases cases6 with h | h | ⟨rfl, h⟩ | ⟨rfl, h⟩ | ⟨rfl, h⟩ | ⟨rfl, h⟩ | ⟨rfl, h, h', h''⟩ | ⟨rfl, h, h', h''⟩ | ⟨rfl, h, h'⟩ | ⟨rfl, h, h'⟩
      rotate_left 8
      · clear HBn
        obtain ⟨K, rfl⟩ := Int.eq_ofNat_of_zero_le h
        have hw1 : IntKind.i64.wrap ((x.size : Int) - K) = (x.size : Int) - K := by rw [IntKind.wrap_i64]; omega
        have e0 : decide ((K : Int) < 0) = false := decide_eq_false (by omega)
        have e1 : decide (x.size < K) = false := decide_eq_false (by omega)
        have e2 : decide ((x.size : Int) - K < dbs.size) = false := decide_eq_false (by omega)
        have c0 := blk_cell (blk_drew (blk_alloc HB.out.1 (.cells #[.int .i64 0, .int .i64 (K : Int), .string dbs] 55))) 0
        simp at c0
        go_quiet (fail)
        clear hw1 e0 e1 e2 c0
        obtain ⟨W, hW⟩ : ∃ W, (wr.alloc (.cells #[.int .i64 0, .int .i64 (K : Int), .string dbs] 55)).drewN nq = W := ⟨_, rfl⟩
        have kD : W.heap[wr.heap.size]? = some (.cells #[.int .i64 0, .int .i64 (K : Int), .string dbs] 55 (0, 0)) := by rw [← hW]; exact blk_drewN (blk_new wr _) nq
        have kM : W.heap[w.heap.size]? = some (.cells #[.string x, .string y] 51 (0, 0)) := by rw [← hW]; exact blk_drewN (blk_alloc HB.out.1 _) nq
        have kR : W.heap[w.heap.size + 1]? = some (.cells #[.string ⟨#[]⟩, .string ⟨#[]⟩] 51 (0, 0)) := by rw [← hW]; exact blk_drewN (blk_alloc HB.out.2.1 _) nq
        have kB : Below w.heap.size w W := by rw [← hW]; exact pw_below_drewN (below_alloc HB.out.2.2.1 _) nq
        rw [hW]
        clear hW m0 m1 d0 d1 d2 hbk hu55
        have q0 := blk_cell kD 0
        have q1 := blk_cell kD 1
        have q2 := blk_cell kD 2
        have r0 := blk_cell kM 0
        have r1 := blk_cell kM 1
        have rf := blk_frozen kM 0
        simp at q0 q1 q2 r0 r1
        have hKm : K ≤ x.size := by omega
        have hle : K + dbs.size ≤ x.size := by omega
        have hz0 : (x.extract 0 K).size = K := by rw [ByteArray.size_extract]; omega
        have hz2 : (x.extract 0 K ++ dbs).size = K + dbs.size := by rw [ByteArray.size_append, hz0]
        have hz3 : (x.extract (K + dbs.size) x.size).size = x.size - (K + dbs.size) := by rw [ByteArray.size_extract]; omega
        have s1 := fun W => slice_to (P := Try.prog) 9 Try.underlying9 x K K rfl hKm W
        have s2 := fun W => slice_of (P := Try.prog) 9 Try.underlying9 x (K + dbs.size) x.size ((K : Int) + dbs.size) (by simp) rfl (by omega) W
        have a1 := fun W => run_string_add_sum (P := Try.prog) W (x.extract 0 K) dbs (by rw [hz0]; omega)
        have a2 := fun W => run_string_add_sum (P := Try.prog) W (x.extract 0 K ++ dbs) (x.extract (K + dbs.size) x.size) (by rw [hz2, hz3]; omega)
        rw [wr1_cut x K dbs hle] at a2
        have hq1 : IntKind.i64.wrap ((K : Int) + dbs.size) = (K : Int) + dbs.size := by rw [IntKind.wrap_i64]; omega
        have hfin : okW (x, y) (0, (K : Int), dbs) := .inl ⟨rfl, by omega, by show (K : Int) + dbs.size ≤ x.size; omega⟩
        have hap : apl (ma, mb) (ds.take (j + 1)) = some (wr1 x K dbs, y) := by
          rw [HB.out.2.2.2]
          unfold ap1
          rw [if_pos hfin, if_pos rfl]
          simp only [Int.toNat_natCast]
        have hsX : (wr1 x K dbs).size = ma.size := by rw [wr1_size _ _ _ hle]; exact HS.out.1
        have HA := Aside0.mk (And.intro hap hsX)
        have HK := Aside0.mk (And.intro kD (And.intro kM (And.intro kR kB)))
        clear hap hsX hfin hz0 hz2 hz3 kD kM kR kB h h' hKm hda hle
        go_wp2_with fail
        refine wp_region_still_tail 19 (by kernel_rfl) (by kernel_rfl) ?_
        change wpStill _ _ (World.drew _) _ _ _
        simp only [List.take_succ_cons, List.take_zero, List.drop_succ_cons, List.drop_zero]
        repeat still_step
        try refine wpStill_nil ?_
        clear s1 s2 a1 a2 hq1
        go_wp2_with fail
        refine ⟨⟨j + 1, wr1 x K dbs, y, hlt, rfl, HA.out.1, HA.out.2, HS.out.2, blk_set (blk_drew HK.out.2.1) 0 _, blk_far (blk_drew HK.out.2.2.1) (p := ⟨w.heap.size, 0, none⟩) (by simp) _, (below_drew HK.out.2.2.2).setCell (p := ⟨w.heap.size, 0, none⟩) (Nat.le_refl _) _⟩, by simp [intOf]; omega⟩
      · clear HBn
        obtain ⟨K, rfl⟩ := Int.eq_ofNat_of_zero_le h
        have hw1 : IntKind.i64.wrap ((y.size : Int) - K) = (y.size : Int) - K := by rw [IntKind.wrap_i64]; omega
        have e0 : decide ((K : Int) < 0) = false := decide_eq_false (by omega)
        have e1 : decide (y.size < K) = false := decide_eq_false (by omega)
        have e2 : decide ((y.size : Int) - K < dbs.size) = false := decide_eq_false (by omega)
        have c0 := blk_cell (blk_drew (blk_alloc HB.out.1 (.cells #[.int .i64 1, .int .i64 (K : Int), .string dbs] 55))) 1
        simp at c0
        go_quiet (fail)
        clear hw1 e0 e1 e2 c0
        obtain ⟨W, hW⟩ : ∃ W, (wr.alloc (.cells #[.int .i64 1, .int .i64 (K : Int), .string dbs] 55)).drewN nq = W := ⟨_, rfl⟩
        have kD : W.heap[wr.heap.size]? = some (.cells #[.int .i64 1, .int .i64 (K : Int), .string dbs] 55 (0, 0)) := by rw [← hW]; exact blk_drewN (blk_new wr _) nq
        have kM : W.heap[w.heap.size]? = some (.cells #[.string x, .string y] 51 (0, 0)) := by rw [← hW]; exact blk_drewN (blk_alloc HB.out.1 _) nq
        have kR : W.heap[w.heap.size + 1]? = some (.cells #[.string ⟨#[]⟩, .string ⟨#[]⟩] 51 (0, 0)) := by rw [← hW]; exact blk_drewN (blk_alloc HB.out.2.1 _) nq
        have kB : Below w.heap.size w W := by rw [← hW]; exact pw_below_drewN (below_alloc HB.out.2.2.1 _) nq
        rw [hW]
        clear hW m0 m1 d0 d1 d2 hbk hu55
        have q0 := blk_cell kD 0
        have q1 := blk_cell kD 1
        have q2 := blk_cell kD 2
        have r0 := blk_cell kM 0
        have r1 := blk_cell kM 1
        have rf := blk_frozen kM 1
        simp at q0 q1 q2 r0 r1
        have hKm : K ≤ y.size := by omega
        have hle : K + dbs.size ≤ y.size := by omega
        have hz0 : (y.extract 0 K).size = K := by rw [ByteArray.size_extract]; omega
        have hz2 : (y.extract 0 K ++ dbs).size = K + dbs.size := by rw [ByteArray.size_append, hz0]
        have hz3 : (y.extract (K + dbs.size) y.size).size = y.size - (K + dbs.size) := by rw [ByteArray.size_extract]; omega
        have s1 := fun W => slice_to (P := Try.prog) 9 Try.underlying9 y K K rfl hKm W
        have s2 := fun W => slice_of (P := Try.prog) 9 Try.underlying9 y (K + dbs.size) y.size ((K : Int) + dbs.size) (by simp) rfl (by omega) W
        have a1 := fun W => run_string_add_sum (P := Try.prog) W (y.extract 0 K) dbs (by rw [hz0]; omega)
        have a2 := fun W => run_string_add_sum (P := Try.prog) W (y.extract 0 K ++ dbs) (y.extract (K + dbs.size) y.size) (by rw [hz2, hz3]; omega)
        rw [wr1_cut y K dbs hle] at a2
        have hq1 : IntKind.i64.wrap ((K : Int) + dbs.size) = (K : Int) + dbs.size := by rw [IntKind.wrap_i64]; omega
        have hfin : okW (x, y) (1, (K : Int), dbs) := .inr ⟨rfl, by omega, by show (K : Int) + dbs.size ≤ y.size; omega⟩
        have hap : apl (ma, mb) (ds.take (j + 1)) = some (x, wr1 y K dbs) := by
          rw [HB.out.2.2.2]
          unfold ap1
          rw [if_pos hfin, if_neg (show ¬ (1 : Int) = 0 by decide)]
          simp only [Int.toNat_natCast]
        have hsX : (wr1 y K dbs).size = mb.size := by rw [wr1_size _ _ _ hle]; exact HS.out.2
        have HA := Aside0.mk (And.intro hap hsX)
        have HK := Aside0.mk (And.intro kD (And.intro kM (And.intro kR kB)))
        clear hap hsX hfin hz0 hz2 hz3 kD kM kR kB h h' hKm hda hle
        go_wp2_with fail
        refine wp_region_still_tail 19 (by kernel_rfl) (by kernel_rfl) ?_
        change wpStill _ _ (World.drew _) _ _ _
        simp only [List.take_succ_cons, List.take_zero, List.drop_succ_cons, List.drop_zero]
        repeat still_step
        try refine wpStill_nil ?_
        clear s1 s2 a1 a2 hq1
        go_wp2_with fail
        refine ⟨⟨j + 1, x, wr1 y K dbs, hlt, rfl, HA.out.1, HS.out.1, HA.out.2, blk_set (blk_drew HK.out.2.1) 1 _, blk_far (blk_drew HK.out.2.2.1) (p := ⟨w.heap.size, 1, none⟩) (by simp) _, (below_drew HK.out.2.2.2).setCell (p := ⟨w.heap.size, 1, none⟩) (Nat.le_refl _) _⟩, by simp [intOf]; omega⟩
      · have hap : ap1 (x, y) (dm, da, dbs) = none := by
          unfold ap1
          rw [if_neg (by unfold okW; dsimp only; omega)]
        rw [hap] at HBn
        have hno := Aside0.mk (apl_none _ _ _ HBn)
        have e0 : decide (dm < 0) = true := decide_eq_true (by omega)
        clear hap HBn
        go_quiet (fail)
        obtain ⟨W, hW⟩ : ∃ W, (wr.alloc (.cells #[.int .i64 dm, .int .i64 da, .string dbs] 55)).drewN nq = W := ⟨_, rfl⟩
        have kR : W.heap[w.heap.size + 1]? = some (.cells #[.string ⟨#[]⟩, .string ⟨#[]⟩] 51 (0, 0)) := by rw [← hW]; exact blk_drewN (blk_alloc HB.out.2.1 _) nq
        have kB : Below w.heap.size w W := by rw [← hW]; exact pw_below_drewN (below_alloc HB.out.2.2.1 _) nq
        have s0 := blk_cell kR 0
        have s1 := blk_cell kR 1
        have g0 := blk_frozen kR 0
        have g1 := blk_frozen kR 1
        simp at s0 s1
        have HZ := Aside0.mk (And.intro kB (And.intro hno.out kR))
        clear kB kR hno
        rw [hW]
        clear hW m0 m1 d0 d1 d2
        go_wp2
        obtain ⟨W5, hW5⟩ : ∃ W5, (W.setCell ⟨w.heap.size + 1, 0, none⟩ (.string ⟨#[]⟩)).setCell ⟨w.heap.size + 1, 1, none⟩ (.string ⟨#[]⟩) = W5 := ⟨_, rfl⟩
        have kF : W5.heap[w.heap.size + 1]? = some (.cells #[.string ⟨#[]⟩, .string ⟨#[]⟩] 51 (0, 0)) := by rw [← hW5]; exact blk_set (blk_set HZ.out.2.2 0 _) 1 _
        have kB5 : Below w.heap.size w W5 := by rw [← hW5]; exact (HZ.out.1.setCell (p := ⟨w.heap.size + 1, 0, none⟩) (Nat.le_succ _) _).setCell (p := ⟨w.heap.size + 1, 1, none⟩) (Nat.le_succ _) _
        rw [hW5]
        clear hW5
        have z0 := blk_cell kF 0
        have z1 := blk_cell kF 1
        simp at z0 z1
        refine bodyPost_ret (v := .tuple #[.agg #[.string ⟨#[]⟩, .string ⟨#[]⟩], .bool false]) (by simp [results, Try.results37, go_sem, z0, z1]) rfl ⟨?_, kB5⟩
        rw [HZ.out.2.1]
        rfl
      · have hap : ap1 (x, y) (dm, da, dbs) = none := by
          unfold ap1
          rw [if_neg (by unfold okW; dsimp only; omega)]
        rw [hap] at HBn
        have hno := Aside0.mk (apl_none _ _ _ HBn)
        have e0 : decide (dm < 0) = false := decide_eq_false (by omega)
        have e1 : decide (1 < dm) = true := decide_eq_true (by omega)
        clear hap HBn
        go_quiet (fail)
        obtain ⟨W, hW⟩ : ∃ W, (wr.alloc (.cells #[.int .i64 dm, .int .i64 da, .string dbs] 55)).drewN nq = W := ⟨_, rfl⟩
        have kR : W.heap[w.heap.size + 1]? = some (.cells #[.string ⟨#[]⟩, .string ⟨#[]⟩] 51 (0, 0)) := by rw [← hW]; exact blk_drewN (blk_alloc HB.out.2.1 _) nq
        have kB : Below w.heap.size w W := by rw [← hW]; exact pw_below_drewN (below_alloc HB.out.2.2.1 _) nq
        have s0 := blk_cell kR 0
        have s1 := blk_cell kR 1
        have g0 := blk_frozen kR 0
        have g1 := blk_frozen kR 1
        simp at s0 s1
        have HZ := Aside0.mk (And.intro kB (And.intro hno.out kR))
        clear kB kR hno
        rw [hW]
        clear hW m0 m1 d0 d1 d2
        go_wp2
        obtain ⟨W5, hW5⟩ : ∃ W5, (W.setCell ⟨w.heap.size + 1, 0, none⟩ (.string ⟨#[]⟩)).setCell ⟨w.heap.size + 1, 1, none⟩ (.string ⟨#[]⟩) = W5 := ⟨_, rfl⟩
        have kF : W5.heap[w.heap.size + 1]? = some (.cells #[.string ⟨#[]⟩, .string ⟨#[]⟩] 51 (0, 0)) := by rw [← hW5]; exact blk_set (blk_set HZ.out.2.2 0 _) 1 _
        have kB5 : Below w.heap.size w W5 := by rw [← hW5]; exact (HZ.out.1.setCell (p := ⟨w.heap.size + 1, 0, none⟩) (Nat.le_succ _) _).setCell (p := ⟨w.heap.size + 1, 1, none⟩) (Nat.le_succ _) _
        rw [hW5]
        clear hW5
        have z0 := blk_cell kF 0
        have z1 := blk_cell kF 1
        simp at z0 z1
        refine bodyPost_ret (v := .tuple #[.agg #[.string ⟨#[]⟩, .string ⟨#[]⟩], .bool false]) (by simp [results, Try.results37, go_sem, z0, z1]) rfl ⟨?_, kB5⟩
        rw [HZ.out.2.1]
        rfl
      · have hap : ap1 (x, y) (0, da, dbs) = none := by
          unfold ap1
          rw [if_neg (by unfold okW; dsimp only; omega)]
        rw [hap] at HBn
        have hno := Aside0.mk (apl_none _ _ _ HBn)
        have e0 : decide (da < 0) = true := decide_eq_true (by omega)
        clear hap HBn
        go_quiet (fail)
        obtain ⟨W, hW⟩ : ∃ W, (wr.alloc (.cells #[.int .i64 0, .int .i64 da, .string dbs] 55)).drewN nq = W := ⟨_, rfl⟩
        have kR : W.heap[w.heap.size + 1]? = some (.cells #[.string ⟨#[]⟩, .string ⟨#[]⟩] 51 (0, 0)) := by rw [← hW]; exact blk_drewN (blk_alloc HB.out.2.1 _) nq
        have kB : Below w.heap.size w W := by rw [← hW]; exact pw_below_drewN (below_alloc HB.out.2.2.1 _) nq
        have s0 := blk_cell kR 0
        have s1 := blk_cell kR 1
        have g0 := blk_frozen kR 0
        have g1 := blk_frozen kR 1
        simp at s0 s1
        have HZ := Aside0.mk (And.intro kB (And.intro hno.out kR))
        clear kB kR hno
        rw [hW]
        clear hW m0 m1 d0 d1 d2
        go_wp2
        obtain ⟨W5, hW5⟩ : ∃ W5, (W.setCell ⟨w.heap.size + 1, 0, none⟩ (.string ⟨#[]⟩)).setCell ⟨w.heap.size + 1, 1, none⟩ (.string ⟨#[]⟩) = W5 := ⟨_, rfl⟩
        have kF : W5.heap[w.heap.size + 1]? = some (.cells #[.string ⟨#[]⟩, .string ⟨#[]⟩] 51 (0, 0)) := by rw [← hW5]; exact blk_set (blk_set HZ.out.2.2 0 _) 1 _
        have kB5 : Below w.heap.size w W5 := by rw [← hW5]; exact (HZ.out.1.setCell (p := ⟨w.heap.size + 1, 0, none⟩) (Nat.le_succ _) _).setCell (p := ⟨w.heap.size + 1, 1, none⟩) (Nat.le_succ _) _
        rw [hW5]
        clear hW5
        have z0 := blk_cell kF 0
        have z1 := blk_cell kF 1
        simp at z0 z1
        refine bodyPost_ret (v := .tuple #[.agg #[.string ⟨#[]⟩, .string ⟨#[]⟩], .bool false]) (by simp [results, Try.results37, go_sem, z0, z1]) rfl ⟨?_, kB5⟩
        rw [HZ.out.2.1]
        rfl
      · have hap : ap1 (x, y) (1, da, dbs) = none := by
          unfold ap1
          rw [if_neg (by unfold okW; dsimp only; omega)]
        rw [hap] at HBn
        have hno := Aside0.mk (apl_none _ _ _ HBn)
        have e0 : decide (da < 0) = true := decide_eq_true (by omega)
        clear hap HBn
        go_quiet (fail)
        obtain ⟨W, hW⟩ : ∃ W, (wr.alloc (.cells #[.int .i64 1, .int .i64 da, .string dbs] 55)).drewN nq = W := ⟨_, rfl⟩
        have kR : W.heap[w.heap.size + 1]? = some (.cells #[.string ⟨#[]⟩, .string ⟨#[]⟩] 51 (0, 0)) := by rw [← hW]; exact blk_drewN (blk_alloc HB.out.2.1 _) nq
        have kB : Below w.heap.size w W := by rw [← hW]; exact pw_below_drewN (below_alloc HB.out.2.2.1 _) nq
        have s0 := blk_cell kR 0
        have s1 := blk_cell kR 1
        have g0 := blk_frozen kR 0
        have g1 := blk_frozen kR 1
        simp at s0 s1
        have HZ := Aside0.mk (And.intro kB (And.intro hno.out kR))
        clear kB kR hno
        rw [hW]
        clear hW m0 m1 d0 d1 d2
        go_wp2
        obtain ⟨W5, hW5⟩ : ∃ W5, (W.setCell ⟨w.heap.size + 1, 0, none⟩ (.string ⟨#[]⟩)).setCell ⟨w.heap.size + 1, 1, none⟩ (.string ⟨#[]⟩) = W5 := ⟨_, rfl⟩
        have kF : W5.heap[w.heap.size + 1]? = some (.cells #[.string ⟨#[]⟩, .string ⟨#[]⟩] 51 (0, 0)) := by rw [← hW5]; exact blk_set (blk_set HZ.out.2.2 0 _) 1 _
        have kB5 : Below w.heap.size w W5 := by rw [← hW5]; exact (HZ.out.1.setCell (p := ⟨w.heap.size + 1, 0, none⟩) (Nat.le_succ _) _).setCell (p := ⟨w.heap.size + 1, 1, none⟩) (Nat.le_succ _) _
        rw [hW5]
        clear hW5
        have z0 := blk_cell kF 0
        have z1 := blk_cell kF 1
        simp at z0 z1
        refine bodyPost_ret (v := .tuple #[.agg #[.string ⟨#[]⟩, .string ⟨#[]⟩], .bool false]) (by simp [results, Try.results37, go_sem, z0, z1]) rfl ⟨?_, kB5⟩
        rw [HZ.out.2.1]
        rfl
      · obtain ⟨K, rfl⟩ := Int.eq_ofNat_of_zero_le (show 0 ≤ da by omega)
        have hap : ap1 (x, y) (0, (K : Int), dbs) = none := by
          unfold ap1
          rw [if_neg (by unfold okW; dsimp only; omega)]
        rw [hap] at HBn
        have hno := Aside0.mk (apl_none _ _ _ HBn)
        have e0 : decide ((K : Int) < 0) = false := decide_eq_false (by omega)
        have e1 : decide (x.size < K) = true := decide_eq_true (by omega)
        have c0 := blk_cell (blk_drew (blk_alloc HB.out.1 (.cells #[.int .i64 0, .int .i64 (K : Int), .string dbs] 55))) 0
        simp at c0
        clear hap HBn
        go_quiet (fail)
        obtain ⟨W, hW⟩ : ∃ W, (wr.alloc (.cells #[.int .i64 0, .int .i64 (K : Int), .string dbs] 55)).drewN nq = W := ⟨_, rfl⟩
        have kR : W.heap[w.heap.size + 1]? = some (.cells #[.string ⟨#[]⟩, .string ⟨#[]⟩] 51 (0, 0)) := by rw [← hW]; exact blk_drewN (blk_alloc HB.out.2.1 _) nq
        have kB : Below w.heap.size w W := by rw [← hW]; exact pw_below_drewN (below_alloc HB.out.2.2.1 _) nq
        have s0 := blk_cell kR 0
        have s1 := blk_cell kR 1
        have g0 := blk_frozen kR 0
        have g1 := blk_frozen kR 1
        simp at s0 s1
        have HZ := Aside0.mk (And.intro kB (And.intro hno.out kR))
        clear kB kR hno
        rw [hW]
        clear hW m0 m1 d0 d1 d2
        go_wp2
        obtain ⟨W5, hW5⟩ : ∃ W5, (W.setCell ⟨w.heap.size + 1, 0, none⟩ (.string ⟨#[]⟩)).setCell ⟨w.heap.size + 1, 1, none⟩ (.string ⟨#[]⟩) = W5 := ⟨_, rfl⟩
        have kF : W5.heap[w.heap.size + 1]? = some (.cells #[.string ⟨#[]⟩, .string ⟨#[]⟩] 51 (0, 0)) := by rw [← hW5]; exact blk_set (blk_set HZ.out.2.2 0 _) 1 _
        have kB5 : Below w.heap.size w W5 := by rw [← hW5]; exact (HZ.out.1.setCell (p := ⟨w.heap.size + 1, 0, none⟩) (Nat.le_succ _) _).setCell (p := ⟨w.heap.size + 1, 1, none⟩) (Nat.le_succ _) _
        rw [hW5]
        clear hW5
        have z0 := blk_cell kF 0
        have z1 := blk_cell kF 1
        simp at z0 z1
        refine bodyPost_ret (v := .tuple #[.agg #[.string ⟨#[]⟩, .string ⟨#[]⟩], .bool false]) (by simp [results, Try.results37, go_sem, z0, z1]) rfl ⟨?_, kB5⟩
        rw [HZ.out.2.1]
        rfl
      · obtain ⟨K, rfl⟩ := Int.eq_ofNat_of_zero_le (show 0 ≤ da by omega)
        have hap : ap1 (x, y) (1, (K : Int), dbs) = none := by
          unfold ap1
          rw [if_neg (by unfold okW; dsimp only; omega)]
        rw [hap] at HBn
        have hno := Aside0.mk (apl_none _ _ _ HBn)
        have e0 : decide ((K : Int) < 0) = false := decide_eq_false (by omega)
        have e1 : decide (y.size < K) = true := decide_eq_true (by omega)
        have c0 := blk_cell (blk_drew (blk_alloc HB.out.1 (.cells #[.int .i64 1, .int .i64 (K : Int), .string dbs] 55))) 1
        simp at c0
        clear hap HBn
        go_quiet (fail)
        obtain ⟨W, hW⟩ : ∃ W, (wr.alloc (.cells #[.int .i64 1, .int .i64 (K : Int), .string dbs] 55)).drewN nq = W := ⟨_, rfl⟩
        have kR : W.heap[w.heap.size + 1]? = some (.cells #[.string ⟨#[]⟩, .string ⟨#[]⟩] 51 (0, 0)) := by rw [← hW]; exact blk_drewN (blk_alloc HB.out.2.1 _) nq
        have kB : Below w.heap.size w W := by rw [← hW]; exact pw_below_drewN (below_alloc HB.out.2.2.1 _) nq
        have s0 := blk_cell kR 0
        have s1 := blk_cell kR 1
        have g0 := blk_frozen kR 0
        have g1 := blk_frozen kR 1
        simp at s0 s1
        have HZ := Aside0.mk (And.intro kB (And.intro hno.out kR))
        clear kB kR hno
        rw [hW]
        clear hW m0 m1 d0 d1 d2
        go_wp2
        obtain ⟨W5, hW5⟩ : ∃ W5, (W.setCell ⟨w.heap.size + 1, 0, none⟩ (.string ⟨#[]⟩)).setCell ⟨w.heap.size + 1, 1, none⟩ (.string ⟨#[]⟩) = W5 := ⟨_, rfl⟩
        have kF : W5.heap[w.heap.size + 1]? = some (.cells #[.string ⟨#[]⟩, .string ⟨#[]⟩] 51 (0, 0)) := by rw [← hW5]; exact blk_set (blk_set HZ.out.2.2 0 _) 1 _
        have kB5 : Below w.heap.size w W5 := by rw [← hW5]; exact (HZ.out.1.setCell (p := ⟨w.heap.size + 1, 0, none⟩) (Nat.le_succ _) _).setCell (p := ⟨w.heap.size + 1, 1, none⟩) (Nat.le_succ _) _
        rw [hW5]
        clear hW5
        have z0 := blk_cell kF 0
        have z1 := blk_cell kF 1
        simp at z0 z1
        refine bodyPost_ret (v := .tuple #[.agg #[.string ⟨#[]⟩, .string ⟨#[]⟩], .bool false]) (by simp [results, Try.results37, go_sem, z0, z1]) rfl ⟨?_, kB5⟩
        rw [HZ.out.2.1]
        rfl
      · obtain ⟨K, rfl⟩ := Int.eq_ofNat_of_zero_le (show 0 ≤ da by omega)
        have hap : ap1 (x, y) (0, (K : Int), dbs) = none := by
          unfold ap1
          rw [if_neg (by unfold okW; dsimp only; omega)]
        rw [hap] at HBn
        have hno := Aside0.mk (apl_none _ _ _ HBn)
        have hw1 : IntKind.i64.wrap ((x.size : Int) - K) = (x.size : Int) - K := by rw [IntKind.wrap_i64]; omega
        have e0 : decide ((K : Int) < 0) = false := decide_eq_false (by omega)
        have e1 : decide (x.size < K) = false := decide_eq_false (by omega)
        have e2 : decide ((x.size : Int) - K < dbs.size) = true := decide_eq_true (by omega)
        have c0 := blk_cell (blk_drew (blk_alloc HB.out.1 (.cells #[.int .i64 0, .int .i64 (K : Int), .string dbs] 55))) 0
        simp at c0
        clear hap HBn
        go_quiet (fail)
        obtain ⟨W, hW⟩ : ∃ W, (wr.alloc (.cells #[.int .i64 0, .int .i64 (K : Int), .string dbs] 55)).drewN nq = W := ⟨_, rfl⟩
        have kR : W.heap[w.heap.size + 1]? = some (.cells #[.string ⟨#[]⟩, .string ⟨#[]⟩] 51 (0, 0)) := by rw [← hW]; exact blk_drewN (blk_alloc HB.out.2.1 _) nq
        have kB : Below w.heap.size w W := by rw [← hW]; exact pw_below_drewN (below_alloc HB.out.2.2.1 _) nq
        have s0 := blk_cell kR 0
        have s1 := blk_cell kR 1
        have g0 := blk_frozen kR 0
        have g1 := blk_frozen kR 1
        simp at s0 s1
        have HZ := Aside0.mk (And.intro kB (And.intro hno.out kR))
        clear kB kR hno
        rw [hW]
        clear hW m0 m1 d0 d1 d2
        go_wp2
        obtain ⟨W5, hW5⟩ : ∃ W5, (W.setCell ⟨w.heap.size + 1, 0, none⟩ (.string ⟨#[]⟩)).setCell ⟨w.heap.size + 1, 1, none⟩ (.string ⟨#[]⟩) = W5 := ⟨_, rfl⟩
        have kF : W5.heap[w.heap.size + 1]? = some (.cells #[.string ⟨#[]⟩, .string ⟨#[]⟩] 51 (0, 0)) := by rw [← hW5]; exact blk_set (blk_set HZ.out.2.2 0 _) 1 _
        have kB5 : Below w.heap.size w W5 := by rw [← hW5]; exact (HZ.out.1.setCell (p := ⟨w.heap.size + 1, 0, none⟩) (Nat.le_succ _) _).setCell (p := ⟨w.heap.size + 1, 1, none⟩) (Nat.le_succ _) _
        rw [hW5]
        clear hW5
        have z0 := blk_cell kF 0
        have z1 := blk_cell kF 1
        simp at z0 z1
        refine bodyPost_ret (v := .tuple #[.agg #[.string ⟨#[]⟩, .string ⟨#[]⟩], .bool false]) (by simp [results, Try.results37, go_sem, z0, z1]) rfl ⟨?_, kB5⟩
        rw [HZ.out.2.1]
        rfl
      · obtain ⟨K, rfl⟩ := Int.eq_ofNat_of_zero_le (show 0 ≤ da by omega)
        have hap : ap1 (x, y) (1, (K : Int), dbs) = none := by
          unfold ap1
          rw [if_neg (by unfold okW; dsimp only; omega)]
        rw [hap] at HBn
        have hno := Aside0.mk (apl_none _ _ _ HBn)
        have hw1 : IntKind.i64.wrap ((y.size : Int) - K) = (y.size : Int) - K := by rw [IntKind.wrap_i64]; omega
        have e0 : decide ((K : Int) < 0) = false := decide_eq_false (by omega)
        have e1 : decide (y.size < K) = false := decide_eq_false (by omega)
        have e2 : decide ((y.size : Int) - K < dbs.size) = true := decide_eq_true (by omega)
        have c0 := blk_cell (blk_drew (blk_alloc HB.out.1 (.cells #[.int .i64 1, .int .i64 (K : Int), .string dbs] 55))) 1
        simp at c0
        clear hap HBn
        go_quiet (fail)
        obtain ⟨W, hW⟩ : ∃ W, (wr.alloc (.cells #[.int .i64 1, .int .i64 (K : Int), .string dbs] 55)).drewN nq = W := ⟨_, rfl⟩
        have kR : W.heap[w.heap.size + 1]? = some (.cells #[.string ⟨#[]⟩, .string ⟨#[]⟩] 51 (0, 0)) := by rw [← hW]; exact blk_drewN (blk_alloc HB.out.2.1 _) nq
        have kB : Below w.heap.size w W := by rw [← hW]; exact pw_below_drewN (below_alloc HB.out.2.2.1 _) nq
        have s0 := blk_cell kR 0
        have s1 := blk_cell kR 1
        have g0 := blk_frozen kR 0
        have g1 := blk_frozen kR 1
        simp at s0 s1
        have HZ := Aside0.mk (And.intro kB (And.intro hno.out kR))
        clear kB kR hno
        rw [hW]
        clear hW m0 m1 d0 d1 d2
        go_wp2
        obtain ⟨W5, hW5⟩ : ∃ W5, (W.setCell ⟨w.heap.size + 1, 0, none⟩ (.string ⟨#[]⟩)).setCell ⟨w.heap.size + 1, 1, none⟩ (.string ⟨#[]⟩) = W5 := ⟨_, rfl⟩
        have kF : W5.heap[w.heap.size + 1]? = some (.cells #[.string ⟨#[]⟩, .string ⟨#[]⟩] 51 (0, 0)) := by rw [← hW5]; exact blk_set (blk_set HZ.out.2.2 0 _) 1 _
        have kB5 : Below w.heap.size w W5 := by rw [← hW5]; exact (HZ.out.1.setCell (p := ⟨w.heap.size + 1, 0, none⟩) (Nat.le_succ _) _).setCell (p := ⟨w.heap.size + 1, 1, none⟩) (Nat.le_succ _) _
        rw [hW5]
        clear hW5
        have z0 := blk_cell kF 0
        have z1 := blk_cell kF 1
        simp at z0 z1
        refine bodyPost_ret (v := .tuple #[.agg #[.string ⟨#[]⟩, .string ⟨#[]⟩], .bool false]) (by simp [results, Try.results37, go_sem, z0, z1]) rfl ⟨?_, kB5⟩
        rw [HZ.out.2.1]
        rfl
    · obtain rfl : j = n := by omega
      have hall : ds.take j = ds := List.take_of_length_le (by rw [HD.out.1]; exact Nat.le_refl _)
      rw [hall] at hap
      have r0 := blk_cell hblk 0
      have r1 := blk_cell hblk 1
      have s0 := blk_cell hres 0
      have s1 := blk_cell hres 1
      have g0 := blk_frozen hres 0
      have g1 := blk_frozen hres 1
      simp at r0 r1 s0 s1
      have HZ := Aside0.mk (And.intro hbw (And.intro hap hres))
      clear hbw hap hblk hres hall
      go_wp2
      obtain ⟨W5, hW5⟩ : ∃ W5, (wr.setCell ⟨w.heap.size + 1, 0, none⟩ (.string x)).setCell ⟨w.heap.size + 1, 1, none⟩ (.string y) = W5 := ⟨_, rfl⟩
      have kF : W5.heap[w.heap.size + 1]? = some (.cells #[.string x, .string y] 51 (0, 0)) := by rw [← hW5]; exact blk_set (blk_set HZ.out.2.2 0 _) 1 _
      have kB5 : Below w.heap.size w W5 := by rw [← hW5]; exact (HZ.out.1.setCell (p := ⟨w.heap.size + 1, 0, none⟩) (Nat.le_succ _) _).setCell (p := ⟨w.heap.size + 1, 1, none⟩) (Nat.le_succ _) _
      rw [hW5]
      clear hW5
      have z0 := blk_cell kF 0
      have z1 := blk_cell kF 1
      simp at z0 z1
      refine bodyPost_ret (v := .tuple #[.agg #[.string x, .string y], .bool true]) (by simp [results, Try.results37, go_sem, z0, z1]) rfl ⟨?_, kB5⟩
      rw [HZ.out.2.1]
      rfl
end Go.Proofs.Ytiacmfgkbgfhkaa.Lin
