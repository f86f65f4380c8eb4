/- A memory at its beginning: the reference's function. No condition but that numbers and lengths are those of the language. -/
import Derived.Test.YtgaiehnbjggmdaaDoorFNew
namespace Go.Proofs.YtgaiehnbjggmdaaDoor.F
open Go.Ob Go.RowKit Go.Proofs.YtgaiehnbjggmdaaDoorW.PrintWords Go.Proofs.YtgaiehnbjggmdaaDoorW.PrintMore
attribute [local go_sem] max2_int min2_int max_two min_two
set_option linter.unusedVariables false
set_option linter.unusedSimpArgs false
theorem blk_own {w : World} {g : Nat} {cs : Array Value} {t : TypeId} (h : w.heap[g]? = some (.cells cs t (0, 0))) {p : Addr} (hp : p.block ≠ g) (u : Value) : (w.setCell p u).heap[g]? = some (.cells cs t (0, 0)) := blk_far h (Ne.symm hp) u
/-- a datum laid down so far -/
def part (xs : List Int) (at_ : Int) (bs : ByteArray) (q : Nat) : List Int := if 0 ≤ at_ ∧ at_ < xs.length then spl xs at_.toNat ((bl bs).take (min q (xs.length - at_.toNat))) else xs
theorem part_zero (xs : List Int) (at_ : Int) (bs : ByteArray) : part xs at_ bs 0 = xs := by
  unfold part
  split
  · rw [Nat.zero_min, List.take_zero, spl_nil]
  · rfl
theorem part_length (xs : List Int) (at_ : Int) (bs : ByteArray) (q : Nat) : (part xs at_ bs q).length = xs.length := by
  unfold part
  split
  · rename_i h
    exact spl_length (by rw [List.length_take]; omega)
  · rfl
theorem part_stay (xs : List Int) (at_ : Int) (bs : ByteArray) (q : Nat) (h : ¬ (0 ≤ at_ ∧ at_ < (xs.length : Int) - q)) : part xs at_ bs (q + 1) = part xs at_ bs q := by
  unfold part
  split
  · rename_i h2
    rw [show min (q + 1) (xs.length - at_.toNat) = min q (xs.length - at_.toNat) by omega]
  · rfl
theorem part_step (xs : List Int) (D : Nat) (bs : ByteArray) (q : Nat) (h : D + q < xs.length) (hq : q < bs.size) : (part xs D bs q).set (D + q) ((bs[q]'hq).toNat : Int) = part xs D bs (q + 1) := by
  unfold part
  rw [if_pos ⟨by omega, by omega⟩, if_pos ⟨by omega, by omega⟩, Int.toNat_natCast, Nat.min_eq_left (by omega), Nat.min_eq_left (by omega)]
  have hl : ((bl bs).take q).length = q := by rw [List.length_take, bl_length]; omega
  have h2 := spl_set xs D ((bl bs).take q) ((bs[q]'hq).toNat : Int) (by rw [hl]; exact h)
  rw [hl] at h2
  rw [h2, List.take_succ_eq_append_getElem (by rw [bl_length]; exact hq)]
  congr 3
  have := getD_bl bs q hq
  rw [List.getD_eq_getElem?_getD, List.getElem?_eq_getElem (by rw [bl_length]; exact hq)] at this
  exact this.symm
theorem part_end (k : Int) (xs : List Int) (at_ : Int) (bs : ByteArray) (q : Nat) (h : ¬ (q < bs.size ∧ q < xs.length)) : part xs at_ bs q = lay1 k xs (k, at_, bs) := by
  unfold part lay1
  dsimp only
  by_cases h2 : 0 ≤ at_ ∧ at_ < xs.length
  · rw [if_pos h2, if_pos ⟨rfl, h2.1, h2.2⟩]
    congr 1
    rw [List.take_eq_take_iff, bl_length]
    omega
  · rw [if_neg h2, if_neg (fun h3 => h2 ⟨h3.2.1, h3.2.2⟩)]
theorem below_sizes {w W : World} (h : Below w.heap.size w W) (b j : Nat) (hb : w.heap.size ≤ b) (u : Value) : Below w.heap.size w (W.setCell ⟨b, j, none⟩ u) := h.setCell hb u
set_option maxHeartbeats 16000000 in
set_option maxRecDepth 100000 in
theorem rNew_ok0 (sg im fn gl : Value) (mo : Int) (A : Option Addr) (ds : List D3) (n cap : Nat) (w : World) (hl : ds.length = n) (hn : n ≤ 9223372036854775807) (hd : CellsD w A ds) (hsz : ∀ d ∈ ds, d.2.2.size ≤ 9223372036854775807)
    (E : Nat) (he0 : (3 : Int) ≤ E) (he1 : (E : Int) ≤ 12) :
    Calls Tryd.prog 65 #[.agg #[sg, im, fn, .int .i64 E, .int .i64 mo, gl, .slice A n cap], .int .i64 0] w fun e' w' => e' = .returned (.string (strOfNums (newM 0 E ds))) ∧ Below w.heap.size w w' := by
  have HD := Aside0.mk (And.intro hl (And.intro hd hsz))
  clear hl hd hsz
  have hmk := fun W => make_pow E (by omega) W
  have hfin : newM 0 E ds = lays 0 (List.replicate (2 ^ E) 0) ds := by unfold newM; rw [Int.toNat_natCast]
  have HF := Aside0.mk hfin
  clear hfin
  obtain ⟨N, hN⟩ : ∃ N, 2 ^ E = N := ⟨_, rfl⟩
  have hNb : 1 ≤ N ∧ N ≤ 4096 := by
    rw [← hN]
    exact ⟨Nat.one_le_two_pow, le_4096 E (by omega)⟩
  rw [hN] at hmk HF
  clear hN
  obtain ⟨hN0, hN1⟩ := hNb
  go_enter Tryd.func65, Tryd.ntmps65
  go_wp2
  go_loopw [6, 7, 8] (fun i _ _ wr => ∃ j : Nat, j ≤ n ∧ i = .int .i64 j ∧ wr.heap[w.heap.size]? = some (.cells #[sg, im, fn, .int .i64 E, .int .i64 mo, gl, .slice A n cap] 70 (0, 0)) ∧ wr.heap[w.heap.size + 1]? = some (.cells (nums .u8 (lays 0 (List.replicate N 0) (ds.take j))).toArray 5 (0, 0)) ∧ Below w.heap.size w wr) (fun i _ _ _ => n - (intOf i).toNat)
  case atStart =>
    refine ⟨0, Nat.zero_le _, rfl, blk_alloc (blk_new w _) _, ?_, below_alloc (below_alloc (Below.refl _ _) _) _⟩
    have := blk_new (w.alloc (Obj.cells #[sg, im, fn, .int .i64 E, .int .i64 mo, gl, .slice A n cap] 70)) (.cells (nums .u8 (List.replicate N 0)).toArray 5)
    rw [World.size_alloc] at this
    exact this
  case round =>
    obtain ⟨j, hj, rfl, hbox, hblk, hbw⟩ := hrel
    clear hmk
    have hbc := blk_cell hbox
    by_cases hlt : j < n
    · obtain ⟨ad, rfl, hbk, d0, d1, d2⟩ := (HD.out.2.1.below hbw) j (by rw [HD.out.1]; exact hlt)
      have hst : lays 0 (List.replicate N 0) (ds.take (j + 1)) = lay1 0 (lays 0 (List.replicate N 0) (ds.take j)) (ds[j]'(by rw [HD.out.1]; exact hlt)) := by
        rw [List.take_succ_eq_append_getElem (by rw [HD.out.1]; exact hlt), lays_snoc]
      have hlen : (lays 0 (List.replicate N 0) (ds.take j)).length = N := by rw [lays_length, List.length_replicate]
      have hsz := HD.out.2.2 (ds[j]'(by rw [HD.out.1]; exact hlt)) (List.getElem_mem _)
      have HB := Aside0.mk (And.intro hbox (And.intro hblk (And.intro hbw (And.intro hst (And.intro hlen hsz)))))
      have huD := Tryd.underlying134
      generalize ds[j]'(by rw [HD.out.1]; exact hlt) = d at *
      obtain ⟨dm, da, dbs⟩ := d
      dsimp only at d0 d1 d2
      clear hbox hblk hbw hst hlen hsz
      generalize lays 0 (List.replicate N 0) (ds.take j) = xs at *
      by_cases hdm : dm = 0
      · subst hdm
        go_wp2
        obtain ⟨b1, hb1⟩ : ∃ b1, wr.heap.size = b1 := ⟨_, rfl⟩
        have hb1x : w.heap.size + 1 < b1 := by have := blk_lt HB.out.2.1; omega
        have K0 := blk_alloc HB.out.1 (.cells #[Value.int IntKind.i64 0, Value.int IntKind.i64 da, Value.string dbs] 134)
        have K1 := blk_alloc HB.out.2.1 (.cells #[Value.int IntKind.i64 0, Value.int IntKind.i64 da, Value.string dbs] 134)
        have K2 := blk_new wr (.cells #[Value.int IntKind.i64 0, Value.int IntKind.i64 da, Value.string dbs] 134)
        have KB := below_alloc HB.out.2.2.1 (.cells #[Value.int IntKind.i64 0, Value.int IntKind.i64 da, Value.string dbs] 134)
        rw [hb1] at K2 ⊢
        generalize wr.alloc _ = W1 at K0 K1 K2 KB ⊢
        clear hb1 d0 d1 d2 hbc
        have HE := Aside0.mk (And.intro HB.out.2.2.2.1 (And.intro HB.out.2.2.2.2.1 HB.out.2.2.2.2.2))
        have HK := Aside0.mk (And.intro K0 (And.intro K1 (And.intro K2 KB)))
        clear K0 K1 K2 KB HB
        go_loopw [8] (fun i wi => ∃ q : Nat, q ≤ N ∧ i = .int .i64 q ∧ wi.heap[w.heap.size]? = some (.cells #[sg, im, fn, .int .i64 E, .int .i64 mo, gl, .slice (some ad) n cap] 70 (0, 0)) ∧ wi.heap[w.heap.size + 1]? = some (.cells (nums .u8 (part xs da dbs q)).toArray 5 (0, 0)) ∧ wi.heap[b1]? = some (.cells #[Value.int IntKind.i64 0, Value.int IntKind.i64 da, Value.string dbs] 134 (0, 0)) ∧ Below w.heap.size w wi) (fun i _ => N - (intOf i).toNat)
        case atStart => exact ⟨0, Nat.zero_le _, rfl, HK.out.1, by rw [part_zero]; exact HK.out.2.1, HK.out.2.2.1, HK.out.2.2.2⟩
        case round =>
          obtain ⟨q, hqN, rfl, k0, k1, k2, kb⟩ := hrel
          have hc2 := blk_cell k2
          have HX := Aside0.mk (And.intro k0 (And.intro k1 (And.intro k2 kb)))
          have hsz2 := HE.out.2.2
          by_cases hq1 : q < dbs.size
          · by_cases hq2 : q < N
            · by_cases hin : 0 ≤ da ∧ da < (N : Int) - q
              · obtain ⟨hin0, hin1⟩ := hin
                obtain ⟨D, rfl⟩ := Int.eq_ofNat_of_zero_le hin0
                have hDq : D + q < N := by omega
                have hck := nums_at k1 (D + q) (by rw [part_length, HE.out.2.1]; exact hDq)
                have hfz := blk_frozen k1 (D + q)
                have hq3 : IntKind.i64.wrap ((D : Int) + q) = (D : Int) + q := by rw [IntKind.wrap_i64]; omega
                have hq4 : ((D : Int) + q).toNat = D + q := by omega
                have hq5 : (0 : Int) ≤ (D : Int) + q := by omega
                have hq6 : (D : Int) + q < N := by omega
                clear k0 k1 k2 kb
                go_wp2
                refine wp_region_still_tail 10 (by kernel_rfl) (by kernel_rfl) ?_
                change wpStill _ _ (World.drew _) _ _ _
                simp only [List.take_succ_cons, List.take_zero, List.drop_succ_cons, List.drop_zero]
                repeat still_step
                try refine wpStill_nil ?_
                change wpList _ _ _ _ _ (World.drew _)
                go_wp2
                refine ⟨⟨q + 1, hq2, rfl, ?_, ?_, ?_, ?_⟩, by simp [intOf]; omega⟩
                · first | exact blk_drew (blk_own HX.out.1 (by show w.heap.size + 1 ≠ w.heap.size; omega) _) | exact blk_own (blk_drew HX.out.1) (by show w.heap.size + 1 ≠ w.heap.size; omega) _
                · have h := nums_put HX.out.2.1 (D + q) ((dbs[q]'hq1).toNat : Int)
                  rw [part_step xs D dbs q (by rw [HE.out.2.1]; exact hDq) hq1] at h
                  exact h
                · first | exact blk_drew (blk_own HX.out.2.2.1 (by show w.heap.size + 1 ≠ b1; omega) _) | exact blk_own (blk_drew HX.out.2.2.1) (by show w.heap.size + 1 ≠ b1; omega) _
                · first | exact below_drew (below_sizes HX.out.2.2.2 _ _ (by omega) _) | exact below_sizes (below_drew HX.out.2.2.2) _ _ (by omega) _
              · have hst2 := part_stay xs da dbs q (by rw [HE.out.2.1]; exact hin)
                have HP := Aside0.mk hst2
                clear k0 k1 k2 kb hst2
                go_wp2
                all_goals
                  refine ⟨⟨q + 1, hq2, rfl, HX.out.1, by rw [HP.out]; exact HX.out.2.1, HX.out.2.2.1, HX.out.2.2.2⟩, by simp [intOf]; omega⟩
            · have he2 := part_end 0 xs da dbs q (fun h => hq2 (by rw [HE.out.2.1] at h; exact h.2))
              have HP := Aside0.mk he2
              clear k0 k1 k2 kb he2
              go_wp2
              refine ⟨⟨j + 1, hlt, rfl, HX.out.1, ?_, HX.out.2.2.2⟩, by simp [intOf]; omega⟩
              rw [HE.out.1, ← HP.out]
              exact HX.out.2.1
          · have he2 := part_end 0 xs da dbs q (fun h => hq1 h.1)
            have HP := Aside0.mk he2
            clear k0 k1 k2 kb he2
            go_wp2
            refine ⟨⟨j + 1, hlt, rfl, HX.out.1, ?_, HX.out.2.2.2⟩, by simp [intOf]; omega⟩
            rw [HE.out.1, ← HP.out]
            exact HX.out.2.1
      · go_wp2
        refine ⟨⟨j + 1, hlt, rfl, blk_alloc HB.out.1 _, ?_, below_alloc HB.out.2.2.1 _⟩, by simp [intOf]; omega⟩
        rw [HB.out.2.2.2.1, show lay1 0 xs (dm, da, dbs) = xs from if_neg (fun h => hdm h.1)]
        exact blk_alloc HB.out.2.1 _
    · obtain rfl : j = n := by omega
      have hall : ds.take j = ds := List.take_of_length_le (by rw [HD.out.1]; exact Nat.le_refl _)
      rw [hall] at hblk
      have hrow := Row.of_blk hblk
      have hlen : (lays 0 (List.replicate N 0) ds).length = N := by rw [lays_length, List.length_replicate]
      have hcv := hrow.text (P := Tryd.prog) 49 5 9 N Tryd.underlying49 Tryd.underlying5 Tryd.underlying9
      rw [hlen] at hcv
      have HB := Aside0.mk hbw
      clear hbox hblk hrow hlen hbw hall
      go_wp2
      go_ret
      exact ⟨by rw [HF.out]; rfl, HB.out⟩
set_option maxHeartbeats 16000000 in
set_option maxRecDepth 100000 in
theorem rNew_ok1 (sg im fn gl : Value) (mo : Int) (A : Option Addr) (ds : List D3) (n cap : Nat) (w : World) (hl : ds.length = n) (hn : n ≤ 9223372036854775807) (hd : CellsD w A ds) (hsz : ∀ d ∈ ds, d.2.2.size ≤ 9223372036854775807)
    (E : Nat) (he0 : (3 : Int) ≤ E) (he1 : (E : Int) ≤ 12) :
    Calls Tryd.prog 65 #[.agg #[sg, im, fn, .int .i64 mo, .int .i64 E, gl, .slice A n cap], .int .i64 1] w fun e' w' => e' = .returned (.string (strOfNums (newM 1 E ds))) ∧ Below w.heap.size w w' := by
  have HD := Aside0.mk (And.intro hl (And.intro hd hsz))
  clear hl hd hsz
  have hmk := fun W => make_pow E (by omega) W
  have hfin : newM 1 E ds = lays 1 (List.replicate (2 ^ E) 0) ds := by unfold newM; rw [Int.toNat_natCast]
  have HF := Aside0.mk hfin
  clear hfin
  obtain ⟨N, hN⟩ : ∃ N, 2 ^ E = N := ⟨_, rfl⟩
  have hNb : 1 ≤ N ∧ N ≤ 4096 := by
    rw [← hN]
    exact ⟨Nat.one_le_two_pow, le_4096 E (by omega)⟩
  rw [hN] at hmk HF
  clear hN
  obtain ⟨hN0, hN1⟩ := hNb
  go_enter Tryd.func65, Tryd.ntmps65
  go_wp2
  go_loopw [6, 7, 8] (fun i _ _ wr => ∃ j : Nat, j ≤ n ∧ i = .int .i64 j ∧ wr.heap[w.heap.size]? = some (.cells #[sg, im, fn, .int .i64 mo, .int .i64 E, gl, .slice A n cap] 70 (0, 0)) ∧ wr.heap[w.heap.size + 1]? = some (.cells (nums .u8 (lays 1 (List.replicate N 0) (ds.take j))).toArray 5 (0, 0)) ∧ Below w.heap.size w wr) (fun i _ _ _ => n - (intOf i).toNat)
  case atStart =>
    refine ⟨0, Nat.zero_le _, rfl, blk_alloc (blk_new w _) _, ?_, below_alloc (below_alloc (Below.refl _ _) _) _⟩
    have := blk_new (w.alloc (Obj.cells #[sg, im, fn, .int .i64 mo, .int .i64 E, gl, .slice A n cap] 70)) (.cells (nums .u8 (List.replicate N 0)).toArray 5)
    rw [World.size_alloc] at this
    exact this
  case round =>
    obtain ⟨j, hj, rfl, hbox, hblk, hbw⟩ := hrel
    clear hmk
    have hbc := blk_cell hbox
    by_cases hlt : j < n
    · obtain ⟨ad, rfl, hbk, d0, d1, d2⟩ := (HD.out.2.1.below hbw) j (by rw [HD.out.1]; exact hlt)
      have hst : lays 1 (List.replicate N 0) (ds.take (j + 1)) = lay1 1 (lays 1 (List.replicate N 0) (ds.take j)) (ds[j]'(by rw [HD.out.1]; exact hlt)) := by
        rw [List.take_succ_eq_append_getElem (by rw [HD.out.1]; exact hlt), lays_snoc]
      have hlen : (lays 1 (List.replicate N 0) (ds.take j)).length = N := by rw [lays_length, List.length_replicate]
      have hsz := HD.out.2.2 (ds[j]'(by rw [HD.out.1]; exact hlt)) (List.getElem_mem _)
      have HB := Aside0.mk (And.intro hbox (And.intro hblk (And.intro hbw (And.intro hst (And.intro hlen hsz)))))
      have huD := Tryd.underlying134
      generalize ds[j]'(by rw [HD.out.1]; exact hlt) = d at *
      obtain ⟨dm, da, dbs⟩ := d
      dsimp only at d0 d1 d2
      clear hbox hblk hbw hst hlen hsz
      generalize lays 1 (List.replicate N 0) (ds.take j) = xs at *
      by_cases hdm : dm = 1
      · subst hdm
        go_wp2
        obtain ⟨b1, hb1⟩ : ∃ b1, wr.heap.size = b1 := ⟨_, rfl⟩
        have hb1x : w.heap.size + 1 < b1 := by have := blk_lt HB.out.2.1; omega
        have K0 := blk_alloc HB.out.1 (.cells #[Value.int IntKind.i64 1, Value.int IntKind.i64 da, Value.string dbs] 134)
        have K1 := blk_alloc HB.out.2.1 (.cells #[Value.int IntKind.i64 1, Value.int IntKind.i64 da, Value.string dbs] 134)
        have K2 := blk_new wr (.cells #[Value.int IntKind.i64 1, Value.int IntKind.i64 da, Value.string dbs] 134)
        have KB := below_alloc HB.out.2.2.1 (.cells #[Value.int IntKind.i64 1, Value.int IntKind.i64 da, Value.string dbs] 134)
        rw [hb1] at K2 ⊢
        generalize wr.alloc _ = W1 at K0 K1 K2 KB ⊢
        clear hb1 d0 d1 d2 hbc
        have HE := Aside0.mk (And.intro HB.out.2.2.2.1 (And.intro HB.out.2.2.2.2.1 HB.out.2.2.2.2.2))
        have HK := Aside0.mk (And.intro K0 (And.intro K1 (And.intro K2 KB)))
        clear K0 K1 K2 KB HB
        go_loopw [8] (fun i wi => ∃ q : Nat, q ≤ N ∧ i = .int .i64 q ∧ wi.heap[w.heap.size]? = some (.cells #[sg, im, fn, .int .i64 mo, .int .i64 E, gl, .slice (some ad) n cap] 70 (0, 0)) ∧ wi.heap[w.heap.size + 1]? = some (.cells (nums .u8 (part xs da dbs q)).toArray 5 (0, 0)) ∧ wi.heap[b1]? = some (.cells #[Value.int IntKind.i64 1, Value.int IntKind.i64 da, Value.string dbs] 134 (0, 0)) ∧ Below w.heap.size w wi) (fun i _ => N - (intOf i).toNat)
        case atStart => exact ⟨0, Nat.zero_le _, rfl, HK.out.1, by rw [part_zero]; exact HK.out.2.1, HK.out.2.2.1, HK.out.2.2.2⟩
        case round =>
          obtain ⟨q, hqN, rfl, k0, k1, k2, kb⟩ := hrel
          have hc2 := blk_cell k2
          have HX := Aside0.mk (And.intro k0 (And.intro k1 (And.intro k2 kb)))
          have hsz2 := HE.out.2.2
          by_cases hq1 : q < dbs.size
          · by_cases hq2 : q < N
            · by_cases hin : 0 ≤ da ∧ da < (N : Int) - q
              · obtain ⟨hin0, hin1⟩ := hin
                obtain ⟨D, rfl⟩ := Int.eq_ofNat_of_zero_le hin0
                have hDq : D + q < N := by omega
                have hck := nums_at k1 (D + q) (by rw [part_length, HE.out.2.1]; exact hDq)
                have hfz := blk_frozen k1 (D + q)
                have hq3 : IntKind.i64.wrap ((D : Int) + q) = (D : Int) + q := by rw [IntKind.wrap_i64]; omega
                have hq4 : ((D : Int) + q).toNat = D + q := by omega
                have hq5 : (0 : Int) ≤ (D : Int) + q := by omega
                have hq6 : (D : Int) + q < N := by omega
                clear k0 k1 k2 kb
                go_wp2
                refine wp_region_still_tail 10 (by kernel_rfl) (by kernel_rfl) ?_
                change wpStill _ _ (World.drew _) _ _ _
                simp only [List.take_succ_cons, List.take_zero, List.drop_succ_cons, List.drop_zero]
                repeat still_step
                try refine wpStill_nil ?_
                change wpList _ _ _ _ _ (World.drew _)
                go_wp2
                refine ⟨⟨q + 1, hq2, rfl, ?_, ?_, ?_, ?_⟩, by simp [intOf]; omega⟩
                · first | exact blk_drew (blk_own HX.out.1 (by show w.heap.size + 1 ≠ w.heap.size; omega) _) | exact blk_own (blk_drew HX.out.1) (by show w.heap.size + 1 ≠ w.heap.size; omega) _
                · have h := nums_put HX.out.2.1 (D + q) ((dbs[q]'hq1).toNat : Int)
                  rw [part_step xs D dbs q (by rw [HE.out.2.1]; exact hDq) hq1] at h
                  exact h
                · first | exact blk_drew (blk_own HX.out.2.2.1 (by show w.heap.size + 1 ≠ b1; omega) _) | exact blk_own (blk_drew HX.out.2.2.1) (by show w.heap.size + 1 ≠ b1; omega) _
                · first | exact below_drew (below_sizes HX.out.2.2.2 _ _ (by omega) _) | exact below_sizes (below_drew HX.out.2.2.2) _ _ (by omega) _
              · have hst2 := part_stay xs da dbs q (by rw [HE.out.2.1]; exact hin)
                have HP := Aside0.mk hst2
                clear k0 k1 k2 kb hst2
                go_wp2
                all_goals
                  refine ⟨⟨q + 1, hq2, rfl, HX.out.1, by rw [HP.out]; exact HX.out.2.1, HX.out.2.2.1, HX.out.2.2.2⟩, by simp [intOf]; omega⟩
            · have he2 := part_end 1 xs da dbs q (fun h => hq2 (by rw [HE.out.2.1] at h; exact h.2))
              have HP := Aside0.mk he2
              clear k0 k1 k2 kb he2
              go_wp2
              refine ⟨⟨j + 1, hlt, rfl, HX.out.1, ?_, HX.out.2.2.2⟩, by simp [intOf]; omega⟩
              rw [HE.out.1, ← HP.out]
              exact HX.out.2.1
          · have he2 := part_end 1 xs da dbs q (fun h => hq1 h.1)
            have HP := Aside0.mk he2
            clear k0 k1 k2 kb he2
            go_wp2
            refine ⟨⟨j + 1, hlt, rfl, HX.out.1, ?_, HX.out.2.2.2⟩, by simp [intOf]; omega⟩
            rw [HE.out.1, ← HP.out]
            exact HX.out.2.1
      · go_wp2
        refine ⟨⟨j + 1, hlt, rfl, blk_alloc HB.out.1 _, ?_, below_alloc HB.out.2.2.1 _⟩, by simp [intOf]; omega⟩
        rw [HB.out.2.2.2.1, show lay1 1 xs (dm, da, dbs) = xs from if_neg (fun h => hdm h.1)]
        exact blk_alloc HB.out.2.1 _
    · obtain rfl : j = n := by omega
      have hall : ds.take j = ds := List.take_of_length_le (by rw [HD.out.1]; exact Nat.le_refl _)
      rw [hall] at hblk
      have hrow := Row.of_blk hblk
      have hlen : (lays 1 (List.replicate N 0) ds).length = N := by rw [lays_length, List.length_replicate]
      have hcv := hrow.text (P := Tryd.prog) 49 5 9 N Tryd.underlying49 Tryd.underlying5 Tryd.underlying9
      rw [hlen] at hcv
      have HB := Aside0.mk hbw
      clear hbox hblk hrow hlen hbw hall
      go_wp2
      go_ret
      exact ⟨by rw [HF.out]; rfl, HB.out⟩
set_option maxHeartbeats 8000000 in
set_option maxRecDepth 100000 in
theorem rNew (sg im fn gl : Value) (m0 m1 k : Int) (A : Option Addr) (ds : List D3) (n cap : Nat) (w : World) (hl : ds.length = n) (hn : n ≤ 9223372036854775807) (hd : CellsD w A ds) (hsz : ∀ d ∈ ds, d.2.2.size ≤ 9223372036854775807) :
    Calls Tryd.prog 65 #[.agg #[sg, im, fn, .int .i64 m0, .int .i64 m1, gl, .slice A n cap], .int .i64 k] w fun e' w' => e' = .returned (.string (news k (if k = 0 then m0 else m1) ds)) ∧ Below w.heap.size w w' := by
  cases hok : memOk k (if k = 0 then m0 else m1) with
  | true =>
    obtain ⟨hk, h0, h1⟩ := of_decide_eq_true hok
    unfold news
    rw [hok, if_pos rfl]
    obtain ⟨E, hE⟩ := Int.eq_ofNat_of_zero_le (show 0 ≤ (if k = 0 then m0 else m1) by omega)
    rw [hE] at h0 h1 ⊢
    rcases hk with rfl | rfl
    · rw [if_pos rfl] at hE
      subst hE
      exact rNew_ok0 sg im fn gl m1 A ds n cap w hl hn hd hsz E h0 h1
    · rw [if_neg (by decide)] at hE
      subst hE
      exact rNew_ok1 sg im fn gl m0 A ds n cap w hl hn hd hsz E h0 h1
  | false =>
    have hno := memOk_no hok
    unfold news
    rw [hok, if_neg (by simp)]
    clear hok hl hd hn hsz
    have cases : k < 0 ∨ (0 ≤ k ∧ 1 < k) ∨ (k = 0 ∧ m0 < 3) ∨ (k = 0 ∧ 3 ≤ m0 ∧ 12 < m0) ∨ (k = 1 ∧ m1 < 3) ∨ (k = 1 ∧ 3 ≤ m1 ∧ 12 < m1) := by
      rcases Int.lt_or_le k 0 with h | h
      · exact .inl h
      · rcases Int.lt_or_le 1 k with h' | h'
        · exact .inr (.inl ⟨h, h'⟩)
        · rcases (show k = 0 ∨ k = 1 by omega) with rfl | rfl
          · rw [if_pos rfl] at hno; omega
          · rw [if_neg (by decide)] at hno; omega
    clear hno
    rcases cases with h | ⟨h, h'⟩ | ⟨rfl, h⟩ | ⟨rfl, h, h'⟩ | ⟨rfl, h⟩ | ⟨rfl, h, h'⟩
    all_goals
      go_enter Tryd.func65, Tryd.ntmps65
      go_wp2
      go_ret
      exact ⟨rfl, below_alloc (Below.refl _ _) _⟩
end Go.Proofs.YtgaiehnbjggmdaaDoor.F
