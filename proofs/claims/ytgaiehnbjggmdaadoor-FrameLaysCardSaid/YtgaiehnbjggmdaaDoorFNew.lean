/- A memory at its beginning: the program's function. No condition but that numbers and lengths are those of the language. -/
import Derived.Test.YtgaiehnbjggmdaaDoorFBase
import Derived.StillTailTactics
namespace Go.Proofs.YtgaiehnbjggmdaaDoor.F
open Go.Ob Go.RowKit Go.Proofs.YtgaiehnbjggmdaaDoorW.PrintWords Go.Proofs.YtgaiehnbjggmdaaDoorW.PrintMore
attribute [local go_sem] max2_int min2_int max_two min_two
set_option linter.unusedVariables false
set_option linter.unusedSimpArgs false
/-- a datum: which memory, where, its bytes -/
abbrev D3 := Int × Int × ByteArray
/-- one datum laid down -/
def lay1 (k : Int) (xs : List Int) (d : D3) : List Int := if d.1 = k ∧ 0 ≤ d.2.1 ∧ d.2.1 < xs.length then spl xs d.2.1.toNat ((bl d.2.2).take (xs.length - d.2.1.toNat)) else xs
theorem lay1_length (k : Int) (xs : List Int) (d : D3) : (lay1 k xs d).length = xs.length := by
  unfold lay1
  split
  · rename_i h
    exact spl_length (by rw [List.length_take]; omega)
  · rfl
def lays (k : Int) (xs : List Int) (ds : List D3) : List Int := ds.foldl (lay1 k) xs
theorem lays_length (k : Int) (xs : List Int) (ds : List D3) : (lays k xs ds).length = xs.length := by
  unfold lays
  induction ds generalizing xs with
  | nil => rfl
  | cons d ds ih => rw [List.foldl_cons, ih, lay1_length]
theorem lays_snoc (k : Int) (xs : List Int) (ds : List D3) (d : D3) : lays k xs (ds ++ [d]) = lay1 k (lays k xs ds) d := by unfold lays; rw [List.foldl_append]; rfl
/-- may there be such a memory? -/
def memOk (k e : Int) : Bool := decide ((k = 0 ∨ k = 1) ∧ 3 ≤ e ∧ e ≤ 12)
/-- its bytes at its beginning -/
def newM (k e : Int) (ds : List D3) : List Int := lays k (List.replicate (2 ^ e.toNat) 0) ds
def news (k e : Int) (ds : List D3) : ByteArray := if memOk k e then strOfNums (newM k e ds) else ⟨#[]⟩
/-- the cells of data -/
def CellsD (w : World) (A : Option Addr) (ds : List D3) : Prop := ∀ i (h : i < ds.length), ∃ ad, A = some ad ∧ ad.block < w.heap.size ∧ w.cell? (ad.add (i * 3)) = some (.int .i64 ds[i].1) ∧
  w.cell? ⟨(ad.add (i * 3)).block, (ad.add (i * 3)).off + 1, none⟩ = some (.int .i64 ds[i].2.1) ∧ w.cell? ⟨(ad.add (i * 3)).block, (ad.add (i * 3)).off + 2, none⟩ = some (.string ds[i].2.2)
theorem add_blk (a : Addr) (n : Nat) : (a.add n).block = a.block := by unfold Addr.add; split <;> rfl
theorem CellsD.below {w w' : World} {A : Option Addr} {ds : List D3} (h : CellsD w A ds) (hb : Below w.heap.size w w') : CellsD w' A ds := fun i hi => by
  obtain ⟨ad, e, hk, c0, c1, c2⟩ := h i hi
  exact ⟨ad, e, Nat.lt_of_lt_of_le hk hb.size, (hb.cell (by rw [add_blk]; exact hk)).trans c0, (hb.cell (p := ⟨(ad.add (i * 3)).block, (ad.add (i * 3)).off + 1, none⟩) (by show (ad.add (i * 3)).block < _; rw [add_blk]; exact hk)).trans c1,
    (hb.cell (p := ⟨(ad.add (i * 3)).block, (ad.add (i * 3)).off + 2, none⟩) (by show (ad.add (i * 3)).block < _; rw [add_blk]; exact hk)).trans c2⟩
theorem made_nums (n : Nat) : madeCells #[.int .u8 0] n = (nums .u8 (List.replicate n 0)).toArray := by
  simp [madeCells, nums]
  apply Array.ext
  · simp
  · intro i h1 h2
    simp [Nat.mod_one]
theorem info5b : (Tryd.prog.info? 5).map (fun i => (i.zero, i.size, i.bytes)) = some (some (.int .u8 0), 1, 1) := by kernel_rfl
theorem le_4096 (E : Nat) (h : E ≤ 12) : 2 ^ E ≤ 4096 := Nat.pow_le_pow_right (n := 2) (by decide) h
theorem make_pow (E : Nat) (h : E ≤ 12) (W : World) : (Instr.makeSlice 49 (.int .i64 (wrap64 (2 ^ E))) (.int .i64 (wrap64 (2 ^ E)))).run Tryd.prog W = .ok (.slice (some ⟨W.heap.size, 0, none⟩) (2 ^ E) (2 ^ E)) (W.alloc (.cells (nums .u8 (List.replicate (2 ^ E) 0)).toArray 5)) := by
  have h1 : 2 ^ E ≤ 4096 := Nat.pow_le_pow_right (n := 2) (by decide) h
  have h2 : wrap64 (2 ^ E) = ((2 ^ E : Nat) : Int) := by
    have : ((2 : Int) ^ E) = ((2 ^ E : Nat) : Int) := by simp
    rw [this]
    generalize 2 ^ E = N at *
    unfold wrap64
    omega
  rw [h2, print_make (P := Tryd.prog) 49 5 .u8 1 Tryd.underlying49 info5b (by decide) (2 ^ E) (by omega) W, made_nums]
set_option maxHeartbeats 8000000 in
set_option maxRecDepth 100000 in
theorem New_ok0 (sg im fn gl : Value) (mo : Int) (A : Option Addr) (ds : List D3) (n cap : Nat) (w : World) (hl : ds.length = n) (hn : n ≤ 9223372036854775807) (hd : CellsD w A ds)
    (E : Nat) (he0 : (3 : Int) ≤ E) (he1 : (E : Int) ≤ 12) :
    Calls Tryd.prog 82 #[.agg #[sg, im, fn, .int .i64 E, .int .i64 mo, gl, .slice A n cap], .int .i64 0] w fun e' w' => e' = .returned (.string (strOfNums (newM 0 E ds))) ∧ Below w.heap.size w w' := by
  have HD := Aside0.mk (And.intro hl hd)
  clear hl hd
  have hmk := fun W => make_pow E (by omega) W
  have hfin : newM 0 E ds = lays 0 (List.replicate (2 ^ E) 0) ds := by unfold newM; rw [Int.toNat_natCast]
  have HF := Aside0.mk hfin
  clear hfin
  obtain ⟨N, hN⟩ : ∃ N, 2 ^ E = N := ⟨_, rfl⟩
  have hNb : 1 ≤ N ∧ N ≤ 4096 := by
    rw [← hN]
    exact ⟨Nat.one_le_two_pow, le_4096 E (by omega)⟩
  rw [hN] at hmk HF
  clear hN
  obtain ⟨hN0, hN1⟩ := hNb
  go_enter Tryd.func82, Tryd.ntmps82
  go_wp2
  go_loopw [7, 37] (fun _ i wr => ∃ j : Nat, j ≤ n ∧ i = .int .i64 j ∧ wr.heap[w.heap.size + 1]? = some (.cells (nums .u8 (lays 0 (List.replicate N 0) (ds.take j))).toArray 5 (0, 0)) ∧ Below w.heap.size w wr) (fun _ i _ => n - (intOf i).toNat)
  case atStart =>
    refine ⟨0, Nat.zero_le _, rfl, ?_, below_alloc (below_alloc (Below.refl _ _) _) _⟩
    have := blk_new (w.alloc (Obj.cells #[sg, im, fn, Value.int IntKind.i64 ↑E, Value.int IntKind.i64 mo, gl, Value.slice A n cap] 70)) (.cells (nums .u8 (List.replicate N 0)).toArray 5)
    rw [World.size_alloc] at this
    exact this
  case round =>
    obtain ⟨j, hj, rfl, hblk, hbw⟩ := hrel
    clear hmk
    by_cases hlt : j < n
    · obtain ⟨ad, rfl, hbk, d0, d1, d2⟩ := (HD.out.2.below hbw) j (by rw [HD.out.1]; exact hlt)
      have hst : lays 0 (List.replicate N 0) (ds.take (j + 1)) = lay1 0 (lays 0 (List.replicate N 0) (ds.take j)) (ds[j]'(by rw [HD.out.1]; exact hlt)) := by
        rw [List.take_succ_eq_append_getElem (by rw [HD.out.1]; exact hlt), lays_snoc]
      have hlen : (lays 0 (List.replicate N 0) (ds.take j)).length = N := by rw [lays_length, List.length_replicate]
      have HB := Aside0.mk (And.intro hblk (And.intro hbw (And.intro hst hlen)))
      have huD := Tryd.underlying134
      generalize ds[j]'(by rw [HD.out.1]; exact hlt) = d at *
      obtain ⟨dm, da, dbs⟩ := d
      dsimp only at d0 d1 d2
      clear hblk hbw hst hlen
      generalize lays 0 (List.replicate N 0) (ds.take j) = xs at *
      go_wp2
      · have h0 : 0 ≤ da := by assumption
        have h1 : da < N := by assumption
        obtain ⟨D, rfl⟩ := Int.eq_ofNat_of_zero_le h0
        have hDN : D < N := by omega
        have hle : D ≤ N := by omega
        have hne : (N = D) = False := eq_false (by omega)
        have hdm : dm = 0 := by assumption
        have hla : lay1 0 xs (dm, (D : Int), dbs) = spl xs D ((bl dbs).take (N - D)) := by
          unfold lay1
          rw [if_pos ⟨hdm, h0, by rw [HB.out.2.2.2]; exact h1⟩, HB.out.2.2.2, Int.toNat_natCast]
        have HLa := Aside0.mk hla
        clear hla hdm
        refine wp_region_still_tail 6 (by kernel_rfl) (by kernel_rfl) ?_
        change wpStill _ _ (World.drew _) _ _ _
        simp only [List.take_succ_cons, List.take_zero, List.drop_succ_cons, List.drop_zero]
        repeat still_step
        try refine wpStill_nil ?_
        have hg := blk_drew (blk_alloc HB.out.1 (.cells #[Value.int IntKind.i64 0, Value.int IntKind.i64 ↑D, Value.string dbs] 134))
        have hbb := below_drew (below_alloc HB.out.2.1 (.cells #[Value.int IntKind.i64 0, Value.int IntKind.i64 ↑D, Value.string dbs] 134))
        refine wpList_copy_bl rfl (.tmp 60) (.tmp 62) 49 9 rfl 5 Tryd.underlying49 info5 (w.heap.size + 1) D (N - D) (N - D) rfl dbs rfl xs 5 hg (by rw [HB.out.2.2.2]; omega) w.heap.size w hbb (by omega) ?_
        intro w2 HC hb2 hk2 hz2
        have H2 := Aside0.mk hb2
        clear hb2 hk2 hz2 hg hbb hne
        go_wp2
        refine ⟨⟨j + 1, hlt, rfl, ?_, H2.out⟩, by simp [intOf]; omega⟩
        rw [HB.out.2.2.1, HLa.out]
        exact HC.out
      all_goals
        refine ⟨⟨j + 1, hlt, rfl, ?_, below_alloc HB.out.2.1 _⟩, by simp [intOf]; omega⟩
        rw [HB.out.2.2.1, show lay1 0 xs _ = xs from if_neg (by simp only [HB.out.2.2.2]; omega)]
        exact blk_alloc HB.out.1 _
    · obtain rfl : j = n := by omega
      have hall : ds.take j = ds := List.take_of_length_le (by rw [HD.out.1]; exact Nat.le_refl _)
      rw [hall] at hblk
      have hrow := Row.of_blk hblk
      have hlen : (lays 0 (List.replicate N 0) ds).length = N := by rw [lays_length, List.length_replicate]
      have hcv := hrow.text (P := Tryd.prog) 49 5 9 N Tryd.underlying49 Tryd.underlying5 Tryd.underlying9
      rw [hlen] at hcv
      have HB := Aside0.mk hbw
      clear hblk hrow hlen hbw hall
      go_wp2
      go_ret
      exact ⟨by rw [HF.out]; rfl, HB.out⟩
set_option maxHeartbeats 8000000 in
set_option maxRecDepth 100000 in
theorem New_ok1 (sg im fn gl : Value) (mo : Int) (A : Option Addr) (ds : List D3) (n cap : Nat) (w : World) (hl : ds.length = n) (hn : n ≤ 9223372036854775807) (hd : CellsD w A ds)
    (E : Nat) (he0 : (3 : Int) ≤ E) (he1 : (E : Int) ≤ 12) :
    Calls Tryd.prog 82 #[.agg #[sg, im, fn, .int .i64 mo, .int .i64 E, gl, .slice A n cap], .int .i64 1] w fun e' w' => e' = .returned (.string (strOfNums (newM 1 E ds))) ∧ Below w.heap.size w w' := by
  have HD := Aside0.mk (And.intro hl hd)
  clear hl hd
  have hmk := fun W => make_pow E (by omega) W
  have hfin : newM 1 E ds = lays 1 (List.replicate (2 ^ E) 0) ds := by unfold newM; rw [Int.toNat_natCast]
  have HF := Aside0.mk hfin
  clear hfin
  obtain ⟨N, hN⟩ : ∃ N, 2 ^ E = N := ⟨_, rfl⟩
  have hNb : 1 ≤ N ∧ N ≤ 4096 := by
    rw [← hN]
    exact ⟨Nat.one_le_two_pow, le_4096 E (by omega)⟩
  rw [hN] at hmk HF
  clear hN
  obtain ⟨hN0, hN1⟩ := hNb
  go_enter Tryd.func82, Tryd.ntmps82
  go_wp2
  go_loopw [7, 37] (fun _ i wr => ∃ j : Nat, j ≤ n ∧ i = .int .i64 j ∧ wr.heap[w.heap.size + 1]? = some (.cells (nums .u8 (lays 1 (List.replicate N 0) (ds.take j))).toArray 5 (0, 0)) ∧ Below w.heap.size w wr) (fun _ i _ => n - (intOf i).toNat)
  case atStart =>
    refine ⟨0, Nat.zero_le _, rfl, ?_, below_alloc (below_alloc (Below.refl _ _) _) _⟩
    have := blk_new (w.alloc (Obj.cells #[sg, im, fn, Value.int IntKind.i64 mo, Value.int IntKind.i64 ↑E, gl, Value.slice A n cap] 70)) (.cells (nums .u8 (List.replicate N 0)).toArray 5)
    rw [World.size_alloc] at this
    exact this
  case round =>
    obtain ⟨j, hj, rfl, hblk, hbw⟩ := hrel
    clear hmk
    by_cases hlt : j < n
    · obtain ⟨ad, rfl, hbk, d0, d1, d2⟩ := (HD.out.2.below hbw) j (by rw [HD.out.1]; exact hlt)
      have hst : lays 1 (List.replicate N 0) (ds.take (j + 1)) = lay1 1 (lays 1 (List.replicate N 0) (ds.take j)) (ds[j]'(by rw [HD.out.1]; exact hlt)) := by
        rw [List.take_succ_eq_append_getElem (by rw [HD.out.1]; exact hlt), lays_snoc]
      have hlen : (lays 1 (List.replicate N 0) (ds.take j)).length = N := by rw [lays_length, List.length_replicate]
      have HB := Aside0.mk (And.intro hblk (And.intro hbw (And.intro hst hlen)))
      have huD := Tryd.underlying134
      generalize ds[j]'(by rw [HD.out.1]; exact hlt) = d at *
      obtain ⟨dm, da, dbs⟩ := d
      dsimp only at d0 d1 d2
      clear hblk hbw hst hlen
      generalize lays 1 (List.replicate N 0) (ds.take j) = xs at *
      go_wp2
      · have h0 : 0 ≤ da := by assumption
        have h1 : da < N := by assumption
        obtain ⟨D, rfl⟩ := Int.eq_ofNat_of_zero_le h0
        have hDN : D < N := by omega
        have hle : D ≤ N := by omega
        have hne : (N = D) = False := eq_false (by omega)
        have hdm : dm = 1 := by assumption
        have hla : lay1 1 xs (dm, (D : Int), dbs) = spl xs D ((bl dbs).take (N - D)) := by
          unfold lay1
          rw [if_pos ⟨hdm, h0, by rw [HB.out.2.2.2]; exact h1⟩, HB.out.2.2.2, Int.toNat_natCast]
        have HLa := Aside0.mk hla
        clear hla hdm
        refine wp_region_still_tail 6 (by kernel_rfl) (by kernel_rfl) ?_
        change wpStill _ _ (World.drew _) _ _ _
        simp only [List.take_succ_cons, List.take_zero, List.drop_succ_cons, List.drop_zero]
        repeat still_step
        try refine wpStill_nil ?_
        have hg := blk_drew (blk_alloc HB.out.1 (.cells #[Value.int IntKind.i64 1, Value.int IntKind.i64 ↑D, Value.string dbs] 134))
        have hbb := below_drew (below_alloc HB.out.2.1 (.cells #[Value.int IntKind.i64 1, Value.int IntKind.i64 ↑D, Value.string dbs] 134))
        refine wpList_copy_bl rfl (.tmp 60) (.tmp 62) 49 9 rfl 5 Tryd.underlying49 info5 (w.heap.size + 1) D (N - D) (N - D) rfl dbs rfl xs 5 hg (by rw [HB.out.2.2.2]; omega) w.heap.size w hbb (by omega) ?_
        intro w2 HC hb2 hk2 hz2
        have H2 := Aside0.mk hb2
        clear hb2 hk2 hz2 hg hbb hne
        go_wp2
        refine ⟨⟨j + 1, hlt, rfl, ?_, H2.out⟩, by simp [intOf]; omega⟩
        rw [HB.out.2.2.1, HLa.out]
        exact HC.out
      all_goals
        refine ⟨⟨j + 1, hlt, rfl, ?_, below_alloc HB.out.2.1 _⟩, by simp [intOf]; omega⟩
        rw [HB.out.2.2.1, show lay1 1 xs _ = xs from if_neg (by simp only [HB.out.2.2.2]; omega)]
        exact blk_alloc HB.out.1 _
    · obtain rfl : j = n := by omega
      have hall : ds.take j = ds := List.take_of_length_le (by rw [HD.out.1]; exact Nat.le_refl _)
      rw [hall] at hblk
      have hrow := Row.of_blk hblk
      have hlen : (lays 1 (List.replicate N 0) ds).length = N := by rw [lays_length, List.length_replicate]
      have hcv := hrow.text (P := Tryd.prog) 49 5 9 N Tryd.underlying49 Tryd.underlying5 Tryd.underlying9
      rw [hlen] at hcv
      have HB := Aside0.mk hbw
      clear hblk hrow hlen hbw hall
      go_wp2
      go_ret
      exact ⟨by rw [HF.out]; rfl, HB.out⟩
theorem memOk_no {k e : Int} (h : memOk k e = false) : ¬ ((k = 0 ∨ k = 1) ∧ 3 ≤ e ∧ e ≤ 12) := of_decide_eq_false h
set_option maxHeartbeats 8000000 in
set_option maxRecDepth 100000 in
theorem New (sg im fn gl : Value) (m0 m1 k : Int) (A : Option Addr) (ds : List D3) (n cap : Nat) (w : World) (hl : ds.length = n) (hn : n ≤ 9223372036854775807) (hd : CellsD w A ds) :
    Calls Tryd.prog 82 #[.agg #[sg, im, fn, .int .i64 m0, .int .i64 m1, gl, .slice A n cap], .int .i64 k] w fun e' w' => e' = .returned (.string (news k (if k = 0 then m0 else m1) ds)) ∧ Below w.heap.size w w' := by
  cases hok : memOk k (if k = 0 then m0 else m1) with
  | true =>
    obtain ⟨hk, h0, h1⟩ := of_decide_eq_true hok
    unfold news
    rw [hok, if_pos rfl]
    obtain ⟨E, hE⟩ := Int.eq_ofNat_of_zero_le (show 0 ≤ (if k = 0 then m0 else m1) by omega)
    rw [hE] at h0 h1 ⊢
    rcases hk with rfl | rfl
    · rw [if_pos rfl] at hE
      subst hE
      exact New_ok0 sg im fn gl m1 A ds n cap w hl hn hd E h0 h1
    · rw [if_neg (by decide)] at hE
      subst hE
      exact New_ok1 sg im fn gl m0 A ds n cap w hl hn hd E h0 h1
  | false =>
    have hno := memOk_no hok
    unfold news
    rw [hok, if_neg (by simp)]
    clear hok hl hd hn
    have cases : k < 0 ∨ (0 ≤ k ∧ 1 < k) ∨ (k = 0 ∧ m0 < 3) ∨ (k = 0 ∧ 3 ≤ m0 ∧ 12 < m0) ∨ (k = 1 ∧ m1 < 3) ∨ (k = 1 ∧ 3 ≤ m1 ∧ 12 < m1) := by
      rcases Int.lt_or_le k 0 with h | h
      · exact .inl h
      · rcases Int.lt_or_le 1 k with h' | h'
        · exact .inr (.inl ⟨h, h'⟩)
        · rcases (show k = 0 ∨ k = 1 by omega) with rfl | rfl
          · rw [if_pos rfl] at hno; omega
          · rw [if_neg (by decide)] at hno; omega
    clear hno
    rcases cases with h | ⟨h, h'⟩ | ⟨rfl, h⟩ | ⟨rfl, h, h'⟩ | ⟨rfl, h⟩ | ⟨rfl, h, h'⟩
    all_goals
      go_enter Tryd.func82, Tryd.ntmps82
      go_wp2
      go_ret
      exact ⟨rfl, below_alloc (Below.refl _ _) _⟩
end Go.Proofs.YtgaiehnbjggmdaaDoor.F
