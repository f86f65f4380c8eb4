/- A memory at its beginning has the bytes of its last datum at their place, and nought where there are none: the law's function. No condition but that numbers and lengths are those of the language. -/
import Derived.Test.YtiacmfgkbgfhkaaLinMath
import Derived.Test.YtiacmfgkbgfhkaaLinNew
namespace Go.Proofs.Ytiacmfgkbgfhkaa.Lin
open Go.Ob Go.RowKit Go.Proofs.YtiacmfgkbgfhkaaW.PrintWords Go.Proofs.YtiacmfgkbgfhkaaW.PrintMore
attribute [local go_sem] max2_int min2_int max_two min_two
set_option linter.unusedVariables false
set_option linter.unusedSimpArgs false
theorem idx_bl (s : ByteArray) (i : Nat) (j : Int) (hj : j = i) (hi : i < s.size) (W : World) : (Instr.index 9 (.string s) (.int .i64 j)).run Try.prog W = .ok (.int .u8 ((bl s).getD i 0)) W := by
  subst hj
  rw [run_index_string W 9 s .i64 i Try.underlying9, dif_pos ⟨by omega, by omega⟩]
  have h : i < (bl s).length := by rw [bl_length]; exact hi
  rw [List.getD_eq_getElem?_getD, List.getElem?_eq_getElem h]
  simp [bl, bytesOf]
  rfl
theorem lay_at (xs : List Int) (a : Int) (bs : ByteArray) (i : Nat) (hi : i < xs.length) : (lay1 1 xs (1, a, bs)).getD i 0 = if 0 ≤ a ∧ a ≤ i ∧ i - a < bs.size then (bl bs).getD (i - a).toNat 0 else xs.getD i 0 := by
  unfold lay1
  dsimp only
  by_cases h0 : 0 ≤ a ∧ a < xs.length
  · obtain ⟨k, rfl⟩ := Int.eq_ofNat_of_zero_le h0.1
    have hl := bl_length bs
    rw [if_pos ⟨rfl, h0⟩]
    simp only [spl, Int.toNat_natCast, List.getD_eq_getElem?_getD, List.getElem?_append, List.length_take, List.getElem?_take, List.getElem?_drop, hl]
    have hk : k < xs.length := by omega
    by_cases h1 : (k : Int) ≤ i ∧ (i : Int) - k < bs.size
    · rw [if_pos (show 0 ≤ (k : Int) ∧ (k : Int) ≤ i ∧ (i : Int) - k < bs.size from ⟨by omega, h1⟩), show ((i : Int) - k).toNat = i - k by omega]
      rw [if_neg (by omega), if_pos (by omega), if_pos (by omega), show i - min k xs.length = i - k by omega]
    · rw [if_neg (show ¬(0 ≤ (k : Int) ∧ (k : Int) ≤ i ∧ (i : Int) - k < bs.size) from fun h => h1 h.2)]
      by_cases h2 : i < k
      · rw [if_pos (by omega), if_pos (by omega)]
      · rw [if_neg (by omega), if_neg (by omega)]
        congr 2
        omega
  · rw [if_neg (fun h => h0 h.2), if_neg (by omega)]
theorem zeros_at (N i : Nat) : (List.replicate N (0 : Int)).getD i 0 = 0 := by
  rw [List.getD_eq_getElem?_getD, List.getElem?_replicate]
  split <;> rfl
/-- every byte of the memory that is made -/
theorem data_at (E : Nat) (a b : Int) (s t : ByteArray) (i : Nat) (hi : i < 2 ^ E) :
    (newM 1 E [(1, a, s), (1, b, t)]).getD i 0 = if 0 ≤ b ∧ b ≤ i ∧ i - b < t.size then (bl t).getD (i - b).toNat 0 else if 0 ≤ a ∧ a ≤ i ∧ i - a < s.size then (bl s).getD (i - a).toNat 0 else 0 := by
  unfold newM lays
  simp only [List.foldl_cons, List.foldl_nil, Int.toNat_natCast]
  rw [lay_at _ _ _ _ (by rw [lay1_length, List.length_replicate]; exact hi), lay_at _ _ _ _ (by rw [List.length_replicate]; exact hi), zeros_at]
theorem newM_length (k : Int) (E : Nat) (ds : List D3) : (newM k E ds).length = 2 ^ E := by
  unfold newM
  rw [lays_length, List.length_replicate, Int.toNat_natCast]
theorem lay1_bytes (k : Int) (xs : List Int) (d : D3) (h : ∀ x ∈ xs, 0 ≤ x ∧ x < 256) : ∀ x ∈ lay1 k xs d, 0 ≤ x ∧ x < 256 := by
  unfold lay1
  split
  · intro x hx
    simp only [spl, List.mem_append] at hx
    rcases hx with hx | hx | hx
    · exact h x (List.mem_of_mem_take hx)
    · exact bl_bytes d.2.2 x (List.mem_of_mem_take hx)
    · exact h x (List.mem_of_mem_drop hx)
  · exact h
theorem lays_bytes (k : Int) (ds : List D3) : ∀ (xs : List Int), (∀ x ∈ xs, 0 ≤ x ∧ x < 256) → ∀ x ∈ lays k xs ds, 0 ≤ x ∧ x < 256 := by
  induction ds with
  | nil => exact fun _ h => h
  | cons d ds ih => exact fun xs h => ih _ (lay1_bytes k xs d h)
theorem newM_bytes (k e : Int) (ds : List D3) : ∀ x ∈ newM k e ds, 0 ≤ x ∧ x < 256 := lays_bytes _ _ _ (fun x hx => by rw [List.eq_of_mem_replicate hx]; omega)
theorem news_bl (k e : Int) (ds : List D3) : bl (strOfNums (newM k e ds)) = newM k e ds := by
  rw [bl_num _ (newM_bytes k e ds)]
/-- the blocks of the law's function: the two data, the row of both, the module -/
structure St (a b : Int) (s t : ByteArray) (xs : Array Value) (w wr : World) (p : Nat) : Prop where
  da : wr.heap[w.heap.size]? = some (.cells #[Value.int .i64 1, .int .i64 a, .string s] 48 (0, 0))
  db : wr.heap[w.heap.size + 1]? = some (.cells #[Value.int .i64 1, .int .i64 b, .string t] 48 (0, 0))
  row : wr.heap[p]? = some (.cells #[Value.int .i64 1, .int .i64 a, .string s, .int .i64 1, .int .i64 b, .string t] 48 (0, 0))
  box : wr.heap[p + 1]? = some (.cells xs 38 (0, 0))
  all : Below w.heap.size w wr
theorem St.below {a b : Int} {s t : ByteArray} {xs : Array Value} {w wr w' : World} {p : Nat} (h : St a b s t xs w wr p) (hb : Below wr.heap.size wr w') : St a b s t xs w w' p :=
  ⟨(hb.block _ (blk_lt h.da)).trans h.da, (hb.block _ (blk_lt h.db)).trans h.db, (hb.block _ (blk_lt h.row)).trans h.row, (hb.block _ (blk_lt h.box)).trans h.box, h.all.trans (hb.mono h.all.size)⟩
theorem St.cells {a b : Int} {s t : ByteArray} {xs : Array Value} {w wr : World} {p : Nat} (h : St a b s t xs w wr p) : CellsD wr (some ⟨p, 0, none⟩) [(1, a, s), (1, b, t)] := fun i hi => by
  refine ⟨⟨p, 0, none⟩, rfl, blk_lt h.row, ?_⟩
  simp only [List.length_cons, List.length_nil] at hi
  obtain rfl | rfl : i = 0 ∨ i = 1 := by omega
  · exact ⟨blk_cell h.row 0, blk_cell h.row 1, blk_cell h.row 2⟩
  · exact ⟨blk_cell h.row 3, blk_cell h.row 4, blk_cell h.row 5⟩
set_option maxHeartbeats 16000000 in
set_option maxRecDepth 100000 in
theorem Data (e m1 a m2 b : Int) (s t : ByteArray) (w : World) (he : -9223372036854775808 ≤ e ∧ e ≤ 9223372036854775807) (ha : -9223372036854775808 ≤ a ∧ a ≤ 9223372036854775807) (hb : -9223372036854775808 ≤ b ∧ b ≤ 9223372036854775807) (hs : s.size ≤ 9223372036854775807) (ht : t.size ≤ 9223372036854775807) :
    Calls Try.prog 11 #[.int .i64 e, .agg #[.int .i64 m1, .int .i64 a, .string s], .agg #[.int .i64 m2, .int .i64 b, .string t]] w fun e w' => e = .returned (.bool true) ∧ Below w.heap.size w w' := by
  have hsplit : (e < 0 ∧ ∃ E : Nat, wrap64 (3 + -((e + 1).tmod 10)) = E ∧ 3 ≤ E ∧ E ≤ 12) ∨ (0 ≤ e ∧ ∃ E : Nat, 3 + e % 10 = E ∧ 3 ≤ E ∧ E ≤ 12) := by
    by_cases h0 : e < 0
    · left
      refine ⟨h0, (3 + (-(e + 1)) % 10).toNat, ?_, by omega, by omega⟩
      have h1 : (e + 1).tmod 10 = -((-(e + 1)) % 10) := by
        rw [← Int.neg_neg (e + 1), Int.neg_tmod, Int.neg_neg, Int.tmod_eq_emod_of_nonneg (by omega)]
      rw [h1]
      unfold wrap64
      omega
    · right
      refine ⟨by omega, (3 + e % 10).toNat, ?_, by omega, by omega⟩
      omega
  rcases hsplit with ⟨h0, E, hE, hE1, hE2⟩ | ⟨h0, E, hE, hE1, hE2⟩
  all_goals
    go_enter Try.func11, Try.ntmps11
    go_wp2_with fail
    refine (examples _).mono ?_
    rintro e1 w1 ⟨rfl, hb1⟩
    have cA : ∀ i, w1.cell? ⟨w.heap.size, i, none⟩ = #[Value.int .i64 m1, .int .i64 a, .string s][i]? := fun i => by
      rw [Below.cell hb1 (p := ⟨w.heap.size, i, none⟩) (by simp only [World.size_alloc]; omega)]
      rw [Below.cell (below_alloc (Below.refl _ _) _) (p := ⟨w.heap.size, i, none⟩) (by simp only [World.size_alloc]; omega)]
      exact blk_cell (blk_new w (.cells #[Value.int .i64 m1, .int .i64 a, .string s] 48)) i
    have cB : ∀ i, w1.cell? ⟨w.heap.size + 1, i, none⟩ = #[Value.int .i64 m2, .int .i64 b, .string t][i]? := fun i => by
      rw [Below.cell hb1 (p := ⟨w.heap.size + 1, i, none⟩) (by simp only [World.size_alloc]; omega)]
      have := blk_cell (blk_new (w.alloc (.cells #[Value.int .i64 m1, .int .i64 a, .string s] 48)) (.cells #[Value.int .i64 m2, .int .i64 b, .string t] 48)) i
      rw [World.size_alloc] at this
      exact this
    have a0 : w1.cell? ⟨w.heap.size, 0, none⟩ = some (.int .i64 m1) := cA 0
    have a1 : w1.cell? ⟨w.heap.size, 1, none⟩ = some (.int .i64 a) := cA 1
    have a2 : w1.cell? ⟨w.heap.size, 2, none⟩ = some (.string s) := cA 2
    have b0 : w1.cell? ⟨w.heap.size + 1, 0, none⟩ = some (.int .i64 m2) := cB 0
    have b1 : w1.cell? ⟨w.heap.size + 1, 1, none⟩ = some (.int .i64 b) := cB 1
    have b2 : w1.cell? ⟨w.heap.size + 1, 2, none⟩ = some (.string t) := cB 2
    have f0 : w1.frozen? ⟨w.heap.size, 0, none⟩ = false := by
      rw [Below.frozen hb1 (p := ⟨w.heap.size, 0, none⟩) (by simp only [World.size_alloc]; omega), Below.frozen (below_alloc (Below.refl _ _) _) (p := ⟨w.heap.size, 0, none⟩) (by simp only [World.size_alloc]; omega)]
      exact blk_frozen (blk_new w (.cells #[Value.int .i64 m1, .int .i64 a, .string s] 48)) 0
    have f1 : w1.frozen? ⟨w.heap.size + 1, 0, none⟩ = false := by
      rw [Below.frozen hb1 (p := ⟨w.heap.size + 1, 0, none⟩) (by simp only [World.size_alloc]; omega)]
      have := blk_frozen (blk_new (w.alloc (.cells #[Value.int .i64 m1, .int .i64 a, .string s] 48)) (.cells #[Value.int .i64 m2, .int .i64 b, .string t] 48)) 0
      rw [World.size_alloc] at this
      exact this
    have hz : w.heap.size + 1 < w1.heap.size := by have := hb1.size; simp only [World.size_alloc] at this; omega
    have hA : w1.heap[w.heap.size]? = some (.cells #[Value.int .i64 m1, .int .i64 a, .string s] 48 (0, 0)) := by
      rw [hb1.block _ (by simp only [World.size_alloc]; omega)]
      exact blk_alloc (blk_new w _) _
    have hB : w1.heap[w.heap.size + 1]? = some (.cells #[Value.int .i64 m2, .int .i64 b, .string t] 48 (0, 0)) := by
      rw [hb1.block _ (by simp only [World.size_alloc]; omega)]
      have := blk_new (w.alloc (.cells #[Value.int .i64 m1, .int .i64 a, .string s] 48)) (.cells #[Value.int .i64 m2, .int .i64 b, .string t] 48)
      rw [World.size_alloc] at this
      exact this
    have H1 := Aside0.mk (And.intro hA (And.intro hB ((below_alloc (below_alloc (Below.refl w.heap.size w) (.cells #[Value.int .i64 m1, .int .i64 a, .string s] 48)) (.cells #[Value.int .i64 m2, .int .i64 b, .string t] 48)).trans (hb1.mono (by simp only [World.size_alloc]; omega)))))
    clear hb1 cA cB hA hB
    go_wp2_with fail
    try simp only [hE]
    have hSt : St a b s t #[.slice none 0 0, .slice none 0 0, .slice none 0 0, .int .i64 0, .int .i64 E, .slice none 0 0, .slice (some ⟨w1.heap.size, 0, none⟩) 2 2] w ((((w1.setCell ⟨w.heap.size, 0, none⟩ (.int .i64 1)).setCell ⟨w.heap.size + 1, 0, none⟩ (.int .i64 1)).alloc (.cells #[.int .i64 1, .int .i64 a, .string s, .int .i64 1, .int .i64 b, .string t] 48)).alloc
        (.cells #[.slice none 0 0, .slice none 0 0, .slice none 0 0, .int .i64 0, .int .i64 E, .slice none 0 0, .slice (some ⟨w1.heap.size, 0, none⟩) 2 2] 38)) w1.heap.size := by
      have z1 := blk_far (blk_set H1.out.1 0 (.int .i64 1)) (p := ⟨w.heap.size + 1, 0, none⟩) (by simp) (.int .i64 1)
      have z2 := blk_set (blk_far H1.out.2.1 (p := ⟨w.heap.size, 0, none⟩) (by simp) (.int .i64 1)) 0 (.int .i64 1)
      refine ⟨blk_alloc (blk_alloc z1 _) _, blk_alloc (blk_alloc z2 _) _, ?_, ?_, ?_⟩
      · have := blk_new ((w1.setCell ⟨w.heap.size, 0, none⟩ (.int .i64 1)).setCell ⟨w.heap.size + 1, 0, none⟩ (.int .i64 1)) (.cells #[.int .i64 1, .int .i64 a, .string s, .int .i64 1, .int .i64 b, .string t] 48)
        rw [World.size_setCell, World.size_setCell] at this
        exact blk_alloc this _
      · have := blk_new (((w1.setCell ⟨w.heap.size, 0, none⟩ (.int .i64 1)).setCell ⟨w.heap.size + 1, 0, none⟩ (.int .i64 1)).alloc (.cells #[.int .i64 1, .int .i64 a, .string s, .int .i64 1, .int .i64 b, .string t] 48)) (.cells #[.slice none 0 0, .slice none 0 0, .slice none 0 0, .int .i64 0, .int .i64 E, .slice none 0 0, .slice (some ⟨w1.heap.size, 0, none⟩) 2 2] 38)
        rw [World.size_alloc, World.size_setCell, World.size_setCell] at this
        exact this
      · exact below_alloc (below_alloc ((H1.out.2.2.setCell (p := ⟨w.heap.size, 0, none⟩) (Nat.le_refl _) _).setCell (p := ⟨w.heap.size + 1, 0, none⟩) (Nat.le_succ _) _) _) _
    have hp : w.heap.size + 1 < w1.heap.size := hz
    clear a0 a1 a2 b0 b1 b2 f0 f1 H1 hz hE h0
    refine (New (.slice none 0 0) (.slice none 0 0) (.slice none 0 0) (.slice none 0 0) 0 E 1 _ _ 2 2 _ rfl (by omega) hSt.cells).mono ?_
    rintro e1 w2 ⟨rfl, hb2⟩
    have h2 := hSt.below hb2
    clear hSt hb2
    generalize w1.heap.size = q at *
    clear w1
    have hnw : news 1 (if (1 : Int) = 0 then 0 else (E : Int)) [(1, a, s), (1, b, t)] = strOfNums (newM 1 E [(1, a, s), (1, b, t)]) := by
      have e1 : (if (1 : Int) = 0 then (0 : Int) else (E : Int)) = E := if_neg (by decide)
      rw [e1]
      unfold news
      rw [if_pos (show memOk 1 E = true from decide_eq_true ⟨.inr rfl, by omega, by omega⟩)]
    rw [hnw]
    clear hnw
    have x0 := blk_cell h2.box 0
    have x1 := blk_cell h2.box 1
    have x2 := blk_cell h2.box 2
    have x3 := blk_cell h2.box 3
    have x4 := blk_cell h2.box 4
    have x5 := blk_cell h2.box 5
    have x6 := blk_cell h2.box 6
    simp at x0 x1 x2 x3 x4 x5 x6
    have H2 := Aside0.mk h2
    clear h2
    obtain ⟨N, hN⟩ : ∃ N : Nat, 2 ^ E = N := ⟨_, rfl⟩
    have hNw : wrap64 ((2 : Int) ^ E) = (N : Int) := by
      have h4 := le_4096 E hE2
      rw [show ((2 : Int) ^ E) = ((2 ^ E : Nat) : Int) by simp]
      rw [hN] at h4 ⊢
      unfold wrap64
      omega
    have hN2 : N ≤ 4096 := by rw [← hN]; exact le_4096 E hE2
    have hat : ∀ i : Nat, i < N → (newM 1 E [(1, a, s), (1, b, t)]).getD i 0 = if 0 ≤ b ∧ b ≤ i ∧ i - b < t.size then (bl t).getD (i - b).toNat 0 else if 0 ≤ a ∧ a ≤ i ∧ i - a < s.size then (bl s).getD (i - a).toNat 0 else 0 := fun i hi => data_at E a b s t i (by rw [hN]; exact hi)
    have hlen : (strOfNums (newM 1 E [(1, a, s), (1, b, t)])).size = N := by rw [← bl_length, news_bl, newM_length, hN]
    have hbl := news_bl 1 E [(1, a, s), (1, b, t)]
    generalize newM 1 E [(1, a, s), (1, b, t)] = xs at *
    generalize strOfNums xs = S at *
    have HX := Aside0.mk (And.intro hat (And.intro hbl hN))
    clear hat hbl hN he ha hb
    go_wp2_with fail
    refine (New (.slice none 0 0) (.slice none 0 0) (.slice none 0 0) (.slice none 0 0) 0 E 0 _ _ 2 2 _ rfl (by omega) H2.out.cells).mono ?_
    rintro e1 w3 ⟨rfl, hb3⟩
    have h3 := H2.out.below hb3
    clear H2 hb3 x0 x1 x2 x3 x4 x5 x6
    have hno : news 0 (if (0 : Int) = 0 then 0 else (E : Int)) [(1, a, s), (1, b, t)] = ⟨#[]⟩ := by
      rw [if_pos rfl]
      unfold news
      rw [if_neg (by decide)]
    rw [hno]
    clear hno w2
    have a1 := blk_cell h3.da 1
    have a2 := blk_cell h3.da 2
    have b1 := blk_cell h3.db 1
    have b2 := blk_cell h3.db 2
    simp at a1 a2 b1 b2
    have H3 := Aside0.mk h3.all
    clear h3
    go_wp2_with fail
    go_loop [10] (fun i => ∃ k : Nat, k ≤ N ∧ i = .int .i64 k) (fun i => N - (intOf i).toNat)
    case atStart => exact ⟨0, Nat.zero_le _, rfl⟩
    case round =>
      obtain ⟨k, hk, rfl⟩ := hrel
      by_cases hlt : k < N
      · have sp : ∀ (c : Int) (n : Nat), c < 0 ∨ (0 ≤ c ∧ (k : Int) < c) ∨ (0 ≤ c ∧ c ≤ k ∧ (n : Int) ≤ k - c) ∨ (0 ≤ c ∧ c ≤ k ∧ (k : Int) - c < n) := by omega
        have hv := HX.out.1 k hlt
        have hS := fun W => idx_bl S k k rfl (by omega) W
        rw [HX.out.2.1] at hS
        have hsa := sp a s.size
        have hsb := sp b t.size
        clear sp
        rcases hsa with hsa | hsa | hsa | hsa <;> rcases hsb with hsb | hsb | hsb | hsb
        all_goals
          first
            | rw [if_pos (show 0 ≤ b ∧ b ≤ k ∧ (k : Int) - b < t.size by omega)] at hv
            | (rw [if_neg (show ¬(0 ≤ b ∧ b ≤ k ∧ (k : Int) - b < t.size) by omega)] at hv
               first
                 | rw [if_pos (show 0 ≤ a ∧ a ≤ k ∧ (k : Int) - a < s.size by omega)] at hv
                 | rw [if_neg (show ¬(0 ≤ a ∧ a ≤ k ∧ (k : Int) - a < s.size) by omega)] at hv)
          rw [hv] at hS
          clear hv
          try have hT := fun W => idx_bl t ((k : Int) - b).toNat ((k : Int) - b) (by omega) (by omega) W
          try have hU := fun W => idx_bl s ((k : Int) - a).toNat ((k : Int) - a) (by omega) (by omega) W
          try generalize (bl t).getD ((k : Int) - b).toNat 0 = vt at *
          try generalize (bl s).getD ((k : Int) - a).toNat 0 = vs at *
          go_wp2
          exact ⟨⟨k + 1, hlt, rfl⟩, by simp [intOf]; omega⟩
      · obtain rfl : k = N := by omega
        go_wp2
        go_ret
        exact ⟨rfl, H3.out⟩
theorem Data2 (e m1 a : Int) (s : ByteArray) (m2 b : Int) (t : ByteArray) (w : World) (he : -9223372036854775808 ≤ e ∧ e ≤ 9223372036854775807) (ha : -9223372036854775808 ≤ a ∧ a ≤ 9223372036854775807) (hs : s.size ≤ 9223372036854775807) (hb : -9223372036854775808 ≤ b ∧ b ≤ 9223372036854775807) (ht : t.size ≤ 9223372036854775807) :
    Calls Try.prog 11 #[.int .i64 e, .agg #[.int .i64 m1, .int .i64 a, .string s], .agg #[.int .i64 m2, .int .i64 b, .string t]] w fun e w' => e = .returned (.bool true) ∧ Below w.heap.size w w' := Data e m1 a m2 b s t w he ha hb hs ht
end Go.Proofs.Ytiacmfgkbgfhkaa.Lin
