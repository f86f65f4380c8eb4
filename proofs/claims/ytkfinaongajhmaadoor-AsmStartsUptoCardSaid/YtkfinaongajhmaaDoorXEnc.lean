/- An instruction's bytes: what the parts come to. No condition. -/
import Derived.Test.YtkfinaongajhmaaDoorXRight
import Derived.Test.YtkfinaongajhmaaDoorXJoin
import Derived.Test.YtkfinaongajhmaaDoorXBack
namespace Go.Proofs.YtkfinaongajhmaaDoor.X
open Go.Ob Go.Ob.Xc Go.RowKit Go.Proofs.YtkfinaongajhmaaDoorW.PrintWords Go.Proofs.YtkfinaongajhmaaDoorW.PrintMore
set_option linter.unusedVariables false
set_option linter.unusedSimpArgs false
/-- the box of an instruction, as a function has made it, is untouched -/
def BX (x : XI) (w wr : World) : Prop := wr.heap[w.heap.size]? = some (xo x) ∧ Below w.heap.size w wr
abbrev SX (x : XI) (w wr : World) : Prop := wr.cell? ⟨w.heap.size, 0, none⟩ = some (.int .i64 x.op) ∧ wr.cell? ⟨w.heap.size, 1, none⟩ = some (.bool x.wide) ∧ wr.cell? ⟨w.heap.size, 2, none⟩ = some (.int .i64 x.r) ∧ wr.cell? ⟨w.heap.size, 3, none⟩ = some (.int .i64 x.b) ∧
  wr.cell? ⟨w.heap.size, 4, none⟩ = some (.int .i64 x.i) ∧ wr.cell? ⟨w.heap.size, 5, none⟩ = some (.int .i64 x.c) ∧ wr.cell? ⟨w.heap.size, 6, none⟩ = some (.int .i64 x.n) ∧ BX x w wr
theorem BX.cells {x : XI} {w wr : World} (h : BX x w wr) : SX x w wr :=
  ⟨blk_cell h.1 0, blk_cell h.1 1, blk_cell h.1 2, blk_cell h.1 3, blk_cell h.1 4, blk_cell h.1 5, blk_cell h.1 6, h⟩
theorem BX.drew {x : XI} {w wr : World} (h : BX x w wr) : BX x w wr.drew := ⟨blk_drew h.1, below_drew h.2⟩
theorem BX.alloc {x : XI} {w wr : World} (h : BX x w wr) (o : Obj) : BX x w (wr.alloc o) := ⟨blk_alloc h.1 o, below_alloc h.2 o⟩
theorem BX.below {x : XI} {w wr w' : World} (h : BX x w wr) (hb : Below wr.heap.size wr w') : BX x w w' := ⟨blk_below h.1 hb, h.2.trans (hb.mono h.2.size)⟩
theorem SX.all {x : XI} {w wr : World} (h : SX x w wr) : Below w.heap.size w wr := h.2.2.2.2.2.2.2.2
theorem or_c1 (c : Int) (h0 : 0 ≤ c) (h1 : c ≤ 15) : Go.bits .or .i64 (c * 8) 1 = 8 * c + 1 := by
  have H : ∀ c : Fin 16, Go.bits .or .i64 ((c.val : Int) * 8) 1 = 8 * (c.val : Int) + 1 := by decide +kernel
  have h := H ⟨c.toNat, by omega⟩
  simp only [Int.toNat_of_nonneg h0] at h
  exact h
theorem or_hi (a c : Int) (ha : a = 64 ∨ a = 128 ∨ a = 144) (h0 : 0 ≤ c) (h1 : c ≤ 15) : Go.bits .or .i64 a c = a + c := by
  have H : ∀ c : Fin 16, Go.bits .or .i64 64 (c.val : Int) = 64 + (c.val : Int) ∧ Go.bits .or .i64 128 (c.val : Int) = 128 + (c.val : Int) ∧ Go.bits .or .i64 144 (c.val : Int) = 144 + (c.val : Int) := by decide +kernel
  have h := H ⟨c.toNat, by omega⟩
  simp only [Int.toNat_of_nonneg h0] at h
  rcases ha with rfl | rfl | rfl
  · exact h.1
  · exact h.2.1
  · exact h.2.2
theorem or_184 (r : Int) : Go.bits .or .i64 184 (Go.bits .and .i64 r 7) = 184 + r % 8 := by
  have hr := and_mask r 3 (by decide)
  rw [show ((2 : Int) ^ 3 - 1) = 7 by decide, show ((2 : Int) ^ 3) = 8 by decide] at hr
  rw [hr]
  have H : ∀ c : Fin 8, Go.bits .or .i64 184 (c.val : Int) = 184 + (c.val : Int) := by decide +kernel
  have h := H ⟨(r % 8).toNat, by omega⟩
  simp only [Int.toNat_of_nonneg (show 0 ≤ r % 8 by omega)] at h
  exact h
theorem str_append (l m : List Int) : strOfNums (l ++ m) = strOfNums l ++ strOfNums m := by
  simp only [strOfNums, List.map_append]
  rfl
theorem jn_cons (x : Int) (l : List Int) (h0 : 0 ≤ x) (h1 : x < 256) : jn (x :: l) = x :: jn l := by
  simp only [jn, List.filter_cons, decide_eq_true h0, if_true, List.map_cons]
  congr 1
  omega
theorem jn_nil : jn [] = [] := rfl
theorem jn_rex (w : Bool) (r i b : Int) (l : List Int) (hr : 0 ≤ r ∧ r ≤ 15) (hi : 0 ≤ i ∧ i ≤ 15) (hb : 0 ≤ b ∧ b ≤ 15) : jn (rexI w r i b :: l) = rexL w r i b ++ jn l := by
  unfold rexI rexL
  have h : 64 ≤ rexN w r i b ∧ rexN w r i b ≤ 79 := by unfold rexN; cases w <;> simp <;> omega
  split
  · simp [jn]
  · rw [jn_cons _ _ (by omega) (by omega)]
    rfl
theorem mr_bd (m r b : Int) (hm : 0 ≤ m ∧ m ≤ 3) : 0 ≤ mr m r b ∧ mr m r b < 256 := by unfold mr; omega
theorem right_regs {x : XI} (h : right x = true) : (0 ≤ x.r ∧ x.r ≤ 15) ∧ (0 ≤ x.b ∧ x.b ≤ 15) := by
  rcases right_cases h with ⟨_, hr, hb, _⟩ | ⟨_, hr, hb, _⟩ | ⟨_, hr, _, hb, _⟩ | ⟨_, hb, _, _, hr, _⟩ | ⟨_, hr, hb, _⟩ | ⟨_, hb, _, hr, _⟩ | ⟨_, hb, hr, _⟩ | ⟨_, hr, hb, _⟩ | ⟨_, hr, hb, _⟩ | ⟨_, hr, hb, _⟩ | ⟨_, _, _, _, hr, hb, _⟩ | ⟨_, _, _, hr, hb, _⟩ | ⟨_, _, _, hr, hb, _⟩ | ⟨_, _, hr, hb, _⟩
  all_goals
    refine ⟨?_, ?_⟩
    all_goals first | exact reg_iff.mp (by assumption) | omega
theorem JoinAt (L : List Int) (k : Nat) (hk : L.length = k) (hm : k ≤ 100) (W V : World) (hb : Below W.heap.size W V) (hr : ReadsInt V .i64 (some ⟨W.heap.size, 0, none⟩) k L) :
    Calls Tryd.prog 34 #[.slice (some ⟨W.heap.size, 0, none⟩) k k] V fun e w' => e = .returned (.string (strOfNums (jn L))) ∧ Below W.heap.size W w' :=
  (Join L _ k k V hr hk hm).mono fun e w' ⟨h1, h2⟩ => ⟨h1, hb.trans (h2.mono hb.size)⟩
theorem J1 (a : Int) (W : World) : Calls Tryd.prog 34 #[.slice (some ⟨W.heap.size, 0, none⟩) 1 1] (W.alloc (.cells #[.int .i64 a] 3)) fun e w' => e = .returned (.string (strOfNums (jn [a]))) ∧ Below W.heap.size W w' :=
  JoinAt [a] 1 rfl (by decide) W _ (below_alloc (Below.refl _ _) _) (reads_new W [a] 1 rfl (by decide))
theorem J2 (a b : Int) (W : World) : Calls Tryd.prog 34 #[.slice (some ⟨W.heap.size, 0, none⟩) 2 2] (W.alloc (.cells #[.int .i64 a, .int .i64 b] 3)) fun e w' => e = .returned (.string (strOfNums (jn [a, b]))) ∧ Below W.heap.size W w' :=
  JoinAt [a, b] 2 rfl (by decide) W _ (below_alloc (Below.refl _ _) _) (reads_new W [a, b] 2 rfl (by decide))
theorem J3 (a b c : Int) (W : World) : Calls Tryd.prog 34 #[.slice (some ⟨W.heap.size, 0, none⟩) 3 3] (W.alloc (.cells #[.int .i64 a, .int .i64 b, .int .i64 c] 3)) fun e w' => e = .returned (.string (strOfNums (jn [a, b, c]))) ∧ Below W.heap.size W w' :=
  JoinAt [a, b, c] 3 rfl (by decide) W _ (below_alloc (Below.refl _ _) _) (reads_new W [a, b, c] 3 rfl (by decide))
theorem J4 (a b c d : Int) (W : World) : Calls Tryd.prog 34 #[.slice (some ⟨W.heap.size, 0, none⟩) 4 4] (W.alloc (.cells #[.int .i64 a, .int .i64 b, .int .i64 c, .int .i64 d] 3)) fun e w' => e = .returned (.string (strOfNums (jn [a, b, c, d]))) ∧ Below W.heap.size W w' :=
  JoinAt [a, b, c, d] 4 rfl (by decide) W _ (below_alloc (Below.refl _ _) _) (reads_new W [a, b, c, d] 4 rfl (by decide))
theorem J1d (a : Int) (W : World) : Calls Tryd.prog 34 #[.slice (some ⟨W.heap.size, 0, none⟩) 1 1] (W.alloc (.cells #[.int .i64 a] 3)).drew fun e w' => e = .returned (.string (strOfNums (jn [a]))) ∧ Below W.heap.size W w' :=
  JoinAt [a] 1 rfl (by decide) W _ (below_drew (below_alloc (Below.refl _ _) _)) ((reads_new W [a] 1 rfl (by decide)).drewN 1)
theorem J2d (a b : Int) (W : World) : Calls Tryd.prog 34 #[.slice (some ⟨W.heap.size, 0, none⟩) 2 2] (W.alloc (.cells #[.int .i64 a, .int .i64 b] 3)).drew fun e w' => e = .returned (.string (strOfNums (jn [a, b]))) ∧ Below W.heap.size W w' :=
  JoinAt [a, b] 2 rfl (by decide) W _ (below_drew (below_alloc (Below.refl _ _) _)) ((reads_new W [a, b] 2 rfl (by decide)).drewN 1)
theorem J3d (a b c : Int) (W : World) : Calls Tryd.prog 34 #[.slice (some ⟨W.heap.size, 0, none⟩) 3 3] (W.alloc (.cells #[.int .i64 a, .int .i64 b, .int .i64 c] 3)).drew fun e w' => e = .returned (.string (strOfNums (jn [a, b, c]))) ∧ Below W.heap.size W w' :=
  JoinAt [a, b, c] 3 rfl (by decide) W _ (below_drew (below_alloc (Below.refl _ _) _)) ((reads_new W [a, b, c] 3 rfl (by decide)).drewN 1)
theorem J4d (a b c d : Int) (W : World) : Calls Tryd.prog 34 #[.slice (some ⟨W.heap.size, 0, none⟩) 4 4] (W.alloc (.cells #[.int .i64 a, .int .i64 b, .int .i64 c, .int .i64 d] 3)).drew fun e w' => e = .returned (.string (strOfNums (jn [a, b, c, d]))) ∧ Below W.heap.size W w' :=
  JoinAt [a, b, c, d] 4 rfl (by decide) W _ (below_drew (below_alloc (Below.refl _ _) _)) ((reads_new W [a, b, c, d] 4 rfl (by decide)).drewN 1)
/-- what an instruction has -/
theorem alu_of {c : Int} (h : alu c = true) : 0 ≤ c ∧ c ≤ 7 := by have := alu_iff.mp h; omega
theorem cnd_of {c : Int} (h : cnd c = true) : 0 ≤ c ∧ c ≤ 15 := by have := cnd_iff.mp h; omega
theorem shf_of {c : Int} (h : shf c = true) : 0 ≤ c ∧ c ≤ 7 := by have := shf_iff.mp h; omega
theorem jn_1 (wd : Bool) (r : Int) (b : Int) (h : right ⟨1, wd, r, b, 0, 0, 0⟩ = true) : jn [rexI wd r 0 b, 137, mr 3 r b] = enc ⟨1, wd, r, b, 0, 0, 0⟩ := by
  obtain ⟨hr, hb⟩ := right_regs h
  dsimp only at hr hb
  rw [jn_rex _ _ _ _ _ (by omega) (by omega) (by omega), jn_cons _ _ (by omega) (by omega), jn_cons _ _ (mr_bd _ _ _ (by decide)).1 (mr_bd _ _ _ (by decide)).2, jn_nil]
  show _ = _
  simp [enc]
theorem jn_2 (r : Int) (n : Int) (h : right ⟨2, true, r, 0, 0, 0, n⟩ = true) : jn [rexI true 0 0 r, 184 + r % 8] ++ le8 n = enc ⟨2, true, r, 0, 0, 0, n⟩ := by
  obtain ⟨hr, hb⟩ := right_regs h
  dsimp only at hr hb
  rw [jn_rex _ _ _ _ _ (by omega) (by omega) (by omega), jn_cons _ _ (by omega) (by omega), jn_nil]
  show _ = _
  simp [enc]
theorem jn_3 (wd : Bool) (r : Int) (b : Int) (c : Int) (h : right ⟨3, wd, r, b, 0, c, 0⟩ = true) : jn [rexI wd r 0 b, 8 * c + 1, mr 3 r b] = enc ⟨3, wd, r, b, 0, c, 0⟩ := by
  obtain ⟨hr, hb⟩ := right_regs h
  dsimp only at hr hb
  have hc : 0 ≤ c ∧ c ≤ 15 := by
    have := right_cases h
    dsimp only at this
    rcases this with ⟨h0, h1⟩ | ⟨h0, h1⟩ | ⟨h0, h1⟩ | ⟨h0, h1⟩ | ⟨h0, h1⟩ | ⟨h0, h1⟩ | ⟨h0, h1⟩ | ⟨h0, h1⟩ | ⟨h0, h1⟩ | ⟨h0, h1⟩ | ⟨h0, h1⟩ | ⟨h0, h1⟩ | ⟨h0, h1⟩ | ⟨h0, h1⟩
    all_goals first | omega | (have := alu_of h1.2.1; omega) | (have := alu_of h1.2.2.1; omega) | (have := shf_of h1.2.1; omega) | (have := cnd_of h1.2.2.1; omega) | (have := cnd_of h1.1; omega)
  rw [jn_rex _ _ _ _ _ (by omega) (by omega) (by omega), jn_cons _ _ (by omega) (by omega), jn_cons _ _ (mr_bd _ _ _ (by decide)).1 (mr_bd _ _ _ (by decide)).2, jn_nil]
  show _ = _
  simp [enc]
theorem jn_4 (wd : Bool) (b : Int) (c : Int) (n : Int) (h : right ⟨4, wd, 0, b, 0, c, n⟩ = true) : jn [rexI wd 0 0 b, 129, mr 3 c b] ++ le4 n = enc ⟨4, wd, 0, b, 0, c, n⟩ := by
  obtain ⟨hr, hb⟩ := right_regs h
  dsimp only at hr hb
  have hc : 0 ≤ c ∧ c ≤ 15 := by
    have := right_cases h
    dsimp only at this
    rcases this with ⟨h0, h1⟩ | ⟨h0, h1⟩ | ⟨h0, h1⟩ | ⟨h0, h1⟩ | ⟨h0, h1⟩ | ⟨h0, h1⟩ | ⟨h0, h1⟩ | ⟨h0, h1⟩ | ⟨h0, h1⟩ | ⟨h0, h1⟩ | ⟨h0, h1⟩ | ⟨h0, h1⟩ | ⟨h0, h1⟩ | ⟨h0, h1⟩
    all_goals first | omega | (have := alu_of h1.2.1; omega) | (have := alu_of h1.2.2.1; omega) | (have := shf_of h1.2.1; omega) | (have := cnd_of h1.2.2.1; omega) | (have := cnd_of h1.1; omega)
  rw [jn_rex _ _ _ _ _ (by omega) (by omega) (by omega), jn_cons _ _ (by omega) (by omega), jn_cons _ _ (mr_bd _ _ _ (by decide)).1 (mr_bd _ _ _ (by decide)).2, jn_nil]
  show _ = _
  simp [enc]
theorem jn_5 (wd : Bool) (r : Int) (b : Int) (h : right ⟨5, wd, r, b, 0, 0, 0⟩ = true) : jn [rexI wd r 0 b, 133, mr 3 r b] = enc ⟨5, wd, r, b, 0, 0, 0⟩ := by
  obtain ⟨hr, hb⟩ := right_regs h
  dsimp only at hr hb
  rw [jn_rex _ _ _ _ _ (by omega) (by omega) (by omega), jn_cons _ _ (by omega) (by omega), jn_cons _ _ (mr_bd _ _ _ (by decide)).1 (mr_bd _ _ _ (by decide)).2, jn_nil]
  show _ = _
  simp [enc]
theorem jn_6 (wd : Bool) (r : Int) (b : Int) (h : right ⟨6, wd, r, b, 0, 0, 0⟩ = true) : jn [rexI wd r 0 b, 15, 175, mr 3 r b] = enc ⟨6, wd, r, b, 0, 0, 0⟩ := by
  obtain ⟨hr, hb⟩ := right_regs h
  dsimp only at hr hb
  rw [jn_rex _ _ _ _ _ (by omega) (by omega) (by omega), jn_cons _ _ (by omega) (by omega), jn_cons _ _ (by omega) (by omega), jn_cons _ _ (mr_bd _ _ _ (by decide)).1 (mr_bd _ _ _ (by decide)).2, jn_nil]
  show _ = _
  simp [enc]
theorem jn_7 (wd : Bool) (b : Int) (c : Int) (h : right ⟨7, wd, 0, b, 0, c, 0⟩ = true) : jn [rexI wd 0 0 b, 211, mr 3 c b] = enc ⟨7, wd, 0, b, 0, c, 0⟩ := by
  obtain ⟨hr, hb⟩ := right_regs h
  dsimp only at hr hb
  have hc : 0 ≤ c ∧ c ≤ 15 := by
    have := right_cases h
    dsimp only at this
    rcases this with ⟨h0, h1⟩ | ⟨h0, h1⟩ | ⟨h0, h1⟩ | ⟨h0, h1⟩ | ⟨h0, h1⟩ | ⟨h0, h1⟩ | ⟨h0, h1⟩ | ⟨h0, h1⟩ | ⟨h0, h1⟩ | ⟨h0, h1⟩ | ⟨h0, h1⟩ | ⟨h0, h1⟩ | ⟨h0, h1⟩ | ⟨h0, h1⟩
    all_goals first | omega | (have := alu_of h1.2.1; omega) | (have := alu_of h1.2.2.1; omega) | (have := shf_of h1.2.1; omega) | (have := cnd_of h1.2.2.1; omega) | (have := cnd_of h1.1; omega)
  rw [jn_rex _ _ _ _ _ (by omega) (by omega) (by omega), jn_cons _ _ (by omega) (by omega), jn_cons _ _ (mr_bd _ _ _ (by decide)).1 (mr_bd _ _ _ (by decide)).2, jn_nil]
  show _ = _
  simp [enc]
theorem jn_8 (wd : Bool) (b : Int) (h : right ⟨8, wd, 0, b, 0, 0, 0⟩ = true) : jn [rexI wd 0 0 b, 247, mr 3 6 b] = enc ⟨8, wd, 0, b, 0, 0, 0⟩ := by
  obtain ⟨hr, hb⟩ := right_regs h
  dsimp only at hr hb
  rw [jn_rex _ _ _ _ _ (by omega) (by omega) (by omega), jn_cons _ _ (by omega) (by omega), jn_cons _ _ (mr_bd _ _ _ (by decide)).1 (mr_bd _ _ _ (by decide)).2, jn_nil]
  show _ = _
  simp [enc]
theorem jn_9 (wd : Bool) (b : Int) (h : right ⟨9, wd, 0, b, 0, 0, 0⟩ = true) : jn [rexI wd 0 0 b, 247, mr 3 7 b] = enc ⟨9, wd, 0, b, 0, 0, 0⟩ := by
  obtain ⟨hr, hb⟩ := right_regs h
  dsimp only at hr hb
  rw [jn_rex _ _ _ _ _ (by omega) (by omega) (by omega), jn_cons _ _ (by omega) (by omega), jn_cons _ _ (mr_bd _ _ _ (by decide)).1 (mr_bd _ _ _ (by decide)).2, jn_nil]
  show _ = _
  simp [enc]
theorem jn_10 (wd : Bool) (h : right ⟨10, wd, 0, 0, 0, 0, 0⟩ = true) : jn [rexI wd 0 0 0, 153] = enc ⟨10, wd, 0, 0, 0, 0, 0⟩ := by
  obtain ⟨hr, hb⟩ := right_regs h
  dsimp only at hr hb
  rw [jn_rex _ _ _ _ _ (by omega) (by omega) (by omega), jn_cons _ _ (by omega) (by omega), jn_nil]
  show _ = _
  simp [enc]
theorem jn_11 (wd : Bool) (r : Int) (b : Int) (i : Int) (n : Int) (h : right ⟨11, wd, r, b, i, 0, n⟩ = true) : jn [rexI wd r (ix i) b, 139, mr 2 r 4, mr 0 (ix i) b] ++ le4 n = enc ⟨11, wd, r, b, i, 0, n⟩ := by
  obtain ⟨hr, hb⟩ := right_regs h
  dsimp only at hr hb
  have hi : 0 ≤ ix i ∧ ix i ≤ 15 := by
    have := right_cases h
    dsimp only at this
    rcases this with ⟨h0, h1⟩ | ⟨h0, h1⟩ | ⟨h0, h1⟩ | ⟨h0, h1⟩ | ⟨h0, h1⟩ | ⟨h0, h1⟩ | ⟨h0, h1⟩ | ⟨h0, h1⟩ | ⟨h0, h1⟩ | ⟨h0, h1⟩ | ⟨h0, h1⟩ | ⟨h0, h1⟩ | ⟨h0, h1⟩ | ⟨h0, h1⟩
    all_goals first | omega | exact ix_bd h1.2.2.1
  rw [jn_rex _ _ _ _ _ (by omega) (by omega) (by omega), jn_cons _ _ (by omega) (by omega), jn_cons _ _ (mr_bd _ _ _ (by decide)).1 (mr_bd _ _ _ (by decide)).2, jn_cons _ _ (mr_bd _ _ _ (by decide)).1 (mr_bd _ _ _ (by decide)).2, jn_nil]
  show _ = _
  simp [enc]
theorem jn_12 (wd : Bool) (r : Int) (b : Int) (i : Int) (n : Int) (h : right ⟨12, wd, r, b, i, 0, n⟩ = true) : jn [rexI wd r (ix i) b, 137, mr 2 r 4, mr 0 (ix i) b] ++ le4 n = enc ⟨12, wd, r, b, i, 0, n⟩ := by
  obtain ⟨hr, hb⟩ := right_regs h
  dsimp only at hr hb
  have hi : 0 ≤ ix i ∧ ix i ≤ 15 := by
    have := right_cases h
    dsimp only at this
    rcases this with ⟨h0, h1⟩ | ⟨h0, h1⟩ | ⟨h0, h1⟩ | ⟨h0, h1⟩ | ⟨h0, h1⟩ | ⟨h0, h1⟩ | ⟨h0, h1⟩ | ⟨h0, h1⟩ | ⟨h0, h1⟩ | ⟨h0, h1⟩ | ⟨h0, h1⟩ | ⟨h0, h1⟩ | ⟨h0, h1⟩ | ⟨h0, h1⟩
    all_goals first | omega | exact ix_bd h1.2.2.1
  rw [jn_rex _ _ _ _ _ (by omega) (by omega) (by omega), jn_cons _ _ (by omega) (by omega), jn_cons _ _ (mr_bd _ _ _ (by decide)).1 (mr_bd _ _ _ (by decide)).2, jn_cons _ _ (mr_bd _ _ _ (by decide)).1 (mr_bd _ _ _ (by decide)).2, jn_nil]
  show _ = _
  simp [enc]
theorem jn_13 (c : Int) (h : right ⟨13, false, 0, 0, 0, c, 0⟩ = true) : jn [15, 144 + c, 192] = enc ⟨13, false, 0, 0, 0, c, 0⟩ := by
  obtain ⟨hr, hb⟩ := right_regs h
  dsimp only at hr hb
  have hc : 0 ≤ c ∧ c ≤ 15 := by
    have := right_cases h
    dsimp only at this
    rcases this with ⟨h0, h1⟩ | ⟨h0, h1⟩ | ⟨h0, h1⟩ | ⟨h0, h1⟩ | ⟨h0, h1⟩ | ⟨h0, h1⟩ | ⟨h0, h1⟩ | ⟨h0, h1⟩ | ⟨h0, h1⟩ | ⟨h0, h1⟩ | ⟨h0, h1⟩ | ⟨h0, h1⟩ | ⟨h0, h1⟩ | ⟨h0, h1⟩
    all_goals first | omega | (have := alu_of h1.2.1; omega) | (have := alu_of h1.2.2.1; omega) | (have := shf_of h1.2.1; omega) | (have := cnd_of h1.2.2.1; omega) | (have := cnd_of h1.1; omega)
  rw [jn_cons _ _ (by omega) (by omega), jn_cons _ _ (by omega) (by omega), jn_cons _ _ (by omega) (by omega), jn_nil]
  show _ = _
  simp [enc]
theorem jn_14  (h : right ⟨14, false, 0, 0, 0, 0, 0⟩ = true) : jn [15, 182, 192] = enc ⟨14, false, 0, 0, 0, 0, 0⟩ := by
  obtain ⟨hr, hb⟩ := right_regs h
  dsimp only at hr hb
  rw [jn_cons _ _ (by omega) (by omega), jn_cons _ _ (by omega) (by omega), jn_cons _ _ (by omega) (by omega), jn_nil]
  show _ = _
  simp [enc]
theorem jn_15 (wd : Bool) (r : Int) (b : Int) (c : Int) (h : right ⟨15, wd, r, b, 0, c, 0⟩ = true) : jn [rexI wd r 0 b, 15, 64 + c, mr 3 r b] = enc ⟨15, wd, r, b, 0, c, 0⟩ := by
  obtain ⟨hr, hb⟩ := right_regs h
  dsimp only at hr hb
  have hc : 0 ≤ c ∧ c ≤ 15 := by
    have := right_cases h
    dsimp only at this
    rcases this with ⟨h0, h1⟩ | ⟨h0, h1⟩ | ⟨h0, h1⟩ | ⟨h0, h1⟩ | ⟨h0, h1⟩ | ⟨h0, h1⟩ | ⟨h0, h1⟩ | ⟨h0, h1⟩ | ⟨h0, h1⟩ | ⟨h0, h1⟩ | ⟨h0, h1⟩ | ⟨h0, h1⟩ | ⟨h0, h1⟩ | ⟨h0, h1⟩
    all_goals first | omega | (have := alu_of h1.2.1; omega) | (have := alu_of h1.2.2.1; omega) | (have := shf_of h1.2.1; omega) | (have := cnd_of h1.2.2.1; omega) | (have := cnd_of h1.1; omega)
  rw [jn_rex _ _ _ _ _ (by omega) (by omega) (by omega), jn_cons _ _ (by omega) (by omega), jn_cons _ _ (by omega) (by omega), jn_cons _ _ (mr_bd _ _ _ (by decide)).1 (mr_bd _ _ _ (by decide)).2, jn_nil]
  show _ = _
  simp [enc]
theorem jn_16 (r : Int) (b : Int) (h : right ⟨16, true, r, b, 0, 0, 0⟩ = true) : jn [rexI true r 0 b, 99, mr 3 r b] = enc ⟨16, true, r, b, 0, 0, 0⟩ := by
  obtain ⟨hr, hb⟩ := right_regs h
  dsimp only at hr hb
  rw [jn_rex _ _ _ _ _ (by omega) (by omega) (by omega), jn_cons _ _ (by omega) (by omega), jn_cons _ _ (mr_bd _ _ _ (by decide)).1 (mr_bd _ _ _ (by decide)).2, jn_nil]
  show _ = _
  simp [enc]
theorem jn_17 (n : Int) (h : right ⟨17, false, 0, 0, 0, 0, n⟩ = true) : jn [233] ++ le4 n = enc ⟨17, false, 0, 0, 0, 0, n⟩ := by
  obtain ⟨hr, hb⟩ := right_regs h
  dsimp only at hr hb
  rw [jn_cons _ _ (by omega) (by omega), jn_nil]
  show _ = _
  simp [enc]
theorem jn_18 (c : Int) (n : Int) (h : right ⟨18, false, 0, 0, 0, c, n⟩ = true) : jn [15, 128 + c] ++ le4 n = enc ⟨18, false, 0, 0, 0, c, n⟩ := by
  obtain ⟨hr, hb⟩ := right_regs h
  dsimp only at hr hb
  have hc : 0 ≤ c ∧ c ≤ 15 := by
    have := right_cases h
    dsimp only at this
    rcases this with ⟨h0, h1⟩ | ⟨h0, h1⟩ | ⟨h0, h1⟩ | ⟨h0, h1⟩ | ⟨h0, h1⟩ | ⟨h0, h1⟩ | ⟨h0, h1⟩ | ⟨h0, h1⟩ | ⟨h0, h1⟩ | ⟨h0, h1⟩ | ⟨h0, h1⟩ | ⟨h0, h1⟩ | ⟨h0, h1⟩ | ⟨h0, h1⟩
    all_goals first | omega | (have := alu_of h1.2.1; omega) | (have := alu_of h1.2.2.1; omega) | (have := shf_of h1.2.1; omega) | (have := cnd_of h1.2.2.1; omega) | (have := cnd_of h1.1; omega)
  rw [jn_cons _ _ (by omega) (by omega), jn_cons _ _ (by omega) (by omega), jn_nil]
  show _ = _
  simp [enc]
theorem jn_19 (n : Int) (h : right ⟨19, false, 0, 0, 0, 0, n⟩ = true) : jn [232] ++ le4 n = enc ⟨19, false, 0, 0, 0, 0, n⟩ := by
  obtain ⟨hr, hb⟩ := right_regs h
  dsimp only at hr hb
  rw [jn_cons _ _ (by omega) (by omega), jn_nil]
  show _ = _
  simp [enc]
theorem jn_20  (h : right ⟨20, false, 0, 0, 0, 0, 0⟩ = true) : jn [195] = enc ⟨20, false, 0, 0, 0, 0, 0⟩ := by
  obtain ⟨hr, hb⟩ := right_regs h
  dsimp only at hr hb
  rw [jn_cons _ _ (by omega) (by omega), jn_nil]
  show _ = _
  simp [enc]
theorem jn_21  (h : right ⟨21, false, 0, 0, 0, 0, 0⟩ = true) : jn [244] = enc ⟨21, false, 0, 0, 0, 0, 0⟩ := by
  obtain ⟨hr, hb⟩ := right_regs h
  dsimp only at hr hb
  rw [jn_cons _ _ (by omega) (by omega), jn_nil]
  show _ = _
  simp [enc]
theorem jn_22  (h : right ⟨22, false, 0, 0, 0, 0, 0⟩ = true) : jn [15, 11] = enc ⟨22, false, 0, 0, 0, 0, 0⟩ := by
  obtain ⟨hr, hb⟩ := right_regs h
  dsimp only at hr hb
  rw [jn_cons _ _ (by omega) (by omega), jn_cons _ _ (by omega) (by omega), jn_nil]
  show _ = _
  simp [enc]
theorem jn_23  (h : right ⟨23, false, 0, 0, 0, 0, 0⟩ = true) : jn [204] = enc ⟨23, false, 0, 0, 0, 0, 0⟩ := by
  obtain ⟨hr, hb⟩ := right_regs h
  dsimp only at hr hb
  rw [jn_cons _ _ (by omega) (by omega), jn_nil]
  show _ = _
  simp [enc]
end Go.Proofs.YtkfinaongajhmaaDoor.X
