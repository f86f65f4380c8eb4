/- Two machines alike are the same: the reference's function. No condition but that their regions read as one list. -/
import Derived.Test.YtgaiehnbjggmdaaDoorFBox
import Derived.BigQuiet
namespace Go.Proofs.YtgaiehnbjggmdaaDoor.F
open Go.Ob Go.RowKit Go.Proofs.YtgaiehnbjggmdaaDoorW.PrintWords Go.Proofs.YtgaiehnbjggmdaaDoorW.PrintMore
set_option linter.unusedVariables false
set_option linter.unusedSimpArgs false
/-- a machine's registers, read whole -/
def regsAt (w : World) (v : Value) : Value := match atM w v with
  | .agg cs => .agg (cs.toList.take 16).toArray
  | _ => undef
/-- the load of the registers, not laid open in a walk -/
def loadRI (v : Value) : Sem Value := Instr.loadAt 22 v
theorem loadAt_regs (v : Value) : Instr.loadAt 22 v = loadRI v := rfl
theorem run_loadRI (v : Value) (w : World) (h : IsM w v) : (loadRI v).run Tryd.prog w = .ok (regsAt w v) w := by
  obtain ⟨g, cs, e, hg, hs⟩ := h
  have he : atM w v = .agg cs := by rw [e]; simp only [atM, hg]
  have hl : (loadCells ⟨g, 0, none⟩ (cs.toList.take 16).length).run Tryd.prog w = .ok (cs.toList.take 16).toArray w :=
    run_loadCells_list (P := Tryd.prog) w ⟨g, 0, none⟩ (cs.toList.take 16) (fun j v hv => by
      have hadd : (⟨g, 0, none⟩ : Addr).add j = ⟨g, j, none⟩ := by unfold Addr.add; split <;> simp_all
      rw [hadd, cell_of_row w g j cs 27 (0, 0) hg]
      rw [List.getElem?_take] at hv
      split at hv
      · simpa using hv
      · cases hv)
  rw [List.length_take, Array.length_toList, hs, show min 16 23 = 16 from rfl] at hl
  have hi : (Tryd.prog.info? 22).map (·.size) = some 16 := by kernel_rfl
  unfold regsAt
  rw [he, e]
  unfold loadRI
  cases hq : Tryd.prog.info? 22 with
  | none => simp [hq] at hi
  | some i =>
    have hz : i.size = 16 := by simpa [hq] using hi
    have hagg : (isAgg 22).run Tryd.prog w = .ok true w := by
      unfold isAgg
      rw [Sem.run_bind, run_underlying Tryd.underlying22 w]
      rfl
    have hr : (loadVar 22 ⟨g, 0, none⟩).run Tryd.prog w = .ok (.agg (cs.toList.take 16).toArray) w := by
      simp [loadVar, Sem.run_bind, hagg, sizeOf, typeInfo, hq, hz, hl]
    simp only [Instr.loadAt, Instr.sureAddr, Sem.run_bind, Sem.run_pure, Result.andThen_ok, hr]
theorem regsAt_of {w : World} {g : Nat} {cs : Array Value} (h : w.heap[g]? = some (.cells cs 27 (0, 0))) : regsAt w (.pointer (some ⟨g, 0, none⟩)) = .agg (cs.toList.take 16).toArray := by
  unfold regsAt
  rw [atM_of h]
set_option maxRecDepth 100000 in
theorem eq16 (r0 r1 r2 r3 r4 r5 r6 r7 r8 r9 r10 r11 r12 r13 r14 r15 : Int) (W : World) :
    (Op.equalIn 10000 22 (.agg #[.int .i64 r0, .int .i64 r1, .int .i64 r2, .int .i64 r3, .int .i64 r4, .int .i64 r5, .int .i64 r6, .int .i64 r7, .int .i64 r8, .int .i64 r9, .int .i64 r10, .int .i64 r11, .int .i64 r12, .int .i64 r13, .int .i64 r14, .int .i64 r15])
      (.agg #[.int .i64 r0, .int .i64 r1, .int .i64 r2, .int .i64 r3, .int .i64 r4, .int .i64 r5, .int .i64 r6, .int .i64 r7, .int .i64 r8, .int .i64 r9, .int .i64 r10, .int .i64 r11, .int .i64 r12, .int .i64 r13, .int .i64 r14, .int .i64 r15])).run Tryd.prog W = .ok true W := by
  obtain ⟨X, hX⟩ : ∃ X : Array Value, X = #[.int .i64 r0, .int .i64 r1, .int .i64 r2, .int .i64 r3, .int .i64 r4, .int .i64 r5, .int .i64 r6, .int .i64 r7, .int .i64 r8, .int .i64 r9, .int .i64 r10, .int .i64 r11, .int .i64 r12, .int .i64 r13, .int .i64 r14, .int .i64 r15] := ⟨_, rfl⟩
  rw [← hX]
  have hs : ∀ W, (sizeOf 3).run Tryd.prog W = .ok 1 W := fun W => by go_simp
  have hp : ∀ i, i < 16 → ∃ v : Int, ∀ W, (part 3 X i).run Tryd.prog W = .ok (.int .i64 v) W := by
    intro i hi
    subst hX
    rcases (show i = 0 ∨ i = 1 ∨ i = 2 ∨ i = 3 ∨ i = 4 ∨ i = 5 ∨ i = 6 ∨ i = 7 ∨ i = 8 ∨ i = 9 ∨ i = 10 ∨ i = 11 ∨ i = 12 ∨ i = 13 ∨ i = 14 ∨ i = 15 by omega) with rfl | rfl | rfl | rfl | rfl | rfl | rfl | rfl | rfl | rfl | rfl | rfl | rfl | rfl | rfl | rfl <;> exact ⟨_, fun W => by go_simp; rfl⟩
  have he : ∀ (x : Int) (W : World), (Op.equalIn 9999 3 (.int .i64 x) (.int .i64 x)).run Tryd.prog W = .ok true W := fun x W => by rw [show (9999 : Nat) = 9998 + 1 from rfl, run_equalIn_int (P := Tryd.prog) W 9998 3 .i64 .i64 x x Tryd.underlying3]; simp
  rw [Op.equalIn]
  simp only [Sem.run_bind, run_underlying Tryd.underlying22, Result.andThen_ok, hs]
  simp only [Std.Legacy.Range.forIn_eq_forIn_range']
  obtain ⟨v0, p0⟩ := hp 0 (by omega)
  obtain ⟨v1, p1⟩ := hp 1 (by omega)
  obtain ⟨v2, p2⟩ := hp 2 (by omega)
  obtain ⟨v3, p3⟩ := hp 3 (by omega)
  obtain ⟨v4, p4⟩ := hp 4 (by omega)
  obtain ⟨v5, p5⟩ := hp 5 (by omega)
  obtain ⟨v6, p6⟩ := hp 6 (by omega)
  obtain ⟨v7, p7⟩ := hp 7 (by omega)
  obtain ⟨v8, p8⟩ := hp 8 (by omega)
  obtain ⟨v9, p9⟩ := hp 9 (by omega)
  obtain ⟨v10, p10⟩ := hp 10 (by omega)
  obtain ⟨v11, p11⟩ := hp 11 (by omega)
  obtain ⟨v12, p12⟩ := hp 12 (by omega)
  obtain ⟨v13, p13⟩ := hp 13 (by omega)
  obtain ⟨v14, p14⟩ := hp 14 (by omega)
  obtain ⟨v15, p15⟩ := hp 15 (by omega)
  clear hp hX
  simp [List.range', he, p0, p1, p2, p3, p4, p5, p6, p7, p8, p9, p10, p11, p12, p13, p14, p15]
set_option maxRecDepth 100000 in
theorem eqFl (z s c o : Bool) (W : World) : (Op.equalIn 10000 24 (.agg #[.bool z, .bool s, .bool c, .bool o]) (.agg #[.bool z, .bool s, .bool c, .bool o])).run Tryd.prog W = .ok true W := by
  have h : (Op.equalIn 10000 24 (.agg #[.bool z, .bool s, .bool c, .bool o]) (.agg #[.bool z, .bool s, .bool c, .bool o])).run Tryd.prog W = .ok (z == z && (s == s && (c == c && o == o))) W := by
    refine eqA_of Tryd.underlying24 (by kernel_rfl) ?_
    refine eqf_cons (by rfl) (by go_simp; rfl) (by go_simp; rfl) (by go_simp) ?_
    refine eqf_cons (by rfl) (by go_simp; rfl) (by go_simp; rfl) (by go_simp) ?_
    refine eqf_cons (by rfl) (by go_simp; rfl) (by go_simp; rfl) (by go_simp) ?_
    exact eqf_last (by rfl) (by go_simp; rfl) (by go_simp; rfl) (by go_simp)
  rw [h]
  simp
set_option maxRecDepth 100000 in
theorem eqRg (a : Int) (s : ByteArray) (f : Bool) (W : World) : (Op.equalIn 10000 33 (.agg #[.int .i64 a, .string s, .bool f]) (.agg #[.int .i64 a, .string s, .bool f])).run Tryd.prog W = .ok true W := by
  have h : (Op.equalIn 10000 33 (.agg #[.int .i64 a, .string s, .bool f]) (.agg #[.int .i64 a, .string s, .bool f])).run Tryd.prog W = .ok (a == a && (s == s && f == f)) W := by
    refine eqA_of Tryd.underlying33 (by kernel_rfl) ?_
    refine eqf_cons (by rfl) (by go_simp; rfl) (by go_simp; rfl) (by go_simp) ?_
    refine eqf_cons (by rfl) (by go_simp; rfl) (by go_simp; rfl) (by rw [show (9999 : Nat) = 9998 + 1 from rfl, Op.equalIn]; simp [run_underlying Tryd.underlying9]) ?_
    exact eqf_last (by rfl) (by go_simp; rfl) (by go_simp; rfl) (by go_simp)
  rw [h]
  have hb : (s == s) = true := by rw [beq_toListBytes]; simp
  simp [hb]
theorem machCells {w : World} {g : Nat} {t : TypeId} {r0 r1 r2 r3 r4 r5 r6 r7 r8 r9 r10 r11 r12 r13 r14 r15 fz fs fc fo pc rg st : Value} (h : w.heap[g]? = some (.cells #[r0, r1, r2, r3, r4, r5, r6, r7, r8, r9, r10, r11, r12, r13, r14, r15, fz, fs, fc, fo, pc, rg, st] t (0, 0))) :
    w.cell? ⟨g, 0, none⟩ = some r0 ∧ w.cell? ⟨g, 1, none⟩ = some r1 ∧ w.cell? ⟨g, 2, none⟩ = some r2 ∧ w.cell? ⟨g, 3, none⟩ = some r3 ∧ w.cell? ⟨g, 4, none⟩ = some r4 ∧ w.cell? ⟨g, 5, none⟩ = some r5 ∧ w.cell? ⟨g, 6, none⟩ = some r6 ∧ w.cell? ⟨g, 7, none⟩ = some r7 ∧
    w.cell? ⟨g, 8, none⟩ = some r8 ∧ w.cell? ⟨g, 9, none⟩ = some r9 ∧ w.cell? ⟨g, 10, none⟩ = some r10 ∧ w.cell? ⟨g, 11, none⟩ = some r11 ∧ w.cell? ⟨g, 12, none⟩ = some r12 ∧ w.cell? ⟨g, 13, none⟩ = some r13 ∧ w.cell? ⟨g, 14, none⟩ = some r14 ∧ w.cell? ⟨g, 15, none⟩ = some r15 ∧
    w.cell? ⟨g, 16, none⟩ = some fz ∧ w.cell? ⟨g, 17, none⟩ = some fs ∧ w.cell? ⟨g, 18, none⟩ = some fc ∧ w.cell? ⟨g, 19, none⟩ = some fo ∧ w.cell? ⟨g, 20, none⟩ = some pc ∧ w.cell? ⟨g, 21, none⟩ = some rg ∧ w.cell? ⟨g, 22, none⟩ = some st :=
  ⟨blk_cell h 0, blk_cell h 1, blk_cell h 2, blk_cell h 3, blk_cell h 4, blk_cell h 5, blk_cell h 6, blk_cell h 7, blk_cell h 8, blk_cell h 9, blk_cell h 10, blk_cell h 11, blk_cell h 12, blk_cell h 13, blk_cell h 14, blk_cell h 15, blk_cell h 16, blk_cell h 17, blk_cell h 18, blk_cell h 19, blk_cell h 20, blk_cell h 21, blk_cell h 22⟩
attribute [local go_sem ↓] loadAt_regs
attribute [local go_sem] run_loadRI IsM_drew
set_option maxHeartbeats 16000000 in
set_option maxRecDepth 100000 in
theorem Same_yes (r0 r1 r2 r3 r4 r5 r6 r7 r8 r9 r10 r11 r12 r13 r14 r15 : Int) (fz fs fc fo : Bool) (pc st : Int) (A1 A2 : Option Addr) (m c1 c2 : Nat) (l : List R3) (w : World) (hm : l.length = m) (hm2 : m ≤ 9223372036854775807) (h1 : CellsR w A1 l) (h2 : CellsR w A2 l) :
    Calls Tryd.prog 39 #[mach (.int .i64 r0) (.int .i64 r1) (.int .i64 r2) (.int .i64 r3) (.int .i64 r4) (.int .i64 r5) (.int .i64 r6) (.int .i64 r7) (.int .i64 r8) (.int .i64 r9) (.int .i64 r10) (.int .i64 r11) (.int .i64 r12) (.int .i64 r13) (.int .i64 r14) (.int .i64 r15) (.bool fz) (.bool fs) (.bool fc) (.bool fo) (.int .i64 pc) (.slice A1 m c1) (.int .i64 st), mach (.int .i64 r0) (.int .i64 r1) (.int .i64 r2) (.int .i64 r3) (.int .i64 r4) (.int .i64 r5) (.int .i64 r6) (.int .i64 r7) (.int .i64 r8) (.int .i64 r9) (.int .i64 r10) (.int .i64 r11) (.int .i64 r12) (.int .i64 r13) (.int .i64 r14) (.int .i64 r15) (.bool fz) (.bool fs) (.bool fc) (.bool fo) (.int .i64 pc) (.slice A2 m c2) (.int .i64 st)] w fun e w' => e = .returned (.bool true) ∧ Below w.heap.size w w' := by
  obtain ⟨W2, hW2⟩ : ∃ W, (w.alloc (.cells #[.int .i64 r0, .int .i64 r1, .int .i64 r2, .int .i64 r3, .int .i64 r4, .int .i64 r5, .int .i64 r6, .int .i64 r7, .int .i64 r8, .int .i64 r9, .int .i64 r10, .int .i64 r11, .int .i64 r12, .int .i64 r13, .int .i64 r14, .int .i64 r15, .bool fz, .bool fs, .bool fc, .bool fo, .int .i64 pc, .slice A1 m c1, .int .i64 st] 27)).alloc (.cells #[.int .i64 r0, .int .i64 r1, .int .i64 r2, .int .i64 r3, .int .i64 r4, .int .i64 r5, .int .i64 r6, .int .i64 r7, .int .i64 r8, .int .i64 r9, .int .i64 r10, .int .i64 r11, .int .i64 r12, .int .i64 r13, .int .i64 r14, .int .i64 r15, .bool fz, .bool fs, .bool fc, .bool fo, .int .i64 pc, .slice A2 m c2, .int .i64 st] 27) = W := ⟨_, rfl⟩
  have b2 : Below w.heap.size w W2 := by rw [← hW2]; exact below_alloc (below_alloc (Below.refl _ _) _) _
  have z2 : W2.heap.size = w.heap.size + 1 + 1 := by rw [← hW2, World.size_alloc, World.size_alloc]
  have X1 : W2.heap[w.heap.size]? = some (.cells #[.int .i64 r0, .int .i64 r1, .int .i64 r2, .int .i64 r3, .int .i64 r4, .int .i64 r5, .int .i64 r6, .int .i64 r7, .int .i64 r8, .int .i64 r9, .int .i64 r10, .int .i64 r11, .int .i64 r12, .int .i64 r13, .int .i64 r14, .int .i64 r15, .bool fz, .bool fs, .bool fc, .bool fo, .int .i64 pc, .slice A1 m c1, .int .i64 st] 27 (0, 0)) := by rw [← hW2]; exact blk_alloc (blk_new w _) _
  have X2 : W2.heap[w.heap.size + 1]? = some (.cells #[.int .i64 r0, .int .i64 r1, .int .i64 r2, .int .i64 r3, .int .i64 r4, .int .i64 r5, .int .i64 r6, .int .i64 r7, .int .i64 r8, .int .i64 r9, .int .i64 r10, .int .i64 r11, .int .i64 r12, .int .i64 r13, .int .i64 r14, .int .i64 r15, .bool fz, .bool fs, .bool fc, .bool fo, .int .i64 pc, .slice A2 m c2, .int .i64 st] 27 (0, 0)) := by
    rw [← hW2]
    have := blk_new (w.alloc (.cells #[.int .i64 r0, .int .i64 r1, .int .i64 r2, .int .i64 r3, .int .i64 r4, .int .i64 r5, .int .i64 r6, .int .i64 r7, .int .i64 r8, .int .i64 r9, .int .i64 r10, .int .i64 r11, .int .i64 r12, .int .i64 r13, .int .i64 r14, .int .i64 r15, .bool fz, .bool fs, .bool fc, .bool fo, .int .i64 pc, .slice A1 m c1, .int .i64 st] 27)) (.cells #[.int .i64 r0, .int .i64 r1, .int .i64 r2, .int .i64 r3, .int .i64 r4, .int .i64 r5, .int .i64 r6, .int .i64 r7, .int .i64 r8, .int .i64 r9, .int .i64 r10, .int .i64 r11, .int .i64 r12, .int .i64 r13, .int .i64 r14, .int .i64 r15, .bool fz, .bool fs, .bool fc, .bool fo, .int .i64 pc, .slice A2 m c2, .int .i64 st] 27)
    rw [World.size_alloc] at this
    exact this
  have mk1 := isM_of X1 rfl
  have mk2 := isM_of X2 rfl
  have mk3 := regsAt_of X1
  have mk4 := regsAt_of X2
  simp only [List.take_succ_cons, List.take_zero] at mk3 mk4
  have q1 := fun W => eq16 r0 r1 r2 r3 r4 r5 r6 r7 r8 r9 r10 r11 r12 r13 r14 r15 W
  have q2 := fun W => eqFl fz fs fc fo W
  obtain ⟨_, _, _, _, _, _, _, _, _, _, _, _, _, _, _, _, x16, x17, x18, x19, x20, x21, x22⟩ := machCells X1
  obtain ⟨_, _, _, _, _, _, _, _, _, _, _, _, _, _, _, _, y16, y17, y18, y19, y20, y21, y22⟩ := machCells X2
  have HW := Aside0.mk hW2
  have H := Aside0.mk (And.intro b2 (And.intro z2 (And.intro X1 (And.intro X2 (And.intro (h1.below b2) (And.intro (h2.below b2) hm))))))
  clear hW2 b2 z2 X1 X2 h1 h2 hm
  go_enter Tryd.func39, Tryd.ntmps39
  go_upto_region 1 with fail
  rw [HW.out]
  clear HW
  go_wp2
  clear mk1 mk2 mk3 mk4 q1 q2 x16 x17 x18 x19 x20 x21 x22 y16 y17 y18 y19 y20 y21 y22
  go_loopw [5] (fun c wr => ∃ i : Nat, i ≤ m ∧ c = .int .i64 i ∧ Below W2.heap.size W2 wr) (fun c _ => m - (intOf c).toNat)
  case atStart => exact ⟨0, Nat.zero_le _, rfl, Below.refl _ _⟩
  case round =>
    obtain ⟨i, hi, rfl, hbw⟩ := hrel
    have HB := Aside0.mk hbw
    have x21 := blk_cell ((hbw.block w.heap.size (by rw [H.out.2.1]; omega)).trans H.out.2.2.1) 21
    have y21 := blk_cell ((hbw.block (w.heap.size + 1) (by rw [H.out.2.1]; omega)).trans H.out.2.2.2.1) 21
    simp at x21 y21
    clear hbw
    by_cases hlt : i < m
    · have hl : i < l.length := by rw [H.out.2.2.2.2.2.2]; exact hlt
      obtain ⟨a1, e1, _, c0, c1', c2'⟩ := (H.out.2.2.2.2.1.below HB.out) i hl
      obtain ⟨a2, e2, _, d0, d1, d2⟩ := (H.out.2.2.2.2.2.1.below HB.out) i hl
      generalize l[i] = r at *
      obtain ⟨ra, rs, rf⟩ := r
      dsimp only at c0 c1' c2' d0 d1 d2
      subst e1 e2
      have q3 := fun W => eqRg ra rs rf W
      clear hl
      go_wp2
      go_quiet (fail)
      go_wp2
      refine ⟨⟨i + 1, hlt, by simp, pw_below_drewN HB.out _⟩, by simp [intOf]; omega⟩
    · obtain rfl : i = m := by omega
      go_wp2
      go_ret
      exact ⟨rfl, H.out.1.trans (HB.out.mono H.out.1.size)⟩
end Go.Proofs.YtgaiehnbjggmdaaDoor.F
