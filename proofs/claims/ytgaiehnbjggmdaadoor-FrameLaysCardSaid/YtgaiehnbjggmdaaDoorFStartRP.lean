/- The regions of a machine that begins, changed in two places: plain. -/
import Derived.Test.YtgaiehnbjggmdaaDoorFRegsR
import Derived.Test.YtgaiehnbjggmdaaDoorFStarts
import Derived.Laws.OwnMore
namespace Go.Proofs.YtgaiehnbjggmdaaDoor.F
open Go.Ob Go.RowKit Go.Proofs.YtgaiehnbjggmdaaDoorW.PrintWords Go.Proofs.YtgaiehnbjggmdaaDoorW.PrintMore
set_option linter.unusedVariables false
set_option linter.unusedSimpArgs false
theorem set_data (code : ByteArray) (d d' s : List Int) (m0 m1 : Int) (ds : List D3) : (cl3 (regs code d s m0 m1 ds)).set 4 (.string (strOfNums d')) = cl3 (regs code d' s m0 m1 ds) := by
  simp [regs, cl3, c3]
theorem regs_same (code : ByteArray) (d d' s s' : List Int) (m0 m1 : Int) (ds : List D3) : (regs code d s m0 m1 ds).length = (regs code d' s' m0 m1 ds).length := by
  simp [regs]
theorem set_stack (code : ByteArray) (d s s' : List Int) (m0 m1 : Int) (ds : List D3) (n : Nat) (hn : (regs code d s m0 m1 ds).length = n + 1) : (cl3 (regs code d s m0 m1 ds)).set (n * 3 + 1) (.string (strOfNums s')) = cl3 (regs code d s' m0 m1 ds) := by
  obtain ⟨pre, hp⟩ : ∃ pre, pre = [(1048576, code, true), (65536, strOfNums d, false)] ++ memR 0 m0 ds ++ memR 1 m1 ds := ⟨_, rfl⟩
  have e : ∀ s, regs code d s m0 m1 ds = pre ++ [(262144, strOfNums s, false)] := fun s => by rw [hp]; rfl
  rw [e, e, cl3_append, cl3_append]
  rw [e, List.length_append] at hn
  have hl : (cl3 pre).length = n * 3 := by rw [cl3_len]; simp at hn; omega
  rw [List.set_append_right _ _ (by omega), hl, Nat.add_sub_cancel_left]
  rfl
theorem cl3_data (code : ByteArray) (d s : List Int) (m0 m1 : Int) (ds : List D3) : (cl3 (regs code d s m0 m1 ds))[4]? = some (.string (strOfNums d)) := by
  simp [regs, cl3, c3]
theorem cl3_stack (code : ByteArray) (d s : List Int) (m0 m1 : Int) (ds : List D3) (n : Nat) (hn : (regs code d s m0 m1 ds).length = n + 1) : (cl3 (regs code d s m0 m1 ds))[n * 3 + 1]? = some (.string (strOfNums s)) := by
  obtain ⟨pre, hp⟩ : ∃ pre, pre = [(1048576, code, true), (65536, strOfNums d, false)] ++ memR 0 m0 ds ++ memR 1 m1 ds := ⟨_, rfl⟩
  have e : regs code d s m0 m1 ds = pre ++ [(262144, strOfNums s, false)] := by rw [hp]; rfl
  rw [e, cl3_append]
  rw [e, List.length_append] at hn
  have hl : (cl3 pre).length = n * 3 := by rw [cl3_len]; simp at hn; omega
  rw [List.getElem?_append_right (by omega), hl, Nat.add_sub_cancel_left]
  rfl
/-- a cell of an owned row -/
theorem own_cell {w : World} {b z n g cap : Nat} {e : TypeId} {xs : List Value} (h : w.ownsRow b e z (.slice (some ⟨g, 0, none⟩) n cap) n xs) (j : Nat) (hj : j < n * z) : w.cell? ⟨g, j, none⟩ = xs[j]? ∧ w.frozen? ⟨g, j, none⟩ = false := by
  rcases h.2 with ⟨h', _⟩ | ⟨g', cap', cur, h', hb, hg, hnc, hcm, hcs, htake⟩
  · simp at h'
  · simp only [Value.slice.injEq, Option.some.injEq, Addr.mk.injEq, and_true, true_and] at h'
    obtain ⟨rfl, rfl⟩ := h'
    refine ⟨?_, blk_frozen hg j⟩
    rw [blk_cell hg, ← htake, List.getElem?_take_of_lt hj, Array.getElem?_toList]
theorem own_slice {w : World} {b z n : Nat} {e : TypeId} {v : Value} {xs : List Value} (h : w.ownsRow b e z v n xs) (h0 : 0 < n) : ∃ g cap, v = .slice (some ⟨g, 0, none⟩) n cap ∧ b ≤ g ∧ g < w.heap.size := by
  rcases h.2 with ⟨_, h1⟩ | ⟨g, cap, cur, h1, h2, h3, _⟩
  · omega
  · exact ⟨g, cap, h1, h2, blk_lt h3⟩
/-- the arguments' bytes, one behind the other -/
theorem args_step (args : List Int) (k : Nat) (h : k < args.length) : strOfNums (b8 (args.take k)) ++ strOfNums (bytesOf args[k] 8) = strOfNums (b8 (args.take (k + 1))) := by
  rw [num_append _ _ (b8_bytes _) (bytesOf_bytes _ 8), List.take_succ_eq_append_getElem h, b8_append, b8_one]
theorem num_extract (xs : List Int) (a : Nat) (hx : ∀ x ∈ xs, 0 ≤ x ∧ x < 256) : (strOfNums xs).extract a (strOfNums xs).size = strOfNums (xs.drop a) := by
  refine bl_inj ?_
  rw [bl_extract, bl_num _ hx, bl_num _ (fun x hm => hx x (List.mem_of_mem_drop hm)), num_size]
  exact List.take_of_length_le (by rw [List.length_drop]; exact Nat.le_refl _)
theorem num_extract0 (xs : List Int) (b : Nat) (hx : ∀ x ∈ xs, 0 ≤ x ∧ x < 256) : (strOfNums xs).extract 0 b = strOfNums (xs.take b) := by
  refine bl_inj ?_
  rw [bl_extract, bl_num _ hx, bl_num _ (fun x hm => hx x (List.mem_of_mem_take hm)), List.drop_zero, Nat.sub_zero]
theorem slice_from {P : Program} (t : TypeId) (ht : P.underlying t = some .string) (s : ByteArray) (a : Nat) (i : Int) (hi : i = a) (hb : a ≤ s.size) (W : World) :
    (Instr.slice t (.string s) (some (.int .i64 i)) none none).run P W = .ok (.string (s.extract a s.size)) W := by
  subst hi
  simp [Instr.slice, Instr.sliceBounds, Instr.sliceBound, asIntOf, run_underlying ht, hb]
end Go.Proofs.YtgaiehnbjggmdaaDoor.F
