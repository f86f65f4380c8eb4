/- Bytes copied into a row that a text was turned into: its mark lies behind its cells. -/
import Derived.Test.YtiacmfgkbgfhkaaLinRow
namespace Go.Proofs.Ytiacmfgkbgfhkaa.Lin
open Go.Ob Go.RowKit Go.Proofs.YtiacmfgkbgfhkaaW.PrintWords Go.Proofs.YtiacmfgkbgfhkaaW.PrintMore
set_option linter.unusedVariables false
set_option linter.unusedSimpArgs false
theorem run_storeCells_atT (P : Program) (g o : Nat) (t : TypeId) (fz : Nat × Nat) : ∀ (vs : List Value) (i : Nat) (cur : Array Value) (w : World), w.heap[g]? = some (.cells cur t fz) → o + i + vs.length ≤ fz.1 → o + i + vs.length ≤ cur.size → (∀ v ∈ vs, v.oneCell' = true) →
    (storeCells ⟨g, o, none⟩ vs i).run P w = .ok () (w.setRow g (cur.toList.take (o + i) ++ vs ++ cur.toList.drop (o + i + vs.length)).toArray)
  | [], i, cur, w, hg, _, _, _ => by
    simp only [storeCells, List.append_nil, List.length_nil, Nat.add_zero, List.take_append_drop, Array.toArray_toList]
    rw [setRow_self w g cur t fz hg]
    rfl
  | v :: rest, i, cur, w, hg, hfz, hl, h1 => by
    have hi : o + i < cur.size := by simp at hl; omega
    have hadd : (⟨g, o, none⟩ : Addr).add i = ⟨g, o + i, none⟩ := by unfold Addr.add; split <;> simp_all
    have hcell : w.cell? ⟨g, o + i, none⟩ = some cur[o + i] := by simp [World.cell?, hg, hi]
    have hfro : w.frozen? ⟨g, o + i, none⟩ = false := by
      obtain ⟨lo, hi'⟩ := fz
      simp only [World.frozen?, hg, Bool.and_eq_false_iff, decide_eq_false_iff_not]
      left
      simp only [List.length_cons] at hfz
      omega
    have hst : (store ((⟨g, o, none⟩ : Addr).add i) v).run P w = .ok () (w.setRow g (cur.setIfInBounds (o + i) v)) := by
      rw [hadd, run_store P w _ v _ (h1 v (by simp)), hcell]
      simp [hfro, setCell_eq_setRow w g (o + i) cur t fz v hg]
    have ih := run_storeCells_atT P g o t fz rest (i + 1) (cur.setIfInBounds (o + i) v) (w.setRow g (cur.setIfInBounds (o + i) v)) (setRow_heap w g cur _ t _ hg) (by simp at hfz ⊢; omega) (by simp at hl ⊢; omega) (fun x hx => h1 x (by simp [hx]))
    simp only [storeCells, Sem.run_bind, hst, Result.andThen_ok, ih, setRow_setRow]
    congr 3
    have e := list_seg_step cur.toList (o + i) v rest (by simp at hl ⊢; omega)
    simpa [Array.toList_setIfInBounds, Nat.add_assoc] using e
section
variable {P : Program} {w : World}
theorem run_copy_blT (dT sT ty elem : TypeId) (g o dLen dCap : Nat) (s : ByteArray) (xs : List Int) (t : TypeId) (fz : Nat × Nat)
    (hu : P.underlying dT = some (.slice elem)) (hs : (P.info? elem).map (·.size) = some 1) (hg : w.heap[g]? = some (.cells (nums .u8 xs).toArray t fz)) (hfz : o + dLen ≤ fz.1) (hfit : o + dLen ≤ xs.length) :
    (Builtin.copy_ #[dT, sT] ty #[.slice (some ⟨g, o, none⟩) dLen dCap, .string s]).run P w =
      .ok (goInt (Nat.min s.size dLen)) (w.setRow g (nums .u8 (spl xs o ((bl s).take dLen))).toArray) := by
  have hl : ((bl s).take dLen).length = Nat.min s.size dLen := by rw [List.length_take, bl_length, Nat.min_comm]
  have hmin : Nat.min s.size dLen ≤ dLen := Nat.min_le_right _ _
  have htk : (bl s).take (Nat.min s.size dLen) = (bl s).take dLen := by
    rw [List.take_eq_take_iff, bl_length]
    show min (min s.size dLen) s.size = min dLen s.size
    omega
  have hst := run_storeCells_atT P g o t fz (nums .u8 ((bl s).take dLen)) 0 (nums .u8 xs).toArray w hg (by simp only [nums_length, hl]; omega) (by simp only [nums_length, List.size_toArray, hl]; omega) (by intro v hv; simp only [nums, List.mem_map] at hv; obtain ⟨x, _, rfl⟩ := hv; rfl)
  simp only [Nat.add_zero, nums_take, nums_drop, nums_length] at hst
  rw [← nums_append, ← nums_append, List.append_assoc] at hst
  have hsp : spl xs o ((bl s).take dLen) = xs.take o ++ ((bl s).take dLen ++ xs.drop (o + ((bl s).take dLen).length)) := rfl
  rw [← hsp] at hst
  cases hq : P.info? elem with
  | none => simp [hq] at hs
  | some i =>
    simp [Builtin.copy_, run_underlying hu, Builtin.lenOf, Builtin.firstCells, sizeOf, typeInfo, hq]
    rw [cells_bl, htk, hst]
    simp [Result.andThen]
theorem wpList_copy_blT {ops : Array Oper} {rest : List Oper} {o : Oper} {a : Act} {Q : Exit → Act → World → Prop} (hgd : o.guard = none) (d s : Operand) (dT sT : TypeId)
    (ho : o.op = .call { callee := .builtin .copy, args := #[d, s], argTypes := #[dT, sT] }) (elem : TypeId) (hu : P.underlying dT = some (.slice elem)) (hsz : (P.info? elem).map (·.size) = some 1)
    (g off dLen dCap : Nat) (hd : a.eval d = .slice (some ⟨g, off, none⟩) dLen dCap) (t : ByteArray) (hx : a.eval s = .string t) (xs : List Int) (ty : TypeId) (fz : Nat × Nat)
    (hg : w.heap[g]? = some (.cells (nums .u8 xs).toArray ty fz)) (hfz : off + dLen ≤ fz.1) (hfit : off + dLen ≤ xs.length) (B : Nat) (w0 : World) (hb : Below B w0 w) (hBg : B ≤ g)
    (h : ∀ w', Aside0 (w'.heap[g]? = some (.cells (nums .u8 (spl xs off ((bl t).take dLen))).toArray ty fz)) → Below B w0 w' → (∀ k, k ≠ g → w'.heap[k]? = w.heap[k]?) → w'.heap.size = w.heap.size → wpList P ops Q rest (a.put o.dst (goInt (Nat.min t.size dLen))) w') :
    wpList P ops Q (o :: rest) a w := by
  have hrun := run_copy_blT (P := P) (w := w) dT sT o.type elem g off dLen dCap t xs ty fz hu hsz hg hfz hfit
  refine wpList_plain hgd fun K hK => ?_
  unfold Oper.wp
  simp [execOp, ho, resolve, invoke, builtin, hd, hx, hrun, Result.andThen]
  exact hK _ _ (h _ ⟨setRow_heap w g _ _ ty _ hg⟩ (below_setRow hb hBg _) (fun k hk => setRow_other w g k _ hk) (by simp [World.setRow]))
theorem bytes_old (W : World) (s : ByteArray) (k : Nat) (hk : k < W.heap.size) : (Lib.bytesWorld W 5 s).heap[k]? = W.heap[k]? := Lib.bytesWorld_at_old W 5 s k hk
theorem bytes_below {B : Nat} {w0 W : World} (h : Below B w0 W) (hB : B ≤ W.heap.size) (s : ByteArray) : Below B w0 (Lib.bytesWorld W 5 s) :=
  ⟨h.os, h.tape, h.output, by rw [Lib.bytesWorld_size]; exact Nat.le_succ_of_le h.size, fun k hk => (bytes_old W s k (by omega)).trans (h.block k hk)⟩
theorem bytes_row (W : World) (s : ByteArray) : ∃ z fz, (Lib.bytesWorld W 5 s).heap[W.heap.size]? = some (.cells (nums .u8 (bl s ++ z)).toArray 5 fz) ∧ s.size ≤ fz.1 := by
  refine ⟨List.replicate (grownCap W s.size 0 5 - s.size) 0, ((Lib.bytesCells W 5 s).size, (Lib.bytesCells W 5 s).size + 1), ?_, by simp [Lib.bytesCells]⟩
  rw [Lib.bytesWorld_at_new]
  congr 2
  simp only [Lib.bytesCells, bl, nums, List.map_append, List.map_map, List.map_replicate]
  apply Array.ext'
  simp [Function.comp_def]
end
theorem spl_append (xs z : List Int) (K : Nat) (ys : List Int) (h : K + ys.length ≤ xs.length) : spl (xs ++ z) K ys = spl xs K ys ++ z := by
  unfold spl
  rw [List.take_append_of_le_length (by omega), List.drop_append_of_le_length h]
  simp
end Go.Proofs.Ytiacmfgkbgfhkaa.Lin
