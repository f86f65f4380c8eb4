/- A string copied into a row of bytes: as one step of a region, for any lengths. -/
import Derived.Test.YtiacmfgkbgfhkaaLinAt
import Derived.Laws.CopyOwn
import Derived.Lib.BufferWrite
import Derived.Deep.RegionLaw
import Derived.Laws.DeepStrings4
namespace Go.Proofs.Ytiacmfgkbgfhkaa.Lin
open Go.Ob Go.RowKit Go.Proofs.YtiacmfgkbgfhkaaW.PrintWords Go.Proofs.YtiacmfgkbgfhkaaW.PrintMore
set_option linter.unusedVariables false
set_option linter.unusedSimpArgs false
/-- a list with others laid over it -/
def spl (xs : List Int) (o : Nat) (ys : List Int) : List Int := xs.take o ++ (ys ++ xs.drop (o + ys.length))
theorem spl_length {xs : List Int} {o : Nat} {ys : List Int} (h : o + ys.length ≤ xs.length) : (spl xs o ys).length = xs.length := by
  unfold spl
  simp only [List.length_append, List.length_take, List.length_drop]
  omega
theorem nums_take (k : IntKind) (xs : List Int) (n : Nat) : (nums k xs).take n = nums k (xs.take n) := by simp [nums]
theorem nums_drop (k : IntKind) (xs : List Int) (n : Nat) : (nums k xs).drop n = nums k (xs.drop n) := by simp [nums]
theorem cells_bl (s : ByteArray) (n : Nat) : (s.data.toList.map fun b : UInt8 => Value.int .u8 (b.toNat : Int)).take n = nums .u8 ((bl s).take n) := by
  simp only [bl, nums, List.map_take, List.map_map]
  rfl
section
variable {P : Program} {w : World}
theorem run_copy_bl (dT sT ty elem : TypeId) (g o dLen dCap : Nat) (s : ByteArray) (xs : List Int) (t : TypeId)
    (hu : P.underlying dT = some (.slice elem)) (hs : (P.info? elem).map (·.size) = some 1) (hg : w.heap[g]? = some (.cells (nums .u8 xs).toArray t (0, 0))) (hfit : o + dLen ≤ xs.length) :
    (Builtin.copy_ #[dT, sT] ty #[.slice (some ⟨g, o, none⟩) dLen dCap, .string s]).run P w =
      .ok (goInt (Nat.min s.size dLen)) (w.setRow g (nums .u8 (spl xs o ((bl s).take dLen))).toArray) := by
  have hl : ((bl s).take dLen).length = Nat.min s.size dLen := by rw [List.length_take, bl_length, Nat.min_comm]
  have hmin : Nat.min s.size dLen ≤ dLen := Nat.min_le_right _ _
  have htk : (bl s).take (Nat.min s.size dLen) = (bl s).take dLen := by
    rw [List.take_eq_take_iff, bl_length]
    show min (min s.size dLen) s.size = min dLen s.size
    omega
  have hst := run_storeCells_at P g o t (nums .u8 ((bl s).take dLen)) 0 (nums .u8 xs).toArray w hg (by simp only [nums_length, List.size_toArray, hl]; omega) (by intro v hv; simp only [nums, List.mem_map] at hv; obtain ⟨x, _, rfl⟩ := hv; rfl)
  simp only [Nat.add_zero, nums_take, nums_drop, nums_length] at hst
  rw [← nums_append, ← nums_append, List.append_assoc] at hst
  have hsp : spl xs o ((bl s).take dLen) = xs.take o ++ ((bl s).take dLen ++ xs.drop (o + ((bl s).take dLen).length)) := rfl
  rw [← hsp] at hst
  cases hq : P.info? elem with
  | none => simp [hq] at hs
  | some i =>
    simp [Builtin.copy_, run_underlying hu, Builtin.lenOf, Builtin.firstCells, sizeOf, typeInfo, hq]
    rw [cells_bl, htk, hst]
    simp [Result.andThen]
/-- As one step of a region that draws its order. -/
theorem step_copy_bl {ops : Array Oper} {o : Oper} {a : Act} {K : Act → World → Prop} {Q : Exit → Act → World → Prop} {E : Prop} (hgd : o.guard = none) (d s : Operand) (dT sT : TypeId)
    (ho : o.op = .call { callee := .builtin .copy, args := #[d, s], argTypes := #[dT, sT] }) (elem : TypeId) (hu : P.underlying dT = some (.slice elem)) (hsz : (P.info? elem).map (·.size) = some 1)
    (g off dLen dCap : Nat) (hd : a.eval d = .slice (some ⟨g, off, none⟩) dLen dCap) (t : ByteArray) (hx : a.eval s = .string t) (xs : List Int) (ty : TypeId)
    (hg : w.heap[g]? = some (.cells (nums .u8 xs).toArray ty (0, 0))) (hfit : off + dLen ≤ xs.length) (B : Nat) (w0 : World) (hb : Below B w0 w) (hBg : B ≤ g)
    (h : ∀ w', Aside0 (w'.heap[g]? = some (.cells (nums .u8 (spl xs off ((bl t).take dLen))).toArray ty (0, 0))) → Below B w0 w' → (∀ k, k ≠ g → w'.heap[k]? = w.heap[k]?) → w'.heap.size = w.heap.size → K (a.put o.dst (goInt (Nat.min t.size dLen))) w') :
    if Region.wanted o (yielded ops a.tmps) = true then Oper.wp P o a w K Q else E := by
  have hw : Region.wanted o (yielded ops a.tmps) = true := by simp [Region.wanted, hgd]
  rw [if_pos hw]
  have hrun := run_copy_bl (P := P) (w := w) dT sT o.type elem g off dLen dCap t xs ty hu hsz hg hfit
  unfold Oper.wp
  simp [execOp, ho, resolve, invoke, builtin, hd, hx, hrun, Result.andThen]
  exact h _ ⟨setRow_heap w g _ _ ty _ hg⟩ (below_setRow hb hBg _) (fun k hk => setRow_other w g k _ hk) (by simp [World.setRow])
/-- Outside such a region, or at its forced end. -/
theorem wpList_copy_bl {ops : Array Oper} {rest : List Oper} {o : Oper} {a : Act} {Q : Exit → Act → World → Prop} (hgd : o.guard = none) (d s : Operand) (dT sT : TypeId)
    (ho : o.op = .call { callee := .builtin .copy, args := #[d, s], argTypes := #[dT, sT] }) (elem : TypeId) (hu : P.underlying dT = some (.slice elem)) (hsz : (P.info? elem).map (·.size) = some 1)
    (g off dLen dCap : Nat) (hd : a.eval d = .slice (some ⟨g, off, none⟩) dLen dCap) (t : ByteArray) (hx : a.eval s = .string t) (xs : List Int) (ty : TypeId)
    (hg : w.heap[g]? = some (.cells (nums .u8 xs).toArray ty (0, 0))) (hfit : off + dLen ≤ xs.length) (B : Nat) (w0 : World) (hb : Below B w0 w) (hBg : B ≤ g)
    (h : ∀ w', Aside0 (w'.heap[g]? = some (.cells (nums .u8 (spl xs off ((bl t).take dLen))).toArray ty (0, 0))) → Below B w0 w' → (∀ k, k ≠ g → w'.heap[k]? = w.heap[k]?) → w'.heap.size = w.heap.size → wpList P ops Q rest (a.put o.dst (goInt (Nat.min t.size dLen))) w') :
    wpList P ops Q (o :: rest) a w := by
  have hrun := run_copy_bl (P := P) (w := w) dT sT o.type elem g off dLen dCap t xs ty hu hsz hg hfit
  refine wpList_plain hgd fun K hK => ?_
  unfold Oper.wp
  simp [execOp, ho, resolve, invoke, builtin, hd, hx, hrun, Result.andThen]
  exact hK _ _ (h _ ⟨setRow_heap w g _ _ ty _ hg⟩ (below_setRow hb hBg _) (fun k hk => setRow_other w g k _ hk) (by simp [World.setRow]))
/-- s[a:b] -/
theorem slice_mid (t : TypeId) (ht : P.underlying t = some .string) (s : ByteArray) (a b : Nat) (i j : Int) (hi : i = a) (hj : j = b) (hab : a ≤ b) (hb : b ≤ s.size) (W : World) :
    (Instr.slice t (.string s) (some (.int .i64 i)) (some (.int .i64 j)) none).run P W = .ok (.string (s.extract a b)) W := by
  subst hi
  subst hj
  rw [run_slice_string_if (h := ht), if_pos ⟨by omega, by omega⟩, if_pos ⟨by omega, by omega⟩]
  simp
end
end Go.Proofs.Ytiacmfgkbgfhkaa.Lin
