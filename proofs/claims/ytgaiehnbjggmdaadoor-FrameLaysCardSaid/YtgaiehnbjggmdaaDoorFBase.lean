/- Bytes in rows: plain lemmas, and a copy of a string into one. -/
import Derived.Test.YtgaiehnbjggmdaaDoorFW
import Derived.Test.YtgaiehnbjggmdaaDoorProg
import Derived.Test.YtgaiehnbjggmdaaDoorText
import Derived.Test.YtgaiehnbjggmdaaDoorBits
import Derived.Laws.BitsAllLaws
import Derived.Laws.CopyOwn
import Derived.Lib.BufferWrite
import Derived.Lib.ConvBytes
import Derived.Laws.DeepStrings4
import Derived.WalkKit
import Derived.LoopTactic
import Derived.Outline
namespace Go.Proofs.YtgaiehnbjggmdaaDoor.F
open Go.Ob Go.RowKit Go.Proofs.YtgaiehnbjggmdaaDoorW.PrintWords Go.Proofs.YtgaiehnbjggmdaaDoorW.PrintMore
set_option linter.unusedVariables false
set_option linter.unusedSimpArgs false
/-- a number out of bytes, the least first -/
def le : List Int → Int
  | [] => 0
  | b :: r => b + 256 * le r
theorem le_append (l m : List Int) : le (l ++ m) = le l + 256 ^ l.length * le m := by
  induction l with
  | nil => simp [le]
  | cons b l ih => simp only [List.cons_append, le, ih, List.length_cons, Int.pow_succ]; grind
theorem le_bd (l : List Int) (h : ∀ b ∈ l, 0 ≤ b ∧ b < 256) : 0 ≤ le l ∧ le l < 256 ^ l.length := by
  induction l with
  | nil => simp [le]
  | cons b l ih =>
    have hb := h b (by simp)
    obtain ⟨h0, h1⟩ := ih (fun x hx => h x (by simp [hx]))
    simp only [le, List.length_cons, Int.pow_succ]
    omega
theorem le_zeros (n : Nat) : le (List.replicate n 0) = 0 := by
  induction n with
  | zero => rfl
  | succ n ih => rw [List.replicate_succ, le, ih]; rfl
/-- so many bytes of a number, the least first -/
def bytesOf (v : Int) : Nat → List Int
  | 0 => []
  | n + 1 => v % 256 :: bytesOf (v / 256) n
theorem bytesOf_length (v : Int) (n : Nat) : (bytesOf v n).length = n := by
  induction n generalizing v with
  | zero => rfl
  | succ n ih => simp [bytesOf, ih]
theorem bytesOf_bytes (v : Int) (n : Nat) : ∀ b ∈ bytesOf v n, 0 ≤ b ∧ b < 256 := by
  induction n generalizing v with
  | zero => simp [bytesOf]
  | succ n ih =>
    intro b hb
    simp only [bytesOf, List.mem_cons] at hb
    rcases hb with rfl | hb
    · omega
    · exact ih _ b hb
theorem or_comm_i64 (a b : Int) : bits .or .i64 a b = bits .or .i64 b a := by rw [bits_or_i64, bits_or_i64, BitVec.or_comm]
theorem or_step (L x : Int) (k : Nat) (hk : k < 8) (h0 : 0 ≤ L) (h1 : L < 256 ^ k) (hx0 : 0 ≤ x) (hx1 : x < 256) : bits .or .i64 (wrap64 L) (wrap64 (x * 2 ^ (8 * k))) = wrap64 (L + 256 ^ k * x) := by
  obtain rfl | rfl | rfl | rfl | rfl | rfl | rfl | rfl : k = 0 ∨ k = 1 ∨ k = 2 ∨ k = 3 ∨ k = 4 ∨ k = 5 ∨ k = 6 ∨ k = 7 := by omega
  all_goals
    simp only [Nat.reduceMul, Int.reducePow] at h1 ⊢
    have hw : wrap64 L = L := by unfold wrap64; omega
    rw [hw, or_comm_i64]
  · rw [or_add _ L (by unfold wrap64; omega) (by unfold wrap64; omega) 0 (by decide) (by omega) h0 (by omega)]; unfold wrap64; omega
  · rw [or_add _ L (by unfold wrap64; omega) (by unfold wrap64; omega) 8 (by decide) (by unfold wrap64; omega) h0 (by omega)]; unfold wrap64; omega
  · rw [or_add _ L (by unfold wrap64; omega) (by unfold wrap64; omega) 16 (by decide) (by unfold wrap64; omega) h0 (by omega)]; unfold wrap64; omega
  · rw [or_add _ L (by unfold wrap64; omega) (by unfold wrap64; omega) 24 (by decide) (by unfold wrap64; omega) h0 (by omega)]; unfold wrap64; omega
  · rw [or_add _ L (by unfold wrap64; omega) (by unfold wrap64; omega) 32 (by decide) (by unfold wrap64; omega) h0 (by omega)]; unfold wrap64; omega
  · rw [or_add _ L (by unfold wrap64; omega) (by unfold wrap64; omega) 40 (by decide) (by unfold wrap64; omega) h0 (by omega)]; unfold wrap64; omega
  · rw [or_add _ L (by unfold wrap64; omega) (by unfold wrap64; omega) 48 (by decide) (by unfold wrap64; omega) h0 (by omega)]; unfold wrap64; omega
  · rw [or_add _ L (by unfold wrap64; omega) (by unfold wrap64; omega) 56 (by decide) (by unfold wrap64; omega) h0 (by omega)]; unfold wrap64; omega
theorem le_step (B : List Int) (k : Nat) (hk : k < 8) (hl : k < B.length) (hb : ∀ b ∈ B, 0 ≤ b ∧ b < 256) : bits .or .i64 (wrap64 (le (B.take k))) (wrap64 (B.getD k 0 * 2 ^ (8 * k))) = wrap64 (le (B.take (k + 1))) := by
  have hx := hb (B.getD k 0) (by rw [List.getD_eq_getElem?_getD, List.getElem?_eq_getElem hl]; exact List.getElem_mem _)
  have hL := le_bd (B.take k) (fun b h => hb b (List.mem_of_mem_take h))
  have hlen : (B.take k).length = k := by rw [List.length_take]; omega
  rw [hlen] at hL
  rw [or_step _ _ k hk hL.1 hL.2 hx.1 hx.2, List.take_succ_eq_append_getElem hl, le_append, hlen]
  congr 3
  simp [le, List.getD_eq_getElem?_getD, List.getElem?_eq_getElem hl]
theorem nums_at {W : World} {g : Nat} {xs : List Int} {t : TypeId} (h : W.heap[g]? = some (.cells (nums .u8 xs).toArray t (0, 0))) (j : Nat) (hj : j < xs.length) : W.cell? ⟨g, j, none⟩ = some (.int .u8 (xs.getD j 0)) := by
  rw [blk_cell h]
  simp [nums, List.getD_eq_getElem?_getD, hj]
theorem info5 : (Tryd.prog.info? 5).map (·.size) = some 1 := by kernel_rfl
/-- a list with others laid over it -/
def spl (xs : List Int) (o : Nat) (ys : List Int) : List Int := xs.take o ++ (ys ++ xs.drop (o + ys.length))
theorem spl_length {xs : List Int} {o : Nat} {ys : List Int} (h : o + ys.length ≤ xs.length) : (spl xs o ys).length = xs.length := by
  unfold spl
  simp only [List.length_append, List.length_take, List.length_drop]
  omega
theorem nums_take (k : IntKind) (xs : List Int) (n : Nat) : (nums k xs).take n = nums k (xs.take n) := by simp [nums]
theorem nums_drop (k : IntKind) (xs : List Int) (n : Nat) : (nums k xs).drop n = nums k (xs.drop n) := by simp [nums]
theorem cells_bl (s : ByteArray) (n : Nat) : (s.data.toList.map fun b : UInt8 => Value.int .u8 (b.toNat : Int)).take n = nums .u8 ((bl s).take n) := by
  simp only [bl, nums, List.map_take, List.map_map]
  rfl
section
variable {P : Program} {w : World}
theorem run_copy_bl (dT sT ty elem : TypeId) (g o dLen dCap : Nat) (s : ByteArray) (xs : List Int) (t : TypeId)
    (hu : P.underlying dT = some (.slice elem)) (hs : (P.info? elem).map (·.size) = some 1) (hg : w.heap[g]? = some (.cells (nums .u8 xs).toArray t (0, 0))) (hfit : o + dLen ≤ xs.length) :
    (Builtin.copy_ #[dT, sT] ty #[.slice (some ⟨g, o, none⟩) dLen dCap, .string s]).run P w =
      .ok (goInt (Nat.min s.size dLen)) (w.setRow g (nums .u8 (spl xs o ((bl s).take dLen))).toArray) := by
  have hl : ((bl s).take dLen).length = Nat.min s.size dLen := by rw [List.length_take, bl_length, Nat.min_comm]
  have hmin : Nat.min s.size dLen ≤ dLen := Nat.min_le_right _ _
  have htk : (bl s).take (Nat.min s.size dLen) = (bl s).take dLen := by
    rw [List.take_eq_take_iff, bl_length]
    show min (min s.size dLen) s.size = min dLen s.size
    omega
  have hst := run_storeCells_at P g o t (nums .u8 ((bl s).take dLen)) 0 (nums .u8 xs).toArray w hg (by simp only [nums_length, List.size_toArray, hl]; omega) (by intro v hv; simp only [nums, List.mem_map] at hv; obtain ⟨x, _, rfl⟩ := hv; rfl)
  simp only [Nat.add_zero, nums_take, nums_drop, nums_length] at hst
  rw [← nums_append, ← nums_append, List.append_assoc] at hst
  have hsp : spl xs o ((bl s).take dLen) = xs.take o ++ ((bl s).take dLen ++ xs.drop (o + ((bl s).take dLen).length)) := rfl
  rw [← hsp] at hst
  cases hq : P.info? elem with
  | none => simp [hq] at hs
  | some i =>
    simp [Builtin.copy_, run_underlying hu, Builtin.lenOf, Builtin.firstCells, sizeOf, typeInfo, hq]
    rw [cells_bl, htk, hst]
    simp [Result.andThen]
/-- Outside such a region, or at its forced end. -/
theorem wpList_copy_bl {ops : Array Oper} {rest : List Oper} {o : Oper} {a : Act} {Q : Exit → Act → World → Prop} (hgd : o.guard = none) (d s : Operand) (dT sT : TypeId)
    (ho : o.op = .call { callee := .builtin .copy, args := #[d, s], argTypes := #[dT, sT] }) (elem : TypeId) (hu : P.underlying dT = some (.slice elem)) (hsz : (P.info? elem).map (·.size) = some 1)
    (g off dLen dCap : Nat) (hd : a.eval d = .slice (some ⟨g, off, none⟩) dLen dCap) (t : ByteArray) (hx : a.eval s = .string t) (xs : List Int) (ty : TypeId)
    (hg : w.heap[g]? = some (.cells (nums .u8 xs).toArray ty (0, 0))) (hfit : off + dLen ≤ xs.length) (B : Nat) (w0 : World) (hb : Below B w0 w) (hBg : B ≤ g)
    (h : ∀ w', Aside0 (w'.heap[g]? = some (.cells (nums .u8 (spl xs off ((bl t).take dLen))).toArray ty (0, 0))) → Below B w0 w' → (∀ k, k ≠ g → w'.heap[k]? = w.heap[k]?) → w'.heap.size = w.heap.size → wpList P ops Q rest (a.put o.dst (goInt (Nat.min t.size dLen))) w') :
    wpList P ops Q (o :: rest) a w := by
  have hrun := run_copy_bl (P := P) (w := w) dT sT o.type elem g off dLen dCap t xs ty hu hsz hg hfit
  refine wpList_plain hgd fun K hK => ?_
  unfold Oper.wp
  simp [execOp, ho, resolve, invoke, builtin, hd, hx, hrun, Result.andThen]
  exact hK _ _ (h _ ⟨setRow_heap w g _ _ ty _ hg⟩ (below_setRow hb hBg _) (fun k hk => setRow_other w g k _ hk) (by simp [World.setRow]))
/-- s[a:b] -/
theorem slice_mid (t : TypeId) (ht : P.underlying t = some .string) (s : ByteArray) (a b : Nat) (i j : Int) (hi : i = a) (hj : j = b) (hab : a ≤ b) (hb : b ≤ s.size) (W : World) :
    (Instr.slice t (.string s) (some (.int .i64 i)) (some (.int .i64 j)) none).run P W = .ok (.string (s.extract a b)) W := by
  subst hi
  subst hj
  rw [run_slice_string_if (h := ht), if_pos ⟨by omega, by omega⟩, if_pos ⟨by omega, by omega⟩]
  simp
end
theorem bytesOf_succ (v : Int) (n : Nat) : bytesOf v (n + 1) = bytesOf v n ++ [v / 256 ^ n % 256] := by
  induction n generalizing v with
  | zero => simp [bytesOf]
  | succ n ih =>
    rw [bytesOf, ih, bytesOf]
    simp only [List.cons_append, List.cons.injEq, true_and]
    congr 3
    rw [Int.ediv_ediv_of_nonneg (by decide), Int.pow_succ, Int.mul_comm]
theorem below_own2 {w W : World} (h : Below w.heap.size w W) (j : Nat) (u : Value) : Below w.heap.size w (W.setCell ⟨w.heap.size, j, none⟩ u) := h.setCell (Nat.le_refl _) u
theorem nums_put {W : World} {g : Nat} {xs : List Int} {t : TypeId} (h : W.heap[g]? = some (.cells (nums .u8 xs).toArray t (0, 0))) (k : Nat) (x : Int) :
    (W.setCell ⟨g, k, none⟩ (.int .u8 x)).heap[g]? = some (.cells (nums .u8 (xs.set k x)).toArray t (0, 0)) := by
  rw [blk_set h]
  congr 3
  simp [nums, List.map_set]
theorem pow_bytes (k : Nat) : (2 : Int) ^ (8 * k) = 256 ^ k := by rw [Int.pow_mul]; rfl
theorem bytesOf_take (v : Int) (N : Nat) (hN : N = 4 ∨ N = 8) : (bytesOf v 8).take N = bytesOf v N := by
  rcases hN with rfl | rfl <;> simp [bytesOf]
/-- block g holds these bytes, none frozen -/
def Row (W : World) (g : Nat) (xs : List Int) : Prop := g < W.heap.size ∧ ∀ j, j < xs.length → W.cell? ⟨g, j, none⟩ = some (.int .u8 (xs.getD j 0)) ∧ W.frozen? ⟨g, j, none⟩ = false
theorem Row.of_blk {W : World} {g : Nat} {xs : List Int} {t : TypeId} (h : W.heap[g]? = some (.cells (nums .u8 xs).toArray t (0, 0))) : Row W g xs := ⟨blk_lt h, fun j hj => ⟨nums_at h j hj, blk_frozen h j⟩⟩
theorem Row.drewN {W : World} {g : Nat} {xs : List Int} (h : Row W g xs) (n : Nat) : Row (W.drewN n) g xs := h
theorem Row.below {W W' : World} {g : Nat} {xs : List Int} (h : Row W g xs) {B : Nat} (hb : Below B W W') (hg : g < B) : Row W' g xs :=
  ⟨Nat.lt_of_lt_of_le h.1 hb.size, fun j hj => ⟨(hb.cell (p := ⟨g, j, none⟩) hg).trans (h.2 j hj).1, (hb.frozen (p := ⟨g, j, none⟩) hg).trans (h.2 j hj).2⟩⟩
theorem Row.alloc {W : World} {g : Nat} {xs : List Int} (h : Row W g xs) (o : Obj) : Row (W.alloc o) g xs := h.below (below_alloc (Below.refl _ _) o) h.1
theorem Row.far {W : World} {g : Nat} {xs : List Int} (h : Row W g xs) {p : Addr} (hp : p.block ≠ g) (u : Value) : Row (W.setCell p u) g xs :=
  ⟨by simpa [World.setCell] using h.1, fun j hj => ⟨(World.cell?_setCell_other W p ⟨g, j, none⟩ u (fun e => hp (by rw [e]))).trans (h.2 j hj).1, by rw [World.frozen?_setCell]; exact (h.2 j hj).2⟩⟩
theorem Row.set {W : World} {g : Nat} {xs : List Int} (h : Row W g xs) (k : Nat) (hk : k < xs.length) (x : Int) : Row (W.setCell ⟨g, k, none⟩ (.int .u8 x)) g (xs.set k x) := by
  refine ⟨by simpa [World.setCell] using h.1, fun j hj => ?_⟩
  rw [List.length_set] at hj
  refine ⟨?_, by rw [World.frozen?_setCell]; exact (h.2 j hj).2⟩
  by_cases e : j = k
  · subst e
    rw [World.cell?_setCell_same' _ _ _ (by rw [(h.2 j hj).1]; rfl)]
    simp [List.getD_eq_getElem?_getD, hj]
  · rw [World.cell?_setCell_other W _ _ _ (fun e' => by injection e' with _ h1; exact e h1.symm), (h.2 j hj).1]
    simp [List.getD_eq_getElem?_getD, List.getElem?_set, Ne.symm e]
theorem Row.text {P : Program} {W : World} {g : Nat} {xs : List Int} (h : Row W g xs) (src e dst c : Nat) (hs : P.underlying src = some (.slice e)) (he : P.underlying e = some (.int .u8)) (hd : P.underlying dst = some .string) :
    (convert src dst (.slice (some ⟨g, 0, none⟩) xs.length c)).run P W = .ok (.string (strOfNums xs)) W :=
  run_convert_bytes_arg W src e hs he g 0 xs.length c xs rfl (fun i hi => by rw [Nat.zero_add]; exact (h.2 i hi).1) dst hd
theorem getD_bl (s : ByteArray) (j : Nat) (hj : j < s.size) : (bl s).getD j 0 = ((s[j]'hj).toNat : Int) := by
  simp only [bl, List.getD_eq_getElem?_getD, List.getElem?_map]
  rw [Array.getElem?_toList, Array.getElem?_eq_getElem (by simpa using hj)]
  rfl
theorem Row.of_string (W : World) (s : ByteArray) : Row (Lib.bytesWorld W 5 s) W.heap.size (bl s) := by
  refine ⟨by rw [Lib.bytesWorld_size]; omega, fun j hj => ?_⟩
  rw [bl_length] at hj
  refine ⟨?_, ?_⟩
  · rw [Lib.bytesWorld_cell W 5 s j hj, getD_bl s j hj]
    simp [List.getD_eq_getElem?_getD, hj]
    rfl
  · have hsz : s.size ≤ (Lib.bytesCells W 5 s).size := by simp [Lib.bytesCells]
    simp [World.frozen?, Lib.bytesWorld_at_new]
    omega
theorem spl_set (xs : List Int) (o : Nat) (ys : List Int) (x : Int) (h : o + ys.length < xs.length) : (spl xs o ys).set (o + ys.length) x = spl xs o (ys ++ [x]) := by
  unfold spl
  have ho : (xs.take o).length = o := by rw [List.length_take]; omega
  rw [List.set_append_right _ _ (by rw [ho]; omega), ho, show o + ys.length - o = ys.length by omega, List.set_append_right _ _ (Nat.le_refl _), Nat.sub_self, List.drop_eq_getElem_cons h]
  simp only [List.set_cons_zero, List.append_assoc, List.cons_append, List.nil_append, List.length_append, List.length_cons, List.length_nil]
  rfl
theorem spl_nil (xs : List Int) (o : Nat) : spl xs o [] = xs := by simp [spl]
theorem text_spl (m : ByteArray) (K N : Nat) (v : Int) (h : K + N ≤ m.size) : strOfNums (spl (bl m) K (bytesOf v N)) = m.extract 0 K ++ strOfNums (bytesOf v N) ++ m.extract (K + N) m.size := by
  apply bl_inj
  rw [bl_append, bl_append, bl_extract, bl_extract, bl_num _ (bytesOf_bytes v N), bl_num]
  · simp only [spl, bytesOf_length, List.drop_zero, Nat.sub_zero, List.append_assoc]
    rw [List.take_of_length_le (i := m.size - (K + N)) (by rw [List.length_drop, bl_length]; exact Nat.le_refl _)]
  · intro b hb
    simp only [spl, List.mem_append] at hb
    rcases hb with hb | hb | hb
    · exact bl_bytes m b (List.mem_of_mem_take hb)
    · exact bytesOf_bytes v N b hb
    · exact bl_bytes m b (List.mem_of_mem_drop hb)
theorem u64_wrap (v : Int) : IntKind.u64.wrap v = v % 18446744073709551616 := by simp [IntKind.wrap, IntKind.bits, IntKind.signed]
theorem u64_byte (v : Int) (k : Nat) (hk : k < 8) : IntKind.u64.wrap v / 2 ^ (8 * k) % 256 = v / 256 ^ k % 256 := by
  rw [u64_wrap, pow_bytes]
  obtain rfl | rfl | rfl | rfl | rfl | rfl | rfl | rfl : k = 0 ∨ k = 1 ∨ k = 2 ∨ k = 3 ∨ k = 4 ∨ k = 5 ∨ k = 6 ∨ k = 7 := by omega
  all_goals
    simp only [Int.reducePow]
    omega
end Go.Proofs.YtgaiehnbjggmdaaDoor.F
