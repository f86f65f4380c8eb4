/- Bytes in memory, cell by cell; the reference's function of a memory with a number in it. No condition but that numbers and lengths are those of the language. -/
import Derived.Test.YtiacmfgkbgfhkaaLinStore
namespace Go.Proofs.Ytiacmfgkbgfhkaa.Lin
open Go.Ob Go.RowKit Go.Proofs.YtiacmfgkbgfhkaaW.PrintWords Go.Proofs.YtiacmfgkbgfhkaaW.PrintMore
attribute [local go_sem] max2_int min2_int max_two min_two
set_option linter.unusedVariables false
set_option linter.unusedSimpArgs false
/-- block g holds these bytes, none frozen -/
def Row (W : World) (g : Nat) (xs : List Int) : Prop := g < W.heap.size ∧ ∀ j, j < xs.length → W.cell? ⟨g, j, none⟩ = some (.int .u8 (xs.getD j 0)) ∧ W.frozen? ⟨g, j, none⟩ = false
theorem Row.of_blk {W : World} {g : Nat} {xs : List Int} {t : TypeId} (h : W.heap[g]? = some (.cells (nums .u8 xs).toArray t (0, 0))) : Row W g xs := ⟨blk_lt h, fun j hj => ⟨nums_at h j hj, blk_frozen h j⟩⟩
theorem Row.drewN {W : World} {g : Nat} {xs : List Int} (h : Row W g xs) (n : Nat) : Row (W.drewN n) g xs := h
theorem Row.below {W W' : World} {g : Nat} {xs : List Int} (h : Row W g xs) {B : Nat} (hb : Below B W W') (hg : g < B) : Row W' g xs :=
  ⟨Nat.lt_of_lt_of_le h.1 hb.size, fun j hj => ⟨(hb.cell (p := ⟨g, j, none⟩) hg).trans (h.2 j hj).1, (hb.frozen (p := ⟨g, j, none⟩) hg).trans (h.2 j hj).2⟩⟩
theorem Row.alloc {W : World} {g : Nat} {xs : List Int} (h : Row W g xs) (o : Obj) : Row (W.alloc o) g xs := h.below (below_alloc (Below.refl _ _) o) h.1
theorem Row.far {W : World} {g : Nat} {xs : List Int} (h : Row W g xs) {p : Addr} (hp : p.block ≠ g) (u : Value) : Row (W.setCell p u) g xs :=
  ⟨by simpa [World.setCell] using h.1, fun j hj => ⟨(World.cell?_setCell_other W p ⟨g, j, none⟩ u (fun e => hp (by rw [e]))).trans (h.2 j hj).1, by rw [World.frozen?_setCell]; exact (h.2 j hj).2⟩⟩
theorem Row.set {W : World} {g : Nat} {xs : List Int} (h : Row W g xs) (k : Nat) (hk : k < xs.length) (x : Int) : Row (W.setCell ⟨g, k, none⟩ (.int .u8 x)) g (xs.set k x) := by
  refine ⟨by simpa [World.setCell] using h.1, fun j hj => ?_⟩
  rw [List.length_set] at hj
  refine ⟨?_, by rw [World.frozen?_setCell]; exact (h.2 j hj).2⟩
  by_cases e : j = k
  · subst e
    rw [World.cell?_setCell_same' _ _ _ (by rw [(h.2 j hj).1]; rfl)]
    simp [List.getD_eq_getElem?_getD, hj]
  · rw [World.cell?_setCell_other W _ _ _ (fun e' => by injection e' with _ h1; exact e h1.symm), (h.2 j hj).1]
    simp [List.getD_eq_getElem?_getD, List.getElem?_set, Ne.symm e]
theorem Row.text {P : Program} {W : World} {g : Nat} {xs : List Int} (h : Row W g xs) (src e dst c : Nat) (hs : P.underlying src = some (.slice e)) (he : P.underlying e = some (.int .u8)) (hd : P.underlying dst = some .string) :
    (convert src dst (.slice (some ⟨g, 0, none⟩) xs.length c)).run P W = .ok (.string (strOfNums xs)) W :=
  run_convert_bytes_arg W src e hs he g 0 xs.length c xs rfl (fun i hi => by rw [Nat.zero_add]; exact (h.2 i hi).1) dst hd
theorem getD_bl (s : ByteArray) (j : Nat) (hj : j < s.size) : (bl s).getD j 0 = ((s[j]'hj).toNat : Int) := by
  simp only [bl, List.getD_eq_getElem?_getD, List.getElem?_map]
  rw [Array.getElem?_toList, Array.getElem?_eq_getElem (by simpa using hj)]
  rfl
theorem Row.of_string (W : World) (s : ByteArray) : Row (Lib.bytesWorld W 5 s) W.heap.size (bl s) := by
  refine ⟨by rw [Lib.bytesWorld_size]; omega, fun j hj => ?_⟩
  rw [bl_length] at hj
  refine ⟨?_, ?_⟩
  · rw [Lib.bytesWorld_cell W 5 s j hj, getD_bl s j hj]
    simp [List.getD_eq_getElem?_getD, hj]
    rfl
  · have hsz : s.size ≤ (Lib.bytesCells W 5 s).size := by simp [Lib.bytesCells]
    simp [World.frozen?, Lib.bytesWorld_at_new]
    omega
theorem spl_set (xs : List Int) (o : Nat) (ys : List Int) (x : Int) (h : o + ys.length < xs.length) : (spl xs o ys).set (o + ys.length) x = spl xs o (ys ++ [x]) := by
  unfold spl
  have ho : (xs.take o).length = o := by rw [List.length_take]; omega
  rw [List.set_append_right _ _ (by rw [ho]; omega), ho, show o + ys.length - o = ys.length by omega, List.set_append_right _ _ (Nat.le_refl _), Nat.sub_self, List.drop_eq_getElem_cons h]
  simp only [List.set_cons_zero, List.append_assoc, List.cons_append, List.nil_append, List.length_append, List.length_cons, List.length_nil]
  rfl
theorem spl_nil (xs : List Int) (o : Nat) : spl xs o [] = xs := by simp [spl]
theorem text_spl (m : ByteArray) (K N : Nat) (v : Int) (h : K + N ≤ m.size) : strOfNums (spl (bl m) K (bytesOf v N)) = m.extract 0 K ++ strOfNums (bytesOf v N) ++ m.extract (K + N) m.size := by
  apply bl_inj
  rw [bl_append, bl_append, bl_extract, bl_extract, bl_num _ (bytesOf_bytes v N), bl_num]
  · simp only [spl, bytesOf_length, List.drop_zero, Nat.sub_zero, List.append_assoc]
    rw [List.take_of_length_le (i := m.size - (K + N)) (by rw [List.length_drop, bl_length]; exact Nat.le_refl _)]
  · intro b hb
    simp only [spl, List.mem_append] at hb
    rcases hb with hb | hb | hb
    · exact bl_bytes m b (List.mem_of_mem_take hb)
    · exact bytesOf_bytes v N b hb
    · exact bl_bytes m b (List.mem_of_mem_drop hb)
theorem u64_wrap (v : Int) : IntKind.u64.wrap v = v % 18446744073709551616 := by simp [IntKind.wrap, IntKind.bits, IntKind.signed]
theorem u64_byte (v : Int) (k : Nat) (hk : k < 8) : IntKind.u64.wrap v / 2 ^ (8 * k) % 256 = v / 256 ^ k % 256 := by
  rw [u64_wrap, pow_bytes]
  obtain rfl | rfl | rfl | rfl | rfl | rfl | rfl | rfl : k = 0 ∨ k = 1 ∨ k = 2 ∨ k = 3 ∨ k = 4 ∨ k = 5 ∨ k = 6 ∨ k = 7 := by omega
  all_goals
    simp only [Int.reducePow]
    omega
set_option maxHeartbeats 4000000 in
set_option maxRecDepth 100000 in
theorem rStore_ok (m : ByteArray) (addr off v : Int) (N : Nat) (w : World) (hm : m.size ≤ 9223372036854775807) (ha : -9223372036854775808 ≤ addr ∧ addr ≤ 9223372036854775807) (ho : -9223372036854775808 ≤ off ∧ off ≤ 9223372036854775807) (hv : -9223372036854775808 ≤ v ∧ v ≤ 9223372036854775807)
    (hN : N = 4 ∨ N = 8) (hok : okAt m.size (plc addr off) N = true) :
    Calls Try.prog 33 #[.string m, .int .i64 addr, .int .i64 off, .int .i64 N, .int .i64 v] w fun e w' => e = .returned (.tuple #[.string (m.extract 0 (plc addr off).toNat ++ strOfNums (bytesOf v N) ++ m.extract ((plc addr off).toNat + N) m.size), .bool true]) ∧ Below w.heap.size w w' := by
  have hc := Place m addr off N
  obtain ⟨K, hK⟩ := Int.eq_ofNat_of_zero_le (plc_bd addr off).1
  have hKN : K + N ≤ m.size := by have := (okAt_iff.mp hok).2; omega
  have hKb : K ≤ 8589934590 := by have := (plc_bd addr off).2; omega
  rw [hok, hK] at hc
  rw [hK, Int.toNat_natCast]
  have HA := Aside0.mk (fun W => hc W hm ha ho (by omega))
  rw [← text_spl m K N v hKN]
  clear hc hok hK
  obtain ⟨hv0, hv1⟩ := hv
  have hcv := fun W => Lib.run_convert_string_bytes (P := Try.prog) W 9 61 5 m Try.underlying9 Try.underlying61 Try.underlying5
  go_enter Try.func33, Try.ntmps33
  go_wp2_with (first
    | (go_at_call 40; (with_reducible refine (HA.out _).mono ?_); rintro e w1 ⟨rfl, rfl⟩))
  clear hcv
  go_loopw [15] (fun i wr => ∃ k : Nat, k ≤ N ∧ i = .int .i64 k ∧ Row wr w.heap.size (spl (bl m) K (bytesOf v k)) ∧ Below w.heap.size w wr) (fun i _ => N - (intOf i).toNat)
  case atStart => exact ⟨0, Nat.zero_le _, rfl, by rw [show bytesOf v 0 = [] from rfl, spl_nil]; exact Row.of_string w m, bytes_below (Below.refl _ _) (Nat.le_refl _) 5 m⟩
  case round =>
    obtain ⟨k, hk, rfl, hrow, hbw⟩ := hrel
    have HW := Aside0.mk (And.intro hrow hbw)
    have hlen : (spl (bl m) K (bytesOf v k)).length = m.size := by rw [spl_length (by rw [bytesOf_length, bl_length]; omega), bl_length]
    have HLn := Aside0.mk hlen
    by_cases hlt : k < N
    · obtain ⟨hck, hfz⟩ := hrow.2 (K + k) (by rw [hlen]; omega)
      have hidx : K + k < m.size := by omega
      clear hrow hbw hlen
      go_wp2
      refine ⟨⟨k + 1, hlt, rfl, ?_, below_own2 HW.out.2 _ _⟩, by simp [intOf]; omega⟩
      have hl2 : K + (bytesOf v k).length < (bl m).length := by rw [bytesOf_length, bl_length]; exact hidx
      have h := HW.out.1.set (K + k) (by rw [HLn.out]; exact hidx) (v / 256 ^ k % 256)
      have h2 := spl_set (bl m) K (bytesOf v k) (v / 256 ^ k % 256) hl2
      rw [bytesOf_length, ← bytesOf_succ] at h2
      rw [h2] at h
      rw [u64_byte v k (by omega)]
      exact h
    · obtain rfl : k = N := by omega
      have hcv := HW.out.1.text (P := Try.prog) 61 5 9 (grownCap w m.size 0 5) Try.underlying61 Try.underlying5 Try.underlying9
      rw [hlen] at hcv
      clear hrow hbw hlen
      go_wp2
      go_ret2
      exact ⟨rfl, HW.out.2⟩
set_option maxHeartbeats 1000000 in
set_option maxRecDepth 100000 in
theorem rStore (m : ByteArray) (addr off n v : Int) (w : World) (hm : m.size ≤ 9223372036854775807) (ha : -9223372036854775808 ≤ addr ∧ addr ≤ 9223372036854775807) (ho : -9223372036854775808 ≤ off ∧ off ≤ 9223372036854775807) (hn : -9223372036854775808 ≤ n ∧ n ≤ 9223372036854775807) (hv : -9223372036854775808 ≤ v ∧ v ≤ 9223372036854775807) :
    Calls Try.prog 33 #[.string m, .int .i64 addr, .int .i64 off, .int .i64 n, .int .i64 v] w fun e w' => e = .returned (.tuple #[.string (str m addr off n v), .bool (okAt m.size (plc addr off) n)]) ∧ Below w.heap.size w w' := by
  unfold str
  cases hok : okAt m.size (plc addr off) n with
  | true =>
    have hN := (okAt_iff.mp hok).1
    obtain ⟨N, rfl⟩ := Int.eq_ofNat_of_zero_le (show 0 ≤ n by omega)
    exact rStore_ok m addr off v N w hm ha ho hv (by omega) hok
  | false =>
    have hc := fun W => Place m addr off n W hm ha ho hn
    rw [hok] at hc
    have HA := Aside0.mk hc
    clear hc hok
    go_enter Try.func33, Try.ntmps33
    go_wp2_with (first
      | (go_at_call 40; (with_reducible refine (HA.out _).mono ?_); rintro e w1 ⟨rfl, rfl⟩))
    go_ret2
    exact ⟨rfl, Below.refl _ _⟩
end Go.Proofs.Ytiacmfgkbgfhkaa.Lin
