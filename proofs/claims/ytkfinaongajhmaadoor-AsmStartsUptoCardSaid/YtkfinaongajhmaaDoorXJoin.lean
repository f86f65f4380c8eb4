/- Bytes put together, and a number as bytes: what the program's functions compute. No condition but lengths. -/
import Derived.Test.YtkfinaongajhmaaDoorXSmall
import Derived.Laws.BytesArg
namespace Go.Proofs.YtkfinaongajhmaaDoor.X
open Go.Ob Go.Ob.Xc Go.RowKit Go.Proofs.YtkfinaongajhmaaDoorW.PrintWords Go.Proofs.YtkfinaongajhmaaDoorW.PrintMore
attribute [local go_sem] max2_int min2_int max_two min_two
set_option linter.unusedVariables false
set_option linter.unusedSimpArgs false
/-- those of some numbers that are none below nought, as bytes -/
def jn (l : List Int) : List Int := (l.filter fun n => decide (0 ≤ n)).map fun n => n % 256
theorem jn_append (l m : List Int) : jn (l ++ m) = jn l ++ jn m := by simp [jn]
theorem jn_bytes (l : List Int) : ∀ b ∈ jn l, 0 ≤ b ∧ b < 256 := by
  intro b hb
  simp only [jn, List.mem_map] at hb
  obtain ⟨x, _, rfl⟩ := hb
  omega
theorem jn_length (l : List Int) : (jn l).length ≤ l.length := by
  unfold jn
  rw [List.length_map]
  exact List.length_filter_le _ _
theorem builder_below {B b : Nat} {bs : List Value} {w w' : World} (h : Lib.IsBuilder 84 5 B b bs w) (hb : Below w.heap.size w w') : Lib.IsBuilder 84 5 B b bs w' := by
  have one : ∀ p, Lib.BuilderAt 84 5 B b p bs w → Lib.BuilderAt 84 5 B b p bs w' := by
    intro p k
    have hlt := k.lt
    obtain ⟨h1, v, h2, h3, h4⟩ := k
    exact ⟨h1, v, (hb.block b hlt).trans h2, pw_own_below h3 hb, h4⟩
  exact h.imp (one _) (one _)
theorem cells_put (x : List Int) (c : Int) (h0 : 0 ≤ c) (h1 : c < 256) : Lib.byteCells (strOfNums (x ++ [c])).data.toList = Lib.byteCells (strOfNums x).data.toList ++ [.int .u8 c] := by
  have e : (strOfNums (x ++ [c])).data.toList = (strOfNums x).data.toList ++ (strOfNums [c]).data.toList := by simp [strOfNums]
  rw [e, Lib.byteCells_append]
  congr 1
  have hb := bl_num [c] (by intro b hb; simp at hb; subst hb; exact ⟨h0, h1⟩)
  unfold bl at hb
  unfold Lib.byteCells
  have h := congrArg (List.map (Value.int IntKind.u8)) hb
  rw [List.map_map] at h
  exact h
theorem str_len (l : List Int) : (strOfNums l).data.toList.length = l.length := by simp [strOfNums]
set_option maxHeartbeats 8000000 in
set_option maxRecDepth 100000 in
theorem Join (L : List Int) (A : Option Addr) (n cap : Nat) (w : World) (hr : ReadsInt w .i64 A n L) (hl : L.length = n) (hn : n ≤ 100) :
    Calls Tryd.prog 34 #[.slice A n cap] w fun e w' => e = .returned (.string (strOfNums (jn L))) ∧ Below w.heap.size w w' := by
  have HR := Aside0.mk hr
  have HL := Aside0.mk hl
  clear hr hl
  go_enter Tryd.func34, Tryd.ntmps34
  go_wp2
  go_loopw [5, 8] (fun _ i wr => ∃ k : Nat, i = .int .i64 k ∧ k ≤ n ∧ Lib.IsBuilder 84 5 w.heap.size w.heap.size (Lib.byteCells (strOfNums (jn (L.take k))).data.toList) wr ∧ Below w.heap.size w wr) (fun _ i _ => n - (intOf i).toNat)
  case atStart => exact ⟨0, rfl, Nat.zero_le _, Lib.fresh_isBuilder 84 5 w, (Below.refl _ w).alloc (Nat.le_refl _) _⟩
  case round =>
    obtain ⟨k, rfl, hk, hB, hbw⟩ := hrel
    have HB := Aside0.mk hB
    have HW := Aside0.mk hbw
    clear hB hbw
    by_cases hlt : k < n
    · obtain ⟨hl', hm', hc'⟩ := HR.out.below HW.out
      obtain ⟨ad, hA, hcell⟩ := hc' (by omega)
      subst hA
      have hck := hcell k hlt
      have hts : L.take (k + 1) = L.take k ++ [L.getD k 0] := by
        rw [List.take_succ_eq_append_getElem (by rw [HL.out]; exact hlt), List.getD_eq_getElem?_getD, List.getElem?_eq_getElem (by rw [HL.out]; exact hlt)]
        rfl
      have HT := Aside0.mk hts
      clear hcell hts hc' hl' hm'
      generalize L.getD k 0 = x at *
      by_cases hx : 0 ≤ x
      · have hlen : (Lib.byteCells (strOfNums (jn (L.take k))).data.toList).length + 1 ≤ 140737488355328 := by
          rw [Lib.byteCells_length, str_len]
          have h1 := jn_length (L.take k)
          have h2 : (L.take k).length ≤ k := by rw [List.length_take]; omega
          omega
        have HX := Aside0.mk (And.intro hlen hx)
        clear hlen
        go_wp2_with (first
          | (go_at_call 56; (with_reducible refine (Bld.put w.heap.size w.heap.size _ _ _ HB.out HX.out.1 HW.out.size).mono ?_); rintro e w3 ⟨rfl, h3, b3⟩; have H3 := Aside0.mk (And.intro h3 b3); clear h3 b3))
        refine ⟨⟨k + 1, rfl, hlt, ?_, HW.out.trans H3.out.2⟩, by simp [intOf]; omega⟩
        rw [HT.out, jn_append, show jn [x] = [x % 256] by simp [jn, hx], cells_put _ _ (by omega) (by omega)]
        exact Or.inr H3.out.1
      · have hx' : x < 0 := by omega
        have HX := Aside0.mk hx
        clear hx
        go_wp2
        refine ⟨⟨k + 1, rfl, hlt, ?_, HW.out⟩, by simp [intOf]; omega⟩
        rw [HT.out, jn_append, show jn [x] = [] by simp [jn]; omega, List.append_nil]
        exact HB.out
    · obtain rfl : k = n := by omega
      have hall : L.take k = L := List.take_of_length_le (by rw [HL.out]; exact Nat.le_refl _)
      rw [hall] at HB
      clear hall
      go_wp2_with (first
        | (go_at_call 52; (with_reducible refine (Bld.told w.heap.size w.heap.size _ _ HB.out HW.out.size).mono ?_); rintro e w2 ⟨rfl, hb2⟩; have H2 := Aside0.mk hb2; clear hb2))
      have B1 : Below w.heap.size w w2 := HW.out.trans H2.out
      go_ret
      exact ⟨rfl, B1⟩
set_option maxHeartbeats 8000000 in
set_option maxRecDepth 100000 in
theorem Number4 (n : Int) (w : World) (hn : -9223372036854775808 ≤ n ∧ n ≤ 9223372036854775807) :
    Calls Tryd.prog 35 #[.int .i64 n, .int .i64 4] w fun e w' => e = .returned (.string (strOfNums (le4 n))) ∧ Below w.heap.size w w' := by
  obtain ⟨h0, h1⟩ := hn
  have hmk : ∀ w, (Instr.makeSlice 82 (.int .i64 4) (.int .i64 4)).run Tryd.prog w = .ok (.slice (some ⟨w.heap.size, 0, none⟩) 4 4) (w.alloc (.cells #[.int .u8 0, .int .u8 0, .int .u8 0, .int .u8 0] 5)) := fun _ => by kernel_rfl
  have hcv := run_convert_bytes_arg (P := Tryd.prog) (w.alloc (.cells #[.int .u8 (n % 256), .int .u8 (n / 256 % 256), .int .u8 (n / 65536 % 256), .int .u8 (n / 16777216 % 256)] 5)) 82 5 Tryd.underlying82 Tryd.underlying5 w.heap.size 0 4 4 (le4 n) rfl (fun i hi => by
    rw [Nat.zero_add, blk_cell (blk_new w _) i]
    have : i = 0 ∨ i = 1 ∨ i = 2 ∨ i = 3 := by omega
    rcases this with rfl | rfl | rfl | rfl <;> rfl) 9 Tryd.underlying9
  have HC := Aside0.mk hcv
  clear hcv
  go_enter Tryd.func35, Tryd.ntmps35
  go_wp2
  refine wp_loop_rounds 5 ?_
  iterate 4 (rw [rounds_succ]; go_wp2)
  rw [rounds_succ]
  clear hmk
  have hcv := HC.out
  go_wp2
  go_ret
  exact ⟨rfl, below_alloc (Below.refl _ _) _⟩
set_option maxHeartbeats 8000000 in
set_option maxRecDepth 100000 in
theorem Number8 (n : Int) (w : World) (hn : -9223372036854775808 ≤ n ∧ n ≤ 9223372036854775807) :
    Calls Tryd.prog 35 #[.int .i64 n, .int .i64 8] w fun e w' => e = .returned (.string (strOfNums (le8 n))) ∧ Below w.heap.size w w' := by
  obtain ⟨h0, h1⟩ := hn
  have hmk : ∀ w, (Instr.makeSlice 82 (.int .i64 8) (.int .i64 8)).run Tryd.prog w = .ok (.slice (some ⟨w.heap.size, 0, none⟩) 8 8) (w.alloc (.cells #[.int .u8 0, .int .u8 0, .int .u8 0, .int .u8 0, .int .u8 0, .int .u8 0, .int .u8 0, .int .u8 0] 5)) := fun _ => by kernel_rfl
  have hcv := run_convert_bytes_arg (P := Tryd.prog) (w.alloc (.cells #[.int .u8 (n % 256), .int .u8 (n / 256 % 256), .int .u8 (n / 65536 % 256), .int .u8 (n / 16777216 % 256), .int .u8 (n / 4294967296 % 256), .int .u8 (n / 1099511627776 % 256), .int .u8 (n / 281474976710656 % 256), .int .u8 (n / 72057594037927936 % 256)] 5)) 82 5 Tryd.underlying82 Tryd.underlying5 w.heap.size 0 8 8 (le8 n) rfl (fun i hi => by
    rw [Nat.zero_add, blk_cell (blk_new w _) i]
    have : i = 0 ∨ i = 1 ∨ i = 2 ∨ i = 3 ∨ i = 4 ∨ i = 5 ∨ i = 6 ∨ i = 7 := by omega
    rcases this with rfl | rfl | rfl | rfl | rfl | rfl | rfl | rfl <;> rfl) 9 Tryd.underlying9
  have HC := Aside0.mk hcv
  clear hcv
  go_enter Tryd.func35, Tryd.ntmps35
  go_wp2
  refine wp_loop_rounds 9 ?_
  iterate 8 (rw [rounds_succ]; go_wp2)
  rw [rounds_succ]
  clear hmk
  have hcv := HC.out
  go_wp2
  go_ret
  exact ⟨rfl, below_alloc (Below.refl _ _) _⟩
end Go.Proofs.YtkfinaongajhmaaDoor.X
