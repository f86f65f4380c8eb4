/- Instructions written one behind the other: the program's. -/
import Derived.Test.YtkfinaongajhmaaDoorXWays
namespace Go.Proofs.YtkfinaongajhmaaDoor.X
open Go.Ob Go.Ob.Xc Go.RowKit Go.Proofs.YtkfinaongajhmaaDoorW.PrintWords Go.Proofs.YtkfinaongajhmaaDoorW.PrintMore
attribute [local go_sem] max2_int min2_int max_two min_two
set_option linter.unusedVariables false
set_option linter.unusedSimpArgs false
/-- the bytes of some, one behind the other -/
def cat : List XI → List Int
  | [] => []
  | x :: l => enc x ++ cat l
/-- are all instructions -/
def allRt (l : List XI) : Bool := l.all right
theorem cat_append (l m : List XI) : cat (l ++ m) = cat l ++ cat m := by
  induction l with
  | nil => rfl
  | cons x l ih => simp [cat, ih]
theorem cat_ok (l : List XI) (h : allRt l = true) : (cat l).length ≤ 15 * l.length ∧ ∀ b ∈ cat l, 0 ≤ b ∧ b < 256 := by
  induction l with
  | nil => exact ⟨by simp [cat], by simp [cat]⟩
  | cons x l ih =>
    unfold allRt at h
    rw [List.all_cons, Bool.and_eq_true] at h
    obtain ⟨h1, h2⟩ := ih h.2
    have h3 := enc_len x
    refine ⟨by simp only [cat, List.length_append, List.length_cons]; omega, ?_⟩
    intro b hb
    simp only [cat, List.mem_append] at hb
    exact hb.elim (enc_okl h.1 b) (h2 b)
theorem cells_cat (x y : List Int) : Lib.byteCells (strOfNums (x ++ y)).data.toList = Lib.byteCells (strOfNums x).data.toList ++ Lib.strCells (strOfNums y) := by
  rw [Lib.strCells_eq, ← Lib.byteCells_append]
  congr 1
  simp [strOfNums]
theorem size_num {l : List Int} (h : ∀ b ∈ l, 0 ≤ b ∧ b < 256) : (strOfNums l).size = l.length := by rw [← Go.Ob.bl_length, Go.Ob.bl_num l h]
/-- the cells of some -/
def CellsAt (w : World) (a : Addr) (L : List XI) : Prop := ∀ i (h : i < L.length),
  w.cell? (a.add (i * 7)) = some (.int .i64 L[i].op) ∧ w.cell? ⟨(a.add (i * 7)).block, (a.add (i * 7)).off + 1, none⟩ = some (.bool L[i].wide) ∧ w.cell? ⟨(a.add (i * 7)).block, (a.add (i * 7)).off + 2, none⟩ = some (.int .i64 L[i].r) ∧
  w.cell? ⟨(a.add (i * 7)).block, (a.add (i * 7)).off + 3, none⟩ = some (.int .i64 L[i].b) ∧ w.cell? ⟨(a.add (i * 7)).block, (a.add (i * 7)).off + 4, none⟩ = some (.int .i64 L[i].i) ∧ w.cell? ⟨(a.add (i * 7)).block, (a.add (i * 7)).off + 5, none⟩ = some (.int .i64 L[i].c) ∧
  w.cell? ⟨(a.add (i * 7)).block, (a.add (i * 7)).off + 6, none⟩ = some (.int .i64 L[i].n)
theorem CellsAt.below {w w' : World} {a : Addr} {L : List XI} (h : CellsAt w a L) (ha : 0 < L.length → a.block < w.heap.size) (hb : Below w.heap.size w w') : CellsAt w' a L := fun i hi => by
  have e : (a.add (i * 7)).block < w.heap.size := by rw [show (a.add (i * 7)).block = a.block by unfold Addr.add; split <;> rfl]; exact ha (by omega)
  obtain ⟨c0, c1, c2, c3, c4, c5, c6⟩ := h i hi
  exact ⟨(hb.cell e).trans c0, (hb.cell (p := ⟨(a.add (i * 7)).block, (a.add (i * 7)).off + 1, none⟩) e).trans c1, (hb.cell (p := ⟨(a.add (i * 7)).block, (a.add (i * 7)).off + 2, none⟩) e).trans c2, (hb.cell (p := ⟨(a.add (i * 7)).block, (a.add (i * 7)).off + 3, none⟩) e).trans c3,
    (hb.cell (p := ⟨(a.add (i * 7)).block, (a.add (i * 7)).off + 4, none⟩) e).trans c4, (hb.cell (p := ⟨(a.add (i * 7)).block, (a.add (i * 7)).off + 5, none⟩) e).trans c5, (hb.cell (p := ⟨(a.add (i * 7)).block, (a.add (i * 7)).off + 6, none⟩) e).trans c6⟩
set_option maxHeartbeats 8000000 in
set_option maxRecDepth 100000 in
theorem All_some (L : List XI) (a : Addr) (cap : Nat) (w : World) (ht : Tab w) (hL : L.length ≤ 5864062014805) (ha : 0 < L.length → a.block < w.heap.size) (hc : CellsAt w a L) (hw : ∀ x ∈ L, NB x) :
    Calls Tryd.prog 22 #[.slice (some a) L.length cap] w fun e w' => (e = if allRt L then .returned (.tuple #[.string (strOfNums (cat L)), .int .i64 0]) else .returned (.tuple #[.string ⟨#[]⟩, .int .i64 4])) ∧ Below w.heap.size w w' := by
  have HT := Aside0.mk ht
  clear ht
  go_enter Tryd.func22, Tryd.ntmps22
  go_wp2
  go_loopw [11] (fun i wr => ∃ n : Nat, i = .int .i64 n ∧ n ≤ L.length ∧ allRt (L.take n) = true ∧ Lib.IsBuilder 84 5 w.heap.size w.heap.size (Lib.byteCells (strOfNums (cat (L.take n))).data.toList) wr ∧ Below w.heap.size w wr) (fun i _ => L.length - (intOf i).toNat)
  case atStart => exact ⟨0, rfl, Nat.zero_le _, rfl, Lib.fresh_isBuilder 84 5 w, (Below.refl _ w).alloc (Nat.le_refl _) _⟩
  case round =>
    obtain ⟨n, rfl, hn, hall, hB, hbw⟩ := hrel
    have HB := Aside0.mk hB
    have HW := Aside0.mk hbw
    clear hB
    by_cases hlt : n < L.length
    · obtain ⟨c0, c1, c2, c3, c4, c5, c6⟩ := (hc.below ha hbw) n hlt
      have HX := Aside0.mk (show -9223372036854775808 ≤ L[n].n ∧ L[n].n ≤ 9223372036854775807 from hw L[n] (List.getElem_mem hlt))
      have hlast : L.take (n + 1) = L.take n ++ [L[n]] := List.take_succ_eq_append_getElem hlt
      have HY := Aside0.mk hlast
      have HG := Aside0.mk (List.getElem_mem hlt)
      have hu23 := Tryd.underlying23
      clear hbw hc hlast
      generalize hq : L[n] = x at *
      clear hq
      obtain ⟨o, wd, r, b, i, c, nn⟩ := x
      dsimp only at c0 c1 c2 c3 c4 c5 c6
      cases hr : right ⟨o, wd, r, b, i, c, nn⟩ with
      | true =>
        have hk := cat_ok (L.take n) hall
        have hs1 := size_num hk.2
        have hs2 := size_num (enc_okl hr)
        have hel := enc_len ⟨o, wd, r, b, i, c, nn⟩
        have hlen : (Lib.byteCells (strOfNums (cat (L.take n))).data.toList).length + (strOfNums (enc ⟨o, wd, r, b, i, c, nn⟩)).size ≤ 140737488355328 := by
          rw [Lib.byteCells_length, hs2]
          have : (strOfNums (cat (L.take n))).data.toList.length = (strOfNums (cat (L.take n))).size := by rw [Array.length_toList]; rfl
          have h3 : (L.take n).length ≤ n := by rw [List.length_take]; omega
          omega
        have HL := Aside0.mk (And.intro hlen (And.intro hall hr))
        clear hk hs1 hs2 hel hlen hall hr
        go_wp2_with (first
          | (go_at_call 16; (with_reducible refine (Encode_ok ⟨o, wd, r, b, i, c, nn⟩ _ HL.out.2.2 ((HT.out.below HW.out).below (below_alloc (Below.refl _ _) _)) HX.out).mono ?_); rintro e w2 ⟨rfl, hb2⟩; have H2 := Aside0.mk hb2; clear hb2)
          | (go_at_call 51; (with_reducible refine (Bld.write w.heap.size w.heap.size _ _ _ (builder_below (builder_below HB.out ((Below.refl _ _).alloc (Nat.le_refl _) _)) H2.out) HL.out.1 (Nat.le_trans HW.out.size (Nat.le_trans (by simp) H2.out.size))).mono ?_); rintro e w3 ⟨rfl, h3, b3⟩; have H3 := Aside0.mk (And.intro h3 b3); clear h3 b3))
        have B1 : Below w.heap.size w w2 := (HW.out.alloc HW.out.size _).trans (H2.out.mono (Nat.le_trans HW.out.size (by simp)))
        obtain ⟨_, hall, hr⟩ := HL.out
        refine ⟨⟨n + 1, by simp, hlt, ?_, ?_, B1.trans H3.out.2⟩, by simp [intOf]; omega⟩
        · rw [HY.out]
          unfold allRt at hall ⊢
          rw [List.all_append, hall]
          simp [hr]
        · rw [HY.out, cat_append, cells_cat]
          simp only [cat, List.append_nil]
          exact Or.inr H3.out.1
      | false =>
        have HL := Aside0.mk hr
        clear hall hr
        go_wp2_with (first
          | (go_at_call 16; (with_reducible refine (Encode_no ⟨o, wd, r, b, i, c, nn⟩ _ HL.out ((HT.out.below HW.out).below (below_alloc (Below.refl _ _) _)) HX.out).mono ?_); rintro e w2 ⟨rfl, hb2⟩; have H2 := Aside0.mk hb2; clear hb2))
        · have h : allRt L = true := by assumption
          exact absurd (List.all_eq_true.mp h _ HG.out) (by rw [HL.out]; decide)
        · have B1 : Below w.heap.size w w2 := (HW.out.alloc HW.out.size _).trans (H2.out.mono (Nat.le_trans HW.out.size (by simp)))
          go_ret2
          exact ⟨rfl, B1⟩
    · obtain rfl : n = L.length := by omega
      rw [List.take_length] at hall
      have HL := Aside0.mk hall
      clear hbw hc hall
      go_wp2_with (first
        | (go_at_call 52; (with_reducible refine (Bld.told w.heap.size w.heap.size _ _ HB.out HW.out.size).mono ?_); rintro e w2 ⟨rfl, hb2⟩; have H2 := Aside0.mk hb2; clear hb2))
      · have B1 : Below w.heap.size w w2 := HW.out.trans H2.out
        go_ret2
        exact ⟨rfl, B1⟩
      · exact absurd HL.out (by assumption)
set_option maxHeartbeats 8000000 in
set_option maxRecDepth 100000 in
theorem All_nil (w : World) : Calls Tryd.prog 22 #[.slice none 0 0] w fun e w' => e = .returned (.tuple #[.string ⟨#[]⟩, .int .i64 0]) ∧ Below w.heap.size w w' := by
  go_enter Tryd.func22, Tryd.ntmps22
  go_wp2
  go_loopw [11] (fun i wr => i = .int .i64 0 ∧ Lib.IsBuilder 84 5 w.heap.size w.heap.size (Lib.byteCells []) wr ∧ Below w.heap.size w wr) (fun _ _ => 0)
  case atStart => exact ⟨rfl, Lib.fresh_isBuilder 84 5 w, (Below.refl _ w).alloc (Nat.le_refl _) _⟩
  case round =>
    obtain ⟨rfl, hB, hbw⟩ := hrel
    have HB := Aside0.mk hB
    have HW := Aside0.mk hbw
    clear hB hbw
    go_wp2_with (first
      | (go_at_call 52; (with_reducible refine (Bld.told w.heap.size w.heap.size _ _ HB.out HW.out.size).mono ?_); rintro e w2 ⟨rfl, hb2⟩; have H2 := Aside0.mk hb2; clear hb2))
    have B1 : Below w.heap.size w w2 := HW.out.trans H2.out
    go_ret2
    exact ⟨rfl, B1⟩
end Go.Proofs.YtkfinaongajhmaaDoor.X
