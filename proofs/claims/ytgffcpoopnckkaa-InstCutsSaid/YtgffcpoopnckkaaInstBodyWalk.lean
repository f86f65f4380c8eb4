/- The program's body of instructions: what its function computes. -/
import Derived.Test.YtgffcpoopnckkaaBuilder
import Derived.Test.YtgffcpoopnckkaaMIx4
import Derived.Test.YtgffcpoopnckkaaInstCore
import Derived.WalkKit
import Derived.BigCall
import Derived.LoopTactic
namespace Go.Proofs.Ytgffcpoopnckkaa.BodyWalk
open Go.RowKit Go.Proofs.Ytgffcpoopnckkaa.MI Go.Proofs.YtgffcpoopnckkaaW.PrintWords Go.Proofs.YtgffcpoopnckkaaW.PrintLast Go.Proofs.YtgffcpoopnckkaaW.PrintMore Go.Ob.Inst Go.Proofs.Ytgffcpoopnckkaa.CoreInst
set_option linter.unusedVariables false
set_option linter.unusedSimpArgs false
theorem builder_below {B b : Nat} {bs : List Value} {w w' : World} (h : Lib.IsBuilder 56 5 B b bs w) (hb : Below w.heap.size w w') : Lib.IsBuilder 56 5 B b bs w' := by
  have one : ∀ p, Lib.BuilderAt 56 5 B b p bs w → Lib.BuilderAt 56 5 B b p bs w' := by
    intro p k
    have hlt := k.lt
    obtain ⟨h1, v, h2, h3, h4⟩ := k
    exact ⟨h1, v, (hb.block b hlt).trans h2, pw_own_below h3 hb, h4⟩
  exact h.imp (one _) (one _)
abbrev I3 := Int × Int × Int
/-- the bytes of some, one behind the other -/
def cat : List I3 → List Int
  | [] => []
  | x :: l => enc x.1 x.2.1 x.2.2 ++ cat l
/-- are all instructions -/
def allRt (l : List I3) : Bool := l.all fun x => rt x.1 x.2.1 x.2.2
/-- the cells of some -/
def CellsAt (w : World) (a : Addr) (L : List I3) : Prop := ∀ i (h : i < L.length), w.cell? (a.add (i * 3)) = some (.int .i64 L[i].1) ∧ w.cell? ⟨(a.add (i * 3)).block, (a.add (i * 3)).off + 1, none⟩ = some (.int .i64 L[i].2.1) ∧ w.cell? ⟨(a.add (i * 3)).block, (a.add (i * 3)).off + 2, none⟩ = some (.int .i64 L[i].2.2)
theorem cells_cat (x y : List Int) : Lib.byteCells (strOfNums (x ++ y)).data.toList = Lib.byteCells (strOfNums x).data.toList ++ Lib.strCells (strOfNums y) := by
  rw [Lib.strCells_eq, ← Lib.byteCells_append]
  congr 1
  simp [strOfNums]
theorem cat_append (l m : List I3) : cat (l ++ m) = cat l ++ cat m := by
  induction l with
  | nil => rfl
  | cons x l ih => simp [cat, ih]
theorem cat_ok (l : List I3) (hw : ∀ x ∈ l, -9223372036854775808 ≤ x.2.1 ∧ x.2.1 ≤ 9223372036854775807) (h : allRt l = true) : (cat l).length ≤ 20 * l.length ∧ ∀ b ∈ cat l, 0 ≤ b ∧ b < 256 := by
  induction l with
  | nil => exact ⟨by simp [cat], by simp [cat]⟩
  | cons x l ih =>
    unfold allRt at h
    rw [List.all_cons, Bool.and_eq_true] at h
    obtain ⟨h1, h2⟩ := ih (fun y hy => hw y (by simp [hy])) h.2
    have hx := hw x (by simp)
    have h3 := enc_len x.1 x.2.1 x.2.2 hx.1 hx.2 h.1
    refine ⟨by simp only [cat, List.length_append, List.length_cons]; omega, ?_⟩
    intro b hb
    simp only [cat, List.mem_append] at hb
    exact hb.elim (enc_bytes _ _ _ h.1 b) (h2 b)
theorem size_num {l : List Int} (h : ∀ b ∈ l, 0 ≤ b ∧ b < 256) : (strOfNums l).size = l.length := by rw [← Go.Ob.bl_length, Go.Ob.bl_num l h]
set_option maxHeartbeats 8000000 in
set_option maxRecDepth 100000 in
theorem Body_some (L : List I3) (a : Addr) (cap : Nat) (w : World) (hL : L.length ≤ 5864062014805) (ha : 0 < L.length → a.block < w.heap.size) (hc : CellsAt w a L) (hw : ∀ x ∈ L, -9223372036854775808 ≤ x.2.1 ∧ x.2.1 ≤ 9223372036854775807) :
    Calls Try.prog 18 #[.slice (some a) L.length cap] w fun e w' => (e = if allRt L then .returned (.tuple #[.string (strOfNums (cat L)), .int .i64 0]) else .returned (.tuple #[.string ⟨#[]⟩, .int .i64 4])) ∧ Below w.heap.size w w' := by
  go_enter Try.func18, Try.ntmps18
  go_wp2
  go_loopw [11] (fun i wr => ∃ n : Nat, i = .int .i64 n ∧ n ≤ L.length ∧ allRt (L.take n) = true ∧ Lib.IsBuilder 56 5 w.heap.size w.heap.size (Lib.byteCells (strOfNums (cat (L.take n))).data.toList) wr ∧ Below w.heap.size w wr) (fun i _ => L.length - (intOf i).toNat)
  case atStart => exact ⟨0, rfl, Nat.zero_le _, rfl, Lib.fresh_isBuilder 56 5 w, (Below.refl _ w).alloc (Nat.le_refl _) _⟩
  case round =>
    obtain ⟨n, rfl, hn, hall, hB, hbw⟩ := hrel
    have HB := Aside0.mk hB
    have HW := Aside0.mk hbw
    clear hB
    by_cases hlt : n < L.length
    · obtain ⟨c0, c1, c2⟩ := hc n hlt
      have d0 : wr.cell? (a.add (n * 3)) = _ := (hbw.cell (by show (a.add (n * 3)).block < _; rw [show (a.add (n * 3)).block = a.block by unfold Addr.add; split <;> rfl]; exact ha (by omega))).trans c0
      have d1 : wr.cell? ⟨(a.add (n * 3)).block, (a.add (n * 3)).off + 1, none⟩ = _ := (hbw.cell (by show (a.add (n * 3)).block < _; rw [show (a.add (n * 3)).block = a.block by unfold Addr.add; split <;> rfl]; exact ha (by omega))).trans c1
      have d2 : wr.cell? ⟨(a.add (n * 3)).block, (a.add (n * 3)).off + 2, none⟩ = _ := (hbw.cell (by show (a.add (n * 3)).block < _; rw [show (a.add (n * 3)).block = a.block by unfold Addr.add; split <;> rfl]; exact ha (by omega))).trans c2
      have hu23 := Try.underlying23
      have hx := hw L[n] (List.getElem_mem hlt)
      have hlast : L.take (n + 1) = L.take n ++ [L[n]] := List.take_succ_eq_append_getElem hlt
      clear hbw hc
      cases hr : rt L[n].1 L[n].2.1 L[n].2.2 with
      | true =>
        have hb := Aside0.mk (Bytes_ok L[n].1 L[n].2.1 L[n].2.2 hx.1 hx.2 hr 20 (by decide))
        have hk := cat_ok (L.take n) (fun y hy => hw y (List.mem_of_mem_take hy)) hall
        have hs1 := size_num hk.2
        have hs2 := size_num (enc_bytes _ _ _ hr)
        have hel := enc_len _ _ _ hx.1 hx.2 hr
        have hlen : (Lib.byteCells (strOfNums (cat (L.take n))).data.toList).length + (strOfNums (enc L[n].1 L[n].2.1 L[n].2.2)).size ≤ 140737488355328 := by
          rw [Lib.byteCells_length, hs2]
          have : (strOfNums (cat (L.take n))).data.toList.length = (strOfNums (cat (L.take n))).size := by rw [Array.length_toList]; rfl
          have h3 : (L.take n).length ≤ n := by rw [List.length_take]; omega
          omega
        have HL := Aside0.mk (And.intro hlen (And.intro hlast (And.intro hall hr)))
        clear hk hs1 hs2 hel hlen hlast hall hr hx
        go_wp2_with (first
          | (go_at_call 10; (with_reducible refine (inst_Bytes.calls 20 _ _ _ _ _ _ hb.out).mono ?_); rintro e w2 ⟨rfl, hb2⟩; have H2 := Aside0.mk hb2; clear hb2)
          | (go_at_call 30; (with_reducible refine (Bld.write w.heap.size w.heap.size _ _ _ (builder_below (builder_below HB.out ((Below.refl _ _).alloc (Nat.le_refl _) _)) H2.out) HL.out.1 (Nat.le_trans HW.out.size (Nat.le_trans (by simp) H2.out.size))).mono ?_); rintro e w3 ⟨rfl, h3, b3⟩; have H3 := Aside0.mk (And.intro h3 b3); clear h3 b3))
        have B1 : Below w.heap.size w w2 := (HW.out.alloc HW.out.size _).trans (H2.out.mono (Nat.le_trans HW.out.size (by simp)))
        obtain ⟨_, hlast, hall, hr⟩ := HL.out
        refine ⟨⟨n + 1, by simp, hlt, ?_, ?_, B1.trans H3.out.2⟩, by simp [intOf]; omega⟩
        · rw [hlast]
          unfold allRt at hall ⊢
          rw [List.all_append, hall]
          simp [hr]
        · rw [hlast, cat_append, cells_cat]
          simp only [cat, List.append_nil]
          exact Or.inr H3.out.1
      | false =>
        have hb := Aside0.mk (Bytes_no L[n].1 L[n].2.1 L[n].2.2 hr 20 (by decide))
        have HL := Aside0.mk hr
        clear hlast hall hr hx
        go_wp2_with (first
          | (go_at_call 10; (with_reducible refine (inst_Bytes.calls 20 _ _ _ _ _ _ hb.out).mono ?_); rintro e w2 ⟨rfl, hb2⟩; have H2 := Aside0.mk hb2; clear hb2))
        · have h : allRt L = true := by assumption
          exact absurd (List.all_eq_true.mp h L[n] (List.getElem_mem hlt)) (by rw [HL.out]; decide)
        · have B1 : Below w.heap.size w w2 := (HW.out.alloc HW.out.size _).trans (H2.out.mono (Nat.le_trans HW.out.size (by simp)))
          go_ret2
          exact ⟨rfl, B1⟩
    · obtain rfl : n = L.length := by omega
      rw [List.take_length] at hall
      have HL := Aside0.mk hall
      clear hbw hc hall
      go_wp2_with (first
        | (go_at_call 31; (with_reducible refine (Bld.told w.heap.size w.heap.size _ _ HB.out HW.out.size).mono ?_); rintro e w2 ⟨rfl, hb2⟩; have H2 := Aside0.mk hb2; clear hb2))
      · have B1 : Below w.heap.size w w2 := HW.out.trans H2.out
        go_ret2
        exact ⟨rfl, B1⟩
      · exact absurd HL.out (by assumption)
end Go.Proofs.Ytgffcpoopnckkaa.BodyWalk
