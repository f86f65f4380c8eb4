/- The assembler's places: what the program's function computes. -/
import Derived.Test.YtkfinaongajhmaaDoorALen3
import Derived.Laws.AppendOwn
import Derived.Laws.OwnMore
import Derived.Laws.MakeOwn
import Derived.Test.YtkfinaongajhmaaDoorXWays
import Derived.Carry
import Derived.Lib.SmallJoins
namespace Go.Proofs.YtkfinaongajhmaaDoor.X
open Go.Ob Go.Ob.Xc Go.RowKit Go.Proofs.YtkfinaongajhmaaDoorW.PrintWords Go.Proofs.YtkfinaongajhmaaDoorW.PrintMore
attribute [local go_sem] max2_int min2_int max_two min_two
set_option linter.unusedVariables false
set_option linter.unusedSimpArgs false
/-- the cells of items -/
def TCells (w : World) (a : Addr) (L : List It) : Prop := ∀ i (h : i < L.length),
  w.cell? (a.add (i * 9)) = some (.int .i64 L[i].x.op) ∧ w.cell? ⟨(a.add (i * 9)).block, (a.add (i * 9)).off + 1, none⟩ = some (.bool L[i].x.wide) ∧ w.cell? ⟨(a.add (i * 9)).block, (a.add (i * 9)).off + 2, none⟩ = some (.int .i64 L[i].x.r) ∧
  w.cell? ⟨(a.add (i * 9)).block, (a.add (i * 9)).off + 3, none⟩ = some (.int .i64 L[i].x.b) ∧ w.cell? ⟨(a.add (i * 9)).block, (a.add (i * 9)).off + 4, none⟩ = some (.int .i64 L[i].x.i) ∧ w.cell? ⟨(a.add (i * 9)).block, (a.add (i * 9)).off + 5, none⟩ = some (.int .i64 L[i].x.c) ∧
  w.cell? ⟨(a.add (i * 9)).block, (a.add (i * 9)).off + 6, none⟩ = some (.int .i64 L[i].x.n) ∧ w.cell? ⟨(a.add (i * 9)).block, (a.add (i * 9)).off + 7, none⟩ = some (.int .i64 L[i].lab) ∧ w.cell? ⟨(a.add (i * 9)).block, (a.add (i * 9)).off + 8, none⟩ = some (.int .i64 L[i].to)
/-- the bounds of an item's numbers -/
def NT (t : It) : Prop := NB t.x ∧ (-9223372036854775808 ≤ t.lab ∧ t.lab ≤ 9223372036854775807) ∧ (-9223372036854775808 ≤ t.to ∧ t.to ≤ 9223372036854775807)
/-- a slice of items, with the bounds of its numbers -/
def Its (w : World) (A : Option Addr) (L : List It) : Prop := (∀ t ∈ L, NT t) ∧ (0 < L.length → ∃ a, A = some a ∧ a.block < w.heap.size ∧ TCells w a L)
theorem Its.below {w w' : World} {A : Option Addr} {L : List It} (h : Its w A L) (hb : Below w.heap.size w w') : Its w' A L := by
  refine ⟨h.1, fun h0 => ?_⟩
  obtain ⟨a, rfl, ha, hc⟩ := h.2 h0
  refine ⟨a, rfl, Nat.lt_of_lt_of_le ha hb.size, fun i hi => ?_⟩
  have e : (a.add (i * 9)).block < w.heap.size := by rw [show (a.add (i * 9)).block = a.block by unfold Addr.add; split <;> rfl]; exact ha
  obtain ⟨c0, c1, c2, c3, c4, c5, c6, c7, c8⟩ := hc i hi
  exact ⟨(hb.cell e).trans c0, (hb.cell (p := ⟨(a.add (i * 9)).block, (a.add (i * 9)).off + 1, none⟩) e).trans c1, (hb.cell (p := ⟨(a.add (i * 9)).block, (a.add (i * 9)).off + 2, none⟩) e).trans c2, (hb.cell (p := ⟨(a.add (i * 9)).block, (a.add (i * 9)).off + 3, none⟩) e).trans c3,
    (hb.cell (p := ⟨(a.add (i * 9)).block, (a.add (i * 9)).off + 4, none⟩) e).trans c4, (hb.cell (p := ⟨(a.add (i * 9)).block, (a.add (i * 9)).off + 5, none⟩) e).trans c5, (hb.cell (p := ⟨(a.add (i * 9)).block, (a.add (i * 9)).off + 6, none⟩) e).trans c6, (hb.cell (p := ⟨(a.add (i * 9)).block, (a.add (i * 9)).off + 7, none⟩) e).trans c7,
    (hb.cell (p := ⟨(a.add (i * 9)).block, (a.add (i * 9)).off + 8, none⟩) e).trans c8⟩
/-- the first places, as values -/
def ps (L : List It) (n : Nat) : List Value := (List.range (n + 1)).map fun k => .int .i64 (pos L k)
theorem ps_succ (L : List It) (n : Nat) : ps L (n + 1) = ps L n ++ [.int .i64 (pos L (n + 1))] := by
  unfold ps
  rw [List.range_succ, List.map_append]
  rfl
theorem ps_at (L : List It) (n k : Nat) (h : k ≤ n) : (ps L n)[k]? = some (.int .i64 (pos L k)) := by
  unfold ps
  rw [List.getElem?_map, List.getElem?_range (by omega)]
  rfl
theorem ps_len (L : List It) (n : Nat) : (ps L n).length = n + 1 := by simp [ps]
theorem info_int : (Tryd.prog.info? 3).map (fun i => (i.zero, i.size, i.bytes)) = some (some (.int .i64 0), 1, 8) := by kernel_rfl
theorem made_take (z : Value) (n : Nat) : (madeCells #[z] (n + 1)).toList.take 1 = [z] := by
  have h0 : (madeCells #[z] (n + 1))[0]? = some z := by simp [madeCells]
  have hs : 0 < (madeCells #[z] (n + 1)).size := by rw [size_madeCells]; omega
  rw [Array.getElem?_eq_getElem hs, Option.some.injEq] at h0
  have hl : 0 < (madeCells #[z] (n + 1)).toList.length := by simpa using hs
  rw [List.take_succ_eq_append_getElem hl]
  simpa using h0
/-- what Places answers -/
def PlacesAns (L : List It) (w : World) (e : Ending) (w' : World) : Prop :=
  (if okL L then ∃ v : Value, e = .returned (.tuple #[v, .int .i64 0]) ∧ w'.ownsRow w.heap.size 3 1 v (L.length + 1) (ps L L.length) else e = .returned (.tuple #[.slice none 0 0, .int .i64 4])) ∧ Below w.heap.size w w'
theorem places_no {L : List It} {w w' : World} {e : Ending} (h : okL L = false) (he : e = .returned (.tuple #[.slice none 0 0, .int .i64 4])) (hb : Below w.heap.size w w') : PlacesAns L w e w' := by
  unfold PlacesAns
  rw [h]
  exact ⟨he, hb⟩
theorem places_yes {L : List It} {w w' : World} {e : Ending} {v : Value} (h : okL L = true) (he : e = .returned (.tuple #[v, .int .i64 0])) (ho : w'.ownsRow w.heap.size 3 1 v (L.length + 1) (ps L L.length)) (hb : Below w.heap.size w w') : PlacesAns L w e w' := by
  unfold PlacesAns
  rw [h]
  exact ⟨⟨v, he, ho⟩, hb⟩
theorem one_cell (w : World) (x : Value) (t : TypeId) : ∀ (j : Nat) (u : Value), [x][j]? = some u → (w.alloc (.cells #[x] t)).cell? ((⟨w.heap.size, 0, none⟩ : Addr).add j) = some u := by
  intro j u hj
  match j, hj with
  | 0, hj =>
    simp only [List.getElem?_cons_zero, Option.some.injEq] at hj
    subst hj
    simp [Addr.add]
  | j + 1, hj => simp at hj
set_option maxHeartbeats 16000000 in
set_option maxRecDepth 100000 in
theorem Places (L : List It) (A : Option Addr) (cap : Nat) (w : World) (ht : Tab w) (hL : L.length ≤ 1000) (hi : Its w A L) :
    Calls Tryd.prog 25 #[.slice A L.length cap] w (PlacesAns L w) := by
  obtain ⟨i0, hi0, hz0, hz1, hz2⟩ := info_parts info_int
  have HT := Aside0.mk (And.intro ht hi)
  clear ht hi
  have hmk : (Instr.makeSlice 44 (.int .i64 1) (.int .i64 ((L.length : Int) + 1))).run Tryd.prog w = .ok (.slice (some ⟨w.heap.size, 0, none⟩) 1 (L.length + 1)) (w.alloc (.cells (madeCells #[.int .i64 0] (L.length + 1)) 3)) := by
    have h := run_make (P := Tryd.prog) w 44 3 i0 (.int .i64 0) Tryd.underlying44 hi0 hz0 .i64 .i64 1 ((L.length : Int) + 1) (by decide) (by omega) (by rw [hz2]; omega) (by omega)
    rw [hz1, Nat.mul_one, show ((L.length : Int) + 1).toNat = L.length + 1 by omega, show (1 : Int).toNat = 1 by rfl] at h
    exact h
  have h0 : (w.alloc (.cells (madeCells #[.int .i64 0] (L.length + 1)) 3)).ownsRow w.heap.size 3 1 (.slice (some ⟨w.heap.size, 0, none⟩) 1 (L.length + 1)) 1 (ps L 0) := by
    refine ⟨rfl, .inr ⟨w.heap.size, L.length + 1, _, rfl, Nat.le_refl _, blk_new w _, by omega, by unfold maxLen; omega, by rw [size_madeCells, Nat.mul_one], ?_⟩⟩
    rw [made_take]
    unfold ps
    simp [pos_zero]
  go_enter Tryd.func25, Tryd.ntmps25
  go_wp2
  go_loopw [4, 15] (fun v i wr => ∃ n : Nat, i = .int .i64 n ∧ n ≤ L.length ∧ okL (L.take n) = true ∧ wr.ownsRow w.heap.size 3 1 v (n + 1) (ps L n) ∧ Below w.heap.size w wr) (fun _ i _ => L.length - (intOf i).toNat)
  case atStart => exact ⟨0, rfl, Nat.zero_le _, rfl, h0, below_alloc (Below.refl _ _) _⟩
  case round =>
    obtain ⟨n, rfl, hn, hall, hown, hbw⟩ := hrel
    have HW := Aside0.mk hbw
    have HO := Aside0.mk hown
    have HA := Aside0.mk hall
    clear hown hall
    by_cases hlt : n < L.length
    · obtain ⟨hnb, hcs⟩ := HT.out.2.below hbw
      obtain ⟨a, hA, hab, hc⟩ := hcs (by omega)
      subst hA
      obtain ⟨c0, c1, c2, c3, c4, c5, c6, c7, c8⟩ := hc n hlt
      have HX := Aside0.mk (show NB L[n].x from (hnb L[n] (List.getElem_mem hlt)).1)
      have HY := Aside0.mk (List.take_succ_eq_append_getElem hlt)
      have HP := Aside0.mk (pos_succ L n hlt)
      have HG := Aside0.mk (List.getElem_mem hlt)
      have hu := Tryd.underlying56
      clear hbw hc hcs hnb
      generalize hq : L[n] = t at *
      clear hq
      obtain ⟨⟨o, wd, r, b, i, c, nn⟩, lab, jt⟩ := t
      dsimp only at c0 c1 c2 c3 c4 c5 c6 c7 c8
      have hL2 := fun W (hW : Tab W) => Length ⟨⟨o, wd, r, b, i, c, nn⟩, lab, jt⟩ W hW HX.out
      unfold lenA at hL2
      cases hk : lenI ⟨⟨o, wd, r, b, i, c, nn⟩, lab, jt⟩ with
      | none =>
        rw [hk] at hL2
        have HL := Aside0.mk hL2
        have HK := Aside0.mk hk
        have hbad : okL L = false := by
          rw [Bool.eq_false_iff]
          intro h
          have := List.all_eq_true.mp h _ HG.out
          rw [hk] at this
          cases this
        have HB := Aside0.mk hbad
        clear hL2 hk hbad
        go_wp2_with (go_at_call 53; (with_reducible refine (HL.out _ ((HT.out.1.below HW.out).below (below_alloc (Below.refl _ _) _))).mono ?_); rintro e w2 ⟨rfl, hb2⟩; have H2 := Aside0.mk hb2; clear hb2)
        go_ret2
        exact places_no HB.out rfl ((HW.out.alloc HW.out.size _).trans (H2.out.mono (Nat.le_trans HW.out.size (by simp))))
      | some k =>
        rw [hk] at hL2
        have HL := Aside0.mk hL2
        have HK := Aside0.mk hk
        have hp := pos_bd L n
        have hkl : k ≤ 15 := by have := lenI_le ⟨⟨o, wd, r, b, i, c, nn⟩, lab, jt⟩; rw [hk] at this; exact this
        have HP2 := Aside0.mk (show pos L (n + 1) = pos L n + (k : Int) by rw [HP.out, hk]; rfl)
        obtain ⟨hlen, (⟨hv, h00⟩ | ⟨g, cp, cur, hv, hg, hh, hcn, hcm, hcs, htk⟩)⟩ := HO.out
        · omega
        subst hv
        have HG2 := Aside0.mk (blk_lt hh)
        clear hL2 hk hlen hh hcm hcs htk hcn
        obtain ⟨hp0, hp1⟩ := hp
        have hs0 : 0 ≤ pos L n + (k : Int) := by omega
        go_wp2_with (first
          | (go_at_call 53; (with_reducible refine (HL.out _ ((HT.out.1.below HW.out).below (below_alloc (Below.refl _ _) _))).mono ?_); rintro e w2 ⟨rfl, hb2⟩; have H2 := Aside0.mk hb2; have o2 := pw_own_below (HO.out.alloc _) hb2; have cN := o2.cellAt n (by omega); rw [ps_at L n n (Nat.le_refl _)] at cN; have O2 := Aside0.mk o2; clear hb2 o2)
          | (at_builtin; refine wpList_append_own _ rfl _ _ 44 rfl w.heap.size 3 i0 (.int .i64 0) 1 8 Tryd.underlying44 hi0 hz0 hz1 hz2 rfl (by decide) _ _ _ rfl (O2.out.alloc _) ⟨w2.heap.size, 0, none⟩ 1 1 [.int .i64 (pos L n + (k : Int))] rfl rfl ?c1 ?c2 ?c3 ?c4 ?c5 ?_))
        case c1 => exact one_cell _ _ _
        case c2 => intro u hu; simp at hu; subst hu; rfl
        case c3 => unfold maxLen; omega
        case c4 => omega
        case c5 => exact Nat.le_trans HW.out.size (Nat.le_trans (by simp) (Nat.le_trans H2.out.size (by simp)))
        intro v' w3 hown3 hgrow _
        have H3 := Aside0.mk (And.intro hown3 hgrow)
        clear hown3 hgrow
        go_wp2
        have B2 : Below w.heap.size w w2 := (HW.out.alloc HW.out.size _).trans (H2.out.mono (Nat.le_trans HW.out.size (by simp)))
        have B3 : Below w.heap.size w w3 := (B2.alloc B2.size _).grown H3.out.2 (Nat.le_trans B2.size (by simp)) (fun k hk => by cases hk; exact hg)
        refine ⟨⟨n + 1, by simp, hlt, ?_, ?_, B3⟩, by simp [intOf]; omega⟩
        · rw [HY.out]
          have ha := HA.out
          unfold okL at ha ⊢
          rw [List.all_append, ha]
          simp [HK.out]
        · rw [ps_succ, HP2.out]
          exact H3.out.1
    · obtain rfl : n = L.length := by omega
      have hall := HA.out
      rw [List.take_length] at hall
      have HL := Aside0.mk hall
      clear hall hbw
      go_wp2
      go_ret2
      exact places_yes HL.out rfl HO.out HW.out
end Go.Proofs.YtkfinaongajhmaaDoor.X
/- A slice of items as a parameter: opened. -/
namespace Go.Proofs.YtkfinaongajhmaaDoor.X
open Go.Ob Go.Ob.Xc Go.ChangeShapes Go.WideShapes Go.ChangeAt Go.RowKit
set_option linter.unusedVariables false
set_option linter.unusedSimpArgs false
theorem cellsT : Tryd.prog.cellsOf 56 = 9 := by kernel_rfl
set_option maxRecDepth 100000 in
/-- an instruction's cells, read -/
theorem x_cells7 {H : Type} {enc : TypeId × Value → H} {W : World} {b0 : Nat} {sp : Nat → Bool} {hd : Bool} {n : Nat} {cs : List Value} {x : DataW H × List MemPlace} (hcs : cs.length = 7)
    (h : DataW.trod enc Tryd.prog W b0 sp hd n 23 cs = some x) :
    ∃ y : XI, cs = [.int .i64 y.op, .bool y.wide, .int .i64 y.r, .int .i64 y.b, .int .i64 y.i, .int .i64 y.c, .int .i64 y.n] ∧ NB y := by
  obtain ⟨xs, n, _, _, _, hlen, hf⟩ := DataW.trod_struct Tryd.underlying23 h
  have f0 := hf 0 _ rfl
  have f1 := hf 1 _ rfl
  have f2 := hf 2 _ rfl
  have f3 := hf 3 _ rfl
  have f4 := hf 4 _ rfl
  have f5 := hf 5 _ rfl
  have f6 := hf 6 _ rfl
  match cs, hcs with
  | [u0, u1, u2, u3, u4, u5, u6], _ =>
    match xs, hlen with
    | [x0, x1, x2, x3, x4, x5, x6], _ =>
      simp [cellsInt, cellsBool] at f0 f1 f2 f3 f4 f5 f6
      obtain ⟨q0, e0, _, w0⟩ := DataW.trod_int Tryd.underlying3 f0
      obtain ⟨q1, e1, _⟩ := DataW.trod_bool Tryd.underlying4 f1
      obtain ⟨q2, e2, _, w2⟩ := DataW.trod_int Tryd.underlying3 f2
      obtain ⟨q3, e3, _, w3⟩ := DataW.trod_int Tryd.underlying3 f3
      obtain ⟨q4, e4, _, w4⟩ := DataW.trod_int Tryd.underlying3 f4
      obtain ⟨q5, e5, _, w5⟩ := DataW.trod_int Tryd.underlying3 f5
      obtain ⟨q6, e6, _, w6⟩ := DataW.trod_int Tryd.underlying3 f6
      simp at e0 e1 e2 e3 e4 e5 e6
      subst e0 e1 e2 e3 e4 e5 e6
      exact ⟨⟨q0, q1, q2, q3, q4, q5, q6⟩, rfl, bounds_i64 w6⟩
set_option maxRecDepth 100000 in
/-- an item's cells, read -/
theorem t_cells {H : Type} {enc : TypeId × Value → H} {W : World} {b0 : Nat} {sp : Nat → Bool} {hd : Bool} {n : Nat} {cs : List Value} {x : DataW H × List MemPlace} (hcs : cs.length = 9)
    (h : DataW.trod enc Tryd.prog W b0 sp hd n 56 cs = some x) :
    ∃ y : It, cs = [.int .i64 y.x.op, .bool y.x.wide, .int .i64 y.x.r, .int .i64 y.x.b, .int .i64 y.x.i, .int .i64 y.x.c, .int .i64 y.x.n, .int .i64 y.lab, .int .i64 y.to] ∧ NT y := by
  obtain ⟨xs, n, _, _, _, hlen, hf⟩ := DataW.trod_struct Tryd.underlying56 h
  have f0 := hf 0 _ rfl
  have f1 := hf 1 _ rfl
  have f2 := hf 2 _ rfl
  match cs, hcs with
  | [u0, u1, u2, u3, u4, u5, u6, u7, u8], _ =>
    match xs, hlen with
    | [x0, x1, x2], _ =>
      simp [cellsInt, cellsX] at f0 f1 f2
      obtain ⟨y, hy, hn⟩ := x_cells7 (by rfl) f0
      obtain ⟨q1, e1, _, w1⟩ := DataW.trod_int Tryd.underlying3 f1
      obtain ⟨q2, e2, _, w2⟩ := DataW.trod_int Tryd.underlying3 f2
      simp at e1 e2 hy
      obtain ⟨rfl, rfl, rfl, rfl, rfl, rfl, rfl⟩ := hy
      subst e1 e2
      exact ⟨⟨y, q1, q2⟩, rfl, hn, bounds_i64 w1, bounds_i64 w2⟩
/-- a slice of items, as a value -/
def TsIs (W : World) (v : Value) : Prop := ∃ (L : List It) (A : Option Addr) (cap : Nat), v = .slice A L.length cap ∧ L.length ≤ cap ∧ L.length ≤ 9223372036854775807 ∧ Its W A L
theorem ts_nil (W : World) : TsIs W (.slice none 0 0) := ⟨[], none, 0, rfl, Nat.le_refl _, by decide, fun t ht => by simp at ht, fun h => absurd h (by simp)⟩
theorem ts_some {H : Type} {enc : TypeId × Value → H} {W : World} {b0 : Nat} {sp : Nat → Bool} {hd : Bool} {n : Nat} {D : Nat → DataW H} {Pl : Nat → List MemPlace} (a : Addr) (len cap : Nat) (hl : len ≤ cap) (hm : cap ≤ maxLen)
    (hx : ∀ i, i < len → ∃ cs', W.cells? b0 (a.add (i * Tryd.prog.cellsOf 56)) (Tryd.prog.cellsOf 56) = some cs' ∧ DataW.trod enc Tryd.prog W b0 sp hd n 56 cs' = some (D i, Pl i)) : TsIs W (.slice (some a) len cap) := by
  have each : ∀ i, i < len → ∃ y : It, (W.cell? (a.add (i * 9)) = some (.int .i64 y.x.op) ∧ W.cell? ⟨(a.add (i * 9)).block, (a.add (i * 9)).off + 1, none⟩ = some (.bool y.x.wide) ∧ W.cell? ⟨(a.add (i * 9)).block, (a.add (i * 9)).off + 2, none⟩ = some (.int .i64 y.x.r) ∧
      W.cell? ⟨(a.add (i * 9)).block, (a.add (i * 9)).off + 3, none⟩ = some (.int .i64 y.x.b) ∧ W.cell? ⟨(a.add (i * 9)).block, (a.add (i * 9)).off + 4, none⟩ = some (.int .i64 y.x.i) ∧ W.cell? ⟨(a.add (i * 9)).block, (a.add (i * 9)).off + 5, none⟩ = some (.int .i64 y.x.c) ∧
      W.cell? ⟨(a.add (i * 9)).block, (a.add (i * 9)).off + 6, none⟩ = some (.int .i64 y.x.n) ∧ W.cell? ⟨(a.add (i * 9)).block, (a.add (i * 9)).off + 7, none⟩ = some (.int .i64 y.lab) ∧ W.cell? ⟨(a.add (i * 9)).block, (a.add (i * 9)).off + 8, none⟩ = some (.int .i64 y.to)) ∧ NT y := by
    intro i hi
    obtain ⟨cs', h1, h2⟩ := hx i hi
    rw [cellsT] at h1
    obtain ⟨_, hlen, hcell⟩ := World.cells?_some h1
    obtain ⟨y, rfl, hn⟩ := t_cells hlen h2
    have z := fun k (h : k < 9) => hcell k h
    exact ⟨y, ⟨by simpa [Addr.add] using z 0 (by decide), by simpa [Addr.add] using z 1 (by decide), by simpa [Addr.add] using z 2 (by decide), by simpa [Addr.add] using z 3 (by decide), by simpa [Addr.add] using z 4 (by decide), by simpa [Addr.add] using z 5 (by decide), by simpa [Addr.add] using z 6 (by decide), by simpa [Addr.add] using z 7 (by decide), by simpa [Addr.add] using z 8 (by decide)⟩, hn⟩
  obtain ⟨q, hq⟩ := Go.Deep.choose_lt each
  have hlenL : ((List.range len).map q).length = len := by simp
  unfold maxLen at hm
  refine ⟨(List.range len).map q, some a, cap, by rw [hlenL], by rw [hlenL]; exact hl, by rw [hlenL]; omega, fun t ht => ?_, fun h0 => ⟨a, rfl, ?_, fun i hi => ?_⟩⟩
  · obtain ⟨i, hi, rfl⟩ := List.mem_map.mp ht
    exact (hq i (List.mem_range.mp hi)).2
  · rw [hlenL] at h0
    have := World.block_lt_of_cell? _ _ (hq 0 h0).1.1
    simpa [Addr.add] using this
  · rw [hlenL] at hi
    simpa using (hq i hi).1
end Go.Proofs.YtkfinaongajhmaaDoor.X
