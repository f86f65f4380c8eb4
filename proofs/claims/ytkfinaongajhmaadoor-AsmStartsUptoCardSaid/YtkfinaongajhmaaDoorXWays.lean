/- What Encode and Decode answer, way by way. No condition but the numbers' bounds and that the table of conditions holds what the program's text lays. -/
import Derived.Test.YtkfinaongajhmaaDoorXFields2
import Derived.Test.YtkfinaongajhmaaDoorXSizesLaw
import Derived.Lib.LaidTab
import Derived.Deep.Slices
import Derived.Deep.Strs
import Derived.WalkKit
import Derived.ProofKit
import Derived.OpenShut
import Derived.ShutString
import Derived.ChangeOld
import Derived.Below
import Derived.SizedLaws
namespace Go.Proofs.YtkfinaongajhmaaDoor.X
open Go.Ob Go.Ob.Xc Go.RowKit Go.Proofs.YtkfinaongajhmaaDoorW.PrintWords Go.Proofs.YtkfinaongajhmaaDoorW.PrintMore
set_option linter.unusedVariables false
set_option linter.unusedSimpArgs false
theorem cand_n (s : ByteArray) : NB (cand (bl s)) := by
  unfold cand
  split
  · rename_i h
    rw [← bl_tail s (size_pos (by omega))]
    exact body_n _ _ _ _ _
  · exact body_n _ _ _ _ _
/-- an instruction that is one: its bytes, as a text -/
theorem enc_way (x : XI) (hn : NB x) (h : right x = true) : ∃ t : ByteArray, 1 ≤ t.size ∧ t.size ≤ 10 ∧ bl t = enc x ∧ (∀ W, Tab W → Calls Tryd.prog 16 #[xv x] W fun e w' => e = .returned (.tuple #[.string t, .int .i64 0]) ∧ Below W.heap.size W w') ∧
    ∀ rest : ByteArray, decA (bl (t ++ rest)) = .tuple #[xv x, .int .i64 t.size, .int .i64 0] := by
  have hb := bl_num _ (enc_okl h)
  have hz : (strOfNums (enc x)).size = (enc x).length := by rw [← bl_length, hb]
  obtain ⟨s1, s2, -⟩ := sizes h
  refine ⟨strOfNums (enc x), by omega, by omega, hb, fun W hW => Encode_ok x W h hW hn, fun rest => ?_⟩
  unfold decA
  rw [bl_append, hb, dec_enc x (bl rest) h hn, hz]
/-- bytes that are an instruction, or none -/
theorem dec_way (s : ByteArray) : decA (bl s) = .tuple #[xv ⟨0, false, 0, 0, 0, 0, 0⟩, .int .i64 0, .int .i64 6] ∨
    ∃ (y : XI) (t : ByteArray), NB y ∧ right y = true ∧ bl t = enc y ∧ 1 ≤ t.size ∧ t.size ≤ 10 ∧ t.size ≤ s.size ∧ s.extract 0 t.size = t ∧ decA (bl s) = .tuple #[xv y, .int .i64 t.size, .int .i64 0] ∧
      (∀ W, Tab W → Calls Tryd.prog 16 #[xv y] W fun e w' => e = .returned (.tuple #[.string t, .int .i64 0]) ∧ Below W.heap.size W w') := by
  rcases decA_cases (bl s) _ rfl with ⟨h, hA⟩ | ⟨h, h2, hA⟩ | ⟨h, h2, hA⟩
  · exact .inl hA
  · exact .inl hA
  · have hb := bl_num _ (enc_okl h)
    have hz : (strOfNums (enc (cand (bl s)))).size = (enc (cand (bl s))).length := by rw [← bl_length, hb]
    have hp := of_decide_eq_true h2
    have hle := hp.length_le
    rw [bl_length] at hle
    obtain ⟨s1, s2, -⟩ := sizes h
    refine .inr ⟨cand (bl s), strOfNums (enc (cand (bl s))), cand_n s, h, hb, by omega, by omega, by omega, ?_, by rw [hA, hz], fun W hW => Encode_ok _ W h hW (cand_n s)⟩
    apply bl_inj
    rw [bl_extract, hb, hz]
    simp only [List.drop_zero, Nat.sub_zero]
    exact (List.prefix_iff_eq_take.mp hp).symm
end Go.Proofs.YtkfinaongajhmaaDoor.X
/- The table of conditions as a row lists it, and an instruction as a parameter: opened. -/
namespace Go.Proofs.YtkfinaongajhmaaDoor.X
open Go.Ob Go.Ob.Xc Go.ChangeShapes Go.WideShapes Go.ChangeAt Go.RowKit
set_option linter.unusedVariables false
set_option linter.unusedSimpArgs false
theorem cellsTab : Tryd.prog.cellsOf 104 = 16 := by kernel_rfl
theorem cellsBool : Tryd.prog.cellsOf 4 = 1 := by kernel_rfl
theorem cellsInt : Tryd.prog.cellsOf 3 = 1 := by kernel_rfl
theorem cellsX : Tryd.prog.cellsOf 23 = 7 := by kernel_rfl
theorem gConds : Tryd.prog.globalNamed "oubliette/xcode.conds" = some 0 := by kernel_rfl
theorem gCondsType : (Tryd.prog.globals[0]?).map (·.type) = some 104 := by kernel_rfl
/-- cells that read as the list of conditions hold it -/
theorem tab_cells {H : Type} {enc : TypeId × Value → H} {W : World} {base : Nat} {sp : Nat → Bool} {held : Bool} {fuel : Nat} {cs : List Value} {p : List MemPlace}
    (h : DataW.trod enc Tryd.prog W base sp held fuel 104 cs = some (.agg ((List.range 16).map fun i : Nat => .lit (.bool (cnd (i : Int)))), p)) (i : Nat) (hi : i < 16) : cs[i]? = some (.bool (cnd i)) := by
  obtain ⟨ys, n, _, hx, _, hl, hg⟩ := DataW.trod_array Tryd.underlying104 h
  have g := hg i hi
  rw [cellsBool] at g
  have hyl : i < ys.length := by omega
  rw [List.getElem?_eq_getElem hyl] at g
  obtain ⟨b, hc, hb⟩ := DataW.trod_bool Tryd.underlying4 g
  have hc1 : cs[i]? = some (.bool b) := by
    have h0 := congrArg (·[0]?) hc
    simpa [List.getElem?_take, List.getElem?_drop] using h0
  have hd := congrArg Prod.fst hx
  simp only [DataW.agg.injEq] at hd
  have hd1 := congrArg (·[i]?) hd
  simp only [List.getElem?_map, List.getElem?_range hi, List.getElem?_eq_getElem hyl, hb, Option.map_some, Option.some.injEq, DataW.lit.injEq, Lit.bool.injEq] at hd1
  rw [hc1, ← hd1]
/-- from a row's condition to what the walks ask -/
theorem tab_of_laid {W : World} {d : DataW Unit} {rest : List (String × DataW Unit)} (hd : d = .agg ((List.range 16).map fun i : Nat => .lit (.bool (cnd (i : Int))))) (h : laidMet Tryd.prog (("oubliette/xcode.conds", d) :: rest) W) : Tab W := by
  subst hd
  obtain ⟨ps, ⟨g', t', cs, fuel, p, q, hg', ht', hvar, hd, _, _⟩, _⟩ := h
  obtain rfl := Option.some.inj (gConds.symm.trans hg')
  obtain rfl := Option.some.inj (gCondsType.symm.trans ht')
  intro i hi
  have hc := World.var?_cell gConds hvar i
  rw [hc]
  have := tab_cells hd i hi
  simpa using this
set_option maxRecDepth 100000 in
theorem open_x {H : Type} {enc : TypeId × Value → H} {W : World} {base : Nat} {v0 : Value} {x : DataW H × List MemPlace} {m : Nat} (hv : Value.okWide Tryd.prog W .any base 23 v0)
    (h : DataW.trod enc Tryd.prog W 0 (fun _ => true) true m 23 v0.cells.toList = some x) :
    ∃ y : XI, v0 = xv y ∧ (-9223372036854775808 ≤ y.n ∧ y.n ≤ 9223372036854775807) := by
  obtain ⟨cs, rfl, hcs⟩ := okWide_struct Tryd.underlying23 hv
  rw [cellsX] at hcs
  obtain ⟨xs, n, _, _, _, hlen, hf⟩ := DataW.trod_struct Tryd.underlying23 h
  have f0 := hf 0 _ rfl
  have f1 := hf 1 _ rfl
  have f2 := hf 2 _ rfl
  have f3 := hf 3 _ rfl
  have f4 := hf 4 _ rfl
  have f5 := hf 5 _ rfl
  have f6 := hf 6 _ rfl
  obtain ⟨l⟩ := cs
  match l, hcs with
  | [u0, u1, u2, u3, u4, u5, u6], _ =>
    match xs, hlen with
    | [x0, x1, x2, x3, x4, x5, x6], _ =>
      simp [Value.cells, cellsInt, cellsBool] at f0 f1 f2 f3 f4 f5 f6
      obtain ⟨q0, e0, _, w0⟩ := DataW.trod_int Tryd.underlying3 f0
      obtain ⟨q1, e1, _⟩ := DataW.trod_bool Tryd.underlying4 f1
      obtain ⟨q2, e2, _, w2⟩ := DataW.trod_int Tryd.underlying3 f2
      obtain ⟨q3, e3, _, w3⟩ := DataW.trod_int Tryd.underlying3 f3
      obtain ⟨q4, e4, _, w4⟩ := DataW.trod_int Tryd.underlying3 f4
      obtain ⟨q5, e5, _, w5⟩ := DataW.trod_int Tryd.underlying3 f5
      obtain ⟨q6, e6, _, w6⟩ := DataW.trod_int Tryd.underlying3 f6
      simp at e0 e1 e2 e3 e4 e5 e6
      subst e0 e1 e2 e3 e4 e5 e6
      exact ⟨⟨q0, q1, q2, q3, q4, q5, q6⟩, rfl, bounds_i64 w6⟩
end Go.Proofs.YtkfinaongajhmaaDoor.X
