/- An instruction that is cut off is none; a body is its instructions, each read behind the other: for any slice of them (its first hundred) and any number. No condition of its own. -/
import Derived.Test.YtgffcpoopnckkaaRows
import Derived.Test.YtgffcpoopnckkaaInstCutsWalk
import Derived.Deep.Slices
import Derived.Deep.Strs
import Derived.Carry
import Derived.Lib.SmallJoins
import Derived.WalkKit
import Derived.ProofKit
import Derived.OpenShut
import Derived.ShutString
import Derived.ChangeOld
import Derived.Below
import Derived.SizedLaws
namespace Go.Proofs.Ytgffcpoopnckkaa.instCuts
open Go.ChangeShapes Go.WideShapes Go.ChangeAt Go.RowKit Go.Joins Go.Proofs.YtgffcpoopnckkaaW.PrintWords
open Go.ChangeMaps (open_string shut_string)
set_option linter.unusedVariables false
set_option linter.unusedSimpArgs false
theorem own : ownKnob Try.prog.godebug = none := by kernel_rfl
theorem cells23 : Try.prog.cellsOf 23 = 3 := by kernel_rfl
theorem cells3 : Try.prog.cellsOf 3 = 1 := by kernel_rfl
theorem laidOut : laidOutB Try.prog = true := by kernel_rfl
set_option maxRecDepth 100000 in
theorem lifted (os : Os) (started : os.Started) (H : Type) (enc : TypeId × Value → H) :
    ReturnsInHanded {} Try.checked os 8 .any (Rows.instCutsSpec.pre6 enc Try.prog Try.f8 Rows.instCutsRow.domain false) (Rows.instCutsSpec.post enc Try.prog Try.f8 false true false false) := by
  refine returnsInHanded_of_change_sized (C := Try.checked) own started (by kernel_rfl) Try.func8
    (ChangeSpec.witness6 (enc := enc) (C := Try.checked) false ⟨#[], #[.slice none 0 0, .int .i64 0], []⟩ 8 (by kernel_rfl) (by kernel_rfl) (by kernel_rfl) (by kernel_rfl)) ?_
  intro W base args ds gs before hval0 hW hcnd hsz0 _
  have hsz : (DataW.weightsEach Try.prog (Try.f8.params.toList ++ Rows.instCutsSpec.plain.varTypes Try.prog) (ds ++ gs)).all (· ≤ reachBytes) = true := hsz0
  have hval : ∀ (j : Nat) t v, Try.f8.params[j]? = some t → args[j]? = some v → Value.okWide Try.prog W .any base t v := hval0
  have hW' := hW
  obtain ⟨p, q, hA0, hV, rfl, hfz, hnd⟩ := hW
  have hA : DataW.TrodAll enc Try.prog W 0 (fun _ => true) true Try.f8.params.toList args.toList ds p := hA0
  rw [Try.params8] at hA hval hsz
  obtain ⟨v0, vs0, d0, ds0, p0, q0, hargs, rfl, rfl, h0, r0⟩ := trodAll_cons hA
  obtain ⟨v1, vs1, d1, ds1, p1, q1, rfl, rfl, rfl, h1, r1⟩ := trodAll_cons r0
  obtain ⟨rfl, rfl, rfl⟩ := trodAll_nil r1
  obtain rfl : args = #[v0, v1] := by cases args; simp_all
  obtain ⟨rfl, rfl⟩ := trodVars_none hV
  obtain ⟨x0, len0, cap0, rfl⟩ := okWide_slice Try.underlying39 (hval 0 39 v0 rfl rfl)
  obtain ⟨a1, rfl, rfl, rfl, w1⟩ := open_int Try.underlying3 (hval 1 3 v1 rfl rfl) h1
  have k0 := h0
  have lt0 : ∀ x ∈ p0, x.block < W.heap.size := by obtain ⟨m, hm⟩ := k0; exact DataW.trod_lt m _ _ _ hm
  obtain ⟨fuel, hf⟩ := h0
  have main : Calls Try.prog 8 #[.slice x0 len0 cap0, .int .i64 a1] W fun e w' => e = .returned (.bool true) ∧ Below W.heap.size W w' := by
    rcases Go.Deep.open_slice Try.underlying39 hf with ⟨hcs, _⟩ | ⟨a, l, c, m, n, D, Pl, hcs, hb, hl, hm, hmm, hd, hx⟩
    · simp [Value.cells] at hcs
      obtain ⟨rfl, rfl, rfl⟩ := hcs
      exact BodyWalk.Cuts_nil a1 W (bounds_i64 w1) (CoreInst.examples_true 60 (by decide))
    · simp [Value.cells] at hcs
      obtain ⟨rfl, rfl, rfl⟩ := hcs
      simp only [if_true] at hmm
      have each : ∀ i, i < len0 → ∃ q : Int × Int × Int, (W.cell? (a.add (i * 3)) = some (.int .i64 q.1) ∧ W.cell? ⟨(a.add (i * 3)).block, (a.add (i * 3)).off + 1, none⟩ = some (.int .i64 q.2.1) ∧ W.cell? ⟨(a.add (i * 3)).block, (a.add (i * 3)).off + 2, none⟩ = some (.int .i64 q.2.2)) ∧ (Lit.int .i64 q.2.1).wf = true ∧ (Lit.int .i64 q.2.2).wf = true := by
        intro i hi
        obtain ⟨cs', h1, h2⟩ := hx i (by omega)
        rw [cells23] at h1
        obtain ⟨_, hlen, hcell⟩ := World.cells?_some h1
        obtain ⟨y0, y1, y2, n', _, _, t0, t1, t2⟩ := Go.Deep.trod_struct3 Try.underlying23 h2
        match cs', hlen with
        | [u0, u1, u2], _ =>
          simp [cells3] at t0 t1 t2
          obtain ⟨q0, e0, _, w0⟩ := DataW.trod_int Try.underlying3 t0
          obtain ⟨q1, e1, _, w1⟩ := DataW.trod_int Try.underlying3 t1
          obtain ⟨q2, e2, _, w2⟩ := DataW.trod_int Try.underlying3 t2
          simp at e0 e1 e2
          subst e0 e1 e2
          have z0 := hcell 0 (by omega)
          have z1 := hcell 1 (by omega)
          have z2 := hcell 2 (by omega)
          refine ⟨(q0, q1, q2), ⟨by simpa [Addr.add] using z0, ?_, ?_⟩, w1, w2⟩
          · simpa [Addr.add] using z1
          · simpa [Addr.add] using z2
      obtain ⟨q, hq⟩ := Go.Deep.choose_lt each
      have hlenL : ((List.range (min len0 100)).map q).length = min len0 100 := by simp
      exact BodyWalk.Cuts_some ((List.range (min len0 100)).map q) a len0 cap0 a1 W (bounds_i64 w1) (by rw [hlenL]; split <;> omega) hl hm
        (fun h0 => by
          have := World.block_lt_of_cell? _ _ (hq 0 (by rw [hlenL] at h0; omega)).1.1
          simpa [Addr.add] using this)
        (fun i hi => by
          rw [hlenL] at hi
          simpa using (hq i (by omega)).1)
        (fun x hxm => by
          obtain ⟨i, hi, rfl⟩ := List.mem_map.mp hxm
          have hi' := List.mem_range.mp hi
          exact bounds_i64 (hq i (by omega)).2.1)
        (CoreInst.examples_true 60 (by decide))
  clear hA0 hval0 hsz0 hsz
  refine main.mono fun e W' ⟨he, bel⟩ => ?_
  subst he
  exact ⟨_, rfl, _, _, _, [], _, [], hW', trodAll_mk1 (shut_bool Try.underlying4 _), (trodAll_cons_mk (Below.trod laidOut (by kernel_rfl) (of_decide_eq_true (by kernel_rfl)) k0 bel lt0) (trodAll_cons_mk (shut_int Try.underlying3 w1) trodAll_mk0)), rfl, bel.frame _, fun h => by cases h⟩
theorem over : Rows.instCutsRow.holds Try.pinned (OpenSpec.ofChange Rows.instCutsSpec) :=
  OpenClaim.holds_of_wide 8 Try.f8 rfl rfl rfl rfl rfl rfl rfl ⟨rfl, rfl, rfl, rfl, rfl⟩ rfl rfl rfl rfl rfl (by kernel_rfl) Try.func8 (by kernel_rfl)
    (of_decide_eq_true (by kernel_rfl)) (by unfold Func.isWrapper; first | (rw [if_pos (by decide +kernel)]; kernel_rfl) | (rw [if_neg (by decide +kernel)]; exact ⟨rfl, rfl⟩))
    (fun os started H enc _ => lifted os started H enc)
theorem proved : Rows.InstCutsSaid := over
#print axioms proved
end Go.Proofs.Ytgffcpoopnckkaa.instCuts
namespace Go.Proofs.Ytgffcpoopnckkaa
/-- The row, under a short name, for the claim. -/
theorem instCuts_holds : Rows.InstCutsSaid := instCuts.proved
end Go.Proofs.Ytgffcpoopnckkaa
