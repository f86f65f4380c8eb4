/- The regions of a module: the program's function. -/
import Derived.Test.YtgaiehnbjggmdaaDoorFStart
namespace Go.Proofs.YtgaiehnbjggmdaaDoor.F
open Go.Ob Go.RowKit Go.Proofs.YtgaiehnbjggmdaaDoorW.PrintWords Go.Proofs.YtgaiehnbjggmdaaDoorW.PrintMore
set_option linter.unusedVariables false
set_option linter.unusedSimpArgs false
set_option maxHeartbeats 16000000 in
set_option maxRecDepth 100000 in
theorem Regions (sg im fn : Value) (m0 m1 : Int) (G A : Option Addr) (gl : List (Int × Int)) (ds : List D3) (ng cg nd cd : Nat) (code : ByteArray) (w : World) (hgl : gl.length = ng) (hng : ng ≤ 1000) (hG : CellsG w G gl) (hds : ds.length = nd) (hnd : nd ≤ 9223372036854775807) (hD : CellsD w A ds) :
    Calls Tryd.prog 40 #[.agg #[sg, im, fn, .int .i64 m0, .int .i64 m1, .slice G ng cg, .slice A nd cd], .string code] w fun e w' => ∃ v, e = .returned v ∧ w'.ownsRow w.heap.size 33 3 v (regs code (dataL (gl.map (·.2))) (List.replicate 16384 0) m0 m1 ds).length (cl3 (regs code (dataL (gl.map (·.2))) (List.replicate 16384 0) m0 m1 ds)) ∧ Below w.heap.size w w' := by
  obtain ⟨RL, hRL⟩ : ∃ RL, regs code (dataL (gl.map (·.2))) (List.replicate 16384 0) m0 m1 ds = RL := ⟨_, rfl⟩
  rw [hRL]
  have b1 : Below w.heap.size w (w.alloc (.cells #[sg, im, fn, .int .i64 m0, .int .i64 m1, .slice G ng cg, .slice A nd cd] 70)) := below_alloc (Below.refl _ _) _
  have hL := LayR sg im fn m0 m1 G A gl ds ng cg nd cd code _ hgl hng (hG.below b1) hds hnd (hD.below b1)
  rw [hRL, World.size_alloc] at hL
  clear hRL
  have HL := Aside0.mk (And.intro hL (And.intro (blk_new w (.cells #[sg, im, fn, .int .i64 m0, .int .i64 m1, .slice G ng cg, .slice A nd cd] 70)) b1))
  clear hL b1 hgl hng hG hds hnd hD
  go_enter Tryd.func40, Tryd.ntmps40
  go_wp2_with (first
    | (refine wpList_load_row rfl 70 (.tmp 2) rfl w.heap.size rfl 70 _ (0, 0) _ HL.out.2.1 rfl rfl rfl ?_)
    | (go_at_call 60; (with_reducible refine HL.out.1.mono ?_); rintro e w6 ⟨v, rfl, ho, hb⟩; have H6 := Aside0.mk (And.intro ho hb); clear ho hb))
  refine bodyPost_ret (results_tmp rfl _ _ _) rfl ?_
  exact ⟨_, rfl, owns_move H6.out.1 (fun _ _ => rfl) (Nat.le_succ _), HL.out.2.2.trans (H6.out.2.mono (Nat.le_succ _))⟩
end Go.Proofs.YtgaiehnbjggmdaaDoor.F
