/- What Start lays more: arguments, and the place of the halt: the closure. -/
import Derived.Test.YtgaiehnbjggmdaaDoorFPut
import Derived.Test.YtgaiehnbjggmdaaDoorFTells
import Derived.BigQuiet
import Derived.Deep.RegionLaw
namespace Go.Proofs.YtgaiehnbjggmdaaDoor.F
open Go.Ob Go.RowKit Go.Proofs.YtgaiehnbjggmdaaDoorW.PrintWords Go.Proofs.YtgaiehnbjggmdaaDoorW.PrintMore
attribute [local go_sem] max2_int min2_int max_two min_two
set_option linter.unusedVariables false
set_option linter.unusedSimpArgs false
theorem ar_wrap (k : Nat) (h : k ≤ 1000) : wrap64 (8 * (k : Int)) = ((8 * k : Nat) : Int) := by
  unfold wrap64
  omega
set_option maxHeartbeats 8000000 in
set_option maxRecDepth 100000 in
theorem MoreS (gd gs pa pi dl na ca : Nat) (X Z : List Int) (args : List Int) (P : Option Addr) (c0 c1 c2 c3 c4 c5 c6 c7 c8 : Value) (halt : Int) (w : World) (hX : X.length = dl) (hdl : 32 ≤ dl) (hdl2 : dl ≤ 100000) (hZ : Z.length = 16384) (hna : args.length = na) (hn4 : na ≤ 4)
    (hd : w.heap[gd]? = some (.cells (nums .u8 X).toArray 5 (0, 0))) (hs : w.heap[gs]? = some (.cells (nums .u8 Z).toArray 5 (0, 0))) (hne : gd ≠ gs) (hpa : w.heap[pa]? = some (.cells #[.slice P na ca] 43 (0, 0))) (hpi : w.heap[pi]? = some (.cells #[c0, c1, c2, c3, c4, c5, c6, c7, c8, .int .i64 halt] 72 (0, 0)))
    (hr : ReadsInt w .i64 P na args) (n1 : pa ≠ gd) (n2 : pa ≠ gs) (n3 : pi ≠ gd) (n4 : pi ≠ gs) (b : Nat) (hb1 : b ≤ gd) (hb2 : b ≤ gs) (hbp : 0 < na → ∀ a, P = some a → a.block < b) :
    Calls Tryd.prog 61 #[.slice (some ⟨gd, 0, none⟩) dl dl, .slice (some ⟨gs, 0, none⟩) 16384 16384, .pointer (some ⟨pa, 0, none⟩), .pointer (some ⟨pi, 0, none⟩)] w fun e w' => e = .returned (.tuple #[]) ∧
      w'.heap[gd]? = some (.cells (nums .u8 (aI X args na)).toArray 5 (0, 0)) ∧ w'.heap[gs]? = some (.cells (nums .u8 (spl Z 16376 (bytesOf (wrap64 (1048576 + halt)) 8))).toArray 5 (0, 0)) ∧ (∀ k, k ≠ gd → k ≠ gs → k < w.heap.size → w'.heap[k]? = w.heap[k]?) ∧ Below b w w' := by
  have y0 := blk_cell hpa 0
  simp at y0
  have HH := Aside0.mk (And.intro hd (And.intro hs (And.intro hpa (And.intro hpi (And.intro hr (And.intro hX (And.intro hZ hna)))))))
  clear hd hs hpa hpi hr hX hZ hna
  go_enter Tryd.func61, Tryd.ntmps61
  go_wp2_with fail
  go_loopw [10] (fun c wr => ∃ k : Nat, k ≤ na ∧ c = .int .i64 k ∧ wr.heap[gd]? = some (.cells (nums .u8 (aI X args k)).toArray 5 (0, 0)) ∧ (∀ q, q ≠ gd → wr.heap[q]? = w.heap[q]?) ∧ wr.heap.size = w.heap.size ∧ Below b w wr) (fun c _ => na - (intOf c).toNat)
  case atStart => exact ⟨0, Nat.zero_le _, rfl, by rw [aI_zero]; exact HH.out.1, fun _ _ => rfl, rfl, Below.refl _ _⟩
  case round =>
    obtain ⟨k, hk, rfl, hdr, hot, hsz, hbw⟩ := hrel
    have HR := Aside0.mk (And.intro hdr (And.intro hot (And.intro hsz hbw)))
    by_cases hlt : k < na
    · obtain ⟨ad, hA, hc⟩ := HH.out.2.2.2.2.1.2.2 (by omega)
      have hck := hc k hlt
      have hbk := hbp (by omega) ad hA
      have hck2 : wr.cell? (ad.add k) = some (.int .i64 (args.getD k 0)) := by
        rw [hbw.cell (by rw [add_blk]; exact hbk)]
        exact hck
      have hst := aI_step X args k (by rw [HH.out.2.2.2.2.2.2.2]; exact hlt) (by rw [HH.out.2.2.2.2.2.1, HH.out.2.2.2.2.2.2.2]; omega)
      have hgv : args[k]'(by rw [HH.out.2.2.2.2.2.2.2]; exact hlt) = args.getD k 0 := by
        rw [List.getD_eq_getElem?_getD, List.getElem?_eq_getElem (by rw [HH.out.2.2.2.2.2.2.2]; exact hlt)]
        rfl
      rw [hgv] at hst
      have hA2 := fun W => Args (k : Int) W
      rw [ar_wrap k (by omega)] at hA2
      have hP := fun W (h : W.heap[gd]? = some (.cells (nums .u8 (aI X args k)).toArray 5 (0, 0))) => Put gd dl dl (8 * k) (args.getD k 0) (aI X args k) W h (by rw [aI_len X args k (by rw [HH.out.2.2.2.2.2.2.2]; exact hk) (by rw [HH.out.2.2.2.2.2.1, HH.out.2.2.2.2.2.2.2]; omega)]; exact HH.out.2.2.2.2.2.1) (by omega) (by omega)
      rw [hst] at hP
      subst hA
      obtain ⟨K, hK⟩ : ∃ K, 8 * k = K := ⟨_, rfl⟩
      rw [hK] at hA2 hP
      generalize args.getD k 0 = av at *
      have HA2 := Aside0.mk hA2
      have HP := Aside0.mk hP
      clear hA2 hP hst hK hdr hot hbw hc hck hgv
      go_wp2_with (first
        | (go_at_call 31; (with_reducible refine (HA2.out _).mono ?_); rintro e w1 ⟨rfl, rfl⟩)
        | (go_at_call 62; (with_reducible refine (HP.out _ HR.out.1).mono ?_); rintro e w2 ⟨rfl, hp⟩; have H2 := Aside0.mk hp; clear hp))
      refine ⟨⟨k + 1, hlt, by simp, H2.out.row, fun q hq => (H2.out.other q hq).trans (HR.out.2.1 q hq), H2.out.size.trans HR.out.2.2.1, HR.out.2.2.2.trans (H2.out.below.mono hb1)⟩, by simp [intOf]; omega⟩
    · obtain rfl : k = na := by omega
      have hP := fun W (h : W.heap[gs]? = some (.cells (nums .u8 Z).toArray 5 (0, 0))) => Put gs 16384 16384 16376 (wrap64 (1048576 + halt)) Z W h HH.out.2.2.2.2.2.2.1 (by decide) (by decide)
      rw [show ((16376 : Nat) : Int) = 16376 from rfl] at hP
      have HP := Aside0.mk hP
      have hi9 : wr.heap[pi]? = some (.cells #[c0, c1, c2, c3, c4, c5, c6, c7, c8, .int .i64 halt] 72 (0, 0)) := (hot pi n3).trans HH.out.2.2.2.1
      have y9 := blk_cell hi9 9
      simp at y9
      clear hP hdr hot hbw hi9 y0
      go_wp2_with (go_at_call 62; (with_reducible refine (HP.out _ ((HR.out.2.1 gs (Ne.symm hne)).trans HH.out.2.1)).mono ?_); rintro e w2 ⟨rfl, hp⟩; have H2 := Aside0.mk hp; clear hp)
      go_end0
      refine ⟨rfl, ?_, H2.out.row, fun q h1 h2 _ => ?_, HR.out.2.2.2.trans (H2.out.below.mono hb2)⟩
      · rw [H2.out.other gd hne]
        exact HR.out.1
      · rw [H2.out.other q h2]
        exact HR.out.2.1 q h1
end Go.Proofs.YtgaiehnbjggmdaaDoor.F
