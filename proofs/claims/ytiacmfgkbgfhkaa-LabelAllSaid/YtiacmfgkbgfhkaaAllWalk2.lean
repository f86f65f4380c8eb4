/- Of any lists it is told whether all flow to all: what the program's function and the reference's compute. No condition but that lengths are those of the language. -/
import Derived.RangeFuncNested
import Derived.RangeFuncBound
import Derived.RangeFuncCalls
import Derived.RangeFuncLeaves
import Derived.RangeFuncBox
import Derived.Shelf.Abstract
import Derived.Shelf.RegionOpen
import Derived.WalkKit
import Derived.OwnWalkIn
import Derived.TacticsInMore
import Derived.LoopNIn
import Derived.LoopIn
import Derived.Outline
import Derived.LoopTactic
import Derived.Deep.QuietTactic
import Derived.BigQuiet
import Derived.Test.YtiacmfgkbgfhkaaAllWalk
namespace Go.Proofs.Ytiacmfgkbgfhkaa.AllWalk
open Go.RowKit Go.Shelf Go.Proofs.Ytiacmfgkbgfhkaa.PLabelTells Go.Proofs.Ytiacmfgkbgfhkaa.TellsWalk Go.Proofs.YtiacmfgkbgfhkaaW.PrintWords
set_option linter.unusedVariables false
set_option linter.unusedSimpArgs false
attribute [local go_sem] Oper.semAt_some
theorem keeps_drewN (W : World) (m : Nat) : KeepsOthers W (W.drewN m) := ⟨Nat.le_refl _, fun _ _ h _ => h⟩
/-- do all flow to all? -/
def allFl (xs ys : List I64) : Bool := decide (xs.length = ys.length) && (upto (side xs ys) xs.length).all fun p => fl p.1.1 p.2.1
set_option maxRecDepth 100000 in
set_option maxHeartbeats 4000000 in
theorem All (A B : Option Addr) (ca cb : Nat) (xs ys : List I64) (hreach : xs.length ≤ 9223372036854775807) (hreach2 : ys.length ≤ 9223372036854775807) (w : World) (hc1 : Cells w.heap.size w A xs) (hc2 : Cells w.heap.size w B ys) :
    Calls Try.prog 27 #[.slice A xs.length ca, .slice B ys.length cb] w fun e w' => e = .returned (.bool (allFl xs ys)) ∧ Below w.heap.size w w' := by
  by_cases hlen : xs.length = ys.length
  · have HL := Aside0.mk hlen
    have HC1 := Aside0.mk hc1
    have HC2 := Aside0.mk hc2
    rw [← hlen]
    clear hlen hc1 hc2
    refine (callsIn_wide (n := 5)).1 ?_
    refine callsIn_of_wp_marks Try.func27 rfl trivial ?_ rfl
    simp only [Try.ntmps27, List.size_toArray, List.length_cons, List.length_nil, Nat.reduceAdd, Nat.reduceSub, Array.replicate_succ, Array.replicate_zero, List.push_toArray, List.append_toArray, List.nil_append, List.cons_append]
    gi_wp2_with (refine ⟨trivial, ?_⟩; gi_at_call 38; refine (pairs_in _ _ _ _ _ _ _ _).mono ?_; rintro e w' ⟨rfl, rfl⟩)
    have bR := Boxed.new w 4 (.bool false)
    have b1 := Boxed.new (w.alloc (.cells #[.bool false] 4)) 30 (.slice A xs.length ca)
    have b2 := Boxed.new ((w.alloc (.cells #[.bool false] 4)).alloc (.cells #[.slice A xs.length ca] 30)) 30 (.slice B xs.length cb)
    simp only [World.size_alloc] at b1 b2
    have hB0 : Below w.heap.size w (((w.alloc (.cells #[.bool false] 4)).alloc (.cells #[.slice A xs.length ca] 30)).alloc (.cells #[.slice B xs.length cb] 30)) := below_alloc (below_alloc (below_alloc (Below.refl _ w) _) _) _
    have HX1 := HC1.out.below hB0
    have HX2 := HC2.out.below hB0
    refine wpIn_rangeFunc_ownG (n := 5) rfl (by decide) (gf := 41) (lb := #[.pointer (some ⟨w.heap.size + 1, 0, none⟩), .pointer (some ⟨w.heap.size + 1 + 1, 0, none⟩)]) rfl trivial (enters_of Try.func41 (by kernel_rfl) rfl)
      (pairs_stops 4 (by decide) (w.heap.size + 1) (w.heap.size + 1 + 1) (w.heap.size + 3) A B ca cb xs ys HL.out hreach (by omega) (by omega) _ (by simp) (b1.alloc _).cell b2.cell
        (fun j hj => by obtain ⟨ad, e, h1, h2⟩ := HX1 j hj; exact ⟨ad, e, by omega, h2⟩) (fun j hj => by obtain ⟨ad, e, h1, h2⟩ := HX2 j hj; exact ⟨ad, e, by omega, h2⟩))
      belowK_t (belowK_b (by simp)) (Below.refl _ _) (fun _ => rfl)
      (fun pre W => ((∀ p ∈ pre, fl p.1.1 p.2.1 = true) ∧ W.cell? ⟨w.heap.size, 0, none⟩ = some (.bool false) ∧ W.frozen? ⟨w.heap.size, 0, none⟩ = false) ∧ Below w.heap.size w W)
      (fun c pre W => (c = .ret ∧ (∃ ini last, pre = ini ++ [last] ∧ fl last.1.1 last.2.1 = false) ∧ W.cell? ⟨w.heap.size, 0, none⟩ = some (.bool false)) ∧ Below w.heap.size w W)
      (OwnFrom.and (Own.from (fun s A B row hs hg hr => ⟨hs.1, cell_kept hs.2.1 hg hr, (frozen_kept hs.2.1 hg hr).trans hs.2.2⟩) _) (ownFrom_below (Nat.le_refl _) (by simp; omega)))
      (fun c => OwnFrom.and (Own.from (fun s A B row hs hg hr => by obtain ⟨h1, h2, h3⟩ := hs; exact ⟨h1, h2, cell_kept h3 hg hr⟩) _) (ownFrom_below (Nat.le_refl _) (by simp; omega)))
      ⟨⟨by simp, ((bR.alloc _).alloc _).cell, ((bR.alloc _).alloc _).frozen⟩, hB0⟩
      (fun x => { tmps := #[.slice A xs.length ca, .slice B xs.length cb, undef, undef, .pointer (some ⟨w.heap.size, 0, none⟩), .int .i64 x.1.1, .int .i64 x.2.1, .slice A xs.length ca, .int .i64 xs.length, .slice B xs.length cb, .int .i64 xs.length, .bool false, .slice A xs.length ca, .slice B xs.length cb, .func (.func 41) #[] #[.pointer (some ⟨w.heap.size + 1, 0, none⟩), .pointer (some ⟨w.heap.size + 1 + 1, 0, none⟩)], .int .i64 x.1.1, .int .i64 x.2.1, undef, undef, undef, undef], defers := [] }) ?assign ?body ?done ?stop
    case assign =>
      intro l x W K hK
      gi_wp2
      exact hK
    case body =>
      rintro l pre x W ⟨⟨hp, hcr, hfr⟩, hB⟩ _
      have HP := Aside0.mk (And.intro hp hB)
      have hd : 1 ≤ 5 - 1 - 1 := by decide
      have fl1 := Aside0.mk (flows_eq x.1.1 x.2.1 x.1.2 x.2.2)
      cases hfl : fl x.1.1 x.2.1 with
      | false =>
        rw [hfl] at fl1
        have HF := Aside0.mk hfl
        clear hfl hp hB
        gi_wp2_with (refine ⟨trivial, ?_⟩; gi_at_call 15; refine (CallsIn.inRound l (callsIn_wide.2 (label_Flows.calls _ _ _ _ fl1.out))).mono ?_; rintro e w1 ⟨rfl, hd1⟩; obtain ⟨⟨m, rfl⟩⟩ := hd1)
        exact ⟨(KeepsOthers.trans (keeps_drewN W m) (KeepsOthers.setCell _ _ _)).from _, ⟨rfl, ⟨pre, x, rfl, HF.out⟩, World.cell?_setCell_same' _ _ _ (by show (W.cell? _).isSome = true; rw [hcr]; rfl)⟩, Below.setCell (p := ⟨w.heap.size, 0, none⟩) (pw_below_drewN HP.out.2 m) (Nat.le_refl _) _⟩
      | true =>
        rw [hfl] at fl1
        have HF := Aside0.mk hfl
        clear hfl hp hB
        gi_wp2_with (refine ⟨trivial, ?_⟩; gi_at_call 15; refine (CallsIn.inRound l (callsIn_wide.2 (label_Flows.calls _ _ _ _ fl1.out))).mono ?_; rintro e w1 ⟨rfl, hd1⟩; obtain ⟨⟨m, rfl⟩⟩ := hd1)
        exact ⟨(keeps_drewN W m).from _, pw_below_drewN (Below.refl _ _) m, ⟨fun p hp' => (List.mem_append.1 hp').elim (HP.out.1 p) (fun e => by rw [List.mem_singleton] at e; rw [e]; exact HF.out), hcr, hfr⟩, pw_below_drewN HP.out.2 m⟩
    case done =>
      rintro D zs W hD rfl ⟨⟨hall, hcr, hfr⟩, hB⟩ hK
      have hfin : allFl xs ys = true := by
        unfold allFl
        rw [decide_eq_true HL.out, Bool.true_and]
        exact List.all_eq_true.mpr fun p hp => hall p hp
      have HFin := Aside0.mk hfin
      clear hall hfin
      gi_wp2
      have hK' := (KeepsOthers.setCell W ⟨w.heap.size, 0, none⟩ (.bool true)).same D _ hK rfl
      refine ⟨by simp, .inl ⟨_, _, rfl, run_takeDeferred hK', ?_⟩⟩
      have hc5 := cell_kept (World.cell?_setCell_same' W ⟨w.heap.size, 0, none⟩ (.bool true) (by rw [hcr]; rfl)) (grownBy_putObj' _ D (.deferred none)) (fun r e => by cases e; exact ⟨_, hK', rfl⟩)
      refine ⟨.bool true, ?_, by rw [HFin.out], (hB.setCell (p := ⟨w.heap.size, 0, none⟩) (Nat.le_refl _) _).trans (belowK_b (w := w) (Nat.le_refl _) _ D _ _ (by simp at hD; omega) hK' rfl rfl)⟩
      simp [results, Try.f27, go_sem, hc5]
    case stop =>
      rintro D c pre W hD ⟨k, hk, rfl⟩ ⟨⟨rfl, ⟨ini, last, e1, e2⟩, hcr⟩, hB⟩ hK
      have hfin : allFl xs ys = false := by
        unfold allFl
        rw [decide_eq_true HL.out, Bool.true_and]
        refine List.all_eq_false.mpr ⟨last, ?_, by rw [e2]; decide⟩
        have hm : last ∈ upto (side xs ys) k := by rw [e1]; simp
        simp only [upto, List.mem_map, List.mem_range] at hm ⊢
        obtain ⟨j, hj, rfl⟩ := hm
        exact ⟨j, by omega, rfl⟩
      have HFin := Aside0.mk hfin
      clear e1 e2 hfin
      gi_wp2
      refine ⟨by simp, .inl ⟨_, _, rfl, run_takeDeferred hK, ?_⟩⟩
      have hc5 := cell_kept hcr (grownBy_putObj' _ D (.deferred none)) (fun r e => by cases e; exact ⟨_, hK, rfl⟩)
      refine ⟨.bool false, ?_, by rw [HFin.out], hB.trans (belowK_b (w := w) (Nat.le_refl _) W D _ _ (by simp at hD; omega) hK rfl rfl)⟩
      simp [results, Try.f27, go_sem, hc5]
  · have hfin : allFl xs ys = false := by unfold allFl; rw [decide_eq_false hlen, Bool.false_and]
    rw [hfin]
    have hb1 : ((xs.length : Int) != (ys.length : Int)) = true := bne_iff_ne.mpr (by omega)
    have hb2 : ((xs.length : Int) == (ys.length : Int)) = false := beq_eq_false_iff_ne.mpr (by omega)
    clear hfin hc1 hc2
    go_enter Try.func27, Try.ntmps27
    go_wp2
    exact bodyPost_ret (v := .bool false) (by simp [results, Try.results27, go_sem]) rfl ⟨rfl, (Below.refl _ _).alloc (Nat.le_refl _) _⟩
set_option maxRecDepth 100000 in
set_option maxHeartbeats 4000000 in
theorem rAll (A B : Option Addr) (ca cb : Nat) (xs ys : List I64) (hreach : xs.length ≤ 9223372036854775807) (hreach2 : ys.length ≤ 9223372036854775807) (w : World) (hc1 : Cells w.heap.size w A xs) (hc2 : Cells w.heap.size w B ys) :
    Calls Try.prog 28 #[.slice A xs.length ca, .slice B ys.length cb] w fun e w' => e = .returned (.bool (allFl xs ys)) ∧ Below w.heap.size w w' := by
  by_cases hlen : xs.length = ys.length
  · have HL := Aside0.mk hlen
    have HC1 := Aside0.mk hc1
    have HC2 := Aside0.mk hc2
    rw [← hlen]
    have hfin : allFl xs ys = (upto (side xs ys) xs.length).all fun p => fl p.1.1 p.2.1 := by unfold allFl; rw [decide_eq_true hlen, Bool.true_and]
    have HF := Aside0.mk hfin
    rw [hfin]
    clear hlen hc1 hc2 hfin
    go_enter Try.func28, Try.ntmps28
    go_wp2
    go_loopw [5, 6] (fun i _ wr => ∃ k : Nat, k ≤ xs.length ∧ i = .int .i64 k ∧ ((upto (side xs ys) k).all fun p => fl p.1.1 p.2.1) = true ∧ Below w.heap.size w wr) (fun i _ _ => xs.length - (intOf i).toNat)
    case atStart => exact ⟨0, Nat.zero_le _, rfl, rfl, Below.refl _ _⟩
    case round =>
      obtain ⟨k, hk, rfl, hall, hnx⟩ := hrel
      have HN := Aside0.mk (And.intro hnx hall)
      by_cases hlt : k < xs.length
      · obtain ⟨ad, rfl, hb1, hx1⟩ := HC1.out.below hnx k hlt
        obtain ⟨bd, rfl, hb2, hx2⟩ := HC2.out.below hnx k (by rw [← HL.out]; exact hlt)
        have hfr := rflows (xs.getD k zero64).1 (ys.getD k zero64).1
        have hst : ((upto (side xs ys) (k + 1)).all fun p => fl p.1.1 p.2.1) = fl (xs.getD k zero64).1 (ys.getD k zero64).1 := by
          rw [upto_succ, List.all_append, hall]
          simp [side]
        obtain ⟨x, hx⟩ : ∃ x, (xs.getD k zero64).1 = x := ⟨_, rfl⟩
        obtain ⟨y, hy⟩ : ∃ y, (ys.getD k zero64).1 = y := ⟨_, rfl⟩
        rw [hx] at hx1
        rw [hy] at hx2
        rw [hx, hy] at hfr hst
        clear hx hy hnx hall
        have hsub : fl x y = false → ((upto (side xs ys) xs.length).all fun p => fl p.1.1 p.2.1) = false := fun h0 => by
          rw [h0] at hst
          obtain ⟨p, hp, hpf⟩ := List.all_eq_false.mp hst
          refine List.all_eq_false.mpr ⟨p, ?_, hpf⟩
          simp only [upto, List.mem_map, List.mem_range] at hp ⊢
          obtain ⟨j, hj, rfl⟩ := hp
          exact ⟨j, by omega, rfl⟩
        have HS := Aside0.mk (And.intro hst hsub)
        clear hst hsub
        cases hfl : fl x y with
        | true =>
          rw [hfl] at hfr
          have FR := Aside0.mk hfr
          have HF2 := Aside0.mk hfl
          clear hfr hfl
          go_wp2
          go_quiet ((go_at_call 24; exact Calls.quiet_of ((oublietteref03_Flows.calls _ _ _ _ FR.out).mono fun _ _ h => ⟨h.1, h.2.out⟩)))
          go_wp2
          go_roundw
          case rel => exact ⟨k + 1, hlt, by simp, by rw [HS.out.1, HF2.out], pw_below_drewN HN.out.1 _⟩
          case measure => simp [intOf]; omega
        | false =>
          rw [hfl] at hfr
          have FR := Aside0.mk hfr
          have HF2 := Aside0.mk hfl
          clear hfr hfl
          go_wp2
          go_quiet ((go_at_call 24; exact Calls.quiet_of ((oublietteref03_Flows.calls _ _ _ _ FR.out).mono fun _ _ h => ⟨h.1, h.2.out⟩)))
          go_wp2
          go_ret
          exact ⟨by rw [HS.out.2 HF2.out]; rfl, pw_below_drewN HN.out.1 _⟩
      · obtain rfl : k = xs.length := by omega
        clear hall hnx
        go_wp2
        go_ret
        exact ⟨by rw [HN.out.2]; rfl, HN.out.1⟩
  · have hfin : allFl xs ys = false := by unfold allFl; rw [decide_eq_false hlen, Bool.false_and]
    rw [hfin]
    have hb1 : ((xs.length : Int) != (ys.length : Int)) = true := bne_iff_ne.mpr (by omega)
    have hb2 : ((xs.length : Int) == (ys.length : Int)) = false := beq_eq_false_iff_ne.mpr (by omega)
    clear hfin hc1 hc2
    go_enter Try.func28, Try.ntmps28
    go_wp2
    go_ret
    exact ⟨rfl, Below.refl _ _⟩
set_option maxRecDepth 100000 in
set_option maxHeartbeats 4000000 in
theorem Law (A B : Option Addr) (ca cb : Nat) (xs ys : List I64) (hreach : xs.length ≤ 9223372036854775807) (hreach2 : ys.length ≤ 9223372036854775807) (w : World) (hc1 : Cells w.heap.size w A xs) (hc2 : Cells w.heap.size w B ys) :
    Calls Try.prog 7 #[.slice A xs.length ca, .slice B ys.length cb] w fun e w' => e = .returned (.bool true) ∧ Below w.heap.size w w' := by
  have cells : ∀ w' : World, Below w.heap.size w w' → Cells w'.heap.size w' A xs ∧ Cells w'.heap.size w' B ys := fun w' hb =>
    ⟨fun j hj => by obtain ⟨ad, e, h1, h2⟩ := hc1.below hb j hj; exact ⟨ad, e, Nat.lt_of_lt_of_le h1 hb.size, h2⟩, fun j hj => by obtain ⟨ad, e, h1, h2⟩ := hc2.below hb j hj; exact ⟨ad, e, Nat.lt_of_lt_of_le h1 hb.size, h2⟩⟩
  have CE := Aside0.mk cells
  have HX := Aside0.mk ex_true
  clear cells hc1 hc2
  go_enter Try.func7, Try.ntmps7
  go_wp2_with (first
    | (go_at_call 14; (with_reducible refine (oubliettelaw03_examples.calls true _ HX.out).mono ?_); rintro e w1 ⟨rfl, hd1⟩; have H1 := Aside0.mk hd1.below; clear hd1)
    | (go_at_call 27; (with_reducible refine (All A B ca cb xs ys hreach hreach2 _ (CE.out _ H1.out).1 (CE.out _ H1.out).2).mono ?_); rintro e w2 ⟨rfl, hb2⟩; have H2 := Aside0.mk (H1.out.trans (hb2.mono H1.out.size)); clear hb2)
    | (go_at_call 28; (with_reducible refine (rAll A B ca cb xs ys hreach hreach2 _ (CE.out _ H2.out).1 (CE.out _ H2.out).2).mono ?_); rintro e w3 ⟨rfl, hb3⟩; have H3 := Aside0.mk (H2.out.trans (hb3.mono H2.out.size)); clear hb3))
  go_ret
  exact ⟨by simp, H3.out⟩
/-- a list with what is known of its numbers -/
def known (L : List Int) (hw : ∀ x ∈ L, (Lit.int .i64 x).wf = true) : List I64 := L.attach.map fun x => ⟨x.1, hw x.1 x.2⟩
theorem known_length (L : List Int) (hw : ∀ x ∈ L, (Lit.int .i64 x).wf = true) : (known L hw).length = L.length := by simp [known]
theorem known_cells {w : World} {A : Option Addr} {n : Nat} {L : List Int} (h : ReadsInt w .i64 A n L) (hw : ∀ x ∈ L, (Lit.int .i64 x).wf = true) : Cells w.heap.size w A (known L hw) := fun j hj => by
  rw [known_length] at hj
  obtain ⟨hl, hm, hc⟩ := h
  obtain ⟨ad, e, hcell⟩ := hc (by omega)
  have h1 := hcell j (by omega)
  refine ⟨ad, e, by rw [← add_block ad j]; exact World.block_lt_of_cell? _ _ h1, ?_⟩
  rw [h1]
  simp [known, List.getD_eq_getElem?_getD, hj]
theorem Law2 (L : List Int) (A : Option Addr) (n ca : Nat) (M : List Int) (B : Option Addr) (m cb : Nat) (w : World) (hr : ReadsInt w .i64 A n L) (hw : ∀ x ∈ L, (Lit.int .i64 x).wf = true) (hr2 : ReadsInt w .i64 B m M) (hw2 : ∀ x ∈ M, (Lit.int .i64 x).wf = true) :
    Calls Try.prog 7 #[.slice A n ca, .slice B m cb] w fun e w' => e = .returned (.bool true) ∧ Below w.heap.size w w' := by
  have h := Law A B ca cb (known L hw) (known M hw2) (by rw [known_length, hr.1]; exact hr.2.1) (by rw [known_length, hr2.1]; exact hr2.2.1) w (known_cells hr hw) (known_cells hr2 hw2)
  rw [known_length, known_length, hr.1, hr2.1] at h
  exact h
end Go.Proofs.Ytiacmfgkbgfhkaa.AllWalk
