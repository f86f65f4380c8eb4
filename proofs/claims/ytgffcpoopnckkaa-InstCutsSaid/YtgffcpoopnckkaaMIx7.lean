-- printed for this claim by a program of this session, after the form of the printed texts
import Derived.Test.YtgffcpoopnckkaaMIx0
import Derived.Test.YtgffcpoopnckkaaMIx2
import Derived.Test.YtgffcpoopnckkaaMIx5
import Derived.Test.YtgffcpoopnckkaaMIx6
namespace Go.Proofs.Ytgffcpoopnckkaa.MI
open Go.RowKit Go.Proofs.YtgffcpoopnckkaaW.PrintWords Go.Proofs.YtgffcpoopnckkaaW.PrintLast Go.Proofs.YtgffcpoopnckkaaW.PrintMore
attribute [local go_sem] max2_int min2_int max_two min_two max_three min_three max_four min_four   -- for this text's walks alone
set_option linter.unusedVariables false
set_option linter.unusedSimpArgs false

/-! ### inst_Take: function 16 -/
mutual
def inst_Take.j2 : Nat → ByteArray → Int → Int → Int → Int → Option (Int × Int × Int × ByteArray × Int)
  | 0, _, _, _, _, _ => none
  | k + 1, x3, x4, x152000, x152001, x152002 => if x4 = 0 then (some (x152000, x152001, x152002, x3, 0)) else (some (0, 0, 0, (⟨#[]⟩ : ByteArray), 6))
def inst_Take.j0 : Nat → ByteArray → ByteArray → Int → Int → Int → Int → Option (Int × Int × Int × ByteArray × Int)
  | 0, _, _, _, _, _, _ => none
  | k + 1, x0, x3, x4, x152000, x152001, x152002 => if 1 ≤ (x3.size : Int) then (if x152002 < 0 then (inst_Take.j1 k (x3.extract 1 x3.size) x4 true x152000 x152001 x152002) else (if x152002 > 4 then (inst_Take.j1 k (x3.extract 1 x3.size) x4 true x152000 x152001 x152002) else (if x152002 = 0 then (if 1 < (x0.size : Int) then (inst_Take.j1 k (x3.extract 1 x3.size) x4 ((bt x0 1) != 64) x152000 x152001 x152002) else (none)) else (inst_Take.j1 k (x3.extract 1 x3.size) x4 false x152000 x152001 x152002)))) else (none)
def inst_Take.j1 : Nat → ByteArray → Int → Bool → Int → Int → Int → Option (Int × Int × Int × ByteArray × Int)
  | 0, _, _, _, _, _, _ => none
  | k + 1, x3, x4, x60, x152000, x152001, x152002 => if x60 = true then (inst_Take.j2 k x3 6 x152000 x152001 x152002) else (inst_Take.j2 k x3 x4 x152000 x152001 x152002)
end
def inst_Take.f (k : Nat) (a0 : ByteArray) : Option (Int × Int × Int × ByteArray × Int) := if a0.toList = ([] : List UInt8) then (some (0, 0, 0, (⟨#[]⟩ : ByteArray), 6)) else (if 0 < (a0.size : Int) then (if 1 ≤ (a0.size : Int) then ((inst_Kind.f k (wrap64 (bt a0 0))).bind fun t152 => (if t152 = 0 then (inst_Take.j2 k (a0.extract 1 a0.size) 6 (wrap64 (bt a0 0)) 0 0) else (if t152 = 2 then (if (a0.extract 1 a0.size).toList = ([] : List UInt8) then (some (0, 0, 0, (⟨#[]⟩ : ByteArray), 6)) else (if 0 < ((a0.extract 1 a0.size).size : Int) then (if (bt (a0.extract 1 a0.size) 0) = 64 then (inst_Take.j0 k a0 (a0.extract 1 a0.size) 0 (wrap64 (bt a0 0)) 0 0) else (inst_Take.j0 k a0 (a0.extract 1 a0.size) 0 (wrap64 (bt a0 0)) 0 (wrap64 ((wrap64 (127 - (wrap64 (bt (a0.extract 1 a0.size) 0)))) + 1)))) else (none))) else (if t152 = 4 then ((leb_TakeU.f k (a0.extract 1 a0.size) 1).bind fun bt159 => (if bt159.2.2 = 0 then ((leb_TakeU.f k bt159.2.1 32).bind fun bt162 => (inst_Take.j2 k bt162.2.1 bt162.2.2 (wrap64 (bt a0 0)) bt162.1 bt159.1)) else (inst_Take.j2 k bt159.2.1 bt159.2.2 (wrap64 (bt a0 0)) 0 bt159.1))) else (if t152 = 3 then ((leb_TakeU.f k (a0.extract 1 a0.size) 32).bind fun bt153 => (inst_Take.j2 k bt153.2.1 bt153.2.2 (wrap64 (bt a0 0)) bt153.1 0)) else (if t152 = 5 then ((leb_TakeS.f k (a0.extract 1 a0.size) 32).bind fun bt165 => (inst_Take.j2 k bt165.2.1 bt165.2.2 (wrap64 (bt a0 0)) bt165.1 0)) else (if t152 = 6 then ((leb_TakeS.f k (a0.extract 1 a0.size) 64).bind fun bt156 => (inst_Take.j2 k bt156.2.1 bt156.2.2 (wrap64 (bt a0 0)) bt156.1 0)) else (inst_Take.j2 k (a0.extract 1 a0.size) 0 (wrap64 (bt a0 0)) 0 0)))))))) else (none)) else (none))
theorem inst_Take.mono_l : ∀ k, (∀ y0 y1 y2 y3 y4, LeO (inst_Take.j2 k y0 y1 y2 y3 y4) (inst_Take.j2 (k + 1) y0 y1 y2 y3 y4)) ∧ (∀ y0 y1 y2 y3 y4 y5, LeO (inst_Take.j0 k y0 y1 y2 y3 y4 y5) (inst_Take.j0 (k + 1) y0 y1 y2 y3 y4 y5)) ∧ (∀ y0 y1 y2 y3 y4 y5, LeO (inst_Take.j1 k y0 y1 y2 y3 y4 y5) (inst_Take.j1 (k + 1) y0 y1 y2 y3 y4 y5))
  | 0 => ⟨fun _ _ _ _ _ r h => by simp [inst_Take.j2] at h, fun _ _ _ _ _ _ r h => by simp [inst_Take.j0] at h, fun _ _ _ _ _ _ r h => by simp [inst_Take.j1] at h⟩
  | k + 1 => by
    obtain ⟨ih0, ih1, ih2⟩ := inst_Take.mono_l k
    refine ⟨?_, ?_, ?_⟩
    · intro y0 y1 y2 y3 y4
      unfold inst_Take.j2
      repeat' first
      | (with_reducible exact ih0 _ _ _ _ _)
      | (with_reducible exact ih1 _ _ _ _ _ _)
      | (with_reducible exact ih2 _ _ _ _ _ _)
      | (with_reducible exact inst_Kind.mono _ _)
      | (with_reducible exact leb_TakeS.mono _ _ _)
      | (with_reducible exact leb_TakeU.mono _ _ _)
      | (with_reducible exact LeO.refl _)
      | (with_reducible exact LeO.none _)
      | (with_reducible refine LeO.ite ?_ ?_)
      | (with_reducible refine LeO.bind ?_ (fun _ => ?_))
      | exact ih0 _ _ _ _ _
      | exact ih1 _ _ _ _ _ _
      | exact ih2 _ _ _ _ _ _
      | exact inst_Kind.mono _ _
      | exact leb_TakeS.mono _ _ _
      | exact leb_TakeU.mono _ _ _
      | exact LeO.none _
      | refine LeO.ite ?_ ?_
      | refine LeO.bind ?_ (fun _ => ?_)
    · intro y0 y1 y2 y3 y4 y5
      unfold inst_Take.j0
      repeat' first
      | (with_reducible exact ih0 _ _ _ _ _)
      | (with_reducible exact ih1 _ _ _ _ _ _)
      | (with_reducible exact ih2 _ _ _ _ _ _)
      | (with_reducible exact inst_Kind.mono _ _)
      | (with_reducible exact leb_TakeS.mono _ _ _)
      | (with_reducible exact leb_TakeU.mono _ _ _)
      | (with_reducible exact LeO.refl _)
      | (with_reducible exact LeO.none _)
      | (with_reducible refine LeO.ite ?_ ?_)
      | (with_reducible refine LeO.bind ?_ (fun _ => ?_))
      | exact ih0 _ _ _ _ _
      | exact ih1 _ _ _ _ _ _
      | exact ih2 _ _ _ _ _ _
      | exact inst_Kind.mono _ _
      | exact leb_TakeS.mono _ _ _
      | exact leb_TakeU.mono _ _ _
      | exact LeO.none _
      | refine LeO.ite ?_ ?_
      | refine LeO.bind ?_ (fun _ => ?_)
    · intro y0 y1 y2 y3 y4 y5
      unfold inst_Take.j1
      repeat' first
      | (with_reducible exact ih0 _ _ _ _ _)
      | (with_reducible exact ih1 _ _ _ _ _ _)
      | (with_reducible exact ih2 _ _ _ _ _ _)
      | (with_reducible exact inst_Kind.mono _ _)
      | (with_reducible exact leb_TakeS.mono _ _ _)
      | (with_reducible exact leb_TakeU.mono _ _ _)
      | (with_reducible exact LeO.refl _)
      | (with_reducible exact LeO.none _)
      | (with_reducible refine LeO.ite ?_ ?_)
      | (with_reducible refine LeO.bind ?_ (fun _ => ?_))
      | exact ih0 _ _ _ _ _
      | exact ih1 _ _ _ _ _ _
      | exact ih2 _ _ _ _ _ _
      | exact inst_Kind.mono _ _
      | exact leb_TakeS.mono _ _ _
      | exact leb_TakeU.mono _ _ _
      | exact LeO.none _
      | refine LeO.ite ?_ ?_
      | refine LeO.bind ?_ (fun _ => ?_)
theorem inst_Take.mono : ∀ a0 k, LeO (inst_Take.f k a0) (inst_Take.f (k + 1) a0) := by
  intro a0 k
  obtain ⟨ih0, ih1, ih2⟩ := inst_Take.mono_l k
  unfold inst_Take.f
  repeat' first
      | (with_reducible exact ih0 _ _ _ _ _)
      | (with_reducible exact ih1 _ _ _ _ _ _)
      | (with_reducible exact ih2 _ _ _ _ _ _)
      | (with_reducible exact inst_Kind.mono _ _)
      | (with_reducible exact leb_TakeS.mono _ _ _)
      | (with_reducible exact leb_TakeU.mono _ _ _)
      | (with_reducible exact LeO.refl _)
      | (with_reducible exact LeO.none _)
      | (with_reducible refine LeO.ite ?_ ?_)
      | (with_reducible refine LeO.bind ?_ (fun _ => ?_))
      | exact ih0 _ _ _ _ _
      | exact ih1 _ _ _ _ _ _
      | exact ih2 _ _ _ _ _ _
      | exact inst_Kind.mono _ _
      | exact leb_TakeS.mono _ _ _
      | exact leb_TakeU.mono _ _ _
      | exact LeO.none _
      | refine LeO.ite ?_ ?_
      | refine LeO.bind ?_ (fun _ => ?_)
def inst_Take.T3 : Bool × List (List Nat × List Nat) := (true, [([], []), ([0], [0]), ([1], [1]), ([], []), ([3], [3]), ([0, 1, 2], []), ([5, 2, 0, 1, 2], [2, 5]), ([4, 6, 0, 1, 2, 3, 4, 5, 6], [4])])
def inst_Take.B3 : List Nat := [0, 1, 3, 0, 8, 7, 39, 127]
theorem inst_Take.tab3 : rtab .any (opsOf Try.f16 3) = inst_Take.T3 := by kernel_rfl
theorem inst_Take.bits3 : waitsOk inst_Take.T3.2 inst_Take.B3 = true := by kernel_rfl
set_option maxHeartbeats 60000000 in
set_option maxRecDepth 100000 in
theorem inst_Take.calls (k : Nat) (a0 : ByteArray) (r1 : Int) (r2 : Int) (r3 : Int) (r4 : ByteArray) (r5 : Int) (w : World) (h : inst_Take.f k a0 = some (r1, r2, r3, r4, r5)) :
    Calls Try.prog 16 #[.string a0] w fun e w' => e = .returned (.tuple #[.agg #[.int .i64 r1, .int .i64 r2, .int .i64 r3], .string r4, .int .i64 r5]) ∧ Below w.heap.size w w' := by
  have hu23 := Try.underlying23
  have HB := Aside0.mk (Below.refl w.heap.size w)
  have H : (if a0.toList = ([] : List UInt8) then (some (0, 0, 0, (⟨#[]⟩ : ByteArray), 6)) else (if 0 < (a0.size : Int) then (if 1 ≤ (a0.size : Int) then ((inst_Kind.f k (wrap64 (bt a0 0))).bind fun t152 => (if t152 = 0 then (inst_Take.j2 k (a0.extract 1 a0.size) 6 (wrap64 (bt a0 0)) 0 0) else (if t152 = 2 then (if (a0.extract 1 a0.size).toList = ([] : List UInt8) then (some (0, 0, 0, (⟨#[]⟩ : ByteArray), 6)) else (if 0 < ((a0.extract 1 a0.size).size : Int) then (if (bt (a0.extract 1 a0.size) 0) = 64 then (inst_Take.j0 k a0 (a0.extract 1 a0.size) 0 (wrap64 (bt a0 0)) 0 0) else (inst_Take.j0 k a0 (a0.extract 1 a0.size) 0 (wrap64 (bt a0 0)) 0 (wrap64 ((wrap64 (127 - (wrap64 (bt (a0.extract 1 a0.size) 0)))) + 1)))) else (none))) else (if t152 = 4 then ((leb_TakeU.f k (a0.extract 1 a0.size) 1).bind fun bt159 => (if bt159.2.2 = 0 then ((leb_TakeU.f k bt159.2.1 32).bind fun bt162 => (inst_Take.j2 k bt162.2.1 bt162.2.2 (wrap64 (bt a0 0)) bt162.1 bt159.1)) else (inst_Take.j2 k bt159.2.1 bt159.2.2 (wrap64 (bt a0 0)) 0 bt159.1))) else (if t152 = 3 then ((leb_TakeU.f k (a0.extract 1 a0.size) 32).bind fun bt153 => (inst_Take.j2 k bt153.2.1 bt153.2.2 (wrap64 (bt a0 0)) bt153.1 0)) else (if t152 = 5 then ((leb_TakeS.f k (a0.extract 1 a0.size) 32).bind fun bt165 => (inst_Take.j2 k bt165.2.1 bt165.2.2 (wrap64 (bt a0 0)) bt165.1 0)) else (if t152 = 6 then ((leb_TakeS.f k (a0.extract 1 a0.size) 64).bind fun bt156 => (inst_Take.j2 k bt156.2.1 bt156.2.2 (wrap64 (bt a0 0)) bt156.1 0)) else (inst_Take.j2 k (a0.extract 1 a0.size) 0 (wrap64 (bt a0 0)) 0 0)))))))) else (none)) else (none))) = some (r1, r2, r3, r4, r5) := h
  clear h
  by_cases c2 : a0.toList = ([] : List UInt8)
  · rw [if_pos c2] at H
    have c2b0 : (a0.toList == ([] : List UInt8)) = true := beq_iff_eq.mpr c2
    have c2b1 : (a0.toList != ([] : List UInt8)) = false := bne_eq_false_iff_eq.mpr c2
    clear c2
    simp only [Option.some.injEq, Prod.mk.injEq] at H
    obtain ⟨rfl, rfl, rfl, rfl, rfl⟩ := H
    go_enter Try.func16, Try.ntmps16
    go_wp2_with (first | ((with_reducible refine gate_dst (N := 2) rfl ?_); refine box_event ?hg (N := 2) ?hd (cs := #[.int .i64 0, .int .i64 0, .int .i64 0]) (t := 23) ?hr ?_; (case hd => rfl); (case hg => rfl); (case hr => first | (go_simp; done) | (go_simp; rfl)); intro gb151 hg w3 hbox hb; have n0_ := Aside0.mk (below_step (by repeat (first | (with_reducible first | exact HB.out | apply below_alloc | apply pw_below_drewN | apply below_drew1) | exact HB.out)) hb); have n1_ := Aside0.mk (hbox); have n2_ := Aside0.mk ((by rw [hg]; exact (below_size (by repeat (first | (with_reducible first | exact HB.out | apply below_alloc | apply pw_below_drewN | apply below_drew1) | exact HB.out))) : w.heap.size ≤ gb151)); have n3_ := Aside0.mk ((by rw [hg]; exact (below_size (by repeat (first | (with_reducible first | exact HB.out | apply below_alloc | apply pw_below_drewN | apply below_drew1) | exact HB.out))) : w.heap.size ≤ gb151)); clear HB; have HB := n0_; have BK151 := n1_; have GW151 := n2_; have GE151 := n3_; clear n0_ n1_ n2_ n3_; clear hb hbox hg; have hcz4_0 : w3.cell? ⟨gb151, 0, none⟩ = some (.int .i64 0) := (blk_cell BK151.out 0).trans rfl; have hcz4_1 : w3.cell? ⟨gb151, 1, none⟩ = some (.int .i64 0) := (blk_cell BK151.out 1).trans rfl; have hcz4_2 : w3.cell? ⟨gb151, 2, none⟩ = some (.int .i64 0) := (blk_cell BK151.out 2).trans rfl; have hfz4_0 := blk_frozen BK151.out 0; have hfz4_1 := blk_frozen BK151.out 1; have hfz4_2 := blk_frozen BK151.out 2))
    refine bodyPost_ret (results_ctt rfl _ _ gb151 23 #[.int .i64 0, .int .i64 0, .int .i64 0] (0, 0) _ rfl (by (with_reducible repeat (first | refine blk_drewN ?_ _ | refine blk_drew ?_ | refine blk_alloc ?_ _)); refine blk_put (cs := #[.int .i64 0, .int .i64 0, .int .i64 0]) ?_ 2 _ rfl; (with_reducible repeat (first | refine blk_drewN ?_ _ | refine blk_drew ?_ | refine blk_alloc ?_ _)); refine blk_put (cs := #[.int .i64 0, .int .i64 0, .int .i64 0]) ?_ 1 _ rfl; (with_reducible repeat (first | refine blk_drewN ?_ _ | refine blk_drew ?_ | refine blk_alloc ?_ _)); refine blk_put (cs := #[.int .i64 0, .int .i64 0, .int .i64 0]) ?_ 0 _ rfl; (with_reducible repeat (first | refine blk_drewN ?_ _ | refine blk_drew ?_ | refine blk_alloc ?_ _)); exact BK151.out) Try.underlying23 rfl (by kernel_rfl)) rfl ?_
    exact ⟨by first | rfl | (simp [errW_none, errW_some] <;> (first | rfl | grind)) | (simp [*, errW_none, errW_some] <;> rfl), by repeat (first | (with_reducible first | exact HB.out | apply below_alloc | apply pw_below_drewN | apply below_drew1 | refine below_set ?_ GE151.out) | exact HB.out)⟩
  · rw [if_neg c2] at H
    have c2b0 : (a0.toList == ([] : List UInt8)) = false := beq_eq_false_iff_ne.mpr c2
    have c2b1 : (a0.toList != ([] : List UInt8)) = true := bne_iff_ne.mpr c2
    by_cases c5 : 0 < (a0.size : Int)
    · rw [if_pos c5] at H
      have c5b0 : decide (0 < (a0.size : Int)) = true := decide_eq_true c5
      have c5b1 : decide (0 < a0.size) = true := decide_eq_true (by omega)
      clear c5
      by_cases c7 : 1 ≤ (a0.size : Int)
      · rw [if_pos c7] at H
        have c7b0 := eq_true c7
        have c7b1 : decide (1 ≤ (a0.size : Int)) = true := decide_eq_true c7
        clear c7
        replace H := Option.bind_eq_some_iff.mp H
        obtain ⟨t152, A80, H⟩ := H
        replace H : (if t152 = 0 then (inst_Take.j2 k (a0.extract 1 a0.size) 6 (wrap64 (bt a0 0)) 0 0) else (if t152 = 2 then (if (a0.extract 1 a0.size).toList = ([] : List UInt8) then (some (0, 0, 0, (⟨#[]⟩ : ByteArray), 6)) else (if 0 < ((a0.extract 1 a0.size).size : Int) then (if (bt (a0.extract 1 a0.size) 0) = 64 then (inst_Take.j0 k a0 (a0.extract 1 a0.size) 0 (wrap64 (bt a0 0)) 0 0) else (inst_Take.j0 k a0 (a0.extract 1 a0.size) 0 (wrap64 (bt a0 0)) 0 (wrap64 ((wrap64 (127 - (wrap64 (bt (a0.extract 1 a0.size) 0)))) + 1)))) else (none))) else (if t152 = 4 then ((leb_TakeU.f k (a0.extract 1 a0.size) 1).bind fun bt159 => (if bt159.2.2 = 0 then ((leb_TakeU.f k bt159.2.1 32).bind fun bt162 => (inst_Take.j2 k bt162.2.1 bt162.2.2 (wrap64 (bt a0 0)) bt162.1 bt159.1)) else (inst_Take.j2 k bt159.2.1 bt159.2.2 (wrap64 (bt a0 0)) 0 bt159.1))) else (if t152 = 3 then ((leb_TakeU.f k (a0.extract 1 a0.size) 32).bind fun bt153 => (inst_Take.j2 k bt153.2.1 bt153.2.2 (wrap64 (bt a0 0)) bt153.1 0)) else (if t152 = 5 then ((leb_TakeS.f k (a0.extract 1 a0.size) 32).bind fun bt165 => (inst_Take.j2 k bt165.2.1 bt165.2.2 (wrap64 (bt a0 0)) bt165.1 0)) else (if t152 = 6 then ((leb_TakeS.f k (a0.extract 1 a0.size) 64).bind fun bt156 => (inst_Take.j2 k bt156.2.1 bt156.2.2 (wrap64 (bt a0 0)) bt156.1 0)) else (inst_Take.j2 k (a0.extract 1 a0.size) 0 (wrap64 (bt a0 0)) 0 0))))))) = some (r1, r2, r3, r4, r5) := H
        have A8 := Aside0.mk A80
        clear A80
        have HC9 := Aside0.mk H
        clear H
        go_enter Try.func16, Try.ntmps16
        try go_wp2_with (first | ((with_reducible refine gate_dst (N := 2) rfl ?_); refine box_event ?hg (N := 2) ?hd (cs := #[.int .i64 0, .int .i64 0, .int .i64 0]) (t := 23) ?hr ?_; (case hd => rfl); (case hg => rfl); (case hr => first | (go_simp; done) | (go_simp; rfl)); intro gb151 hg w10 hbox hb; have n0_ := Aside0.mk (below_step (by repeat (first | (with_reducible first | exact HB.out | apply below_alloc | apply pw_below_drewN | apply below_drew1) | exact HB.out)) hb); have n1_ := Aside0.mk (hbox); have n2_ := Aside0.mk ((by rw [hg]; exact (below_size (by repeat (first | (with_reducible first | exact HB.out | apply below_alloc | apply pw_below_drewN | apply below_drew1) | exact HB.out))) : w.heap.size ≤ gb151)); have n3_ := Aside0.mk ((by rw [hg]; exact (below_size (by repeat (first | (with_reducible first | exact HB.out | apply below_alloc | apply pw_below_drewN | apply below_drew1) | exact HB.out))) : w.heap.size ≤ gb151)); clear HB; have HB := n0_; have BK151 := n1_; have GW151 := n2_; have GE151 := n3_; clear n0_ n1_ n2_ n3_; clear hb hbox hg))
        have n0_ := Aside0.mk (blk_drew BK151.out)
        have n1_ := Aside0.mk (below_drew1 HB.out)
        clear BK151
        clear HB
        have BK151 := n0_
        have HB := n1_
        clear n0_ n1_
        have p6 : 0 ≤ (0 : Int) := (by omega)
        have q6 : 0 < a0.size := (by have : (0 : Int) < (a0.size : Int) := of_decide_eq_true (by first | (with_reducible assumption) | assumption); omega)
        have hx6 : ∀ h : 0 < a0.size, ((a0[0]'h).toNat : Int) = bt a0 0 := bt_at a0 0
        clear p6
        have qi6 : (0 < (a0.size : Int)) = True := eq_true (of_decide_eq_true (by first | (with_reducible assumption) | assumption))
        replace q6 := eq_true q6
        refine start_ (n := 8) (S := fun w' => True) (ds := []) #[false, false, false, false, false, false, false, false] (by kernel_rfl) rfl rfl trivial (fun hHeld => ?_); refine with_tabW inst_Take.tab3 inst_Take.bits3 (fun HT_ HW_ => ?_)
        generalize w10.drew = w11 at BK151 HB hHeld ⊢
        refine pure_ (i := 0) (N := some 8) (v := ?_) (a' := ?_) #[true, false, false, false, false, false, false, false] rfl rfl (any_of HT_.out (by kernel_rfl)) (fun _ _ _ h => h) (Or.inl ⟨by rfl, ?_⟩) ?_ ?_
        rotate_left
        · intro w'
          go_simp
          with_reducible rfl
        rotate_left
        · simp only [Act.put, List.setIfInBounds_toArray, List.set_cons_zero, List.set_cons_succ, i64_w, i32_w]
          rfl
        refine pure_ (i := 3) (N := some 11) (v := ?_) (a' := ?_) #[true, false, false, true, false, false, false, false] rfl rfl (any_of HT_.out (by kernel_rfl)) (fun _ _ _ h => h) (Or.inl ⟨by rfl, ?_⟩) ?_ ?_
        rotate_left
        · intro w'
          go_simp
          with_reducible rfl
        rotate_left
        · simp only [Act.put, List.setIfInBounds_toArray, List.set_cons_zero, List.set_cons_succ, i64_w, i32_w]
          rfl
        refine pure_ (i := 4) (N := some 12) (v := ?_) (a' := ?_) #[true, false, false, true, true, false, false, false] rfl rfl (any_of HT_.out (by kernel_rfl)) (fun _ _ _ h => h) (Or.inl ⟨by rfl, ?_⟩) ?_ ?_
        rotate_left
        · intro w'
          go_simp
          with_reducible rfl
        rotate_left
        · simp only [Act.put, List.setIfInBounds_toArray, List.set_cons_zero, List.set_cons_succ, i64_w, i32_w]
          rfl
        refine take_ (i := 1) (N := some 9) (v := ?_) (a' := ?_) #[true, true, false, true, true, false, false, false] rfl rfl (take_ofW HT_.out HW_.out (by kernel_rfl)) (fun _ _ _ h => h) (Or.inl ⟨by rfl, ?_⟩) hHeld ?_ ?_
        rotate_left
        · intro w' _
          go_simp
          with_reducible rfl
        rotate_left
        · simp only [Act.put, List.setIfInBounds_toArray, List.set_cons_zero, List.set_cons_succ, i64_w, i32_w]
          rfl
        refine pure_ (i := 2) (N := some 10) (v := ?_) (a' := ?_) #[true, true, true, true, true, false, false, false] rfl rfl (any_of HT_.out (by kernel_rfl)) (fun _ _ _ h => h) (Or.inl ⟨by rfl, ?_⟩) ?_ ?_
        rotate_left
        · intro w'
          go_simp
          with_reducible rfl
        rotate_left
        · simp only [Act.put, List.setIfInBounds_toArray, List.set_cons_zero, List.set_cons_succ, i64_w, i32_w]
          rfl
        refine pure_ (i := 5) (N := some 13) (v := ?_) (a' := ?_) #[true, true, true, true, true, true, false, false] rfl rfl (any_of HT_.out (by kernel_rfl)) (fun _ _ _ h => h) (Or.inl ⟨by rfl, ?_⟩) ?_ ?_
        rotate_left
        · intro w'
          go_simp
          with_reducible rfl
        rotate_left
        · simp only [Act.put, List.setIfInBounds_toArray, List.set_cons_zero, List.set_cons_succ, i64_w, i32_w]
          rfl
        refine one_ (i := 6) (N := none) #[true, true, true, true, true, true, true, false] rfl rfl (one_of HT_.out (by kernel_rfl)) (by decide) (fun K hK => ?_)
        have hs12 : w11.cell? ⟨gb151, 0, none⟩ = some (.int .i64 0) := (blk_cell BK151.out 0).trans rfl
        have hfs12 := blk_frozen BK151.out 0
        refine skip_ (w1 := ?_) (by rfl) rfl ?_ ?_
        rotate_left
        · go_simp
          rfl
        refine hK.out _ _ trivial (fun hHeld => ?_)
        clear hK K
        refine pure_ (i := 7) (N := some 3) (v := ?_) (a' := ?_) #[true, true, true, true, true, true, true, true] rfl rfl (any_of HT_.out (by kernel_rfl)) (fun _ _ _ h => h) (Or.inl ⟨by rfl, ?_⟩) ?_ ?_
        rotate_left
        · intro w'
          go_simp
          with_reducible rfl
        rotate_left
        · simp only [Act.put, List.setIfInBounds_toArray, List.set_cons_zero, List.set_cons_succ, i64_w, i32_w]
          rfl
        refine done_ (done_of HT_.out (by kernel_rfl)) ?_
        have hcz13_0 : w11.cell? ⟨gb151, 0, none⟩ = some (.int .i64 0) := (blk_cell BK151.out 0).trans rfl
        have hcz13_1 : w11.cell? ⟨gb151, 1, none⟩ = some (.int .i64 0) := (blk_cell BK151.out 1).trans rfl
        have hcz13_2 : w11.cell? ⟨gb151, 2, none⟩ = some (.int .i64 0) := (blk_cell BK151.out 2).trans rfl
        have hfz13_0 := blk_frozen BK151.out 0
        have hfz13_1 := blk_frozen BK151.out 1
        have hfz13_2 := blk_frozen BK151.out 2
        go_upto_block 0 with (first | ((with_reducible refine gate_callee (f := 12) rfl ?_); refine goesL_ (some 16) rfl rfl Try.func12 (by kernel_rfl) rfl #[.int .i64 (wrap64 (bt a0 0))] rfl (by (try simp only [List.map_toArray, List.map_cons, List.map_nil]); first | done | rfl | (simp only [List.length_drop, List.length_take]; rfl)) ?_; (with_reducible refine (inst_Kind.calls k (wrap64 (bt a0 0)) t152 _ A8.out).mono ?_); rintro e w14 ⟨rfl, hb⟩; refine ⟨_, rfl, ?_⟩; have n0_ := Aside0.mk (blk_below (g := gb151) (o := .cells #[.int .i64 (wrap64 (bt a0 0)), .int .i64 0, .int .i64 0] 23 (0, 0)) (by (with_reducible repeat (first | refine blk_drewN ?_ _ | refine blk_drew ?_ | refine blk_alloc ?_ _)); refine blk_put (cs := #[.int .i64 0, .int .i64 0, .int .i64 0]) ?_ 0 _ rfl; (with_reducible repeat (first | refine blk_drewN ?_ _ | refine blk_drew ?_ | refine blk_alloc ?_ _)); exact BK151.out) hb); have n1_ := Aside0.mk (below_step (by repeat (first | (with_reducible first | exact HB.out | apply below_alloc | apply pw_below_drewN | apply below_drew1 | refine below_set ?_ GE151.out) | exact HB.out)) hb); clear BK151; clear HB; have BK151 := n0_; have HB := n1_; clear n0_ n1_; (try clear hb); (try clear hb2); (try clear hk); (try clear hi)))
        (try simp only [Act.put, List.setIfInBounds_toArray, List.set_cons_zero, List.set_cons_succ])
        go_cut [3, 4] (fun v3 v4 wc => ∃ (kq : Nat) (x3_8 : ByteArray) (x4_8 : Int) (x152000_8 : Int) (x152001_8 : Int) (x152002_8 : Int), v3 = .string x3_8 ∧ v4 = .int .i64 x4_8 ∧ Aside0 (inst_Take.j2 kq x3_8 x4_8 x152000_8 x152001_8 x152002_8 = some (r1, r2, r3, r4, r5)) ∧ Aside0 (kq ≤ k) ∧ Aside0 (wc.heap[gb151]? = some (.cells #[.int .i64 x152000_8, .int .i64 x152001_8, .int .i64 x152002_8] 23 (0, 0))) ∧ Aside0 (Below w.heap.size w wc))
        case first =>
          have H := HC9.out
          clear HC9
          by_cases c15 : t152 = 0
          · rw [if_pos c15] at H
            have c15b0 : (t152 == 0) = true := beq_iff_eq.mpr c15
            have c15b1 : (t152 != 0) = false := bne_eq_false_iff_eq.mpr c15
            clear c15
            (first | rw [c15b0] | (simp only [i64_w, i32_w]; rw [c15b0]) | skip)
            have H' := Aside0.mk H
            clear H
            go_wp2
            go_meet
            case rel => exact ⟨_, (a0.extract 1 a0.size), (6), (wrap64 (bt a0 0)), (0), (0), (by first | rfl | (simp; done) | (simp [*]; done)), (by first | rfl | (simp; done) | (simp [*]; done)), H', ⟨by first | omega | exact Nat.le_refl _⟩, ⟨by (with_reducible repeat (first | refine blk_drewN ?_ _ | refine blk_drew ?_ | refine blk_alloc ?_ _)); exact BK151.out⟩, ⟨by repeat (first | (with_reducible first | exact HB.out | apply below_alloc | apply pw_below_drewN | apply below_drew1 | refine below_set ?_ GE151.out) | exact HB.out)⟩⟩
          · rw [if_neg c15] at H
            have c15b0 : (t152 == 0) = false := beq_eq_false_iff_ne.mpr c15
            have c15b1 : (t152 != 0) = true := bne_iff_ne.mpr c15
            (first | rw [c15b0] | (simp only [i64_w, i32_w]; rw [c15b0]) | skip)
            by_cases c16 : t152 = 2
            · rw [if_pos c16] at H
              have c16b0 : (t152 == 2) = true := beq_iff_eq.mpr c16
              have c16b1 : (t152 != 2) = false := bne_eq_false_iff_eq.mpr c16
              clear c16
              by_cases c17 : (a0.extract 1 a0.size).toList = ([] : List UInt8)
              · rw [if_pos c17] at H
                have c17b0 : ((a0.extract 1 a0.size).toList == ([] : List UInt8)) = true := beq_iff_eq.mpr c17
                have c17b1 : ((a0.extract 1 a0.size).toList != ([] : List UInt8)) = false := bne_eq_false_iff_eq.mpr c17
                clear c17
                simp only [Option.some.injEq, Prod.mk.injEq] at H
                obtain ⟨rfl, rfl, rfl, rfl, rfl⟩ := H
                have hcz18_0 : w14.cell? ⟨gb151, 0, none⟩ = some (.int .i64 (wrap64 (bt a0 0))) := (blk_cell BK151.out 0).trans rfl
                have hcz18_1 : w14.cell? ⟨gb151, 1, none⟩ = some (.int .i64 0) := (blk_cell BK151.out 1).trans rfl
                have hcz18_2 : w14.cell? ⟨gb151, 2, none⟩ = some (.int .i64 0) := (blk_cell BK151.out 2).trans rfl
                have hfz18_0 := blk_frozen BK151.out 0
                have hfz18_1 := blk_frozen BK151.out 1
                have hfz18_2 := blk_frozen BK151.out 2
                go_wp2
                refine bodyPost_ret (results_ctt rfl _ _ gb151 23 #[.int .i64 0, .int .i64 0, .int .i64 0] (0, 0) _ rfl (by (with_reducible repeat (first | refine blk_drewN ?_ _ | refine blk_drew ?_ | refine blk_alloc ?_ _)); refine blk_put (cs := #[.int .i64 0, .int .i64 0, .int .i64 0]) ?_ 2 _ rfl; (with_reducible repeat (first | refine blk_drewN ?_ _ | refine blk_drew ?_ | refine blk_alloc ?_ _)); refine blk_put (cs := #[.int .i64 0, .int .i64 0, .int .i64 0]) ?_ 1 _ rfl; (with_reducible repeat (first | refine blk_drewN ?_ _ | refine blk_drew ?_ | refine blk_alloc ?_ _)); refine blk_put (cs := #[.int .i64 (wrap64 (bt a0 0)), .int .i64 0, .int .i64 0]) ?_ 0 _ rfl; (with_reducible repeat (first | refine blk_drewN ?_ _ | refine blk_drew ?_ | refine blk_alloc ?_ _)); exact BK151.out) Try.underlying23 rfl (by kernel_rfl)) rfl ?_
                exact ⟨by first | rfl | (simp [errW_none, errW_some] <;> (first | rfl | grind)) | (simp [*, errW_none, errW_some] <;> rfl), by repeat (first | (with_reducible first | exact HB.out | apply below_alloc | apply pw_below_drewN | apply below_drew1 | refine below_set ?_ GE151.out) | exact HB.out)⟩
              · rw [if_neg c17] at H
                have c17b0 : ((a0.extract 1 a0.size).toList == ([] : List UInt8)) = false := beq_eq_false_iff_ne.mpr c17
                have c17b1 : ((a0.extract 1 a0.size).toList != ([] : List UInt8)) = true := bne_iff_ne.mpr c17
                by_cases c19 : 0 < ((a0.extract 1 a0.size).size : Int)
                · rw [if_pos c19] at H
                  have c19b0 : decide (0 < ((a0.extract 1 a0.size).size : Int)) = true := decide_eq_true c19
                  have c19b1 : decide (0 < (a0.extract 1 a0.size).size) = true := decide_eq_true (by omega)
                  clear c19
                  have HC21 := Aside0.mk H
                  clear H
                  have p20 : 0 ≤ (0 : Int) := (by omega)
                  have q20 : 0 < (a0.extract 1 a0.size).size := (by have : (0 : Int) < ((a0.extract 1 a0.size).size : Int) := of_decide_eq_true (by first | (with_reducible assumption) | assumption); omega)
                  have hx20 : ∀ h : 0 < (a0.extract 1 a0.size).size, (((a0.extract 1 a0.size)[0]'h).toNat : Int) = bt (a0.extract 1 a0.size) 0 := bt_at (a0.extract 1 a0.size) 0
                  clear p20
                  have qi20 : (0 < ((a0.extract 1 a0.size).size : Int)) = True := eq_true (of_decide_eq_true (by first | (with_reducible assumption) | assumption))
                  replace q20 := eq_true q20
                  have q20s : (0 < a0.size - 1) = True := eq_true (by have h_ := of_eq_true q20; simp at h_; omega)
                  go_upto_if 34 with (fail)
                  go_cut [] (fun wc => ∃ (kq : Nat) (x152002_20 : Int), Aside0 (inst_Take.j0 kq a0 (a0.extract 1 a0.size) 0 (wrap64 (bt a0 0)) 0 x152002_20 = some (r1, r2, r3, r4, r5)) ∧ Aside0 (kq ≤ k) ∧ Aside0 (wc.heap[gb151]? = some (.cells #[.int .i64 (wrap64 (bt a0 0)), .int .i64 0, .int .i64 x152002_20] 23 (0, 0))) ∧ Aside0 (Below w.heap.size w wc))
                  case first =>
                    have H := HC21.out
                    clear HC21
                    by_cases c22 : (bt (a0.extract 1 a0.size) 0) = 64
                    · rw [if_pos c22] at H
                      have c22b0 : ((bt (a0.extract 1 a0.size) 0) == 64) = true := beq_iff_eq.mpr c22
                      have c22b1 : ((bt (a0.extract 1 a0.size) 0) != 64) = false := bne_eq_false_iff_eq.mpr c22
                      clear c22
                      (first | rw [c22b0] | (simp only [i64_w, i32_w]; rw [c22b0]) | skip)
                      have H' := Aside0.mk H
                      clear H
                      go_wp2
                      go_meet
                      case rel => exact ⟨_, (0), H', ⟨by first | omega | exact Nat.le_refl _⟩, ⟨by (with_reducible repeat (first | refine blk_drewN ?_ _ | refine blk_drew ?_ | refine blk_alloc ?_ _)); exact BK151.out⟩, ⟨by repeat (first | (with_reducible first | exact HB.out | apply below_alloc | apply pw_below_drewN | apply below_drew1 | refine below_set ?_ GE151.out) | exact HB.out)⟩⟩
                    · rw [if_neg c22] at H
                      have c22b0 : ((bt (a0.extract 1 a0.size) 0) == 64) = false := beq_eq_false_iff_ne.mpr c22
                      have c22b1 : ((bt (a0.extract 1 a0.size) 0) != 64) = true := bne_iff_ne.mpr c22
                      (first | rw [c22b0] | (simp only [i64_w, i32_w]; rw [c22b0]) | skip)
                      have H' := Aside0.mk H
                      clear H
                      have p23 : 0 ≤ (0 : Int) := (by omega)
                      have q23 : 0 < (a0.extract 1 a0.size).size := (by have : (0 : Int) < ((a0.extract 1 a0.size).size : Int) := of_decide_eq_true (by first | (with_reducible assumption) | assumption); omega)
                      have hx23 : ∀ h : 0 < (a0.extract 1 a0.size).size, (((a0.extract 1 a0.size)[0]'h).toNat : Int) = bt (a0.extract 1 a0.size) 0 := bt_at (a0.extract 1 a0.size) 0
                      clear p23
                      have qi23 : (0 < ((a0.extract 1 a0.size).size : Int)) = True := eq_true (of_decide_eq_true (by first | (with_reducible assumption) | assumption))
                      replace q23 := eq_true q23
                      have q23s : (0 < a0.size - 1) = True := eq_true (by have h_ := of_eq_true q23; simp at h_; omega)
                      have hcz24_0 : w14.cell? ⟨gb151, 0, none⟩ = some (.int .i64 (wrap64 (bt a0 0))) := (blk_cell BK151.out 0).trans rfl
                      have hcz24_1 : w14.cell? ⟨gb151, 1, none⟩ = some (.int .i64 0) := (blk_cell BK151.out 1).trans rfl
                      have hcz24_2 : w14.cell? ⟨gb151, 2, none⟩ = some (.int .i64 0) := (blk_cell BK151.out 2).trans rfl
                      have hfz24_0 := blk_frozen BK151.out 0
                      have hfz24_1 := blk_frozen BK151.out 1
                      have hfz24_2 := blk_frozen BK151.out 2
                      go_wp2
                      go_meet
                      case rel => exact ⟨_, (wrap64 ((wrap64 (127 - (wrap64 (bt (a0.extract 1 a0.size) 0)))) + 1)), H', ⟨by first | omega | exact Nat.le_refl _⟩, ⟨by (with_reducible repeat (first | refine blk_drewN ?_ _ | refine blk_drew ?_ | refine blk_alloc ?_ _)); refine blk_put (cs := #[.int .i64 (wrap64 (bt a0 0)), .int .i64 0, .int .i64 0]) ?_ 2 _ rfl; (with_reducible repeat (first | refine blk_drewN ?_ _ | refine blk_drew ?_ | refine blk_alloc ?_ _)); exact BK151.out⟩, ⟨by repeat (first | (with_reducible first | exact HB.out | apply below_alloc | apply pw_below_drewN | apply below_drew1 | refine below_set ?_ GE151.out) | exact HB.out)⟩⟩
                  case rest =>
                    clear HC21
                    try clear c1
                    try clear c2
                    try clear c2b0
                    try clear c2b1
                    try clear p2
                    try clear q2
                    try clear hx2
                    try clear qi2
                    try clear c5
                    try clear c5b0
                    try clear c5b1
                    try clear p6
                    try clear q6
                    try clear hx6
                    try clear qi6
                    try clear c7
                    try clear c7b0
                    try clear c7b1
                    try clear c12
                    try clear c15
                    try clear c15b0
                    try clear c15b1
                    try clear c16
                    try clear c16b0
                    try clear c16b1
                    try clear c17
                    try clear c17b0
                    try clear c17b1
                    try clear c19
                    try clear c19b0
                    try clear c19b1
                    try clear p20
                    try clear q20
                    try clear hx20
                    try clear qi20
                    try clear c22
                    try clear c22b0
                    try clear c22b1
                    try clear p23
                    try clear q23
                    try clear hx23
                    try clear qi23
                    try clear hcz13_0
                    try clear hcz13_1
                    try clear hcz13_2
                    try clear hcz18_0
                    try clear hcz18_1
                    try clear hcz18_2
                    try clear hcz24_0
                    try clear hcz24_1
                    try clear hcz24_2
                    try clear hcz4_0
                    try clear hcz4_1
                    try clear hcz4_2
                    try clear hfz13_0
                    try clear hfz13_1
                    try clear hfz13_2
                    try clear hfz18_0
                    try clear hfz18_1
                    try clear hfz18_2
                    try clear hfz24_0
                    try clear hfz24_1
                    try clear hfz24_2
                    try clear hfz4_0
                    try clear hfz4_1
                    try clear hfz4_2
                    try clear p20
                    try clear p23
                    try clear p6
                    try clear q20
                    try clear q23
                    try clear q6
                    obtain ⟨kq, x152002_20, HA, HJ20, BK151, HB⟩ := hcut
                    cases kq with
                    | zero => exact absurd HA.out (by simp [inst_Take.j0])
                    | succ kj20 =>
                      have H := HA.out
                      clear HA
                      simp only [inst_Take.j0] at H
                      by_cases c25 : 1 ≤ ((a0.extract 1 a0.size).size : Int)
                      · rw [if_pos c25] at H
                        have c25b0 := eq_true c25
                        have c25b1 : decide (1 ≤ ((a0.extract 1 a0.size).size : Int)) = true := decide_eq_true c25
                        have c25bs : ((1 : Int) ≤ ((a0.size - 1 : Nat) : Int)) = True := eq_true (by have h_ := of_decide_eq_true c25b1; simp at h_; omega)
                        clear c25
                        have HC26 := Aside0.mk H
                        clear H
                        go_upto_region 17 with (fail)
                        go_cut [60] (fun v60 wc => ∃ (kq : Nat) (x60_25 : Bool), v60 = .bool x60_25 ∧ Aside0 (inst_Take.j1 kq ((a0.extract 1 a0.size).extract 1 (a0.extract 1 a0.size).size) 0 x60_25 (wrap64 (bt a0 0)) 0 x152002_20 = some (r1, r2, r3, r4, r5)) ∧ Aside0 (kq ≤ kj20) ∧ Aside0 (wc.heap[gb151]? = some (.cells #[.int .i64 (wrap64 (bt a0 0)), .int .i64 0, .int .i64 x152002_20] 23 (0, 0))) ∧ Aside0 (Below w.heap.size w wc))
                        case first =>
                          have H := HC26.out
                          clear HC26
                          by_cases c27 : x152002_20 < 0
                          · rw [if_pos c27] at H
                            have c27b0 : decide (x152002_20 < 0) = true := decide_eq_true c27
                            clear c27
                            (first | rw [c27b0] | (simp only [i64_w, i32_w]; rw [c27b0]) | skip)
                            have H' := Aside0.mk H
                            clear H
                            have hcz28_0 : wc.cell? ⟨gb151, 0, none⟩ = some (.int .i64 (wrap64 (bt a0 0))) := (blk_cell BK151.out 0).trans rfl
                            have hcz28_1 : wc.cell? ⟨gb151, 1, none⟩ = some (.int .i64 0) := (blk_cell BK151.out 1).trans rfl
                            have hcz28_2 : wc.cell? ⟨gb151, 2, none⟩ = some (.int .i64 x152002_20) := (blk_cell BK151.out 2).trans rfl
                            have hfz28_0 := blk_frozen BK151.out 0
                            have hfz28_1 := blk_frozen BK151.out 1
                            have hfz28_2 := blk_frozen BK151.out 2
                            go_wp2
                            go_meet
                            case rel => exact ⟨_, (true), (by first | rfl | (simp; done) | (simp [*]; done)), H', ⟨by have := HJ20.out; first | omega | exact Nat.le_refl _⟩, ⟨by (with_reducible repeat (first | refine blk_drewN ?_ _ | refine blk_drew ?_ | refine blk_alloc ?_ _)); exact BK151.out⟩, ⟨by repeat (first | (with_reducible first | exact HB.out | apply below_alloc | apply pw_below_drewN | apply below_drew1 | refine below_set ?_ GE151.out) | exact HB.out)⟩⟩
                          · rw [if_neg c27] at H
                            have c27b0 : decide (x152002_20 < 0) = false := decide_eq_false c27
                            clear c27
                            (first | rw [c27b0] | (simp only [i64_w, i32_w]; rw [c27b0]) | skip)
                            by_cases c29 : x152002_20 > 4
                            · rw [if_pos c29] at H
                              have c29b0 : decide (4 < x152002_20) = true := decide_eq_true c29
                              clear c29
                              have H' := Aside0.mk H
                              clear H
                              have hcz30_0 : wc.cell? ⟨gb151, 0, none⟩ = some (.int .i64 (wrap64 (bt a0 0))) := (blk_cell BK151.out 0).trans rfl
                              have hcz30_1 : wc.cell? ⟨gb151, 1, none⟩ = some (.int .i64 0) := (blk_cell BK151.out 1).trans rfl
                              have hcz30_2 : wc.cell? ⟨gb151, 2, none⟩ = some (.int .i64 x152002_20) := (blk_cell BK151.out 2).trans rfl
                              have hfz30_0 := blk_frozen BK151.out 0
                              have hfz30_1 := blk_frozen BK151.out 1
                              have hfz30_2 := blk_frozen BK151.out 2
                              go_wp2
                              go_meet
                              case rel => exact ⟨_, (true), (by first | rfl | (simp; done) | (simp [*]; done)), H', ⟨by have := HJ20.out; first | omega | exact Nat.le_refl _⟩, ⟨by (with_reducible repeat (first | refine blk_drewN ?_ _ | refine blk_drew ?_ | refine blk_alloc ?_ _)); exact BK151.out⟩, ⟨by repeat (first | (with_reducible first | exact HB.out | apply below_alloc | apply pw_below_drewN | apply below_drew1 | refine below_set ?_ GE151.out) | exact HB.out)⟩⟩
                            · rw [if_neg c29] at H
                              have c29b0 : decide (4 < x152002_20) = false := decide_eq_false c29
                              clear c29
                              by_cases c31 : x152002_20 = 0
                              · rw [if_pos c31] at H
                                have c31b0 : (x152002_20 == 0) = true := beq_iff_eq.mpr c31
                                have c31b1 : (x152002_20 != 0) = false := bne_eq_false_iff_eq.mpr c31
                                clear c31
                                by_cases c32 : 1 < (a0.size : Int)
                                · rw [if_pos c32] at H
                                  have c32b0 : decide (1 < (a0.size : Int)) = true := decide_eq_true c32
                                  have c32b1 : decide (1 < a0.size) = true := decide_eq_true (by omega)
                                  clear c32
                                  have H' := Aside0.mk H
                                  clear H
                                  have hcz34_0 : wc.cell? ⟨gb151, 0, none⟩ = some (.int .i64 (wrap64 (bt a0 0))) := (blk_cell BK151.out 0).trans rfl
                                  have hcz34_1 : wc.cell? ⟨gb151, 1, none⟩ = some (.int .i64 0) := (blk_cell BK151.out 1).trans rfl
                                  have hcz34_2 : wc.cell? ⟨gb151, 2, none⟩ = some (.int .i64 x152002_20) := (blk_cell BK151.out 2).trans rfl
                                  have hfz34_0 := blk_frozen BK151.out 0
                                  have hfz34_1 := blk_frozen BK151.out 1
                                  have hfz34_2 := blk_frozen BK151.out 2
                                  have p33 : 0 ≤ (1 : Int) := (by omega)
                                  have q33 : 1 < a0.size := (by have : (1 : Int) < (a0.size : Int) := of_decide_eq_true (by first | (with_reducible assumption) | assumption); omega)
                                  have hx33 : ∀ h : 1 < a0.size, ((a0[1]'h).toNat : Int) = bt a0 1 := bt_at a0 1
                                  clear p33
                                  have qi33 : (1 < (a0.size : Int)) = True := eq_true (of_decide_eq_true (by first | (with_reducible assumption) | assumption))
                                  replace q33 := eq_true q33
                                  go_wp2
                                  go_meet
                                  case rel => exact ⟨_, (((bt a0 1) != 64)), (by first | rfl | (simp; done) | (simp [*]; done)), H', ⟨by have := HJ20.out; first | omega | exact Nat.le_refl _⟩, ⟨by (with_reducible repeat (first | refine blk_drewN ?_ _ | refine blk_drew ?_ | refine blk_alloc ?_ _)); exact BK151.out⟩, ⟨by repeat (first | (with_reducible first | exact HB.out | apply below_alloc | apply pw_below_drewN | apply below_drew1 | refine below_set ?_ GE151.out) | exact HB.out)⟩⟩
                                · rw [if_neg c32] at H
                                  exact absurd H (by simp)
                              · rw [if_neg c31] at H
                                have c31b0 : (x152002_20 == 0) = false := beq_eq_false_iff_ne.mpr c31
                                have c31b1 : (x152002_20 != 0) = true := bne_iff_ne.mpr c31
                                have H' := Aside0.mk H
                                clear H
                                have hcz35_0 : wc.cell? ⟨gb151, 0, none⟩ = some (.int .i64 (wrap64 (bt a0 0))) := (blk_cell BK151.out 0).trans rfl
                                have hcz35_1 : wc.cell? ⟨gb151, 1, none⟩ = some (.int .i64 0) := (blk_cell BK151.out 1).trans rfl
                                have hcz35_2 : wc.cell? ⟨gb151, 2, none⟩ = some (.int .i64 x152002_20) := (blk_cell BK151.out 2).trans rfl
                                have hfz35_0 := blk_frozen BK151.out 0
                                have hfz35_1 := blk_frozen BK151.out 1
                                have hfz35_2 := blk_frozen BK151.out 2
                                go_wp2
                                go_meet
                                case rel => exact ⟨_, (false), (by first | rfl | (simp; done) | (simp [*]; done)), H', ⟨by have := HJ20.out; first | omega | exact Nat.le_refl _⟩, ⟨by (with_reducible repeat (first | refine blk_drewN ?_ _ | refine blk_drew ?_ | refine blk_alloc ?_ _)); exact BK151.out⟩, ⟨by repeat (first | (with_reducible first | exact HB.out | apply below_alloc | apply pw_below_drewN | apply below_drew1 | refine below_set ?_ GE151.out) | exact HB.out)⟩⟩
                        case rest =>
                          clear HC26
                          try clear c1
                          try clear c2
                          try clear c2b0
                          try clear c2b1
                          try clear p2
                          try clear q2
                          try clear hx2
                          try clear qi2
                          try clear c3
                          try clear p3
                          try clear q3
                          try clear hx3
                          try clear qi3
                          try clear c5
                          try clear c5b0
                          try clear c5b1
                          try clear p6
                          try clear q6
                          try clear hx6
                          try clear qi6
                          try clear c7
                          try clear c7b0
                          try clear c7b1
                          try clear c12
                          try clear c15
                          try clear c15b0
                          try clear c15b1
                          try clear c16
                          try clear c16b0
                          try clear c16b1
                          try clear c17
                          try clear c17b0
                          try clear c17b1
                          try clear c19
                          try clear c19b0
                          try clear c19b1
                          try clear p20
                          try clear q20
                          try clear hx20
                          try clear qi20
                          try clear c22
                          try clear c22b0
                          try clear c22b1
                          try clear p23
                          try clear q23
                          try clear hx23
                          try clear qi23
                          try clear c25
                          try clear c25b0
                          try clear c25b1
                          try clear c27
                          try clear c27b0
                          try clear c29
                          try clear c29b0
                          try clear c31
                          try clear c31b0
                          try clear c31b1
                          try clear c32
                          try clear c32b0
                          try clear c32b1
                          try clear p33
                          try clear q33
                          try clear hx33
                          try clear qi33
                          try clear hcz13_0
                          try clear hcz13_1
                          try clear hcz13_2
                          try clear hcz18_0
                          try clear hcz18_1
                          try clear hcz18_2
                          try clear hcz24_0
                          try clear hcz24_1
                          try clear hcz24_2
                          try clear hcz28_0
                          try clear hcz28_1
                          try clear hcz28_2
                          try clear hcz30_0
                          try clear hcz30_1
                          try clear hcz30_2
                          try clear hcz34_0
                          try clear hcz34_1
                          try clear hcz34_2
                          try clear hcz35_0
                          try clear hcz35_1
                          try clear hcz35_2
                          try clear hcz4_0
                          try clear hcz4_1
                          try clear hcz4_2
                          try clear hfz13_0
                          try clear hfz13_1
                          try clear hfz13_2
                          try clear hfz18_0
                          try clear hfz18_1
                          try clear hfz18_2
                          try clear hfz24_0
                          try clear hfz24_1
                          try clear hfz24_2
                          try clear hfz28_0
                          try clear hfz28_1
                          try clear hfz28_2
                          try clear hfz30_0
                          try clear hfz30_1
                          try clear hfz30_2
                          try clear hfz34_0
                          try clear hfz34_1
                          try clear hfz34_2
                          try clear hfz35_0
                          try clear hfz35_1
                          try clear hfz35_2
                          try clear hfz4_0
                          try clear hfz4_1
                          try clear hfz4_2
                          try clear p2
                          try clear p20
                          try clear p23
                          try clear p33
                          try clear p6
                          try clear q2
                          try clear q20
                          try clear q23
                          try clear q33
                          try clear q6
                          obtain ⟨kq, x60_25, rfl, HA, HJ25, BK151, HB⟩ := hcut
                          cases kq with
                          | zero => exact absurd HA.out (by simp [inst_Take.j1])
                          | succ kj25 =>
                            have H := HA.out
                            clear HA
                            simp only [inst_Take.j1] at H
                            by_cases c36 : x60_25 = true
                            · subst c36
                              have H1 : (inst_Take.j2 kj25 ((a0.extract 1 a0.size).extract 1 (a0.extract 1 a0.size).size) 6 (wrap64 (bt a0 0)) 0 x152002_20) = some (r1, r2, r3, r4, r5) := by rw [if_pos rfl] at H; exact H
                              clear H
                              have H := H1
                              clear H1
                              have H' := Aside0.mk H
                              clear H
                              go_wp2
                              go_meet
                              case rel => exact ⟨_, (((a0.extract 1 a0.size).extract 1 (a0.extract 1 a0.size).size)), (6), ((wrap64 (bt a0 0))), (0), (x152002_20), (by first | rfl | (simp; done) | (simp [*]; done)), (by first | rfl | (simp; done) | (simp [*]; done)), H', ⟨by have := HJ20.out; have := HJ25.out; first | omega | exact Nat.le_refl _⟩, ⟨by (with_reducible repeat (first | refine blk_drewN ?_ _ | refine blk_drew ?_ | refine blk_alloc ?_ _)); exact BK151.out⟩, ⟨by repeat (first | (with_reducible first | exact HB.out | apply below_alloc | apply pw_below_drewN | apply below_drew1 | refine below_set ?_ GE151.out) | exact HB.out)⟩⟩
                            · replace c36 := Bool.eq_false_iff.mpr c36
                              subst c36
                              have H1 : (inst_Take.j2 kj25 ((a0.extract 1 a0.size).extract 1 (a0.extract 1 a0.size).size) 0 (wrap64 (bt a0 0)) 0 x152002_20) = some (r1, r2, r3, r4, r5) := by rw [if_neg (show ¬ (false = true) by decide)] at H; exact H
                              clear H
                              have H := H1
                              clear H1
                              have H' := Aside0.mk H
                              clear H
                              go_wp2
                              go_meet
                              case rel => exact ⟨_, (((a0.extract 1 a0.size).extract 1 (a0.extract 1 a0.size).size)), (0), ((wrap64 (bt a0 0))), (0), (x152002_20), (by first | rfl | (simp; done) | (simp [*]; done)), (by first | rfl | (simp; done) | (simp [*]; done)), H', ⟨by have := HJ20.out; have := HJ25.out; first | omega | exact Nat.le_refl _⟩, ⟨by (with_reducible repeat (first | refine blk_drewN ?_ _ | refine blk_drew ?_ | refine blk_alloc ?_ _)); exact BK151.out⟩, ⟨by repeat (first | (with_reducible first | exact HB.out | apply below_alloc | apply pw_below_drewN | apply below_drew1 | refine below_set ?_ GE151.out) | exact HB.out)⟩⟩
                      · rw [if_neg c25] at H
                        exact absurd H (by simp)
                · rw [if_neg c19] at H
                  exact absurd H (by simp)
            · rw [if_neg c16] at H
              have c16b0 : (t152 == 2) = false := beq_eq_false_iff_ne.mpr c16
              have c16b1 : (t152 != 2) = true := bne_iff_ne.mpr c16
              by_cases c37 : t152 = 4
              · rw [if_pos c37] at H
                have c37b0 : (t152 == 4) = true := beq_iff_eq.mpr c37
                have c37b1 : (t152 != 4) = false := bne_eq_false_iff_eq.mpr c37
                clear c37
                replace H := Option.bind_eq_some_iff.mp H
                obtain ⟨⟨t159, t160, t161⟩, A380, H⟩ := H
                replace H : (if t161 = 0 then ((leb_TakeU.f k t160 32).bind fun bt162 => (inst_Take.j2 k bt162.2.1 bt162.2.2 (wrap64 (bt a0 0)) bt162.1 t159)) else (inst_Take.j2 k t160 t161 (wrap64 (bt a0 0)) 0 t159)) = some (r1, r2, r3, r4, r5) := H
                have A38 := Aside0.mk A380
                clear A380
                by_cases c39 : t161 = 0
                · rw [if_pos c39] at H
                  have c39b0 : (t161 == 0) = true := beq_iff_eq.mpr c39
                  have c39b1 : (t161 != 0) = false := bne_eq_false_iff_eq.mpr c39
                  clear c39
                  replace H := Option.bind_eq_some_iff.mp H
                  obtain ⟨⟨t162, t163, t164⟩, A400, H⟩ := H
                  replace H : (inst_Take.j2 k t163 t164 (wrap64 (bt a0 0)) t162 t159) = some (r1, r2, r3, r4, r5) := H
                  have A40 := Aside0.mk A400
                  clear A400
                  have H' := Aside0.mk H
                  clear H
                  go_wp2_with (first | ((with_reducible refine gate_callee (f := 26) rfl ?_); refine goesL_ (some 63) rfl rfl Try.func26 (by kernel_rfl) rfl #[.string (a0.extract 1 a0.size), .int .i64 1] rfl (by (try simp only [List.map_toArray, List.map_cons, List.map_nil]); first | done | rfl | (simp only [List.length_drop, List.length_take]; rfl)) ?_; (with_reducible refine (leb_TakeU.calls k (a0.extract 1 a0.size) 1 t159 t160 t161 _ A38.out).mono ?_); rintro e w41 ⟨rfl, hb⟩; refine ⟨_, rfl, ?_⟩; have n0_ := Aside0.mk (blk_below (g := gb151) (o := .cells #[.int .i64 (wrap64 (bt a0 0)), .int .i64 0, .int .i64 0] 23 (0, 0)) (by (with_reducible repeat (first | refine blk_drewN ?_ _ | refine blk_drew ?_ | refine blk_alloc ?_ _)); exact BK151.out) hb); have n1_ := Aside0.mk (below_step (by repeat (first | (with_reducible first | exact HB.out | apply below_alloc | apply pw_below_drewN | apply below_drew1 | refine below_set ?_ GE151.out) | exact HB.out)) hb); clear BK151; clear HB; have BK151 := n0_; have HB := n1_; clear n0_ n1_; (try clear hb); (try clear hb2); (try clear hk); (try clear hi); have hcz42_0 : w41.cell? ⟨gb151, 0, none⟩ = some (.int .i64 (wrap64 (bt a0 0))) := (blk_cell BK151.out 0).trans rfl; have hcz42_1 : w41.cell? ⟨gb151, 1, none⟩ = some (.int .i64 0) := (blk_cell BK151.out 1).trans rfl; have hcz42_2 : w41.cell? ⟨gb151, 2, none⟩ = some (.int .i64 0) := (blk_cell BK151.out 2).trans rfl; have hfz42_0 := blk_frozen BK151.out 0; have hfz42_1 := blk_frozen BK151.out 1; have hfz42_2 := blk_frozen BK151.out 2) | ((with_reducible refine gate_callee (f := 26) rfl ?_); refine goesL_ (some 72) rfl rfl Try.func26 (by kernel_rfl) rfl #[.string t160, .int .i64 32] rfl (by (try simp only [List.map_toArray, List.map_cons, List.map_nil]); first | done | rfl | (simp only [List.length_drop, List.length_take]; rfl)) ?_; (with_reducible refine (leb_TakeU.calls k t160 32 t162 t163 t164 _ A40.out).mono ?_); rintro e w43 ⟨rfl, hb⟩; refine ⟨_, rfl, ?_⟩; have n0_ := Aside0.mk (blk_below (g := gb151) (o := .cells #[.int .i64 (wrap64 (bt a0 0)), .int .i64 0, .int .i64 t159] 23 (0, 0)) (by (with_reducible repeat (first | refine blk_drewN ?_ _ | refine blk_drew ?_ | refine blk_alloc ?_ _)); refine blk_put (cs := #[.int .i64 (wrap64 (bt a0 0)), .int .i64 0, .int .i64 0]) ?_ 2 _ rfl; (with_reducible repeat (first | refine blk_drewN ?_ _ | refine blk_drew ?_ | refine blk_alloc ?_ _)); exact BK151.out) hb); have n1_ := Aside0.mk (below_step (by repeat (first | (with_reducible first | exact HB.out | apply below_alloc | apply pw_below_drewN | apply below_drew1 | refine below_set ?_ GE151.out) | exact HB.out)) hb); clear BK151; clear HB; have BK151 := n0_; have HB := n1_; clear n0_ n1_; (try clear hb); (try clear hb2); (try clear hk); (try clear hi); have hcz44_0 : w43.cell? ⟨gb151, 0, none⟩ = some (.int .i64 (wrap64 (bt a0 0))) := (blk_cell BK151.out 0).trans rfl; have hcz44_1 : w43.cell? ⟨gb151, 1, none⟩ = some (.int .i64 0) := (blk_cell BK151.out 1).trans rfl; have hcz44_2 : w43.cell? ⟨gb151, 2, none⟩ = some (.int .i64 t159) := (blk_cell BK151.out 2).trans rfl; have hfz44_0 := blk_frozen BK151.out 0; have hfz44_1 := blk_frozen BK151.out 1; have hfz44_2 := blk_frozen BK151.out 2))
                  go_meet
                  case rel => exact ⟨_, (t163), (t164), (wrap64 (bt a0 0)), (t162), (t159), (by first | rfl | (simp; done) | (simp [*]; done)), (by first | rfl | (simp; done) | (simp [*]; done)), H', ⟨by first | omega | exact Nat.le_refl _⟩, ⟨by (with_reducible repeat (first | refine blk_drewN ?_ _ | refine blk_drew ?_ | refine blk_alloc ?_ _)); refine blk_put (cs := #[.int .i64 (wrap64 (bt a0 0)), .int .i64 0, .int .i64 t159]) ?_ 1 _ rfl; (with_reducible repeat (first | refine blk_drewN ?_ _ | refine blk_drew ?_ | refine blk_alloc ?_ _)); exact BK151.out⟩, ⟨by repeat (first | (with_reducible first | exact HB.out | apply below_alloc | apply pw_below_drewN | apply below_drew1 | refine below_set ?_ GE151.out) | exact HB.out)⟩⟩
                · rw [if_neg c39] at H
                  have c39b0 : (t161 == 0) = false := beq_eq_false_iff_ne.mpr c39
                  have c39b1 : (t161 != 0) = true := bne_iff_ne.mpr c39
                  have H' := Aside0.mk H
                  clear H
                  go_wp2_with (first | ((with_reducible refine gate_callee (f := 26) rfl ?_); refine goesL_ (some 63) rfl rfl Try.func26 (by kernel_rfl) rfl #[.string (a0.extract 1 a0.size), .int .i64 1] rfl (by (try simp only [List.map_toArray, List.map_cons, List.map_nil]); first | done | rfl | (simp only [List.length_drop, List.length_take]; rfl)) ?_; (with_reducible refine (leb_TakeU.calls k (a0.extract 1 a0.size) 1 t159 t160 t161 _ A38.out).mono ?_); rintro e w45 ⟨rfl, hb⟩; refine ⟨_, rfl, ?_⟩; have n0_ := Aside0.mk (blk_below (g := gb151) (o := .cells #[.int .i64 (wrap64 (bt a0 0)), .int .i64 0, .int .i64 0] 23 (0, 0)) (by (with_reducible repeat (first | refine blk_drewN ?_ _ | refine blk_drew ?_ | refine blk_alloc ?_ _)); exact BK151.out) hb); have n1_ := Aside0.mk (below_step (by repeat (first | (with_reducible first | exact HB.out | apply below_alloc | apply pw_below_drewN | apply below_drew1 | refine below_set ?_ GE151.out) | exact HB.out)) hb); clear BK151; clear HB; have BK151 := n0_; have HB := n1_; clear n0_ n1_; (try clear hb); (try clear hb2); (try clear hk); (try clear hi); have hcz46_0 : w45.cell? ⟨gb151, 0, none⟩ = some (.int .i64 (wrap64 (bt a0 0))) := (blk_cell BK151.out 0).trans rfl; have hcz46_1 : w45.cell? ⟨gb151, 1, none⟩ = some (.int .i64 0) := (blk_cell BK151.out 1).trans rfl; have hcz46_2 : w45.cell? ⟨gb151, 2, none⟩ = some (.int .i64 0) := (blk_cell BK151.out 2).trans rfl; have hfz46_0 := blk_frozen BK151.out 0; have hfz46_1 := blk_frozen BK151.out 1; have hfz46_2 := blk_frozen BK151.out 2))
                  go_meet
                  case rel => exact ⟨_, (t160), (t161), (wrap64 (bt a0 0)), (0), (t159), (by first | rfl | (simp; done) | (simp [*]; done)), (by first | rfl | (simp; done) | (simp [*]; done)), H', ⟨by first | omega | exact Nat.le_refl _⟩, ⟨by (with_reducible repeat (first | refine blk_drewN ?_ _ | refine blk_drew ?_ | refine blk_alloc ?_ _)); refine blk_put (cs := #[.int .i64 (wrap64 (bt a0 0)), .int .i64 0, .int .i64 0]) ?_ 2 _ rfl; (with_reducible repeat (first | refine blk_drewN ?_ _ | refine blk_drew ?_ | refine blk_alloc ?_ _)); exact BK151.out⟩, ⟨by repeat (first | (with_reducible first | exact HB.out | apply below_alloc | apply pw_below_drewN | apply below_drew1 | refine below_set ?_ GE151.out) | exact HB.out)⟩⟩
              · rw [if_neg c37] at H
                have c37b0 : (t152 == 4) = false := beq_eq_false_iff_ne.mpr c37
                have c37b1 : (t152 != 4) = true := bne_iff_ne.mpr c37
                by_cases c47 : t152 = 3
                · rw [if_pos c47] at H
                  have c47b0 : (t152 == 3) = true := beq_iff_eq.mpr c47
                  have c47b1 : (t152 != 3) = false := bne_eq_false_iff_eq.mpr c47
                  clear c47
                  replace H := Option.bind_eq_some_iff.mp H
                  obtain ⟨⟨t153, t154, t155⟩, A480, H⟩ := H
                  replace H : (inst_Take.j2 k t154 t155 (wrap64 (bt a0 0)) t153 0) = some (r1, r2, r3, r4, r5) := H
                  have A48 := Aside0.mk A480
                  clear A480
                  have H' := Aside0.mk H
                  clear H
                  go_wp2_with (first | ((with_reducible refine gate_callee (f := 26) rfl ?_); refine goesL_ (some 72) rfl rfl Try.func26 (by kernel_rfl) rfl #[.string (a0.extract 1 a0.size), .int .i64 32] rfl (by (try simp only [List.map_toArray, List.map_cons, List.map_nil]); first | done | rfl | (simp only [List.length_drop, List.length_take]; rfl)) ?_; (with_reducible refine (leb_TakeU.calls k (a0.extract 1 a0.size) 32 t153 t154 t155 _ A48.out).mono ?_); rintro e w49 ⟨rfl, hb⟩; refine ⟨_, rfl, ?_⟩; have n0_ := Aside0.mk (blk_below (g := gb151) (o := .cells #[.int .i64 (wrap64 (bt a0 0)), .int .i64 0, .int .i64 0] 23 (0, 0)) (by (with_reducible repeat (first | refine blk_drewN ?_ _ | refine blk_drew ?_ | refine blk_alloc ?_ _)); exact BK151.out) hb); have n1_ := Aside0.mk (below_step (by repeat (first | (with_reducible first | exact HB.out | apply below_alloc | apply pw_below_drewN | apply below_drew1 | refine below_set ?_ GE151.out) | exact HB.out)) hb); clear BK151; clear HB; have BK151 := n0_; have HB := n1_; clear n0_ n1_; (try clear hb); (try clear hb2); (try clear hk); (try clear hi); have hcz50_0 : w49.cell? ⟨gb151, 0, none⟩ = some (.int .i64 (wrap64 (bt a0 0))) := (blk_cell BK151.out 0).trans rfl; have hcz50_1 : w49.cell? ⟨gb151, 1, none⟩ = some (.int .i64 0) := (blk_cell BK151.out 1).trans rfl; have hcz50_2 : w49.cell? ⟨gb151, 2, none⟩ = some (.int .i64 0) := (blk_cell BK151.out 2).trans rfl; have hfz50_0 := blk_frozen BK151.out 0; have hfz50_1 := blk_frozen BK151.out 1; have hfz50_2 := blk_frozen BK151.out 2))
                  go_meet
                  case rel => exact ⟨_, (t154), (t155), (wrap64 (bt a0 0)), (t153), (0), (by first | rfl | (simp; done) | (simp [*]; done)), (by first | rfl | (simp; done) | (simp [*]; done)), H', ⟨by first | omega | exact Nat.le_refl _⟩, ⟨by (with_reducible repeat (first | refine blk_drewN ?_ _ | refine blk_drew ?_ | refine blk_alloc ?_ _)); refine blk_put (cs := #[.int .i64 (wrap64 (bt a0 0)), .int .i64 0, .int .i64 0]) ?_ 1 _ rfl; (with_reducible repeat (first | refine blk_drewN ?_ _ | refine blk_drew ?_ | refine blk_alloc ?_ _)); exact BK151.out⟩, ⟨by repeat (first | (with_reducible first | exact HB.out | apply below_alloc | apply pw_below_drewN | apply below_drew1 | refine below_set ?_ GE151.out) | exact HB.out)⟩⟩
                · rw [if_neg c47] at H
                  have c47b0 : (t152 == 3) = false := beq_eq_false_iff_ne.mpr c47
                  have c47b1 : (t152 != 3) = true := bne_iff_ne.mpr c47
                  by_cases c51 : t152 = 5
                  · rw [if_pos c51] at H
                    have c51b0 : (t152 == 5) = true := beq_iff_eq.mpr c51
                    have c51b1 : (t152 != 5) = false := bne_eq_false_iff_eq.mpr c51
                    clear c51
                    replace H := Option.bind_eq_some_iff.mp H
                    obtain ⟨⟨t165, t166, t167⟩, A520, H⟩ := H
                    replace H : (inst_Take.j2 k t166 t167 (wrap64 (bt a0 0)) t165 0) = some (r1, r2, r3, r4, r5) := H
                    have A52 := Aside0.mk A520
                    clear A520
                    have H' := Aside0.mk H
                    clear H
                    go_wp2_with (first | ((with_reducible refine gate_callee (f := 27) rfl ?_); refine goesL_ (some 79) rfl rfl Try.func27 (by kernel_rfl) rfl #[.string (a0.extract 1 a0.size), .int .i64 32] rfl (by (try simp only [List.map_toArray, List.map_cons, List.map_nil]); first | done | rfl | (simp only [List.length_drop, List.length_take]; rfl)) ?_; (with_reducible refine (leb_TakeS.calls k (a0.extract 1 a0.size) 32 t165 t166 t167 _ A52.out).mono ?_); rintro e w53 ⟨rfl, hb⟩; refine ⟨_, rfl, ?_⟩; have n0_ := Aside0.mk (blk_below (g := gb151) (o := .cells #[.int .i64 (wrap64 (bt a0 0)), .int .i64 0, .int .i64 0] 23 (0, 0)) (by (with_reducible repeat (first | refine blk_drewN ?_ _ | refine blk_drew ?_ | refine blk_alloc ?_ _)); exact BK151.out) hb); have n1_ := Aside0.mk (below_step (by repeat (first | (with_reducible first | exact HB.out | apply below_alloc | apply pw_below_drewN | apply below_drew1 | refine below_set ?_ GE151.out) | exact HB.out)) hb); clear BK151; clear HB; have BK151 := n0_; have HB := n1_; clear n0_ n1_; (try clear hb); (try clear hb2); (try clear hk); (try clear hi); have hcz54_0 : w53.cell? ⟨gb151, 0, none⟩ = some (.int .i64 (wrap64 (bt a0 0))) := (blk_cell BK151.out 0).trans rfl; have hcz54_1 : w53.cell? ⟨gb151, 1, none⟩ = some (.int .i64 0) := (blk_cell BK151.out 1).trans rfl; have hcz54_2 : w53.cell? ⟨gb151, 2, none⟩ = some (.int .i64 0) := (blk_cell BK151.out 2).trans rfl; have hfz54_0 := blk_frozen BK151.out 0; have hfz54_1 := blk_frozen BK151.out 1; have hfz54_2 := blk_frozen BK151.out 2))
                    go_meet
                    case rel => exact ⟨_, (t166), (t167), (wrap64 (bt a0 0)), (t165), (0), (by first | rfl | (simp; done) | (simp [*]; done)), (by first | rfl | (simp; done) | (simp [*]; done)), H', ⟨by first | omega | exact Nat.le_refl _⟩, ⟨by (with_reducible repeat (first | refine blk_drewN ?_ _ | refine blk_drew ?_ | refine blk_alloc ?_ _)); refine blk_put (cs := #[.int .i64 (wrap64 (bt a0 0)), .int .i64 0, .int .i64 0]) ?_ 1 _ rfl; (with_reducible repeat (first | refine blk_drewN ?_ _ | refine blk_drew ?_ | refine blk_alloc ?_ _)); exact BK151.out⟩, ⟨by repeat (first | (with_reducible first | exact HB.out | apply below_alloc | apply pw_below_drewN | apply below_drew1 | refine below_set ?_ GE151.out) | exact HB.out)⟩⟩
                  · rw [if_neg c51] at H
                    have c51b0 : (t152 == 5) = false := beq_eq_false_iff_ne.mpr c51
                    have c51b1 : (t152 != 5) = true := bne_iff_ne.mpr c51
                    by_cases c55 : t152 = 6
                    · rw [if_pos c55] at H
                      have c55b0 : (t152 == 6) = true := beq_iff_eq.mpr c55
                      have c55b1 : (t152 != 6) = false := bne_eq_false_iff_eq.mpr c55
                      clear c55
                      replace H := Option.bind_eq_some_iff.mp H
                      obtain ⟨⟨t156, t157, t158⟩, A560, H⟩ := H
                      replace H : (inst_Take.j2 k t157 t158 (wrap64 (bt a0 0)) t156 0) = some (r1, r2, r3, r4, r5) := H
                      have A56 := Aside0.mk A560
                      clear A560
                      have H' := Aside0.mk H
                      clear H
                      go_wp2_with (first | ((with_reducible refine gate_callee (f := 27) rfl ?_); refine goesL_ (some 86) rfl rfl Try.func27 (by kernel_rfl) rfl #[.string (a0.extract 1 a0.size), .int .i64 64] rfl (by (try simp only [List.map_toArray, List.map_cons, List.map_nil]); first | done | rfl | (simp only [List.length_drop, List.length_take]; rfl)) ?_; (with_reducible refine (leb_TakeS.calls k (a0.extract 1 a0.size) 64 t156 t157 t158 _ A56.out).mono ?_); rintro e w57 ⟨rfl, hb⟩; refine ⟨_, rfl, ?_⟩; have n0_ := Aside0.mk (blk_below (g := gb151) (o := .cells #[.int .i64 (wrap64 (bt a0 0)), .int .i64 0, .int .i64 0] 23 (0, 0)) (by (with_reducible repeat (first | refine blk_drewN ?_ _ | refine blk_drew ?_ | refine blk_alloc ?_ _)); exact BK151.out) hb); have n1_ := Aside0.mk (below_step (by repeat (first | (with_reducible first | exact HB.out | apply below_alloc | apply pw_below_drewN | apply below_drew1 | refine below_set ?_ GE151.out) | exact HB.out)) hb); clear BK151; clear HB; have BK151 := n0_; have HB := n1_; clear n0_ n1_; (try clear hb); (try clear hb2); (try clear hk); (try clear hi); have hcz58_0 : w57.cell? ⟨gb151, 0, none⟩ = some (.int .i64 (wrap64 (bt a0 0))) := (blk_cell BK151.out 0).trans rfl; have hcz58_1 : w57.cell? ⟨gb151, 1, none⟩ = some (.int .i64 0) := (blk_cell BK151.out 1).trans rfl; have hcz58_2 : w57.cell? ⟨gb151, 2, none⟩ = some (.int .i64 0) := (blk_cell BK151.out 2).trans rfl; have hfz58_0 := blk_frozen BK151.out 0; have hfz58_1 := blk_frozen BK151.out 1; have hfz58_2 := blk_frozen BK151.out 2))
                      go_meet
                      case rel => exact ⟨_, (t157), (t158), (wrap64 (bt a0 0)), (t156), (0), (by first | rfl | (simp; done) | (simp [*]; done)), (by first | rfl | (simp; done) | (simp [*]; done)), H', ⟨by first | omega | exact Nat.le_refl _⟩, ⟨by (with_reducible repeat (first | refine blk_drewN ?_ _ | refine blk_drew ?_ | refine blk_alloc ?_ _)); refine blk_put (cs := #[.int .i64 (wrap64 (bt a0 0)), .int .i64 0, .int .i64 0]) ?_ 1 _ rfl; (with_reducible repeat (first | refine blk_drewN ?_ _ | refine blk_drew ?_ | refine blk_alloc ?_ _)); exact BK151.out⟩, ⟨by repeat (first | (with_reducible first | exact HB.out | apply below_alloc | apply pw_below_drewN | apply below_drew1 | refine below_set ?_ GE151.out) | exact HB.out)⟩⟩
                    · rw [if_neg c55] at H
                      have c55b0 : (t152 == 6) = false := beq_eq_false_iff_ne.mpr c55
                      have c55b1 : (t152 != 6) = true := bne_iff_ne.mpr c55
                      have H' := Aside0.mk H
                      clear H
                      go_wp2
                      go_meet
                      case rel => exact ⟨_, (a0.extract 1 a0.size), (0), (wrap64 (bt a0 0)), (0), (0), (by first | rfl | (simp; done) | (simp [*]; done)), (by first | rfl | (simp; done) | (simp [*]; done)), H', ⟨by first | omega | exact Nat.le_refl _⟩, ⟨by (with_reducible repeat (first | refine blk_drewN ?_ _ | refine blk_drew ?_ | refine blk_alloc ?_ _)); exact BK151.out⟩, ⟨by repeat (first | (with_reducible first | exact HB.out | apply below_alloc | apply pw_below_drewN | apply below_drew1 | refine below_set ?_ GE151.out) | exact HB.out)⟩⟩
        case rest =>
          clear HC9
          try clear c1
          try clear c2
          try clear c2b0
          try clear c2b1
          try clear p2
          try clear q2
          try clear hx2
          try clear qi2
          try clear c3
          try clear p3
          try clear q3
          try clear hx3
          try clear qi3
          try clear c4
          try clear c5
          try clear c5b0
          try clear c5b1
          try clear p6
          try clear q6
          try clear hx6
          try clear qi6
          try clear c7
          try clear c7b0
          try clear c7b1
          try clear c12
          try clear c15
          try clear c15b0
          try clear c15b1
          try clear c16
          try clear c16b0
          try clear c16b1
          try clear c17
          try clear c17b0
          try clear c17b1
          try clear c19
          try clear c19b0
          try clear c19b1
          try clear p20
          try clear q20
          try clear hx20
          try clear qi20
          try clear c22
          try clear c22b0
          try clear c22b1
          try clear p23
          try clear q23
          try clear hx23
          try clear qi23
          try clear c25
          try clear c25b0
          try clear c25b1
          try clear c26
          try clear c27
          try clear c27b0
          try clear c29
          try clear c29b0
          try clear c31
          try clear c31b0
          try clear c31b1
          try clear c32
          try clear c32b0
          try clear c32b1
          try clear p33
          try clear q33
          try clear hx33
          try clear qi33
          try clear c36
          try clear c37
          try clear c37b0
          try clear c37b1
          try clear c39
          try clear c39b0
          try clear c39b1
          try clear c47
          try clear c47b0
          try clear c47b1
          try clear c51
          try clear c51b0
          try clear c51b1
          try clear c55
          try clear c55b0
          try clear c55b1
          try clear hcz13_0
          try clear hcz13_1
          try clear hcz13_2
          try clear hcz18_0
          try clear hcz18_1
          try clear hcz18_2
          try clear hcz24_0
          try clear hcz24_1
          try clear hcz24_2
          try clear hcz28_0
          try clear hcz28_1
          try clear hcz28_2
          try clear hcz30_0
          try clear hcz30_1
          try clear hcz30_2
          try clear hcz34_0
          try clear hcz34_1
          try clear hcz34_2
          try clear hcz35_0
          try clear hcz35_1
          try clear hcz35_2
          try clear hcz42_0
          try clear hcz42_1
          try clear hcz42_2
          try clear hcz44_0
          try clear hcz44_1
          try clear hcz44_2
          try clear hcz46_0
          try clear hcz46_1
          try clear hcz46_2
          try clear hcz4_0
          try clear hcz4_1
          try clear hcz4_2
          try clear hcz50_0
          try clear hcz50_1
          try clear hcz50_2
          try clear hcz54_0
          try clear hcz54_1
          try clear hcz54_2
          try clear hcz58_0
          try clear hcz58_1
          try clear hcz58_2
          try clear hfz13_0
          try clear hfz13_1
          try clear hfz13_2
          try clear hfz18_0
          try clear hfz18_1
          try clear hfz18_2
          try clear hfz24_0
          try clear hfz24_1
          try clear hfz24_2
          try clear hfz28_0
          try clear hfz28_1
          try clear hfz28_2
          try clear hfz30_0
          try clear hfz30_1
          try clear hfz30_2
          try clear hfz34_0
          try clear hfz34_1
          try clear hfz34_2
          try clear hfz35_0
          try clear hfz35_1
          try clear hfz35_2
          try clear hfz42_0
          try clear hfz42_1
          try clear hfz42_2
          try clear hfz44_0
          try clear hfz44_1
          try clear hfz44_2
          try clear hfz46_0
          try clear hfz46_1
          try clear hfz46_2
          try clear hfz4_0
          try clear hfz4_1
          try clear hfz4_2
          try clear hfz50_0
          try clear hfz50_1
          try clear hfz50_2
          try clear hfz54_0
          try clear hfz54_1
          try clear hfz54_2
          try clear hfz58_0
          try clear hfz58_1
          try clear hfz58_2
          try clear p2
          try clear p20
          try clear p23
          try clear p3
          try clear p33
          try clear p6
          try clear q2
          try clear q20
          try clear q23
          try clear q3
          try clear q33
          try clear q6
          obtain ⟨kq, x3_8, x4_8, x152000_8, x152001_8, x152002_8, rfl, rfl, HA, HJ8, BK151, HB⟩ := hcut
          cases kq with
          | zero => exact absurd HA.out (by simp [inst_Take.j2])
          | succ kj8 =>
            have H := HA.out
            clear HA
            simp only [inst_Take.j2] at H
            by_cases c59 : x4_8 = 0
            · rw [if_pos c59] at H
              have c59b0 : (x4_8 == 0) = true := beq_iff_eq.mpr c59
              have c59b1 : (x4_8 != 0) = false := bne_eq_false_iff_eq.mpr c59
              clear c59
              simp only [Option.some.injEq, Prod.mk.injEq] at H
              obtain ⟨rfl, rfl, rfl, rfl, rfl⟩ := H
              have hcz60_0 : wc.cell? ⟨gb151, 0, none⟩ = some (.int .i64 x152000_8) := (blk_cell BK151.out 0).trans rfl
              have hcz60_1 : wc.cell? ⟨gb151, 1, none⟩ = some (.int .i64 x152001_8) := (blk_cell BK151.out 1).trans rfl
              have hcz60_2 : wc.cell? ⟨gb151, 2, none⟩ = some (.int .i64 x152002_8) := (blk_cell BK151.out 2).trans rfl
              have hfz60_0 := blk_frozen BK151.out 0
              have hfz60_1 := blk_frozen BK151.out 1
              have hfz60_2 := blk_frozen BK151.out 2
              go_wp2
              refine bodyPost_ret (results_ctt rfl _ _ gb151 23 #[.int .i64 x152000_8, .int .i64 x152001_8, .int .i64 x152002_8] (0, 0) _ rfl (by (with_reducible repeat (first | refine blk_drewN ?_ _ | refine blk_drew ?_ | refine blk_alloc ?_ _)); refine blk_put (cs := #[.int .i64 x152000_8, .int .i64 x152001_8, .int .i64 x152002_8]) ?_ 2 _ rfl; (with_reducible repeat (first | refine blk_drewN ?_ _ | refine blk_drew ?_ | refine blk_alloc ?_ _)); refine blk_put (cs := #[.int .i64 x152000_8, .int .i64 x152001_8, .int .i64 x152002_8]) ?_ 1 _ rfl; (with_reducible repeat (first | refine blk_drewN ?_ _ | refine blk_drew ?_ | refine blk_alloc ?_ _)); refine blk_put (cs := #[.int .i64 x152000_8, .int .i64 x152001_8, .int .i64 x152002_8]) ?_ 0 _ rfl; (with_reducible repeat (first | refine blk_drewN ?_ _ | refine blk_drew ?_ | refine blk_alloc ?_ _)); exact BK151.out) Try.underlying23 rfl (by kernel_rfl)) rfl ?_
              exact ⟨by first | rfl | (simp [errW_none, errW_some] <;> (first | rfl | grind)) | (simp [*, errW_none, errW_some] <;> rfl), by repeat (first | (with_reducible first | exact HB.out | apply below_alloc | apply pw_below_drewN | apply below_drew1 | refine below_set ?_ GE151.out) | exact HB.out)⟩
            · rw [if_neg c59] at H
              have c59b0 : (x4_8 == 0) = false := beq_eq_false_iff_ne.mpr c59
              have c59b1 : (x4_8 != 0) = true := bne_iff_ne.mpr c59
              simp only [Option.some.injEq, Prod.mk.injEq] at H
              obtain ⟨rfl, rfl, rfl, rfl, rfl⟩ := H
              have hcz61_0 : wc.cell? ⟨gb151, 0, none⟩ = some (.int .i64 x152000_8) := (blk_cell BK151.out 0).trans rfl
              have hcz61_1 : wc.cell? ⟨gb151, 1, none⟩ = some (.int .i64 x152001_8) := (blk_cell BK151.out 1).trans rfl
              have hcz61_2 : wc.cell? ⟨gb151, 2, none⟩ = some (.int .i64 x152002_8) := (blk_cell BK151.out 2).trans rfl
              have hfz61_0 := blk_frozen BK151.out 0
              have hfz61_1 := blk_frozen BK151.out 1
              have hfz61_2 := blk_frozen BK151.out 2
              go_wp2
              refine bodyPost_ret (results_ctt rfl _ _ gb151 23 #[.int .i64 0, .int .i64 0, .int .i64 0] (0, 0) _ rfl (by (with_reducible repeat (first | refine blk_drewN ?_ _ | refine blk_drew ?_ | refine blk_alloc ?_ _)); refine blk_put (cs := #[.int .i64 0, .int .i64 0, .int .i64 x152002_8]) ?_ 2 _ rfl; (with_reducible repeat (first | refine blk_drewN ?_ _ | refine blk_drew ?_ | refine blk_alloc ?_ _)); refine blk_put (cs := #[.int .i64 0, .int .i64 x152001_8, .int .i64 x152002_8]) ?_ 1 _ rfl; (with_reducible repeat (first | refine blk_drewN ?_ _ | refine blk_drew ?_ | refine blk_alloc ?_ _)); refine blk_put (cs := #[.int .i64 x152000_8, .int .i64 x152001_8, .int .i64 x152002_8]) ?_ 0 _ rfl; (with_reducible repeat (first | refine blk_drewN ?_ _ | refine blk_drew ?_ | refine blk_alloc ?_ _)); exact BK151.out) Try.underlying23 rfl (by kernel_rfl)) rfl ?_
              exact ⟨by first | rfl | (simp [errW_none, errW_some] <;> (first | rfl | grind)) | (simp [*, errW_none, errW_some] <;> rfl), by repeat (first | (with_reducible first | exact HB.out | apply below_alloc | apply pw_below_drewN | apply below_drew1 | refine below_set ?_ GE151.out) | exact HB.out)⟩
      · rw [if_neg c7] at H
        exact absurd H (by simp)
    · rw [if_neg c5] at H
      exact absurd H (by simp)

end Go.Proofs.Ytgffcpoopnckkaa.MI
