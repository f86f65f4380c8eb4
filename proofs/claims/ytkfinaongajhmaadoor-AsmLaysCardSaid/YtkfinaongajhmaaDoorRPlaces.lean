/- The reference's length of an item, chapter 13: what it computes. -/
import Derived.Test.YtkfinaongajhmaaDoorALen3
import Derived.Test.YtkfinaongajhmaaDoorXRef
import Derived.Test.YtkfinaongajhmaaDoorAPlaces
namespace Go.Proofs.YtkfinaongajhmaaDoor.X
open Go.Ob Go.Ob.Xc Go.RowKit Go.Proofs.YtkfinaongajhmaaDoorW.PrintWords Go.Proofs.YtkfinaongajhmaaDoorW.PrintMore
attribute [local go_sem] max2_int min2_int max_two min_two
set_option linter.unusedVariables false
set_option linter.unusedSimpArgs false
theorem lab_len (t : It) (hl : ¬ t.lab = 0) : lenA t = .tuple #[.int .i64 (0 : Nat), .bool (decide (0 < t.lab) && (decide (t.to = 0) && eqX t.x ⟨0, false, 0, 0, 0, 0, 0⟩))] := by
  apply len_of
  unfold lenI
  by_cases c : 0 < t.lab ∧ t.x = xz ∧ t.to = 0
  · have e : eqX t.x ⟨0, false, 0, 0, 0, 0, 0⟩ = true := (eqX_iff _ _).mpr c.2.1
    have hto : toOk t := by
      unfold toOk isJ
      rw [c.2.1, c.2.2]
      decide
    rw [if_pos hto, if_neg hl, if_pos c, e, decide_eq_true c.1, decide_eq_true c.2.2]
    exact ⟨rfl, rfl⟩
  · have e : (decide (0 < t.lab) && (decide (t.to = 0) && eqX t.x ⟨0, false, 0, 0, 0, 0, 0⟩)) = false := by
      rw [Bool.eq_false_iff, Ne, Bool.and_eq_true, Bool.and_eq_true, decide_eq_true_eq, decide_eq_true_eq]
      rintro ⟨h1, h2, h3⟩
      exact c ⟨h1, (eqX_iff _ _).mp h3, h2⟩
    rw [e]
    by_cases hto : toOk t
    · rw [if_pos hto, if_neg hl, if_neg c]
      exact ⟨rfl, rfl⟩
    · rw [if_neg hto]
      exact ⟨rfl, rfl⟩
set_option maxHeartbeats 16000000 in
set_option maxRecDepth 100000 in
theorem RLenLab (t : It) (w : World) (hl : ¬ t.lab = 0) : Calls Tryd.prog 54 #[tv t] w fun e w' => e = .returned (lenA t) ∧ Below w.heap.size w w' := by
  rw [lab_len t hl]
  have hq := eqx t.x ⟨0, false, 0, 0, 0, 0, 0⟩
  generalize eqX t.x ⟨0, false, 0, 0, 0, 0, 0⟩ = q at *
  have HQ := Aside0.mk hq
  clear hq
  obtain ⟨⟨o, wd, r, b, i, c, n⟩, lab, jt⟩ := t
  dsimp only at hl HQ
  have hd : lab < 0 ∨ (0 < lab ∧ ¬ jt = 0) ∨ (0 < lab ∧ jt = 0) := by omega
  have e6 : (lab != 0) = true := bne_iff_ne.mpr hl
  rcases hd with hd | ⟨hd, hj⟩ | ⟨hd, rfl⟩
  · have e8 : decide (0 < lab) = false := decide_eq_false (by omega)
    rw [e8]
    go_enter Tryd.func54, Tryd.ntmps54
    go_upto_region 2 with fail
    go_quiet (fail)
    go_wp2
    go_ret2
    exact ⟨rfl, by repeat (first | with_reducible exact below_alloc (Below.refl _ _) _ | with_reducible refine below_drew ?_ | with_reducible refine pw_below_drewN ?_ _)⟩
  · have e8 : decide (0 < lab) = true := decide_eq_true hd
    have e9 : decide (jt = 0) = false := decide_eq_false hj
    rw [e8, e9]
    have e7 : (jt == 0) = false := beq_eq_false_iff_ne.mpr hj
    go_enter Tryd.func54, Tryd.ntmps54
    go_upto_region 2 with fail
    go_quiet (fail)
    go_wp2
    go_ret2
    exact ⟨rfl, by repeat (first | with_reducible exact below_alloc (Below.refl _ _) _ | with_reducible refine below_drew ?_ | with_reducible refine pw_below_drewN ?_ _)⟩
  · have e8 : decide (0 < lab) = true := decide_eq_true hd
    rw [e8]
    go_enter Tryd.func54, Tryd.ntmps54
    go_upto_region 2 with fail
    have e7 := HQ.out
    generalize hW9 : w.alloc _ = W9
    obtain ⟨kX, kB⟩ := new_of hW9
    clear hW9
    have HB := Aside0.mk kB
    obtain ⟨x0, x1, x2, x3, x4, x5, x6, x7, x8⟩ := cell9 kX
    clear kX kB
    refine wp_region_still_lit (by kernel_rfl) (by kernel_rfl) ?_
    repeat still_step
    refine wpStill_nil ?_
    go_wp2
    go_ret2
    exact ⟨by first | rfl | simp, by first | exact below_drew HB.out | exact HB.out⟩
end Go.Proofs.YtkfinaongajhmaaDoor.X
/- The reference's length of an item, chapter 13: whole. -/
namespace Go.Proofs.YtkfinaongajhmaaDoor.X
open Go.Ob Go.Ob.Xc Go.RowKit Go.Proofs.YtkfinaongajhmaaDoorW.PrintWords Go.Proofs.YtkfinaongajhmaaDoorW.PrintMore
attribute [local go_sem] max2_int min2_int max_two min_two
set_option linter.unusedVariables false
set_option linter.unusedSimpArgs false
set_option maxHeartbeats 16000000 in
set_option maxRecDepth 100000 in
theorem RLenBad (t : It) (w : World) (hl : t.lab = 0) (h : ¬ toOk t) : Calls Tryd.prog 54 #[tv t] w fun e w' => e = .returned (lenA t) ∧ Below w.heap.size w w' := by
  rw [len_of (t := t) (k := 0) (ok := false) (by unfold lenI; rw [if_neg h]; exact ⟨rfl, rfl⟩)]
  obtain ⟨⟨o, wd, r, b, i, c, n⟩, lab, jt⟩ := t
  dsimp only at hl
  subst hl
  have hc : ((o = 17 ∨ o = 18 ∨ o = 19) ∧ jt < 0) ∨ ((o = 17 ∨ o = 18 ∨ o = 19) ∧ 0 < jt ∧ ¬ n = 0) ∨ ((¬ o = 17 ∧ ¬ o = 18 ∧ ¬ o = 19) ∧ jt < 0) ∨ ((¬ o = 17 ∧ ¬ o = 18 ∧ ¬ o = 19) ∧ 0 < jt) := by
    unfold toOk isJ at h
    dsimp only at h
    omega
  clear h
  rcases hc with ⟨rfl | rfl | rfl, g1⟩ | ⟨rfl | rfl | rfl, g1, g2⟩ | ⟨⟨h0, h1, h2⟩, g1⟩ | ⟨⟨h0, h1, h2⟩, g1⟩
  all_goals
    try (have e1 : (o == 17) = false := beq_eq_false_iff_ne.mpr h0)
    try (have e2 : (o == 18) = false := beq_eq_false_iff_ne.mpr h1)
    try (have e3 : (o == 19) = false := beq_eq_false_iff_ne.mpr h2)
    try (have e4 : (n != 0) = true := bne_iff_ne.mpr g2)
    go_enter Tryd.func54, Tryd.ntmps54
    go_wp2
    go_ret2
    exact ⟨rfl, below_alloc (Below.refl _ _) _⟩
set_option maxHeartbeats 16000000 in
set_option maxRecDepth 100000 in
theorem RLenEnc (t : It) (w : World) (hn : NB t.x) (h : toOk t) (hl : t.lab = 0) : Calls Tryd.prog 54 #[tv t] w fun e w' => e = .returned (lenA t) ∧ Below w.heap.size w w' := by
  obtain ⟨s, ok, hE, hA⟩ : ∃ (s : ByteArray) (ok : Bool), (∀ W, Calls Tryd.prog 17 #[xv t.x] W fun e w' => e = .returned (.tuple #[.string s, .bool ok]) ∧ Below W.heap.size W w') ∧ lenA t = .tuple #[.int .i64 s.size, .bool ok] := by
    by_cases hr : right t.x = true
    · refine ⟨_, true, fun W => REncode_ok t.x W hr hn, len_of ?_⟩
      unfold lenI
      rw [if_pos h, if_pos hl, if_pos hr, ← bl_length, bl_num _ (enc_okl hr)]
      exact ⟨rfl, rfl⟩
    · refine ⟨_, false, fun W => REncode_no t.x W (Bool.eq_false_iff.mpr hr), len_of ?_⟩
      unfold lenI
      rw [if_pos h, if_pos hl, if_neg hr]
      exact ⟨rfl, rfl⟩
  rw [hA]
  have HE := Aside0.mk hE
  clear hE hA hn
  obtain ⟨⟨o, wd, r, b, i, c, n⟩, lab, jt⟩ := t
  dsimp only at hl
  subst hl
  have hc : ((o = 17 ∨ o = 18 ∨ o = 19) ∧ jt = 0) ∨ ((o = 17 ∨ o = 18 ∨ o = 19) ∧ 0 < jt ∧ n = 0) ∨ ((¬ o = 17 ∧ ¬ o = 18 ∧ ¬ o = 19) ∧ jt = 0) := by
    unfold toOk isJ at h
    dsimp only at h
    omega
  clear h
  rcases hc with ⟨rfl | rfl | rfl, rfl⟩ | ⟨rfl | rfl | rfl, h1, rfl⟩ | ⟨⟨h0, h1, h2⟩, rfl⟩
  all_goals
    try (have e1 : (o == 17) = false := beq_eq_false_iff_ne.mpr h0)
    try (have e2 : (o == 18) = false := beq_eq_false_iff_ne.mpr h1)
    try (have e3 : (o == 19) = false := beq_eq_false_iff_ne.mpr h2)
    go_enter Tryd.func54, Tryd.ntmps54
    go_wp2_with (go_at_call 17; (with_reducible refine (HE.out _).mono ?_); rintro e w1 ⟨rfl, hb⟩; have H1 := Aside0.mk ((below_alloc (Below.refl w.heap.size w) _).trans (hb.mono (by simp))); clear hb)
    go_ret2
    exact ⟨rfl, H1.out⟩
/-- an item's length -/
theorem RLength (t : It) (w : World) (hn : NB t.x) : Calls Tryd.prog 54 #[tv t] w fun e w' => e = .returned (lenA t) ∧ Below w.heap.size w w' := by
  by_cases hl : t.lab = 0
  · by_cases h : toOk t
    · exact RLenEnc t w hn h hl
    · exact RLenBad t w hl h
  · exact RLenLab t w hl
end Go.Proofs.YtkfinaongajhmaaDoor.X
/- The reference's places, chapter 13: what they are. -/
namespace Go.Proofs.YtkfinaongajhmaaDoor.X
open Go.Ob Go.Ob.Xc Go.RowKit Go.Proofs.YtkfinaongajhmaaDoorW.PrintWords Go.Proofs.YtkfinaongajhmaaDoorW.PrintMore
attribute [local go_sem] max2_int min2_int max_two min_two
set_option linter.unusedVariables false
set_option linter.unusedSimpArgs false
/-- what the reference's Places answers -/
def RPlacesAns (L : List It) (w : World) (e : Ending) (w' : World) : Prop :=
  (if okL L then ∃ v : Value, e = .returned (.tuple #[v, .bool true]) ∧ w'.ownsRow w.heap.size 3 1 v (L.length + 1) (ps L L.length) else e = .returned (.tuple #[.slice none 0 0, .bool false])) ∧ Below w.heap.size w w'
theorem rplaces_no {L : List It} {w w' : World} {e : Ending} (h : okL L = false) (he : e = .returned (.tuple #[.slice none 0 0, .bool false])) (hb : Below w.heap.size w w') : RPlacesAns L w e w' := by
  unfold RPlacesAns
  rw [h]
  exact ⟨he, hb⟩
theorem rplaces_yes {L : List It} {w w' : World} {e : Ending} {v : Value} (h : okL L = true) (he : e = .returned (.tuple #[v, .bool true])) (ho : w'.ownsRow w.heap.size 3 1 v (L.length + 1) (ps L L.length)) (hb : Below w.heap.size w w') : RPlacesAns L w e w' := by
  unfold RPlacesAns
  rw [h]
  exact ⟨⟨v, he, ho⟩, hb⟩
set_option maxHeartbeats 16000000 in
set_option maxRecDepth 100000 in
theorem RPlaces (L : List It) (A : Option Addr) (cap : Nat) (w : World) (hL : L.length ≤ 1000) (hi : Its w A L) :
    Calls Tryd.prog 26 #[.slice A L.length cap] w (RPlacesAns L w) := by
  obtain ⟨i0, hi0, hz0, hz1, hz2⟩ := info_parts info_int
  have HT := Aside0.mk hi
  clear hi
  have h0 : (w.alloc (.cells #[.int .i64 0] 3)).ownsRow w.heap.size 3 1 (.slice (some ⟨w.heap.size, 0, none⟩) 1 1) 1 (ps L 0) := by
    refine ⟨rfl, .inr ⟨w.heap.size, 1, _, rfl, Nat.le_refl _, blk_new w _, by omega, by unfold maxLen; omega, rfl, ?_⟩⟩
    unfold ps
    simp [pos_zero]
  go_enter Tryd.func26, Tryd.ntmps26
  go_wp2
  go_loopw [4, 5] (fun v i wr => ∃ n : Nat, i = .int .i64 n ∧ n ≤ L.length ∧ okL (L.take n) = true ∧ wr.ownsRow w.heap.size 3 1 v (n + 1) (ps L n) ∧ Below w.heap.size w wr) (fun _ i _ => L.length - (intOf i).toNat)
  case atStart => exact ⟨0, rfl, Nat.zero_le _, rfl, h0, below_alloc (Below.refl _ _) _⟩
  case round =>
    obtain ⟨n, rfl, hn, hall, hown, hbw⟩ := hrel
    have HW := Aside0.mk hbw
    have HO := Aside0.mk hown
    have HA := Aside0.mk hall
    clear hown hall
    by_cases hlt : n < L.length
    · obtain ⟨hnb, hcs⟩ := HT.out.below hbw
      obtain ⟨a, hA, hab, hc⟩ := hcs (by omega)
      subst hA
      obtain ⟨c0, c1, c2, c3, c4, c5, c6, c7, c8⟩ := hc n hlt
      have HX := Aside0.mk (show NB L[n].x from (hnb L[n] (List.getElem_mem hlt)).1)
      have HY := Aside0.mk (List.take_succ_eq_append_getElem hlt)
      have HP := Aside0.mk (pos_succ L n hlt)
      have HG := Aside0.mk (List.getElem_mem hlt)
      have hu := Tryd.underlying56
      clear hbw hc hcs hnb
      generalize hq : L[n] = t at *
      clear hq
      obtain ⟨⟨o, wd, r, b, i, c, nn⟩, lab, jt⟩ := t
      dsimp only at c0 c1 c2 c3 c4 c5 c6 c7 c8
      have hL2 := fun W => RLength ⟨⟨o, wd, r, b, i, c, nn⟩, lab, jt⟩ W HX.out
      unfold lenA at hL2
      cases hk : lenI ⟨⟨o, wd, r, b, i, c, nn⟩, lab, jt⟩ with
      | none =>
        rw [hk] at hL2
        have HL := Aside0.mk hL2
        have hbad : okL L = false := by
          rw [Bool.eq_false_iff]
          intro h
          have := List.all_eq_true.mp h _ HG.out
          rw [hk] at this
          cases this
        have HB := Aside0.mk hbad
        clear hL2 hk hbad
        go_wp2_with (go_at_call 54; (with_reducible refine (HL.out _).mono ?_); rintro e w2 ⟨rfl, hb2⟩; have H2 := Aside0.mk hb2; clear hb2)
        go_ret2
        exact rplaces_no HB.out rfl (HW.out.trans (H2.out.mono HW.out.size))
      | some k =>
        rw [hk] at hL2
        have HL := Aside0.mk hL2
        have HK := Aside0.mk hk
        have hp := pos_bd L n
        have hkl : k ≤ 15 := by have := lenI_le ⟨⟨o, wd, r, b, i, c, nn⟩, lab, jt⟩; rw [hk] at this; exact this
        have HP2 := Aside0.mk (show pos L (n + 1) = pos L n + (k : Int) by rw [HP.out, hk]; rfl)
        obtain ⟨hlen, (⟨hv, h00⟩ | ⟨g, cp, cur, hv, hg, hh, hcn, hcm, hcs, htk⟩)⟩ := HO.out
        · omega
        subst hv
        have HG2 := Aside0.mk (blk_lt hh)
        clear hL2 hk hlen hh hcm hcs htk hcn
        obtain ⟨hp0, hp1⟩ := hp
        have hs0 : 0 ≤ pos L n + (k : Int) := by omega
        go_wp2_with (first
          | (go_at_call 54; (with_reducible refine (HL.out _).mono ?_); rintro e w2 ⟨rfl, hb2⟩; have H2 := Aside0.mk hb2; have o2 := pw_own_below HO.out hb2; have cN := o2.cellAt n (by omega); rw [ps_at L n n (Nat.le_refl _)] at cN; have O2 := Aside0.mk o2; clear hb2 o2)
          | (at_builtin; refine wpList_append_own _ rfl _ _ 44 rfl w.heap.size 3 i0 (.int .i64 0) 1 8 Tryd.underlying44 hi0 hz0 hz1 hz2 rfl (by decide) _ _ _ rfl (O2.out.alloc _) ⟨w2.heap.size, 0, none⟩ 1 1 [.int .i64 (pos L n + (k : Int))] rfl rfl ?c1 ?c2 ?c3 ?c4 ?c5 ?_))
        case c1 => exact one_cell _ _ _
        case c2 => intro u hu; simp at hu; subst hu; rfl
        case c3 => unfold maxLen; omega
        case c4 => omega
        case c5 => exact Nat.le_trans HW.out.size (Nat.le_trans H2.out.size (by simp))
        intro v' w3 hown3 hgrow _
        have H3 := Aside0.mk (And.intro hown3 hgrow)
        clear hown3 hgrow
        go_wp2
        have B2 : Below w.heap.size w w2 := HW.out.trans (H2.out.mono HW.out.size)
        have B3 : Below w.heap.size w w3 := (B2.alloc B2.size _).grown H3.out.2 (Nat.le_trans B2.size (by simp)) (fun k hk => by cases hk; exact hg)
        refine ⟨⟨n + 1, by simp, hlt, ?_, ?_, B3⟩, by simp [intOf]; omega⟩
        · rw [HY.out]
          have ha := HA.out
          unfold okL at ha ⊢
          rw [List.all_append, ha]
          simp [HK.out]
        · rw [ps_succ, HP2.out]
          exact H3.out.1
    · obtain rfl : n = L.length := by omega
      have hall := HA.out
      rw [List.take_length] at hall
      have HL := Aside0.mk hall
      clear hall hbw
      go_wp2
      go_ret2
      exact rplaces_yes HL.out rfl HO.out HW.out
end Go.Proofs.YtkfinaongajhmaaDoor.X
