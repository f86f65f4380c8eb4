/- The reference's guess of chapter 11: what it takes bytes for. No condition but lengths. -/
import Derived.Test.YtkfinaongajhmaaDoorRGuess
import Derived.Test.YtkfinaongajhmaaDoorXDecode
import Derived.Deep.Cut
import Derived.Deep.CutRange
import Derived.Deep.Slices
import Derived.Deep.Strs
import Derived.Laws.NewBlocks
namespace Go.Proofs.YtkfinaongajhmaaDoor.X
open Go.Ob Go.Ob.Xc Go.RowKit Go.Proofs.YtkfinaongajhmaaDoorW.PrintWords Go.Proofs.YtkfinaongajhmaaDoorW.PrintMore
attribute [local go_sem] max2_int min2_int max_two min_two
set_option linter.unusedVariables false
set_option linter.unusedSimpArgs false
theorem u8_bits (a : Int) (h0 : 0 ≤ a) (h1 : a < 256) : bits .and .u8 a 8 = a / 8 % 2 * 8 ∧ bits .and .u8 a 4 = a / 4 % 2 * 4 ∧ bits .and .u8 a 2 = a / 2 % 2 * 2 ∧ bits .and .u8 a 1 = a % 2 ∧ bits .and .u8 a 7 = a % 8 := by
  have H : ∀ c : Fin 256, bits .and .u8 (c.val : Int) 8 = (c.val : Int) / 8 % 2 * 8 ∧ bits .and .u8 (c.val : Int) 4 = (c.val : Int) / 4 % 2 * 4 ∧ bits .and .u8 (c.val : Int) 2 = (c.val : Int) / 2 % 2 * 2 ∧ bits .and .u8 (c.val : Int) 1 = (c.val : Int) % 2 ∧ bits .and .u8 (c.val : Int) 7 = (c.val : Int) % 8 := by decide +kernel
  have h := H ⟨a.toNat, by omega⟩
  simp only [Int.toNat_of_nonneg h0] at h
  exact h
theorem not_isEmpty_of_size {s : ByteArray} (h : 0 < s.size) : (!s.toList.isEmpty) = true := by
  rw [← decide_eq_emptyBytes, Bool.not_eq_true', decide_eq_false_iff_not]
  rintro rfl
  exact absurd h (by decide)
theorem notEmptyD (U : ByteArray) : (!U.toList.isEmpty) = decide (U ≠ ⟨#[]⟩) := by
  rw [← decide_eq_emptyBytes]
  by_cases h : U = ⟨#[]⟩
  · rw [decide_eq_false (p := U ≠ ⟨#[]⟩) (fun c => c h), decide_eq_true (show U = ByteArray.empty from h)]; rfl
  · rw [decide_eq_true (p := U ≠ ⟨#[]⟩) h, decide_eq_false (show ¬ U = ByteArray.empty from h)]; rfl
theorem sg8_cut (s : ByteArray) (a b : Nat) (h1 : a + 8 = b) (h2 : b ≤ s.size) : sg8 (bl (s.extract a b)) 0 = sg8 (bl s) a := by
  have e : ∀ j, j < 8 → at0 (bl (s.extract a b)) j = at0 (bl s) (a + j) := by
    intro j hj
    unfold at0
    rw [bl_extract, List.getD_eq_getElem?_getD, List.getD_eq_getElem?_getD, List.getElem?_take, if_pos (by omega), List.getElem?_drop]
  unfold sg8 num8 num4
  simp only [Nat.zero_add, Nat.reduceAdd]
  rw [e 0 (by omega), e 1 (by omega), e 2 (by omega), e 3 (by omega), e 4 (by omega), e 5 (by omega), e 6 (by omega), e 7 (by omega)]
  simp only [Nat.add_zero, Nat.add_assoc, Nat.reduceAdd]
theorem bl_to_end (s : ByteArray) (k : Nat) (h : k ≤ s.size) : bl (s.extract k s.size) = (bl s).drop k := by
  rw [bl_extract]
  exact List.take_of_length_le (by rw [List.length_drop, bl_length]; exact Nat.le_refl _)
theorem bl_tail2 (t : ByteArray) (h : 2 ≤ t.size) : bl ((t.extract 1 t.size).extract 1 (t.size - 1)) = (bl t).drop 2 := by
  have e : (t.extract 1 t.size).size = t.size - 1 := by rw [ByteArray.size_extract]; omega
  rw [← e, bl_to_end _ 1 (by omega), bl_to_end _ 1 (by omega), List.drop_drop]
set_option maxHeartbeats 16000000 in
set_option maxRecDepth 100000 in
theorem RGuess1 (s : ByteArray) (w : World) (hs : s.size ≤ 281474976710656) :
    Calls Tryd.prog 50 #[.string s] w fun e w' => e = .returned (.tuple #[xv (gcand (bl s)).1, .bool (gcand (bl s)).2]) ∧ Below w.heap.size w w' := by
  have HS := Aside0.mk hs
  obtain ⟨G, hG⟩ : ∃ G, gcand (bl s) = G := ⟨_, rfl⟩
  rw [hG]
  have HG := Aside0.mk hG
  clear hG
  go_enter Tryd.func50, Tryd.ntmps50
  go_upto_region 5 with fail
  go_cut [25] from 14 to 25 (fun b wx => ∃ B : Bool, b = .bool B ∧ B = decide (at0 (bl s) 0 / 16 = 4) ∧ wx = (w.alloc (xo ⟨0, false, 0, 0, 0, 0, 0⟩)).alloc (xo ⟨0, false, 0, 0, 0, 0, 0⟩))
  case first =>
    by_cases hz : s.size = 0
    · obtain rfl : s = ⟨#[]⟩ := ByteArray.ext (Array.eq_empty_of_size_eq_zero hz)
      clear hs hz
      go_wp2_with fail
      go_meet
      case rel => exact ⟨_, rfl, rfl, rfl⟩
    · have e0 : 0 < s.size := by omega
      have e1 : (!s.toList.isEmpty) = true := not_isEmpty_of_size e0
      have d := at0_bd s 0
      have hq : ∀ P : Bool, decide ((s[0].toNat : Int) / 16 = 4) = P → decide (at0 (bl s) 0 / 16 = 4) = P := fun P h => by rw [at0_byte s 0 e0]; exact h
      have HQ := Aside0.mk hq
      clear hq
      rw [at0_byte s 0 e0] at d
      obtain ⟨d0, d1⟩ := d
      have hc : (s[0].toNat : Int) < 64 ∨ (64 ≤ (s[0].toNat : Int) ∧ (s[0].toNat : Int) < 80) ∨ 80 ≤ (s[0].toNat : Int) := by omega
      rcases hc with h | ⟨h, h'⟩ | h
      · have HP := Aside0.mk (HQ.out false (decide_eq_false (by omega)))
        go_wp2_with fail
        go_meet
        case rel => exact ⟨_, rfl, by rw [HP.out] <;> first | rfl | (simp; omega), rfl⟩
      · have HP := Aside0.mk (HQ.out true (decide_eq_true (by omega)))
        go_wp2_with fail
        go_meet
        case rel => exact ⟨_, rfl, by rw [HP.out] <;> first | rfl | (simp; omega), rfl⟩
      · have HP := Aside0.mk (HQ.out false (decide_eq_false (by omega)))
        go_wp2_with fail
        go_meet
        case rel => exact ⟨_, rfl, by rw [HP.out] <;> first | rfl | (simp; omega), rfl⟩
  case rest =>
    obtain ⟨B, rfl, hB, rfl⟩ := hcut
    have HB := Aside0.mk hB
    clear hB
    go_upto_if 25 with fail
    go_cut [0, 5, 6, 7] from 26 to 47 (fun b r i m wx => ∃ (t : ByteArray) (r1 i1 m1 : Int) (wd : Bool), b = .string t ∧ r = .int .i64 r1 ∧ i = .int .i64 i1 ∧ m = .int .i64 m1 ∧ t.size ≤ 281474976710656 ∧ (r1 = 0 ∨ r1 = 8) ∧ (i1 = 0 ∨ i1 = 8) ∧ (m1 = 0 ∨ m1 = 8) ∧ G = gbody (bl t) wd r1 i1 m1 ∧ wx = (w.alloc (xo ⟨0, false, 0, 0, 0, 0, 0⟩)).alloc (xo ⟨0, wd, 0, 0, 0, 0, 0⟩))
    case first =>
      cases B
      · have HX := Aside0.mk (of_decide_eq_false HB.out.symm)
        clear hs HB
        go_wp2_with fail
        go_meet
        case rel => exact ⟨s, 0, 0, 0, false, rfl, rfl, rfl, rfl, HS.out, .inl rfl, .inl rfl, .inl rfl, by rw [← HG.out]; unfold gcand; rw [if_neg HX.out], rfl⟩
      · have hx := of_decide_eq_true HB.out.symm
        have e0 : 0 < s.size := by
          refine Nat.pos_of_ne_zero fun h => ?_
          obtain rfl : s = ⟨#[]⟩ := ByteArray.ext (Array.eq_empty_of_size_eq_zero h)
          exact absurd hx (by decide)
        have d := at0_bd s 0
        have q := u8_bits (at0 (bl s) 0) d.1 d.2
        have e := at0_byte s 0 e0
        have HX := Aside0.mk (And.intro hx (And.intro q (And.intro e d)))
        rw [e] at q
        obtain ⟨q8, q4, q2, q1, -⟩ := q
        clear hs HB hx d e
        go_wp2_with fail
        go_meet
        case rel =>
          refine ⟨_, _, _, _, _, rfl, rfl, rfl, rfl, ?_, ?_, ?_, ?_, ?_, rfl⟩
          · rw [ByteArray.size_extract]
            have := HS.out
            omega
          · omega
          · omega
          · omega
          · rw [← HG.out]
            unfold gcand
            rw [if_pos HX.out.1, HX.out.2.2.1, bl_tail s e0]
            have hb : (s[0].toNat : Int) / 8 % 2 = 0 ∨ (s[0].toNat : Int) / 8 % 2 = 1 := by omega
            have r4 : ∀ a : Int, a / 4 % 2 * 4 * 2 = a / 4 % 2 * 8 := fun a => by omega
            have r2 : ∀ a : Int, a / 2 % 2 * 2 * 4 = a / 2 % 2 * 8 := fun a => by omega
            rw [r4, r2]
            rcases hb with hb | hb <;> rw [hb] <;> rfl
    case rest =>
      obtain ⟨t, r, i, m, wd, rfl, rfl, rfl, rfl, ht, hr, hi, hm, hg, rfl⟩ := hcut
      have HR := Aside0.mk (And.intro ht (And.intro hr (And.intro hi (And.intro hm hg))))
      have H0 := Aside0.mk (below_alloc (below_alloc (Below.refl w.heap.size w) (xo ⟨0, false, 0, 0, 0, 0, 0⟩)) (xo ⟨0, wd, 0, 0, 0, 0, 0⟩))
      clear ht hr hi hm hg HG HB hs HS
      by_cases hz : t.size = 0
      · obtain rfl : t = ⟨#[]⟩ := ByteArray.ext (Array.eq_empty_of_size_eq_zero hz)
        have hg := HR.out.2.2.2.2
        rw [show gbody (bl ⟨#[]⟩) wd r i m = gno wd from rfl] at hg
        subst hg
        clear hz
        go_wp2_with fail
        exact bodyPost_ret (v := .tuple #[xv ⟨0, wd, 0, 0, 0, 0, 0⟩, .bool false]) (by simp [results, Tryd.results50, go_sem]) rfl ⟨rfl, by with_reducible repeat (first | exact H0.out | refine below_own0 ?_ _ _ | refine below_own1 ?_ _ _ | refine below_alloc ?_ _ | exact Below.refl _ _)⟩
      · have e0 : 0 < t.size := by omega
        have e1 : (!t.toList.isEmpty) = true := not_isEmpty_of_size e0
        have e2 : t.toList.isEmpty = false := by rw [Bool.not_eq_true'] at e1; exact e1
        have ea := at0_byte t 0 e0
        have EA := Aside0.mk ea
        clear ea
        by_cases h15 : (t[0].toNat : Int) = 15
        · have h15' : ((t[0].toNat : Int) == 15) = true := beq_iff_eq.mpr h15
          by_cases h2 : t.size < 2
          · have hg := HR.out.2.2.2.2
            rw [show gbody (bl t) wd r i m = gno wd by unfold gbody; rw [if_neg (by intro h; have := congrArg List.length h; rw [bl_length, List.length_nil] at this; omega), if_pos (by rw [EA.out]; exact h15), if_pos (by rw [bl_length]; exact h2)]] at hg
            subst hg
            clear hz
            go_wp2_with fail
            exact bodyPost_ret (v := .tuple #[xv ⟨0, wd, 0, 0, 0, 0, 0⟩, .bool false]) (by simp [results, Tryd.results50, go_sem]) rfl ⟨rfl, by with_reducible repeat (first | exact H0.out | refine below_own0 ?_ _ _ | refine below_own1 ?_ _ _ | refine below_alloc ?_ _ | exact Below.refl _ _)⟩
          · clear hz
            go_upto_region 24 with fail
            obtain ⟨U, hU⟩ : ∃ U, (t.extract 1 t.size).extract 1 (t.size - 1) = U := ⟨_, rfl⟩
            rw [hU]
            go_upto_if 69 with fail
            go_cut [11, 12, 13] from 69 to 86 (fun a b c wx => a = .int .i64 (gl (bl U) m) ∧ b = .int .i64 (gr (bl U) r) ∧ c = .int .i64 (gm (bl U)) ∧ wx = (w.alloc (xo ⟨0, false, 0, 0, 0, 0, 0⟩)).alloc (xo ⟨0, wd, 0, 0, 0, 0, 0⟩))
            case first =>
              have hE2 := notEmptyD U
              generalize (!U.toList.isEmpty) = E at *
              cases E
              · have HU := Aside0.mk (show U = ⟨#[]⟩ by have := of_decide_eq_false hE2.symm; simpa using this)
                clear hE2
                go_wp2_with fail
                go_meet
                case rel => rw [HU.out]; exact ⟨rfl, rfl, rfl, rfl⟩
              · have hU0 := of_decide_eq_true hE2.symm
                have u0 : 0 < U.size := by
                  refine Nat.pos_of_ne_zero fun h => hU0 ?_
                  exact ByteArray.ext (Array.eq_empty_of_size_eq_zero h)
                have hl : bl U ≠ [] := by intro h; have := congrArg List.length h; rw [bl_length, List.length_nil] at this; omega
                have HL := Aside0.mk hl
                clear hU0 hl hE2
                go_wp2_with fail
                go_meet
                case rel =>
                  have d := at0_bd U 0
                  have e := at0_byte U 0 u0
                  have q := u8_bits (at0 (bl U) 0) d.1 d.2
                  have q2 := u8_bits (at0 (bl U) 0 / 8) (by omega) (by omega)
                  rw [e] at q q2 d
                  unfold gl gr gm
                  rw [if_neg HL.out, if_neg HL.out, if_neg HL.out, e, q.2.2.2.2, q2.2.2.2.2]
                  have hw : ∀ x : Int, 0 ≤ x → x < 1000 → wrap64 x = x := fun x _ _ => by unfold wrap64; omega
                  have hr := HR.out
                  rw [hw (↑U[0].toNat % 8) (by omega) (by omega), hw (↑U[0].toNat / 8 % 8) (by omega) (by omega), hw _ (by omega) (by omega), hw _ (by omega) (by omega), hw _ (by omega) (by omega)]
                  exact ⟨rfl, rfl, rfl, rfl⟩
            case rest =>
              obtain ⟨rfl, rfl, rfl, rfl⟩ := hcut
              have hsU : U.size ≤ 281474976710656 := by
                rw [← hU, ByteArray.size_extract]
                have := HR.out.1
                omega
              have o1 := at0_byte t 1 (by omega)
              have o2 := at0_bd t 1
              have hg := HR.out.2.2.2.2
              have hUl : bl U = (bl t).drop 2 := by rw [← hU]; exact bl_tail2 t (by omega)
              rw [show gbody (bl t) wd r i m = gfar wd (at0 (bl t) 1) (bl U) (gr (bl U) r) (gl (bl U) m) by
                unfold gbody
                rw [if_neg (by intro h; have := congrArg List.length h; rw [bl_length, List.length_nil] at this; omega), if_pos (by rw [EA.out]; exact h15), if_neg (by rw [bl_length]; exact h2), hUl]] at hg
              have hF := fun W => RFar wd (at0 (bl t) 1) U (gr (bl U) r) (gl (bl U) m) W o2 hsU
              rw [← hg, o1] at hF
              rw [o1] at o2
              have HF := Aside0.mk hF
              clear HR hg hF o1
              have hw : wrap64 (↑t[1].toNat) = ↑t[1].toNat := by unfold wrap64; omega
              rw [hw]
              clear hUl hsU hw
              go_wp2_with (go_at_call 68; (with_reducible refine (HF.out _).mono ?_); rintro e w1 ⟨rfl, hb⟩; have X1 := blk_below (blk_alloc (blk_new w (xo ⟨0, false, 0, 0, 0, 0, 0⟩)) (xo ⟨0, wd, 0, 0, 0, 0, 0⟩)) hb; have H1 := Aside0.mk (And.intro (H0.out.trans (hb.mono H0.out.size)) X1); obtain ⟨x0, x1, x2, x3, x4, x5, x6⟩ := cell7 X1; obtain ⟨z0, z1, z2, z3, z4, z5, z6⟩ := froz7 X1; clear hb X1)
              have hr := row7 H1.out.2 (.int .i64 G.1.op) (.bool G.1.wide) (.int .i64 G.1.r) (.int .i64 G.1.b) (.int .i64 G.1.i) (.int .i64 G.1.c) (.int .i64 G.1.n)
              have hbw := below7 (Nat.le_refl w.heap.size) H1.out.1 (.int .i64 G.1.op) (.bool G.1.wide) (.int .i64 G.1.r) (.int .i64 G.1.b) (.int .i64 G.1.i) (.int .i64 G.1.c) (.int .i64 G.1.n)
              generalize (((((((w1.setCell ⟨w.heap.size, 0, none⟩ (.int .i64 G.1.op)).setCell ⟨w.heap.size, 1, none⟩ (.bool G.1.wide)).setCell ⟨w.heap.size, 2, none⟩ (.int .i64 G.1.r)).setCell ⟨w.heap.size, 3, none⟩ (.int .i64 G.1.b)).setCell ⟨w.heap.size, 4, none⟩ (.int .i64 G.1.i)).setCell ⟨w.heap.size, 5, none⟩ (.int .i64 G.1.c)).setCell ⟨w.heap.size, 6, none⟩ (.int .i64 G.1.n)) = W9 at hr hbw ⊢
              obtain ⟨k0, k1, k2, k3, k4, k5, k6⟩ := cell7 hr
              exact bodyPost_ret (v := .tuple #[xv G.1, .bool G.2]) (by simp [results, Tryd.results50, go_sem, *]) rfl ⟨rfl, hbw⟩
        · have h15' : ((t[0].toNat : Int) == 15) = false := beq_eq_false_iff_ne.mpr h15
          have o2 := at0_bd t 0
          rw [EA.out] at o2
          have hw0 : wrap64 (↑t[0].toNat) = ↑t[0].toNat := by unfold wrap64; omega
          clear hz
          go_upto_region 24 with fail
          obtain ⟨U, hU⟩ : ∃ U, t.extract 1 t.size = U := ⟨_, rfl⟩
          rw [hU]
          go_upto_if 69 with fail
          go_cut [11, 12, 13] from 69 to 86 (fun a b c wx => a = .int .i64 (gl (bl U) m) ∧ b = .int .i64 (gr (bl U) r) ∧ c = .int .i64 (gm (bl U)) ∧ wx = (w.alloc (xo ⟨0, false, 0, 0, 0, 0, 0⟩)).alloc (xo ⟨0, wd, 0, 0, 0, 0, 0⟩))
          case first =>
            have hE2 := notEmptyD U
            generalize (!U.toList.isEmpty) = E at *
            cases E
            · have HU := Aside0.mk (show U = ⟨#[]⟩ by have := of_decide_eq_false hE2.symm; simpa using this)
              clear hE2
              go_wp2_with fail
              go_meet
              case rel => rw [HU.out]; exact ⟨rfl, rfl, rfl, rfl⟩
            · have hU0 := of_decide_eq_true hE2.symm
              have u0 : 0 < U.size := by
                refine Nat.pos_of_ne_zero fun h => hU0 ?_
                exact ByteArray.ext (Array.eq_empty_of_size_eq_zero h)
              have hl : bl U ≠ [] := by intro h; have := congrArg List.length h; rw [bl_length, List.length_nil] at this; omega
              have HL := Aside0.mk hl
              clear hU0 hl hE2
              go_wp2_with fail
              go_meet
              case rel =>
                have d := at0_bd U 0
                have e := at0_byte U 0 u0
                have q := u8_bits (at0 (bl U) 0) d.1 d.2
                have q2 := u8_bits (at0 (bl U) 0 / 8) (by omega) (by omega)
                rw [e] at q q2 d
                unfold gl gr gm
                rw [if_neg HL.out, if_neg HL.out, if_neg HL.out, e, q.2.2.2.2, q2.2.2.2.2]
                have hw : ∀ x : Int, 0 ≤ x → x < 1000 → wrap64 x = x := fun x _ _ => by unfold wrap64; omega
                have hr := HR.out
                rw [hw (↑U[0].toNat % 8) (by omega) (by omega), hw (↑U[0].toNat / 8 % 8) (by omega) (by omega), hw _ (by omega) (by omega), hw _ (by omega) (by omega), hw _ (by omega) (by omega)]
                exact ⟨rfl, rfl, rfl, rfl⟩
          case rest =>
          obtain ⟨rfl, rfl, rfl, rfl⟩ := hcut
          have hsU : U.size ≤ 281474976710656 := by
            rw [← hU, ByteArray.size_extract]
            have := HR.out.1
            omega
          have hg := HR.out.2.2.2.2
          have hUl : bl U = (bl t).drop 1 := by rw [← hU]; exact bl_to_end t 1 (by omega)
          rw [show gbody (bl t) wd r i m = gone wd (at0 (bl t) 0) (bl U) i m (gm (bl U)) (gr (bl U) r) (gl (bl U) m) by
            unfold gbody
            rw [if_neg (by intro h; have := congrArg List.length h; rw [bl_length, List.length_nil] at this; omega), if_neg (by rw [EA.out]; exact h15), hUl]] at hg
          rw [EA.out] at hg
          have hR := HR.out
          obtain ⟨-, hr8, hi8, hm8, -⟩ := hR
          have hgb : 0 ≤ gm (bl U) ∧ gm (bl U) ≤ 3 ∧ 0 ≤ gr (bl U) r ∧ gr (bl U) r ≤ 15 ∧ 0 ≤ gl (bl U) m ∧ gl (bl U) m ≤ 15 := by
            have d := at0_bd U 0
            unfold gm gr gl
            split <;> omega
          have HM := Aside0.mk (And.intro hr8 (And.intro hi8 hm8))
          clear HR EA hUl hU hr8 hi8 hm8 hw0
          generalize (t[0].toNat : Int) = a at *
          generalize gm (bl U) = md at *
          generalize gr (bl U) r = rg1 at *
          generalize gl (bl U) m = lo at *
          obtain ⟨o20, o21⟩ := o2
          obtain ⟨b1, b2, b3, b4, b5, b6⟩ := hgb
          have HG1 := Aside0.mk hg
          clear hg
          have hi8 : 0 ≤ i ∧ i ≤ 8 := by have := HM.out; omega
          have hm8 : 0 ≤ m ∧ m ≤ 8 := by have := HM.out; omega
          obtain ⟨hi80, hi81⟩ := hi8
          obtain ⟨hm80, hm81⟩ := hm8
          -- ONE
          have hc : (a < 64 ∧ a % 8 = 1) ∨ (a < 64 ∧ ¬ a % 8 = 1) ∨ (64 ≤ a ∧ a < 99) ∨ (a = 99) ∨ (99 < a ∧ a < 129) ∨ (a = 129) ∨ (129 < a ∧ a < 133) ∨ (a = 133) ∨ (133 < a ∧ a < 137) ∨ (a = 137) ∨ (137 < a ∧ a < 139) ∨ (a = 139) ∨ (139 < a ∧ a < 153) ∨ (a = 153) ∨ (153 < a ∧ a < 184) ∨ (184 ≤ a ∧ a < 192) ∨ (192 ≤ a ∧ a < 195) ∨ (a = 195) ∨ (195 < a ∧ a < 204) ∨ (a = 204) ∨ (204 < a ∧ a < 211) ∨ (a = 211) ∨ (211 < a ∧ a < 232) ∨ (a = 232) ∨ (a = 233) ∨ (233 < a ∧ a < 244) ∨ (a = 244) ∨ (244 < a ∧ a < 247) ∨ (a = 247) ∨ (247 < a) := by omega
          rcases hc with ⟨k1, k2⟩ | ⟨k1, k2⟩ | ⟨k1, k2⟩ | rfl | ⟨k1, k2⟩ | rfl | ⟨k1, k2⟩ | rfl | ⟨k1, k2⟩ | rfl | ⟨k1, k2⟩ | rfl | ⟨k1, k2⟩ | rfl | ⟨k1, k2⟩ | ⟨k1, k2⟩ | ⟨k1, k2⟩ | rfl | ⟨k1, k2⟩ | rfl | ⟨k1, k2⟩ | rfl | ⟨k1, k2⟩ | rfl | rfl | ⟨k1, k2⟩ | rfl | ⟨k1, k2⟩ | rfl | k1
          · skip
            have q : G = (⟨3, wd, rg1, lo, 0, a / 8, 0⟩, true) := by
              rw [HG1.out]
              unfold gone gno
              (try simp only [Int.reduceEq, Int.reduceLE, Int.reduceLT, Int.reduceMod, Int.reduceDiv, and_true, and_false, true_and, false_and, or_true, or_false, true_or, false_or, if_true, if_false]); repeat' (first | rw [if_pos (by omega)] | rw [if_neg (by omega)])
            subst q
            go_wp2_with fail
            exact bodyPost_ret (v := .tuple #[xv ⟨3, wd, rg1, lo, 0, a / 8, 0⟩, .bool true]) (by simp [results, Tryd.results50, go_sem]) rfl ⟨rfl, by with_reducible repeat (first | exact H0.out | refine below_own0 ?_ _ _ | refine below_own1 ?_ _ _ | refine below_alloc ?_ _ | exact Below.refl _ _)⟩
          · skip
            have q : G = (⟨0, wd, 0, 0, 0, 0, 0⟩, false) := by
              rw [HG1.out]
              unfold gone gno
              (try simp only [Int.reduceEq, Int.reduceLE, Int.reduceLT, Int.reduceMod, Int.reduceDiv, and_true, and_false, true_and, false_and, or_true, or_false, true_or, false_or, if_true, if_false]); repeat' (first | rw [if_pos (by omega)] | rw [if_neg (by omega)])
            subst q
            have n129 : (a == 129) = false := beq_eq_false_iff_ne.mpr (by omega)
            have n133 : (a == 133) = false := beq_eq_false_iff_ne.mpr (by omega)
            have n211 : (a == 211) = false := beq_eq_false_iff_ne.mpr (by omega)
            have n153 : (a == 153) = false := beq_eq_false_iff_ne.mpr (by omega)
            have n99 : (a == 99) = false := beq_eq_false_iff_ne.mpr (by omega)
            have n233 : (a == 233) = false := beq_eq_false_iff_ne.mpr (by omega)
            have n232 : (a == 232) = false := beq_eq_false_iff_ne.mpr (by omega)
            have n195 : (a == 195) = false := beq_eq_false_iff_ne.mpr (by omega)
            have n244 : (a == 244) = false := beq_eq_false_iff_ne.mpr (by omega)
            have n204 : (a == 204) = false := beq_eq_false_iff_ne.mpr (by omega)
            have n247 : (a == 247) = false := beq_eq_false_iff_ne.mpr (by omega)
            have n137 : (a == 137) = false := beq_eq_false_iff_ne.mpr (by omega)
            have n139 : (a == 139) = false := beq_eq_false_iff_ne.mpr (by omega)
            have n8 : (a % 8 == 1) = false := beq_eq_false_iff_ne.mpr (by omega)
            go_wp2_with fail
            exact bodyPost_ret (v := .tuple #[xv ⟨0, wd, 0, 0, 0, 0, 0⟩, .bool false]) (by simp [results, Tryd.results50, go_sem]) rfl ⟨rfl, by with_reducible repeat (first | exact H0.out | refine below_own0 ?_ _ _ | refine below_own1 ?_ _ _ | refine below_alloc ?_ _ | exact Below.refl _ _)⟩
          · skip
            have q : G = (⟨0, wd, 0, 0, 0, 0, 0⟩, false) := by
              rw [HG1.out]
              unfold gone gno
              (try simp only [Int.reduceEq, Int.reduceLE, Int.reduceLT, Int.reduceMod, Int.reduceDiv, and_true, and_false, true_and, false_and, or_true, or_false, true_or, false_or, if_true, if_false]); repeat' (first | rw [if_pos (by omega)] | rw [if_neg (by omega)])
            subst q
            have n129 : (a == 129) = false := beq_eq_false_iff_ne.mpr (by omega)
            have n133 : (a == 133) = false := beq_eq_false_iff_ne.mpr (by omega)
            have n211 : (a == 211) = false := beq_eq_false_iff_ne.mpr (by omega)
            have n153 : (a == 153) = false := beq_eq_false_iff_ne.mpr (by omega)
            have n99 : (a == 99) = false := beq_eq_false_iff_ne.mpr (by omega)
            have n233 : (a == 233) = false := beq_eq_false_iff_ne.mpr (by omega)
            have n232 : (a == 232) = false := beq_eq_false_iff_ne.mpr (by omega)
            have n195 : (a == 195) = false := beq_eq_false_iff_ne.mpr (by omega)
            have n244 : (a == 244) = false := beq_eq_false_iff_ne.mpr (by omega)
            have n204 : (a == 204) = false := beq_eq_false_iff_ne.mpr (by omega)
            have n247 : (a == 247) = false := beq_eq_false_iff_ne.mpr (by omega)
            have n137 : (a == 137) = false := beq_eq_false_iff_ne.mpr (by omega)
            have n139 : (a == 139) = false := beq_eq_false_iff_ne.mpr (by omega)
            go_wp2_with fail
            exact bodyPost_ret (v := .tuple #[xv ⟨0, wd, 0, 0, 0, 0, 0⟩, .bool false]) (by simp [results, Tryd.results50, go_sem]) rfl ⟨rfl, by with_reducible repeat (first | exact H0.out | refine below_own0 ?_ _ _ | refine below_own1 ?_ _ _ | refine below_alloc ?_ _ | exact Below.refl _ _)⟩
          · skip
            have q : G = (⟨16, wd, rg1, lo, 0, 0, 0⟩, true) := by
              rw [HG1.out]
              unfold gone gno
              (try simp only [Int.reduceEq, Int.reduceLE, Int.reduceLT, Int.reduceMod, Int.reduceDiv, and_true, and_false, true_and, false_and, or_true, or_false, true_or, false_or, if_true, if_false]); repeat' (first | rw [if_pos (by omega)] | rw [if_neg (by omega)])
            subst q
            go_wp2_with fail
            exact bodyPost_ret (v := .tuple #[xv ⟨16, wd, rg1, lo, 0, 0, 0⟩, .bool true]) (by simp [results, Tryd.results50, go_sem]) rfl ⟨rfl, by with_reducible repeat (first | exact H0.out | refine below_own0 ?_ _ _ | refine below_own1 ?_ _ _ | refine below_alloc ?_ _ | exact Below.refl _ _)⟩
          · skip
            have q : G = (⟨0, wd, 0, 0, 0, 0, 0⟩, false) := by
              rw [HG1.out]
              unfold gone gno
              (try simp only [Int.reduceEq, Int.reduceLE, Int.reduceLT, Int.reduceMod, Int.reduceDiv, and_true, and_false, true_and, false_and, or_true, or_false, true_or, false_or, if_true, if_false]); repeat' (first | rw [if_pos (by omega)] | rw [if_neg (by omega)])
            subst q
            have n129 : (a == 129) = false := beq_eq_false_iff_ne.mpr (by omega)
            have n133 : (a == 133) = false := beq_eq_false_iff_ne.mpr (by omega)
            have n211 : (a == 211) = false := beq_eq_false_iff_ne.mpr (by omega)
            have n153 : (a == 153) = false := beq_eq_false_iff_ne.mpr (by omega)
            have n99 : (a == 99) = false := beq_eq_false_iff_ne.mpr (by omega)
            have n233 : (a == 233) = false := beq_eq_false_iff_ne.mpr (by omega)
            have n232 : (a == 232) = false := beq_eq_false_iff_ne.mpr (by omega)
            have n195 : (a == 195) = false := beq_eq_false_iff_ne.mpr (by omega)
            have n244 : (a == 244) = false := beq_eq_false_iff_ne.mpr (by omega)
            have n204 : (a == 204) = false := beq_eq_false_iff_ne.mpr (by omega)
            have n247 : (a == 247) = false := beq_eq_false_iff_ne.mpr (by omega)
            have n137 : (a == 137) = false := beq_eq_false_iff_ne.mpr (by omega)
            have n139 : (a == 139) = false := beq_eq_false_iff_ne.mpr (by omega)
            go_wp2_with fail
            exact bodyPost_ret (v := .tuple #[xv ⟨0, wd, 0, 0, 0, 0, 0⟩, .bool false]) (by simp [results, Tryd.results50, go_sem]) rfl ⟨rfl, by with_reducible repeat (first | exact H0.out | refine below_own0 ?_ _ _ | refine below_own1 ?_ _ _ | refine below_alloc ?_ _ | exact Below.refl _ _)⟩
          · by_cases hl : U.size < 5
            · have hl2 : (bl U).length < 5 := by rw [bl_length]; exact hl
              have q : G = (⟨0, wd, 0, 0, 0, 0, 0⟩, false) := by
                rw [HG1.out]
                unfold gone gno
                (try simp only [Int.reduceEq, Int.reduceLE, Int.reduceLT, Int.reduceMod, Int.reduceDiv, and_true, and_false, true_and, false_and, or_true, or_false, true_or, false_or, if_true, if_false]); repeat' (first | rw [if_pos (by omega)] | rw [if_neg (by omega)])
              subst q
              go_wp2_with fail
              exact bodyPost_ret (v := .tuple #[xv ⟨0, wd, 0, 0, 0, 0, 0⟩, .bool false]) (by simp [results, Tryd.results50, go_sem]) rfl ⟨rfl, by with_reducible repeat (first | exact H0.out | refine below_own0 ?_ _ _ | refine below_own1 ?_ _ _ | refine below_alloc ?_ _ | exact Below.refl _ _)⟩
            · have hl2 : ¬ (bl U).length < 5 := by rw [bl_length]; exact hl
              have hx : (U.extract 1 5).size = 4 := by rw [ByteArray.size_extract]; omega
              have hq : sg4 (bl (U.extract 1 5)) 0 = sg4 (bl U) 1 := sg4_cut U 1 5 (by omega) (by omega)
              have hv := fun W => RValue4 (U.extract 1 5) W hx
              rw [hq] at hv
              have HV := Aside0.mk hv
              clear hx hq hv
              have q : G = (⟨4, wd, 0, lo, 0, rg1, sg4 (bl U) 1⟩, true) := by
                rw [HG1.out]
                unfold gone gno
                (try simp only [Int.reduceEq, Int.reduceLE, Int.reduceLT, Int.reduceMod, Int.reduceDiv, and_true, and_false, true_and, false_and, or_true, or_false, true_or, false_or, if_true, if_false]); repeat' (first | rw [if_pos (by omega)] | rw [if_neg (by omega)])
              subst q
              go_wp2_with (go_at_call 69; (with_reducible refine (HV.out _).mono ?_); rintro e w1 ⟨rfl, rfl⟩)
              exact bodyPost_ret (v := .tuple #[xv ⟨4, wd, 0, lo, 0, rg1, sg4 (bl U) 1⟩, .bool true]) (by simp [results, Tryd.results50, go_sem]) rfl ⟨rfl, by with_reducible repeat (first | exact H0.out | refine below_own0 ?_ _ _ | refine below_own1 ?_ _ _ | refine below_alloc ?_ _ | exact Below.refl _ _)⟩
          · skip
            have q : G = (⟨0, wd, 0, 0, 0, 0, 0⟩, false) := by
              rw [HG1.out]
              unfold gone gno
              (try simp only [Int.reduceEq, Int.reduceLE, Int.reduceLT, Int.reduceMod, Int.reduceDiv, and_true, and_false, true_and, false_and, or_true, or_false, true_or, false_or, if_true, if_false]); repeat' (first | rw [if_pos (by omega)] | rw [if_neg (by omega)])
            subst q
            have n129 : (a == 129) = false := beq_eq_false_iff_ne.mpr (by omega)
            have n133 : (a == 133) = false := beq_eq_false_iff_ne.mpr (by omega)
            have n211 : (a == 211) = false := beq_eq_false_iff_ne.mpr (by omega)
            have n153 : (a == 153) = false := beq_eq_false_iff_ne.mpr (by omega)
            have n99 : (a == 99) = false := beq_eq_false_iff_ne.mpr (by omega)
            have n233 : (a == 233) = false := beq_eq_false_iff_ne.mpr (by omega)
            have n232 : (a == 232) = false := beq_eq_false_iff_ne.mpr (by omega)
            have n195 : (a == 195) = false := beq_eq_false_iff_ne.mpr (by omega)
            have n244 : (a == 244) = false := beq_eq_false_iff_ne.mpr (by omega)
            have n204 : (a == 204) = false := beq_eq_false_iff_ne.mpr (by omega)
            have n247 : (a == 247) = false := beq_eq_false_iff_ne.mpr (by omega)
            have n137 : (a == 137) = false := beq_eq_false_iff_ne.mpr (by omega)
            have n139 : (a == 139) = false := beq_eq_false_iff_ne.mpr (by omega)
            go_wp2_with fail
            exact bodyPost_ret (v := .tuple #[xv ⟨0, wd, 0, 0, 0, 0, 0⟩, .bool false]) (by simp [results, Tryd.results50, go_sem]) rfl ⟨rfl, by with_reducible repeat (first | exact H0.out | refine below_own0 ?_ _ _ | refine below_own1 ?_ _ _ | refine below_alloc ?_ _ | exact Below.refl _ _)⟩
          · skip
            have q : G = (⟨5, wd, rg1, lo, 0, 0, 0⟩, true) := by
              rw [HG1.out]
              unfold gone gno
              (try simp only [Int.reduceEq, Int.reduceLE, Int.reduceLT, Int.reduceMod, Int.reduceDiv, and_true, and_false, true_and, false_and, or_true, or_false, true_or, false_or, if_true, if_false]); repeat' (first | rw [if_pos (by omega)] | rw [if_neg (by omega)])
            subst q
            go_wp2_with fail
            exact bodyPost_ret (v := .tuple #[xv ⟨5, wd, rg1, lo, 0, 0, 0⟩, .bool true]) (by simp [results, Tryd.results50, go_sem]) rfl ⟨rfl, by with_reducible repeat (first | exact H0.out | refine below_own0 ?_ _ _ | refine below_own1 ?_ _ _ | refine below_alloc ?_ _ | exact Below.refl _ _)⟩
          · skip
            have q : G = (⟨0, wd, 0, 0, 0, 0, 0⟩, false) := by
              rw [HG1.out]
              unfold gone gno
              (try simp only [Int.reduceEq, Int.reduceLE, Int.reduceLT, Int.reduceMod, Int.reduceDiv, and_true, and_false, true_and, false_and, or_true, or_false, true_or, false_or, if_true, if_false]); repeat' (first | rw [if_pos (by omega)] | rw [if_neg (by omega)])
            subst q
            have n129 : (a == 129) = false := beq_eq_false_iff_ne.mpr (by omega)
            have n133 : (a == 133) = false := beq_eq_false_iff_ne.mpr (by omega)
            have n211 : (a == 211) = false := beq_eq_false_iff_ne.mpr (by omega)
            have n153 : (a == 153) = false := beq_eq_false_iff_ne.mpr (by omega)
            have n99 : (a == 99) = false := beq_eq_false_iff_ne.mpr (by omega)
            have n233 : (a == 233) = false := beq_eq_false_iff_ne.mpr (by omega)
            have n232 : (a == 232) = false := beq_eq_false_iff_ne.mpr (by omega)
            have n195 : (a == 195) = false := beq_eq_false_iff_ne.mpr (by omega)
            have n244 : (a == 244) = false := beq_eq_false_iff_ne.mpr (by omega)
            have n204 : (a == 204) = false := beq_eq_false_iff_ne.mpr (by omega)
            have n247 : (a == 247) = false := beq_eq_false_iff_ne.mpr (by omega)
            have n137 : (a == 137) = false := beq_eq_false_iff_ne.mpr (by omega)
            have n139 : (a == 139) = false := beq_eq_false_iff_ne.mpr (by omega)
            go_wp2_with fail
            exact bodyPost_ret (v := .tuple #[xv ⟨0, wd, 0, 0, 0, 0, 0⟩, .bool false]) (by simp [results, Tryd.results50, go_sem]) rfl ⟨rfl, by with_reducible repeat (first | exact H0.out | refine below_own0 ?_ _ _ | refine below_own1 ?_ _ _ | refine below_alloc ?_ _ | exact Below.refl _ _)⟩
          · by_cases h3 : md = 3
            · have e3 : (md == 3) = true := beq_iff_eq.mpr h3
              have q : G = (⟨1, wd, rg1, lo, 0, 0, 0⟩, true) := by
                rw [HG1.out]
                unfold gone gno
                (try simp only [Int.reduceEq, Int.reduceLE, Int.reduceLT, Int.reduceMod, Int.reduceDiv, and_true, and_false, true_and, false_and, or_true, or_false, true_or, false_or, if_true, if_false]); repeat' (first | rw [if_pos (by omega)] | rw [if_neg (by omega)])
              subst q
              go_wp2_with fail
              exact bodyPost_ret (v := .tuple #[xv ⟨1, wd, rg1, lo, 0, 0, 0⟩, .bool true]) (by simp [results, Tryd.results50, go_sem]) rfl ⟨rfl, by with_reducible repeat (first | exact H0.out | refine below_own0 ?_ _ _ | refine below_own1 ?_ _ _ | refine below_alloc ?_ _ | exact Below.refl _ _)⟩
            have e3 : (md == 3) = false := beq_eq_false_iff_ne.mpr h3
            by_cases h2 : md = 2
            · have e2 : (md == 2) = true := beq_iff_eq.mpr h2
              by_cases hl : U.size < 6
              · have hl2 : (bl U).length < 6 := by rw [bl_length]; exact hl
                have q : G = (⟨0, wd, 0, 0, 0, 0, 0⟩, false) := by
                  rw [HG1.out]
                  unfold gone gno
                  (try simp only [Int.reduceEq, Int.reduceLE, Int.reduceLT, Int.reduceMod, Int.reduceDiv, and_true, and_false, true_and, false_and, or_true, or_false, true_or, false_or, if_true, if_false]); repeat' (first | rw [if_pos (by omega)] | rw [if_neg (by omega)])
                subst q
                go_wp2_with fail
                exact bodyPost_ret (v := .tuple #[xv ⟨0, wd, 0, 0, 0, 0, 0⟩, .bool false]) (by simp [results, Tryd.results50, go_sem]) rfl ⟨rfl, by with_reducible repeat (first | exact H0.out | refine below_own0 ?_ _ _ | refine below_own1 ?_ _ _ | refine below_alloc ?_ _ | exact Below.refl _ _)⟩
              · have hl2 : ¬ (bl U).length < 6 := by rw [bl_length]; exact hl
                have hx : (U.extract 2 6).size = 4 := by rw [ByteArray.size_extract]; omega
                have hq : sg4 (bl (U.extract 2 6)) 0 = sg4 (bl U) 2 := sg4_cut U 2 6 (by omega) (by omega)
                have hv := fun W => RValue4 (U.extract 2 6) W hx
                rw [hq] at hv
                have HV := Aside0.mk hv
                clear hx hq hv
                have ub := at0_bd U 1
                have ue := at0_byte U 1 (by omega)
                have uq := u8_bits (at0 (bl U) 1) ub.1 ub.2
                have uq2 := u8_bits (at0 (bl U) 1 / 8) (by omega) (by omega)
                have hg1 := HG1.out
                have hgo : gone wd 137 (bl U) i m md rg1 lo = (⟨12, wd, rg1, at0 (bl U) 1 % 8 + m, if at0 (bl U) 1 / 8 % 8 + i + 1 = 5 then 0 else at0 (bl U) 1 / 8 % 8 + i + 1, 0, sg4 (bl U) 2⟩, true) := by
                  unfold gone
                  (try simp only [Int.reduceEq, Int.reduceLE, Int.reduceLT, Int.reduceMod, Int.reduceDiv, and_true, and_false, true_and, false_and, or_true, or_false, true_or, false_or, if_true, if_false])
                  rw [if_neg h3, if_pos h2, if_neg hl2]
                  rfl
                rw [hgo, ue] at hg1
                rw [ue] at uq uq2 ub
                obtain ⟨-, -, -, -, uq⟩ := uq
                obtain ⟨-, -, -, -, uq2⟩ := uq2
                clear hgo ue HG1
                by_cases h5 : (U[1].toNat : Int) / 8 % 8 + i + 1 = 5
                · have e5 : ((U[1].toNat : Int) / 8 % 8 + i + 1 == 5) = true := beq_iff_eq.mpr h5
                  rw [if_pos h5] at hg1
                  subst hg1
                  go_wp2_with (go_at_call 69; (with_reducible refine (HV.out _).mono ?_); rintro e w1 ⟨rfl, rfl⟩)
                  exact bodyPost_ret (v := .tuple #[xv ⟨12, wd, rg1, (U[1].toNat : Int) % 8 + m, 0, 0, sg4 (bl U) 2⟩, .bool true]) (by simp [results, Tryd.results50, go_sem]) rfl ⟨rfl, by with_reducible repeat (first | exact H0.out | refine below_own0 ?_ _ _ | refine below_own1 ?_ _ _ | refine below_alloc ?_ _ | exact Below.refl _ _)⟩
                · have e5 : ((U[1].toNat : Int) / 8 % 8 + i + 1 == 5) = false := beq_eq_false_iff_ne.mpr h5
                  rw [if_neg h5] at hg1
                  subst hg1
                  go_wp2_with (go_at_call 69; (with_reducible refine (HV.out _).mono ?_); rintro e w1 ⟨rfl, rfl⟩)
                  exact bodyPost_ret (v := .tuple #[xv ⟨12, wd, rg1, (U[1].toNat : Int) % 8 + m, (U[1].toNat : Int) / 8 % 8 + i + 1, 0, sg4 (bl U) 2⟩, .bool true]) (by simp [results, Tryd.results50, go_sem]) rfl ⟨rfl, by with_reducible repeat (first | exact H0.out | refine below_own0 ?_ _ _ | refine below_own1 ?_ _ _ | refine below_alloc ?_ _ | exact Below.refl _ _)⟩
            · have e2 : (md == 2) = false := beq_eq_false_iff_ne.mpr h2
              have q : G = (⟨0, wd, 0, 0, 0, 0, 0⟩, false) := by
                rw [HG1.out]
                unfold gone gno
                (try simp only [Int.reduceEq, Int.reduceLE, Int.reduceLT, Int.reduceMod, Int.reduceDiv, and_true, and_false, true_and, false_and, or_true, or_false, true_or, false_or, if_true, if_false]); repeat' (first | rw [if_pos (by omega)] | rw [if_neg (by omega)])
              subst q
              go_wp2_with fail
              exact bodyPost_ret (v := .tuple #[xv ⟨0, wd, 0, 0, 0, 0, 0⟩, .bool false]) (by simp [results, Tryd.results50, go_sem]) rfl ⟨rfl, by with_reducible repeat (first | exact H0.out | refine below_own0 ?_ _ _ | refine below_own1 ?_ _ _ | refine below_alloc ?_ _ | exact Below.refl _ _)⟩
          · skip
            have q : G = (⟨0, wd, 0, 0, 0, 0, 0⟩, false) := by
              rw [HG1.out]
              unfold gone gno
              (try simp only [Int.reduceEq, Int.reduceLE, Int.reduceLT, Int.reduceMod, Int.reduceDiv, and_true, and_false, true_and, false_and, or_true, or_false, true_or, false_or, if_true, if_false]); repeat' (first | rw [if_pos (by omega)] | rw [if_neg (by omega)])
            subst q
            have n129 : (a == 129) = false := beq_eq_false_iff_ne.mpr (by omega)
            have n133 : (a == 133) = false := beq_eq_false_iff_ne.mpr (by omega)
            have n211 : (a == 211) = false := beq_eq_false_iff_ne.mpr (by omega)
            have n153 : (a == 153) = false := beq_eq_false_iff_ne.mpr (by omega)
            have n99 : (a == 99) = false := beq_eq_false_iff_ne.mpr (by omega)
            have n233 : (a == 233) = false := beq_eq_false_iff_ne.mpr (by omega)
            have n232 : (a == 232) = false := beq_eq_false_iff_ne.mpr (by omega)
            have n195 : (a == 195) = false := beq_eq_false_iff_ne.mpr (by omega)
            have n244 : (a == 244) = false := beq_eq_false_iff_ne.mpr (by omega)
            have n204 : (a == 204) = false := beq_eq_false_iff_ne.mpr (by omega)
            have n247 : (a == 247) = false := beq_eq_false_iff_ne.mpr (by omega)
            have n137 : (a == 137) = false := beq_eq_false_iff_ne.mpr (by omega)
            have n139 : (a == 139) = false := beq_eq_false_iff_ne.mpr (by omega)
            go_wp2_with fail
            exact bodyPost_ret (v := .tuple #[xv ⟨0, wd, 0, 0, 0, 0, 0⟩, .bool false]) (by simp [results, Tryd.results50, go_sem]) rfl ⟨rfl, by with_reducible repeat (first | exact H0.out | refine below_own0 ?_ _ _ | refine below_own1 ?_ _ _ | refine below_alloc ?_ _ | exact Below.refl _ _)⟩
          · skip
            by_cases h2 : md = 2
            · have e2 : (md == 2) = true := beq_iff_eq.mpr h2
              by_cases hl : U.size < 6
              · have hl2 : (bl U).length < 6 := by rw [bl_length]; exact hl
                have q : G = (⟨0, wd, 0, 0, 0, 0, 0⟩, false) := by
                  rw [HG1.out]
                  unfold gone gno
                  (try simp only [Int.reduceEq, Int.reduceLE, Int.reduceLT, Int.reduceMod, Int.reduceDiv, and_true, and_false, true_and, false_and, or_true, or_false, true_or, false_or, if_true, if_false]); repeat' (first | rw [if_pos (by omega)] | rw [if_neg (by omega)])
                subst q
                go_wp2_with fail
                exact bodyPost_ret (v := .tuple #[xv ⟨0, wd, 0, 0, 0, 0, 0⟩, .bool false]) (by simp [results, Tryd.results50, go_sem]) rfl ⟨rfl, by with_reducible repeat (first | exact H0.out | refine below_own0 ?_ _ _ | refine below_own1 ?_ _ _ | refine below_alloc ?_ _ | exact Below.refl _ _)⟩
              · have hl2 : ¬ (bl U).length < 6 := by rw [bl_length]; exact hl
                have hx : (U.extract 2 6).size = 4 := by rw [ByteArray.size_extract]; omega
                have hq : sg4 (bl (U.extract 2 6)) 0 = sg4 (bl U) 2 := sg4_cut U 2 6 (by omega) (by omega)
                have hv := fun W => RValue4 (U.extract 2 6) W hx
                rw [hq] at hv
                have HV := Aside0.mk hv
                clear hx hq hv
                have ub := at0_bd U 1
                have ue := at0_byte U 1 (by omega)
                have uq := u8_bits (at0 (bl U) 1) ub.1 ub.2
                have uq2 := u8_bits (at0 (bl U) 1 / 8) (by omega) (by omega)
                have hg1 := HG1.out
                have hgo : gone wd 139 (bl U) i m md rg1 lo = (⟨11, wd, rg1, at0 (bl U) 1 % 8 + m, if at0 (bl U) 1 / 8 % 8 + i + 1 = 5 then 0 else at0 (bl U) 1 / 8 % 8 + i + 1, 0, sg4 (bl U) 2⟩, true) := by
                  unfold gone
                  (try simp only [Int.reduceEq, Int.reduceLE, Int.reduceLT, Int.reduceMod, Int.reduceDiv, and_true, and_false, true_and, false_and, or_true, or_false, true_or, false_or, if_true, if_false])
                  rw [if_pos h2, if_neg hl2]
                  rfl
                rw [hgo, ue] at hg1
                rw [ue] at uq uq2 ub
                obtain ⟨-, -, -, -, uq⟩ := uq
                obtain ⟨-, -, -, -, uq2⟩ := uq2
                clear hgo ue HG1
                by_cases h5 : (U[1].toNat : Int) / 8 % 8 + i + 1 = 5
                · have e5 : ((U[1].toNat : Int) / 8 % 8 + i + 1 == 5) = true := beq_iff_eq.mpr h5
                  rw [if_pos h5] at hg1
                  subst hg1
                  go_wp2_with (go_at_call 69; (with_reducible refine (HV.out _).mono ?_); rintro e w1 ⟨rfl, rfl⟩)
                  exact bodyPost_ret (v := .tuple #[xv ⟨11, wd, rg1, (U[1].toNat : Int) % 8 + m, 0, 0, sg4 (bl U) 2⟩, .bool true]) (by simp [results, Tryd.results50, go_sem]) rfl ⟨rfl, by with_reducible repeat (first | exact H0.out | refine below_own0 ?_ _ _ | refine below_own1 ?_ _ _ | refine below_alloc ?_ _ | exact Below.refl _ _)⟩
                · have e5 : ((U[1].toNat : Int) / 8 % 8 + i + 1 == 5) = false := beq_eq_false_iff_ne.mpr h5
                  rw [if_neg h5] at hg1
                  subst hg1
                  go_wp2_with (go_at_call 69; (with_reducible refine (HV.out _).mono ?_); rintro e w1 ⟨rfl, rfl⟩)
                  exact bodyPost_ret (v := .tuple #[xv ⟨11, wd, rg1, (U[1].toNat : Int) % 8 + m, (U[1].toNat : Int) / 8 % 8 + i + 1, 0, sg4 (bl U) 2⟩, .bool true]) (by simp [results, Tryd.results50, go_sem]) rfl ⟨rfl, by with_reducible repeat (first | exact H0.out | refine below_own0 ?_ _ _ | refine below_own1 ?_ _ _ | refine below_alloc ?_ _ | exact Below.refl _ _)⟩
            · have e2 : (md == 2) = false := beq_eq_false_iff_ne.mpr h2
              have q : G = (⟨0, wd, 0, 0, 0, 0, 0⟩, false) := by
                rw [HG1.out]
                unfold gone gno
                (try simp only [Int.reduceEq, Int.reduceLE, Int.reduceLT, Int.reduceMod, Int.reduceDiv, and_true, and_false, true_and, false_and, or_true, or_false, true_or, false_or, if_true, if_false]); repeat' (first | rw [if_pos (by omega)] | rw [if_neg (by omega)])
              subst q
              go_wp2_with fail
              exact bodyPost_ret (v := .tuple #[xv ⟨0, wd, 0, 0, 0, 0, 0⟩, .bool false]) (by simp [results, Tryd.results50, go_sem]) rfl ⟨rfl, by with_reducible repeat (first | exact H0.out | refine below_own0 ?_ _ _ | refine below_own1 ?_ _ _ | refine below_alloc ?_ _ | exact Below.refl _ _)⟩
          · skip
            have q : G = (⟨0, wd, 0, 0, 0, 0, 0⟩, false) := by
              rw [HG1.out]
              unfold gone gno
              (try simp only [Int.reduceEq, Int.reduceLE, Int.reduceLT, Int.reduceMod, Int.reduceDiv, and_true, and_false, true_and, false_and, or_true, or_false, true_or, false_or, if_true, if_false]); repeat' (first | rw [if_pos (by omega)] | rw [if_neg (by omega)])
            subst q
            have n129 : (a == 129) = false := beq_eq_false_iff_ne.mpr (by omega)
            have n133 : (a == 133) = false := beq_eq_false_iff_ne.mpr (by omega)
            have n211 : (a == 211) = false := beq_eq_false_iff_ne.mpr (by omega)
            have n153 : (a == 153) = false := beq_eq_false_iff_ne.mpr (by omega)
            have n99 : (a == 99) = false := beq_eq_false_iff_ne.mpr (by omega)
            have n233 : (a == 233) = false := beq_eq_false_iff_ne.mpr (by omega)
            have n232 : (a == 232) = false := beq_eq_false_iff_ne.mpr (by omega)
            have n195 : (a == 195) = false := beq_eq_false_iff_ne.mpr (by omega)
            have n244 : (a == 244) = false := beq_eq_false_iff_ne.mpr (by omega)
            have n204 : (a == 204) = false := beq_eq_false_iff_ne.mpr (by omega)
            have n247 : (a == 247) = false := beq_eq_false_iff_ne.mpr (by omega)
            have n137 : (a == 137) = false := beq_eq_false_iff_ne.mpr (by omega)
            have n139 : (a == 139) = false := beq_eq_false_iff_ne.mpr (by omega)
            go_wp2_with fail
            exact bodyPost_ret (v := .tuple #[xv ⟨0, wd, 0, 0, 0, 0, 0⟩, .bool false]) (by simp [results, Tryd.results50, go_sem]) rfl ⟨rfl, by with_reducible repeat (first | exact H0.out | refine below_own0 ?_ _ _ | refine below_own1 ?_ _ _ | refine below_alloc ?_ _ | exact Below.refl _ _)⟩
          · skip
            have q : G = (⟨10, wd, 0, 0, 0, 0, 0⟩, true) := by
              rw [HG1.out]
              unfold gone gno
              (try simp only [Int.reduceEq, Int.reduceLE, Int.reduceLT, Int.reduceMod, Int.reduceDiv, and_true, and_false, true_and, false_and, or_true, or_false, true_or, false_or, if_true, if_false]); repeat' (first | rw [if_pos (by omega)] | rw [if_neg (by omega)])
            subst q
            go_wp2_with fail
            exact bodyPost_ret (v := .tuple #[xv ⟨10, wd, 0, 0, 0, 0, 0⟩, .bool true]) (by simp [results, Tryd.results50, go_sem]) rfl ⟨rfl, by with_reducible repeat (first | exact H0.out | refine below_own0 ?_ _ _ | refine below_own1 ?_ _ _ | refine below_alloc ?_ _ | exact Below.refl _ _)⟩
          · skip
            have q : G = (⟨0, wd, 0, 0, 0, 0, 0⟩, false) := by
              rw [HG1.out]
              unfold gone gno
              (try simp only [Int.reduceEq, Int.reduceLE, Int.reduceLT, Int.reduceMod, Int.reduceDiv, and_true, and_false, true_and, false_and, or_true, or_false, true_or, false_or, if_true, if_false]); repeat' (first | rw [if_pos (by omega)] | rw [if_neg (by omega)])
            subst q
            have n129 : (a == 129) = false := beq_eq_false_iff_ne.mpr (by omega)
            have n133 : (a == 133) = false := beq_eq_false_iff_ne.mpr (by omega)
            have n211 : (a == 211) = false := beq_eq_false_iff_ne.mpr (by omega)
            have n153 : (a == 153) = false := beq_eq_false_iff_ne.mpr (by omega)
            have n99 : (a == 99) = false := beq_eq_false_iff_ne.mpr (by omega)
            have n233 : (a == 233) = false := beq_eq_false_iff_ne.mpr (by omega)
            have n232 : (a == 232) = false := beq_eq_false_iff_ne.mpr (by omega)
            have n195 : (a == 195) = false := beq_eq_false_iff_ne.mpr (by omega)
            have n244 : (a == 244) = false := beq_eq_false_iff_ne.mpr (by omega)
            have n204 : (a == 204) = false := beq_eq_false_iff_ne.mpr (by omega)
            have n247 : (a == 247) = false := beq_eq_false_iff_ne.mpr (by omega)
            have n137 : (a == 137) = false := beq_eq_false_iff_ne.mpr (by omega)
            have n139 : (a == 139) = false := beq_eq_false_iff_ne.mpr (by omega)
            go_wp2_with fail
            exact bodyPost_ret (v := .tuple #[xv ⟨0, wd, 0, 0, 0, 0, 0⟩, .bool false]) (by simp [results, Tryd.results50, go_sem]) rfl ⟨rfl, by with_reducible repeat (first | exact H0.out | refine below_own0 ?_ _ _ | refine below_own1 ?_ _ _ | refine below_alloc ?_ _ | exact Below.refl _ _)⟩
          · by_cases hl : U.size < 8
            · have hl2 : (bl U).length < 8 := by rw [bl_length]; exact hl
              have q : G = (⟨0, wd, 0, 0, 0, 0, 0⟩, false) := by
                rw [HG1.out]
                unfold gone gno
                (try simp only [Int.reduceEq, Int.reduceLE, Int.reduceLT, Int.reduceMod, Int.reduceDiv, and_true, and_false, true_and, false_and, or_true, or_false, true_or, false_or, if_true, if_false]); repeat' (first | rw [if_pos (by omega)] | rw [if_neg (by omega)])
              subst q
              have n129 : (a == 129) = false := beq_eq_false_iff_ne.mpr (by omega)
              have n133 : (a == 133) = false := beq_eq_false_iff_ne.mpr (by omega)
              have n211 : (a == 211) = false := beq_eq_false_iff_ne.mpr (by omega)
              have n153 : (a == 153) = false := beq_eq_false_iff_ne.mpr (by omega)
              have n99 : (a == 99) = false := beq_eq_false_iff_ne.mpr (by omega)
              have n233 : (a == 233) = false := beq_eq_false_iff_ne.mpr (by omega)
              have n232 : (a == 232) = false := beq_eq_false_iff_ne.mpr (by omega)
              have n195 : (a == 195) = false := beq_eq_false_iff_ne.mpr (by omega)
              have n244 : (a == 244) = false := beq_eq_false_iff_ne.mpr (by omega)
              have n204 : (a == 204) = false := beq_eq_false_iff_ne.mpr (by omega)
              have n247 : (a == 247) = false := beq_eq_false_iff_ne.mpr (by omega)
              have n137 : (a == 137) = false := beq_eq_false_iff_ne.mpr (by omega)
              have n139 : (a == 139) = false := beq_eq_false_iff_ne.mpr (by omega)
              go_wp2_with fail
              exact bodyPost_ret (v := .tuple #[xv ⟨0, wd, 0, 0, 0, 0, 0⟩, .bool false]) (by simp [results, Tryd.results50, go_sem]) rfl ⟨rfl, by with_reducible repeat (first | exact H0.out | refine below_own0 ?_ _ _ | refine below_own1 ?_ _ _ | refine below_alloc ?_ _ | exact Below.refl _ _)⟩
            · have hl2 : ¬ (bl U).length < 8 := by rw [bl_length]; exact hl
              have hx : (U.extract 0 8).size = 8 := by rw [ByteArray.size_extract]; omega
              have hq : sg8 (bl (U.extract 0 8)) 0 = sg8 (bl U) 0 := sg8_cut U 0 8 (by omega) (by omega)
              have hv := fun W => RValue8 (U.extract 0 8) W hx
              rw [hq] at hv
              have HV := Aside0.mk hv
              clear hx hq hv
              have q : G = (⟨2, wd, a - 184 + m, 0, 0, 0, sg8 (bl U) 0⟩, true) := by
                rw [HG1.out]
                unfold gone gno
                (try simp only [Int.reduceEq, Int.reduceLE, Int.reduceLT, Int.reduceMod, Int.reduceDiv, and_true, and_false, true_and, false_and, or_true, or_false, true_or, false_or, if_true, if_false]); repeat' (first | rw [if_pos (by omega)] | rw [if_neg (by omega)])
              subst q
              have n129 : (a == 129) = false := beq_eq_false_iff_ne.mpr (by omega)
              have n133 : (a == 133) = false := beq_eq_false_iff_ne.mpr (by omega)
              have n211 : (a == 211) = false := beq_eq_false_iff_ne.mpr (by omega)
              have n153 : (a == 153) = false := beq_eq_false_iff_ne.mpr (by omega)
              have n99 : (a == 99) = false := beq_eq_false_iff_ne.mpr (by omega)
              have n233 : (a == 233) = false := beq_eq_false_iff_ne.mpr (by omega)
              have n232 : (a == 232) = false := beq_eq_false_iff_ne.mpr (by omega)
              have n195 : (a == 195) = false := beq_eq_false_iff_ne.mpr (by omega)
              have n244 : (a == 244) = false := beq_eq_false_iff_ne.mpr (by omega)
              have n204 : (a == 204) = false := beq_eq_false_iff_ne.mpr (by omega)
              have n247 : (a == 247) = false := beq_eq_false_iff_ne.mpr (by omega)
              have n137 : (a == 137) = false := beq_eq_false_iff_ne.mpr (by omega)
              have n139 : (a == 139) = false := beq_eq_false_iff_ne.mpr (by omega)
              go_wp2_with (go_at_call 69; (with_reducible refine (HV.out _).mono ?_); rintro e w1 ⟨rfl, rfl⟩)
              exact bodyPost_ret (v := .tuple #[xv ⟨2, wd, a - 184 + m, 0, 0, 0, sg8 (bl U) 0⟩, .bool true]) (by simp [results, Tryd.results50, go_sem]) rfl ⟨rfl, by with_reducible repeat (first | exact H0.out | refine below_own0 ?_ _ _ | refine below_own1 ?_ _ _ | refine below_alloc ?_ _ | exact Below.refl _ _)⟩
          · skip
            have q : G = (⟨0, wd, 0, 0, 0, 0, 0⟩, false) := by
              rw [HG1.out]
              unfold gone gno
              (try simp only [Int.reduceEq, Int.reduceLE, Int.reduceLT, Int.reduceMod, Int.reduceDiv, and_true, and_false, true_and, false_and, or_true, or_false, true_or, false_or, if_true, if_false]); repeat' (first | rw [if_pos (by omega)] | rw [if_neg (by omega)])
            subst q
            have n129 : (a == 129) = false := beq_eq_false_iff_ne.mpr (by omega)
            have n133 : (a == 133) = false := beq_eq_false_iff_ne.mpr (by omega)
            have n211 : (a == 211) = false := beq_eq_false_iff_ne.mpr (by omega)
            have n153 : (a == 153) = false := beq_eq_false_iff_ne.mpr (by omega)
            have n99 : (a == 99) = false := beq_eq_false_iff_ne.mpr (by omega)
            have n233 : (a == 233) = false := beq_eq_false_iff_ne.mpr (by omega)
            have n232 : (a == 232) = false := beq_eq_false_iff_ne.mpr (by omega)
            have n195 : (a == 195) = false := beq_eq_false_iff_ne.mpr (by omega)
            have n244 : (a == 244) = false := beq_eq_false_iff_ne.mpr (by omega)
            have n204 : (a == 204) = false := beq_eq_false_iff_ne.mpr (by omega)
            have n247 : (a == 247) = false := beq_eq_false_iff_ne.mpr (by omega)
            have n137 : (a == 137) = false := beq_eq_false_iff_ne.mpr (by omega)
            have n139 : (a == 139) = false := beq_eq_false_iff_ne.mpr (by omega)
            go_wp2_with fail
            exact bodyPost_ret (v := .tuple #[xv ⟨0, wd, 0, 0, 0, 0, 0⟩, .bool false]) (by simp [results, Tryd.results50, go_sem]) rfl ⟨rfl, by with_reducible repeat (first | exact H0.out | refine below_own0 ?_ _ _ | refine below_own1 ?_ _ _ | refine below_alloc ?_ _ | exact Below.refl _ _)⟩
          · skip
            have q : G = (⟨20, wd, 0, 0, 0, 0, 0⟩, true) := by
              rw [HG1.out]
              unfold gone gno
              (try simp only [Int.reduceEq, Int.reduceLE, Int.reduceLT, Int.reduceMod, Int.reduceDiv, and_true, and_false, true_and, false_and, or_true, or_false, true_or, false_or, if_true, if_false]); repeat' (first | rw [if_pos (by omega)] | rw [if_neg (by omega)])
            subst q
            go_wp2_with fail
            exact bodyPost_ret (v := .tuple #[xv ⟨20, wd, 0, 0, 0, 0, 0⟩, .bool true]) (by simp [results, Tryd.results50, go_sem]) rfl ⟨rfl, by with_reducible repeat (first | exact H0.out | refine below_own0 ?_ _ _ | refine below_own1 ?_ _ _ | refine below_alloc ?_ _ | exact Below.refl _ _)⟩
          · skip
            have q : G = (⟨0, wd, 0, 0, 0, 0, 0⟩, false) := by
              rw [HG1.out]
              unfold gone gno
              (try simp only [Int.reduceEq, Int.reduceLE, Int.reduceLT, Int.reduceMod, Int.reduceDiv, and_true, and_false, true_and, false_and, or_true, or_false, true_or, false_or, if_true, if_false]); repeat' (first | rw [if_pos (by omega)] | rw [if_neg (by omega)])
            subst q
            have n129 : (a == 129) = false := beq_eq_false_iff_ne.mpr (by omega)
            have n133 : (a == 133) = false := beq_eq_false_iff_ne.mpr (by omega)
            have n211 : (a == 211) = false := beq_eq_false_iff_ne.mpr (by omega)
            have n153 : (a == 153) = false := beq_eq_false_iff_ne.mpr (by omega)
            have n99 : (a == 99) = false := beq_eq_false_iff_ne.mpr (by omega)
            have n233 : (a == 233) = false := beq_eq_false_iff_ne.mpr (by omega)
            have n232 : (a == 232) = false := beq_eq_false_iff_ne.mpr (by omega)
            have n195 : (a == 195) = false := beq_eq_false_iff_ne.mpr (by omega)
            have n244 : (a == 244) = false := beq_eq_false_iff_ne.mpr (by omega)
            have n204 : (a == 204) = false := beq_eq_false_iff_ne.mpr (by omega)
            have n247 : (a == 247) = false := beq_eq_false_iff_ne.mpr (by omega)
            have n137 : (a == 137) = false := beq_eq_false_iff_ne.mpr (by omega)
            have n139 : (a == 139) = false := beq_eq_false_iff_ne.mpr (by omega)
            go_wp2_with fail
            exact bodyPost_ret (v := .tuple #[xv ⟨0, wd, 0, 0, 0, 0, 0⟩, .bool false]) (by simp [results, Tryd.results50, go_sem]) rfl ⟨rfl, by with_reducible repeat (first | exact H0.out | refine below_own0 ?_ _ _ | refine below_own1 ?_ _ _ | refine below_alloc ?_ _ | exact Below.refl _ _)⟩
          · skip
            have q : G = (⟨23, wd, 0, 0, 0, 0, 0⟩, true) := by
              rw [HG1.out]
              unfold gone gno
              (try simp only [Int.reduceEq, Int.reduceLE, Int.reduceLT, Int.reduceMod, Int.reduceDiv, and_true, and_false, true_and, false_and, or_true, or_false, true_or, false_or, if_true, if_false]); repeat' (first | rw [if_pos (by omega)] | rw [if_neg (by omega)])
            subst q
            go_wp2_with fail
            exact bodyPost_ret (v := .tuple #[xv ⟨23, wd, 0, 0, 0, 0, 0⟩, .bool true]) (by simp [results, Tryd.results50, go_sem]) rfl ⟨rfl, by with_reducible repeat (first | exact H0.out | refine below_own0 ?_ _ _ | refine below_own1 ?_ _ _ | refine below_alloc ?_ _ | exact Below.refl _ _)⟩
          · skip
            have q : G = (⟨0, wd, 0, 0, 0, 0, 0⟩, false) := by
              rw [HG1.out]
              unfold gone gno
              (try simp only [Int.reduceEq, Int.reduceLE, Int.reduceLT, Int.reduceMod, Int.reduceDiv, and_true, and_false, true_and, false_and, or_true, or_false, true_or, false_or, if_true, if_false]); repeat' (first | rw [if_pos (by omega)] | rw [if_neg (by omega)])
            subst q
            have n129 : (a == 129) = false := beq_eq_false_iff_ne.mpr (by omega)
            have n133 : (a == 133) = false := beq_eq_false_iff_ne.mpr (by omega)
            have n211 : (a == 211) = false := beq_eq_false_iff_ne.mpr (by omega)
            have n153 : (a == 153) = false := beq_eq_false_iff_ne.mpr (by omega)
            have n99 : (a == 99) = false := beq_eq_false_iff_ne.mpr (by omega)
            have n233 : (a == 233) = false := beq_eq_false_iff_ne.mpr (by omega)
            have n232 : (a == 232) = false := beq_eq_false_iff_ne.mpr (by omega)
            have n195 : (a == 195) = false := beq_eq_false_iff_ne.mpr (by omega)
            have n244 : (a == 244) = false := beq_eq_false_iff_ne.mpr (by omega)
            have n204 : (a == 204) = false := beq_eq_false_iff_ne.mpr (by omega)
            have n247 : (a == 247) = false := beq_eq_false_iff_ne.mpr (by omega)
            have n137 : (a == 137) = false := beq_eq_false_iff_ne.mpr (by omega)
            have n139 : (a == 139) = false := beq_eq_false_iff_ne.mpr (by omega)
            go_wp2_with fail
            exact bodyPost_ret (v := .tuple #[xv ⟨0, wd, 0, 0, 0, 0, 0⟩, .bool false]) (by simp [results, Tryd.results50, go_sem]) rfl ⟨rfl, by with_reducible repeat (first | exact H0.out | refine below_own0 ?_ _ _ | refine below_own1 ?_ _ _ | refine below_alloc ?_ _ | exact Below.refl _ _)⟩
          · skip
            have q : G = (⟨7, wd, 0, lo, 0, rg1, 0⟩, true) := by
              rw [HG1.out]
              unfold gone gno
              (try simp only [Int.reduceEq, Int.reduceLE, Int.reduceLT, Int.reduceMod, Int.reduceDiv, and_true, and_false, true_and, false_and, or_true, or_false, true_or, false_or, if_true, if_false]); repeat' (first | rw [if_pos (by omega)] | rw [if_neg (by omega)])
            subst q
            go_wp2_with fail
            exact bodyPost_ret (v := .tuple #[xv ⟨7, wd, 0, lo, 0, rg1, 0⟩, .bool true]) (by simp [results, Tryd.results50, go_sem]) rfl ⟨rfl, by with_reducible repeat (first | exact H0.out | refine below_own0 ?_ _ _ | refine below_own1 ?_ _ _ | refine below_alloc ?_ _ | exact Below.refl _ _)⟩
          · skip
            have q : G = (⟨0, wd, 0, 0, 0, 0, 0⟩, false) := by
              rw [HG1.out]
              unfold gone gno
              (try simp only [Int.reduceEq, Int.reduceLE, Int.reduceLT, Int.reduceMod, Int.reduceDiv, and_true, and_false, true_and, false_and, or_true, or_false, true_or, false_or, if_true, if_false]); repeat' (first | rw [if_pos (by omega)] | rw [if_neg (by omega)])
            subst q
            have n129 : (a == 129) = false := beq_eq_false_iff_ne.mpr (by omega)
            have n133 : (a == 133) = false := beq_eq_false_iff_ne.mpr (by omega)
            have n211 : (a == 211) = false := beq_eq_false_iff_ne.mpr (by omega)
            have n153 : (a == 153) = false := beq_eq_false_iff_ne.mpr (by omega)
            have n99 : (a == 99) = false := beq_eq_false_iff_ne.mpr (by omega)
            have n233 : (a == 233) = false := beq_eq_false_iff_ne.mpr (by omega)
            have n232 : (a == 232) = false := beq_eq_false_iff_ne.mpr (by omega)
            have n195 : (a == 195) = false := beq_eq_false_iff_ne.mpr (by omega)
            have n244 : (a == 244) = false := beq_eq_false_iff_ne.mpr (by omega)
            have n204 : (a == 204) = false := beq_eq_false_iff_ne.mpr (by omega)
            have n247 : (a == 247) = false := beq_eq_false_iff_ne.mpr (by omega)
            have n137 : (a == 137) = false := beq_eq_false_iff_ne.mpr (by omega)
            have n139 : (a == 139) = false := beq_eq_false_iff_ne.mpr (by omega)
            go_wp2_with fail
            exact bodyPost_ret (v := .tuple #[xv ⟨0, wd, 0, 0, 0, 0, 0⟩, .bool false]) (by simp [results, Tryd.results50, go_sem]) rfl ⟨rfl, by with_reducible repeat (first | exact H0.out | refine below_own0 ?_ _ _ | refine below_own1 ?_ _ _ | refine below_alloc ?_ _ | exact Below.refl _ _)⟩
          · by_cases hl : U.size < 4
            · have hl2 : (bl U).length < 4 := by rw [bl_length]; exact hl
              have q : G = (⟨0, wd, 0, 0, 0, 0, 0⟩, false) := by
                rw [HG1.out]
                unfold gone gno
                (try simp only [Int.reduceEq, Int.reduceLE, Int.reduceLT, Int.reduceMod, Int.reduceDiv, and_true, and_false, true_and, false_and, or_true, or_false, true_or, false_or, if_true, if_false]); repeat' (first | rw [if_pos (by omega)] | rw [if_neg (by omega)])
              subst q
              go_wp2_with fail
              exact bodyPost_ret (v := .tuple #[xv ⟨0, wd, 0, 0, 0, 0, 0⟩, .bool false]) (by simp [results, Tryd.results50, go_sem]) rfl ⟨rfl, by with_reducible repeat (first | exact H0.out | refine below_own0 ?_ _ _ | refine below_own1 ?_ _ _ | refine below_alloc ?_ _ | exact Below.refl _ _)⟩
            · have hl2 : ¬ (bl U).length < 4 := by rw [bl_length]; exact hl
              have hx : (U.extract 0 4).size = 4 := by rw [ByteArray.size_extract]; omega
              have hq : sg4 (bl (U.extract 0 4)) 0 = sg4 (bl U) 0 := sg4_cut U 0 4 (by omega) (by omega)
              have hv := fun W => RValue4 (U.extract 0 4) W hx
              rw [hq] at hv
              have HV := Aside0.mk hv
              clear hx hq hv
              have q : G = (⟨19, wd, 0, 0, 0, 0, sg4 (bl U) 0⟩, true) := by
                rw [HG1.out]
                unfold gone gno
                (try simp only [Int.reduceEq, Int.reduceLE, Int.reduceLT, Int.reduceMod, Int.reduceDiv, and_true, and_false, true_and, false_and, or_true, or_false, true_or, false_or, if_true, if_false]); repeat' (first | rw [if_pos (by omega)] | rw [if_neg (by omega)])
              subst q
              go_wp2_with (go_at_call 69; (with_reducible refine (HV.out _).mono ?_); rintro e w1 ⟨rfl, rfl⟩)
              exact bodyPost_ret (v := .tuple #[xv ⟨19, wd, 0, 0, 0, 0, sg4 (bl U) 0⟩, .bool true]) (by simp [results, Tryd.results50, go_sem]) rfl ⟨rfl, by with_reducible repeat (first | exact H0.out | refine below_own0 ?_ _ _ | refine below_own1 ?_ _ _ | refine below_alloc ?_ _ | exact Below.refl _ _)⟩
          · by_cases hl : U.size < 4
            · have hl2 : (bl U).length < 4 := by rw [bl_length]; exact hl
              have q : G = (⟨0, wd, 0, 0, 0, 0, 0⟩, false) := by
                rw [HG1.out]
                unfold gone gno
                (try simp only [Int.reduceEq, Int.reduceLE, Int.reduceLT, Int.reduceMod, Int.reduceDiv, and_true, and_false, true_and, false_and, or_true, or_false, true_or, false_or, if_true, if_false]); repeat' (first | rw [if_pos (by omega)] | rw [if_neg (by omega)])
              subst q
              go_wp2_with fail
              exact bodyPost_ret (v := .tuple #[xv ⟨0, wd, 0, 0, 0, 0, 0⟩, .bool false]) (by simp [results, Tryd.results50, go_sem]) rfl ⟨rfl, by with_reducible repeat (first | exact H0.out | refine below_own0 ?_ _ _ | refine below_own1 ?_ _ _ | refine below_alloc ?_ _ | exact Below.refl _ _)⟩
            · have hl2 : ¬ (bl U).length < 4 := by rw [bl_length]; exact hl
              have hx : (U.extract 0 4).size = 4 := by rw [ByteArray.size_extract]; omega
              have hq : sg4 (bl (U.extract 0 4)) 0 = sg4 (bl U) 0 := sg4_cut U 0 4 (by omega) (by omega)
              have hv := fun W => RValue4 (U.extract 0 4) W hx
              rw [hq] at hv
              have HV := Aside0.mk hv
              clear hx hq hv
              have q : G = (⟨17, wd, 0, 0, 0, 0, sg4 (bl U) 0⟩, true) := by
                rw [HG1.out]
                unfold gone gno
                (try simp only [Int.reduceEq, Int.reduceLE, Int.reduceLT, Int.reduceMod, Int.reduceDiv, and_true, and_false, true_and, false_and, or_true, or_false, true_or, false_or, if_true, if_false]); repeat' (first | rw [if_pos (by omega)] | rw [if_neg (by omega)])
              subst q
              go_wp2_with (go_at_call 69; (with_reducible refine (HV.out _).mono ?_); rintro e w1 ⟨rfl, rfl⟩)
              exact bodyPost_ret (v := .tuple #[xv ⟨17, wd, 0, 0, 0, 0, sg4 (bl U) 0⟩, .bool true]) (by simp [results, Tryd.results50, go_sem]) rfl ⟨rfl, by with_reducible repeat (first | exact H0.out | refine below_own0 ?_ _ _ | refine below_own1 ?_ _ _ | refine below_alloc ?_ _ | exact Below.refl _ _)⟩
          · skip
            have q : G = (⟨0, wd, 0, 0, 0, 0, 0⟩, false) := by
              rw [HG1.out]
              unfold gone gno
              (try simp only [Int.reduceEq, Int.reduceLE, Int.reduceLT, Int.reduceMod, Int.reduceDiv, and_true, and_false, true_and, false_and, or_true, or_false, true_or, false_or, if_true, if_false]); repeat' (first | rw [if_pos (by omega)] | rw [if_neg (by omega)])
            subst q
            have n129 : (a == 129) = false := beq_eq_false_iff_ne.mpr (by omega)
            have n133 : (a == 133) = false := beq_eq_false_iff_ne.mpr (by omega)
            have n211 : (a == 211) = false := beq_eq_false_iff_ne.mpr (by omega)
            have n153 : (a == 153) = false := beq_eq_false_iff_ne.mpr (by omega)
            have n99 : (a == 99) = false := beq_eq_false_iff_ne.mpr (by omega)
            have n233 : (a == 233) = false := beq_eq_false_iff_ne.mpr (by omega)
            have n232 : (a == 232) = false := beq_eq_false_iff_ne.mpr (by omega)
            have n195 : (a == 195) = false := beq_eq_false_iff_ne.mpr (by omega)
            have n244 : (a == 244) = false := beq_eq_false_iff_ne.mpr (by omega)
            have n204 : (a == 204) = false := beq_eq_false_iff_ne.mpr (by omega)
            have n247 : (a == 247) = false := beq_eq_false_iff_ne.mpr (by omega)
            have n137 : (a == 137) = false := beq_eq_false_iff_ne.mpr (by omega)
            have n139 : (a == 139) = false := beq_eq_false_iff_ne.mpr (by omega)
            go_wp2_with fail
            exact bodyPost_ret (v := .tuple #[xv ⟨0, wd, 0, 0, 0, 0, 0⟩, .bool false]) (by simp [results, Tryd.results50, go_sem]) rfl ⟨rfl, by with_reducible repeat (first | exact H0.out | refine below_own0 ?_ _ _ | refine below_own1 ?_ _ _ | refine below_alloc ?_ _ | exact Below.refl _ _)⟩
          · skip
            have q : G = (⟨21, wd, 0, 0, 0, 0, 0⟩, true) := by
              rw [HG1.out]
              unfold gone gno
              (try simp only [Int.reduceEq, Int.reduceLE, Int.reduceLT, Int.reduceMod, Int.reduceDiv, and_true, and_false, true_and, false_and, or_true, or_false, true_or, false_or, if_true, if_false]); repeat' (first | rw [if_pos (by omega)] | rw [if_neg (by omega)])
            subst q
            go_wp2_with fail
            exact bodyPost_ret (v := .tuple #[xv ⟨21, wd, 0, 0, 0, 0, 0⟩, .bool true]) (by simp [results, Tryd.results50, go_sem]) rfl ⟨rfl, by with_reducible repeat (first | exact H0.out | refine below_own0 ?_ _ _ | refine below_own1 ?_ _ _ | refine below_alloc ?_ _ | exact Below.refl _ _)⟩
          · skip
            have q : G = (⟨0, wd, 0, 0, 0, 0, 0⟩, false) := by
              rw [HG1.out]
              unfold gone gno
              (try simp only [Int.reduceEq, Int.reduceLE, Int.reduceLT, Int.reduceMod, Int.reduceDiv, and_true, and_false, true_and, false_and, or_true, or_false, true_or, false_or, if_true, if_false]); repeat' (first | rw [if_pos (by omega)] | rw [if_neg (by omega)])
            subst q
            have n129 : (a == 129) = false := beq_eq_false_iff_ne.mpr (by omega)
            have n133 : (a == 133) = false := beq_eq_false_iff_ne.mpr (by omega)
            have n211 : (a == 211) = false := beq_eq_false_iff_ne.mpr (by omega)
            have n153 : (a == 153) = false := beq_eq_false_iff_ne.mpr (by omega)
            have n99 : (a == 99) = false := beq_eq_false_iff_ne.mpr (by omega)
            have n233 : (a == 233) = false := beq_eq_false_iff_ne.mpr (by omega)
            have n232 : (a == 232) = false := beq_eq_false_iff_ne.mpr (by omega)
            have n195 : (a == 195) = false := beq_eq_false_iff_ne.mpr (by omega)
            have n244 : (a == 244) = false := beq_eq_false_iff_ne.mpr (by omega)
            have n204 : (a == 204) = false := beq_eq_false_iff_ne.mpr (by omega)
            have n247 : (a == 247) = false := beq_eq_false_iff_ne.mpr (by omega)
            have n137 : (a == 137) = false := beq_eq_false_iff_ne.mpr (by omega)
            have n139 : (a == 139) = false := beq_eq_false_iff_ne.mpr (by omega)
            go_wp2_with fail
            exact bodyPost_ret (v := .tuple #[xv ⟨0, wd, 0, 0, 0, 0, 0⟩, .bool false]) (by simp [results, Tryd.results50, go_sem]) rfl ⟨rfl, by with_reducible repeat (first | exact H0.out | refine below_own0 ?_ _ _ | refine below_own1 ?_ _ _ | refine below_alloc ?_ _ | exact Below.refl _ _)⟩
          · by_cases h6 : rg1 = 6
            · have e6 : (rg1 == 6) = true := beq_iff_eq.mpr h6
              have q : G = (⟨8, wd, 0, lo, 0, 0, 0⟩, true) := by
                rw [HG1.out]
                unfold gone gno
                (try simp only [Int.reduceEq, Int.reduceLE, Int.reduceLT, Int.reduceMod, Int.reduceDiv, and_true, and_false, true_and, false_and, or_true, or_false, true_or, false_or, if_true, if_false]); repeat' (first | rw [if_pos (by omega)] | rw [if_neg (by omega)])
              subst q
              go_wp2_with fail
              exact bodyPost_ret (v := .tuple #[xv ⟨8, wd, 0, lo, 0, 0, 0⟩, .bool true]) (by simp [results, Tryd.results50, go_sem]) rfl ⟨rfl, by with_reducible repeat (first | exact H0.out | refine below_own0 ?_ _ _ | refine below_own1 ?_ _ _ | refine below_alloc ?_ _ | exact Below.refl _ _)⟩
            · have e6 : (rg1 == 6) = false := beq_eq_false_iff_ne.mpr h6
              have q : G = (⟨9, wd, 0, lo, 0, 0, 0⟩, true) := by
                rw [HG1.out]
                unfold gone gno
                (try simp only [Int.reduceEq, Int.reduceLE, Int.reduceLT, Int.reduceMod, Int.reduceDiv, and_true, and_false, true_and, false_and, or_true, or_false, true_or, false_or, if_true, if_false]); repeat' (first | rw [if_pos (by omega)] | rw [if_neg (by omega)])
              subst q
              go_wp2_with fail
              exact bodyPost_ret (v := .tuple #[xv ⟨9, wd, 0, lo, 0, 0, 0⟩, .bool true]) (by simp [results, Tryd.results50, go_sem]) rfl ⟨rfl, by with_reducible repeat (first | exact H0.out | refine below_own0 ?_ _ _ | refine below_own1 ?_ _ _ | refine below_alloc ?_ _ | exact Below.refl _ _)⟩
          · skip
            have q : G = (⟨0, wd, 0, 0, 0, 0, 0⟩, false) := by
              rw [HG1.out]
              unfold gone gno
              (try simp only [Int.reduceEq, Int.reduceLE, Int.reduceLT, Int.reduceMod, Int.reduceDiv, and_true, and_false, true_and, false_and, or_true, or_false, true_or, false_or, if_true, if_false]); repeat' (first | rw [if_pos (by omega)] | rw [if_neg (by omega)])
            subst q
            have n129 : (a == 129) = false := beq_eq_false_iff_ne.mpr (by omega)
            have n133 : (a == 133) = false := beq_eq_false_iff_ne.mpr (by omega)
            have n211 : (a == 211) = false := beq_eq_false_iff_ne.mpr (by omega)
            have n153 : (a == 153) = false := beq_eq_false_iff_ne.mpr (by omega)
            have n99 : (a == 99) = false := beq_eq_false_iff_ne.mpr (by omega)
            have n233 : (a == 233) = false := beq_eq_false_iff_ne.mpr (by omega)
            have n232 : (a == 232) = false := beq_eq_false_iff_ne.mpr (by omega)
            have n195 : (a == 195) = false := beq_eq_false_iff_ne.mpr (by omega)
            have n244 : (a == 244) = false := beq_eq_false_iff_ne.mpr (by omega)
            have n204 : (a == 204) = false := beq_eq_false_iff_ne.mpr (by omega)
            have n247 : (a == 247) = false := beq_eq_false_iff_ne.mpr (by omega)
            have n137 : (a == 137) = false := beq_eq_false_iff_ne.mpr (by omega)
            have n139 : (a == 139) = false := beq_eq_false_iff_ne.mpr (by omega)
            go_wp2_with fail
            exact bodyPost_ret (v := .tuple #[xv ⟨0, wd, 0, 0, 0, 0, 0⟩, .bool false]) (by simp [results, Tryd.results50, go_sem]) rfl ⟨rfl, by with_reducible repeat (first | exact H0.out | refine below_own0 ?_ _ _ | refine below_own1 ?_ _ _ | refine below_alloc ?_ _ | exact Below.refl _ _)⟩
          -- END
end Go.Proofs.YtkfinaongajhmaaDoor.X
