/- The reference's search for a label, and its assembler: what they compute. -/
import Derived.Test.YtkfinaongajhmaaDoorAMap
import Derived.Test.YtkfinaongajhmaaDoorRPlaces
import Derived.Test.YtkfinaongajhmaaDoorAAsm
import Derived.IntWalk
namespace Go.Proofs.YtkfinaongajhmaaDoor.X
open Go.Ob Go.Ob.Xc Go.RowKit Go.Proofs.YtkfinaongajhmaaDoorW.PrintWords Go.Proofs.YtkfinaongajhmaaDoorW.PrintMore
attribute [local go_sem] max2_int min2_int max_two min_two
set_option linter.unusedVariables false
set_option linter.unusedSimpArgs false
set_option maxHeartbeats 16000000 in
set_option maxRecDepth 100000 in
theorem RFind (L : List It) (A : Option Addr) (cap : Nat) (a : Int) (w : World) (hL : L.length ≤ 1000) (hi : Its w A L) (hb : -9223372036854775808 ≤ a ∧ a ≤ 9223372036854775807) :
    Calls Tryd.prog 55 #[.slice A L.length cap, .int .i64 a] w fun e w' => e = .returned (.int .i64 (fndA L a)) ∧ w = w' := by
  have HT := Aside0.mk hi
  clear hi
  go_enter Tryd.func55, Tryd.ntmps55
  go_wp2
  go_loop [5, 6] (fun v i => ∃ (n : Nat) (k : Int), i = .int .i64 n ∧ n ≤ L.length ∧ fnd L a n = some k ∧ v = .int .i64 k) (fun _ i => L.length - (intOf i).toNat)
  case atStart => exact ⟨0, -1, rfl, Nat.zero_le _, rfl, rfl⟩
  case round =>
    obtain ⟨n, k, rfl, hn, hk, rfl⟩ := hrel
    have hkb := fnd_bd L a n k hk
    obtain ⟨k0, k1⟩ := hkb
    have HK := Aside0.mk hk
    clear hk
    by_cases hlt : n < L.length
    · obtain ⟨hnb, hcs⟩ := HT.out
      obtain ⟨ad, hA, hab, hc⟩ := hcs (by omega)
      subst hA
      obtain ⟨c0, c1, c2, c3, c4, c5, c6, c7, c8⟩ := hc n hlt
      have HG := Aside0.mk (show L.getD n default = L[n] by rw [List.getD_eq_getElem?_getD, List.getElem?_eq_getElem hlt]; rfl)
      have hu := Tryd.underlying56
      clear hc hcs hnb c0 c1 c2 c3 c4 c5 c6 c8
      generalize hq : L[n] = t at *
      clear hq
      obtain ⟨x, lab, jt⟩ := t
      dsimp only at c7
      by_cases e : lab = a
      · subst e
        by_cases g : 0 ≤ k
        · go_wp2
          go_ret
          have hz : fnd L lab (n + 1) = none := by
            unfold fnd
            rw [HK.out, HG.out]
            simp only [if_true]
            rw [if_pos g]
          have h2 := fnd_none (show n + 1 ≤ L.length from hlt) hz
          exact ⟨by unfold fndA; rw [h2]; rfl, rfl⟩
        · have g2 : k < 0 := by omega
          clear g
          go_wp2
          go_round
          case rel =>
            refine ⟨n + 1, (n : Int), by go_num, hlt, ?_, rfl⟩
            unfold fnd
            rw [HK.out, HG.out]
            simp only [if_true]
            rw [if_neg (by omega)]
          case measure => simp [intOf]; omega
      · have e1 : (lab == a) = false := beq_eq_false_iff_ne.mpr e
        go_wp2
        go_round
        case rel =>
          refine ⟨n + 1, k, by go_num, hlt, ?_, rfl⟩
          unfold fnd
          rw [HK.out, HG.out]
          simp only [if_neg e]
        case measure => simp [intOf]; omega
    · obtain rfl : n = L.length := by omega
      have HF := Aside0.mk (show fndA L a = k by unfold fndA; rw [HK.out]; rfl)
      go_wp2
      go_ret
      exact ⟨by rw [HF.out]; rfl, rfl⟩
/-- what the reference's Assemble answers -/
def RAsmAns (L : List It) (w : World) (e : Ending) (w' : World) : Prop :=
  (match rasmB L with | some b => e = .returned (.tuple #[.string (strOfNums b), .bool true]) | none => e = .returned (.tuple #[.string ⟨#[]⟩, .bool false])) ∧ Below w.heap.size w w'
theorem rasm_no {L : List It} {w w' : World} {e : Ending} (h : rasmB L = none) (he : e = .returned (.tuple #[.string ⟨#[]⟩, .bool false])) (hb : Below w.heap.size w w') : RAsmAns L w e w' := by
  unfold RAsmAns
  rw [h]
  exact ⟨he, hb⟩
theorem rasm_yes {L : List It} {w w' : World} {e : Ending} {b : List Int} (h : rasmB L = some b) (he : e = .returned (.tuple #[.string (strOfNums b), .bool true])) (hb : Below w.heap.size w w') : RAsmAns L w e w' := by
  unfold RAsmAns
  rw [h]
  exact ⟨he, hb⟩
set_option maxHeartbeats 16000000 in
set_option maxRecDepth 100000 in
theorem RAsmBad (L : List It) (A : Option Addr) (cap : Nat) (w : World) (hL : L.length ≤ 1000) (hi : Its w A L) (hok : okL L = false) :
    Calls Tryd.prog 29 #[.slice A L.length cap] w (RAsmAns L w) := by
  have hA : rasmB L = none := by unfold rasmB; rw [hok]; rfl
  have HA := Aside0.mk hA
  have HP := Aside0.mk (RPlaces L A cap w hL hi)
  have HO := Aside0.mk hok
  clear hi hok hA
  go_enter Tryd.func29, Tryd.ntmps29
  go_wp2_with (go_at_call 26; (with_reducible refine HP.out.mono ?_); intro e w1 hp; unfold RPlacesAns at hp; rw [HO.out] at hp; obtain ⟨rfl, hb⟩ := hp; have H1 := Aside0.mk hb; clear hb)
  go_ret2
  exact rasm_no HA.out rfl H1.out
set_option maxHeartbeats 16000000 in
set_option maxRecDepth 100000 in
theorem RAsmOk (L : List It) (A : Option Addr) (cap : Nat) (w : World) (hL : L.length ≤ 1000) (hi : Its w A L) (hok : okL L = true) :
    Calls Tryd.prog 29 #[.slice A L.length cap] w (RAsmAns L w) := by
  have HP := Aside0.mk (RPlaces L A cap w hL hi)
  have HT := Aside0.mk hi
  have HK := Aside0.mk hok
  clear hi hok
  go_enter Tryd.func29, Tryd.ntmps29
  go_wp2_with (go_at_call 26; (with_reducible refine HP.out.mono ?_); intro e w1 hp; unfold RPlacesAns at hp; rw [HK.out] at hp; obtain ⟨⟨v, rfl, hrow⟩, hb⟩ := hp; obtain ⟨hlen, (⟨hv, h00⟩ | ⟨g, cp, cur, hv, hg, hh, hcn, hcm, hcs, htk⟩)⟩ := id hrow; (focus (first | omega | skip)); subst hv; have H1 := Aside0.mk (And.intro hb (show Plc L w g cp w1 from hrow)); clear hb hrow hlen hh hg hcn hcm hcs htk)
  go_loopw [6, 7] (fun o i wr => ∃ (n : Nat) (bs : List Int), i = .int .i64 n ∧ o = .string (strOfNums bs) ∧ n ≤ L.length ∧ ritemsB L n = some bs ∧ Below w1.heap.size w1 wr) (fun _ i _ => L.length - (intOf i).toNat)
  case atStart => exact ⟨0, [], rfl, rfl, Nat.zero_le _, rfl, Below.refl _ _⟩
  case round =>
    obtain ⟨n, bs, rfl, rfl, hn, hbs, hbo⟩ := hrel
    have HBS := Aside0.mk hbs
    have HWr := Aside0.mk (H1.out.1.trans (hbo.mono H1.out.1.size))
    have HBO := Aside0.mk hbo
    clear hbs
    by_cases hlt : n < L.length
    · obtain ⟨hnb, hcs⟩ := HT.out.below HWr.out
      obtain ⟨a, hA, hab, hc⟩ := hcs (by omega)
      subst hA
      obtain ⟨c0, c1, c2, c3, c4, c5, c6, c7, c8⟩ := hc n hlt
      have HX := Aside0.mk (hnb L[n] (List.getElem_mem hlt))
      have HG := Aside0.mk (show L.getD n default = L[n] by rw [List.getD_eq_getElem?_getD, List.getElem?_eq_getElem hlt]; rfl)
      have hsome := List.all_eq_true.mp HK.out L[n] (List.getElem_mem hlt)
      have hlab := lab_of hsome
      have hto := to_of hsome
      have hu := Tryd.underlying56
      clear hbo hc hcs hnb hsome
      generalize hq : L[n] = t at *
      clear hq
      obtain ⟨⟨o, wd, r, b, i, c, nn⟩, lab, jt⟩ := t
      dsimp only at c0 c1 c2 c3 c4 c5 c6 c7 c8 hlab hto
      rcases hlab with rfl | hlab
      · rcases Int.lt_or_eq_of_le hto with hto | rfl
        · have hF := RFind L (some a) cap jt (wr.alloc (to_ ⟨⟨o, wd, r, b, i, c, nn⟩, 0, jt⟩)) hL (HT.out.below (HWr.out.alloc HWr.out.size _)) HX.out.2.2
          by_cases hf : fndA L jt < 0
          · have HF := Aside0.mk hF
            clear hF
            have hib : ritemB L n = none := by
              unfold ritemB
              rw [HG.out]
              simp [hto, hf]
            have HN := Aside0.mk (rasmB_item hlt hib)
            clear hib
            go_wp2_with (go_at_call 55; (with_reducible refine HF.out.mono ?_); rintro e w2 ⟨rfl, rfl⟩)
            go_ret2
            exact rasm_no HN.out rfl (HWr.out.alloc HWr.out.size _)
          · obtain ⟨k2, hk2, hk3⟩ : ∃ k2 : Nat, fndA L jt = (k2 : Int) ∧ k2 < L.length := by
              have := fndA_bd L jt
              exact ⟨(fndA L jt).toNat, by omega, by omega⟩
            rw [hk2] at hF
            have HF := Aside0.mk hF
            have hp1 := pos_bd L k2
            have hp2 := pos_bd L (n + 1)
            obtain ⟨p1, p2⟩ := hp1
            obtain ⟨p3, p4⟩ := hp2
            have hxn : -9223372036854775808 ≤ pos L k2 - pos L (n + 1) ∧ pos L k2 - pos L (n + 1) ≤ 9223372036854775807 := by omega
            have j0 : (0 : Int) ≤ (k2 : Int) := by omega
            have j1 : (k2 : Int) < (L.length : Int) + 1 := by omega
            have j2 : (0 : Int) ≤ (n : Int) + 1 := by omega
            have j3 : (n : Int) + 1 < (L.length : Int) + 1 := by omega
            have j4 : k2 < L.length + 1 := by omega
            have j5 : ((n : Int) + 1).toNat = n + 1 := by omega
            have j6 : IntKind.i64.wrap ((n : Int) + 1) = (n : Int) + 1 := IntWalk.i64_in _ (by omega)
            have j7 : IntKind.i64.wrap (pos L k2 - pos L (n + 1)) = pos L k2 - pos L (n + 1) := IntWalk.i64_in _ (by omega)
            clear hF hf
            cases hr : right ⟨o, wd, r, b, i, c, pos L k2 - pos L (n + 1)⟩ with
            | true =>
              have hib : ritemB L n = some (enc ⟨o, wd, r, b, i, c, pos L k2 - pos L (n + 1)⟩) := by
                unfold ritemB
                rw [HG.out]
                simp [hto, hk2, hr]
              have HI := Aside0.mk (ritemsB_step HBS.out hib)
              have hkk := ritemsB_ok HBS.out
              have hs1 := strsize hkk.2
              have hs2 := strsize (enc_okl hr)
              have hel := enc_len ⟨o, wd, r, b, i, c, pos L k2 - pos L (n + 1)⟩
              have hlen : (strOfNums bs).size + (strOfNums (enc ⟨o, wd, r, b, i, c, pos L k2 - pos L (n + 1)⟩)).size ≤ 9223372036854775807 := by omega
              have HL := Aside0.mk (And.intro hr hxn)
              clear hkk hs1 hs2 hel hr hib hxn
              clear hk2
              go_upto_region 16 with (go_at_call 55; (with_reducible refine HF.out.mono ?_); rintro e w2 ⟨rfl, rfl⟩)
              generalize hW4 : wr.alloc _ = W4
              obtain ⟨kX, kB⟩ := new_of hW4
              have b4 : Below w1.heap.size w1 W4 := HBO.out.trans (kB.mono HBO.out.size)
              have o4 : Plc L w g cp W4 := pw_own_below H1.out.2 b4
              have cN := o4.cellAt k2 (by omega)
              rw [ps_at L L.length k2 (by omega)] at cN
              have cM := o4.cellAt (n + 1) (by omega)
              rw [ps_at L L.length (n + 1) hlt] at cM
              obtain ⟨x0, x1, x2, x3, x4, x5, x6, x7, x8⟩ := cell9 kX
              have f6 := blk_frozen kX 6
              have z4 := blk_lt kX
              have HB4 := Aside0.mk b4
              clear hW4 kX kB b4 o4 c0 c1 c2 c3 c4 c5 c6 c7 c8
              refine wp_region_still_tail 12 (by kernel_rfl) (by kernel_rfl) ?_
              simp only [List.take_succ_cons, List.take_zero, List.drop_succ_cons, List.drop_zero]
              repeat still_step
              try refine wpStill_nil ?_
              go_wp2_with (first
                | (go_at_call 17; (with_reducible refine (REncode_ok ⟨o, wd, r, b, i, c, pos L k2 - pos L (n + 1)⟩ _ HL.out.1 HL.out.2).mono ?_); rintro e w2 ⟨rfl, hb2⟩; have H2 := Aside0.mk hb2; clear hb2))
              have B1 : Below w1.heap.size w1 w2 := ((below_drew HB4.out).setCell (p := ⟨wr.heap.size, 6, none⟩) (by exact HBO.out.size) _).trans (H2.out.mono (by simp; exact HB4.out.size))
              refine ⟨⟨n + 1, _, by simp, ?_, hlt, HI.out, B1⟩, by simp [intOf]; omega⟩
              rw [cat_nums]
            | false =>
              have hib : ritemB L n = none := by
                unfold ritemB
                rw [HG.out]
                simp [hto, hk2, hr]
              have HL := Aside0.mk (And.intro hr hxn)
              have HN := Aside0.mk (rasmB_item hlt hib)
              clear hr hib hxn
              clear hk2
              go_upto_region 16 with (go_at_call 55; (with_reducible refine HF.out.mono ?_); rintro e w2 ⟨rfl, rfl⟩)
              generalize hW4 : wr.alloc _ = W4
              obtain ⟨kX, kB⟩ := new_of hW4
              have b4 : Below w1.heap.size w1 W4 := HBO.out.trans (kB.mono HBO.out.size)
              have o4 : Plc L w g cp W4 := pw_own_below H1.out.2 b4
              have cN := o4.cellAt k2 (by omega)
              rw [ps_at L L.length k2 (by omega)] at cN
              have cM := o4.cellAt (n + 1) (by omega)
              rw [ps_at L L.length (n + 1) hlt] at cM
              obtain ⟨x0, x1, x2, x3, x4, x5, x6, x7, x8⟩ := cell9 kX
              have f6 := blk_frozen kX 6
              have z4 := blk_lt kX
              have HB4 := Aside0.mk b4
              clear hW4 kX kB b4 o4 c0 c1 c2 c3 c4 c5 c6 c7 c8
              refine wp_region_still_tail 12 (by kernel_rfl) (by kernel_rfl) ?_
              simp only [List.take_succ_cons, List.take_zero, List.drop_succ_cons, List.drop_zero]
              repeat still_step
              try refine wpStill_nil ?_
              go_wp2_with (first | (go_at_call 17; (with_reducible refine (REncode_no ⟨o, wd, r, b, i, c, pos L k2 - pos L (n + 1)⟩ _ HL.out.1).mono ?_); rintro e w2 ⟨rfl, hb2⟩; have H2 := Aside0.mk hb2; clear hb2))
              have B1 : Below w1.heap.size w1 w2 := ((below_drew HB4.out).setCell (p := ⟨wr.heap.size, 6, none⟩) (by exact HBO.out.size) _).trans (H2.out.mono (by simp; exact HB4.out.size))
              go_ret2
              exact rasm_no HN.out rfl (H1.out.1.trans (B1.mono H1.out.1.size))
        · have hxn : -9223372036854775808 ≤ nn ∧ nn ≤ 9223372036854775807 := HX.out.1
          cases hr : right ⟨o, wd, r, b, i, c, nn⟩ with
          | true =>
            have hib : ritemB L n = some (enc ⟨o, wd, r, b, i, c, nn⟩) := by
              unfold ritemB
              rw [HG.out]
              simp [hr]
            have HI := Aside0.mk (ritemsB_step HBS.out hib)
            have hkk := ritemsB_ok HBS.out
            have hs1 := strsize hkk.2
            have hs2 := strsize (enc_okl hr)
            have hel := enc_len ⟨o, wd, r, b, i, c, nn⟩
            have hlen : (strOfNums bs).size + (strOfNums (enc ⟨o, wd, r, b, i, c, nn⟩)).size ≤ 9223372036854775807 := by omega
            have HL := Aside0.mk (And.intro hr hxn)
            clear hkk hs1 hs2 hel hr hib hxn
            go_wp2_with (first
              | (go_at_call 17; (with_reducible refine (REncode_ok ⟨o, wd, r, b, i, c, nn⟩ _ HL.out.1 HL.out.2).mono ?_); rintro e w2 ⟨rfl, hb2⟩; have H2 := Aside0.mk hb2; clear hb2))
            have B1 : Below w1.heap.size w1 w2 := (HBO.out.alloc HBO.out.size _).trans (H2.out.mono (Nat.le_trans HBO.out.size (by simp)))
            refine ⟨⟨n + 1, _, by simp, ?_, hlt, HI.out, B1⟩, by simp [intOf]; omega⟩
            rw [cat_nums]
          | false =>
            have hib : ritemB L n = none := by
              unfold ritemB
              rw [HG.out]
              simp [hr]
            have HL := Aside0.mk (And.intro hr hxn)
            have HN := Aside0.mk (rasmB_item hlt hib)
            clear hr hib hxn
            go_wp2_with (first | (go_at_call 17; (with_reducible refine (REncode_no ⟨o, wd, r, b, i, c, nn⟩ _ HL.out.1).mono ?_); rintro e w2 ⟨rfl, hb2⟩; have H2 := Aside0.mk hb2; clear hb2))
            have B1 : Below w1.heap.size w1 w2 := (HBO.out.alloc HBO.out.size _).trans (H2.out.mono (Nat.le_trans HBO.out.size (by simp)))
            go_ret2
            exact rasm_no HN.out rfl (H1.out.1.trans (B1.mono H1.out.1.size))
      · have hF := RFind L (some a) cap lab (wr.alloc (to_ ⟨⟨o, wd, r, b, i, c, nn⟩, lab, jt⟩)) hL (HT.out.below (HWr.out.alloc HWr.out.size _)) HX.out.2.1
        have HF := Aside0.mk hF
        clear hF
        by_cases hf : fndA L lab < 0
        · have hib : ritemB L n = none := by
            unfold ritemB
            rw [HG.out]
            simp [hlab, hf]
          have HN := Aside0.mk (rasmB_item hlt hib)
          clear hib
          go_wp2_with (go_at_call 55; (with_reducible refine HF.out.mono ?_); rintro e w2 ⟨rfl, rfl⟩)
          go_ret2
          exact rasm_no HN.out rfl (HWr.out.alloc HWr.out.size _)
        · have hib : ritemB L n = some [] := by
            unfold ritemB
            rw [HG.out]
            simp [hlab, hf]
          have HI := Aside0.mk (ritemsB_step HBS.out hib)
          have hf2 : 0 ≤ fndA L lab := by omega
          clear hib hf
          go_wp2_with (go_at_call 55; (with_reducible refine HF.out.mono ?_); rintro e w2 ⟨rfl, rfl⟩)
          have h := HI.out
          rw [List.append_nil] at h
          exact ⟨⟨n + 1, bs, by simp, rfl, hlt, h, HBO.out.alloc HBO.out.size _⟩, by simp [intOf]; omega⟩
    · obtain rfl : n = L.length := by omega
      have hfin : rasmB L = some bs := by
        unfold rasmB
        rw [if_pos HK.out]
        exact HBS.out
      have HF := Aside0.mk hfin
      clear hfin hbo
      go_wp2
      go_ret2
      exact rasm_yes HF.out rfl HWr.out
end Go.Proofs.YtkfinaongajhmaaDoor.X
