/- The assembler: what the program's function computes. -/
import Derived.Test.YtkfinaongajhmaaDoorAPlaces
import Derived.Test.YtkfinaongajhmaaDoorAMap
import Derived.Deep.QuietTactic
import Derived.BigQuiet
import Derived.StillTailTactics
namespace Go.Proofs.YtkfinaongajhmaaDoor.X
open Go.Ob Go.Ob.Xc Go.RowKit Go.Maps Go.Proofs.YtkfinaongajhmaaDoorW.PrintWords Go.Proofs.YtkfinaongajhmaaDoorW.PrintMore
attribute [local go_sem] max2_int min2_int max_two min_two
set_option linter.unusedVariables false
set_option linter.unusedSimpArgs false
/-- what Assemble answers -/
def AsmAns (L : List It) (w : World) (e : Ending) (w' : World) : Prop :=
  (match asmB L with | some b => e = .returned (.tuple #[.string (strOfNums b), .int .i64 0]) | none => e = .returned (.tuple #[.string ⟨#[]⟩, .int .i64 4])) ∧ Below w.heap.size w w'
theorem asm_no {L : List It} {w w' : World} {e : Ending} (h : asmB L = none) (he : e = .returned (.tuple #[.string ⟨#[]⟩, .int .i64 4])) (hb : Below w.heap.size w w') : AsmAns L w e w' := by
  unfold AsmAns
  rw [h]
  exact ⟨he, hb⟩
theorem asm_yes {L : List It} {w w' : World} {e : Ending} {b : List Int} (h : asmB L = some b) (he : e = .returned (.tuple #[.string (strOfNums b), .int .i64 0])) (hb : Below w.heap.size w w') : AsmAns L w e w' := by
  unfold AsmAns
  rw [h]
  exact ⟨he, hb⟩
theorem wf64 {n : Int} (h : -9223372036854775808 ≤ n ∧ n ≤ 9223372036854775807) : (Lit.int .i64 n).wf = true := by
  have h1 : IntKind.i64.min = -9223372036854775808 := by decide
  have h2 : IntKind.i64.max = 9223372036854775807 := by decide
  unfold Lit.wf
  simp [h1, h2]
  exact h
theorem strsize {l : List Int} (h : ∀ b ∈ l, 0 ≤ b ∧ b < 256) : (strOfNums l).size = l.length := by rw [← Go.Ob.bl_length, Go.Ob.bl_num l h]
theorem bytes_cat (x y : List Int) : Lib.byteCells (strOfNums (x ++ y)).data.toList = Lib.byteCells (strOfNums x).data.toList ++ Lib.strCells (strOfNums y) := by
  rw [Lib.strCells_eq, ← Lib.byteCells_append]
  congr 1
  simp [strOfNums]
theorem keyed3 : Keyed Tryd.prog 3 := int_keyed Tryd.underlying3
theorem zero3 (w : World) : (zeroValue 3).run Tryd.prog w = .ok (.int .i64 0) w := by kernel_rfl
/-- the places, a row of one's own -/
def Plc (L : List It) (w : World) (g cp : Nat) (wr : World) : Prop := wr.ownsRow w.heap.size 3 1 (.slice (some ⟨g, 0, none⟩) (L.length + 1) cp) (L.length + 1) (ps L L.length)
set_option maxHeartbeats 16000000 in
set_option maxRecDepth 100000 in
theorem AsmBad (L : List It) (A : Option Addr) (cap : Nat) (w : World) (ht : Tab w) (hL : L.length ≤ 1000) (hi : Its w A L) (hok : okL L = false) :
    Calls Tryd.prog 28 #[.slice A L.length cap] w (AsmAns L w) := by
  have hA : asmB L = none := by unfold asmB; rw [hok]; rfl
  have HA := Aside0.mk hA
  have HP := Aside0.mk (Places L A cap w ht hL hi)
  have HO := Aside0.mk hok
  clear ht hi hok hA
  go_enter Tryd.func28, Tryd.ntmps28
  go_wp2_with (go_at_call 25; (with_reducible refine HP.out.mono ?_); intro e w1 hp; unfold PlacesAns at hp; rw [HO.out] at hp; obtain ⟨rfl, hb⟩ := hp; have H1 := Aside0.mk hb; clear hb)
  go_ret2
  exact asm_no HA.out rfl H1.out
set_option maxHeartbeats 16000000 in
set_option maxRecDepth 100000 in
theorem AsmOk (L : List It) (A : Option Addr) (cap : Nat) (w : World) (ht : Tab w) (hL : L.length ≤ 1000) (hi : Its w A L) (hok : okL L = true) :
    Calls Tryd.prog 28 #[.slice A L.length cap] w (AsmAns L w) := by
  have HP := Aside0.mk (Places L A cap w ht hL hi)
  have HT := Aside0.mk (And.intro ht hi)
  have HK := Aside0.mk hok
  clear ht hi hok
  have hmm := @run_makeMap Tryd.prog
  go_enter Tryd.func28, Tryd.ntmps28
  go_wp2_with (go_at_call 25; (with_reducible refine HP.out.mono ?_); intro e w1 hp; unfold PlacesAns at hp; rw [HK.out] at hp; obtain ⟨⟨v, rfl, hrow⟩, hb⟩ := hp; obtain ⟨hlen, (⟨hv, h00⟩ | ⟨g, cp, cur, hv, hg, hh, hcn, hcm, hcs, htk⟩)⟩ := id hrow; (focus (first | omega | skip)); subst hv; have H1 := Aside0.mk (And.intro hb (And.intro (show Plc L w g cp w1 from hrow) (And.intro (blk_lt hh) hg))); clear hb hrow hlen hh hg hcn hcm hcs htk)
  go_loopw [29] (fun i wr => ∃ (n : Nat) (D : DataW Unit), i = .int .i64 n ∧ n ≤ L.length ∧ nd L n = true ∧ MapIs D (lk L n) ∧ wr.ownsMap Tryd.prog 3 (plainElem Tryd.prog 3) w1.heap.size n D ∧ Plc L w g cp wr ∧ Below w.heap.size w wr ∧ w1.heap.size < wr.heap.size) (fun i _ => L.length - (intOf i).toNat)
  case atStart => exact ⟨0, .map [], rfl, Nat.zero_le _, rfl, mapIs_empty, World.ownsMap_made _ _ _ _, H1.out.2.1.alloc _, H1.out.1.alloc H1.out.1.size _, by simp⟩
  case round =>
    obtain ⟨n, D, rfl, hn, hnd, hmi, hown, hpl, hbw, hsz⟩ := hrel
    have HW := Aside0.mk hbw
    have HR := Aside0.mk (And.intro hnd (And.intro hmi (And.intro hown hpl)))
    clear hnd hmi hown hpl
    by_cases hlt : n < L.length
    · obtain ⟨hnb, hcs⟩ := HT.out.2.below hbw
      obtain ⟨a, hA, hab, hc⟩ := hcs (by omega)
      subst hA
      obtain ⟨c0, c1, c2, c3, c4, c5, c6, c7, c8⟩ := hc n hlt
      have HX := Aside0.mk (hnb L[n] (List.getElem_mem hlt))
      have HG := Aside0.mk (show L.getD n default = L[n] by rw [List.getD_eq_getElem?_getD, List.getElem?_eq_getElem hlt]; rfl)
      have hu := Tryd.underlying56
      clear hbw hc hcs hnb
      generalize hq : L[n] = t at *
      clear hq
      obtain ⟨⟨o, wd, r, b, i, c, nn⟩, lab, jt⟩ := t
      dsimp only at c0 c1 c2 c3 c4 c5 c6 c7 c8
      by_cases hl : lab = 0
      · subst hl
        go_wp2
        refine ⟨⟨n + 1, D, by simp, hlt, ?_, ?_, (HR.out.2.2.1.alloc _).mono (Nat.le_succ n), HR.out.2.2.2.alloc _, HW.out.alloc HW.out.size _, by simp; omega⟩, by simp [intOf]; omega⟩
        · unfold nd
          rw [HR.out.1, HG.out]
          rfl
        · refine HR.out.2.1.same fun x => ?_
          show (if (L.getD n default).lab = x ∧ x ≠ 0 ∧ lk L n x = none then some (pos L n) else lk L n x) = lk L n x
          rw [HG.out, if_neg]
          rintro ⟨h1, h2, -⟩
          exact h2 h1.symm
      · have e1 : (lab == 0) = false := beq_eq_false_iff_ne.mpr hl
        have hkey : keyOf Tryd.prog 3 (.int .i64 lab) = some (.int .i64 lab) := keyOf_int_mk Tryd.underlying3 (wf64 HX.out.2.1)
        have hhas := (HR.out.2.1.2 lab).1
        cases hk : lk L n lab with
        | some pv =>
          rw [hk] at hhas
          have HH := Aside0.mk (show has D (.int .i64 lab) = true from hhas)
          have hno : asmB L = none := by
            have h1 : nd L (n + 1) = false := by
              unfold nd
              rw [HG.out]
              simp [hk, hl]
            have h2 : nd L L.length = false := by
              rw [Bool.eq_false_iff]
              intro h
              have := nd_le (show n + 1 ≤ L.length from hlt) h
              rw [h1] at this
              cases this
            unfold asmB
            rw [h2]
            simp
          have HN := Aside0.mk hno
          clear hno hhas hk
          go_wp2_with (at_lookup; refine wpList_lookup_own_ok_int _ rfl _ _ 92 rfl 3 3 .i64 keyed3 Tryd.underlying92 Tryd.underlying3 (zero3 _) w1.heap.size n D rfl (HR.out.2.2.1.alloc _) _ _ rfl hkey ?_; intro cv hat hwc; rw [HH.out])
          go_ret2
          exact asm_no HN.out rfl (HW.out.alloc HW.out.size _)
        | none =>
          rw [hk] at hhas
          have HH := Aside0.mk (show has D (.int .i64 lab) = false from hhas)
          have HK2 := Aside0.mk hk
          clear hhas hk
          go_upto_region 12 with (at_lookup; refine wpList_lookup_own_ok_int _ rfl _ _ 92 rfl 3 3 .i64 keyed3 Tryd.underlying92 Tryd.underlying3 (zero3 _) w1.heap.size n D rfl (HR.out.2.2.1.alloc _) _ _ rfl hkey ?_; intro cv hat hwc; rw [HH.out])
          generalize hW4 : wr.alloc _ = W4
          obtain ⟨kX, kB⟩ := new_of hW4
          have o4 : Plc L w g cp W4 := by rw [← hW4]; exact HR.out.2.2.2.alloc _
          have m4 : W4.ownsMap Tryd.prog 3 (plainElem Tryd.prog 3) w1.heap.size n D := by rw [← hW4]; exact HR.out.2.2.1.alloc _
          have b4 : Below w.heap.size w W4 := HW.out.trans (kB.mono HW.out.size)
          have s4 : W4.heap.size = wr.heap.size + 1 := by rw [← hW4]; simp
          have cN := o4.cellAt n (by omega)
          rw [ps_at L L.length n hn] at cN
          have x7 := blk_cell kX 7
          simp at x7
          have H4 := Aside0.mk (And.intro o4 (And.intro m4 (And.intro b4 s4)))
          clear hW4 kX kB o4 m4 b4 s4 c0 c1 c2 c3 c4 c5 c6 c7 c8
          have hkey2 := Aside0.mk hkey
          have HPb := Aside0.mk (show -9223372036854775808 ≤ pos L n ∧ pos L n ≤ 9223372036854775807 by have := pos_bd L n; omega)
          clear hkey
          have j0 : (0 : Int) ≤ (n : Int) := by omega
          have j1 : (n : Int) < (L.length : Int) + 1 := by omega
          have j2 : (n : Int) < ((L.length + 1 : Nat) : Int) := by omega
          have j3 : n < L.length + 1 := by omega
          refine wp_region_still_tail 7 (by kernel_rfl) (by kernel_rfl) ?_
          simp only [List.take_succ_cons, List.take_zero, List.drop_succ_cons, List.drop_zero]
          repeat still_step
          try refine wpStill_nil ?_
          refine wpList_mapUpdate_own _ rfl _ _ _ 92 rfl 3 3 keyed3 Tryd.underlying92 _ w1.heap.size n D rfl H4.out.2.1.drew (by unfold maxLen; omega) _ _ _ rfl rfl hkey2.out (.lit (.int .i64 (pos L n))) [] (plainElem_int Tryd.underlying3 (wf64 HPb.out)) ?_
          intro w5 hown5 hgrow5
          have H5 := Aside0.mk (And.intro hown5 hgrow5)
          clear hown5 hgrow5
          go_wp2
          obtain ⟨o4, m4, b4, s4⟩ := H4.out
          have z5 : W4.heap.size ≤ w5.heap.size := H5.out.2.size
          refine ⟨⟨n + 1, _, by simp, hlt, ?_, ?_, H5.out.1, (show Plc L w g cp W4.drew from o4).kept H5.out.2 (.inr (by show some g ≠ some w1.heap.size; have := H1.out.2.2.1; intro c; injection c; omega)), (below_drew b4).grown H5.out.2 (by exact b4.size) (fun k hk => by cases hk; exact H1.out.1.size), by omega⟩, by simp [intOf]; omega⟩
          · unfold nd
            rw [HR.out.1, HG.out]
            simp [HK2.out]
          · refine (HR.out.2.1.put lab (pos L n)).same fun x => ?_
            show (if (L.getD n default).lab = x ∧ x ≠ 0 ∧ lk L n x = none then some (pos L n) else lk L n x) = _
            rw [HG.out]
            by_cases e : x = lab
            · subst e
              rw [if_pos ⟨rfl, hl, HK2.out⟩, if_pos rfl]
            · rw [if_neg (fun c => e c.1.symm), if_neg e]
    · obtain rfl : n = L.length := by omega
      clear hbw
      obtain ⟨wo, rfl⟩ : ∃ wo : World, wo = wr := ⟨_, rfl⟩
      have HR1 := HR.out.1
      have HRN := Aside0.mk HR1
      clear HR1
      go_wp2
      go_loopw [55] (fun i wr => ∃ (n : Nat) (bs : List Int), i = .int .i64 n ∧ n ≤ L.length ∧ itemsB L n = some bs ∧ Lib.IsBuilder 84 5 wo.heap.size wo.heap.size (Lib.byteCells (strOfNums bs).data.toList) wr ∧ Below wo.heap.size wo wr) (fun i _ => L.length - (intOf i).toNat)
      case atStart => exact ⟨0, [], rfl, Nat.zero_le _, rfl, Lib.fresh_isBuilder 84 5 wo, (Below.refl _ wo).alloc (Nat.le_refl _) _⟩
      case round =>
        obtain ⟨n, bs, rfl, hn2, hbs, hB, hbo⟩ := hrel
        have HBS := Aside0.mk hbs
        have HB := Aside0.mk hB
        have HBO := Aside0.mk hbo
        have HWr := Aside0.mk (HW.out.trans (hbo.mono HW.out.size))
        clear hbs hB
        by_cases hlt : n < L.length
        · obtain ⟨hnb, hcs⟩ := HT.out.2.below HWr.out
          obtain ⟨a, hA, hab, hc⟩ := hcs (by omega)
          subst hA
          obtain ⟨c0, c1, c2, c3, c4, c5, c6, c7, c8⟩ := hc n hlt
          have HX := Aside0.mk (hnb L[n] (List.getElem_mem hlt))
          have HG := Aside0.mk (show L.getD n default = L[n] by rw [List.getD_eq_getElem?_getD, List.getElem?_eq_getElem hlt]; rfl)
          have hsome := List.all_eq_true.mp HK.out L[n] (List.getElem_mem hlt)
          have hlab := lab_of hsome
          have hto := to_of hsome
          have hu := Tryd.underlying56
          clear hbo hc hcs hnb hsome
          generalize hq : L[n] = t at *
          clear hq
          obtain ⟨⟨o, wd, r, b, i, c, nn⟩, lab, jt⟩ := t
          dsimp only at c0 c1 c2 c3 c4 c5 c6 c7 c8 hlab hto
          rcases hlab with rfl | hlab
          · rcases Int.lt_or_eq_of_le hto with hto | rfl
            · have hkey2 := Aside0.mk (show keyOf Tryd.prog 3 (.int .i64 jt) = some (.int .i64 jt) from keyOf_int_mk Tryd.underlying3 (wf64 HX.out.2.2))
              have HM := Aside0.mk (HR.out.2.2.1.kept (grown_of_below HBO.out none) (by simp))
              have hpl := (pw_own_below HR.out.2.2.2 HBO.out)
              have cN := (hpl.alloc (to_ ⟨⟨o, wd, r, b, i, c, nn⟩, 0, jt⟩)).cellAt (n + 1) (by omega)
              rw [ps_at L L.length (n + 1) hlt] at cN
              have hh := (HR.out.2.1.2 jt)
              have hpb := pos_bd L (n + 1)
              clear hpl
              cases hk2 : lk L L.length jt with
              | none =>
                have hib : itemB L n = none := by
                  unfold itemB
                  rw [HG.out]
                  simp [hto, hk2]
                have HH := Aside0.mk (And.intro (show has D (.int .i64 jt) = false by rw [hh.1, hk2]; rfl) trivial)
                have HN := Aside0.mk (asmB_item hlt hib)
                clear hib hh hk2
                go_wp2_with (at_lookup; refine wpList_lookup_own_ok_int _ rfl _ _ 92 rfl 3 3 .i64 keyed3 Tryd.underlying92 Tryd.underlying3 (zero3 _) w1.heap.size L.length D rfl (HM.out.alloc _) _ _ rfl hkey2.out ?_; intro cv hat hwc; rw [HH.out.1])
                go_ret2
                exact asm_no HN.out rfl (HWr.out.alloc HWr.out.size _)
              | some pv =>
                have hpv := lk_bd _ _ _ _ hk2
                have HH := Aside0.mk (And.intro (show has D (.int .i64 jt) = true by rw [hh.1, hk2]; rfl) (hh.2 pv hk2))
                obtain ⟨hpv0, hpv1⟩ := hpv
                obtain ⟨hpb0, hpb1⟩ := hpb
                have hxn : -9223372036854775808 ≤ pv - pos L (n + 1) ∧ pv - pos L (n + 1) ≤ 9223372036854775807 := by omega
                have j0 : (0 : Int) ≤ (n : Int) + 1 := by omega
                have j1 : (n : Int) + 1 < (L.length : Int) + 1 := by omega
                clear hh
                cases hr : right ⟨o, wd, r, b, i, c, pv - pos L (n + 1)⟩ with
                | true =>
                  have hib : itemB L n = some (enc ⟨o, wd, r, b, i, c, pv - pos L (n + 1)⟩) := by
                    unfold itemB
                    rw [HG.out]
                    simp [hto, hk2, hr]
                  have HI := Aside0.mk (itemsB_step HBS.out hib)
                  have hkk := itemsB_ok HBS.out
                  have hs1 := strsize hkk.2
                  have hs2 := strsize (enc_okl hr)
                  have hel := enc_len ⟨o, wd, r, b, i, c, pv - pos L (n + 1)⟩
                  have hlen : (Lib.byteCells (strOfNums bs).data.toList).length + (strOfNums (enc ⟨o, wd, r, b, i, c, pv - pos L (n + 1)⟩)).size ≤ 140737488355328 := by
                    rw [Lib.byteCells_length, hs2]
                    have : (strOfNums bs).data.toList.length = (strOfNums bs).size := by rw [Array.length_toList]; rfl
                    omega
                  have HL := Aside0.mk (And.intro hlen (And.intro hr hxn))
                  clear hkk hk2 hs1 hs2 hel hlen hr hib hxn
                  go_wp2_with (first
                    | (at_lookup; refine wpList_lookup_own_ok_int _ rfl _ _ 92 rfl 3 3 .i64 keyed3 Tryd.underlying92 Tryd.underlying3 (zero3 _) w1.heap.size L.length D rfl (HM.out.alloc _) _ _ rfl hkey2.out ?_; intro cv hat hwc; rw [HH.out.1]; have ecv := HH.out.2; rw [hat] at ecv; injection ecv with ecv; injection ecv with _ ecv; subst ecv; clear hat hwc)
                    | (go_at_call 16; (with_reducible refine (Encode_ok ⟨o, wd, r, b, i, c, _⟩ _ HL.out.2.1 ((HT.out.1.below HWr.out).below (below_alloc (Below.refl _ _) _)) HL.out.2.2).mono ?_); rintro e w2 ⟨rfl, hb2⟩; have H2 := Aside0.mk hb2; clear hb2)
                    | (go_at_call 51; (with_reducible refine (Bld.write wo.heap.size wo.heap.size _ _ _ (builder_below (builder_below HB.out ((Below.refl _ _).alloc (Nat.le_refl _) _)) H2.out) HL.out.1 (Nat.le_trans HBO.out.size (Nat.le_trans (by simp) H2.out.size))).mono ?_); rintro e w3 ⟨rfl, h3, b3⟩; have H3 := Aside0.mk (And.intro h3 b3); clear h3 b3))
                  have B1 : Below wo.heap.size wo w2 := (HBO.out.alloc HBO.out.size _).trans (H2.out.mono (Nat.le_trans HBO.out.size (by simp)))
                  refine ⟨⟨n + 1, _, by simp, hlt, HI.out, ?_, B1.trans H3.out.2⟩, by simp [intOf]; omega⟩
                  rw [bytes_cat]
                  exact Or.inr H3.out.1
                | false =>
                  have hib : itemB L n = none := by
                    unfold itemB
                    rw [HG.out]
                    simp [hto, hk2, hr]
                  have HL := Aside0.mk (And.intro hr hxn)
                  have HN := Aside0.mk (asmB_item hlt hib)
                  clear hr hib hxn hk2
                  go_wp2_with (first | (at_lookup; refine wpList_lookup_own_ok_int _ rfl _ _ 92 rfl 3 3 .i64 keyed3 Tryd.underlying92 Tryd.underlying3 (zero3 _) w1.heap.size L.length D rfl (HM.out.alloc _) _ _ rfl hkey2.out ?_; intro cv hat hwc; rw [HH.out.1]; have ecv := HH.out.2; rw [hat] at ecv; injection ecv with ecv; injection ecv with _ ecv; subst ecv; clear hat hwc) | (go_at_call 16; (with_reducible refine (Encode_no ⟨o, wd, r, b, i, c, _⟩ _ HL.out.1 ((HT.out.1.below HWr.out).below (below_alloc (Below.refl _ _) _)) HL.out.2).mono ?_); rintro e w2 ⟨rfl, hb2⟩; have H2 := Aside0.mk hb2; clear hb2))
                  go_ret2
                  exact asm_no HN.out rfl ((HWr.out.alloc HWr.out.size _).trans (H2.out.mono (Nat.le_trans HWr.out.size (by simp))))
            · have hxn : -9223372036854775808 ≤ nn ∧ nn ≤ 9223372036854775807 := HX.out.1
              cases hr : right ⟨o, wd, r, b, i, c, nn⟩ with
              | true =>
                have hib : itemB L n = some (enc ⟨o, wd, r, b, i, c, nn⟩) := by
                  unfold itemB
                  rw [HG.out]
                  simp [hr]
                have HI := Aside0.mk (itemsB_step HBS.out hib)
                have hk := itemsB_ok HBS.out
                have hs1 := strsize hk.2
                have hs2 := strsize (enc_okl hr)
                have hel := enc_len ⟨o, wd, r, b, i, c, nn⟩
                have hlen : (Lib.byteCells (strOfNums bs).data.toList).length + (strOfNums (enc ⟨o, wd, r, b, i, c, nn⟩)).size ≤ 140737488355328 := by
                  rw [Lib.byteCells_length, hs2]
                  have : (strOfNums bs).data.toList.length = (strOfNums bs).size := by rw [Array.length_toList]; rfl
                  omega
                have HL := Aside0.mk (And.intro hlen (And.intro hr hxn))
                clear hk hs1 hs2 hel hlen hr hib hxn
                go_wp2_with (first
                  | (go_at_call 16; (with_reducible refine (Encode_ok ⟨o, wd, r, b, i, c, nn⟩ _ HL.out.2.1 ((HT.out.1.below HWr.out).below (below_alloc (Below.refl _ _) _)) HL.out.2.2).mono ?_); rintro e w2 ⟨rfl, hb2⟩; have H2 := Aside0.mk hb2; clear hb2)
                  | (go_at_call 51; (with_reducible refine (Bld.write wo.heap.size wo.heap.size _ _ _ (builder_below (builder_below HB.out ((Below.refl _ _).alloc (Nat.le_refl _) _)) H2.out) HL.out.1 (Nat.le_trans HBO.out.size (Nat.le_trans (by simp) H2.out.size))).mono ?_); rintro e w3 ⟨rfl, h3, b3⟩; have H3 := Aside0.mk (And.intro h3 b3); clear h3 b3))
                have B1 : Below wo.heap.size wo w2 := (HBO.out.alloc HBO.out.size _).trans (H2.out.mono (Nat.le_trans HBO.out.size (by simp)))
                refine ⟨⟨n + 1, _, by simp, hlt, HI.out, ?_, B1.trans H3.out.2⟩, by simp [intOf]; omega⟩
                rw [bytes_cat]
                exact Or.inr H3.out.1
              | false =>
                have hib : itemB L n = none := by
                  unfold itemB
                  rw [HG.out]
                  simp [hr]
                have HL := Aside0.mk (And.intro hr hxn)
                have HN := Aside0.mk (asmB_item hlt hib)
                clear hr hib hxn
                go_wp2_with (go_at_call 16; (with_reducible refine (Encode_no ⟨o, wd, r, b, i, c, nn⟩ _ HL.out.1 ((HT.out.1.below HWr.out).below (below_alloc (Below.refl _ _) _)) HL.out.2).mono ?_); rintro e w2 ⟨rfl, hb2⟩; have H2 := Aside0.mk hb2; clear hb2)
                go_ret2
                exact asm_no HN.out rfl ((HWr.out.alloc HWr.out.size _).trans (H2.out.mono (Nat.le_trans HWr.out.size (by simp))))
          · go_wp2
            refine ⟨⟨n + 1, bs ++ [], by simp, hlt, itemsB_step HBS.out ?_, by rw [List.append_nil]; exact builder_below HB.out (below_alloc (Below.refl _ _) _), HBO.out.alloc HBO.out.size _⟩, by simp [intOf]; omega⟩
            unfold itemB
            rw [HG.out]
            simp [hlab]
        · obtain rfl : n = L.length := by omega
          have hfin : asmB L = some bs := by
            unfold asmB
            rw [if_pos ⟨HK.out, HRN.out⟩]
            exact HBS.out
          have HF := Aside0.mk hfin
          clear hfin hbo
          go_wp2_with (go_at_call 52; (with_reducible refine (Bld.told wo.heap.size wo.heap.size _ _ HB.out HBO.out.size).mono ?_); rintro e w2 ⟨rfl, hb2⟩; have H2 := Aside0.mk hb2; clear hb2)
          go_ret2
          exact asm_yes HF.out rfl (HW.out.trans ((HBO.out.trans H2.out).mono HW.out.size))
/-- what the assembler computes -/
theorem Assemble (L : List It) (A : Option Addr) (cap : Nat) (w : World) (ht : Tab w) (hL : L.length ≤ 1000) (hi : Its w A L) :
    Calls Tryd.prog 28 #[.slice A L.length cap] w (AsmAns L w) := by
  cases hok : okL L with
  | false => exact AsmBad L A cap w ht hL hi hok
  | true => exact AsmOk L A cap w ht hL hi hok
end Go.Proofs.YtkfinaongajhmaaDoor.X
