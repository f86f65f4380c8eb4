/- AsmStarts: where instructions begin: the assembler, the readers, the law (AAsm, AExamples, RDecode and AStartsW in one text: a claim has at most 60 files). -/
import Derived.Test.YtkfinaongajhmaaDoorAPlaces
import Derived.Test.YtkfinaongajhmaaDoorAMap
import Derived.Deep.QuietTactic
import Derived.BigQuiet
import Derived.StillTailTactics
import Derived.Test.YtkfinaongajhmaaDoorRGuess2
import Derived.Test.YtkfinaongajhmaaDoorXWays
namespace Go.Proofs.YtkfinaongajhmaaDoor.X
open Go.Ob Go.Ob.Xc Go.RowKit Go.Maps Go.Proofs.YtkfinaongajhmaaDoorW.PrintWords Go.Proofs.YtkfinaongajhmaaDoorW.PrintMore
attribute [local go_sem] max2_int min2_int max_two min_two
set_option linter.unusedVariables false
set_option linter.unusedSimpArgs false
/-- what Assemble answers -/
def AsmAns (L : List It) (w : World) (e : Ending) (w' : World) : Prop :=
  (match asmB L with | some b => e = .returned (.tuple #[.string (strOfNums b), .int .i64 0]) | none => e = .returned (.tuple #[.string ⟨#[]⟩, .int .i64 4])) ∧ Below w.heap.size w w'
theorem asm_no {L : List It} {w w' : World} {e : Ending} (h : asmB L = none) (he : e = .returned (.tuple #[.string ⟨#[]⟩, .int .i64 4])) (hb : Below w.heap.size w w') : AsmAns L w e w' := by
  unfold AsmAns
  rw [h]
  exact ⟨he, hb⟩
theorem asm_yes {L : List It} {w w' : World} {e : Ending} {b : List Int} (h : asmB L = some b) (he : e = .returned (.tuple #[.string (strOfNums b), .int .i64 0])) (hb : Below w.heap.size w w') : AsmAns L w e w' := by
  unfold AsmAns
  rw [h]
  exact ⟨he, hb⟩
theorem wf64 {n : Int} (h : -9223372036854775808 ≤ n ∧ n ≤ 9223372036854775807) : (Lit.int .i64 n).wf = true := by
  have h1 : IntKind.i64.min = -9223372036854775808 := by decide
  have h2 : IntKind.i64.max = 9223372036854775807 := by decide
  unfold Lit.wf
  simp [h1, h2]
  exact h
theorem strsize {l : List Int} (h : ∀ b ∈ l, 0 ≤ b ∧ b < 256) : (strOfNums l).size = l.length := by rw [← Go.Ob.bl_length, Go.Ob.bl_num l h]
theorem bytes_cat (x y : List Int) : Lib.byteCells (strOfNums (x ++ y)).data.toList = Lib.byteCells (strOfNums x).data.toList ++ Lib.strCells (strOfNums y) := by
  rw [Lib.strCells_eq, ← Lib.byteCells_append]
  congr 1
  simp [strOfNums]
theorem keyed3 : Keyed Tryd.prog 3 := int_keyed Tryd.underlying3
theorem zero3 (w : World) : (zeroValue 3).run Tryd.prog w = .ok (.int .i64 0) w := by kernel_rfl
/-- the places, a row of one's own -/
def Plc (L : List It) (w : World) (g cp : Nat) (wr : World) : Prop := wr.ownsRow w.heap.size 3 1 (.slice (some ⟨g, 0, none⟩) (L.length + 1) cp) (L.length + 1) (ps L L.length)
set_option maxHeartbeats 16000000 in
set_option maxRecDepth 100000 in
theorem AsmBad (L : List It) (A : Option Addr) (cap : Nat) (w : World) (ht : Tab w) (hL : L.length ≤ 1000) (hi : Its w A L) (hok : okL L = false) :
    Calls Tryd.prog 28 #[.slice A L.length cap] w (AsmAns L w) := by
  have hA : asmB L = none := by unfold asmB; rw [hok]; rfl
  have HA := Aside0.mk hA
  have HP := Aside0.mk (Places L A cap w ht hL hi)
  have HO := Aside0.mk hok
  clear ht hi hok hA
  go_enter Tryd.func28, Tryd.ntmps28
  go_wp2_with (go_at_call 25; (with_reducible refine HP.out.mono ?_); intro e w1 hp; unfold PlacesAns at hp; rw [HO.out] at hp; obtain ⟨rfl, hb⟩ := hp; have H1 := Aside0.mk hb; clear hb)
  go_ret2
  exact asm_no HA.out rfl H1.out
set_option maxHeartbeats 16000000 in
set_option maxRecDepth 100000 in
theorem AsmOk (L : List It) (A : Option Addr) (cap : Nat) (w : World) (ht : Tab w) (hL : L.length ≤ 1000) (hi : Its w A L) (hok : okL L = true) :
    Calls Tryd.prog 28 #[.slice A L.length cap] w (AsmAns L w) := by
  have HP := Aside0.mk (Places L A cap w ht hL hi)
  have HT := Aside0.mk (And.intro ht hi)
  have HK := Aside0.mk hok
  clear ht hi hok
  have hmm := @run_makeMap Tryd.prog
  go_enter Tryd.func28, Tryd.ntmps28
  go_wp2_with (go_at_call 25; (with_reducible refine HP.out.mono ?_); intro e w1 hp; unfold PlacesAns at hp; rw [HK.out] at hp; obtain ⟨⟨v, rfl, hrow⟩, hb⟩ := hp; obtain ⟨hlen, (⟨hv, h00⟩ | ⟨g, cp, cur, hv, hg, hh, hcn, hcm, hcs, htk⟩)⟩ := id hrow; (focus (first | omega | skip)); subst hv; have H1 := Aside0.mk (And.intro hb (And.intro (show Plc L w g cp w1 from hrow) (And.intro (blk_lt hh) hg))); clear hb hrow hlen hh hg hcn hcm hcs htk)
  go_loopw [29] (fun i wr => ∃ (n : Nat) (D : DataW Unit), i = .int .i64 n ∧ n ≤ L.length ∧ nd L n = true ∧ MapIs D (lk L n) ∧ wr.ownsMap Tryd.prog 3 (plainElem Tryd.prog 3) w1.heap.size n D ∧ Plc L w g cp wr ∧ Below w.heap.size w wr ∧ w1.heap.size < wr.heap.size) (fun i _ => L.length - (intOf i).toNat)
  case atStart => exact ⟨0, .map [], rfl, Nat.zero_le _, rfl, mapIs_empty, World.ownsMap_made _ _ _ _, H1.out.2.1.alloc _, H1.out.1.alloc H1.out.1.size _, by simp⟩
  case round =>
    obtain ⟨n, D, rfl, hn, hnd, hmi, hown, hpl, hbw, hsz⟩ := hrel
    have HW := Aside0.mk hbw
    have HR := Aside0.mk (And.intro hnd (And.intro hmi (And.intro hown hpl)))
    clear hnd hmi hown hpl
    by_cases hlt : n < L.length
    · obtain ⟨hnb, hcs⟩ := HT.out.2.below hbw
      obtain ⟨a, hA, hab, hc⟩ := hcs (by omega)
      subst hA
      obtain ⟨c0, c1, c2, c3, c4, c5, c6, c7, c8⟩ := hc n hlt
      have HX := Aside0.mk (hnb L[n] (List.getElem_mem hlt))
      have HG := Aside0.mk (show L.getD n default = L[n] by rw [List.getD_eq_getElem?_getD, List.getElem?_eq_getElem hlt]; rfl)
      have hu := Tryd.underlying56
      clear hbw hc hcs hnb
      generalize hq : L[n] = t at *
      clear hq
      obtain ⟨⟨o, wd, r, b, i, c, nn⟩, lab, jt⟩ := t
      dsimp only at c0 c1 c2 c3 c4 c5 c6 c7 c8
      by_cases hl : lab = 0
      · subst hl
        go_wp2
        refine ⟨⟨n + 1, D, by simp, hlt, ?_, ?_, (HR.out.2.2.1.alloc _).mono (Nat.le_succ n), HR.out.2.2.2.alloc _, HW.out.alloc HW.out.size _, by simp; omega⟩, by simp [intOf]; omega⟩
        · unfold nd
          rw [HR.out.1, HG.out]
          rfl
        · refine HR.out.2.1.same fun x => ?_
          show (if (L.getD n default).lab = x ∧ x ≠ 0 ∧ lk L n x = none then some (pos L n) else lk L n x) = lk L n x
          rw [HG.out, if_neg]
          rintro ⟨h1, h2, -⟩
          exact h2 h1.symm
      · have e1 : (lab == 0) = false := beq_eq_false_iff_ne.mpr hl
        have hkey : keyOf Tryd.prog 3 (.int .i64 lab) = some (.int .i64 lab) := keyOf_int_mk Tryd.underlying3 (wf64 HX.out.2.1)
        have hhas := (HR.out.2.1.2 lab).1
        cases hk : lk L n lab with
        | some pv =>
          rw [hk] at hhas
          have HH := Aside0.mk (show has D (.int .i64 lab) = true from hhas)
          have hno : asmB L = none := by
            have h1 : nd L (n + 1) = false := by
              unfold nd
              rw [HG.out]
              simp [hk, hl]
            have h2 : nd L L.length = false := by
              rw [Bool.eq_false_iff]
              intro h
              have := nd_le (show n + 1 ≤ L.length from hlt) h
              rw [h1] at this
              cases this
            unfold asmB
            rw [h2]
            simp
          have HN := Aside0.mk hno
          clear hno hhas hk
          go_wp2_with (at_lookup; refine wpList_lookup_own_ok_int _ rfl _ _ 92 rfl 3 3 .i64 keyed3 Tryd.underlying92 Tryd.underlying3 (zero3 _) w1.heap.size n D rfl (HR.out.2.2.1.alloc _) _ _ rfl hkey ?_; intro cv hat hwc; rw [HH.out])
          go_ret2
          exact asm_no HN.out rfl (HW.out.alloc HW.out.size _)
        | none =>
          rw [hk] at hhas
          have HH := Aside0.mk (show has D (.int .i64 lab) = false from hhas)
          have HK2 := Aside0.mk hk
          clear hhas hk
          go_upto_region 12 with (at_lookup; refine wpList_lookup_own_ok_int _ rfl _ _ 92 rfl 3 3 .i64 keyed3 Tryd.underlying92 Tryd.underlying3 (zero3 _) w1.heap.size n D rfl (HR.out.2.2.1.alloc _) _ _ rfl hkey ?_; intro cv hat hwc; rw [HH.out])
          generalize hW4 : wr.alloc _ = W4
          obtain ⟨kX, kB⟩ := new_of hW4
          have o4 : Plc L w g cp W4 := by rw [← hW4]; exact HR.out.2.2.2.alloc _
          have m4 : W4.ownsMap Tryd.prog 3 (plainElem Tryd.prog 3) w1.heap.size n D := by rw [← hW4]; exact HR.out.2.2.1.alloc _
          have b4 : Below w.heap.size w W4 := HW.out.trans (kB.mono HW.out.size)
          have s4 : W4.heap.size = wr.heap.size + 1 := by rw [← hW4]; simp
          have cN := o4.cellAt n (by omega)
          rw [ps_at L L.length n hn] at cN
          have x7 := blk_cell kX 7
          simp at x7
          have H4 := Aside0.mk (And.intro o4 (And.intro m4 (And.intro b4 s4)))
          clear hW4 kX kB o4 m4 b4 s4 c0 c1 c2 c3 c4 c5 c6 c7 c8
          have hkey2 := Aside0.mk hkey
          have HPb := Aside0.mk (show -9223372036854775808 ≤ pos L n ∧ pos L n ≤ 9223372036854775807 by have := pos_bd L n; omega)
          clear hkey
          have j0 : (0 : Int) ≤ (n : Int) := by omega
          have j1 : (n : Int) < (L.length : Int) + 1 := by omega
          have j2 : (n : Int) < ((L.length + 1 : Nat) : Int) := by omega
          have j3 : n < L.length + 1 := by omega
          refine wp_region_still_tail 7 (by kernel_rfl) (by kernel_rfl) ?_
          simp only [List.take_succ_cons, List.take_zero, List.drop_succ_cons, List.drop_zero]
          repeat still_step
          try refine wpStill_nil ?_
          refine wpList_mapUpdate_own _ rfl _ _ _ 92 rfl 3 3 keyed3 Tryd.underlying92 _ w1.heap.size n D rfl H4.out.2.1.drew (by unfold maxLen; omega) _ _ _ rfl rfl hkey2.out (.lit (.int .i64 (pos L n))) [] (plainElem_int Tryd.underlying3 (wf64 HPb.out)) ?_
          intro w5 hown5 hgrow5
          have H5 := Aside0.mk (And.intro hown5 hgrow5)
          clear hown5 hgrow5
          go_wp2
          obtain ⟨o4, m4, b4, s4⟩ := H4.out
          have z5 : W4.heap.size ≤ w5.heap.size := H5.out.2.size
          refine ⟨⟨n + 1, _, by simp, hlt, ?_, ?_, H5.out.1, (show Plc L w g cp W4.drew from o4).kept H5.out.2 (.inr (by show some g ≠ some w1.heap.size; have := H1.out.2.2.1; intro c; injection c; omega)), (below_drew b4).grown H5.out.2 (by exact b4.size) (fun k hk => by cases hk; exact H1.out.1.size), by omega⟩, by simp [intOf]; omega⟩
          · unfold nd
            rw [HR.out.1, HG.out]
            simp [HK2.out]
          · refine (HR.out.2.1.put lab (pos L n)).same fun x => ?_
            show (if (L.getD n default).lab = x ∧ x ≠ 0 ∧ lk L n x = none then some (pos L n) else lk L n x) = _
            rw [HG.out]
            by_cases e : x = lab
            · subst e
              rw [if_pos ⟨rfl, hl, HK2.out⟩, if_pos rfl]
            · rw [if_neg (fun c => e c.1.symm), if_neg e]
    · obtain rfl : n = L.length := by omega
      clear hbw
      obtain ⟨wo, rfl⟩ : ∃ wo : World, wo = wr := ⟨_, rfl⟩
      have HR1 := HR.out.1
      have HRN := Aside0.mk HR1
      clear HR1
      go_wp2
      go_loopw [55] (fun i wr => ∃ (n : Nat) (bs : List Int), i = .int .i64 n ∧ n ≤ L.length ∧ itemsB L n = some bs ∧ Lib.IsBuilder 84 5 wo.heap.size wo.heap.size (Lib.byteCells (strOfNums bs).data.toList) wr ∧ Below wo.heap.size wo wr) (fun i _ => L.length - (intOf i).toNat)
      case atStart => exact ⟨0, [], rfl, Nat.zero_le _, rfl, Lib.fresh_isBuilder 84 5 wo, (Below.refl _ wo).alloc (Nat.le_refl _) _⟩
      case round =>
        obtain ⟨n, bs, rfl, hn2, hbs, hB, hbo⟩ := hrel
        have HBS := Aside0.mk hbs
        have HB := Aside0.mk hB
        have HBO := Aside0.mk hbo
        have HWr := Aside0.mk (HW.out.trans (hbo.mono HW.out.size))
        clear hbs hB
        by_cases hlt : n < L.length
        · obtain ⟨hnb, hcs⟩ := HT.out.2.below HWr.out
          obtain ⟨a, hA, hab, hc⟩ := hcs (by omega)
          subst hA
          obtain ⟨c0, c1, c2, c3, c4, c5, c6, c7, c8⟩ := hc n hlt
          have HX := Aside0.mk (hnb L[n] (List.getElem_mem hlt))
          have HG := Aside0.mk (show L.getD n default = L[n] by rw [List.getD_eq_getElem?_getD, List.getElem?_eq_getElem hlt]; rfl)
          have hsome := List.all_eq_true.mp HK.out L[n] (List.getElem_mem hlt)
          have hlab := lab_of hsome
          have hto := to_of hsome
          have hu := Tryd.underlying56
          clear hbo hc hcs hnb hsome
          generalize hq : L[n] = t at *
          clear hq
          obtain ⟨⟨o, wd, r, b, i, c, nn⟩, lab, jt⟩ := t
          dsimp only at c0 c1 c2 c3 c4 c5 c6 c7 c8 hlab hto
          rcases hlab with rfl | hlab
          · rcases Int.lt_or_eq_of_le hto with hto | rfl
            · have hkey2 := Aside0.mk (show keyOf Tryd.prog 3 (.int .i64 jt) = some (.int .i64 jt) from keyOf_int_mk Tryd.underlying3 (wf64 HX.out.2.2))
              have HM := Aside0.mk (HR.out.2.2.1.kept (grown_of_below HBO.out none) (by simp))
              have hpl := (pw_own_below HR.out.2.2.2 HBO.out)
              have cN := (hpl.alloc (to_ ⟨⟨o, wd, r, b, i, c, nn⟩, 0, jt⟩)).cellAt (n + 1) (by omega)
              rw [ps_at L L.length (n + 1) hlt] at cN
              have hh := (HR.out.2.1.2 jt)
              have hpb := pos_bd L (n + 1)
              clear hpl
              cases hk2 : lk L L.length jt with
              | none =>
                have hib : itemB L n = none := by
                  unfold itemB
                  rw [HG.out]
                  simp [hto, hk2]
                have HH := Aside0.mk (And.intro (show has D (.int .i64 jt) = false by rw [hh.1, hk2]; rfl) trivial)
                have HN := Aside0.mk (asmB_item hlt hib)
                clear hib hh hk2
                go_wp2_with (at_lookup; refine wpList_lookup_own_ok_int _ rfl _ _ 92 rfl 3 3 .i64 keyed3 Tryd.underlying92 Tryd.underlying3 (zero3 _) w1.heap.size L.length D rfl (HM.out.alloc _) _ _ rfl hkey2.out ?_; intro cv hat hwc; rw [HH.out.1])
                go_ret2
                exact asm_no HN.out rfl (HWr.out.alloc HWr.out.size _)
              | some pv =>
                have hpv := lk_bd _ _ _ _ hk2
                have HH := Aside0.mk (And.intro (show has D (.int .i64 jt) = true by rw [hh.1, hk2]; rfl) (hh.2 pv hk2))
                obtain ⟨hpv0, hpv1⟩ := hpv
                obtain ⟨hpb0, hpb1⟩ := hpb
                have hxn : -9223372036854775808 ≤ pv - pos L (n + 1) ∧ pv - pos L (n + 1) ≤ 9223372036854775807 := by omega
                have j0 : (0 : Int) ≤ (n : Int) + 1 := by omega
                have j1 : (n : Int) + 1 < (L.length : Int) + 1 := by omega
                clear hh
                cases hr : right ⟨o, wd, r, b, i, c, pv - pos L (n + 1)⟩ with
                | true =>
                  have hib : itemB L n = some (enc ⟨o, wd, r, b, i, c, pv - pos L (n + 1)⟩) := by
                    unfold itemB
                    rw [HG.out]
                    simp [hto, hk2, hr]
                  have HI := Aside0.mk (itemsB_step HBS.out hib)
                  have hkk := itemsB_ok HBS.out
                  have hs1 := strsize hkk.2
                  have hs2 := strsize (enc_okl hr)
                  have hel := enc_len ⟨o, wd, r, b, i, c, pv - pos L (n + 1)⟩
                  have hlen : (Lib.byteCells (strOfNums bs).data.toList).length + (strOfNums (enc ⟨o, wd, r, b, i, c, pv - pos L (n + 1)⟩)).size ≤ 140737488355328 := by
                    rw [Lib.byteCells_length, hs2]
                    have : (strOfNums bs).data.toList.length = (strOfNums bs).size := by rw [Array.length_toList]; rfl
                    omega
                  have HL := Aside0.mk (And.intro hlen (And.intro hr hxn))
                  clear hkk hk2 hs1 hs2 hel hlen hr hib hxn
                  go_wp2_with (first
                    | (at_lookup; refine wpList_lookup_own_ok_int _ rfl _ _ 92 rfl 3 3 .i64 keyed3 Tryd.underlying92 Tryd.underlying3 (zero3 _) w1.heap.size L.length D rfl (HM.out.alloc _) _ _ rfl hkey2.out ?_; intro cv hat hwc; rw [HH.out.1]; have ecv := HH.out.2; rw [hat] at ecv; injection ecv with ecv; injection ecv with _ ecv; subst ecv; clear hat hwc)
                    | (go_at_call 16; (with_reducible refine (Encode_ok ⟨o, wd, r, b, i, c, _⟩ _ HL.out.2.1 ((HT.out.1.below HWr.out).below (below_alloc (Below.refl _ _) _)) HL.out.2.2).mono ?_); rintro e w2 ⟨rfl, hb2⟩; have H2 := Aside0.mk hb2; clear hb2)
                    | (go_at_call 51; (with_reducible refine (Bld.write wo.heap.size wo.heap.size _ _ _ (builder_below (builder_below HB.out ((Below.refl _ _).alloc (Nat.le_refl _) _)) H2.out) HL.out.1 (Nat.le_trans HBO.out.size (Nat.le_trans (by simp) H2.out.size))).mono ?_); rintro e w3 ⟨rfl, h3, b3⟩; have H3 := Aside0.mk (And.intro h3 b3); clear h3 b3))
                  have B1 : Below wo.heap.size wo w2 := (HBO.out.alloc HBO.out.size _).trans (H2.out.mono (Nat.le_trans HBO.out.size (by simp)))
                  refine ⟨⟨n + 1, _, by simp, hlt, HI.out, ?_, B1.trans H3.out.2⟩, by simp [intOf]; omega⟩
                  rw [bytes_cat]
                  exact Or.inr H3.out.1
                | false =>
                  have hib : itemB L n = none := by
                    unfold itemB
                    rw [HG.out]
                    simp [hto, hk2, hr]
                  have HL := Aside0.mk (And.intro hr hxn)
                  have HN := Aside0.mk (asmB_item hlt hib)
                  clear hr hib hxn hk2
                  go_wp2_with (first | (at_lookup; refine wpList_lookup_own_ok_int _ rfl _ _ 92 rfl 3 3 .i64 keyed3 Tryd.underlying92 Tryd.underlying3 (zero3 _) w1.heap.size L.length D rfl (HM.out.alloc _) _ _ rfl hkey2.out ?_; intro cv hat hwc; rw [HH.out.1]; have ecv := HH.out.2; rw [hat] at ecv; injection ecv with ecv; injection ecv with _ ecv; subst ecv; clear hat hwc) | (go_at_call 16; (with_reducible refine (Encode_no ⟨o, wd, r, b, i, c, _⟩ _ HL.out.1 ((HT.out.1.below HWr.out).below (below_alloc (Below.refl _ _) _)) HL.out.2).mono ?_); rintro e w2 ⟨rfl, hb2⟩; have H2 := Aside0.mk hb2; clear hb2))
                  go_ret2
                  exact asm_no HN.out rfl ((HWr.out.alloc HWr.out.size _).trans (H2.out.mono (Nat.le_trans HWr.out.size (by simp))))
            · have hxn : -9223372036854775808 ≤ nn ∧ nn ≤ 9223372036854775807 := HX.out.1
              cases hr : right ⟨o, wd, r, b, i, c, nn⟩ with
              | true =>
                have hib : itemB L n = some (enc ⟨o, wd, r, b, i, c, nn⟩) := by
                  unfold itemB
                  rw [HG.out]
                  simp [hr]
                have HI := Aside0.mk (itemsB_step HBS.out hib)
                have hk := itemsB_ok HBS.out
                have hs1 := strsize hk.2
                have hs2 := strsize (enc_okl hr)
                have hel := enc_len ⟨o, wd, r, b, i, c, nn⟩
                have hlen : (Lib.byteCells (strOfNums bs).data.toList).length + (strOfNums (enc ⟨o, wd, r, b, i, c, nn⟩)).size ≤ 140737488355328 := by
                  rw [Lib.byteCells_length, hs2]
                  have : (strOfNums bs).data.toList.length = (strOfNums bs).size := by rw [Array.length_toList]; rfl
                  omega
                have HL := Aside0.mk (And.intro hlen (And.intro hr hxn))
                clear hk hs1 hs2 hel hlen hr hib hxn
                go_wp2_with (first
                  | (go_at_call 16; (with_reducible refine (Encode_ok ⟨o, wd, r, b, i, c, nn⟩ _ HL.out.2.1 ((HT.out.1.below HWr.out).below (below_alloc (Below.refl _ _) _)) HL.out.2.2).mono ?_); rintro e w2 ⟨rfl, hb2⟩; have H2 := Aside0.mk hb2; clear hb2)
                  | (go_at_call 51; (with_reducible refine (Bld.write wo.heap.size wo.heap.size _ _ _ (builder_below (builder_below HB.out ((Below.refl _ _).alloc (Nat.le_refl _) _)) H2.out) HL.out.1 (Nat.le_trans HBO.out.size (Nat.le_trans (by simp) H2.out.size))).mono ?_); rintro e w3 ⟨rfl, h3, b3⟩; have H3 := Aside0.mk (And.intro h3 b3); clear h3 b3))
                have B1 : Below wo.heap.size wo w2 := (HBO.out.alloc HBO.out.size _).trans (H2.out.mono (Nat.le_trans HBO.out.size (by simp)))
                refine ⟨⟨n + 1, _, by simp, hlt, HI.out, ?_, B1.trans H3.out.2⟩, by simp [intOf]; omega⟩
                rw [bytes_cat]
                exact Or.inr H3.out.1
              | false =>
                have hib : itemB L n = none := by
                  unfold itemB
                  rw [HG.out]
                  simp [hr]
                have HL := Aside0.mk (And.intro hr hxn)
                have HN := Aside0.mk (asmB_item hlt hib)
                clear hr hib hxn
                go_wp2_with (go_at_call 16; (with_reducible refine (Encode_no ⟨o, wd, r, b, i, c, nn⟩ _ HL.out.1 ((HT.out.1.below HWr.out).below (below_alloc (Below.refl _ _) _)) HL.out.2).mono ?_); rintro e w2 ⟨rfl, hb2⟩; have H2 := Aside0.mk hb2; clear hb2)
                go_ret2
                exact asm_no HN.out rfl ((HWr.out.alloc HWr.out.size _).trans (H2.out.mono (Nat.le_trans HWr.out.size (by simp))))
          · go_wp2
            refine ⟨⟨n + 1, bs ++ [], by simp, hlt, itemsB_step HBS.out ?_, by rw [List.append_nil]; exact builder_below HB.out (below_alloc (Below.refl _ _) _), HBO.out.alloc HBO.out.size _⟩, by simp [intOf]; omega⟩
            unfold itemB
            rw [HG.out]
            simp [hlab]
        · obtain rfl : n = L.length := by omega
          have hfin : asmB L = some bs := by
            unfold asmB
            rw [if_pos ⟨HK.out, HRN.out⟩]
            exact HBS.out
          have HF := Aside0.mk hfin
          clear hfin hbo
          go_wp2_with (go_at_call 52; (with_reducible refine (Bld.told wo.heap.size wo.heap.size _ _ HB.out HBO.out.size).mono ?_); rintro e w2 ⟨rfl, hb2⟩; have H2 := Aside0.mk hb2; clear hb2)
          go_ret2
          exact asm_yes HF.out rfl (HW.out.trans ((HBO.out.trans H2.out).mono HW.out.size))
/-- what the assembler computes -/
theorem Assemble (L : List It) (A : Option Addr) (cap : Nat) (w : World) (ht : Tab w) (hL : L.length ≤ 1000) (hi : Its w A L) :
    Calls Tryd.prog 28 #[.slice A L.length cap] w (AsmAns L w) := by
  cases hok : okL L with
  | false => exact AsmBad L A cap w ht hL hi hok
  | true => exact AsmOk L A cap w ht hL hi hok
end Go.Proofs.YtkfinaongajhmaaDoor.X
namespace Go.Ob.Xc
/-- where instructions begin, from the k-th byte on -/
def startsF : Nat → List Int → Nat → List Int → Option (List Int)
  | 0, _, _, _ => none
  | f + 1, l, k, acc => if l.length ≤ k then some acc else
    match dec (l.drop k) with
    | none => none
    | some (_, m) => startsF f l (k + m) (acc ++ [(k : Int)])
def starts (l : List Int) : Option (List Int) := startsF (l.length + 1) l 0 []
end Go.Ob.Xc
namespace Go.Proofs.YtkfinaongajhmaaDoor.X
open Go.Ob Go.Ob.Xc Go.RowKit Go.Proofs.YtkfinaongajhmaaDoorW.PrintWords Go.Proofs.YtkfinaongajhmaaDoorW.PrintMore
attribute [local go_sem] max2_int min2_int max_two min_two
set_option linter.unusedVariables false
set_option linter.unusedSimpArgs false
theorem dec_two (s : ByteArray) : (dec (bl s) = none ∧ decA (bl s) = .tuple #[xv ⟨0, false, 0, 0, 0, 0, 0⟩, .int .i64 0, .int .i64 6]) ∨
    ∃ (y : XI) (k : Nat), dec (bl s) = some (y, k) ∧ decA (bl s) = .tuple #[xv y, .int .i64 k, .int .i64 0] ∧ 1 ≤ k ∧ k ≤ 10 ∧ k ≤ s.size := by
  cases h : dec (bl s) with
  | none => exact .inl ⟨rfl, by unfold decA; rw [h]⟩
  | some p =>
    obtain ⟨y, k⟩ := p
    obtain ⟨hr, hp, hk⟩ := dec_some h
    obtain ⟨s1, s2, -⟩ := sizes hr
    have := hp.length_le
    rw [bl_length] at this
    exact .inr ⟨y, k, rfl, by unfold decA; rw [h], by omega, by omega, by omega⟩
/-- what Starts answers -/
def StartsAns (l : List Int) (w : World) (e : Ending) (w' : World) : Prop :=
  (match starts l with
   | some acc => ∃ v : Value, e = .returned (.tuple #[v, .int .i64 0]) ∧ w'.ownsRow w.heap.size 3 1 v acc.length (acc.map (Value.int .i64))
   | none => e = .returned (.tuple #[.slice none 0 0, .int .i64 6])) ∧ Below w.heap.size w w'
theorem starts_no {l : List Int} {w w' : World} {e : Ending} (h : starts l = none) (he : e = .returned (.tuple #[.slice none 0 0, .int .i64 6])) (hb : Below w.heap.size w w') : StartsAns l w e w' := by
  unfold StartsAns
  rw [h]
  exact ⟨he, hb⟩
theorem starts_yes {l acc : List Int} {w w' : World} {e : Ending} {v : Value} (h : starts l = some acc) (he : e = .returned (.tuple #[v, .int .i64 0])) (ho : w'.ownsRow w.heap.size 3 1 v acc.length (acc.map (Value.int .i64))) (hb : Below w.heap.size w w') : StartsAns l w e w' := by
  unfold StartsAns
  rw [h]
  exact ⟨⟨v, he, ho⟩, hb⟩
set_option maxHeartbeats 16000000 in
set_option maxRecDepth 100000 in
theorem Starts (s : ByteArray) (w : World) (ht : Tab w) (hs : s.size ≤ 17592186040320) : Calls Tryd.prog 30 #[.string s] w (StartsAns (bl s) w) := by
  obtain ⟨i0, hi0, hz0, hz1, hz2⟩ := info_parts info_int
  have HT := Aside0.mk ht
  clear ht
  go_enter Tryd.func30, Tryd.ntmps30
  go_wp2
  go_loopw [4, 5] (fun v i wr => ∃ (k f : Nat) (acc : List Int), i = .int .i64 k ∧ k ≤ s.size ∧ acc.length ≤ k ∧ s.size - k < f ∧ startsF f (bl s) k acc = starts (bl s) ∧ wr.ownsRow w.heap.size 3 1 v acc.length (acc.map (Value.int .i64)) ∧ Below w.heap.size w wr) (fun _ i _ => s.size - (intOf i).toNat)
  case atStart => exact ⟨0, s.size + 1, [], rfl, Nat.zero_le _, Nat.zero_le _, by omega, by unfold starts; rw [bl_length], World.ownsRow_nil _ _ _ _, Below.refl _ _⟩
  case round =>
    obtain ⟨k, f, acc, rfl, hk, hacc, hf, hst, hown, hbw⟩ := hrel
    have HS := Aside0.mk hst
    have HO := Aside0.mk hown
    have HW := Aside0.mk hbw
    clear hst hown hbw
    obtain ⟨f, rfl⟩ : ∃ g, f = g + 1 := ⟨f - 1, by omega⟩
    by_cases hlt : k < s.size
    · have hdr : bl (s.extract k s.size) = (bl s).drop k := by
        rw [bl_extract]
        exact List.take_of_length_le (by rw [List.length_drop, bl_length]; exact Nat.le_refl _)
      have hle : ¬ (bl s).length ≤ k := by rw [bl_length]; omega
      have hsz : (s.extract k s.size).size = s.size - k := by rw [ByteArray.size_extract]; omega
      have hD := fun W (hW : Tab W) => Decode (s.extract k s.size) W hW (by omega)
      rcases dec_two (s.extract k s.size) with ⟨hd, hA⟩ | ⟨y, m, hd, hA, m1, m2, m3⟩
      · rw [hA] at hD
        have HD := Aside0.mk hD
        have HN := Aside0.mk (show starts (bl s) = none by
          rw [← HS.out]
          unfold startsF
          rw [if_neg hle, ← hdr, hd])
        clear hD hd hA hdr hle hsz
        go_wp2_with (go_at_call 20; (with_reducible refine (HD.out _ (HT.out.below HW.out)).mono ?_); rintro e w2 ⟨rfl, hb2⟩; have H2 := Aside0.mk hb2; clear hb2)
        go_ret2
        exact starts_no HN.out rfl (((HW.out.trans (H2.out.mono HW.out.size))).alloc (Nat.le_trans HW.out.size H2.out.size) _)
      · rw [hA] at hD
        rw [hsz] at m3
        have HD := Aside0.mk hD
        have HN := Aside0.mk (show startsF f (bl s) (k + m) (acc ++ [(k : Int)]) = starts (bl s) by
          rw [← HS.out]
          conv => rhs; unfold startsF
          rw [if_neg hle, ← hdr, hd])
        clear hD hd hA hdr hle hsz
        obtain ⟨o, wd, r, b, i, c, nn⟩ := y
        go_wp2_with (first
          | (go_at_call 20; (with_reducible refine (HD.out _ (HT.out.below HW.out)).mono ?_); rintro e w2 ⟨rfl, hb2⟩; have H2 := Aside0.mk hb2; have O2 := Aside0.mk ((pw_own_below HO.out hb2).alloc (.cells #[.int .i64 o, .bool wd, .int .i64 r, .int .i64 b, .int .i64 i, .int .i64 c, .int .i64 nn] 23)); clear hb2)
          | (at_builtin; refine wpList_append_own _ rfl _ _ 44 rfl w.heap.size 3 i0 (.int .i64 0) 1 8 Tryd.underlying44 hi0 hz0 hz1 hz2 rfl (by decide) _ _ _ rfl (O2.out.alloc _) ⟨_, 0, none⟩ 1 1 [.int .i64 (k : Int)] rfl rfl ?c1 ?c2 ?c3 ?c4 ?c5 ?_))
        case c1 =>
          have h := one_cell (w2.alloc (.cells #[.int .i64 o, .bool wd, .int .i64 r, .int .i64 b, .int .i64 i, .int .i64 c, .int .i64 nn] 23)) (.int .i64 (k : Int)) 3
          rw [World.size_alloc] at h
          exact h
        case c2 => intro u hu; simp at hu; subst hu; rfl
        case c3 => unfold maxLen; omega
        case c4 => omega
        case c5 => exact Nat.le_trans HW.out.size (Nat.le_trans H2.out.size (by simp <;> omega))
        intro v' w3 hown3 hgrow _
        have H3 := Aside0.mk (And.intro hown3 hgrow)
        have B2 : Below w.heap.size w w2 := HW.out.trans (H2.out.mono HW.out.size)
        have HB2 := Aside0.mk B2
        clear hown3 hgrow B2
        go_wp2
        have B3 : Below w.heap.size w w3 := ((HB2.out.alloc HB2.out.size _).alloc (Nat.le_trans HB2.out.size (by simp <;> omega)) _).grown H3.out.2 (Nat.le_trans HB2.out.size (by simp <;> omega)) (fun q hq => (HO.out.lt q hq).1)
        refine ⟨⟨k + m, f, acc ++ [(k : Int)], by simp, by omega, by simp; omega, by omega, HN.out, ?_, B3⟩, by simp [intOf]; omega⟩
        rw [List.map_append, List.length_append]
        exact H3.out.1
    · obtain rfl : k = s.size := by omega
      have HN := Aside0.mk (show starts (bl s) = some acc by
        rw [← HS.out]
        unfold startsF
        rw [if_pos (by rw [bl_length]; exact Nat.le_refl _)])
      go_wp2
      go_ret2
      exact starts_yes HN.out rfl HO.out HW.out
end Go.Proofs.YtkfinaongajhmaaDoor.X
/- Two lists of numbers that are the same: what the law's comparison answers. -/
namespace Go.Proofs.YtkfinaongajhmaaDoor.X
open Go.Ob Go.Ob.Xc Go.RowKit Go.Proofs.YtkfinaongajhmaaDoorW.PrintWords Go.Proofs.YtkfinaongajhmaaDoorW.PrintMore
attribute [local go_sem] max2_int min2_int max_two min_two
set_option linter.unusedVariables false
set_option linter.unusedSimpArgs false
/-- a row of one's own, as a list of numbers -/
theorem reads_of_own {w : World} {base n : Nat} {v : Value} {xs : List Int} (h : w.ownsRow base 3 1 v n (xs.map (Value.int .i64))) (hn : n ≤ 9223372036854775807) : ∃ (A : Option Addr) (cap : Nat), v = .slice A n cap ∧ ReadsInt w .i64 A n xs := by
  obtain ⟨hlen, hv⟩ := id h
  rw [List.length_map, Nat.mul_one] at hlen
  rcases hv with ⟨rfl, rfl⟩ | ⟨g, cap, cur, rfl, hg, hh, hcn, hcm, hcs, htk⟩
  · exact ⟨none, 0, rfl, hlen, hn, fun c => absurd c (by omega)⟩
  · refine ⟨some ⟨g, 0, none⟩, cap, rfl, hlen, hn, fun _ => ⟨_, rfl, fun j hj => ?_⟩⟩
    have hc := h.cellAt j (by omega)
    rw [List.getElem?_map, List.getElem?_eq_getElem (by omega)] at hc
    rw [List.getD_eq_getElem?_getD, List.getElem?_eq_getElem (by omega)]
    rcases j with _ | j <;> simpa [Addr.add] using hc
set_option maxHeartbeats 16000000 in
set_option maxRecDepth 100000 in
theorem Numbers (xs : List Int) (A B : Option Addr) (n c1 c2 : Nat) (w : World) (hA : ReadsInt w .i64 A n xs) (hB : ReadsInt w .i64 B n xs) :
    Calls Tryd.prog 27 #[.slice A n c1, .slice B n c2] w fun e w' => e = .returned (.bool true) ∧ Below w.heap.size w w' := by
  have HA := Aside0.mk hA
  have HB := Aside0.mk hB
  obtain ⟨_, hm, _⟩ := hA
  clear hB
  go_enter Tryd.func27, Tryd.ntmps27
  go_wp2
  go_loopw [5] (fun i wr => ∃ k m : Nat, i = .int .i64 k ∧ k ≤ n ∧ wr = w.drewN m) (fun i _ => n - (intOf i).toNat)
  case atStart => exact ⟨0, 0, rfl, Nat.zero_le _, rfl⟩
  case round =>
    obtain ⟨k, m, rfl, hk, rfl⟩ := hrel
    by_cases hlt : k < n
    · obtain ⟨_, _, h1⟩ := HA.out.drewN m
      obtain ⟨_, _, h2⟩ := HB.out.drewN m
      obtain ⟨a, rfl, ha⟩ := h1 (by omega)
      obtain ⟨b, rfl, hb⟩ := h2 (by omega)
      have ca := ha k hlt
      have cb := hb k hlt
      clear h1 h2 ha hb
      generalize hx : xs.getD k 0 = x at *
      clear hx
      generalize hW : w.drewN m = W at *
      have j0 : (0 : Int) ≤ (k : Int) := by omega
      have j1 : (k : Int) < (n : Int) := by omega
      go_upto_region 6 with fail
      refine wp_region_still_lit (by kernel_rfl) (by kernel_rfl) ?_
      repeat still_step
      refine wpStill_nil ?_
      go_wp2
      refine ⟨⟨k + 1, m + 1, by simp, hlt, ?_⟩, by simp [intOf]; omega⟩
      rw [← hW]
      rfl
    · obtain rfl : k = n := by omega
      go_wp2
      go_ret
      exact ⟨rfl, pw_below_drewN (Below.refl _ _) _⟩
end Go.Proofs.YtkfinaongajhmaaDoor.X
/- The examples of chapter 13: what the law's examples compute. -/
namespace Go.Ob.Xc
set_option maxRecDepth 100000
def exL1 : List It := [⟨xz, 1, 0⟩, ⟨⟨20, false, 0, 0, 0, 0, 0⟩, 0, 0⟩, ⟨⟨17, false, 0, 0, 0, 0, 0⟩, 0, 1⟩]
def exL2 : List It := [⟨⟨17, false, 0, 0, 0, 0, 0⟩, 0, 2⟩]
theorem exA1 : asmB exL1 = some [195, 233, 250, 255, 255, 255] := by decide +kernel
theorem exA2 : asmB exL2 = none := by decide +kernel
end Go.Ob.Xc
namespace Go.Proofs.YtkfinaongajhmaaDoor.X
open Go.Ob Go.Ob.Xc Go.RowKit Go.Proofs.YtkfinaongajhmaaDoorW.PrintWords Go.Proofs.YtkfinaongajhmaaDoorW.PrintMore
attribute [local go_sem] max2_int min2_int max_two min_two
set_option linter.unusedVariables false
set_option linter.unusedSimpArgs false
theorem exS : starts (bl ⟨#[195, 233, 250, 255, 255, 255]⟩) = some [0, 1] := by
  have d0 : dec (bl ⟨#[195, 233, 250, 255, 255, 255]⟩) = some (⟨20, false, 0, 0, 0, 0, 0⟩, 1) := by
    have e : bl ⟨#[195, 233, 250, 255, 255, 255]⟩ = enc ⟨20, false, 0, 0, 0, 0, 0⟩ ++ [233, 250, 255, 255, 255] := by decide +kernel
    rw [e, dec_enc _ _ (by decide) (by decide)]
    rfl
  have d1 : dec ((bl ⟨#[195, 233, 250, 255, 255, 255]⟩).drop 1) = some (⟨17, false, 0, 0, 0, 0, -6⟩, 5) := by
    have e : (bl ⟨#[195, 233, 250, 255, 255, 255]⟩).drop 1 = enc ⟨17, false, 0, 0, 0, 0, -6⟩ ++ [] := by decide +kernel
    rw [e, dec_enc _ _ (by decide) (by decide)]
    rfl
  have hl : (bl ⟨#[195, 233, 250, 255, 255, 255]⟩).length = 6 := by decide +kernel
  unfold starts
  rw [hl]
  unfold startsF
  rw [if_neg (by rw [hl]; decide), List.drop_zero, d0]
  dsimp only
  unfold startsF
  rw [if_neg (by rw [hl]; decide), d1]
  dsimp only
  unfold startsF
  rw [if_pos (by rw [hl]; decide)]
  rfl
theorem its1 {W : World} {g : Nat} (h : W.heap[g]? = some (.cells #[.int .i64 0, .bool false, .int .i64 0, .int .i64 0, .int .i64 0, .int .i64 0, .int .i64 0, .int .i64 1, .int .i64 0, .int .i64 20, .bool false, .int .i64 0, .int .i64 0, .int .i64 0, .int .i64 0, .int .i64 0, .int .i64 0, .int .i64 0, .int .i64 17, .bool false, .int .i64 0, .int .i64 0, .int .i64 0, .int .i64 0, .int .i64 0, .int .i64 0, .int .i64 1] 56 (0, 0))) : Its W (some ⟨g, 0, none⟩) exL1 := by
  refine ⟨fun t ht => ?_, fun _ => ⟨_, rfl, blk_lt h, fun i hi => ?_⟩⟩
  · simp only [exL1, List.mem_cons, List.not_mem_nil, or_false] at ht
    rcases ht with rfl | rfl | rfl
    all_goals exact ⟨by unfold NB; decide, by decide, by decide⟩
  · have hi2 : i = 0 ∨ i = 1 ∨ i = 2 := by have : exL1.length = 3 := rfl; omega
    have c := fun k => blk_cell h k
    rcases hi2 with rfl | rfl | rfl
    · exact ⟨c 0, c 1, c 2, c 3, c 4, c 5, c 6, c 7, c 8⟩
    · exact ⟨c 9, c 10, c 11, c 12, c 13, c 14, c 15, c 16, c 17⟩
    · exact ⟨c 18, c 19, c 20, c 21, c 22, c 23, c 24, c 25, c 26⟩
theorem its2 {W : World} {g : Nat} (h : W.heap[g]? = some (.cells #[.int .i64 17, .bool false, .int .i64 0, .int .i64 0, .int .i64 0, .int .i64 0, .int .i64 0, .int .i64 0, .int .i64 2] 56 (0, 0))) : Its W (some ⟨g, 0, none⟩) exL2 := by
  refine ⟨fun t ht => ?_, fun _ => ⟨_, rfl, blk_lt h, fun i hi => ?_⟩⟩
  · simp only [exL2, List.mem_cons, List.not_mem_nil, or_false] at ht
    subst ht
    exact ⟨by unfold NB; decide, by decide, by decide⟩
  · have hi2 : i = 0 := by have : exL2.length = 1 := rfl; omega
    have c := fun k => blk_cell h k
    subst hi2
    exact ⟨c 0, c 1, c 2, c 3, c 4, c 5, c 6, c 7, c 8⟩
theorem asm1 (W : World) (g : Nat) (ht : Tab W) (h : W.heap[g]? = some (.cells #[.int .i64 0, .bool false, .int .i64 0, .int .i64 0, .int .i64 0, .int .i64 0, .int .i64 0, .int .i64 1, .int .i64 0, .int .i64 20, .bool false, .int .i64 0, .int .i64 0, .int .i64 0, .int .i64 0, .int .i64 0, .int .i64 0, .int .i64 0, .int .i64 17, .bool false, .int .i64 0, .int .i64 0, .int .i64 0, .int .i64 0, .int .i64 0, .int .i64 0, .int .i64 1] 56 (0, 0))) :
    Calls Tryd.prog 28 #[.slice (some ⟨g, 0, none⟩) 3 3] W fun e w' => e = .returned (.tuple #[.string ⟨#[195, 233, 250, 255, 255, 255]⟩, .int .i64 0]) ∧ Below W.heap.size W w' := by
  have h1 : Calls Tryd.prog 28 #[.slice (some ⟨g, 0, none⟩) 3 3] W (AsmAns exL1 W) := Assemble exL1 (some ⟨g, 0, none⟩) 3 W ht (by decide) (its1 h)
  refine h1.mono fun e w' ha => ?_
  unfold AsmAns at ha
  rw [exA1] at ha
  exact ⟨ha.1, ha.2⟩
theorem asm2 (W : World) (g : Nat) (ht : Tab W) (h : W.heap[g]? = some (.cells #[.int .i64 17, .bool false, .int .i64 0, .int .i64 0, .int .i64 0, .int .i64 0, .int .i64 0, .int .i64 0, .int .i64 2] 56 (0, 0))) :
    Calls Tryd.prog 28 #[.slice (some ⟨g, 0, none⟩) 1 1] W fun e w' => e = .returned (.tuple #[.string ⟨#[]⟩, .int .i64 4]) ∧ Below W.heap.size W w' := by
  have h1 : Calls Tryd.prog 28 #[.slice (some ⟨g, 0, none⟩) 1 1] W (AsmAns exL2 W) := Assemble exL2 (some ⟨g, 0, none⟩) 1 W ht (by decide) (its2 h)
  refine h1.mono fun e w' ha => ?_
  unfold AsmAns at ha
  rw [exA2] at ha
  exact ⟨ha.1, ha.2⟩
theorem starts1 (W : World) (ht : Tab W) : Calls Tryd.prog 30 #[.string ⟨#[195, 233, 250, 255, 255, 255]⟩] W fun e w' => ∃ (A : Option Addr) (cap : Nat), e = .returned (.tuple #[.slice A 2 cap, .int .i64 0]) ∧ ReadsInt w' .i64 A 2 [0, 1] ∧ Below W.heap.size W w' := by
  refine (Starts _ W ht (by decide)).mono fun e w' h => ?_
  unfold StartsAns at h
  rw [exS] at h
  obtain ⟨⟨v, rfl, ho⟩, hb⟩ := h
  obtain ⟨A, cap, rfl, hr⟩ := reads_of_own ho (by decide)
  exact ⟨A, cap, rfl, hr, hb⟩
set_option maxHeartbeats 16000000 in
set_option maxRecDepth 100000 in
theorem AExamples (w : World) (ht : Tab w) : Calls Tryd.prog 24 #[] w fun e w' => e = .returned (.bool true) ∧ Below w.heap.size w w' := by
  have HT := Aside0.mk ht
  have H0 := Aside0.mk (blk_new w (.cells #[.int .i64 0, .bool false, .int .i64 0, .int .i64 0, .int .i64 0, .int .i64 0, .int .i64 0, .int .i64 1, .int .i64 0, .int .i64 20, .bool false, .int .i64 0, .int .i64 0, .int .i64 0, .int .i64 0, .int .i64 0, .int .i64 0, .int .i64 0, .int .i64 17, .bool false, .int .i64 0, .int .i64 0, .int .i64 0, .int .i64 0, .int .i64 0, .int .i64 0, .int .i64 1] 56))
  have H00 := Aside0.mk (fun W : World => blk_new W (.cells #[.int .i64 17, .bool false, .int .i64 0, .int .i64 0, .int .i64 0, .int .i64 0, .int .i64 0, .int .i64 0, .int .i64 2] 56))
  have HN2 := Aside0.mk (fun W : World => (show ReadsInt (W.alloc (.cells #[.int .i64 0, .int .i64 1] 3)) .i64 (some ⟨W.heap.size, 0, none⟩) 2 [0, 1] from reads_new W [0, 1] 2 rfl (by decide)))
  clear ht
  go_enter Tryd.func24, Tryd.ntmps24
  go_upto_region 2 with (go_at_call 28; (with_reducible refine (asm1 _ _ (HT.out.below (below_alloc (Below.refl _ _) _)) H0.out).mono ?_); rintro e w1 ⟨rfl, hb⟩; have H1 := Aside0.mk ((below_alloc (Below.refl w.heap.size w) _).trans (hb.mono (by simp))); clear hb)
  go_upto_region 3 with (go_at_call 30; (with_reducible refine (starts1 _ (HT.out.below H1.out)).mono ?_); rintro e w2 ⟨A, cap, rfl, hr, hb⟩; have H2 := Aside0.mk (And.intro (H1.out.trans (hb.mono H1.out.size)) hr); clear hb hr)
  go_upto_region 4 with (go_at_call 27; (with_reducible refine (Numbers [0, 1] _ _ _ _ _ _ (H2.out.2.below (below_alloc (Below.refl _ _) _)) (HN2.out w2)).mono ?_); rintro e w3 ⟨rfl, hb⟩; have H3 := Aside0.mk ((below_alloc H2.out.1 _).trans (hb.mono (Nat.le_trans H2.out.1.size (by simp)))); clear hb)
  go_wp2_with (go_at_call 28; (with_reducible refine (asm2 _ _ (HT.out.below (below_alloc H3.out _)) (H00.out _)).mono ?_); rintro e w4 ⟨rfl, hb⟩; have H4 := Aside0.mk ((below_alloc H3.out _).trans (hb.mono (Nat.le_trans H3.out.size (by simp)))); clear hb)
  go_ret
  exact ⟨rfl, H4.out⟩
end Go.Proofs.YtkfinaongajhmaaDoor.X
namespace Go.Ob.Xc
set_option linter.unusedVariables false
set_option linter.unusedSimpArgs false
/-- bytes -/
def Byt (l : List Int) : Prop := ∀ j, 0 ≤ at0 l j ∧ at0 l j < 256
theorem Byt.drop {l : List Int} (h : Byt l) (k : Nat) : Byt (l.drop k) := by
  intro j
  have := h (k + j)
  unfold at0 at this ⊢
  rw [List.getD_eq_getElem?_getD, List.getElem?_drop, ← List.getD_eq_getElem?_getD]
  exact this
theorem Byt.tail {l : List Int} (h : Byt l) : Byt l.tail := by
  rw [← List.drop_one]
  exact h.drop 1
theorem Byt.s4 {l : List Int} (h : Byt l) (k : Nat) : -9223372036854775808 ≤ sg4 l k ∧ sg4 l k ≤ 9223372036854775807 := by
  have h0 := h k
  have h1 := h (k + 1)
  have h2 := h (k + 2)
  have h3 := h (k + 3)
  unfold sg4 num4
  split <;> omega
theorem Byt.s8 {l : List Int} (h : Byt l) (k : Nat) : -9223372036854775808 ≤ sg8 l k ∧ sg8 l k ≤ 9223372036854775807 := by
  have h0 := h k
  have h1 := h (k + 1)
  have h2 := h (k + 2)
  have h3 := h (k + 3)
  have h4 := h (k + 4)
  have h5 := h (k + 4 + 1)
  have h6 := h (k + 4 + 2)
  have h7 := h (k + 4 + 3)
  unfold sg8 num8 num4
  split <;> omega
end Go.Ob.Xc
namespace Go.Proofs.YtkfinaongajhmaaDoor.X
open Go.Ob Go.Ob.Xc Go.RowKit Go.Proofs.YtkfinaongajhmaaDoorW.PrintWords Go.Proofs.YtkfinaongajhmaaDoorW.PrintMore
attribute [local go_sem] max2_int min2_int max_two min_two
set_option linter.unusedVariables false
set_option linter.unusedSimpArgs false
theorem byt_bl (s : ByteArray) : Byt (bl s) := fun j => at0_bd s j
def NP (p : XI × Bool) : Prop := NB p.1
theorem np_ite {c : Prop} [Decidable c] {p q : XI × Bool} (hp : NP p) (hq : NP q) : NP (if c then p else q) := by split <;> assumption
theorem np_z (o : Int) (w : Bool) (r b i c : Int) (ok : Bool) : NP (⟨o, w, r, b, i, c, 0⟩, ok) := by
  show (-9223372036854775808 : Int) ≤ 0 ∧ (0 : Int) ≤ 9223372036854775807
  decide
theorem np_no (w : Bool) : NP (gno w) := np_z _ _ _ _ _ _ _
theorem np_4 {l : List Int} (h : Byt l) (k : Nat) (o : Int) (w : Bool) (r b i c : Int) (ok : Bool) : NP (⟨o, w, r, b, i, c, sg4 l k⟩, ok) := by unfold NP NB; exact h.s4 k
theorem np_8 {l : List Int} (h : Byt l) (k : Nat) (o : Int) (w : Bool) (r b i c : Int) (ok : Bool) : NP (⟨o, w, r, b, i, c, sg8 l k⟩, ok) := by unfold NP NB; exact h.s8 k
theorem gfar_n {t : List Int} (h : Byt t) (w : Bool) (op r m : Int) : NP (gfar w op t r m) := by
  unfold gfar
  repeat' (first | with_reducible exact np_no _ | with_reducible exact np_z _ _ _ _ _ _ _ | with_reducible exact np_4 h _ _ _ _ _ _ _ _ | with_reducible refine np_ite ?_ ?_)
theorem gone_n {t : List Int} (h : Byt t) (w : Bool) (op i base md r m : Int) : NP (gone w op t i base md r m) := by
  unfold gone
  repeat' (first | with_reducible exact np_no _ | with_reducible exact np_z _ _ _ _ _ _ _ | with_reducible exact np_4 h _ _ _ _ _ _ _ _ | with_reducible exact np_8 h _ _ _ _ _ _ _ _ | with_reducible refine np_ite ?_ ?_)
theorem gbody_n {t : List Int} (h : Byt t) (w : Bool) (r i m : Int) : NP (gbody t w r i m) := by
  unfold gbody
  refine np_ite (np_no _) (np_ite (np_ite (np_no _) (gfar_n (h.drop 2) _ _ _ _)) (gone_n (h.drop 1) _ _ _ _ _ _ _))
theorem gcand_n {l : List Int} (h : Byt l) : NP (gcand l) := by
  unfold gcand
  exact np_ite (gbody_n h.tail _ _ _ _) (gbody_n h _ _ _ _)
/-- what the reference's reader answers -/
def rdecA (l : List Int) : Value := match dec l with
  | some (x, k) => .tuple #[xv x, .int .i64 k, .bool true]
  | none => .tuple #[xv ⟨0, false, 0, 0, 0, 0, 0⟩, .int .i64 0, .bool false]
theorem dec_gcand {s : ByteArray} {x : XI} {k : Nat} (h : dec (bl s) = some (x, k)) : gcand (bl s) = (x, true) := by
  obtain ⟨h1, ⟨r, h2⟩, h3⟩ := dec_some h
  have hn : NB x := by
    have := cand_n s
    unfold dec at h
    split at h
    · simp only [Option.some.injEq, Prod.mk.injEq] at h
      rw [h.1] at this
      exact this
    · cases h
  rw [← h2, gcand_enc x r h1 hn]
theorem rdec_cases (s : ByteArray) (x : XI) (ok : Bool) (hx : gcand (bl s) = (x, ok)) :
    (ok = false ∧ rdecA (bl s) = .tuple #[xv ⟨0, false, 0, 0, 0, 0, 0⟩, .int .i64 0, .bool false]) ∨
    (ok = true ∧ right x = false ∧ rdecA (bl s) = .tuple #[xv ⟨0, false, 0, 0, 0, 0, 0⟩, .int .i64 0, .bool false]) ∨
    (ok = true ∧ right x = true ∧ NB x ∧ ¬ enc x <+: bl s ∧ rdecA (bl s) = .tuple #[xv ⟨0, false, 0, 0, 0, 0, 0⟩, .int .i64 0, .bool false]) ∨
    (ok = true ∧ right x = true ∧ NB x ∧ enc x <+: bl s ∧ rdecA (bl s) = .tuple #[xv x, .int .i64 (enc x).length, .bool true]) := by
  have hnb : NB x := by
    have := gcand_n (byt_bl s)
    rw [hx] at this
    exact this
  have no : dec (bl s) = none → rdecA (bl s) = .tuple #[xv ⟨0, false, 0, 0, 0, 0, 0⟩, .int .i64 0, .bool false] := fun h => by unfold rdecA; rw [h]
  have key : ∀ y k, dec (bl s) = some (y, k) → y = x ∧ ok = true := fun y k h => by
    have := dec_gcand h
    rw [hx] at this
    simp only [Prod.mk.injEq] at this
    exact ⟨this.1.symm, this.2⟩
  cases ok with
  | false =>
    refine .inl ⟨rfl, no ?_⟩
    cases hd : dec (bl s) with
    | none => rfl
    | some p => obtain ⟨y, k⟩ := p; cases (key y k hd).2
  | true =>
    refine .inr ?_
    by_cases hr : right x = true
    · by_cases hp : enc x <+: bl s
      · refine .inr (.inr ⟨rfl, hr, hnb, hp, ?_⟩)
        obtain ⟨r, h2⟩ := hp
        unfold rdecA
        rw [← h2, dec_enc x r hr hnb]
      · refine .inr (.inl ⟨rfl, hr, hnb, hp, no ?_⟩)
        cases hd : dec (bl s) with
        | none => rfl
        | some p =>
          obtain ⟨y, k⟩ := p
          obtain ⟨e1, -⟩ := key y k hd
          exact absurd (e1 ▸ (dec_some hd).2.1) hp
    · refine .inl ⟨rfl, by simpa using hr, no ?_⟩
      cases hd : dec (bl s) with
      | none => rfl
      | some p =>
        obtain ⟨y, k⟩ := p
        obtain ⟨e1, -⟩ := key y k hd
        exact absurd (e1 ▸ (dec_some hd).1) hr
set_option maxHeartbeats 16000000 in
set_option maxRecDepth 100000 in
theorem RDecode (s : ByteArray) (w : World) (hs : s.size ≤ 281474976710656) :
    Calls Tryd.prog 21 #[.string s] w fun e w' => e = .returned (rdecA (bl s)) ∧ Below w.heap.size w w' := by
  obtain ⟨G, hG⟩ : ∃ G : XI × Bool, gcand (bl s) = G := ⟨_, rfl⟩
  have hg := fun W => RGuess1 s W hs
  rw [hG] at hg
  obtain ⟨x, ok⟩ := G
  dsimp only at hg
  have HG := Aside0.mk hg
  have hc := rdec_cases s x ok hG
  clear hg hG
  rcases hc with ⟨rfl, hA⟩ | ⟨rfl, hr, hA⟩ | ⟨rfl, hr, hn, hp, hA⟩ | ⟨rfl, hr, hn, hp, hA⟩
  all_goals
    rw [hA]
    clear hA
  · obtain ⟨o, wd, r, b, i, c, n⟩ := x
    go_enter Tryd.func21, Tryd.ntmps21
    go_upto_if 15 with (go_at_call 50; (with_reducible refine (HG.out _).mono ?_); rintro e w1 ⟨rfl, hb⟩; have H1 := Aside0.mk (And.intro ((below_alloc (Below.refl w.heap.size w) _).trans (hb.mono (by simp))) (blk_below (blk_new w (xo ⟨0, false, 0, 0, 0, 0, 0⟩)) hb)); clear hb)
    obtain ⟨W1, hW1⟩ : ∃ W, w1.alloc (.cells #[.int .i64 o, .bool wd, .int .i64 r, .int .i64 b, .int .i64 i, .int .i64 c, .int .i64 n] 23) = W := ⟨_, rfl⟩
    have X1 := blk_alloc H1.out.2 (.cells #[.int .i64 o, .bool wd, .int .i64 r, .int .i64 b, .int .i64 i, .int .i64 c, .int .i64 n] 23)
    have Y1 := blk_new w1 (.cells #[.int .i64 o, .bool wd, .int .i64 r, .int .i64 b, .int .i64 i, .int .i64 c, .int .i64 n] 23)
    have B1 : Below w.heap.size w W1 := by rw [← hW1]; exact H1.out.1.alloc H1.out.1.size _
    have hne : w.heap.size ≠ w1.heap.size := by have := blk_lt H1.out.2; omega
    rw [hW1] at X1 Y1 ⊢
    clear hW1
    have HW := Aside0.mk (And.intro B1 (And.intro X1 Y1))
    obtain ⟨x0, x1, x2, x3, x4, x5, x6⟩ := cell7 (X1)
    obtain ⟨z0, z1, z2, z3, z4, z5, z6⟩ := froz7 (X1)
    go_wp2
    have hr9 := row7 (X1) (.int .i64 0) (.bool false) (.int .i64 0) (.int .i64 0) (.int .i64 0) (.int .i64 0) (.int .i64 0)
    have hbw := below7 (Nat.le_refl w.heap.size) (B1) (.int .i64 0) (.bool false) (.int .i64 0) (.int .i64 0) (.int .i64 0) (.int .i64 0) (.int .i64 0)
    clear x0 x1 x2 x3 x4 x5 x6 z0 z1 z2 z3 z4 z5 z6
    generalize (((((((W1.setCell ⟨w.heap.size, 0, none⟩ (.int .i64 0)).setCell ⟨w.heap.size, 1, none⟩ (.bool false)).setCell ⟨w.heap.size, 2, none⟩ (.int .i64 0)).setCell ⟨w.heap.size, 3, none⟩ (.int .i64 0)).setCell ⟨w.heap.size, 4, none⟩ (.int .i64 0)).setCell ⟨w.heap.size, 5, none⟩ (.int .i64 0)).setCell ⟨w.heap.size, 6, none⟩ (.int .i64 0)) = W9 at hr9 hbw ⊢
    obtain ⟨k0, k1, k2, k3, k4, k5, k6⟩ := cell7 hr9
    exact bodyPost_ret (v := .tuple #[xv ⟨0, false, 0, 0, 0, 0, 0⟩, .int .i64 0, .bool false]) (by simp [results, Tryd.results21, go_sem, *]) rfl ⟨rfl, hbw⟩
  · have HE := Aside0.mk (fun W => REncode_no x W hr)
    obtain ⟨o, wd, r, b, i, c, n⟩ := x
    clear hr
    go_enter Tryd.func21, Tryd.ntmps21
    go_upto_if 15 with (go_at_call 50; (with_reducible refine (HG.out _).mono ?_); rintro e w1 ⟨rfl, hb⟩; have H1 := Aside0.mk (And.intro ((below_alloc (Below.refl w.heap.size w) _).trans (hb.mono (by simp))) (blk_below (blk_new w (xo ⟨0, false, 0, 0, 0, 0, 0⟩)) hb)); clear hb)
    obtain ⟨W1, hW1⟩ : ∃ W, w1.alloc (.cells #[.int .i64 o, .bool wd, .int .i64 r, .int .i64 b, .int .i64 i, .int .i64 c, .int .i64 n] 23) = W := ⟨_, rfl⟩
    have X1 := blk_alloc H1.out.2 (.cells #[.int .i64 o, .bool wd, .int .i64 r, .int .i64 b, .int .i64 i, .int .i64 c, .int .i64 n] 23)
    have Y1 := blk_new w1 (.cells #[.int .i64 o, .bool wd, .int .i64 r, .int .i64 b, .int .i64 i, .int .i64 c, .int .i64 n] 23)
    have B1 : Below w.heap.size w W1 := by rw [← hW1]; exact H1.out.1.alloc H1.out.1.size _
    have hne : w.heap.size ≠ w1.heap.size := by have := blk_lt H1.out.2; omega
    rw [hW1] at X1 Y1 ⊢
    clear hW1
    have HW := Aside0.mk (And.intro B1 (And.intro X1 Y1))
    obtain ⟨y0, y1, y2, y3, y4, y5, y6⟩ := cell7 Y1
    clear X1 Y1 B1
    go_upto_if 38 with (go_at_call 17; (with_reducible refine (HE.out _).mono ?_); rintro e w2 ⟨rfl, hb⟩; have H2 := Aside0.mk (And.intro (HW.out.1.trans (hb.mono HW.out.1.size)) (And.intro (blk_below HW.out.2.1 hb) (blk_below HW.out.2.2 hb))); clear hb)
    clear y0 y1 y2 y3 y4 y5 y6
    obtain ⟨x0, x1, x2, x3, x4, x5, x6⟩ := cell7 (H2.out.2.1)
    obtain ⟨z0, z1, z2, z3, z4, z5, z6⟩ := froz7 (H2.out.2.1)
    go_wp2
    have hr9 := row7 (H2.out.2.1) (.int .i64 0) (.bool false) (.int .i64 0) (.int .i64 0) (.int .i64 0) (.int .i64 0) (.int .i64 0)
    have hbw := below7 (Nat.le_refl w.heap.size) (H2.out.1) (.int .i64 0) (.bool false) (.int .i64 0) (.int .i64 0) (.int .i64 0) (.int .i64 0) (.int .i64 0)
    clear x0 x1 x2 x3 x4 x5 x6 z0 z1 z2 z3 z4 z5 z6
    generalize (((((((w2.setCell ⟨w.heap.size, 0, none⟩ (.int .i64 0)).setCell ⟨w.heap.size, 1, none⟩ (.bool false)).setCell ⟨w.heap.size, 2, none⟩ (.int .i64 0)).setCell ⟨w.heap.size, 3, none⟩ (.int .i64 0)).setCell ⟨w.heap.size, 4, none⟩ (.int .i64 0)).setCell ⟨w.heap.size, 5, none⟩ (.int .i64 0)).setCell ⟨w.heap.size, 6, none⟩ (.int .i64 0)) = W9 at hr9 hbw ⊢
    obtain ⟨k0, k1, k2, k3, k4, k5, k6⟩ := cell7 hr9
    exact bodyPost_ret (v := .tuple #[xv ⟨0, false, 0, 0, 0, 0, 0⟩, .int .i64 0, .bool false]) (by simp [results, Tryd.results21, go_sem, *]) rfl ⟨rfl, hbw⟩
  · skip
    have hT := fun W => REncode_ok x W hr hn
    have hb := bl_num _ (enc_okl hr)
    have hz : (strOfNums (enc x)).size = (enc x).length := by rw [← bl_length, hb]
    obtain ⟨T, hTT⟩ : ∃ T, strOfNums (enc x) = T := ⟨_, rfl⟩
    rw [hTT] at hT hb hz
    clear hTT
    have hs15 := (sizes hr).2.1
    have HE := Aside0.mk hT
    have HT := Aside0.mk hz.symm
    have ht15 : T.size ≤ 10 := by omega
    clear hT
    by_cases hle : T.size ≤ s.size
    · have hne2 : ((s.extract 0 T.size).toList == T.toList) = false := by
        rw [beq_eq_false_iff_ne]
        intro hh
        rw [toList_iff, bl_extract, hb] at hh
        simp only [List.drop_zero, Nat.sub_zero] at hh
        exact hp ⟨(bl s).drop T.size, by rw [← hh]; exact List.take_append_drop _ _⟩
      have hle2 : ¬ (s.size : Int) < (T.size : Int) := by omega
      clear hb hz hp hr hn hs15
      obtain ⟨o, wd, r, b, i, c, n⟩ := x
      go_enter Tryd.func21, Tryd.ntmps21
      go_upto_if 15 with (go_at_call 50; (with_reducible refine (HG.out _).mono ?_); rintro e w1 ⟨rfl, hb⟩; have H1 := Aside0.mk (And.intro ((below_alloc (Below.refl w.heap.size w) _).trans (hb.mono (by simp))) (blk_below (blk_new w (xo ⟨0, false, 0, 0, 0, 0, 0⟩)) hb)); clear hb)
      obtain ⟨W1, hW1⟩ : ∃ W, w1.alloc (.cells #[.int .i64 o, .bool wd, .int .i64 r, .int .i64 b, .int .i64 i, .int .i64 c, .int .i64 n] 23) = W := ⟨_, rfl⟩
      have X1 := blk_alloc H1.out.2 (.cells #[.int .i64 o, .bool wd, .int .i64 r, .int .i64 b, .int .i64 i, .int .i64 c, .int .i64 n] 23)
      have Y1 := blk_new w1 (.cells #[.int .i64 o, .bool wd, .int .i64 r, .int .i64 b, .int .i64 i, .int .i64 c, .int .i64 n] 23)
      have B1 : Below w.heap.size w W1 := by rw [← hW1]; exact H1.out.1.alloc H1.out.1.size _
      have hne : w.heap.size ≠ w1.heap.size := by have := blk_lt H1.out.2; omega
      rw [hW1] at X1 Y1 ⊢
      clear hW1
      have HW := Aside0.mk (And.intro B1 (And.intro X1 Y1))
      obtain ⟨y0, y1, y2, y3, y4, y5, y6⟩ := cell7 Y1
      clear X1 Y1 B1
      go_upto_if 38 with (go_at_call 17; (with_reducible refine (HE.out _).mono ?_); rintro e w2 ⟨rfl, hb⟩; have H2 := Aside0.mk (And.intro (HW.out.1.trans (hb.mono HW.out.1.size)) (And.intro (blk_below HW.out.2.1 hb) (blk_below HW.out.2.2 hb))); clear hb)
      clear y0 y1 y2 y3 y4 y5 y6
      obtain ⟨x0, x1, x2, x3, x4, x5, x6⟩ := cell7 (H2.out.2.1)
      obtain ⟨z0, z1, z2, z3, z4, z5, z6⟩ := froz7 (H2.out.2.1)
      go_wp2
      have hr9 := row7 (H2.out.2.1) (.int .i64 0) (.bool false) (.int .i64 0) (.int .i64 0) (.int .i64 0) (.int .i64 0) (.int .i64 0)
      have hbw := below7 (Nat.le_refl w.heap.size) (H2.out.1) (.int .i64 0) (.bool false) (.int .i64 0) (.int .i64 0) (.int .i64 0) (.int .i64 0) (.int .i64 0)
      clear x0 x1 x2 x3 x4 x5 x6 z0 z1 z2 z3 z4 z5 z6
      generalize (((((((w2.setCell ⟨w.heap.size, 0, none⟩ (.int .i64 0)).setCell ⟨w.heap.size, 1, none⟩ (.bool false)).setCell ⟨w.heap.size, 2, none⟩ (.int .i64 0)).setCell ⟨w.heap.size, 3, none⟩ (.int .i64 0)).setCell ⟨w.heap.size, 4, none⟩ (.int .i64 0)).setCell ⟨w.heap.size, 5, none⟩ (.int .i64 0)).setCell ⟨w.heap.size, 6, none⟩ (.int .i64 0)) = W9 at hr9 hbw ⊢
      obtain ⟨k0, k1, k2, k3, k4, k5, k6⟩ := cell7 hr9
      exact bodyPost_ret (v := .tuple #[xv ⟨0, false, 0, 0, 0, 0, 0⟩, .int .i64 0, .bool false]) (by simp [results, Tryd.results21, go_sem, *]) rfl ⟨rfl, hbw⟩
    · have hle2 : (s.size : Int) < (T.size : Int) := by omega
      clear hb hz hp hr hn hs15
      obtain ⟨o, wd, r, b, i, c, n⟩ := x
      go_enter Tryd.func21, Tryd.ntmps21
      go_upto_if 15 with (go_at_call 50; (with_reducible refine (HG.out _).mono ?_); rintro e w1 ⟨rfl, hb⟩; have H1 := Aside0.mk (And.intro ((below_alloc (Below.refl w.heap.size w) _).trans (hb.mono (by simp))) (blk_below (blk_new w (xo ⟨0, false, 0, 0, 0, 0, 0⟩)) hb)); clear hb)
      obtain ⟨W1, hW1⟩ : ∃ W, w1.alloc (.cells #[.int .i64 o, .bool wd, .int .i64 r, .int .i64 b, .int .i64 i, .int .i64 c, .int .i64 n] 23) = W := ⟨_, rfl⟩
      have X1 := blk_alloc H1.out.2 (.cells #[.int .i64 o, .bool wd, .int .i64 r, .int .i64 b, .int .i64 i, .int .i64 c, .int .i64 n] 23)
      have Y1 := blk_new w1 (.cells #[.int .i64 o, .bool wd, .int .i64 r, .int .i64 b, .int .i64 i, .int .i64 c, .int .i64 n] 23)
      have B1 : Below w.heap.size w W1 := by rw [← hW1]; exact H1.out.1.alloc H1.out.1.size _
      have hne : w.heap.size ≠ w1.heap.size := by have := blk_lt H1.out.2; omega
      rw [hW1] at X1 Y1 ⊢
      clear hW1
      have HW := Aside0.mk (And.intro B1 (And.intro X1 Y1))
      obtain ⟨y0, y1, y2, y3, y4, y5, y6⟩ := cell7 Y1
      clear X1 Y1 B1
      go_upto_if 38 with (go_at_call 17; (with_reducible refine (HE.out _).mono ?_); rintro e w2 ⟨rfl, hb⟩; have H2 := Aside0.mk (And.intro (HW.out.1.trans (hb.mono HW.out.1.size)) (And.intro (blk_below HW.out.2.1 hb) (blk_below HW.out.2.2 hb))); clear hb)
      clear y0 y1 y2 y3 y4 y5 y6
      obtain ⟨x0, x1, x2, x3, x4, x5, x6⟩ := cell7 (H2.out.2.1)
      obtain ⟨z0, z1, z2, z3, z4, z5, z6⟩ := froz7 (H2.out.2.1)
      go_wp2
      have hr9 := row7 (H2.out.2.1) (.int .i64 0) (.bool false) (.int .i64 0) (.int .i64 0) (.int .i64 0) (.int .i64 0) (.int .i64 0)
      have hbw := below7 (Nat.le_refl w.heap.size) (H2.out.1) (.int .i64 0) (.bool false) (.int .i64 0) (.int .i64 0) (.int .i64 0) (.int .i64 0) (.int .i64 0)
      clear x0 x1 x2 x3 x4 x5 x6 z0 z1 z2 z3 z4 z5 z6
      generalize (((((((w2.setCell ⟨w.heap.size, 0, none⟩ (.int .i64 0)).setCell ⟨w.heap.size, 1, none⟩ (.bool false)).setCell ⟨w.heap.size, 2, none⟩ (.int .i64 0)).setCell ⟨w.heap.size, 3, none⟩ (.int .i64 0)).setCell ⟨w.heap.size, 4, none⟩ (.int .i64 0)).setCell ⟨w.heap.size, 5, none⟩ (.int .i64 0)).setCell ⟨w.heap.size, 6, none⟩ (.int .i64 0)) = W9 at hr9 hbw ⊢
      obtain ⟨k0, k1, k2, k3, k4, k5, k6⟩ := cell7 hr9
      exact bodyPost_ret (v := .tuple #[xv ⟨0, false, 0, 0, 0, 0, 0⟩, .int .i64 0, .bool false]) (by simp [results, Tryd.results21, go_sem, *]) rfl ⟨rfl, hbw⟩
  · skip
    have hT := fun W => REncode_ok x W hr hn
    have hb := bl_num _ (enc_okl hr)
    have hz : (strOfNums (enc x)).size = (enc x).length := by rw [← bl_length, hb]
    obtain ⟨T, hTT⟩ : ∃ T, strOfNums (enc x) = T := ⟨_, rfl⟩
    rw [hTT] at hT hb hz
    clear hTT
    have hs15 := (sizes hr).2.1
    have HE := Aside0.mk hT
    have HT := Aside0.mk hz.symm
    have ht15 : T.size ≤ 10 := by omega
    clear hT
    have hle : T.size ≤ s.size := by
      have := hp.length_le
      rw [bl_length] at this
      omega
    have heq : ((s.extract 0 T.size).toList == T.toList) = true := by
      rw [beq_iff_eq, toList_iff, bl_extract, hb]
      simp only [List.drop_zero, Nat.sub_zero]
      obtain ⟨q, hq⟩ := hp
      rw [← hq, hz]
      exact List.take_left
    have hle2 : ¬ (s.size : Int) < (T.size : Int) := by omega
    clear hb hz hp hr hn hs15
    obtain ⟨o, wd, r, b, i, c, n⟩ := x
    go_enter Tryd.func21, Tryd.ntmps21
    go_upto_if 15 with (go_at_call 50; (with_reducible refine (HG.out _).mono ?_); rintro e w1 ⟨rfl, hb⟩; have H1 := Aside0.mk (And.intro ((below_alloc (Below.refl w.heap.size w) _).trans (hb.mono (by simp))) (blk_below (blk_new w (xo ⟨0, false, 0, 0, 0, 0, 0⟩)) hb)); clear hb)
    obtain ⟨W1, hW1⟩ : ∃ W, w1.alloc (.cells #[.int .i64 o, .bool wd, .int .i64 r, .int .i64 b, .int .i64 i, .int .i64 c, .int .i64 n] 23) = W := ⟨_, rfl⟩
    have X1 := blk_alloc H1.out.2 (.cells #[.int .i64 o, .bool wd, .int .i64 r, .int .i64 b, .int .i64 i, .int .i64 c, .int .i64 n] 23)
    have Y1 := blk_new w1 (.cells #[.int .i64 o, .bool wd, .int .i64 r, .int .i64 b, .int .i64 i, .int .i64 c, .int .i64 n] 23)
    have B1 : Below w.heap.size w W1 := by rw [← hW1]; exact H1.out.1.alloc H1.out.1.size _
    have hne : w.heap.size ≠ w1.heap.size := by have := blk_lt H1.out.2; omega
    rw [hW1] at X1 Y1 ⊢
    clear hW1
    have HW := Aside0.mk (And.intro B1 (And.intro X1 Y1))
    obtain ⟨y0, y1, y2, y3, y4, y5, y6⟩ := cell7 Y1
    clear X1 Y1 B1
    go_upto_if 38 with (go_at_call 17; (with_reducible refine (HE.out _).mono ?_); rintro e w2 ⟨rfl, hb⟩; have H2 := Aside0.mk (And.intro (HW.out.1.trans (hb.mono HW.out.1.size)) (And.intro (blk_below HW.out.2.1 hb) (blk_below HW.out.2.2 hb))); clear hb)
    clear y0 y1 y2 y3 y4 y5 y6
    obtain ⟨x0, x1, x2, x3, x4, x5, x6⟩ := cell7 (H2.out.2.1)
    obtain ⟨z0, z1, z2, z3, z4, z5, z6⟩ := froz7 (H2.out.2.1)
    obtain ⟨y0, y1, y2, y3, y4, y5, y6⟩ := cell7 (H2.out.2.2)
    go_wp2
    have hr9 := row7 (H2.out.2.1) (.int .i64 o) (.bool wd) (.int .i64 r) (.int .i64 b) (.int .i64 i) (.int .i64 c) (.int .i64 n)
    have hbw := below7 (Nat.le_refl w.heap.size) (H2.out.1) (.int .i64 o) (.bool wd) (.int .i64 r) (.int .i64 b) (.int .i64 i) (.int .i64 c) (.int .i64 n)
    clear x0 x1 x2 x3 x4 x5 x6 z0 z1 z2 z3 z4 z5 z6
    generalize (((((((w2.setCell ⟨w.heap.size, 0, none⟩ (.int .i64 o)).setCell ⟨w.heap.size, 1, none⟩ (.bool wd)).setCell ⟨w.heap.size, 2, none⟩ (.int .i64 r)).setCell ⟨w.heap.size, 3, none⟩ (.int .i64 b)).setCell ⟨w.heap.size, 4, none⟩ (.int .i64 i)).setCell ⟨w.heap.size, 5, none⟩ (.int .i64 c)).setCell ⟨w.heap.size, 6, none⟩ (.int .i64 n)) = W9 at hr9 hbw ⊢
    obtain ⟨k0, k1, k2, k3, k4, k5, k6⟩ := cell7 hr9
    exact bodyPost_ret (v := .tuple #[xv ⟨o, wd, r, b, i, c, n⟩, .int .i64 T.size, .bool true]) (by simp [results, Tryd.results21, go_sem, *]) rfl ⟨by rw [HT.out], hbw⟩
end Go.Proofs.YtkfinaongajhmaaDoor.X
namespace Go.Proofs.YtkfinaongajhmaaDoor.X
open Go.Ob Go.Ob.Xc Go.RowKit Go.Proofs.YtkfinaongajhmaaDoorW.PrintWords Go.Proofs.YtkfinaongajhmaaDoorW.PrintMore
attribute [local go_sem] max2_int min2_int max_two min_two
set_option linter.unusedVariables false
set_option linter.unusedSimpArgs false
theorem rdec_two (s : ByteArray) : (dec (bl s) = none ∧ rdecA (bl s) = .tuple #[xv ⟨0, false, 0, 0, 0, 0, 0⟩, .int .i64 0, .bool false]) ∨
    ∃ (y : XI) (k : Nat), dec (bl s) = some (y, k) ∧ rdecA (bl s) = .tuple #[xv y, .int .i64 k, .bool true] ∧ 1 ≤ k ∧ k ≤ 10 ∧ k ≤ s.size := by
  rcases dec_two s with ⟨h, -⟩ | ⟨y, k, h, -, h1, h2, h3⟩
  · exact .inl ⟨h, by unfold rdecA; rw [h]⟩
  · exact .inr ⟨y, k, h, by unfold rdecA; rw [h], h1, h2, h3⟩
/-- what the reference's Starts answers -/
def RStartsAns (l : List Int) (w : World) (e : Ending) (w' : World) : Prop :=
  (match starts l with
   | some acc => ∃ v : Value, e = .returned (.tuple #[v, .bool true]) ∧ w'.ownsRow w.heap.size 3 1 v acc.length (acc.map (Value.int .i64))
   | none => e = .returned (.tuple #[.slice none 0 0, .bool false])) ∧ Below w.heap.size w w'
theorem rstarts_no {l : List Int} {w w' : World} {e : Ending} (h : starts l = none) (he : e = .returned (.tuple #[.slice none 0 0, .bool false])) (hb : Below w.heap.size w w') : RStartsAns l w e w' := by
  unfold RStartsAns
  rw [h]
  exact ⟨he, hb⟩
theorem rstarts_yes {l acc : List Int} {w w' : World} {e : Ending} {v : Value} (h : starts l = some acc) (he : e = .returned (.tuple #[v, .bool true])) (ho : w'.ownsRow w.heap.size 3 1 v acc.length (acc.map (Value.int .i64))) (hb : Below w.heap.size w w') : RStartsAns l w e w' := by
  unfold RStartsAns
  rw [h]
  exact ⟨⟨v, he, ho⟩, hb⟩
set_option maxHeartbeats 16000000 in
set_option maxRecDepth 100000 in
theorem RStarts (s : ByteArray) (w : World) (hs : s.size ≤ 17592186040320) : Calls Tryd.prog 31 #[.string s] w (RStartsAns (bl s) w) := by
  obtain ⟨i0, hi0, hz0, hz1, hz2⟩ := info_parts info_int
  go_enter Tryd.func31, Tryd.ntmps31
  go_wp2
  go_loopw [4, 5] (fun v i wr => ∃ (k f : Nat) (acc : List Int), i = .int .i64 k ∧ k ≤ s.size ∧ acc.length ≤ k ∧ s.size - k < f ∧ startsF f (bl s) k acc = starts (bl s) ∧ wr.ownsRow w.heap.size 3 1 v acc.length (acc.map (Value.int .i64)) ∧ Below w.heap.size w wr) (fun _ i _ => s.size - (intOf i).toNat)
  case atStart => exact ⟨0, s.size + 1, [], rfl, Nat.zero_le _, Nat.zero_le _, by omega, by unfold starts; rw [bl_length], World.ownsRow_nil _ _ _ _, Below.refl _ _⟩
  case round =>
    obtain ⟨k, f, acc, rfl, hk, hacc, hf, hst, hown, hbw⟩ := hrel
    have HS := Aside0.mk hst
    have HO := Aside0.mk hown
    have HW := Aside0.mk hbw
    clear hst hown hbw
    obtain ⟨f, rfl⟩ : ∃ g, f = g + 1 := ⟨f - 1, by omega⟩
    by_cases hlt : k < s.size
    · have hdr : bl (s.extract k s.size) = (bl s).drop k := by
        rw [bl_extract]
        exact List.take_of_length_le (by rw [List.length_drop, bl_length]; exact Nat.le_refl _)
      have hle : ¬ (bl s).length ≤ k := by rw [bl_length]; omega
      have hsz : (s.extract k s.size).size = s.size - k := by rw [ByteArray.size_extract]; omega
      have hD := fun W => RDecode (s.extract k s.size) W (by omega)
      rcases rdec_two (s.extract k s.size) with ⟨hd, hA⟩ | ⟨y, m, hd, hA, m1, m2, m3⟩
      · rw [hA] at hD
        have HD := Aside0.mk hD
        have HN := Aside0.mk (show starts (bl s) = none by
          rw [← HS.out]
          unfold startsF
          rw [if_neg hle, ← hdr, hd])
        clear hD hd hA hdr hle hsz
        go_wp2_with (go_at_call 21; (with_reducible refine (HD.out _).mono ?_); rintro e w2 ⟨rfl, hb2⟩; have H2 := Aside0.mk hb2; clear hb2)
        go_ret2
        exact rstarts_no HN.out rfl (((HW.out.trans (H2.out.mono HW.out.size))).alloc (Nat.le_trans HW.out.size H2.out.size) _)
      · rw [hA] at hD
        rw [hsz] at m3
        have HD := Aside0.mk hD
        have HN := Aside0.mk (show startsF f (bl s) (k + m) (acc ++ [(k : Int)]) = starts (bl s) by
          rw [← HS.out]
          conv => rhs; unfold startsF
          rw [if_neg hle, ← hdr, hd])
        clear hD hd hA hdr hle hsz
        obtain ⟨o, wd, r, b, i, c, nn⟩ := y
        go_wp2_with (first
          | (go_at_call 21; (with_reducible refine (HD.out _).mono ?_); rintro e w2 ⟨rfl, hb2⟩; have H2 := Aside0.mk hb2; have O2 := Aside0.mk ((pw_own_below HO.out hb2).alloc (.cells #[.int .i64 o, .bool wd, .int .i64 r, .int .i64 b, .int .i64 i, .int .i64 c, .int .i64 nn] 23)); clear hb2)
          | (at_builtin; refine wpList_append_own _ rfl _ _ 44 rfl w.heap.size 3 i0 (.int .i64 0) 1 8 Tryd.underlying44 hi0 hz0 hz1 hz2 rfl (by decide) _ _ _ rfl (O2.out.alloc _) ⟨_, 0, none⟩ 1 1 [.int .i64 (k : Int)] rfl rfl ?c1 ?c2 ?c3 ?c4 ?c5 ?_))
        case c1 =>
          have h := one_cell (w2.alloc (.cells #[.int .i64 o, .bool wd, .int .i64 r, .int .i64 b, .int .i64 i, .int .i64 c, .int .i64 nn] 23)) (.int .i64 (k : Int)) 3
          rw [World.size_alloc] at h
          exact h
        case c2 => intro u hu; simp at hu; subst hu; rfl
        case c3 => unfold maxLen; omega
        case c4 => omega
        case c5 => exact Nat.le_trans HW.out.size (Nat.le_trans H2.out.size (by simp <;> omega))
        intro v' w3 hown3 hgrow _
        have H3 := Aside0.mk (And.intro hown3 hgrow)
        have B2 : Below w.heap.size w w2 := HW.out.trans (H2.out.mono HW.out.size)
        have HB2 := Aside0.mk B2
        clear hown3 hgrow B2
        go_wp2
        have B3 : Below w.heap.size w w3 := ((HB2.out.alloc HB2.out.size _).alloc (Nat.le_trans HB2.out.size (by simp <;> omega)) _).grown H3.out.2 (Nat.le_trans HB2.out.size (by simp <;> omega)) (fun q hq => (HO.out.lt q hq).1)
        refine ⟨⟨k + m, f, acc ++ [(k : Int)], by simp, by omega, by simp; omega, by omega, HN.out, ?_, B3⟩, by simp [intOf]; omega⟩
        rw [List.map_append, List.length_append]
        exact H3.out.1
    · obtain rfl : k = s.size := by omega
      have HN := Aside0.mk (show starts (bl s) = some acc by
        rw [← HS.out]
        unfold startsF
        rw [if_pos (by rw [bl_length]; exact Nat.le_refl _)])
      go_wp2
      go_ret2
      exact rstarts_yes HN.out rfl HO.out HW.out
theorem startsF_len (l : List Int) : ∀ (f k : Nat) (acc r : List Int), startsF f l k acc = some r → r.length ≤ acc.length + (l.length - k)
  | 0, k, acc, r, h => by cases h
  | f + 1, k, acc, r, h => by
    unfold startsF at h
    split at h
    · simp only [Option.some.injEq] at h
      rw [← h]
      omega
    · rename_i hk
      split at h
      · cases h
      · rename_i y m hd
        have := startsF_len l f (k + m) _ r h
        obtain ⟨h1, _, h3⟩ := dec_some hd
        have := (sizes h1).1
        rw [List.length_append, List.length_singleton] at *
        omega
/-- both answers, of one list -/
theorem starts_both (s : ByteArray) (hs : s.size ≤ 17592186040320) : ∃ (n : Nat) (xs : List Int) (e1 : Int) (ok : Bool), ((e1 = 0 ∧ ok = true) ∨ (e1 = 6 ∧ ok = false)) ∧
    (∀ W, Tab W → Calls Tryd.prog 30 #[.string s] W fun e w' => ∃ (A : Option Addr) (cap : Nat), e = .returned (.tuple #[.slice A n cap, .int .i64 e1]) ∧ ReadsInt w' .i64 A n xs ∧ Below W.heap.size W w') ∧
    (∀ W, Calls Tryd.prog 31 #[.string s] W fun e w' => ∃ (A : Option Addr) (cap : Nat), e = .returned (.tuple #[.slice A n cap, .bool ok]) ∧ ReadsInt w' .i64 A n xs ∧ Below W.heap.size W w') := by
  cases h : starts (bl s) with
  | none =>
    refine ⟨0, [], 6, false, .inr ⟨rfl, rfl⟩, fun W ht => (Starts s W ht hs).mono fun e w' q => ?_, fun W => (RStarts s W hs).mono fun e w' q => ?_⟩
    · unfold StartsAns at q
      rw [h] at q
      exact ⟨none, 0, q.1, ⟨rfl, by decide, fun c => absurd c (by omega)⟩, q.2⟩
    · unfold RStartsAns at q
      rw [h] at q
      exact ⟨none, 0, q.1, ⟨rfl, by decide, fun c => absurd c (by omega)⟩, q.2⟩
  | some acc =>
    have hl : acc.length ≤ s.size := by
      have := startsF_len _ _ _ _ _ h
      rw [bl_length] at this
      simpa using this
    refine ⟨acc.length, acc, 0, true, .inl ⟨rfl, rfl⟩, fun W ht => (Starts s W ht hs).mono fun e w' q => ?_, fun W => (RStarts s W hs).mono fun e w' q => ?_⟩
    · unfold StartsAns at q
      rw [h] at q
      obtain ⟨⟨v, rfl, ho⟩, hb⟩ := q
      obtain ⟨A, cap, rfl, hr⟩ := reads_of_own ho (by omega)
      exact ⟨A, cap, rfl, hr, hb⟩
    · unfold RStartsAns at q
      rw [h] at q
      obtain ⟨⟨v, rfl, ho⟩, hb⟩ := q
      obtain ⟨A, cap, rfl, hr⟩ := reads_of_own ho (by omega)
      exact ⟨A, cap, rfl, hr, hb⟩
set_option maxHeartbeats 16000000 in
set_option maxRecDepth 100000 in
theorem AStarts (s : ByteArray) (w : World) (ht : Tab w) (hs : s.size ≤ 17592186040320) :
    Calls Tryd.prog 11 #[.string s] w fun e w' => e = .returned (.bool true) ∧ Below w.heap.size w w' := by
  obtain ⟨n, xs, e1, ok, hv, hP, hR⟩ := starts_both s hs
  have HP := Aside0.mk hP
  have HR := Aside0.mk hR
  have HE := Aside0.mk (AExamples w ht)
  have HT := Aside0.mk ht
  clear ht hP hR
  rcases hv with ⟨rfl, rfl⟩ | ⟨rfl, rfl⟩
  all_goals
    go_enter Tryd.func11, Tryd.ntmps11
    go_wp2_with (first
      | (go_at_call 24; (with_reducible refine HE.out.mono ?_); rintro e w1 ⟨rfl, hb⟩; have H1 := Aside0.mk hb; clear hb)
      | (go_at_call 30; (with_reducible refine (HP.out _ (HT.out.below H1.out)).mono ?_); rintro e w2 ⟨B, c, rfl, hr, hb⟩; have H2 := Aside0.mk (And.intro (H1.out.trans (hb.mono H1.out.size)) hr); clear hb hr)
      | (go_at_call 31; (with_reducible refine (HR.out _).mono ?_); rintro e w3 ⟨B2, c2, rfl, hr, hb⟩; have H3 := Aside0.mk (And.intro (H2.out.1.trans (hb.mono H2.out.1.size)) (And.intro (H2.out.2.below hb) hr)); clear hb hr)
      | (go_at_call 27; (with_reducible refine (Numbers xs _ _ _ _ _ _ H3.out.2.1 H3.out.2.2).mono ?_); rintro e w4 ⟨rfl, hb⟩; have H4 := Aside0.mk (H3.out.1.trans (hb.mono H3.out.1.size)); clear hb))
    go_ret
    exact ⟨by first | rfl | simp, H4.out⟩
end Go.Proofs.YtkfinaongajhmaaDoor.X
