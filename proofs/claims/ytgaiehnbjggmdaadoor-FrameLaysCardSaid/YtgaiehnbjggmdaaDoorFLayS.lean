/- A program's regions laid, with Start's closure. Printed by genlays.py from FLay's text. -/
import Derived.Test.YtgaiehnbjggmdaaDoorFLay
import Derived.Test.YtgaiehnbjggmdaaDoorFStart1
namespace Go.Proofs.YtgaiehnbjggmdaaDoor.F
open Go.Ob Go.RowKit Go.Proofs.YtgaiehnbjggmdaaDoorW.PrintWords Go.Proofs.YtgaiehnbjggmdaaDoorW.PrintMore
attribute [local go_sem] max2_int min2_int max_two min_two
set_option linter.unusedVariables false
set_option linter.unusedSimpArgs false
set_option maxHeartbeats 8000000 in
set_option maxRecDepth 100000 in
theorem LayS (sg im fn : Value) (m0 m1 : Int) (G A : Option Addr) (gl : List (Int × Int)) (ds : List D3) (ng cg nd cd : Nat) (code : ByteArray) (w : World) (hgl : gl.length = ng) (hng : ng ≤ 1000) (hG : CellsG w G gl) (hds : ds.length = nd) (hnd : nd ≤ 9223372036854775807) (hD : CellsD w A ds)
    (pa pi na ca : Nat) (args : List Int) (P : Option Addr) (v0 v1 v2 v3 v4 v5 v6 v7 v8 : Value) (halt : Int) (hna : args.length = na) (hn4 : na ≤ 4) (hpa : w.heap[pa]? = some (.cells #[.slice P na ca] 43 (0, 0))) (hpi : w.heap[pi]? = some (.cells #[v0, v1, v2, v3, v4, v5, v6, v7, v8, .int .i64 halt] 72 (0, 0)))
    (hr : ReadsInt w .i64 P na args) (hbp : 0 < na → ∀ a, P = some a → a.block < w.heap.size) :
    Calls Tryd.prog 60 #[.agg #[sg, im, fn, .int .i64 m0, .int .i64 m1, .slice G ng cg, .slice A nd cd], .string code, .func (Fn.func 61) #[] #[.pointer (some ⟨pa, 0, none⟩), .pointer (some ⟨pi, 0, none⟩)]] w fun e w' => ∃ v, e = .returned v ∧ w'.ownsRow w.heap.size 33 3 v (regs code (aI (dataL (gl.map (·.2))) args na) (List.replicate 16376 0 ++ bytesOf (wrap64 (1048576 + halt)) 8) m0 m1 ds).length (cl3 (regs code (aI (dataL (gl.map (·.2))) args na) (List.replicate 16376 0 ++ bytesOf (wrap64 (1048576 + halt)) 8) m0 m1 ds)) ∧ Below w.heap.size w w' := by
  obtain ⟨dl, hdl⟩ : ∃ dl, 40 + 8 * ng = dl := ⟨_, rfl⟩
  have HD := Aside0.mk (And.intro hgl (And.intro hG (And.intro hds (And.intro hD hdl))))
  have hm1 := fun W => make_zeros dl (by omega) W
  obtain ⟨Z, hZ⟩ : ∃ Z, List.replicate 16384 (0 : Int) = Z := ⟨_, rfl⟩
  have hm2 := make_stack
  rw [hZ] at hm2
  have HZ := Aside0.mk hZ
  clear hZ
  have hgw : wrap64 (40 + wrap64 (8 * (ng : Int))) = (dl : Int) := by unfold wrap64; omega
  have hGl := fun W => Global (ng : Int) W
  rw [hgw] at hGl
  have HGl := Aside0.mk hGl
  have HA := Aside0.mk (And.intro hna (And.intro hpa (And.intro hpi (And.intro hr hbp))))
  have hlpa := blk_lt hpa
  have hlpi := blk_lt hpi
  clear hgw hGl hgl hG hds hD hdl hna hpa hpi hr hbp
  go_enter Tryd.func60, Tryd.ntmps60
  go_upto_region 1 with fail
  go_cut [7, 8] from 14 to 19 (fun d s wx => ∃ gd gs : Nat, d = .slice (some ⟨gd, 0, none⟩) dl dl ∧ s = .slice (some ⟨gs, 0, none⟩) 16384 16384 ∧ gd ≠ gs ∧ w.heap.size < gd ∧ w.heap.size < gs ∧
    wx.heap[gd]? = some (.cells (nums .u8 (List.replicate dl 0)).toArray 5 (0, 0)) ∧ wx.heap[gs]? = some (.cells (nums .u8 Z).toArray 5 (0, 0)) ∧
    wx.heap[w.heap.size]? = some (.cells #[sg, im, fn, .int .i64 m0, .int .i64 m1, .slice G ng cg, .slice A nd cd] 70 (0, 0)) ∧ Below w.heap.size w wx)
  case first =>
    go_region_with (first
      | (go_at_call 33; (with_reducible refine (HGl.out _).mono ?_); rintro e w1 ⟨rfl, rfl⟩))
    all_goals
      go_wp2
      go_meet
      case rel =>
        first
          | exact ⟨_, _, rfl, rfl, by omega, by omega, by omega, (three w _ _ _).2.1, (three w _ _ _).2.2.1, (three w _ _ _).1, (three w _ _ _).2.2.2⟩
          | exact ⟨_, _, rfl, rfl, by omega, by omega, by omega, (three w _ _ _).2.2.1, (three w _ _ _).2.1, (three w _ _ _).1, (three w _ _ _).2.2.2⟩
  case rest =>
    obtain ⟨gd, gs, rfl, rfl, hne, hgd, hgs, hdr, hsr, hmr, hbw⟩ := hcut
    clear hm1 hm2
    have HC := Aside0.mk (And.intro hdr (And.intro hsr (And.intro hmr hbw)))
    have y4 := blk_cell hmr 5
    simp at y4
    go_wp2
    clear y4 hmr hdr hsr hbw
    go_loopw [23] (fun i wr => ∃ k : Nat, k ≤ ng ∧ i = .int .i64 k ∧ wr.heap[gd]? = some (.cells (nums .u8 (dI (gl.map (·.2)) k)).toArray 5 (0, 0)) ∧ wr.heap[gs]? = some (.cells (nums .u8 Z).toArray 5 (0, 0)) ∧
      wr.heap[w.heap.size]? = some (.cells #[sg, im, fn, .int .i64 m0, .int .i64 m1, .slice G ng cg, .slice A nd cd] 70 (0, 0)) ∧ Below w.heap.size w wr) (fun i _ => ng - (intOf i).toNat)
    case atStart =>
      refine ⟨0, Nat.zero_le _, rfl, ?_, HC.out.2.1, HC.out.2.2.1, HC.out.2.2.2⟩
      rw [dI_zero, List.length_map, HD.out.1, HD.out.2.2.2.2]
      exact HC.out.1
    case round =>
      obtain ⟨k, hk, rfl, hdr, hsr, hmr, hbw⟩ := hrel
      have HR := Aside0.mk (And.intro hdr (And.intro hsr (And.intro hmr hbw)))
      by_cases hlt : k < ng
      · obtain ⟨ad, rfl, hbk, d0, d1⟩ := (HD.out.2.1.below hbw) k (by rw [HD.out.1]; exact hlt)
        have hst := dI_step (gl.map (·.2)) k (by rw [List.length_map, HD.out.1]; exact hlt)
        have hvl : (gl.map (·.2))[k]'(by rw [List.length_map, HD.out.1]; exact hlt) = (gl[k]'(by rw [HD.out.1]; exact hlt)).2 := List.getElem_map _
        rw [hvl] at hst
        generalize gl[k]'(by rw [HD.out.1]; exact hlt) = g at *
        obtain ⟨gt, gv⟩ := g
        dsimp only at d0 d1 hst
        have hGk := fun W => Global (k : Int) W
        rw [gl_wrap k (by omega)] at hGk
        have hP := fun W (h : W.heap[gd]? = some (.cells (nums .u8 (dI (gl.map (·.2)) k)).toArray 5 (0, 0))) => Put gd dl dl (40 + 8 * k) gv (dI (gl.map (·.2)) k) W h (by rw [dI_len _ _ (by rw [List.length_map, HD.out.1]; exact hk), List.length_map, HD.out.1]; exact HD.out.2.2.2.2) (by have := HD.out.2.2.2.2; omega) (by have := HD.out.2.2.2.2; omega)
        rw [hst] at hP
        obtain ⟨K, hK⟩ : ∃ K, 40 + 8 * k = K := ⟨_, rfl⟩
        rw [hK] at hGk hP
        have HGk := Aside0.mk hGk
        have HP := Aside0.mk hP
        have hgl := blk_lt hdr
        clear hGk hP hst hvl hK hdr hsr hmr hbw
        go_upto_region 5 with fail
        go_region_with (first
          | (go_at_call 33; (with_reducible refine (HGk.out _).mono ?_); rintro e w1 ⟨rfl, rfl⟩)
          | (go_at_call 62; (with_reducible refine (HP.out _ (by first | exact blk_alloc HR.out.1 _ | exact blk_drew (blk_alloc HR.out.1 _))).mono ?_); rintro e w2 ⟨rfl, hp⟩; have H2 := Aside0.mk hp; clear hp))
        all_goals
          go_wp2
          refine ⟨⟨k + 1, hlt, by simp, H2.out.row, ?_, ?_, ?_⟩, by simp [intOf]; omega⟩
          · rw [H2.out.other gs (Ne.symm hne)]
            first | exact blk_alloc HR.out.2.1 _ | exact blk_drew (blk_alloc HR.out.2.1 _)
          · rw [H2.out.other w.heap.size (by omega)]
            first | exact blk_alloc HR.out.2.2.1 _ | exact blk_drew (blk_alloc HR.out.2.2.1 _)
          · have hz := HR.out.2.2.2
            first
              | exact (hz.alloc hz.size _).trans (H2.out.below.mono (by omega))
              | exact (below_drew (hz.alloc hz.size _)).trans (H2.out.below.mono (by omega))
      · obtain rfl : k = ng := by omega
        have hall : dI (gl.map (·.2)) k = dataL (gl.map (·.2)) := by
          have := dI_all (gl.map (·.2))
          rw [List.length_map, HD.out.1] at this
          exact this
        rw [hall] at hdr
        have hlen : (dataL (gl.map (·.2))).length = dl := by rw [dataL_len, List.length_map, HD.out.1]; exact HD.out.2.2.2.2
        have hzl : Z.length = 16384 := by rw [← HZ.out, List.length_replicate]
        obtain ⟨DL0, hDL⟩ : ∃ DL, dataL (gl.map (·.2)) = DL := ⟨_, rfl⟩
        rw [hDL] at hlen hdr
        have hMS := MoreS gd gs pa pi dl na ca DL0 Z args P v0 v1 v2 v3 v4 v5 v6 v7 v8 halt wr hlen (by have := HD.out.2.2.2.2; omega) (by have := HD.out.2.2.2.2; omega) hzl HA.out.1 hn4 hdr hsr hne (blk_below HA.out.2.1 hbw) (blk_below HA.out.2.2.1 hbw) (HA.out.2.2.2.1.below hbw) (by omega) (by omega) (by omega) (by omega) w.heap.size (by omega) (by omega) HA.out.2.2.2.2
        have HMS := Aside0.mk hMS
        have HDL0 := Aside0.mk hDL
        have HL0 := Aside0.mk (And.intro hlen hzl)
        have hlm := blk_lt hmr
        have HB0 := Aside0.mk (And.intro hmr hbw)
        clear hall hDL hlen hzl hdr hsr hbw HC hMS hmr HR
        go_upto_region 8 with (go_at_call 61; (with_reducible refine HMS.out.mono ?_); rintro e w1 ⟨rfl, hx1, hx2, hx3, hx4⟩; have H1 := Aside0.mk (And.intro hx1 (And.intro hx2 (And.intro hx3 hx4))); clear hx1 hx2 hx3 hx4)
        obtain ⟨DL, hDL⟩ : ∃ DL, aI DL0 args na = DL := ⟨_, rfl⟩
        obtain ⟨Z2, hZ2⟩ : ∃ Z2, spl Z 16376 (bytesOf (wrap64 (1048576 + halt)) 8) = Z2 := ⟨_, rfl⟩
        have hrow : Row w1 gd DL := by rw [← hDL]; exact Row.of_blk H1.out.1
        have hrow2 : Row w1 gs Z2 := by rw [← hZ2]; exact Row.of_blk H1.out.2.1
        have hlen : DL.length = dl := by rw [← hDL, aI_len DL0 args na (by rw [HA.out.1]; exact Nat.le_refl _) (by rw [HL0.out.1, HA.out.1]; have := HD.out.2.2.2.2; omega)]; exact HL0.out.1
        have hzl : Z2.length = 16384 := by rw [← hZ2, spl_length (by rw [bytesOf_length, HL0.out.2]; decide)]; exact HL0.out.2
        have HDL : Aside0 (aI (dataL (gl.map (·.2))) args na = DL) := Aside0.mk (by rw [HDL0.out]; exact hDL)
        have HZ3 : Aside0 (List.replicate 16376 (0 : Int) ++ bytesOf (wrap64 (1048576 + halt)) 8 = Z2) := Aside0.mk (by rw [← hZ2, ← HZ.out, stack_put])
        have hmr : w1.heap[w.heap.size]? = some (.cells #[sg, im, fn, .int .i64 m0, .int .i64 m1, .slice G k cg, .slice A nd cd] 70 (0, 0)) := (H1.out.2.2.1 w.heap.size (by omega) (by omega) hlm).trans HB0.out.1
        have HMR := Aside0.mk (And.intro hmr (HB0.out.2.trans H1.out.2.2.2))
        have HR2 := Aside0.mk (And.intro hrow (And.intro hrow2 (And.intro hlen hzl)))
        have hc1 := HR2.out.1.text (P := Tryd.prog) 49 5 9 dl Tryd.underlying49 Tryd.underlying5 Tryd.underlying9
        rw [HR2.out.2.2.1] at hc1
        clear hDL hZ2 hrow hrow2 hlen hzl hmr
        go_wp2_with fail
        obtain ⟨W0, hW0⟩ : ∃ W0, W0 = w1 := ⟨_, rfl⟩
        subst hW0
        clear hc1
        obtain ⟨i0, hi0, hz0, hz1, hz2⟩ := info_parts info_reg
        go_loopw [11, 45] (fun v c wx => ∃ j : Nat, j ≤ 2 ∧ c = .int .i64 j ∧ wx.ownsRow W0.heap.size 33 3 v (regsI code DL m0 m1 ds j).length (cl3 (regsI code DL m0 m1 ds j)) ∧ Below W0.heap.size W0 wx) (fun _ c _ => 2 - (intOf c).toNat)
        case atStart =>
          refine ⟨0, by decide, rfl, ⟨rfl, .inr ⟨W0.heap.size, 2, _, rfl, Nat.le_refl _, blk_new _ _, Nat.le_refl _, by decide, rfl, rfl⟩⟩, below_alloc (Below.refl _ _) _⟩
        case round =>
          obtain ⟨j, hj, rfl, hown, hbx⟩ := hrel
          have HO := Aside0.mk hown
          have HX := Aside0.mk hbx
          have bw : Below w.heap.size w wr := HMR.out.2.trans (hbx.mono HMR.out.2.size)
          have BW := Aside0.mk bw
          have hmx := blk_below HMR.out.1 hbx
          by_cases hlt : j < 2
          · obtain ⟨U, hU⟩ : ∃ U, news (j : Int) (if (j : Int) = 0 then m0 else m1) ds = U := ⟨_, rfl⟩
            have hN := fun W (hb : Below w.heap.size w W) => New sg im fn (.slice G k cg) m0 m1 (j : Int) A ds nd cd W HD.out.2.2.1 hnd (HD.out.2.2.2.1.below hb)
            rw [hU] at hN
            have HN := Aside0.mk hN
            have HU := Aside0.mk hU
            have hX := fun i => blk_cell hmx i
            have z0 := hX 0
            have z1 := hX 1
            have z2 := hX 2
            have z3 := hX 3
            have z4 := hX 4
            have z5 := hX 5
            have z6 := hX 6
            simp at z0 z1 z2 z3 z4 z5 z6
            clear hown hbx hN hU hX bw hmx
            go_upto_region 13 with (go_at_call 82; (with_reducible refine (HN.out _ BW.out).mono ?_); rintro e w2 ⟨rfl, hb⟩; have H2 := Aside0.mk hb; clear hb)
            go_upto_if 52 with fail
            have hE2 := notEmptyD U
            generalize (!U.toList.isEmpty) = E at *
            have O2 := Aside0.mk (pw_own_below HO.out H2.out)
            have B2 := Aside0.mk (HX.out.trans (H2.out.mono HX.out.size))
            have HRI := Aside0.mk (regsI_step code DL m0 m1 ds j hlt)
            have hrl := regsI_le code DL m0 m1 ds j
            cases E
            · have hUe : U = ⟨#[]⟩ := by have := of_decide_eq_false hE2.symm; simpa using this
              have HM := Aside0.mk (memR_no (HU.out.trans hUe))
              clear hE2 hUe z0 z1 z2 z3 z4 z5 z6
              go_wp2
              refine ⟨⟨j + 1, hlt, by simp, ?_, B2.out⟩, by simp [intOf]; omega⟩
              rw [HRI.out, HM.out, List.append_nil]
              exact O2.out
            · have hUn : U ≠ ⟨#[]⟩ := of_decide_eq_true hE2.symm
              have HM := Aside0.mk (memR_yes (k := (j : Int)) (e := if (j : Int) = 0 then m0 else m1) (ds := ds) (by rw [HU.out]; exact hUn))
              clear hE2 hUn z0 z1 z2 z3 z4 z5 z6
              go_wp2_with (at_builtin; refine wpList_append_own _ rfl _ _ 25 rfl W0.heap.size 33 i0 _ 3 32 Tryd.underlying25 hi0 hz0 hz1 hz2 rfl (by decide) _ _ _ rfl (O2.out.alloc _) ⟨_, 0, none⟩ 1 1 (c3 (131072 + 65536 * (j : Int), U, false)) rfl rfl ?c1 ?c2 ?c3 ?c4 ?c5 ?_)
              case c1 => exact c3_cell w2 (131072 + 65536 * (j : Int), U, false)
              case c2 => intro u hu; simp [c3] at hu; rcases hu with rfl | rfl | rfl <;> rfl
              case c3 => unfold maxLen; omega
              case c4 => omega
              case c5 => exact Nat.le_trans B2.out.size (by simp)
              intro v' w3 hown3 hgrow _
              have H3 := Aside0.mk (And.intro hown3 hgrow)
              clear hown3 hgrow
              go_wp2
              have B3 : Below W0.heap.size W0 w3 := (B2.out.alloc B2.out.size _).grown H3.out.2 (Nat.le_trans B2.out.size (by simp)) (fun q hq => (O2.out.lt q hq).1)
              refine ⟨⟨j + 1, hlt, by simp, ?_, B3⟩, by simp [intOf]; omega⟩
              rw [HRI.out, HM.out, HU.out, cl3_append, List.length_append]
              have h3 := H3.out.1
              rw [show cl3 [((131072 + 65536 * (j : Int), U, false) : R3)] = c3 (131072 + 65536 * (j : Int), U, false) by simp [cl3]]
              exact h3
          · obtain rfl : j = 2 := by omega
            have hgs0 := HR2.out.2.1.1
            have hrw := HR2.out.2.1.below hbx hgs0
            have hcv := hrw.text (P := Tryd.prog) 49 5 9 16384 Tryd.underlying49 Tryd.underlying5 Tryd.underlying9
            rw [HR2.out.2.2.2] at hcv
            have hrl := regsI_le code DL m0 m1 ds 2
            clear hown hbx bw hmx hrw
            go_wp2_with (at_builtin; refine wpList_append_own _ rfl _ _ 25 rfl W0.heap.size 33 i0 _ 3 32 Tryd.underlying25 hi0 hz0 hz1 hz2 rfl (by decide) _ _ _ rfl (HO.out.alloc _) ⟨_, 0, none⟩ 1 1 (c3 (262144, strOfNums Z2, false)) rfl rfl ?c1 ?c2 ?c3 ?c4 ?c5 ?_)
            case c1 => exact c3_cell wr (262144, strOfNums Z2, false)
            case c2 => intro u hu; simp [c3] at hu; rcases hu with rfl | rfl | rfl <;> rfl
            case c3 => unfold maxLen; omega
            case c4 => omega
            case c5 => exact Nat.le_trans HX.out.size (by simp)
            intro v' w3 hown3 hgrow _
            have H3 := Aside0.mk (And.intro hown3 hgrow)
            clear hown3 hgrow
            go_wp2
            go_ret
            have B3 : Below W0.heap.size W0 w3 := (HX.out.alloc HX.out.size _).grown H3.out.2 (Nat.le_trans HX.out.size (by simp)) (fun q hq => (HO.out.lt q hq).1)
            refine ⟨_, rfl, ?_, HMR.out.2.trans (B3.mono HMR.out.2.size)⟩
            rw [HDL.out, HZ3.out]
            have h3 := H3.out.1
            have hrg : regs code DL Z2 m0 m1 ds = regsI code DL m0 m1 ds 2 ++ [(262144, strOfNums Z2, false)] := rfl
            rw [hrg, cl3_append, List.length_append]
            rw [show cl3 [((262144, strOfNums Z2, false) : R3)] = c3 (262144, strOfNums Z2, false) by simp [cl3]]
            exact own_base HMR.out.2.size h3
end Go.Proofs.YtgaiehnbjggmdaaDoor.F
