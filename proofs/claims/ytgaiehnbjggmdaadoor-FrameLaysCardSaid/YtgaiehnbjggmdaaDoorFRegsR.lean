/- A module's regions: the reference's function. No condition but that numbers and lengths are those of the language. -/
import Derived.Test.YtgaiehnbjggmdaaDoorFEight
import Derived.Test.YtgaiehnbjggmdaaDoorFNewR
namespace Go.Proofs.YtgaiehnbjggmdaaDoor.F
open Go.Ob Go.RowKit Go.Proofs.YtgaiehnbjggmdaaDoorW.PrintWords Go.Proofs.YtgaiehnbjggmdaaDoorW.PrintMore
set_option linter.unusedVariables false
set_option linter.unusedSimpArgs false
theorem num_append (xs ys : List Int) (hx : ∀ x ∈ xs, 0 ≤ x ∧ x < 256) (hy : ∀ x ∈ ys, 0 ≤ x ∧ x < 256) : strOfNums xs ++ strOfNums ys = strOfNums (xs ++ ys) := by
  refine bl_inj ?_
  rw [bl_append, bl_num _ hx, bl_num _ hy, bl_num]
  intro x hm
  rcases List.mem_append.1 hm with hm | hm
  · exact hx x hm
  · exact hy x hm
/-- the data's bytes with the first of the globals -/
def dR (gl : List Int) (k : Nat) : List Int := List.replicate 40 0 ++ b8 (gl.take k)
theorem dR_bytes (gl : List Int) (k : Nat) : ∀ b ∈ dR gl k, 0 ≤ b ∧ b < 256 := by
  intro b hb
  rcases List.mem_append.1 hb with hb | hb
  · exact zeros_bytes _ b hb
  · exact b8_bytes _ b hb
theorem dR_step (gl : List Int) (k : Nat) (h : k < gl.length) : strOfNums (dR gl k) ++ strOfNums (bytesOf gl[k] 8) = strOfNums (dR gl (k + 1)) := by
  rw [num_append _ _ (dR_bytes gl k) (bytesOf_bytes _ 8)]
  unfold dR
  rw [List.take_succ_eq_append_getElem h, b8_append, b8_one, List.append_assoc]
theorem dR_all (gl : List Int) : dR gl gl.length = dataL gl := by
  unfold dR dataL
  rw [List.take_length]
theorem dR_len (gl : List Int) (k : Nat) (h : k ≤ gl.length) : (strOfNums (dR gl k)).size = 40 + 8 * k := by
  rw [num_size]
  unfold dR
  rw [List.length_append, List.length_replicate, b8_length, List.length_take]
  omega
set_option maxHeartbeats 16000000 in
set_option maxRecDepth 100000 in
theorem rRegions (sg im fn : Value) (m0 m1 : Int) (G A : Option Addr) (gl : List (Int × Int)) (ds : List D3) (ng cg nd cd : Nat) (code : ByteArray) (w : World) (hgl : gl.length = ng) (hng : ng ≤ 1000) (hG : CellsG w G gl) (hgv : ∀ g ∈ gl, -9223372036854775808 ≤ g.2 ∧ g.2 ≤ 9223372036854775807) (hds : ds.length = nd) (hnd : nd ≤ 9223372036854775807) (hD : CellsD w A ds) (hsz : ∀ d ∈ ds, d.2.2.size ≤ 9223372036854775807) :
    Calls Tryd.prog 41 #[.agg #[sg, im, fn, .int .i64 m0, .int .i64 m1, .slice G ng cg, .slice A nd cd], .string code] w fun e w' => ∃ v, e = .returned v ∧ w'.ownsRow w.heap.size 33 3 v (regs code (dataL (gl.map (·.2))) (List.replicate 16384 0) m0 m1 ds).length (cl3 (regs code (dataL (gl.map (·.2))) (List.replicate 16384 0) m0 m1 ds)) ∧ Below w.heap.size w w' := by
  have HSZ := Aside0.mk hsz
  have HD := Aside0.mk (And.intro hgl (And.intro hG (And.intro hds (And.intro hD hgv))))
  obtain ⟨Z, hZ⟩ : ∃ Z, List.replicate 16384 (0 : Int) = Z := ⟨_, rfl⟩
  have hm2 := make_stack
  rw [hZ] at hm2
  have HM2 := Aside0.mk hm2
  have HZL : Aside0 (Z.length = 16384) := ⟨by rw [← hZ, List.length_replicate]⟩
  have HZ := Aside0.mk hZ
  obtain ⟨Y, hY⟩ : ∃ Y, List.replicate 40 (0 : Int) = Y := ⟨_, rfl⟩
  have hm1 := fun W => make_zeros 40 (by omega) W
  rw [hY, show ((40 : Nat) : Int) = 40 from rfl] at hm1
  have hYl : Y.length = 40 := by rw [← hY, List.length_replicate]
  have hrow : Row ((w.alloc (.cells #[sg, im, fn, .int .i64 m0, .int .i64 m1, .slice G ng cg, .slice A nd cd] 70)).alloc (.cells (nums .u8 Y).toArray 5)) (w.alloc (.cells #[sg, im, fn, .int .i64 m0, .int .i64 m1, .slice G ng cg, .slice A nd cd] 70)).heap.size Y := Row.of_blk (blk_new _ _)
  have hc1 := hrow.text (P := Tryd.prog) 49 5 9 40 Tryd.underlying49 Tryd.underlying5 Tryd.underlying9
  rw [hYl, World.size_alloc] at hc1
  have HY := Aside0.mk hY
  clear hZ hm2 hY hYl hrow hgl hG hgv hds hD hsz
  go_enter Tryd.func41, Tryd.ntmps41
  go_wp2
  obtain ⟨W1, hW1⟩ : ∃ W, (w.alloc (.cells #[sg, im, fn, .int .i64 m0, .int .i64 m1, .slice G ng cg, .slice A nd cd] 70)).alloc (.cells (nums .u8 Y).toArray 5) = W := ⟨_, rfl⟩
  have HS : Aside0 (W1.heap[w.heap.size]? = some (.cells #[sg, im, fn, .int .i64 m0, .int .i64 m1, .slice G ng cg, .slice A nd cd] 70 (0, 0)) ∧ Below w.heap.size w W1) := ⟨by rw [← hW1]; exact blk_alloc (blk_new w _) _, by rw [← hW1]; exact below_alloc (below_alloc (Below.refl _ _) _) _⟩
  rw [hW1]
  clear hW1 hm1 hc1
  go_loopw [5, 6] (fun s c wr => ∃ q : Nat, q ≤ ng ∧ c = .int .i64 q ∧ s = .string (strOfNums (dR (gl.map (·.2)) q)) ∧ wr.heap[w.heap.size]? = some (.cells #[sg, im, fn, .int .i64 m0, .int .i64 m1, .slice G ng cg, .slice A nd cd] 70 (0, 0)) ∧ Below w.heap.size w wr) (fun _ c _ => ng - (intOf c).toNat)
  case atStart => exact ⟨0, Nat.zero_le _, rfl, by unfold dR; rw [HY.out, List.take_zero, show b8 [] = [] from rfl, List.append_nil], HS.out.1, HS.out.2⟩
  case round =>
    obtain ⟨k, hk, rfl, rfl, hmr, hbw⟩ := hrel
    have HR := Aside0.mk (And.intro hmr hbw)
    have z5 := blk_cell hmr 5
    simp at z5
    by_cases hlt : k < ng
    · have hlg : k < gl.length := by rw [HD.out.1]; exact hlt
      obtain ⟨ad, eG, hbG, g0, g1⟩ := (HD.out.2.1.below hbw) k hlg
      have hgr := HD.out.2.2.2.2 gl[k] (List.getElem_mem _)
      have hst := dR_step (gl.map (·.2)) k (by rw [List.length_map]; exact hlg)
      have hle1 := dR_len (gl.map (·.2)) k (by rw [List.length_map]; omega)
      rw [List.getElem_map] at hst
      have hle2 : (strOfNums (bytesOf gl[k].2 8)).size = 8 := by rw [num_size, bytesOf_length]
      generalize strOfNums (dR (gl.map (·.2)) k) = S0 at *
      generalize gl[k] = gk at *
      obtain ⟨gt, gv⟩ := gk
      dsimp only at g0 g1 hgr hst hle2
      have hE := fun W => Eight gv W hgr
      generalize strOfNums (bytesOf gv 8) = S1 at *
      have hb0 : S0.size ≤ 100000 := by omega
      have hb1 : S1.size ≤ 8 := by omega
      subst eG
      have HE := Aside0.mk hE
      have HST := Aside0.mk hst
      clear hE hst hle1 hle2 hmr hbw hgr
      go_wp2_with (go_at_call 63; (with_reducible refine (HE.out _).mono ?_); rintro e w2 ⟨rfl, hb⟩; have H2 := Aside0.mk hb; clear hb)
      refine ⟨⟨k + 1, hlt, by simp, ?_, ?_, ?_⟩, by simp [intOf]; omega⟩
      · rw [HST.out]
      · exact blk_below HR.out.1 H2.out
      · exact HR.out.2.trans (H2.out.mono HR.out.2.size)
    · obtain rfl : k = ng := by omega
      have hall := dR_all (gl.map (·.2))
      rw [List.length_map, HD.out.1] at hall
      rw [hall]
      obtain ⟨DL, hDL⟩ : ∃ DL, dataL (gl.map (·.2)) = DL := ⟨_, rfl⟩
      rw [hDL]
      have HDL := Aside0.mk hDL
      have HMR := Aside0.mk (And.intro hmr HR.out.2)
      clear hall hDL hmr hbw HR
      go_wp2
      obtain ⟨W0, hW0⟩ : ∃ W0, W0 = wr := ⟨_, rfl⟩
      subst hW0
      clear z5
      obtain ⟨i0, hi0, hz0, hz1, hz2⟩ := info_parts info_reg
      go_loopw [7, 8] (fun v c wx => ∃ j : Nat, j ≤ 2 ∧ c = .int .i64 j ∧ wx.ownsRow W0.heap.size 33 3 v (regsI code DL m0 m1 ds j).length (cl3 (regsI code DL m0 m1 ds j)) ∧ Below W0.heap.size W0 wx) (fun _ c _ => 2 - (intOf c).toNat)
      case atStart =>
        refine ⟨0, by decide, rfl, ⟨rfl, .inr ⟨W0.heap.size, 2, _, rfl, Nat.le_refl _, blk_new _ _, Nat.le_refl _, by decide, rfl, rfl⟩⟩, below_alloc (Below.refl _ _) _⟩
      case round =>
        obtain ⟨j, hj, rfl, hown, hbx⟩ := hrel
        have HO := Aside0.mk hown
        have HX := Aside0.mk hbx
        have bw : Below w.heap.size w wr := HMR.out.2.trans (hbx.mono HMR.out.2.size)
        have BW := Aside0.mk bw
        have hmx := blk_below HMR.out.1 hbx
        by_cases hlt : j < 2
        · obtain ⟨U, hU⟩ : ∃ U, news (j : Int) (if (j : Int) = 0 then m0 else m1) ds = U := ⟨_, rfl⟩
          have hN := fun W (hb : Below w.heap.size w W) => rNew sg im fn (.slice G k cg) m0 m1 (j : Int) A ds nd cd W HD.out.2.2.1 hnd (HD.out.2.2.2.1.below hb) HSZ.out
          rw [hU] at hN
          have HN := Aside0.mk hN
          have HU := Aside0.mk hU
          have hX := fun i => blk_cell hmx i
          have z0 := hX 0
          have z1 := hX 1
          have z2 := hX 2
          have z3 := hX 3
          have z4 := hX 4
          have z5 := hX 5
          have z6 := hX 6
          simp at z0 z1 z2 z3 z4 z5 z6
          clear hown hbx hN hU hX bw hmx
          go_upto_region 11 with (go_at_call 65; (with_reducible refine (HN.out _ BW.out).mono ?_); rintro e w2 ⟨rfl, hb⟩; have H2 := Aside0.mk hb; clear hb)
          go_upto_if 41 with fail
          have hE2 := notEmptyD U
          generalize (!U.toList.isEmpty) = E at *
          have O2 := Aside0.mk (pw_own_below HO.out H2.out)
          have B2 := Aside0.mk (HX.out.trans (H2.out.mono HX.out.size))
          have HRI := Aside0.mk (regsI_step code DL m0 m1 ds j hlt)
          have hrl := regsI_le code DL m0 m1 ds j
          cases E
          · have hUe : U = ⟨#[]⟩ := by have := of_decide_eq_false hE2.symm; simpa using this
            have HM := Aside0.mk (memR_no (HU.out.trans hUe))
            clear hE2 hUe z0 z1 z2 z3 z4 z5 z6
            go_wp2
            refine ⟨⟨j + 1, hlt, by simp, ?_, B2.out⟩, by simp [intOf]; omega⟩
            rw [HRI.out, HM.out, List.append_nil]
            exact O2.out
          · have hUn : U ≠ ⟨#[]⟩ := of_decide_eq_true hE2.symm
            have HM := Aside0.mk (memR_yes (k := (j : Int)) (e := if (j : Int) = 0 then m0 else m1) (ds := ds) (by rw [HU.out]; exact hUn))
            clear hE2 hUn z0 z1 z2 z3 z4 z5 z6
            go_wp2_with (at_builtin; refine wpList_append_own _ rfl _ _ 25 rfl W0.heap.size 33 i0 _ 3 32 Tryd.underlying25 hi0 hz0 hz1 hz2 rfl (by decide) _ _ _ rfl (O2.out.alloc _) ⟨_, 0, none⟩ 1 1 (c3 (131072 + 65536 * (j : Int), U, false)) rfl rfl ?c1 ?c2 ?c3 ?c4 ?c5 ?_)
            case c1 => exact c3_cell w2 (131072 + 65536 * (j : Int), U, false)
            case c2 => intro u hu; simp [c3] at hu; rcases hu with rfl | rfl | rfl <;> rfl
            case c3 => unfold maxLen; omega
            case c4 => omega
            case c5 => exact Nat.le_trans B2.out.size (by simp)
            intro v' w3 hown3 hgrow _
            have H3 := Aside0.mk (And.intro hown3 hgrow)
            clear hown3 hgrow
            go_wp2
            have B3 : Below W0.heap.size W0 w3 := (B2.out.alloc B2.out.size _).grown H3.out.2 (Nat.le_trans B2.out.size (by simp)) (fun q hq => (O2.out.lt q hq).1)
            refine ⟨⟨j + 1, hlt, by simp, ?_, B3⟩, by simp [intOf]; omega⟩
            rw [HRI.out, HM.out, HU.out, cl3_append, List.length_append]
            have h3 := H3.out.1
            rw [show cl3 [((131072 + 65536 * (j : Int), U, false) : R3)] = c3 (131072 + 65536 * (j : Int), U, false) by simp [cl3]]
            exact h3
        · obtain rfl : j = 2 := by omega
          have hrl := regsI_le code DL m0 m1 ds 2
          have hrw : Row (wr.alloc (.cells (nums .u8 Z).toArray 5)) wr.heap.size Z := Row.of_blk (blk_new wr _)
          have hcv := hrw.text (P := Tryd.prog) 49 5 9 16384 Tryd.underlying49 Tryd.underlying5 Tryd.underlying9
          rw [HZL.out] at hcv
          have hm2 := HM2.out
          clear hown hbx bw hmx hrw
          go_wp2_with (at_builtin; refine wpList_append_own _ rfl _ _ 25 rfl W0.heap.size 33 i0 _ 3 32 Tryd.underlying25 hi0 hz0 hz1 hz2 rfl (by decide) _ _ _ rfl ((HO.out.alloc _).alloc _) ⟨_, 0, none⟩ 1 1 (c3 (262144, strOfNums Z, false)) rfl rfl ?c1 ?c2 ?c3 ?c4 ?c5 ?_)
          case c1 => have := c3_cell (wr.alloc (.cells (nums .u8 Z).toArray 5)) (262144, strOfNums Z, false); rw [World.size_alloc] at this; exact this
          case c2 => intro u hu; simp [c3] at hu; rcases hu with rfl | rfl | rfl <;> rfl
          case c3 => unfold maxLen; omega
          case c4 => omega
          case c5 => exact Nat.le_trans HX.out.size (by simp; omega)
          intro v' w3 hown3 hgrow _
          have H3 := Aside0.mk (And.intro hown3 hgrow)
          clear hown3 hgrow
          go_wp2
          go_ret
          have B3 : Below W0.heap.size W0 w3 := ((HX.out.alloc HX.out.size _).alloc (Nat.le_trans HX.out.size (by simp)) _).grown H3.out.2 (Nat.le_trans HX.out.size (by simp; omega)) (fun q hq => (HO.out.lt q hq).1)
          refine ⟨_, rfl, ?_, HMR.out.2.trans (B3.mono HMR.out.2.size)⟩
          rw [HDL.out, HZ.out]
          have h3 := H3.out.1
          have hrg : regs code DL Z m0 m1 ds = regsI code DL m0 m1 ds 2 ++ [(262144, strOfNums Z, false)] := rfl
          rw [hrg, cl3_append, List.length_append]
          rw [show cl3 [((262144, strOfNums Z, false) : R3)] = c3 (262144, strOfNums Z, false) by simp [cl3]]
          exact own_base HMR.out.2.size h3
end Go.Proofs.YtgaiehnbjggmdaaDoor.F
