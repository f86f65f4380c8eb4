/- A program's regions laid: the program's functions. -/
import Derived.Test.YtgaiehnbjggmdaaDoorFPut
import Derived.Test.YtgaiehnbjggmdaaDoorFTells
import Derived.BigQuiet
import Derived.Deep.Cut
import Derived.Deep.CutRange
import Derived.Deep.RegionLaw
namespace Go.Proofs.YtgaiehnbjggmdaaDoor.F
open Go.Ob Go.RowKit Go.Proofs.YtgaiehnbjggmdaaDoorW.PrintWords Go.Proofs.YtgaiehnbjggmdaaDoorW.PrintMore
attribute [local go_sem] max2_int min2_int max_two min_two
set_option linter.unusedVariables false
set_option linter.unusedSimpArgs false
/-- the cells of globals: their types, what they have first -/
def CellsG (w : World) (A : Option Addr) (gl : List (Int × Int)) : Prop := ∀ i (h : i < gl.length), ∃ ad, A = some ad ∧ ad.block < w.heap.size ∧ w.cell? (ad.add (i * 2)) = some (.int .i64 gl[i].1) ∧
  w.cell? ⟨(ad.add (i * 2)).block, (ad.add (i * 2)).off + 1, none⟩ = some (.int .i64 gl[i].2)
theorem CellsG.below {w w' : World} {A : Option Addr} {gl : List (Int × Int)} (h : CellsG w A gl) (hb : Below w.heap.size w w') : CellsG w' A gl := fun i hi => by
  obtain ⟨ad, e, hk, c0, c1⟩ := h i hi
  exact ⟨ad, e, Nat.lt_of_lt_of_le hk hb.size, (hb.cell (by rw [add_blk]; exact hk)).trans c0, (hb.cell (p := ⟨(ad.add (i * 2)).block, (ad.add (i * 2)).off + 1, none⟩) (by show (ad.add (i * 2)).block < _; rw [add_blk]; exact hk)).trans c1⟩
theorem make_zeros (n : Nat) (hn : n ≤ 1000000) (W : World) : (Instr.makeSlice 49 (.int .i64 (n : Int)) (.int .i64 (n : Int))).run Tryd.prog W = .ok (.slice (some ⟨W.heap.size, 0, none⟩) n n) (W.alloc (.cells (nums .u8 (List.replicate n 0)).toArray 5)) := by
  rw [print_make (P := Tryd.prog) 49 5 .u8 1 Tryd.underlying49 info5b (by decide) n (by omega) W, made_nums]
theorem make_stack (W : World) : (Instr.makeSlice 49 (.int .i64 16384) (.int .i64 16384)).run Tryd.prog W = .ok (.slice (some ⟨W.heap.size, 0, none⟩) 16384 16384) (W.alloc (.cells (nums .u8 (List.replicate 16384 0)).toArray 5)) := make_zeros 16384 (by decide) W
theorem notEmptyD (U : ByteArray) : (!U.toList.isEmpty) = decide (U ≠ ⟨#[]⟩) := by
  rw [← decide_eq_emptyBytes]
  by_cases h : U = ⟨#[]⟩
  · rw [decide_eq_false (p := U ≠ ⟨#[]⟩) (fun c => c h), decide_eq_true (show U = ByteArray.empty from h)]; rfl
  · rw [decide_eq_true (p := U ≠ ⟨#[]⟩) h, decide_eq_false (show ¬ U = ByteArray.empty from h)]; rfl
/-- the regions ahead of the k-th memory's -/
def regsI (code : ByteArray) (data : List Int) (m0 m1 : Int) (ds : List D3) : Nat → List R3
  | 0 => [(1048576, code, true), (65536, strOfNums data, false)]
  | 1 => [(1048576, code, true), (65536, strOfNums data, false)] ++ memR 0 m0 ds
  | _ => [(1048576, code, true), (65536, strOfNums data, false)] ++ memR 0 m0 ds ++ memR 1 m1 ds
theorem memR_le (k e : Int) (ds : List D3) : (memR k e ds).length ≤ 1 := by unfold memR; split <;> simp
theorem regsI_le (code : ByteArray) (data : List Int) (m0 m1 : Int) (ds : List D3) (j : Nat) : (regsI code data m0 m1 ds j).length ≤ 4 := by
  have h0 := memR_le 0 m0 ds
  have h1 := memR_le 1 m1 ds
  match j with
  | 0 => simp [regsI]
  | 1 => simp only [regsI, List.length_append, List.length_cons, List.length_nil]; omega
  | _ + 2 => simp only [regsI, List.length_append, List.length_cons, List.length_nil]; omega
theorem regsI_step (code : ByteArray) (data : List Int) (m0 m1 : Int) (ds : List D3) (j : Nat) (h : j < 2) : regsI code data m0 m1 ds (j + 1) = regsI code data m0 m1 ds j ++ memR (j : Int) (if (j : Int) = 0 then m0 else m1) ds := by
  match j, h with
  | 0, _ => rfl
  | 1, _ => rfl
theorem info_reg : (Tryd.prog.info? 33).map (fun i => (i.zero, i.size, i.bytes)) = some (some (.agg #[.int .i64 0, .string ⟨#[]⟩, .bool false]), 3, 32) := by kernel_rfl
theorem c3_cell (W : World) (r : R3) : ∀ (j : Nat) (u : Value), (c3 r)[j]? = some u → (W.alloc (.cells #[.int .i64 r.1, .string r.2.1, .bool r.2.2] 33)).cell? ((⟨W.heap.size, 0, none⟩ : Addr).add j) = some u := by
  intro j u hj
  have hb := blk_cell (blk_new W (.cells #[.int .i64 r.1, .string r.2.1, .bool r.2.2] 33)) j
  have ha : (⟨W.heap.size, 0, none⟩ : Addr).add j = ⟨W.heap.size, j, none⟩ := by
    unfold Addr.add
    split
    · rename_i h0; rw [h0]
    · simp
  rw [ha, hb, ← hj]
  simp [c3]
theorem own_base {w : World} {b b' : Nat} {e : TypeId} {size n : Nat} {v : Value} {xs : List Value} (hb : b ≤ b') (h : w.ownsRow b' e size v n xs) : w.ownsRow b e size v n xs := by
  obtain ⟨hlen, hv⟩ := h
  refine ⟨hlen, ?_⟩
  rcases hv with h | ⟨g, cap, cur, rfl, hg, hh⟩
  · exact .inl h
  · exact .inr ⟨g, cap, cur, rfl, Nat.le_trans hb hg, hh⟩
theorem MoreR (a b : Value) (w : World) : Calls Tryd.prog 64 #[a, b] w fun e w' => e = .returned (.tuple #[]) ∧ w = w' := by
  go_enter Tryd.func64, Tryd.ntmps64
  go_wp2
  go_end0
  exact ⟨rfl, rfl⟩
theorem gl_wrap (k : Nat) (h : k ≤ 1000) : wrap64 (40 + wrap64 (8 * (k : Int))) = ((40 + 8 * k : Nat) : Int) := by
  unfold wrap64
  omega
theorem three (w : World) (M X Y : Obj) : ((((w.alloc M).alloc X).alloc Y).drew).heap[w.heap.size]? = some M ∧ ((((w.alloc M).alloc X).alloc Y).drew).heap[w.heap.size + 1]? = some X ∧ ((((w.alloc M).alloc X).alloc Y).drew).heap[w.heap.size + 1 + 1]? = some Y ∧ Below w.heap.size w ((((w.alloc M).alloc X).alloc Y).drew) := by
  have h1 := blk_new w M
  have h2 := blk_new (w.alloc M) X
  have h3 := blk_new ((w.alloc M).alloc X) Y
  rw [World.size_alloc] at h2
  rw [World.size_alloc, World.size_alloc] at h3
  exact ⟨blk_alloc (blk_alloc h1 X) Y, blk_alloc h2 Y, h3, below_drew (below_alloc (below_alloc (below_alloc (Below.refl _ _) _) _) _)⟩
set_option maxHeartbeats 8000000 in
set_option maxRecDepth 100000 in
theorem LayR (sg im fn : Value) (m0 m1 : Int) (G A : Option Addr) (gl : List (Int × Int)) (ds : List D3) (ng cg nd cd : Nat) (code : ByteArray) (w : World) (hgl : gl.length = ng) (hng : ng ≤ 1000) (hG : CellsG w G gl) (hds : ds.length = nd) (hnd : nd ≤ 9223372036854775807) (hD : CellsD w A ds) :
    Calls Tryd.prog 60 #[.agg #[sg, im, fn, .int .i64 m0, .int .i64 m1, .slice G ng cg, .slice A nd cd], .string code, .func (Fn.func 64) #[] #[]] w fun e w' => ∃ v, e = .returned v ∧ w'.ownsRow w.heap.size 33 3 v (regs code (dataL (gl.map (·.2))) (List.replicate 16384 0) m0 m1 ds).length (cl3 (regs code (dataL (gl.map (·.2))) (List.replicate 16384 0) m0 m1 ds)) ∧ Below w.heap.size w w' := by
  obtain ⟨dl, hdl⟩ : ∃ dl, 40 + 8 * ng = dl := ⟨_, rfl⟩
  have HD := Aside0.mk (And.intro hgl (And.intro hG (And.intro hds (And.intro hD hdl))))
  have hm1 := fun W => make_zeros dl (by omega) W
  obtain ⟨Z, hZ⟩ : ∃ Z, List.replicate 16384 (0 : Int) = Z := ⟨_, rfl⟩
  have hm2 := make_stack
  rw [hZ] at hm2
  have HZ := Aside0.mk hZ
  clear hZ
  have hgw : wrap64 (40 + wrap64 (8 * (ng : Int))) = (dl : Int) := by unfold wrap64; omega
  have hGl := fun W => Global (ng : Int) W
  rw [hgw] at hGl
  have HGl := Aside0.mk hGl
  clear hgw hGl hgl hG hds hD hdl
  go_enter Tryd.func60, Tryd.ntmps60
  go_upto_region 1 with fail
  go_cut [7, 8] from 14 to 19 (fun d s wx => ∃ gd gs : Nat, d = .slice (some ⟨gd, 0, none⟩) dl dl ∧ s = .slice (some ⟨gs, 0, none⟩) 16384 16384 ∧ gd ≠ gs ∧ w.heap.size < gd ∧ w.heap.size < gs ∧
    wx.heap[gd]? = some (.cells (nums .u8 (List.replicate dl 0)).toArray 5 (0, 0)) ∧ wx.heap[gs]? = some (.cells (nums .u8 Z).toArray 5 (0, 0)) ∧
    wx.heap[w.heap.size]? = some (.cells #[sg, im, fn, .int .i64 m0, .int .i64 m1, .slice G ng cg, .slice A nd cd] 70 (0, 0)) ∧ Below w.heap.size w wx)
  case first =>
    go_region_with (first
      | (go_at_call 33; (with_reducible refine (HGl.out _).mono ?_); rintro e w1 ⟨rfl, rfl⟩))
    all_goals
      go_wp2
      go_meet
      case rel =>
        first
          | exact ⟨_, _, rfl, rfl, by omega, by omega, by omega, (three w _ _ _).2.1, (three w _ _ _).2.2.1, (three w _ _ _).1, (three w _ _ _).2.2.2⟩
          | exact ⟨_, _, rfl, rfl, by omega, by omega, by omega, (three w _ _ _).2.2.1, (three w _ _ _).2.1, (three w _ _ _).1, (three w _ _ _).2.2.2⟩
  case rest =>
    obtain ⟨gd, gs, rfl, rfl, hne, hgd, hgs, hdr, hsr, hmr, hbw⟩ := hcut
    clear hm1 hm2
    have HC := Aside0.mk (And.intro hdr (And.intro hsr (And.intro hmr hbw)))
    have y4 := blk_cell hmr 5
    simp at y4
    go_wp2
    clear y4 hmr hdr hsr hbw
    go_loopw [23] (fun i wr => ∃ k : Nat, k ≤ ng ∧ i = .int .i64 k ∧ wr.heap[gd]? = some (.cells (nums .u8 (dI (gl.map (·.2)) k)).toArray 5 (0, 0)) ∧ wr.heap[gs]? = some (.cells (nums .u8 Z).toArray 5 (0, 0)) ∧
      wr.heap[w.heap.size]? = some (.cells #[sg, im, fn, .int .i64 m0, .int .i64 m1, .slice G ng cg, .slice A nd cd] 70 (0, 0)) ∧ Below w.heap.size w wr) (fun i _ => ng - (intOf i).toNat)
    case atStart =>
      refine ⟨0, Nat.zero_le _, rfl, ?_, HC.out.2.1, HC.out.2.2.1, HC.out.2.2.2⟩
      rw [dI_zero, List.length_map, HD.out.1, HD.out.2.2.2.2]
      exact HC.out.1
    case round =>
      obtain ⟨k, hk, rfl, hdr, hsr, hmr, hbw⟩ := hrel
      have HR := Aside0.mk (And.intro hdr (And.intro hsr (And.intro hmr hbw)))
      by_cases hlt : k < ng
      · obtain ⟨ad, rfl, hbk, d0, d1⟩ := (HD.out.2.1.below hbw) k (by rw [HD.out.1]; exact hlt)
        have hst := dI_step (gl.map (·.2)) k (by rw [List.length_map, HD.out.1]; exact hlt)
        have hvl : (gl.map (·.2))[k]'(by rw [List.length_map, HD.out.1]; exact hlt) = (gl[k]'(by rw [HD.out.1]; exact hlt)).2 := List.getElem_map _
        rw [hvl] at hst
        generalize gl[k]'(by rw [HD.out.1]; exact hlt) = g at *
        obtain ⟨gt, gv⟩ := g
        dsimp only at d0 d1 hst
        have hGk := fun W => Global (k : Int) W
        rw [gl_wrap k (by omega)] at hGk
        have hP := fun W (h : W.heap[gd]? = some (.cells (nums .u8 (dI (gl.map (·.2)) k)).toArray 5 (0, 0))) => Put gd dl dl (40 + 8 * k) gv (dI (gl.map (·.2)) k) W h (by rw [dI_len _ _ (by rw [List.length_map, HD.out.1]; exact hk), List.length_map, HD.out.1]; exact HD.out.2.2.2.2) (by have := HD.out.2.2.2.2; omega) (by have := HD.out.2.2.2.2; omega)
        rw [hst] at hP
        obtain ⟨K, hK⟩ : ∃ K, 40 + 8 * k = K := ⟨_, rfl⟩
        rw [hK] at hGk hP
        have HGk := Aside0.mk hGk
        have HP := Aside0.mk hP
        have hgl := blk_lt hdr
        clear hGk hP hst hvl hK hdr hsr hmr hbw
        go_upto_region 5 with fail
        go_region_with (first
          | (go_at_call 33; (with_reducible refine (HGk.out _).mono ?_); rintro e w1 ⟨rfl, rfl⟩)
          | (go_at_call 62; (with_reducible refine (HP.out _ (by first | exact blk_alloc HR.out.1 _ | exact blk_drew (blk_alloc HR.out.1 _))).mono ?_); rintro e w2 ⟨rfl, hp⟩; have H2 := Aside0.mk hp; clear hp))
        all_goals
          go_wp2
          refine ⟨⟨k + 1, hlt, by simp, H2.out.row, ?_, ?_, ?_⟩, by simp [intOf]; omega⟩
          · rw [H2.out.other gs (Ne.symm hne)]
            first | exact blk_alloc HR.out.2.1 _ | exact blk_drew (blk_alloc HR.out.2.1 _)
          · rw [H2.out.other w.heap.size (by omega)]
            first | exact blk_alloc HR.out.2.2.1 _ | exact blk_drew (blk_alloc HR.out.2.2.1 _)
          · have hz := HR.out.2.2.2
            first
              | exact (hz.alloc hz.size _).trans (H2.out.below.mono (by omega))
              | exact (below_drew (hz.alloc hz.size _)).trans (H2.out.below.mono (by omega))
      · obtain rfl : k = ng := by omega
        have hall : dI (gl.map (·.2)) k = dataL (gl.map (·.2)) := by
          have := dI_all (gl.map (·.2))
          rw [List.length_map, HD.out.1] at this
          exact this
        rw [hall] at hdr
        have hrow := Row.of_blk hdr
        have hrow2 := Row.of_blk hsr
        have hlen : (dataL (gl.map (·.2))).length = dl := by rw [dataL_len, List.length_map, HD.out.1]; exact HD.out.2.2.2.2
        have hzl : Z.length = 16384 := by rw [← HZ.out, List.length_replicate]
        obtain ⟨DL, hDL⟩ : ∃ DL, dataL (gl.map (·.2)) = DL := ⟨_, rfl⟩
        rw [hDL] at hrow hlen hdr
        have HDL := Aside0.mk hDL
        have HR2 := Aside0.mk (And.intro hrow (And.intro hrow2 (And.intro hlen hzl)))
        have ym := blk_cell hmr
        clear hall hDL hrow hrow2 hlen hzl hdr hsr hbw HC HGl
        have HMR := Aside0.mk (And.intro hmr HR.out.2.2.2)
        clear hmr HR ym
        have hc1 := HR2.out.1.text (P := Tryd.prog) 49 5 9 dl Tryd.underlying49 Tryd.underlying5 Tryd.underlying9
        rw [HR2.out.2.2.1] at hc1
        go_wp2_with (first
          | (go_at_call 64; (with_reducible refine (MoreR _ _ _).mono ?_); rintro e w1 ⟨rfl, rfl⟩))
        obtain ⟨W0, hW0⟩ : ∃ W0, W0 = wr := ⟨_, rfl⟩
        subst hW0
        clear hc1
        obtain ⟨i0, hi0, hz0, hz1, hz2⟩ := info_parts info_reg
        go_loopw [11, 45] (fun v c wx => ∃ j : Nat, j ≤ 2 ∧ c = .int .i64 j ∧ wx.ownsRow W0.heap.size 33 3 v (regsI code DL m0 m1 ds j).length (cl3 (regsI code DL m0 m1 ds j)) ∧ Below W0.heap.size W0 wx) (fun _ c _ => 2 - (intOf c).toNat)
        case atStart =>
          refine ⟨0, by decide, rfl, ⟨rfl, .inr ⟨W0.heap.size, 2, _, rfl, Nat.le_refl _, blk_new _ _, Nat.le_refl _, by decide, rfl, rfl⟩⟩, below_alloc (Below.refl _ _) _⟩
        case round =>
          obtain ⟨j, hj, rfl, hown, hbx⟩ := hrel
          have HO := Aside0.mk hown
          have HX := Aside0.mk hbx
          have bw : Below w.heap.size w wr := HMR.out.2.trans (hbx.mono HMR.out.2.size)
          have BW := Aside0.mk bw
          have hmx := blk_below HMR.out.1 hbx
          by_cases hlt : j < 2
          · obtain ⟨U, hU⟩ : ∃ U, news (j : Int) (if (j : Int) = 0 then m0 else m1) ds = U := ⟨_, rfl⟩
            have hN := fun W (hb : Below w.heap.size w W) => New sg im fn (.slice G k cg) m0 m1 (j : Int) A ds nd cd W HD.out.2.2.1 hnd (HD.out.2.2.2.1.below hb)
            rw [hU] at hN
            have HN := Aside0.mk hN
            have HU := Aside0.mk hU
            have hX := fun i => blk_cell hmx i
            have z0 := hX 0
            have z1 := hX 1
            have z2 := hX 2
            have z3 := hX 3
            have z4 := hX 4
            have z5 := hX 5
            have z6 := hX 6
            simp at z0 z1 z2 z3 z4 z5 z6
            clear hown hbx hN hU hX bw hmx
            go_upto_region 13 with (go_at_call 82; (with_reducible refine (HN.out _ BW.out).mono ?_); rintro e w2 ⟨rfl, hb⟩; have H2 := Aside0.mk hb; clear hb)
            go_upto_if 52 with fail
            have hE2 := notEmptyD U
            generalize (!U.toList.isEmpty) = E at *
            have O2 := Aside0.mk (pw_own_below HO.out H2.out)
            have B2 := Aside0.mk (HX.out.trans (H2.out.mono HX.out.size))
            have HRI := Aside0.mk (regsI_step code DL m0 m1 ds j hlt)
            have hrl := regsI_le code DL m0 m1 ds j
            cases E
            · have hUe : U = ⟨#[]⟩ := by have := of_decide_eq_false hE2.symm; simpa using this
              have HM := Aside0.mk (memR_no (HU.out.trans hUe))
              clear hE2 hUe z0 z1 z2 z3 z4 z5 z6
              go_wp2
              refine ⟨⟨j + 1, hlt, by simp, ?_, B2.out⟩, by simp [intOf]; omega⟩
              rw [HRI.out, HM.out, List.append_nil]
              exact O2.out
            · have hUn : U ≠ ⟨#[]⟩ := of_decide_eq_true hE2.symm
              have HM := Aside0.mk (memR_yes (k := (j : Int)) (e := if (j : Int) = 0 then m0 else m1) (ds := ds) (by rw [HU.out]; exact hUn))
              clear hE2 hUn z0 z1 z2 z3 z4 z5 z6
              go_wp2_with (at_builtin; refine wpList_append_own _ rfl _ _ 25 rfl W0.heap.size 33 i0 _ 3 32 Tryd.underlying25 hi0 hz0 hz1 hz2 rfl (by decide) _ _ _ rfl (O2.out.alloc _) ⟨_, 0, none⟩ 1 1 (c3 (131072 + 65536 * (j : Int), U, false)) rfl rfl ?c1 ?c2 ?c3 ?c4 ?c5 ?_)
              case c1 => exact c3_cell w2 (131072 + 65536 * (j : Int), U, false)
              case c2 => intro u hu; simp [c3] at hu; rcases hu with rfl | rfl | rfl <;> rfl
              case c3 => unfold maxLen; omega
              case c4 => omega
              case c5 => exact Nat.le_trans B2.out.size (by simp)
              intro v' w3 hown3 hgrow _
              have H3 := Aside0.mk (And.intro hown3 hgrow)
              clear hown3 hgrow
              go_wp2
              have B3 : Below W0.heap.size W0 w3 := (B2.out.alloc B2.out.size _).grown H3.out.2 (Nat.le_trans B2.out.size (by simp)) (fun q hq => (O2.out.lt q hq).1)
              refine ⟨⟨j + 1, hlt, by simp, ?_, B3⟩, by simp [intOf]; omega⟩
              rw [HRI.out, HM.out, HU.out, cl3_append, List.length_append]
              have h3 := H3.out.1
              rw [show cl3 [((131072 + 65536 * (j : Int), U, false) : R3)] = c3 (131072 + 65536 * (j : Int), U, false) by simp [cl3]]
              exact h3
          · obtain rfl : j = 2 := by omega
            have hgs0 := HR2.out.2.1.1
            have hrw := HR2.out.2.1.below hbx hgs0
            have hcv := hrw.text (P := Tryd.prog) 49 5 9 16384 Tryd.underlying49 Tryd.underlying5 Tryd.underlying9
            rw [HR2.out.2.2.2] at hcv
            have hrl := regsI_le code DL m0 m1 ds 2
            clear hown hbx bw hmx hrw
            go_wp2_with (at_builtin; refine wpList_append_own _ rfl _ _ 25 rfl W0.heap.size 33 i0 _ 3 32 Tryd.underlying25 hi0 hz0 hz1 hz2 rfl (by decide) _ _ _ rfl (HO.out.alloc _) ⟨_, 0, none⟩ 1 1 (c3 (262144, strOfNums Z, false)) rfl rfl ?c1 ?c2 ?c3 ?c4 ?c5 ?_)
            case c1 => exact c3_cell wr (262144, strOfNums Z, false)
            case c2 => intro u hu; simp [c3] at hu; rcases hu with rfl | rfl | rfl <;> rfl
            case c3 => unfold maxLen; omega
            case c4 => omega
            case c5 => exact Nat.le_trans HX.out.size (by simp)
            intro v' w3 hown3 hgrow _
            have H3 := Aside0.mk (And.intro hown3 hgrow)
            clear hown3 hgrow
            go_wp2
            go_ret
            have B3 : Below W0.heap.size W0 w3 := (HX.out.alloc HX.out.size _).grown H3.out.2 (Nat.le_trans HX.out.size (by simp)) (fun q hq => (HO.out.lt q hq).1)
            refine ⟨_, rfl, ?_, HMR.out.2.trans (B3.mono HMR.out.2.size)⟩
            rw [HDL.out, HZ.out]
            have h3 := H3.out.1
            have hrg : regs code DL Z m0 m1 ds = regsI code DL m0 m1 ds 2 ++ [(262144, strOfNums Z, false)] := rfl
            rw [hrg, cl3_append, List.length_append]
            rw [show cl3 [((262144, strOfNums Z, false) : R3)] = c3 (262144, strOfNums Z, false) by simp [cl3]]
            exact own_base HMR.out.2.size h3
end Go.Proofs.YtgaiehnbjggmdaaDoor.F
