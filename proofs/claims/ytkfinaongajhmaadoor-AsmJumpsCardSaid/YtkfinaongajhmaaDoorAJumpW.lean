/- AsmJumps: the walk. At most 100 items. -/
import Derived.Test.YtkfinaongajhmaaDoorAJump
import Derived.BigQuiet
namespace Go.Proofs.YtkfinaongajhmaaDoor.X
open Go.Ob Go.Ob.Xc Go.RowKit Go.Proofs.YtkfinaongajhmaaDoorW.PrintWords Go.Proofs.YtkfinaongajhmaaDoorW.PrintMore
attribute [local go_sem] max2_int min2_int max_two min_two
set_option linter.unusedVariables false
set_option linter.unusedSimpArgs false
theorem Its.take3 {w : World} {A : Option Addr} {L : List It} (h : Its w A L) (n : Nat) : Its w A (L.take n) := by
  refine ⟨fun t ht => h.1 t (List.mem_of_mem_take ht), fun h0 => ?_⟩
  rw [List.length_take] at h0
  obtain ⟨a, rfl, ha, hc⟩ := h.2 (by omega)
  refine ⟨a, rfl, ha, fun i hi => ?_⟩
  have hi' := hi
  rw [List.length_take] at hi'
  rw [List.getElem_take]
  exact hc i (by omega)
/-- Places, where the items may stand -/
theorem PlacesR (M : List It) (A : Option Addr) (cap : Nat) (W : World) (ht : Tab W) (hM : M.length ≤ 1000) (hi : Its W A M) (hok : okL M = true) :
    Calls Tryd.prog 25 #[.slice A M.length cap] W fun e w' => ∃ (B : Option Addr) (c : Nat), e = .returned (.tuple #[.slice B (M.length + 1) c, .int .i64 0]) ∧ ReadsInt w' .i64 B (M.length + 1) ((List.range (M.length + 1)).map (pos M)) ∧ Below W.heap.size W w' := by
  refine (Places M A cap W ht hM hi).mono fun e w' h => ?_
  unfold PlacesAns at h
  rw [hok] at h
  simp only [if_true] at h
  obtain ⟨⟨v, rfl, ho⟩, hb⟩ := h
  have e : ps M M.length = ((List.range (M.length + 1)).map (pos M)).map (Value.int .i64) := by
    unfold ps
    rw [List.map_map]
    rfl
  rw [e] at ho
  obtain ⟨B, c, rfl, hr⟩ := reads_of_own ho (by omega)
  exact ⟨B, c, rfl, hr, hb⟩
theorem getD_pos (M : List It) (n i : Nat) (h : i ≤ n) : ((List.range (n + 1)).map (pos M)).getD i 0 = pos M i := by
  rw [List.getD_eq_getElem?_getD, List.getElem?_map, List.getElem?_range (by omega)]
  rfl
theorem it_cells {w W : World} {a : Addr} {M : List It} {q : Nat} {t : It} (h : Its w (some a) M) (hb : Below w.heap.size w W) (hq : q < M.length) (ht : M[q] = t) :
    W.cell? (a.add (q * 9)) = some (.int .i64 t.x.op) ∧ W.cell? ⟨(a.add (q * 9)).block, (a.add (q * 9)).off + 1, none⟩ = some (.bool t.x.wide) ∧ W.cell? ⟨(a.add (q * 9)).block, (a.add (q * 9)).off + 2, none⟩ = some (.int .i64 t.x.r) ∧
    W.cell? ⟨(a.add (q * 9)).block, (a.add (q * 9)).off + 3, none⟩ = some (.int .i64 t.x.b) ∧ W.cell? ⟨(a.add (q * 9)).block, (a.add (q * 9)).off + 4, none⟩ = some (.int .i64 t.x.i) ∧ W.cell? ⟨(a.add (q * 9)).block, (a.add (q * 9)).off + 5, none⟩ = some (.int .i64 t.x.c) ∧
    W.cell? ⟨(a.add (q * 9)).block, (a.add (q * 9)).off + 6, none⟩ = some (.int .i64 t.x.n) ∧ W.cell? ⟨(a.add (q * 9)).block, (a.add (q * 9)).off + 7, none⟩ = some (.int .i64 t.lab) ∧ W.cell? ⟨(a.add (q * 9)).block, (a.add (q * 9)).off + 8, none⟩ = some (.int .i64 t.to) := by
  obtain ⟨a', e, _, hc⟩ := (h.below hb).2 (by omega)
  obtain rfl := Option.some.inj e
  have := hc q hq
  rw [ht] at this
  exact this
theorem plc_at {w W : World} {b : Addr} {M : List It} {n q P : Nat} (h : ReadsInt w .i64 (some b) (n + 1) ((List.range (n + 1)).map (pos M))) (hb : Below w.heap.size w W) (hq : q ≤ n) (hP : pos M q = (P : Int)) : W.cell? (b.add q) = some (.int .i64 (P : Int)) := by
  obtain ⟨_, _, h3⟩ := h.below hb
  obtain ⟨b2, e2, g2⟩ := h3 (by omega)
  obtain rfl := Option.some.inj e2
  have := g2 q (by omega)
  rw [getD_pos M _ _ hq, hP] at this
  exact this
theorem addr100 {w : World} {b : Addr} {v : Value} (h : w.cell? (b.add 100) = some v) : w.cell? ⟨b.block, b.off + 100, none⟩ = some v := h
set_option maxHeartbeats 16000000 in
set_option maxRecDepth 100000 in
theorem JumpsNo (L M : List It) (A : Option Addr) (cap n : Nat) (w : World) (ht : Tab w) (hi : Its w A M) (hcap : L.length ≤ cap) (hlen : L.length ≤ 9223372036854775807) (hnM : M.length = n) (hn100 : n ≤ 100)
    (hn : (L.length ≤ 100 ∧ n = L.length) ∨ (¬ L.length ≤ 100 ∧ n = 100)) (hq : asmB M = none) :
    Calls Tryd.prog 12 #[.slice A L.length cap] w fun e w' => e = .returned (.bool true) ∧ Below w.heap.size w w' := by
  have HE := Aside0.mk (AExamples w ht)
  have hA := fun W (hW : Below w.heap.size w W) => Assemble M A cap W (ht.below hW) (by omega) (hi.below hW)
  have hB := fun W (hW : Below w.heap.size w W) => Places M A cap W (ht.below hW) (by omega) (hi.below hW)
  rw [hnM] at hA hB
  have HA := Aside0.mk hA
  have HB := Aside0.mk hB
  have HQ := Aside0.mk hq
  clear hA hB hq ht hi hnM
  cases hok : okL M
  all_goals
    have HK := Aside0.mk hok
    clear hok
    rcases hn with ⟨hn, rfl⟩ | ⟨hn, rfl⟩
  all_goals
    go_enter Tryd.func12, Tryd.ntmps12
    go_wp2_with (first
      | (go_at_call 24; (with_reducible refine HE.out.mono ?_); rintro e w1 ⟨rfl, hb⟩; have H1 := Aside0.mk hb; clear hb)
      | (go_at_call 28; (with_reducible refine (HA.out _ H1.out).mono ?_); intro e w2 hp; unfold AsmAns at hp; rw [HQ.out] at hp; obtain ⟨rfl, hb⟩ := hp; have H2 := Aside0.mk (H1.out.trans (hb.mono H1.out.size)); clear hb)
      | (go_at_call 25; (with_reducible refine (HB.out _ H2.out).mono ?_); intro e w3 hp; unfold PlacesAns at hp; rw [HK.out] at hp; (first | (obtain ⟨⟨v, rfl, -⟩, hb⟩ := hp) | (obtain ⟨rfl, hb⟩ := hp)); have H3 := Aside0.mk (H2.out.trans (hb.mono H2.out.size)); clear hb))
    go_ret
    exact ⟨rfl, H3.out⟩
/-- what the law asks of the whole -/
theorem jumps_plain (M : List It) (n : Nat) (s : List Int) (hnM : M.length = n) (hn : n ≤ 100) (h1 : ∀ t ∈ M, NB t.x) (hs : asmB M = some s) :
    okL M = true ∧ (∀ W, Tab W → Calls Tryd.prog 30 #[.string (strOfNums s)] W fun e w' => ∃ (A : Option Addr) (cap : Nat), e = .returned (.tuple #[.slice A (ins M n).length cap, .int .i64 0]) ∧ ReadsInt w' .i64 A (ins M n).length (offs 0 (ins M n)) ∧ Below W.heap.size W w') ∧
    (strOfNums s).size = s.length ∧ s.length ≤ 1500 ∧ (ins M n).length ≤ n ∧ (s.length : Int) = pos M n ∧ bl (strOfNums s) = s := by
  subst hnM
  obtain ⟨a1, a2, a3, a4, a5, a6⟩ := asm_ins (by omega) h1 hs
  have hsb := (itemsB_ok a3).2
  have hsl := (itemsB_ok a3).1
  have hil := ins_len M M.length
  have t1 := starts_cat _ a6
  rw [← a4] at t1
  exact ⟨a1, fun W ht => StartsR s _ _ (offs_length _ _) hsb (by omega) t1 (by omega) W ht, strsize hsb, by omega, hil, a5, Go.Ob.bl_num s hsb⟩
set_option maxHeartbeats 16000000 in
set_option maxRecDepth 100000 in
theorem JumpsYes (L M : List It) (A : Option Addr) (cap n : Nat) (s : List Int) (w : World) (ht : Tab w) (hi : Its w A M) (hcap : L.length ≤ cap) (hlen : L.length ≤ 9223372036854775807) (hnM : M.length = n) (hn100 : n ≤ 100)
    (hn : (L.length ≤ 100 ∧ n = L.length) ∨ (¬ L.length ≤ 100 ∧ n = 100)) (hq : asmB M = some s) :
    Calls Tryd.prog 12 #[.slice A L.length cap] w fun e w' => e = .returned (.bool true) ∧ Below w.heap.size w w' := by
  have HE := Aside0.mk (AExamples w ht)
  have hJ := jumps_plain M n s hnM hn100 (fun t h => (hi.1 t h).1) hq
  have hA := fun W (hW : Below w.heap.size w W) => Assemble M A cap W (ht.below hW) (by omega) (hi.below hW)
  have hB := fun W (hW : Below w.heap.size w W) => PlacesR M A cap W (ht.below hW) (by omega) (hi.below hW) hJ.1
  rw [hnM] at hA hB
  have HA := Aside0.mk hA
  have HB := Aside0.mk hB
  have HQ := Aside0.mk hq
  have HJ := Aside0.mk hJ
  have HT := Aside0.mk (And.intro ht (And.intro hi hnM))
  clear hA hB hq ht hi hnM hJ
  rcases hn with ⟨hn, rfl⟩ | ⟨hn, rfl⟩
  · obtain ⟨j1, j2, j3, j4, -⟩ := HJ.out.2.2
    have j5 : (strOfNums s).size ≤ 1500 := by omega
    have j6 : ((strOfNums s).size : Int) = pos M L.length := by rw [j1]; exact j4
    go_enter Tryd.func12, Tryd.ntmps12
    go_wp2_with (first
      | (go_at_call 24; (with_reducible refine HE.out.mono ?_); rintro e w1 ⟨rfl, hb⟩; have H1 := Aside0.mk hb; clear hb)
      | (go_at_call 28; (with_reducible refine (HA.out _ H1.out).mono ?_); intro e w2 hp; unfold AsmAns at hp; rw [HQ.out] at hp; obtain ⟨rfl, hb⟩ := hp; have H2 := Aside0.mk (H1.out.trans (hb.mono H1.out.size)); clear hb)
      | (go_at_call 25; (with_reducible refine (HB.out _ H2.out).mono ?_); rintro e w3 ⟨B, cB, rfl, hr, hb⟩; obtain ⟨bb, rfl, -⟩ := hr.2.2 (by omega); have H3 := Aside0.mk (And.intro (H2.out.trans (hb.mono H2.out.size)) hr); clear hb hr)
      | (go_at_call 30; (with_reducible refine (HJ.out.2.1 _ (HT.out.1.below H3.out.1)).mono ?_); rintro e w4 ⟨C, cC, rfl, hr, hb⟩; have H4 := Aside0.mk (And.intro (H3.out.1.trans (hb.mono H3.out.1.size)) (And.intro (H3.out.2.below hb) hr)); clear hb hr; obtain ⟨b2, e2, g2⟩ := H4.out.2.1.2.2 (by omega); obtain rfl := Option.some.inj e2; have cn := g2 L.length (by omega); rw [getD_pos M _ _ (Nat.le_refl _), ← j6] at cn; clear g2 e2))
    have HC := Aside0.mk (HT.out.2.1.below H4.out.1)
    go_loopw [10, 11] (fun k i wr => ∃ q : Nat, i = .int .i64 q ∧ q ≤ M.length ∧ k = .int .i64 (ins M q).length ∧ Below w4.heap.size w4 wr) (fun _ i _ => M.length - (intOf i).toNat)
    case atStart => exact ⟨0, rfl, Nat.zero_le _, rfl, by with_reducible exact Below.refl _ _⟩
    case round =>
      obtain ⟨q, rfl, hq, rfl, hbw⟩ := hrel
      have HW := Aside0.mk hbw
      have hL := HT.out.2.2
      by_cases hlt : q < M.length
      · have hlt2 := hlt
        rw [hL] at hlt2
        have hg : M.getD q default = M[q] := by rw [List.getD_eq_getElem?_getD, List.getElem?_eq_getElem hlt]; rfl
        obtain ⟨hnb, hcs⟩ := HC.out.below hbw
        obtain ⟨a, hA, hab, hc⟩ := hcs (by omega)
        subst hA
        obtain ⟨c0, c1, c2, c3, c4, c5, c6, c7, c8⟩ := hc q hlt
        obtain ⟨_, _, h3⟩ := H4.out.2.1.below hbw
        obtain ⟨b2, e2, g2⟩ := h3 (by omega)
        obtain rfl := Option.some.inj e2
        have p0 := g2 q (by omega)
        have p1 := g2 (q + 1) (by omega)
        rw [getD_pos M _ _ (by omega)] at p0 p1
        have HG := Aside0.mk hg
        have HX := Aside0.mk (at_of (L := M) (s := s) (by omega) (fun t h => (HT.out.2.1.1 t h).1) HQ.out hlt)
        have HI := Aside0.mk (And.intro hcs (And.intro hc g2))
        rw [hg] at HX
        clear hcs hc h3 g2 e2 hg hbw hnb
        by_cases hl : 0 < M[q].lab
        · have hk := Aside0.mk (ins_skip (L := M) (i := q) (by rw [HG.out]; exact hl))
          generalize M[q] = t at *
          go_wp2
          refine ⟨⟨q + 1, by simp, by omega, by rw [hk.out], HW.out⟩, by simp [intOf]; omega⟩
        · have ha := HX.out hl
          have hp0 := pos_bd M q
          have hp1 := pos_bd M (q + 1)
          have hone := ha.one
          rw [hL] at hone
          obtain ⟨_, _, h4⟩ := H4.out.2.2.below HW.out
          obtain ⟨cc, rfl, g4⟩ := h4 (by omega)
          have s0 := g4 _ hone
          rw [← hL, ha.two] at s0
          obtain ⟨m, d1, d2, d3, d4⟩ := ha.dec
          have hle := ha.le
          have HS := Aside0.mk ha.still
          have HU := Aside0.mk ha.jump
          have HN := Aside0.mk ha.next
          rw [HG.out] at HS HU
          obtain ⟨P0, hP0⟩ : ∃ P : Nat, pos M q = (P : Int) := ⟨(pos M q).toNat, by omega⟩
          obtain ⟨P1, hP1⟩ : ∃ P : Nat, pos M (q + 1) = (P : Int) := ⟨(pos M (q + 1)).toNat, by omega⟩
          rw [hP0] at p0 s0 d1 d2 hle hp0
          rw [hP1] at p1 d2 hp1
          rw [Int.toNat_natCast] at d1
          have hle2 : P0 ≤ s.length := by omega
          have hA : decA (bl ((strOfNums s).extract P0 (strOfNums s).size)) = .tuple #[xv (res M q), .int .i64 m, .int .i64 0] := by
            have hbl : bl ((strOfNums s).extract P0 (strOfNums s).size) = s.drop P0 := by
              rw [bl_extract, HJ.out.2.2.2.2.2.2]
              exact List.take_of_length_le (by rw [List.length_drop, j1]; exact Nat.le_refl _)
            unfold decA
            rw [hbl, d1]
          have hD := fun W (hW : Tab W) => Decode ((strOfNums s).extract P0 (strOfNums s).size) W hW (by rw [ByteArray.size_extract]; omega)
          rw [hA, j1] at hD
          have HP := Aside0.mk (And.intro hP0 (And.intro hP1 HI.out))
          clear hA d1 h4 g4 ha HX hP0 hP1 HI
          have HD := Aside0.mk hD
          clear hD
          obtain ⟨t, ht⟩ : ∃ t, M[q] = t := ⟨_, rfl⟩
          rw [ht] at c0 c1 c2 c3 c4 c5 c6 c7 c8 HS HU hl
          have HQT := Aside0.mk ht
          clear ht
          obtain ⟨y, hy⟩ : ∃ y, res M q = y := ⟨_, rfl⟩
          rw [hy] at HD HS HU
          clear hy
          obtain ⟨⟨o, wd, r, b, i, c, nn⟩, lab, jt⟩ := t
          obtain ⟨yo, yw, yr, yb, yi, yc, yn⟩ := y
          dsimp only at c0 c1 c2 c3 c4 c5 c6 c7 c8 hl
          have f1 : ¬ ((ins M L.length).length : Int) ≤ ((ins M q).length : Int) := by omega
          have e1 : decide (((ins M L.length).length : Int) ≤ ((ins M q).length : Int)) = false := decide_eq_false f1
          have f2 : ¬ (ins M L.length).length ≤ (ins M q).length := by omega
          have f3 : ((ins M q).length : Int) < ((ins M L.length).length : Int) := by omega
          go_upto_region 15 with fail
          go_quiet (fail)
          have HV := Aside0.mk (show Below w4.heap.size w4 (wr.drewN nq) from pw_below_drewN HW.out nq)
          go_upto_region 18 with (go_at_call 20; (with_reducible refine (HD.out _ (HT.out.1.below (H4.out.1.trans (HV.out.mono H4.out.1.size)))).mono ?_); rintro e w5 ⟨rfl, hb⟩; have H5 := Aside0.mk hb; clear hb)
          obtain ⟨W6, hW6⟩ : ∃ W, w5.alloc (.cells #[.int .i64 yo, .bool yw, .int .i64 yr, .int .i64 yb, .int .i64 yi, .int .i64 yc, .int .i64 yn] 23) = W := ⟨_, rfl⟩
          have hx6 := blk_new w5 (.cells #[.int .i64 yo, .bool yw, .int .i64 yr, .int .i64 yb, .int .i64 yi, .int .i64 yc, .int .i64 yn] 23)
          have B6 : Below w4.heap.size w4 W6 := by
            rw [← hW6]
            have b5 := HV.out.trans (H5.out.mono HV.out.size)
            exact b5.alloc b5.size _
          have hge : w4.heap.size ≤ w5.heap.size := (HV.out.trans (H5.out.mono HV.out.size)).size
          rw [hW6] at hx6 ⊢
          have HB6 := Aside0.mk (And.intro B6 (And.intro hx6 hge))
          clear c0 c1 c2 c3 c4 c5 c6 c7 c8 p0 p1 s0 hW6 hx6 hge
          have q0 := plc_at H4.out.2.1 B6 (by omega) HP.out.1
          have q1 := plc_at H4.out.2.1 B6 (by omega) HP.out.2.1
          obtain ⟨c0, c1, c2, c3, c4, c5, c6, c7, c8⟩ := it_cells HC.out B6 hlt HQT.out
          dsimp only at c0 c1 c2 c3 c4 c5 c6 c7 c8
          clear B6
          have g0 : (0 : Int) ≤ (q : Int) + 1 := by omega
          have g1 : (q : Int) + 1 < (L.length : Int) + 1 := by omega
          have g2 : ((q : Int) + 1).toNat = q + 1 := by omega
          have g3 : (q : Int) < (L.length : Int) + 1 := by omega
          have g4 : IntKind.i64.wrap ((q : Int) + 1) = (q : Int) + 1 := by rw [IntKind.wrap_i64]; omega
          have g5 : IntKind.i64.wrap ((P1 : Int) - (P0 : Int)) = (P1 : Int) - (P0 : Int) := by rw [IntKind.wrap_i64]; omega
          have q2 : W6.cell? ⟨bb.block, bb.off + (q + 1), none⟩ = some (.int .i64 (P1 : Int)) := by simpa [Addr.add] using q1
          go_quiet (fail)
          by_cases hto : 0 < jt
          · obtain ⟨jj, p, u1, u2, u3, u4, u5⟩ := HU.out hto
            injection u5 with y0 y1 y2 y3 y4 y5 y6
            subst y0 y1 y2 y3 y4 y5 y6
            rw [HP.out.2.1] at u4
            have u6 := pos_bd M jj
            have g6 : IntKind.i64.wrap ((P1 : Int) + yn) = (P1 : Int) + yn := by rw [IntKind.wrap_i64]; omega
            have HUU := Aside0.mk (And.intro u1 (And.intro u2 (And.intro u3 (And.intro u4 u6))))
            clear u1 u2 u3 u4 u6 c0 c1 c2 c3 c4 c5 c6 c7 q0 q1 q2 HS HU
            go_wp2
            clear c8
            go_loopw [15, 16] (fun b i wx => ∃ (B : Bool) (j z : Nat), b = .bool B ∧ i = .int .i64 j ∧ j ≤ M.length ∧ (B = true ↔ ∃ j', j' < j ∧ (M.getD j' default).lab = jt ∧ pos M j' = (P1 : Int) + yn) ∧ wx = W6.drewN z) (fun _ i _ => M.length - (intOf i).toNat)
            case atStart => exact ⟨false, 0, nq, rfl, rfl, Nat.zero_le _, ⟨fun h => by (cases h), fun h => by (obtain ⟨j', h, _⟩ := h; omega)⟩, rfl⟩
            case round =>
              obtain ⟨B, j, z, rfl, rfl, hj, hB, rfl⟩ := hrel
              have HB' := Aside0.mk hB
              clear hB
              by_cases hjl : j < M.length
              · have hstep : ∀ P : Prop, (∃ j', j' < j + 1 ∧ (M.getD j' default).lab = jt ∧ pos M j' = (P1 : Int) + yn) ↔ ((∃ j', j' < j ∧ (M.getD j' default).lab = jt ∧ pos M j' = (P1 : Int) + yn) ∨ ((M.getD j default).lab = jt ∧ pos M j = (P1 : Int) + yn)) := by
                  intro _
                  constructor
                  · rintro ⟨j', h1, h2, h3⟩
                    rcases Nat.lt_or_ge j' j with h | h
                    · exact .inl ⟨j', h, h2, h3⟩
                    · obtain rfl : j' = j := by omega
                      exact .inr ⟨h2, h3⟩
                  · rintro (⟨j', h1, h2, h3⟩ | ⟨h2, h3⟩)
                    · exact ⟨j', by omega, h2, h3⟩
                    · exact ⟨j, by omega, h2, h3⟩
                have HST := Aside0.mk (hstep True)
                clear hstep
                cases B
                · have hnot : ¬ ∃ j', j' < j ∧ (M.getD j' default).lab = jt ∧ pos M j' = (P1 : Int) + yn := fun h => by have := HB'.out.mpr h; cases this
                  have HNO := Aside0.mk hnot
                  clear hnot
                  have hgj : M.getD j default = M[j] := by rw [List.getD_eq_getElem?_getD, List.getElem?_eq_getElem hjl]; rfl
                  rw [hgj] at HST
                  obtain ⟨t2, ht2⟩ : ∃ t2, M[j] = t2 := ⟨_, rfl⟩
                  obtain ⟨WZ, hWZ⟩ : ∃ W, W6.drewN z = W := ⟨_, rfl⟩
                  have BZ : Below w4.heap.size w4 WZ := by rw [← hWZ]; exact pw_below_drewN HB6.out.1 z
                  have XZ := blk_drewN HB6.out.2.1 z
                  rw [hWZ] at XZ ⊢
                  have HWZ := Aside0.mk hWZ
                  clear hWZ
                  have hpj := pos_bd M j
                  obtain ⟨PJ, hPJ⟩ : ∃ P : Nat, pos M j = (P : Int) := ⟨(pos M j).toNat, by omega⟩
                  have q0 := plc_at H4.out.2.1 BZ (show j ≤ L.length by omega) hPJ
                  have q1 := plc_at H4.out.2.1 BZ (show q + 1 ≤ L.length by omega) HP.out.2.1
                  have q2 : WZ.cell? ⟨bb.block, bb.off + (q + 1), none⟩ = some (.int .i64 (P1 : Int)) := by simpa [Addr.add] using q1
                  obtain ⟨-, -, -, -, -, -, -, c7, -⟩ := it_cells HC.out BZ hjl ht2
                  obtain ⟨-, -, -, -, -, -, -, -, c8⟩ := it_cells HC.out BZ hlt HQT.out
                  obtain ⟨-, -, -, -, -, -, x6⟩ := cell7 XZ
                  dsimp only at c7 c8
                  rw [ht2, hPJ] at HST
                  clear BZ XZ hgj ht2 hpj hPJ
                  generalize t2.lab = lb at *
                  have hjl2 : j < L.length := by omega
                  by_cases h1 : lb = jt
                  · have e1 : (lb == jt) = true := beq_iff_eq.mpr h1
                    have e2 : (jt == jt) = true := beq_self_eq_true _
                    subst h1
                    by_cases h2 : (PJ : Int) = (P1 : Int) + yn
                    · have e3 : ((PJ : Int) == (P1 : Int) + yn) = true := beq_iff_eq.mpr h2
                      go_wp2
                      go_quiet (fail)
                      go_wp2
                      exact ⟨⟨true, j + 1, z + nq, rfl, by simp, hjl, ⟨fun _ => HST.out.mpr (.inr ⟨by first | rfl | trivial, h2⟩), fun _ => rfl⟩, by rw [← HWZ.out, World.drewN_drewN]⟩, by simp [intOf]; omega⟩
                    · have e3 : ((PJ : Int) == (P1 : Int) + yn) = false := beq_eq_false_iff_ne.mpr h2
                      go_wp2
                      go_quiet (fail)
                      go_wp2
                      refine ⟨⟨false, j + 1, z + nq, rfl, by simp, hjl, ⟨fun h => by (cases h), fun h => ?_⟩, by rw [← HWZ.out, World.drewN_drewN]⟩, by simp [intOf]; omega⟩
                      rcases HST.out.mp h with h | h
                      · exact absurd h HNO.out
                      · exact absurd h.2 h2
                  · have e1 : (lb == jt) = false := beq_eq_false_iff_ne.mpr h1
                    go_wp2
                    go_quiet (fail)
                    go_wp2
                    refine ⟨⟨false, j + 1, z + nq, rfl, by simp, hjl, ⟨fun h => by (cases h), fun h => ?_⟩, by rw [← HWZ.out, World.drewN_drewN]⟩, by simp [intOf]; omega⟩
                    rcases HST.out.mp h with h | h
                    · exact absurd h HNO.out
                    · exact absurd h.1 h1
                · go_wp2
                  go_quiet (fail)
                  go_wp2
                  exact ⟨⟨true, j + 1, z + nq, rfl, by simp, hjl, ⟨fun _ => HST.out.mpr (.inl (HB'.out.mp (by first | rfl | trivial))), fun _ => rfl⟩, rfl⟩, by simp [intOf]; omega⟩
              · have hBt : B = true := HB'.out.mpr ⟨jj, by have := HUU.out.1; omega, HUU.out.2.1, by rw [HUU.out.2.2.1]; exact HUU.out.2.2.2.1⟩
                subst hBt
                obtain ⟨WZ, hWZ⟩ : ∃ W, W6.drewN z = W := ⟨_, rfl⟩
                have BZ : Below w4.heap.size w4 WZ := by rw [← hWZ]; exact pw_below_drewN HB6.out.1 z
                have XZ := blk_drewN HB6.out.2.1 z
                rw [hWZ] at XZ ⊢
                have HZ := Aside0.mk (And.intro BZ XZ)
                obtain ⟨x0, x1, x2, x3, x4, x5, x6⟩ := cell7 XZ
                obtain ⟨z0, z1, z2, z3, z4, z5, z6⟩ := froz7 XZ
                clear hWZ BZ XZ
                go_upto_region 29 with fail
                obtain ⟨W7, hW7⟩ : ∃ W, WZ.setCell ⟨w5.heap.size, 6, none⟩ (.int .i64 0) = W := ⟨_, rfl⟩
                have B7 : Below w4.heap.size w4 W7 := by rw [← hW7]; exact HZ.out.1.setCell HB6.out.2.2 _
                have X7 := blk_put HZ.out.2 6 (.int .i64 0) #[.int .i64 yo, .bool yw, .int .i64 yr, .int .i64 yb, .int .i64 yi, .int .i64 yc, .int .i64 0] rfl
                rw [hW7] at X7 ⊢
                clear hW7 x0 x1 x2 x3 x4 x5 x6 z0 z1 z2 z3 z4 z5 z6
                obtain ⟨c0, c1, c2, c3, c4, c5, c6, c7, c8⟩ := it_cells HC.out B7 hlt HQT.out
                obtain ⟨x0, x1, x2, x3, x4, x5, x6⟩ := cell7 X7
                dsimp only at c0 c1 c2 c3 c4 c5 c6 c7 c8
                have HB7 := Aside0.mk B7
                clear B7 X7
                have hq0 := eqx ⟨yo, yw, yr, yb, yi, yc, 0⟩ ⟨yo, yw, yr, yb, yi, yc, 0⟩
                rw [show eqX ⟨yo, yw, yr, yb, yi, yc, 0⟩ ⟨yo, yw, yr, yb, yi, yc, 0⟩ = true from (eqX_iff _ _).mpr rfl] at hq0
                dsimp only [xv] at hq0
                go_quiet (fail)
                go_wp2
                exact ⟨⟨q + 1, by simp, hlt, by rw [HN.out]; simp, pw_below_drewN HB7.out _⟩, by simp [intOf]; omega⟩
          · have hyx := HS.out (by first | exact hto | omega)
            injection hyx with y0 y1 y2 y3 y4 y5 y6
            subst y0 y1 y2 y3 y4 y5 y6
            obtain ⟨W7, hW7⟩ : ∃ W, W6.drewN nq = W := ⟨_, rfl⟩
            have B7 : Below w4.heap.size w4 W7 := by rw [← hW7]; exact pw_below_drewN HB6.out.1 nq
            have X7 := blk_drewN HB6.out.2.1 nq
            rw [hW7] at X7 ⊢
            clear hW7 c0 c1 c2 c3 c4 c5 c6 c7 c8 q0 q1 q2
            obtain ⟨c0, c1, c2, c3, c4, c5, c6, c7, c8⟩ := it_cells HC.out B7 hlt HQT.out
            obtain ⟨x0, x1, x2, x3, x4, x5, x6⟩ := cell7 X7
            dsimp only at c0 c1 c2 c3 c4 c5 c6 c7 c8
            have HB7 := Aside0.mk B7
            clear B7 X7
            have hq0 := eqx ⟨yo, yw, yr, yb, yi, yc, yn⟩ ⟨yo, yw, yr, yb, yi, yc, yn⟩
            rw [show eqX ⟨yo, yw, yr, yb, yi, yc, yn⟩ ⟨yo, yw, yr, yb, yi, yc, yn⟩ = true from (eqX_iff _ _).mpr rfl] at hq0
            dsimp only [xv] at hq0
            go_wp2
            go_quiet (fail)
            go_wp2
            exact ⟨⟨q + 1, by simp, hlt, by rw [HN.out]; simp, pw_below_drewN HB7.out _⟩, by simp [intOf]; omega⟩
      · obtain rfl : q = M.length := by omega
        rw [hL]
        have HF := Aside0.mk (H4.out.1.trans (HW.out.mono H4.out.1.size))
        go_wp2
        go_ret
        exact ⟨by first | rfl | simp, HF.out⟩
  · obtain ⟨j1, j2, j3, j4, -⟩ := HJ.out.2.2
    have j5 : (strOfNums s).size ≤ 1500 := by omega
    have j6 : ((strOfNums s).size : Int) = pos M 100 := by rw [j1]; exact j4
    go_enter Tryd.func12, Tryd.ntmps12
    go_wp2_with (first
      | (go_at_call 24; (with_reducible refine HE.out.mono ?_); rintro e w1 ⟨rfl, hb⟩; have H1 := Aside0.mk hb; clear hb)
      | (go_at_call 28; (with_reducible refine (HA.out _ H1.out).mono ?_); intro e w2 hp; unfold AsmAns at hp; rw [HQ.out] at hp; obtain ⟨rfl, hb⟩ := hp; have H2 := Aside0.mk (H1.out.trans (hb.mono H1.out.size)); clear hb)
      | (go_at_call 25; (with_reducible refine (HB.out _ H2.out).mono ?_); rintro e w3 ⟨B, cB, rfl, hr, hb⟩; obtain ⟨bb, rfl, -⟩ := hr.2.2 (by omega); have H3 := Aside0.mk (And.intro (H2.out.trans (hb.mono H2.out.size)) hr); clear hb hr)
      | (go_at_call 30; (with_reducible refine (HJ.out.2.1 _ (HT.out.1.below H3.out.1)).mono ?_); rintro e w4 ⟨C, cC, rfl, hr, hb⟩; have H4 := Aside0.mk (And.intro (H3.out.1.trans (hb.mono H3.out.1.size)) (And.intro (H3.out.2.below hb) hr)); clear hb hr; obtain ⟨b2, e2, g2⟩ := H4.out.2.1.2.2 (by omega); obtain rfl := Option.some.inj e2; have cn := g2 100 (by omega); rw [getD_pos M _ _ (Nat.le_refl _), ← j6] at cn; have cn2 := addr100 cn; clear g2 e2))
    have HC := Aside0.mk (HT.out.2.1.below H4.out.1)
    go_loopw [10, 11] (fun k i wr => ∃ q : Nat, i = .int .i64 q ∧ q ≤ M.length ∧ k = .int .i64 (ins M q).length ∧ Below w4.heap.size w4 wr) (fun _ i _ => M.length - (intOf i).toNat)
    case atStart => exact ⟨0, rfl, Nat.zero_le _, rfl, by with_reducible exact Below.refl _ _⟩
    case round =>
      obtain ⟨q, rfl, hq, rfl, hbw⟩ := hrel
      have HW := Aside0.mk hbw
      have hL := HT.out.2.2
      by_cases hlt : q < M.length
      · have hlt2 := hlt
        rw [hL] at hlt2
        have hg : M.getD q default = M[q] := by rw [List.getD_eq_getElem?_getD, List.getElem?_eq_getElem hlt]; rfl
        obtain ⟨hnb, hcs⟩ := HC.out.below hbw
        obtain ⟨a, hA, hab, hc⟩ := hcs (by omega)
        subst hA
        obtain ⟨c0, c1, c2, c3, c4, c5, c6, c7, c8⟩ := hc q hlt
        obtain ⟨_, _, h3⟩ := H4.out.2.1.below hbw
        obtain ⟨b2, e2, g2⟩ := h3 (by omega)
        obtain rfl := Option.some.inj e2
        have p0 := g2 q (by omega)
        have p1 := g2 (q + 1) (by omega)
        rw [getD_pos M _ _ (by omega)] at p0 p1
        have HG := Aside0.mk hg
        have HX := Aside0.mk (at_of (L := M) (s := s) (by omega) (fun t h => (HT.out.2.1.1 t h).1) HQ.out hlt)
        have HI := Aside0.mk (And.intro hcs (And.intro hc g2))
        rw [hg] at HX
        clear hcs hc h3 g2 e2 hg hbw hnb
        by_cases hl : 0 < M[q].lab
        · have hk := Aside0.mk (ins_skip (L := M) (i := q) (by rw [HG.out]; exact hl))
          generalize M[q] = t at *
          go_wp2
          refine ⟨⟨q + 1, by simp, by omega, by rw [hk.out], HW.out⟩, by simp [intOf]; omega⟩
        · have ha := HX.out hl
          have hp0 := pos_bd M q
          have hp1 := pos_bd M (q + 1)
          have hone := ha.one
          rw [hL] at hone
          obtain ⟨_, _, h4⟩ := H4.out.2.2.below HW.out
          obtain ⟨cc, rfl, g4⟩ := h4 (by omega)
          have s0 := g4 _ hone
          rw [← hL, ha.two] at s0
          obtain ⟨m, d1, d2, d3, d4⟩ := ha.dec
          have hle := ha.le
          have HS := Aside0.mk ha.still
          have HU := Aside0.mk ha.jump
          have HN := Aside0.mk ha.next
          rw [HG.out] at HS HU
          obtain ⟨P0, hP0⟩ : ∃ P : Nat, pos M q = (P : Int) := ⟨(pos M q).toNat, by omega⟩
          obtain ⟨P1, hP1⟩ : ∃ P : Nat, pos M (q + 1) = (P : Int) := ⟨(pos M (q + 1)).toNat, by omega⟩
          rw [hP0] at p0 s0 d1 d2 hle hp0
          rw [hP1] at p1 d2 hp1
          rw [Int.toNat_natCast] at d1
          have hle2 : P0 ≤ s.length := by omega
          have hA : decA (bl ((strOfNums s).extract P0 (strOfNums s).size)) = .tuple #[xv (res M q), .int .i64 m, .int .i64 0] := by
            have hbl : bl ((strOfNums s).extract P0 (strOfNums s).size) = s.drop P0 := by
              rw [bl_extract, HJ.out.2.2.2.2.2.2]
              exact List.take_of_length_le (by rw [List.length_drop, j1]; exact Nat.le_refl _)
            unfold decA
            rw [hbl, d1]
          have hD := fun W (hW : Tab W) => Decode ((strOfNums s).extract P0 (strOfNums s).size) W hW (by rw [ByteArray.size_extract]; omega)
          rw [hA, j1] at hD
          have HP := Aside0.mk (And.intro hP0 (And.intro hP1 HI.out))
          clear hA d1 h4 g4 ha HX hP0 hP1 HI
          have HD := Aside0.mk hD
          clear hD
          obtain ⟨t, ht⟩ : ∃ t, M[q] = t := ⟨_, rfl⟩
          rw [ht] at c0 c1 c2 c3 c4 c5 c6 c7 c8 HS HU hl
          have HQT := Aside0.mk ht
          clear ht
          obtain ⟨y, hy⟩ : ∃ y, res M q = y := ⟨_, rfl⟩
          rw [hy] at HD HS HU
          clear hy
          obtain ⟨⟨o, wd, r, b, i, c, nn⟩, lab, jt⟩ := t
          obtain ⟨yo, yw, yr, yb, yi, yc, yn⟩ := y
          dsimp only at c0 c1 c2 c3 c4 c5 c6 c7 c8 hl
          have f1 : ¬ ((ins M 100).length : Int) ≤ ((ins M q).length : Int) := by omega
          have e1 : decide (((ins M 100).length : Int) ≤ ((ins M q).length : Int)) = false := decide_eq_false f1
          have f2 : ¬ (ins M 100).length ≤ (ins M q).length := by omega
          have f3 : ((ins M q).length : Int) < ((ins M 100).length : Int) := by omega
          go_upto_region 15 with fail
          go_quiet (fail)
          have HV := Aside0.mk (show Below w4.heap.size w4 (wr.drewN nq) from pw_below_drewN HW.out nq)
          go_upto_region 18 with (go_at_call 20; (with_reducible refine (HD.out _ (HT.out.1.below (H4.out.1.trans (HV.out.mono H4.out.1.size)))).mono ?_); rintro e w5 ⟨rfl, hb⟩; have H5 := Aside0.mk hb; clear hb)
          obtain ⟨W6, hW6⟩ : ∃ W, w5.alloc (.cells #[.int .i64 yo, .bool yw, .int .i64 yr, .int .i64 yb, .int .i64 yi, .int .i64 yc, .int .i64 yn] 23) = W := ⟨_, rfl⟩
          have hx6 := blk_new w5 (.cells #[.int .i64 yo, .bool yw, .int .i64 yr, .int .i64 yb, .int .i64 yi, .int .i64 yc, .int .i64 yn] 23)
          have B6 : Below w4.heap.size w4 W6 := by
            rw [← hW6]
            have b5 := HV.out.trans (H5.out.mono HV.out.size)
            exact b5.alloc b5.size _
          have hge : w4.heap.size ≤ w5.heap.size := (HV.out.trans (H5.out.mono HV.out.size)).size
          rw [hW6] at hx6 ⊢
          have HB6 := Aside0.mk (And.intro B6 (And.intro hx6 hge))
          clear c0 c1 c2 c3 c4 c5 c6 c7 c8 p0 p1 s0 hW6 hx6 hge
          have q0 := plc_at H4.out.2.1 B6 (by omega) HP.out.1
          have q1 := plc_at H4.out.2.1 B6 (by omega) HP.out.2.1
          obtain ⟨c0, c1, c2, c3, c4, c5, c6, c7, c8⟩ := it_cells HC.out B6 hlt HQT.out
          dsimp only at c0 c1 c2 c3 c4 c5 c6 c7 c8
          clear B6
          have g0 : (0 : Int) ≤ (q : Int) + 1 := by omega
          have g7 : (q : Int) + 1 < 101 := by omega
          have g8 : (q : Int) < 101 := by omega
          have g1 : (q : Int) + 1 < (100 : Int) + 1 := by omega
          have g2 : ((q : Int) + 1).toNat = q + 1 := by omega
          have g3 : (q : Int) < (100 : Int) + 1 := by omega
          have g4 : IntKind.i64.wrap ((q : Int) + 1) = (q : Int) + 1 := by rw [IntKind.wrap_i64]; omega
          have g5 : IntKind.i64.wrap ((P1 : Int) - (P0 : Int)) = (P1 : Int) - (P0 : Int) := by rw [IntKind.wrap_i64]; omega
          have q2 : W6.cell? ⟨bb.block, bb.off + (q + 1), none⟩ = some (.int .i64 (P1 : Int)) := by simpa [Addr.add] using q1
          go_quiet (fail)
          by_cases hto : 0 < jt
          · obtain ⟨jj, p, u1, u2, u3, u4, u5⟩ := HU.out hto
            injection u5 with y0 y1 y2 y3 y4 y5 y6
            subst y0 y1 y2 y3 y4 y5 y6
            rw [HP.out.2.1] at u4
            have u6 := pos_bd M jj
            have g6 : IntKind.i64.wrap ((P1 : Int) + yn) = (P1 : Int) + yn := by rw [IntKind.wrap_i64]; omega
            have HUU := Aside0.mk (And.intro u1 (And.intro u2 (And.intro u3 (And.intro u4 u6))))
            clear u1 u2 u3 u4 u6 c0 c1 c2 c3 c4 c5 c6 c7 q0 q1 q2 HS HU
            go_wp2
            clear c8
            go_loopw [15, 16] (fun b i wx => ∃ (B : Bool) (j z : Nat), b = .bool B ∧ i = .int .i64 j ∧ j ≤ M.length ∧ (B = true ↔ ∃ j', j' < j ∧ (M.getD j' default).lab = jt ∧ pos M j' = (P1 : Int) + yn) ∧ wx = W6.drewN z) (fun _ i _ => M.length - (intOf i).toNat)
            case atStart => exact ⟨false, 0, nq, rfl, rfl, Nat.zero_le _, ⟨fun h => by (cases h), fun h => by (obtain ⟨j', h, _⟩ := h; omega)⟩, rfl⟩
            case round =>
              obtain ⟨B, j, z, rfl, rfl, hj, hB, rfl⟩ := hrel
              have HB' := Aside0.mk hB
              clear hB
              by_cases hjl : j < M.length
              · have hstep : ∀ P : Prop, (∃ j', j' < j + 1 ∧ (M.getD j' default).lab = jt ∧ pos M j' = (P1 : Int) + yn) ↔ ((∃ j', j' < j ∧ (M.getD j' default).lab = jt ∧ pos M j' = (P1 : Int) + yn) ∨ ((M.getD j default).lab = jt ∧ pos M j = (P1 : Int) + yn)) := by
                  intro _
                  constructor
                  · rintro ⟨j', h1, h2, h3⟩
                    rcases Nat.lt_or_ge j' j with h | h
                    · exact .inl ⟨j', h, h2, h3⟩
                    · obtain rfl : j' = j := by omega
                      exact .inr ⟨h2, h3⟩
                  · rintro (⟨j', h1, h2, h3⟩ | ⟨h2, h3⟩)
                    · exact ⟨j', by omega, h2, h3⟩
                    · exact ⟨j, by omega, h2, h3⟩
                have HST := Aside0.mk (hstep True)
                clear hstep
                cases B
                · have hnot : ¬ ∃ j', j' < j ∧ (M.getD j' default).lab = jt ∧ pos M j' = (P1 : Int) + yn := fun h => by have := HB'.out.mpr h; cases this
                  have HNO := Aside0.mk hnot
                  clear hnot
                  have hgj : M.getD j default = M[j] := by rw [List.getD_eq_getElem?_getD, List.getElem?_eq_getElem hjl]; rfl
                  rw [hgj] at HST
                  obtain ⟨t2, ht2⟩ : ∃ t2, M[j] = t2 := ⟨_, rfl⟩
                  obtain ⟨WZ, hWZ⟩ : ∃ W, W6.drewN z = W := ⟨_, rfl⟩
                  have BZ : Below w4.heap.size w4 WZ := by rw [← hWZ]; exact pw_below_drewN HB6.out.1 z
                  have XZ := blk_drewN HB6.out.2.1 z
                  rw [hWZ] at XZ ⊢
                  have HWZ := Aside0.mk hWZ
                  clear hWZ
                  have hpj := pos_bd M j
                  obtain ⟨PJ, hPJ⟩ : ∃ P : Nat, pos M j = (P : Int) := ⟨(pos M j).toNat, by omega⟩
                  have q0 := plc_at H4.out.2.1 BZ (show j ≤ 100 by omega) hPJ
                  have q1 := plc_at H4.out.2.1 BZ (show q + 1 ≤ 100 by omega) HP.out.2.1
                  have q2 : WZ.cell? ⟨bb.block, bb.off + (q + 1), none⟩ = some (.int .i64 (P1 : Int)) := by simpa [Addr.add] using q1
                  obtain ⟨-, -, -, -, -, -, -, c7, -⟩ := it_cells HC.out BZ hjl ht2
                  obtain ⟨-, -, -, -, -, -, -, -, c8⟩ := it_cells HC.out BZ hlt HQT.out
                  obtain ⟨-, -, -, -, -, -, x6⟩ := cell7 XZ
                  dsimp only at c7 c8
                  rw [ht2, hPJ] at HST
                  clear BZ XZ hgj ht2 hpj hPJ
                  generalize t2.lab = lb at *
                  have hjl2 : j < 100 := by omega
                  by_cases h1 : lb = jt
                  · have e1 : (lb == jt) = true := beq_iff_eq.mpr h1
                    have e2 : (jt == jt) = true := beq_self_eq_true _
                    subst h1
                    by_cases h2 : (PJ : Int) = (P1 : Int) + yn
                    · have e3 : ((PJ : Int) == (P1 : Int) + yn) = true := beq_iff_eq.mpr h2
                      go_wp2
                      go_quiet (fail)
                      go_wp2
                      exact ⟨⟨true, j + 1, z + nq, rfl, by simp, hjl, ⟨fun _ => HST.out.mpr (.inr ⟨by first | rfl | trivial, h2⟩), fun _ => rfl⟩, by rw [← HWZ.out, World.drewN_drewN]⟩, by simp [intOf]; omega⟩
                    · have e3 : ((PJ : Int) == (P1 : Int) + yn) = false := beq_eq_false_iff_ne.mpr h2
                      go_wp2
                      go_quiet (fail)
                      go_wp2
                      refine ⟨⟨false, j + 1, z + nq, rfl, by simp, hjl, ⟨fun h => by (cases h), fun h => ?_⟩, by rw [← HWZ.out, World.drewN_drewN]⟩, by simp [intOf]; omega⟩
                      rcases HST.out.mp h with h | h
                      · exact absurd h HNO.out
                      · exact absurd h.2 h2
                  · have e1 : (lb == jt) = false := beq_eq_false_iff_ne.mpr h1
                    go_wp2
                    go_quiet (fail)
                    go_wp2
                    refine ⟨⟨false, j + 1, z + nq, rfl, by simp, hjl, ⟨fun h => by (cases h), fun h => ?_⟩, by rw [← HWZ.out, World.drewN_drewN]⟩, by simp [intOf]; omega⟩
                    rcases HST.out.mp h with h | h
                    · exact absurd h HNO.out
                    · exact absurd h.1 h1
                · go_wp2
                  go_quiet (fail)
                  go_wp2
                  exact ⟨⟨true, j + 1, z + nq, rfl, by simp, hjl, ⟨fun _ => HST.out.mpr (.inl (HB'.out.mp (by first | rfl | trivial))), fun _ => rfl⟩, rfl⟩, by simp [intOf]; omega⟩
              · have hBt : B = true := HB'.out.mpr ⟨jj, by have := HUU.out.1; omega, HUU.out.2.1, by rw [HUU.out.2.2.1]; exact HUU.out.2.2.2.1⟩
                subst hBt
                obtain ⟨WZ, hWZ⟩ : ∃ W, W6.drewN z = W := ⟨_, rfl⟩
                have BZ : Below w4.heap.size w4 WZ := by rw [← hWZ]; exact pw_below_drewN HB6.out.1 z
                have XZ := blk_drewN HB6.out.2.1 z
                rw [hWZ] at XZ ⊢
                have HZ := Aside0.mk (And.intro BZ XZ)
                obtain ⟨x0, x1, x2, x3, x4, x5, x6⟩ := cell7 XZ
                obtain ⟨z0, z1, z2, z3, z4, z5, z6⟩ := froz7 XZ
                clear hWZ BZ XZ
                go_upto_region 29 with fail
                obtain ⟨W7, hW7⟩ : ∃ W, WZ.setCell ⟨w5.heap.size, 6, none⟩ (.int .i64 0) = W := ⟨_, rfl⟩
                have B7 : Below w4.heap.size w4 W7 := by rw [← hW7]; exact HZ.out.1.setCell HB6.out.2.2 _
                have X7 := blk_put HZ.out.2 6 (.int .i64 0) #[.int .i64 yo, .bool yw, .int .i64 yr, .int .i64 yb, .int .i64 yi, .int .i64 yc, .int .i64 0] rfl
                rw [hW7] at X7 ⊢
                clear hW7 x0 x1 x2 x3 x4 x5 x6 z0 z1 z2 z3 z4 z5 z6
                obtain ⟨c0, c1, c2, c3, c4, c5, c6, c7, c8⟩ := it_cells HC.out B7 hlt HQT.out
                obtain ⟨x0, x1, x2, x3, x4, x5, x6⟩ := cell7 X7
                dsimp only at c0 c1 c2 c3 c4 c5 c6 c7 c8
                have HB7 := Aside0.mk B7
                clear B7 X7
                have hq0 := eqx ⟨yo, yw, yr, yb, yi, yc, 0⟩ ⟨yo, yw, yr, yb, yi, yc, 0⟩
                rw [show eqX ⟨yo, yw, yr, yb, yi, yc, 0⟩ ⟨yo, yw, yr, yb, yi, yc, 0⟩ = true from (eqX_iff _ _).mpr rfl] at hq0
                dsimp only [xv] at hq0
                go_quiet (fail)
                go_wp2
                exact ⟨⟨q + 1, by simp, hlt, by rw [HN.out]; simp, pw_below_drewN HB7.out _⟩, by simp [intOf]; omega⟩
          · have hyx := HS.out (by first | exact hto | omega)
            injection hyx with y0 y1 y2 y3 y4 y5 y6
            subst y0 y1 y2 y3 y4 y5 y6
            obtain ⟨W7, hW7⟩ : ∃ W, W6.drewN nq = W := ⟨_, rfl⟩
            have B7 : Below w4.heap.size w4 W7 := by rw [← hW7]; exact pw_below_drewN HB6.out.1 nq
            have X7 := blk_drewN HB6.out.2.1 nq
            rw [hW7] at X7 ⊢
            clear hW7 c0 c1 c2 c3 c4 c5 c6 c7 c8 q0 q1 q2
            obtain ⟨c0, c1, c2, c3, c4, c5, c6, c7, c8⟩ := it_cells HC.out B7 hlt HQT.out
            obtain ⟨x0, x1, x2, x3, x4, x5, x6⟩ := cell7 X7
            dsimp only at c0 c1 c2 c3 c4 c5 c6 c7 c8
            have HB7 := Aside0.mk B7
            clear B7 X7
            have hq0 := eqx ⟨yo, yw, yr, yb, yi, yc, yn⟩ ⟨yo, yw, yr, yb, yi, yc, yn⟩
            rw [show eqX ⟨yo, yw, yr, yb, yi, yc, yn⟩ ⟨yo, yw, yr, yb, yi, yc, yn⟩ = true from (eqX_iff _ _).mpr rfl] at hq0
            dsimp only [xv] at hq0
            go_wp2
            go_quiet (fail)
            go_wp2
            exact ⟨⟨q + 1, by simp, hlt, by rw [HN.out]; simp, pw_below_drewN HB7.out _⟩, by simp [intOf]; omega⟩
      · obtain rfl : q = M.length := by omega
        rw [hL]
        have HF := Aside0.mk (H4.out.1.trans (HW.out.mono H4.out.1.size))
        go_wp2
        go_ret
        exact ⟨by first | rfl | simp, HF.out⟩
/-- the law, for a slice of items as a parameter -/
theorem JumpsT (v : Value) (w : World) (ht : Tab w) (hv : TsIs w v) :
    Calls Tryd.prog 12 #[v] w fun e w' => e = .returned (.bool true) ∧ Below w.heap.size w w' := by
  obtain ⟨L, A, cap, rfl, hc, hl, hi⟩ := hv
  have key : ∀ (M : List It) (n : Nat), Its w A M → M.length = n → n ≤ 100 → ((L.length ≤ 100 ∧ n = L.length) ∨ (¬ L.length ≤ 100 ∧ n = 100)) →
      Calls Tryd.prog 12 #[.slice A L.length cap] w fun e w' => e = .returned (.bool true) ∧ Below w.heap.size w w' := by
    intro M n hM h1 h2 h3
    cases hq : asmB M with
    | none => exact JumpsNo L M A cap n w ht hM hc hl h1 h2 h3 hq
    | some s => exact JumpsYes L M A cap n s w ht hM hc hl h1 h2 h3 hq
  by_cases h : L.length ≤ 100
  · exact key L L.length hi rfl h (.inl ⟨h, rfl⟩)
  · exact key (L.take 100) 100 (hi.take3 100) (by rw [List.length_take]; omega) (Nat.le_refl _) (.inr ⟨h, rfl⟩)
end Go.Proofs.YtkfinaongajhmaaDoor.X
