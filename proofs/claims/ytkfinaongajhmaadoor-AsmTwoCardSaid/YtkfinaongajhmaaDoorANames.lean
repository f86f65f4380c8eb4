/- AsmNames: the walk. -/
import Derived.Test.YtkfinaongajhmaaDoorAExamples
import Derived.Test.YtkfinaongajhmaaDoorAShift
namespace Go.Proofs.YtkfinaongajhmaaDoor.X
open Go.Ob Go.Ob.Xc Go.RowKit Go.Proofs.YtkfinaongajhmaaDoorW.PrintWords Go.Proofs.YtkfinaongajhmaaDoorW.PrintMore
attribute [local go_sem] max2_int min2_int max_two min_two
set_option linter.unusedVariables false
set_option linter.unusedSimpArgs false
/-- an item's cells -/
def c9 (t : It) : List Value := [.int .i64 t.x.op, .bool t.x.wide, .int .i64 t.x.r, .int .i64 t.x.b, .int .i64 t.x.i, .int .i64 t.x.c, .int .i64 t.x.n, .int .i64 t.lab, .int .i64 t.to]
/-- items' cells -/
def cl : List It → List Value
  | [] => []
  | t :: l => c9 t ++ cl l
theorem cl_append (l m : List It) : cl (l ++ m) = cl l ++ cl m := by
  induction l with
  | nil => rfl
  | cons t l ih => simp [cl, ih]
theorem cl_at : ∀ (L : List It) (i : Nat) (h : i < L.length) (j : Nat), j < 9 → (cl L)[i * 9 + j]? = (c9 L[i])[j]?
  | t :: l, 0, _, j, hj => by
    show (c9 t ++ cl l)[0 * 9 + j]? = (c9 t)[j]?
    rw [Nat.zero_mul, Nat.zero_add, List.getElem?_append_left (by show j < 9; exact hj)]
  | t :: l, i + 1, h, j, hj => by
    show (c9 t ++ cl l)[(i + 1) * 9 + j]? = (c9 (l[i]'(by simpa using h)))[j]?
    rw [List.getElem?_append_right (by show 9 ≤ _; omega), show (i + 1) * 9 + j - (c9 t).length = i * 9 + j by show (i + 1) * 9 + j - 9 = _; omega]
    exact cl_at l i (by simpa using h) j hj
theorem nine (W : World) (t : It) : ∀ (j : Nat) (u : Value), (c9 t)[j]? = some u → (W.alloc (.cells #[.int .i64 t.x.op, .bool t.x.wide, .int .i64 t.x.r, .int .i64 t.x.b, .int .i64 t.x.i, .int .i64 t.x.c, .int .i64 t.x.n, .int .i64 t.lab, .int .i64 t.to] 56)).cell? ((⟨W.heap.size, 0, none⟩ : Addr).add j) = some u := by
  intro j u hj
  have hb := blk_cell (blk_new W (.cells #[.int .i64 t.x.op, .bool t.x.wide, .int .i64 t.x.r, .int .i64 t.x.b, .int .i64 t.x.i, .int .i64 t.x.c, .int .i64 t.x.n, .int .i64 t.lab, .int .i64 t.to] 56)) j
  have ha : (⟨W.heap.size, 0, none⟩ : Addr).add j = ⟨W.heap.size, j, none⟩ := by
    unfold Addr.add
    split
    · rename_i h0; rw [h0]
    · simp
  rw [ha, hb, ← hj]
  simp [c9]
theorem its_own {w : World} {base : Nat} {v : Value} {L : List It} (h : w.ownsRow base 56 9 v L.length (cl L)) (hn : ∀ t ∈ L, NT t) : ∃ (A : Option Addr) (cap : Nat), v = .slice A L.length cap ∧ Its w A L := by
  obtain ⟨hlen, hv⟩ := id h
  rcases hv with ⟨rfl, h0⟩ | ⟨g, cap, cur, rfl, hg, hh, hcn, hcm, hcs, htk⟩
  · exact ⟨none, 0, by rw [h0], hn, fun c => absurd c (by omega)⟩
  · refine ⟨some ⟨g, 0, none⟩, cap, rfl, hn, fun _ => ⟨_, rfl, blk_lt hh, fun i hi => ?_⟩⟩
    have hc := fun j (hj : j < 9) => (h.cellAt (i * 9 + j) (by omega)).trans (cl_at L i hi j hj)
    have ha : (⟨g, 0, none⟩ : Addr).add (i * 9) = ⟨g, i * 9, none⟩ := by
      unfold Addr.add
      split
      · rename_i h0; rw [h0]
      · simp
    rw [ha]
    exact ⟨hc 0 (by decide), hc 1 (by decide), hc 2 (by decide), hc 3 (by decide), hc 4 (by decide), hc 5 (by decide), hc 6 (by decide), hc 7 (by decide), hc 8 (by decide)⟩
theorem Its.take {w : World} {A : Option Addr} {L : List It} (h : Its w A L) (n : Nat) : Its w A (L.take n) := by
  refine ⟨fun t ht => h.1 t (List.mem_of_mem_take ht), fun h0 => ?_⟩
  rw [List.length_take] at h0
  obtain ⟨a, rfl, ha, hc⟩ := h.2 (by omega)
  refine ⟨a, rfl, ha, fun i hi => ?_⟩
  have hi' := hi
  rw [List.length_take] at hi'
  rw [List.getElem_take]
  exact hc i (by omega)
theorem info_item : (Tryd.prog.info? 56).map (fun i => (i.zero, i.size, i.bytes)) = some (some (.agg #[.int .i64 0, .bool false, .int .i64 0, .int .i64 0, .int .i64 0, .int .i64 0, .int .i64 0, .int .i64 0, .int .i64 0]), 9, 72) := by kernel_rfl
set_option maxHeartbeats 16000000 in
set_option maxRecDepth 100000 in
theorem NamesWalk (L M : List It) (A : Option Addr) (cap n : Nat) (d0 d : Int) (w : World) (ht : Tab w) (hi : Its w A L) (hcap : L.length ≤ cap) (hlen : L.length ≤ 9223372036854775807) (hM : M = L.take n) (hnM : M.length = n) (hn100 : n ≤ 100)
    (hn : (L.length ≤ 100 ∧ n = L.length) ∨ (¬ L.length ≤ 100 ∧ n = 100)) (hd0 : -9223372036854775808 ≤ d0 ∧ d0 ≤ 9223372036854775807) (hd : (0 ≤ d0 ∧ d0 % 1000000 = d) ∨ (d0 < 0 ∧ -((d0 + 1).tmod 1000000) = d)) (hdb : 0 ≤ d ∧ d < 1000000) :
    Calls Tryd.prog 13 #[.slice A L.length cap, .int .i64 d0] w fun e w' => e = .returned (.bool true) ∧ Below w.heap.size w w' := by
  obtain ⟨i0, hi0, hz0, hz1, hz2⟩ := info_parts info_item
  have hiM : Its w A M := by rw [hM]; exact hi.take n
  have HE := Aside0.mk (AExamples w ht)
  have HT := Aside0.mk (And.intro ht hiM)
  have HM := Aside0.mk hnM
  clear ht hi hiM hM hnM
  obtain ⟨d1, d2⟩ := hdb
  obtain ⟨e1, e2⟩ := hd0
  rcases hn with ⟨hn, rfl⟩ | ⟨hn, rfl⟩ <;> rcases hd with ⟨hs, hd⟩ | ⟨hs, hd⟩
  all_goals
    go_enter Tryd.func13, Tryd.ntmps13
    go_wp2_with (go_at_call 24; (with_reducible refine HE.out.mono ?_); rintro e w1 ⟨rfl, hb⟩; have H1 := Aside0.mk hb; clear hb)
    try rw [hd]
    have HD := Aside0.mk hd
    clear hd
    have hA := fun W (hW : Below w.heap.size w W) => Assemble M A cap W (HT.out.1.below hW) (by rw [HM.out]; omega) (HT.out.2.below hW)
    rw [HM.out] at hA
    have HA := Aside0.mk hA
    clear hA
    go_loopw [6, 7] (fun v i wr => ∃ k : Nat, i = .int .i64 k ∧ k ≤ M.length ∧ wr.ownsRow w.heap.size 56 9 v k (cl ((M.map (sh d)).take k)) ∧ (∀ t ∈ M.take k, t.lab ≤ 1000000 ∧ t.to ≤ 1000000) ∧ Below w.heap.size w wr) (fun _ i _ => M.length - (intOf i).toNat)
    case atStart => exact ⟨0, rfl, Nat.zero_le _, World.ownsRow_nil _ _ _ _, (fun t ht => by simp at ht), H1.out⟩
    case round =>
      obtain ⟨k, rfl, hk, hown, hlb, hbw⟩ := hrel
      have HLB := Aside0.mk hlb
      clear hlb
      have HW := Aside0.mk hbw
      have HO := Aside0.mk hown
      clear hown
      by_cases hlt : k < M.length
      · have hlt2 := hlt
        rw [HM.out] at hlt2
        obtain ⟨hnb, hcs⟩ := HT.out.2.below hbw
        obtain ⟨a, hA, hab, hc⟩ := hcs (by omega)
        subst hA
        obtain ⟨c0, c1, c2, c3, c4, c5, c6, c7, c8⟩ := hc k hlt
        have HY := Aside0.mk (show (M.map (sh d)).take (k + 1) = (M.map (sh d)).take k ++ [sh d M[k]] by rw [List.take_succ_eq_append_getElem (by simpa using hlt), List.getElem_map])
        have HZ := Aside0.mk (List.take_succ_eq_append_getElem hlt)
        have HX := Aside0.mk (hnb M[k] (List.getElem_mem hlt))
        have hu := Tryd.underlying56
        clear hbw hc hcs hnb
        generalize hq : M[k] = t at *
        clear hq
        obtain ⟨⟨o, wd, r, b, i, c, nn⟩, lab, jt⟩ := t
        dsimp only at c0 c1 c2 c3 c4 c5 c6 c7 c8
        obtain ⟨-, ⟨x1, x2⟩, x3, x4⟩ := HX.out
        dsimp only at x1 x2 x3 x4
        by_cases g1 : 1000000 < lab
        · go_wp2
          go_ret
          exact ⟨rfl, HW.out.alloc HW.out.size _⟩
        by_cases g2 : 1000000 < jt
        · have g3 : lab ≤ 1000000 := by omega
          go_wp2
          go_ret
          exact ⟨rfl, HW.out.alloc HW.out.size _⟩
        have g3 : lab ≤ 1000000 := by omega
        have g4 : jt ≤ 1000000 := by omega
        clear g1 g2
        by_cases g5 : 0 < lab
        · by_cases g6 : 0 < jt
          · skip
            go_wp2_with (at_builtin; refine wpList_append_own _ rfl _ _ 43 rfl w.heap.size 56 i0 _ 9 72 Tryd.underlying43 hi0 hz0 hz1 hz2 rfl (by decide) _ _ _ rfl ((HO.out.alloc _).alloc _) ⟨_, 0, none⟩ 1 1 (c9 ⟨⟨o, wd, r, b, i, c, nn⟩, lab + d, jt + d⟩) rfl rfl ?c1 ?c2 ?c3 ?c4 ?c5 ?_)
            case c1 => have h9 := fun ob => nine (wr.alloc ob) ⟨⟨o, wd, r, b, i, c, nn⟩, lab + d, jt + d⟩; simp only [World.size_alloc] at h9; exact h9 _
            case c2 => intro u hu; simp [c9] at hu; rcases hu with rfl | rfl | rfl | rfl | rfl | rfl | rfl | rfl | rfl <;> rfl
            case c3 => unfold maxLen; omega
            case c4 => omega
            case c5 => exact Nat.le_trans HW.out.size (by simp <;> omega)
            intro v' w3 hown3 hgrow _
            have H3 := Aside0.mk (And.intro hown3 hgrow)
            clear hown3 hgrow
            go_wp2
            have B3 : Below w.heap.size w w3 := ((HW.out.alloc HW.out.size _).alloc (Nat.le_trans HW.out.size (by simp)) _).grown H3.out.2 (Nat.le_trans HW.out.size (by simp <;> omega)) (fun q hq => (HO.out.lt q hq).1)
            refine ⟨⟨k + 1, by simp, hlt, ?_, (fun t ht => by rw [HZ.out] at ht; rcases List.mem_append.mp ht with ht | ht; exact HLB.out t ht; simp only [List.mem_singleton] at ht; subst ht; exact ⟨g3, g4⟩), B3⟩, by simp [intOf]; omega⟩
            rw [HY.out, cl_append]
            have e : cl [sh d ⟨⟨o, wd, r, b, i, c, nn⟩, lab, jt⟩] = c9 ⟨⟨o, wd, r, b, i, c, nn⟩, lab + d, jt + d⟩ := by show c9 ⟨⟨o, wd, r, b, i, c, nn⟩, if 0 < lab then lab + d else lab, if 0 < jt then jt + d else jt⟩ ++ [] = _; rw [List.append_nil, if_pos g5, if_pos g6]
            rw [e]
            exact H3.out.1
          · have g7 : jt ≤ 0 := by omega
            clear g6
            go_wp2_with (at_builtin; refine wpList_append_own _ rfl _ _ 43 rfl w.heap.size 56 i0 _ 9 72 Tryd.underlying43 hi0 hz0 hz1 hz2 rfl (by decide) _ _ _ rfl ((HO.out.alloc _).alloc _) ⟨_, 0, none⟩ 1 1 (c9 ⟨⟨o, wd, r, b, i, c, nn⟩, lab + d, jt⟩) rfl rfl ?c1 ?c2 ?c3 ?c4 ?c5 ?_)
            case c1 => have h9 := fun ob => nine (wr.alloc ob) ⟨⟨o, wd, r, b, i, c, nn⟩, lab + d, jt⟩; simp only [World.size_alloc] at h9; exact h9 _
            case c2 => intro u hu; simp [c9] at hu; rcases hu with rfl | rfl | rfl | rfl | rfl | rfl | rfl | rfl | rfl <;> rfl
            case c3 => unfold maxLen; omega
            case c4 => omega
            case c5 => exact Nat.le_trans HW.out.size (by simp <;> omega)
            intro v' w3 hown3 hgrow _
            have H3 := Aside0.mk (And.intro hown3 hgrow)
            clear hown3 hgrow
            go_wp2
            have B3 : Below w.heap.size w w3 := ((HW.out.alloc HW.out.size _).alloc (Nat.le_trans HW.out.size (by simp)) _).grown H3.out.2 (Nat.le_trans HW.out.size (by simp <;> omega)) (fun q hq => (HO.out.lt q hq).1)
            refine ⟨⟨k + 1, by simp, hlt, ?_, (fun t ht => by rw [HZ.out] at ht; rcases List.mem_append.mp ht with ht | ht; exact HLB.out t ht; simp only [List.mem_singleton] at ht; subst ht; exact ⟨g3, g4⟩), B3⟩, by simp [intOf]; omega⟩
            rw [HY.out, cl_append]
            have e : cl [sh d ⟨⟨o, wd, r, b, i, c, nn⟩, lab, jt⟩] = c9 ⟨⟨o, wd, r, b, i, c, nn⟩, lab + d, jt⟩ := by show c9 ⟨⟨o, wd, r, b, i, c, nn⟩, if 0 < lab then lab + d else lab, if 0 < jt then jt + d else jt⟩ ++ [] = _; rw [List.append_nil, if_pos g5, if_neg (show ¬ 0 < jt by omega)]
            rw [e]
            exact H3.out.1
        · have g8 : lab ≤ 0 := by omega
          clear g5
          by_cases g6 : 0 < jt
          · skip
            go_wp2_with (at_builtin; refine wpList_append_own _ rfl _ _ 43 rfl w.heap.size 56 i0 _ 9 72 Tryd.underlying43 hi0 hz0 hz1 hz2 rfl (by decide) _ _ _ rfl ((HO.out.alloc _).alloc _) ⟨_, 0, none⟩ 1 1 (c9 ⟨⟨o, wd, r, b, i, c, nn⟩, lab, jt + d⟩) rfl rfl ?c1 ?c2 ?c3 ?c4 ?c5 ?_)
            case c1 => have h9 := fun ob => nine (wr.alloc ob) ⟨⟨o, wd, r, b, i, c, nn⟩, lab, jt + d⟩; simp only [World.size_alloc] at h9; exact h9 _
            case c2 => intro u hu; simp [c9] at hu; rcases hu with rfl | rfl | rfl | rfl | rfl | rfl | rfl | rfl | rfl <;> rfl
            case c3 => unfold maxLen; omega
            case c4 => omega
            case c5 => exact Nat.le_trans HW.out.size (by simp <;> omega)
            intro v' w3 hown3 hgrow _
            have H3 := Aside0.mk (And.intro hown3 hgrow)
            clear hown3 hgrow
            go_wp2
            have B3 : Below w.heap.size w w3 := ((HW.out.alloc HW.out.size _).alloc (Nat.le_trans HW.out.size (by simp)) _).grown H3.out.2 (Nat.le_trans HW.out.size (by simp <;> omega)) (fun q hq => (HO.out.lt q hq).1)
            refine ⟨⟨k + 1, by simp, hlt, ?_, (fun t ht => by rw [HZ.out] at ht; rcases List.mem_append.mp ht with ht | ht; exact HLB.out t ht; simp only [List.mem_singleton] at ht; subst ht; exact ⟨g3, g4⟩), B3⟩, by simp [intOf]; omega⟩
            rw [HY.out, cl_append]
            have e : cl [sh d ⟨⟨o, wd, r, b, i, c, nn⟩, lab, jt⟩] = c9 ⟨⟨o, wd, r, b, i, c, nn⟩, lab, jt + d⟩ := by show c9 ⟨⟨o, wd, r, b, i, c, nn⟩, if 0 < lab then lab + d else lab, if 0 < jt then jt + d else jt⟩ ++ [] = _; rw [List.append_nil, if_neg (show ¬ 0 < lab by omega), if_pos g6]
            rw [e]
            exact H3.out.1
          · have g7 : jt ≤ 0 := by omega
            clear g6
            go_wp2_with (at_builtin; refine wpList_append_own _ rfl _ _ 43 rfl w.heap.size 56 i0 _ 9 72 Tryd.underlying43 hi0 hz0 hz1 hz2 rfl (by decide) _ _ _ rfl ((HO.out.alloc _).alloc _) ⟨_, 0, none⟩ 1 1 (c9 ⟨⟨o, wd, r, b, i, c, nn⟩, lab, jt⟩) rfl rfl ?c1 ?c2 ?c3 ?c4 ?c5 ?_)
            case c1 => have h9 := fun ob => nine (wr.alloc ob) ⟨⟨o, wd, r, b, i, c, nn⟩, lab, jt⟩; simp only [World.size_alloc] at h9; exact h9 _
            case c2 => intro u hu; simp [c9] at hu; rcases hu with rfl | rfl | rfl | rfl | rfl | rfl | rfl | rfl | rfl <;> rfl
            case c3 => unfold maxLen; omega
            case c4 => omega
            case c5 => exact Nat.le_trans HW.out.size (by simp <;> omega)
            intro v' w3 hown3 hgrow _
            have H3 := Aside0.mk (And.intro hown3 hgrow)
            clear hown3 hgrow
            go_wp2
            have B3 : Below w.heap.size w w3 := ((HW.out.alloc HW.out.size _).alloc (Nat.le_trans HW.out.size (by simp)) _).grown H3.out.2 (Nat.le_trans HW.out.size (by simp <;> omega)) (fun q hq => (HO.out.lt q hq).1)
            refine ⟨⟨k + 1, by simp, hlt, ?_, (fun t ht => by rw [HZ.out] at ht; rcases List.mem_append.mp ht with ht | ht; exact HLB.out t ht; simp only [List.mem_singleton] at ht; subst ht; exact ⟨g3, g4⟩), B3⟩, by simp [intOf]; omega⟩
            rw [HY.out, cl_append]
            have e : cl [sh d ⟨⟨o, wd, r, b, i, c, nn⟩, lab, jt⟩] = c9 ⟨⟨o, wd, r, b, i, c, nn⟩, lab, jt⟩ := by show c9 ⟨⟨o, wd, r, b, i, c, nn⟩, if 0 < lab then lab + d else lab, if 0 < jt then jt + d else jt⟩ ++ [] = _; rw [List.append_nil, if_neg (show ¬ 0 < lab by omega), if_neg (show ¬ 0 < jt by omega)]
            rw [e]
            exact H3.out.1
      · have hkM : k = M.length := by omega
        have hlt2 := hlt
        rw [HM.out] at hlt2
        have hown := HO.out
        rw [hkM, ← List.length_map (f := sh d), List.take_length] at hown
        have hown2 : wr.ownsRow w.heap.size 56 9 _ (M.map (sh d)).length (cl (M.map (sh d))) := hown
        have hlb := HLB.out
        rw [hkM, List.take_length] at hlb
        clear hkM
        obtain ⟨A2, cap2, hv2, hi2⟩ := its_own hown2 (fun t ht => by
          obtain ⟨t0, h0, rfl⟩ := List.mem_map.mp ht
          obtain ⟨n1, ⟨n2, n3⟩, n4, n5⟩ := HT.out.2.1 t0 h0
          obtain ⟨l1, l2⟩ := hlb t0 h0
          refine ⟨n1, ?_, ?_⟩
          · show _ ≤ (if 0 < t0.lab then t0.lab + d else t0.lab) ∧ (if 0 < t0.lab then t0.lab + d else t0.lab) ≤ _
            split <;> omega
          · show _ ≤ (if 0 < t0.to then t0.to + d else t0.to) ∧ (if 0 < t0.to then t0.to + d else t0.to) ≤ _
            split <;> omega)
        have hB := fun W (hW : Tab W) (hb : Below wr.heap.size wr W) => Assemble (M.map (sh d)) A2 cap2 W hW (by rw [List.length_map, HM.out]; omega) (hi2.below hb)
        rw [List.length_map] at hv2 hB
        subst hv2
        have HB := Aside0.mk hB
        have HS := Aside0.mk (asm_shift d d1 M)
        clear hB hown hown2 hlb hi2
        cases hq : asmB M
        all_goals
          have HQ := Aside0.mk hq
          clear hq
          go_upto_region 19 with (go_at_call 28; (with_reducible refine (HA.out _ HW.out).mono ?_); intro e w2 hp; unfold AsmAns at hp; rw [HQ.out] at hp; obtain ⟨rfl, hb⟩ := hp; have H2 := Aside0.mk (And.intro hb (HW.out.trans (hb.mono HW.out.size))); clear hb)
          go_wp2_with (go_at_call 28; (with_reducible refine (HB.out _ (HT.out.1.below H2.out.2) H2.out.1).mono ?_); intro e w3 hp; unfold AsmAns at hp; rw [HS.out, HQ.out] at hp; obtain ⟨rfl, hb⟩ := hp; have H3 := Aside0.mk (H2.out.2.trans (hb.mono H2.out.2.size)); clear hb)
          go_ret
          exact ⟨by first | rfl | simp, H3.out⟩
/-- the law, for any slice of items -/
theorem Names (L : List It) (A : Option Addr) (cap : Nat) (d0 : Int) (w : World) (ht : Tab w) (hi : Its w A L) (hcap : L.length ≤ cap) (hlen : L.length ≤ 9223372036854775807) (hd0 : -9223372036854775808 ≤ d0 ∧ d0 ≤ 9223372036854775807) :
    Calls Tryd.prog 13 #[.slice A L.length cap, .int .i64 d0] w fun e w' => e = .returned (.bool true) ∧ Below w.heap.size w w' := by
  have hd : ∃ d, ((0 ≤ d0 ∧ d0 % 1000000 = d) ∨ (d0 < 0 ∧ -((d0 + 1).tmod 1000000) = d)) ∧ (0 ≤ d ∧ d < 1000000) := by
    by_cases h : 0 ≤ d0
    · exact ⟨_, .inl ⟨h, rfl⟩, by omega⟩
    · have e : -((d0 + 1).tmod 1000000) = (-(d0 + 1)) % 1000000 := by rw [← Int.neg_tmod, Int.tmod_eq_emod_of_nonneg (by omega)]
      exact ⟨_, .inr ⟨by omega, rfl⟩, by rw [e]; omega⟩
  obtain ⟨d, hd, hdb⟩ := hd
  by_cases h : L.length ≤ 100
  · exact NamesWalk L L A cap L.length d0 d w ht hi hcap hlen (by rw [List.take_length]) rfl h (.inl ⟨h, rfl⟩) hd0 hd hdb
  · exact NamesWalk L (L.take 100) A cap 100 d0 d w ht hi hcap hlen rfl (by rw [List.length_take]; omega) (Nat.le_refl _) (.inr ⟨h, rfl⟩) hd0 hd hdb
end Go.Proofs.YtkfinaongajhmaaDoor.X
