/- The reference's reader of chapter 11 as a whole: it answers what the program's answers. No condition but lengths. -/
import Derived.Test.YtkfinaongajhmaaDoorRGuess2
import Derived.Test.YtkfinaongajhmaaDoorXWays
namespace Go.Ob.Xc
set_option linter.unusedVariables false
set_option linter.unusedSimpArgs false
/-- bytes -/
def Byt (l : List Int) : Prop := ∀ j, 0 ≤ at0 l j ∧ at0 l j < 256
theorem Byt.drop {l : List Int} (h : Byt l) (k : Nat) : Byt (l.drop k) := by
  intro j
  have := h (k + j)
  unfold at0 at this ⊢
  rw [List.getD_eq_getElem?_getD, List.getElem?_drop, ← List.getD_eq_getElem?_getD]
  exact this
theorem Byt.tail {l : List Int} (h : Byt l) : Byt l.tail := by
  rw [← List.drop_one]
  exact h.drop 1
theorem Byt.s4 {l : List Int} (h : Byt l) (k : Nat) : -9223372036854775808 ≤ sg4 l k ∧ sg4 l k ≤ 9223372036854775807 := by
  have h0 := h k
  have h1 := h (k + 1)
  have h2 := h (k + 2)
  have h3 := h (k + 3)
  unfold sg4 num4
  split <;> omega
theorem Byt.s8 {l : List Int} (h : Byt l) (k : Nat) : -9223372036854775808 ≤ sg8 l k ∧ sg8 l k ≤ 9223372036854775807 := by
  have h0 := h k
  have h1 := h (k + 1)
  have h2 := h (k + 2)
  have h3 := h (k + 3)
  have h4 := h (k + 4)
  have h5 := h (k + 4 + 1)
  have h6 := h (k + 4 + 2)
  have h7 := h (k + 4 + 3)
  unfold sg8 num8 num4
  split <;> omega
end Go.Ob.Xc
namespace Go.Proofs.YtkfinaongajhmaaDoor.X
open Go.Ob Go.Ob.Xc Go.RowKit Go.Proofs.YtkfinaongajhmaaDoorW.PrintWords Go.Proofs.YtkfinaongajhmaaDoorW.PrintMore
attribute [local go_sem] max2_int min2_int max_two min_two
set_option linter.unusedVariables false
set_option linter.unusedSimpArgs false
theorem byt_bl (s : ByteArray) : Byt (bl s) := fun j => at0_bd s j
def NP (p : XI × Bool) : Prop := NB p.1
theorem np_ite {c : Prop} [Decidable c] {p q : XI × Bool} (hp : NP p) (hq : NP q) : NP (if c then p else q) := by split <;> assumption
theorem np_z (o : Int) (w : Bool) (r b i c : Int) (ok : Bool) : NP (⟨o, w, r, b, i, c, 0⟩, ok) := by
  show (-9223372036854775808 : Int) ≤ 0 ∧ (0 : Int) ≤ 9223372036854775807
  decide
theorem np_no (w : Bool) : NP (gno w) := np_z _ _ _ _ _ _ _
theorem np_4 {l : List Int} (h : Byt l) (k : Nat) (o : Int) (w : Bool) (r b i c : Int) (ok : Bool) : NP (⟨o, w, r, b, i, c, sg4 l k⟩, ok) := by unfold NP NB; exact h.s4 k
theorem np_8 {l : List Int} (h : Byt l) (k : Nat) (o : Int) (w : Bool) (r b i c : Int) (ok : Bool) : NP (⟨o, w, r, b, i, c, sg8 l k⟩, ok) := by unfold NP NB; exact h.s8 k
theorem gfar_n {t : List Int} (h : Byt t) (w : Bool) (op r m : Int) : NP (gfar w op t r m) := by
  unfold gfar
  repeat' (first | with_reducible exact np_no _ | with_reducible exact np_z _ _ _ _ _ _ _ | with_reducible exact np_4 h _ _ _ _ _ _ _ _ | with_reducible refine np_ite ?_ ?_)
theorem gone_n {t : List Int} (h : Byt t) (w : Bool) (op i base md r m : Int) : NP (gone w op t i base md r m) := by
  unfold gone
  repeat' (first | with_reducible exact np_no _ | with_reducible exact np_z _ _ _ _ _ _ _ | with_reducible exact np_4 h _ _ _ _ _ _ _ _ | with_reducible exact np_8 h _ _ _ _ _ _ _ _ | with_reducible refine np_ite ?_ ?_)
theorem gbody_n {t : List Int} (h : Byt t) (w : Bool) (r i m : Int) : NP (gbody t w r i m) := by
  unfold gbody
  refine np_ite (np_no _) (np_ite (np_ite (np_no _) (gfar_n (h.drop 2) _ _ _ _)) (gone_n (h.drop 1) _ _ _ _ _ _ _))
theorem gcand_n {l : List Int} (h : Byt l) : NP (gcand l) := by
  unfold gcand
  exact np_ite (gbody_n h.tail _ _ _ _) (gbody_n h _ _ _ _)
/-- what the reference's reader answers -/
def rdecA (l : List Int) : Value := match dec l with
  | some (x, k) => .tuple #[xv x, .int .i64 k, .bool true]
  | none => .tuple #[xv ⟨0, false, 0, 0, 0, 0, 0⟩, .int .i64 0, .bool false]
theorem dec_gcand {s : ByteArray} {x : XI} {k : Nat} (h : dec (bl s) = some (x, k)) : gcand (bl s) = (x, true) := by
  obtain ⟨h1, ⟨r, h2⟩, h3⟩ := dec_some h
  have hn : NB x := by
    have := cand_n s
    unfold dec at h
    split at h
    · simp only [Option.some.injEq, Prod.mk.injEq] at h
      rw [h.1] at this
      exact this
    · cases h
  rw [← h2, gcand_enc x r h1 hn]
theorem rdec_cases (s : ByteArray) (x : XI) (ok : Bool) (hx : gcand (bl s) = (x, ok)) :
    (ok = false ∧ rdecA (bl s) = .tuple #[xv ⟨0, false, 0, 0, 0, 0, 0⟩, .int .i64 0, .bool false]) ∨
    (ok = true ∧ right x = false ∧ rdecA (bl s) = .tuple #[xv ⟨0, false, 0, 0, 0, 0, 0⟩, .int .i64 0, .bool false]) ∨
    (ok = true ∧ right x = true ∧ NB x ∧ ¬ enc x <+: bl s ∧ rdecA (bl s) = .tuple #[xv ⟨0, false, 0, 0, 0, 0, 0⟩, .int .i64 0, .bool false]) ∨
    (ok = true ∧ right x = true ∧ NB x ∧ enc x <+: bl s ∧ rdecA (bl s) = .tuple #[xv x, .int .i64 (enc x).length, .bool true]) := by
  have hnb : NB x := by
    have := gcand_n (byt_bl s)
    rw [hx] at this
    exact this
  have no : dec (bl s) = none → rdecA (bl s) = .tuple #[xv ⟨0, false, 0, 0, 0, 0, 0⟩, .int .i64 0, .bool false] := fun h => by unfold rdecA; rw [h]
  have key : ∀ y k, dec (bl s) = some (y, k) → y = x ∧ ok = true := fun y k h => by
    have := dec_gcand h
    rw [hx] at this
    simp only [Prod.mk.injEq] at this
    exact ⟨this.1.symm, this.2⟩
  cases ok with
  | false =>
    refine .inl ⟨rfl, no ?_⟩
    cases hd : dec (bl s) with
    | none => rfl
    | some p => obtain ⟨y, k⟩ := p; cases (key y k hd).2
  | true =>
    refine .inr ?_
    by_cases hr : right x = true
    · by_cases hp : enc x <+: bl s
      · refine .inr (.inr ⟨rfl, hr, hnb, hp, ?_⟩)
        obtain ⟨r, h2⟩ := hp
        unfold rdecA
        rw [← h2, dec_enc x r hr hnb]
      · refine .inr (.inl ⟨rfl, hr, hnb, hp, no ?_⟩)
        cases hd : dec (bl s) with
        | none => rfl
        | some p =>
          obtain ⟨y, k⟩ := p
          obtain ⟨e1, -⟩ := key y k hd
          exact absurd (e1 ▸ (dec_some hd).2.1) hp
    · refine .inl ⟨rfl, by simpa using hr, no ?_⟩
      cases hd : dec (bl s) with
      | none => rfl
      | some p =>
        obtain ⟨y, k⟩ := p
        obtain ⟨e1, -⟩ := key y k hd
        exact absurd (e1 ▸ (dec_some hd).1) hr
set_option maxHeartbeats 16000000 in
set_option maxRecDepth 100000 in
theorem RDecode (s : ByteArray) (w : World) (hs : s.size ≤ 281474976710656) :
    Calls Tryd.prog 21 #[.string s] w fun e w' => e = .returned (rdecA (bl s)) ∧ Below w.heap.size w w' := by
  obtain ⟨G, hG⟩ : ∃ G : XI × Bool, gcand (bl s) = G := ⟨_, rfl⟩
  have hg := fun W => RGuess1 s W hs
  rw [hG] at hg
  obtain ⟨x, ok⟩ := G
  dsimp only at hg
  have HG := Aside0.mk hg
  have hc := rdec_cases s x ok hG
  clear hg hG
  rcases hc with ⟨rfl, hA⟩ | ⟨rfl, hr, hA⟩ | ⟨rfl, hr, hn, hp, hA⟩ | ⟨rfl, hr, hn, hp, hA⟩
  all_goals
    rw [hA]
    clear hA
  · obtain ⟨o, wd, r, b, i, c, n⟩ := x
    go_enter Tryd.func21, Tryd.ntmps21
    go_upto_if 15 with (go_at_call 50; (with_reducible refine (HG.out _).mono ?_); rintro e w1 ⟨rfl, hb⟩; have H1 := Aside0.mk (And.intro ((below_alloc (Below.refl w.heap.size w) _).trans (hb.mono (by simp))) (blk_below (blk_new w (xo ⟨0, false, 0, 0, 0, 0, 0⟩)) hb)); clear hb)
    obtain ⟨W1, hW1⟩ : ∃ W, w1.alloc (.cells #[.int .i64 o, .bool wd, .int .i64 r, .int .i64 b, .int .i64 i, .int .i64 c, .int .i64 n] 23) = W := ⟨_, rfl⟩
    have X1 := blk_alloc H1.out.2 (.cells #[.int .i64 o, .bool wd, .int .i64 r, .int .i64 b, .int .i64 i, .int .i64 c, .int .i64 n] 23)
    have Y1 := blk_new w1 (.cells #[.int .i64 o, .bool wd, .int .i64 r, .int .i64 b, .int .i64 i, .int .i64 c, .int .i64 n] 23)
    have B1 : Below w.heap.size w W1 := by rw [← hW1]; exact H1.out.1.alloc H1.out.1.size _
    have hne : w.heap.size ≠ w1.heap.size := by have := blk_lt H1.out.2; omega
    rw [hW1] at X1 Y1 ⊢
    clear hW1
    have HW := Aside0.mk (And.intro B1 (And.intro X1 Y1))
    obtain ⟨x0, x1, x2, x3, x4, x5, x6⟩ := cell7 (X1)
    obtain ⟨z0, z1, z2, z3, z4, z5, z6⟩ := froz7 (X1)
    go_wp2
    have hr9 := row7 (X1) (.int .i64 0) (.bool false) (.int .i64 0) (.int .i64 0) (.int .i64 0) (.int .i64 0) (.int .i64 0)
    have hbw := below7 (Nat.le_refl w.heap.size) (B1) (.int .i64 0) (.bool false) (.int .i64 0) (.int .i64 0) (.int .i64 0) (.int .i64 0) (.int .i64 0)
    clear x0 x1 x2 x3 x4 x5 x6 z0 z1 z2 z3 z4 z5 z6
    generalize (((((((W1.setCell ⟨w.heap.size, 0, none⟩ (.int .i64 0)).setCell ⟨w.heap.size, 1, none⟩ (.bool false)).setCell ⟨w.heap.size, 2, none⟩ (.int .i64 0)).setCell ⟨w.heap.size, 3, none⟩ (.int .i64 0)).setCell ⟨w.heap.size, 4, none⟩ (.int .i64 0)).setCell ⟨w.heap.size, 5, none⟩ (.int .i64 0)).setCell ⟨w.heap.size, 6, none⟩ (.int .i64 0)) = W9 at hr9 hbw ⊢
    obtain ⟨k0, k1, k2, k3, k4, k5, k6⟩ := cell7 hr9
    exact bodyPost_ret (v := .tuple #[xv ⟨0, false, 0, 0, 0, 0, 0⟩, .int .i64 0, .bool false]) (by simp [results, Tryd.results21, go_sem, *]) rfl ⟨rfl, hbw⟩
  · have HE := Aside0.mk (fun W => REncode_no x W hr)
    obtain ⟨o, wd, r, b, i, c, n⟩ := x
    clear hr
    go_enter Tryd.func21, Tryd.ntmps21
    go_upto_if 15 with (go_at_call 50; (with_reducible refine (HG.out _).mono ?_); rintro e w1 ⟨rfl, hb⟩; have H1 := Aside0.mk (And.intro ((below_alloc (Below.refl w.heap.size w) _).trans (hb.mono (by simp))) (blk_below (blk_new w (xo ⟨0, false, 0, 0, 0, 0, 0⟩)) hb)); clear hb)
    obtain ⟨W1, hW1⟩ : ∃ W, w1.alloc (.cells #[.int .i64 o, .bool wd, .int .i64 r, .int .i64 b, .int .i64 i, .int .i64 c, .int .i64 n] 23) = W := ⟨_, rfl⟩
    have X1 := blk_alloc H1.out.2 (.cells #[.int .i64 o, .bool wd, .int .i64 r, .int .i64 b, .int .i64 i, .int .i64 c, .int .i64 n] 23)
    have Y1 := blk_new w1 (.cells #[.int .i64 o, .bool wd, .int .i64 r, .int .i64 b, .int .i64 i, .int .i64 c, .int .i64 n] 23)
    have B1 : Below w.heap.size w W1 := by rw [← hW1]; exact H1.out.1.alloc H1.out.1.size _
    have hne : w.heap.size ≠ w1.heap.size := by have := blk_lt H1.out.2; omega
    rw [hW1] at X1 Y1 ⊢
    clear hW1
    have HW := Aside0.mk (And.intro B1 (And.intro X1 Y1))
    obtain ⟨y0, y1, y2, y3, y4, y5, y6⟩ := cell7 Y1
    clear X1 Y1 B1
    go_upto_if 38 with (go_at_call 17; (with_reducible refine (HE.out _).mono ?_); rintro e w2 ⟨rfl, hb⟩; have H2 := Aside0.mk (And.intro (HW.out.1.trans (hb.mono HW.out.1.size)) (And.intro (blk_below HW.out.2.1 hb) (blk_below HW.out.2.2 hb))); clear hb)
    clear y0 y1 y2 y3 y4 y5 y6
    obtain ⟨x0, x1, x2, x3, x4, x5, x6⟩ := cell7 (H2.out.2.1)
    obtain ⟨z0, z1, z2, z3, z4, z5, z6⟩ := froz7 (H2.out.2.1)
    go_wp2
    have hr9 := row7 (H2.out.2.1) (.int .i64 0) (.bool false) (.int .i64 0) (.int .i64 0) (.int .i64 0) (.int .i64 0) (.int .i64 0)
    have hbw := below7 (Nat.le_refl w.heap.size) (H2.out.1) (.int .i64 0) (.bool false) (.int .i64 0) (.int .i64 0) (.int .i64 0) (.int .i64 0) (.int .i64 0)
    clear x0 x1 x2 x3 x4 x5 x6 z0 z1 z2 z3 z4 z5 z6
    generalize (((((((w2.setCell ⟨w.heap.size, 0, none⟩ (.int .i64 0)).setCell ⟨w.heap.size, 1, none⟩ (.bool false)).setCell ⟨w.heap.size, 2, none⟩ (.int .i64 0)).setCell ⟨w.heap.size, 3, none⟩ (.int .i64 0)).setCell ⟨w.heap.size, 4, none⟩ (.int .i64 0)).setCell ⟨w.heap.size, 5, none⟩ (.int .i64 0)).setCell ⟨w.heap.size, 6, none⟩ (.int .i64 0)) = W9 at hr9 hbw ⊢
    obtain ⟨k0, k1, k2, k3, k4, k5, k6⟩ := cell7 hr9
    exact bodyPost_ret (v := .tuple #[xv ⟨0, false, 0, 0, 0, 0, 0⟩, .int .i64 0, .bool false]) (by simp [results, Tryd.results21, go_sem, *]) rfl ⟨rfl, hbw⟩
  · skip
    have hT := fun W => REncode_ok x W hr hn
    have hb := bl_num _ (enc_okl hr)
    have hz : (strOfNums (enc x)).size = (enc x).length := by rw [← bl_length, hb]
    obtain ⟨T, hTT⟩ : ∃ T, strOfNums (enc x) = T := ⟨_, rfl⟩
    rw [hTT] at hT hb hz
    clear hTT
    have hs15 := (sizes hr).2.1
    have HE := Aside0.mk hT
    have HT := Aside0.mk hz.symm
    have ht15 : T.size ≤ 10 := by omega
    clear hT
    by_cases hle : T.size ≤ s.size
    · have hne2 : ((s.extract 0 T.size).toList == T.toList) = false := by
        rw [beq_eq_false_iff_ne]
        intro hh
        rw [toList_iff, bl_extract, hb] at hh
        simp only [List.drop_zero, Nat.sub_zero] at hh
        exact hp ⟨(bl s).drop T.size, by rw [← hh]; exact List.take_append_drop _ _⟩
      have hle2 : ¬ (s.size : Int) < (T.size : Int) := by omega
      clear hb hz hp hr hn hs15
      obtain ⟨o, wd, r, b, i, c, n⟩ := x
      go_enter Tryd.func21, Tryd.ntmps21
      go_upto_if 15 with (go_at_call 50; (with_reducible refine (HG.out _).mono ?_); rintro e w1 ⟨rfl, hb⟩; have H1 := Aside0.mk (And.intro ((below_alloc (Below.refl w.heap.size w) _).trans (hb.mono (by simp))) (blk_below (blk_new w (xo ⟨0, false, 0, 0, 0, 0, 0⟩)) hb)); clear hb)
      obtain ⟨W1, hW1⟩ : ∃ W, w1.alloc (.cells #[.int .i64 o, .bool wd, .int .i64 r, .int .i64 b, .int .i64 i, .int .i64 c, .int .i64 n] 23) = W := ⟨_, rfl⟩
      have X1 := blk_alloc H1.out.2 (.cells #[.int .i64 o, .bool wd, .int .i64 r, .int .i64 b, .int .i64 i, .int .i64 c, .int .i64 n] 23)
      have Y1 := blk_new w1 (.cells #[.int .i64 o, .bool wd, .int .i64 r, .int .i64 b, .int .i64 i, .int .i64 c, .int .i64 n] 23)
      have B1 : Below w.heap.size w W1 := by rw [← hW1]; exact H1.out.1.alloc H1.out.1.size _
      have hne : w.heap.size ≠ w1.heap.size := by have := blk_lt H1.out.2; omega
      rw [hW1] at X1 Y1 ⊢
      clear hW1
      have HW := Aside0.mk (And.intro B1 (And.intro X1 Y1))
      obtain ⟨y0, y1, y2, y3, y4, y5, y6⟩ := cell7 Y1
      clear X1 Y1 B1
      go_upto_if 38 with (go_at_call 17; (with_reducible refine (HE.out _).mono ?_); rintro e w2 ⟨rfl, hb⟩; have H2 := Aside0.mk (And.intro (HW.out.1.trans (hb.mono HW.out.1.size)) (And.intro (blk_below HW.out.2.1 hb) (blk_below HW.out.2.2 hb))); clear hb)
      clear y0 y1 y2 y3 y4 y5 y6
      obtain ⟨x0, x1, x2, x3, x4, x5, x6⟩ := cell7 (H2.out.2.1)
      obtain ⟨z0, z1, z2, z3, z4, z5, z6⟩ := froz7 (H2.out.2.1)
      go_wp2
      have hr9 := row7 (H2.out.2.1) (.int .i64 0) (.bool false) (.int .i64 0) (.int .i64 0) (.int .i64 0) (.int .i64 0) (.int .i64 0)
      have hbw := below7 (Nat.le_refl w.heap.size) (H2.out.1) (.int .i64 0) (.bool false) (.int .i64 0) (.int .i64 0) (.int .i64 0) (.int .i64 0) (.int .i64 0)
      clear x0 x1 x2 x3 x4 x5 x6 z0 z1 z2 z3 z4 z5 z6
      generalize (((((((w2.setCell ⟨w.heap.size, 0, none⟩ (.int .i64 0)).setCell ⟨w.heap.size, 1, none⟩ (.bool false)).setCell ⟨w.heap.size, 2, none⟩ (.int .i64 0)).setCell ⟨w.heap.size, 3, none⟩ (.int .i64 0)).setCell ⟨w.heap.size, 4, none⟩ (.int .i64 0)).setCell ⟨w.heap.size, 5, none⟩ (.int .i64 0)).setCell ⟨w.heap.size, 6, none⟩ (.int .i64 0)) = W9 at hr9 hbw ⊢
      obtain ⟨k0, k1, k2, k3, k4, k5, k6⟩ := cell7 hr9
      exact bodyPost_ret (v := .tuple #[xv ⟨0, false, 0, 0, 0, 0, 0⟩, .int .i64 0, .bool false]) (by simp [results, Tryd.results21, go_sem, *]) rfl ⟨rfl, hbw⟩
    · have hle2 : (s.size : Int) < (T.size : Int) := by omega
      clear hb hz hp hr hn hs15
      obtain ⟨o, wd, r, b, i, c, n⟩ := x
      go_enter Tryd.func21, Tryd.ntmps21
      go_upto_if 15 with (go_at_call 50; (with_reducible refine (HG.out _).mono ?_); rintro e w1 ⟨rfl, hb⟩; have H1 := Aside0.mk (And.intro ((below_alloc (Below.refl w.heap.size w) _).trans (hb.mono (by simp))) (blk_below (blk_new w (xo ⟨0, false, 0, 0, 0, 0, 0⟩)) hb)); clear hb)
      obtain ⟨W1, hW1⟩ : ∃ W, w1.alloc (.cells #[.int .i64 o, .bool wd, .int .i64 r, .int .i64 b, .int .i64 i, .int .i64 c, .int .i64 n] 23) = W := ⟨_, rfl⟩
      have X1 := blk_alloc H1.out.2 (.cells #[.int .i64 o, .bool wd, .int .i64 r, .int .i64 b, .int .i64 i, .int .i64 c, .int .i64 n] 23)
      have Y1 := blk_new w1 (.cells #[.int .i64 o, .bool wd, .int .i64 r, .int .i64 b, .int .i64 i, .int .i64 c, .int .i64 n] 23)
      have B1 : Below w.heap.size w W1 := by rw [← hW1]; exact H1.out.1.alloc H1.out.1.size _
      have hne : w.heap.size ≠ w1.heap.size := by have := blk_lt H1.out.2; omega
      rw [hW1] at X1 Y1 ⊢
      clear hW1
      have HW := Aside0.mk (And.intro B1 (And.intro X1 Y1))
      obtain ⟨y0, y1, y2, y3, y4, y5, y6⟩ := cell7 Y1
      clear X1 Y1 B1
      go_upto_if 38 with (go_at_call 17; (with_reducible refine (HE.out _).mono ?_); rintro e w2 ⟨rfl, hb⟩; have H2 := Aside0.mk (And.intro (HW.out.1.trans (hb.mono HW.out.1.size)) (And.intro (blk_below HW.out.2.1 hb) (blk_below HW.out.2.2 hb))); clear hb)
      clear y0 y1 y2 y3 y4 y5 y6
      obtain ⟨x0, x1, x2, x3, x4, x5, x6⟩ := cell7 (H2.out.2.1)
      obtain ⟨z0, z1, z2, z3, z4, z5, z6⟩ := froz7 (H2.out.2.1)
      go_wp2
      have hr9 := row7 (H2.out.2.1) (.int .i64 0) (.bool false) (.int .i64 0) (.int .i64 0) (.int .i64 0) (.int .i64 0) (.int .i64 0)
      have hbw := below7 (Nat.le_refl w.heap.size) (H2.out.1) (.int .i64 0) (.bool false) (.int .i64 0) (.int .i64 0) (.int .i64 0) (.int .i64 0) (.int .i64 0)
      clear x0 x1 x2 x3 x4 x5 x6 z0 z1 z2 z3 z4 z5 z6
      generalize (((((((w2.setCell ⟨w.heap.size, 0, none⟩ (.int .i64 0)).setCell ⟨w.heap.size, 1, none⟩ (.bool false)).setCell ⟨w.heap.size, 2, none⟩ (.int .i64 0)).setCell ⟨w.heap.size, 3, none⟩ (.int .i64 0)).setCell ⟨w.heap.size, 4, none⟩ (.int .i64 0)).setCell ⟨w.heap.size, 5, none⟩ (.int .i64 0)).setCell ⟨w.heap.size, 6, none⟩ (.int .i64 0)) = W9 at hr9 hbw ⊢
      obtain ⟨k0, k1, k2, k3, k4, k5, k6⟩ := cell7 hr9
      exact bodyPost_ret (v := .tuple #[xv ⟨0, false, 0, 0, 0, 0, 0⟩, .int .i64 0, .bool false]) (by simp [results, Tryd.results21, go_sem, *]) rfl ⟨rfl, hbw⟩
  · skip
    have hT := fun W => REncode_ok x W hr hn
    have hb := bl_num _ (enc_okl hr)
    have hz : (strOfNums (enc x)).size = (enc x).length := by rw [← bl_length, hb]
    obtain ⟨T, hTT⟩ : ∃ T, strOfNums (enc x) = T := ⟨_, rfl⟩
    rw [hTT] at hT hb hz
    clear hTT
    have hs15 := (sizes hr).2.1
    have HE := Aside0.mk hT
    have HT := Aside0.mk hz.symm
    have ht15 : T.size ≤ 10 := by omega
    clear hT
    have hle : T.size ≤ s.size := by
      have := hp.length_le
      rw [bl_length] at this
      omega
    have heq : ((s.extract 0 T.size).toList == T.toList) = true := by
      rw [beq_iff_eq, toList_iff, bl_extract, hb]
      simp only [List.drop_zero, Nat.sub_zero]
      obtain ⟨q, hq⟩ := hp
      rw [← hq, hz]
      exact List.take_left
    have hle2 : ¬ (s.size : Int) < (T.size : Int) := by omega
    clear hb hz hp hr hn hs15
    obtain ⟨o, wd, r, b, i, c, n⟩ := x
    go_enter Tryd.func21, Tryd.ntmps21
    go_upto_if 15 with (go_at_call 50; (with_reducible refine (HG.out _).mono ?_); rintro e w1 ⟨rfl, hb⟩; have H1 := Aside0.mk (And.intro ((below_alloc (Below.refl w.heap.size w) _).trans (hb.mono (by simp))) (blk_below (blk_new w (xo ⟨0, false, 0, 0, 0, 0, 0⟩)) hb)); clear hb)
    obtain ⟨W1, hW1⟩ : ∃ W, w1.alloc (.cells #[.int .i64 o, .bool wd, .int .i64 r, .int .i64 b, .int .i64 i, .int .i64 c, .int .i64 n] 23) = W := ⟨_, rfl⟩
    have X1 := blk_alloc H1.out.2 (.cells #[.int .i64 o, .bool wd, .int .i64 r, .int .i64 b, .int .i64 i, .int .i64 c, .int .i64 n] 23)
    have Y1 := blk_new w1 (.cells #[.int .i64 o, .bool wd, .int .i64 r, .int .i64 b, .int .i64 i, .int .i64 c, .int .i64 n] 23)
    have B1 : Below w.heap.size w W1 := by rw [← hW1]; exact H1.out.1.alloc H1.out.1.size _
    have hne : w.heap.size ≠ w1.heap.size := by have := blk_lt H1.out.2; omega
    rw [hW1] at X1 Y1 ⊢
    clear hW1
    have HW := Aside0.mk (And.intro B1 (And.intro X1 Y1))
    obtain ⟨y0, y1, y2, y3, y4, y5, y6⟩ := cell7 Y1
    clear X1 Y1 B1
    go_upto_if 38 with (go_at_call 17; (with_reducible refine (HE.out _).mono ?_); rintro e w2 ⟨rfl, hb⟩; have H2 := Aside0.mk (And.intro (HW.out.1.trans (hb.mono HW.out.1.size)) (And.intro (blk_below HW.out.2.1 hb) (blk_below HW.out.2.2 hb))); clear hb)
    clear y0 y1 y2 y3 y4 y5 y6
    obtain ⟨x0, x1, x2, x3, x4, x5, x6⟩ := cell7 (H2.out.2.1)
    obtain ⟨z0, z1, z2, z3, z4, z5, z6⟩ := froz7 (H2.out.2.1)
    obtain ⟨y0, y1, y2, y3, y4, y5, y6⟩ := cell7 (H2.out.2.2)
    go_wp2
    have hr9 := row7 (H2.out.2.1) (.int .i64 o) (.bool wd) (.int .i64 r) (.int .i64 b) (.int .i64 i) (.int .i64 c) (.int .i64 n)
    have hbw := below7 (Nat.le_refl w.heap.size) (H2.out.1) (.int .i64 o) (.bool wd) (.int .i64 r) (.int .i64 b) (.int .i64 i) (.int .i64 c) (.int .i64 n)
    clear x0 x1 x2 x3 x4 x5 x6 z0 z1 z2 z3 z4 z5 z6
    generalize (((((((w2.setCell ⟨w.heap.size, 0, none⟩ (.int .i64 o)).setCell ⟨w.heap.size, 1, none⟩ (.bool wd)).setCell ⟨w.heap.size, 2, none⟩ (.int .i64 r)).setCell ⟨w.heap.size, 3, none⟩ (.int .i64 b)).setCell ⟨w.heap.size, 4, none⟩ (.int .i64 i)).setCell ⟨w.heap.size, 5, none⟩ (.int .i64 c)).setCell ⟨w.heap.size, 6, none⟩ (.int .i64 n)) = W9 at hr9 hbw ⊢
    obtain ⟨k0, k1, k2, k3, k4, k5, k6⟩ := cell7 hr9
    exact bodyPost_ret (v := .tuple #[xv ⟨o, wd, r, b, i, c, n⟩, .int .i64 T.size, .bool true]) (by simp [results, Tryd.results21, go_sem, *]) rfl ⟨by rw [HT.out], hbw⟩
end Go.Proofs.YtkfinaongajhmaaDoor.X
