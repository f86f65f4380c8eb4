/- Where instructions begin: what the program's function computes. -/
import Derived.Test.YtkfinaongajhmaaDoorAPlaces
import Derived.Test.YtkfinaongajhmaaDoorAAsm
namespace Go.Ob.Xc
/-- where instructions begin, from the k-th byte on -/
def startsF : Nat → List Int → Nat → List Int → Option (List Int)
  | 0, _, _, _ => none
  | f + 1, l, k, acc => if l.length ≤ k then some acc else
    match dec (l.drop k) with
    | none => none
    | some (_, m) => startsF f l (k + m) (acc ++ [(k : Int)])
def starts (l : List Int) : Option (List Int) := startsF (l.length + 1) l 0 []
end Go.Ob.Xc
namespace Go.Proofs.YtkfinaongajhmaaDoor.X
open Go.Ob Go.Ob.Xc Go.RowKit Go.Proofs.YtkfinaongajhmaaDoorW.PrintWords Go.Proofs.YtkfinaongajhmaaDoorW.PrintMore
attribute [local go_sem] max2_int min2_int max_two min_two
set_option linter.unusedVariables false
set_option linter.unusedSimpArgs false
theorem dec_two (s : ByteArray) : (dec (bl s) = none ∧ decA (bl s) = .tuple #[xv ⟨0, false, 0, 0, 0, 0, 0⟩, .int .i64 0, .int .i64 6]) ∨
    ∃ (y : XI) (k : Nat), dec (bl s) = some (y, k) ∧ decA (bl s) = .tuple #[xv y, .int .i64 k, .int .i64 0] ∧ 1 ≤ k ∧ k ≤ 10 ∧ k ≤ s.size := by
  cases h : dec (bl s) with
  | none => exact .inl ⟨rfl, by unfold decA; rw [h]⟩
  | some p =>
    obtain ⟨y, k⟩ := p
    obtain ⟨hr, hp, hk⟩ := dec_some h
    obtain ⟨s1, s2, -⟩ := sizes hr
    have := hp.length_le
    rw [bl_length] at this
    exact .inr ⟨y, k, rfl, by unfold decA; rw [h], by omega, by omega, by omega⟩
/-- what Starts answers -/
def StartsAns (l : List Int) (w : World) (e : Ending) (w' : World) : Prop :=
  (match starts l with
   | some acc => ∃ v : Value, e = .returned (.tuple #[v, .int .i64 0]) ∧ w'.ownsRow w.heap.size 3 1 v acc.length (acc.map (Value.int .i64))
   | none => e = .returned (.tuple #[.slice none 0 0, .int .i64 6])) ∧ Below w.heap.size w w'
theorem starts_no {l : List Int} {w w' : World} {e : Ending} (h : starts l = none) (he : e = .returned (.tuple #[.slice none 0 0, .int .i64 6])) (hb : Below w.heap.size w w') : StartsAns l w e w' := by
  unfold StartsAns
  rw [h]
  exact ⟨he, hb⟩
theorem starts_yes {l acc : List Int} {w w' : World} {e : Ending} {v : Value} (h : starts l = some acc) (he : e = .returned (.tuple #[v, .int .i64 0])) (ho : w'.ownsRow w.heap.size 3 1 v acc.length (acc.map (Value.int .i64))) (hb : Below w.heap.size w w') : StartsAns l w e w' := by
  unfold StartsAns
  rw [h]
  exact ⟨⟨v, he, ho⟩, hb⟩
set_option maxHeartbeats 16000000 in
set_option maxRecDepth 100000 in
theorem Starts (s : ByteArray) (w : World) (ht : Tab w) (hs : s.size ≤ 17592186040320) : Calls Tryd.prog 30 #[.string s] w (StartsAns (bl s) w) := by
  obtain ⟨i0, hi0, hz0, hz1, hz2⟩ := info_parts info_int
  have HT := Aside0.mk ht
  clear ht
  go_enter Tryd.func30, Tryd.ntmps30
  go_wp2
  go_loopw [4, 5] (fun v i wr => ∃ (k f : Nat) (acc : List Int), i = .int .i64 k ∧ k ≤ s.size ∧ acc.length ≤ k ∧ s.size - k < f ∧ startsF f (bl s) k acc = starts (bl s) ∧ wr.ownsRow w.heap.size 3 1 v acc.length (acc.map (Value.int .i64)) ∧ Below w.heap.size w wr) (fun _ i _ => s.size - (intOf i).toNat)
  case atStart => exact ⟨0, s.size + 1, [], rfl, Nat.zero_le _, Nat.zero_le _, by omega, by unfold starts; rw [bl_length], World.ownsRow_nil _ _ _ _, Below.refl _ _⟩
  case round =>
    obtain ⟨k, f, acc, rfl, hk, hacc, hf, hst, hown, hbw⟩ := hrel
    have HS := Aside0.mk hst
    have HO := Aside0.mk hown
    have HW := Aside0.mk hbw
    clear hst hown hbw
    obtain ⟨f, rfl⟩ : ∃ g, f = g + 1 := ⟨f - 1, by omega⟩
    by_cases hlt : k < s.size
    · have hdr : bl (s.extract k s.size) = (bl s).drop k := by
        rw [bl_extract]
        exact List.take_of_length_le (by rw [List.length_drop, bl_length]; exact Nat.le_refl _)
      have hle : ¬ (bl s).length ≤ k := by rw [bl_length]; omega
      have hsz : (s.extract k s.size).size = s.size - k := by rw [ByteArray.size_extract]; omega
      have hD := fun W (hW : Tab W) => Decode (s.extract k s.size) W hW (by omega)
      rcases dec_two (s.extract k s.size) with ⟨hd, hA⟩ | ⟨y, m, hd, hA, m1, m2, m3⟩
      · rw [hA] at hD
        have HD := Aside0.mk hD
        have HN := Aside0.mk (show starts (bl s) = none by
          rw [← HS.out]
          unfold startsF
          rw [if_neg hle, ← hdr, hd])
        clear hD hd hA hdr hle hsz
        go_wp2_with (go_at_call 20; (with_reducible refine (HD.out _ (HT.out.below HW.out)).mono ?_); rintro e w2 ⟨rfl, hb2⟩; have H2 := Aside0.mk hb2; clear hb2)
        go_ret2
        exact starts_no HN.out rfl (((HW.out.trans (H2.out.mono HW.out.size))).alloc (Nat.le_trans HW.out.size H2.out.size) _)
      · rw [hA] at hD
        rw [hsz] at m3
        have HD := Aside0.mk hD
        have HN := Aside0.mk (show startsF f (bl s) (k + m) (acc ++ [(k : Int)]) = starts (bl s) by
          rw [← HS.out]
          conv => rhs; unfold startsF
          rw [if_neg hle, ← hdr, hd])
        clear hD hd hA hdr hle hsz
        obtain ⟨o, wd, r, b, i, c, nn⟩ := y
        go_wp2_with (first
          | (go_at_call 20; (with_reducible refine (HD.out _ (HT.out.below HW.out)).mono ?_); rintro e w2 ⟨rfl, hb2⟩; have H2 := Aside0.mk hb2; have O2 := Aside0.mk ((pw_own_below HO.out hb2).alloc (.cells #[.int .i64 o, .bool wd, .int .i64 r, .int .i64 b, .int .i64 i, .int .i64 c, .int .i64 nn] 23)); clear hb2)
          | (at_builtin; refine wpList_append_own _ rfl _ _ 44 rfl w.heap.size 3 i0 (.int .i64 0) 1 8 Tryd.underlying44 hi0 hz0 hz1 hz2 rfl (by decide) _ _ _ rfl (O2.out.alloc _) ⟨_, 0, none⟩ 1 1 [.int .i64 (k : Int)] rfl rfl ?c1 ?c2 ?c3 ?c4 ?c5 ?_))
        case c1 =>
          have h := one_cell (w2.alloc (.cells #[.int .i64 o, .bool wd, .int .i64 r, .int .i64 b, .int .i64 i, .int .i64 c, .int .i64 nn] 23)) (.int .i64 (k : Int)) 3
          rw [World.size_alloc] at h
          exact h
        case c2 => intro u hu; simp at hu; subst hu; rfl
        case c3 => unfold maxLen; omega
        case c4 => omega
        case c5 => exact Nat.le_trans HW.out.size (Nat.le_trans H2.out.size (by simp <;> omega))
        intro v' w3 hown3 hgrow _
        have H3 := Aside0.mk (And.intro hown3 hgrow)
        have B2 : Below w.heap.size w w2 := HW.out.trans (H2.out.mono HW.out.size)
        have HB2 := Aside0.mk B2
        clear hown3 hgrow B2
        go_wp2
        have B3 : Below w.heap.size w w3 := ((HB2.out.alloc HB2.out.size _).alloc (Nat.le_trans HB2.out.size (by simp <;> omega)) _).grown H3.out.2 (Nat.le_trans HB2.out.size (by simp <;> omega)) (fun q hq => (HO.out.lt q hq).1)
        refine ⟨⟨k + m, f, acc ++ [(k : Int)], by simp, by omega, by simp; omega, by omega, HN.out, ?_, B3⟩, by simp [intOf]; omega⟩
        rw [List.map_append, List.length_append]
        exact H3.out.1
    · obtain rfl : k = s.size := by omega
      have HN := Aside0.mk (show starts (bl s) = some acc by
        rw [← HS.out]
        unfold startsF
        rw [if_pos (by rw [bl_length]; exact Nat.le_refl _)])
      go_wp2
      go_ret2
      exact starts_yes HN.out rfl HO.out HW.out
end Go.Proofs.YtkfinaongajhmaaDoor.X
/- Two lists of numbers that are the same: what the law's comparison answers. -/
namespace Go.Proofs.YtkfinaongajhmaaDoor.X
open Go.Ob Go.Ob.Xc Go.RowKit Go.Proofs.YtkfinaongajhmaaDoorW.PrintWords Go.Proofs.YtkfinaongajhmaaDoorW.PrintMore
attribute [local go_sem] max2_int min2_int max_two min_two
set_option linter.unusedVariables false
set_option linter.unusedSimpArgs false
/-- a row of one's own, as a list of numbers -/
theorem reads_of_own {w : World} {base n : Nat} {v : Value} {xs : List Int} (h : w.ownsRow base 3 1 v n (xs.map (Value.int .i64))) (hn : n ≤ 9223372036854775807) : ∃ (A : Option Addr) (cap : Nat), v = .slice A n cap ∧ ReadsInt w .i64 A n xs := by
  obtain ⟨hlen, hv⟩ := id h
  rw [List.length_map, Nat.mul_one] at hlen
  rcases hv with ⟨rfl, rfl⟩ | ⟨g, cap, cur, rfl, hg, hh, hcn, hcm, hcs, htk⟩
  · exact ⟨none, 0, rfl, hlen, hn, fun c => absurd c (by omega)⟩
  · refine ⟨some ⟨g, 0, none⟩, cap, rfl, hlen, hn, fun _ => ⟨_, rfl, fun j hj => ?_⟩⟩
    have hc := h.cellAt j (by omega)
    rw [List.getElem?_map, List.getElem?_eq_getElem (by omega)] at hc
    rw [List.getD_eq_getElem?_getD, List.getElem?_eq_getElem (by omega)]
    rcases j with _ | j <;> simpa [Addr.add] using hc
set_option maxHeartbeats 16000000 in
set_option maxRecDepth 100000 in
theorem Numbers (xs : List Int) (A B : Option Addr) (n c1 c2 : Nat) (w : World) (hA : ReadsInt w .i64 A n xs) (hB : ReadsInt w .i64 B n xs) :
    Calls Tryd.prog 27 #[.slice A n c1, .slice B n c2] w fun e w' => e = .returned (.bool true) ∧ Below w.heap.size w w' := by
  have HA := Aside0.mk hA
  have HB := Aside0.mk hB
  obtain ⟨_, hm, _⟩ := hA
  clear hB
  go_enter Tryd.func27, Tryd.ntmps27
  go_wp2
  go_loopw [5] (fun i wr => ∃ k m : Nat, i = .int .i64 k ∧ k ≤ n ∧ wr = w.drewN m) (fun i _ => n - (intOf i).toNat)
  case atStart => exact ⟨0, 0, rfl, Nat.zero_le _, rfl⟩
  case round =>
    obtain ⟨k, m, rfl, hk, rfl⟩ := hrel
    by_cases hlt : k < n
    · obtain ⟨_, _, h1⟩ := HA.out.drewN m
      obtain ⟨_, _, h2⟩ := HB.out.drewN m
      obtain ⟨a, rfl, ha⟩ := h1 (by omega)
      obtain ⟨b, rfl, hb⟩ := h2 (by omega)
      have ca := ha k hlt
      have cb := hb k hlt
      clear h1 h2 ha hb
      generalize hx : xs.getD k 0 = x at *
      clear hx
      generalize hW : w.drewN m = W at *
      have j0 : (0 : Int) ≤ (k : Int) := by omega
      have j1 : (k : Int) < (n : Int) := by omega
      go_upto_region 6 with fail
      refine wp_region_still_lit (by kernel_rfl) (by kernel_rfl) ?_
      repeat still_step
      refine wpStill_nil ?_
      go_wp2
      refine ⟨⟨k + 1, m + 1, by simp, hlt, ?_⟩, by simp [intOf]; omega⟩
      rw [← hW]
      rfl
    · obtain rfl : k = n := by omega
      go_wp2
      go_ret
      exact ⟨rfl, pw_below_drewN (Below.refl _ _) _⟩
end Go.Proofs.YtkfinaongajhmaaDoor.X
/- The examples of chapter 13: what the law's examples compute. -/
namespace Go.Ob.Xc
set_option maxRecDepth 100000
def exL1 : List It := [⟨xz, 1, 0⟩, ⟨⟨20, false, 0, 0, 0, 0, 0⟩, 0, 0⟩, ⟨⟨17, false, 0, 0, 0, 0, 0⟩, 0, 1⟩]
def exL2 : List It := [⟨⟨17, false, 0, 0, 0, 0, 0⟩, 0, 2⟩]
theorem exA1 : asmB exL1 = some [195, 233, 250, 255, 255, 255] := by decide +kernel
theorem exA2 : asmB exL2 = none := by decide +kernel
end Go.Ob.Xc
namespace Go.Proofs.YtkfinaongajhmaaDoor.X
open Go.Ob Go.Ob.Xc Go.RowKit Go.Proofs.YtkfinaongajhmaaDoorW.PrintWords Go.Proofs.YtkfinaongajhmaaDoorW.PrintMore
attribute [local go_sem] max2_int min2_int max_two min_two
set_option linter.unusedVariables false
set_option linter.unusedSimpArgs false
theorem exS : starts (bl ⟨#[195, 233, 250, 255, 255, 255]⟩) = some [0, 1] := by
  have d0 : dec (bl ⟨#[195, 233, 250, 255, 255, 255]⟩) = some (⟨20, false, 0, 0, 0, 0, 0⟩, 1) := by
    have e : bl ⟨#[195, 233, 250, 255, 255, 255]⟩ = enc ⟨20, false, 0, 0, 0, 0, 0⟩ ++ [233, 250, 255, 255, 255] := by decide +kernel
    rw [e, dec_enc _ _ (by decide) (by decide)]
    rfl
  have d1 : dec ((bl ⟨#[195, 233, 250, 255, 255, 255]⟩).drop 1) = some (⟨17, false, 0, 0, 0, 0, -6⟩, 5) := by
    have e : (bl ⟨#[195, 233, 250, 255, 255, 255]⟩).drop 1 = enc ⟨17, false, 0, 0, 0, 0, -6⟩ ++ [] := by decide +kernel
    rw [e, dec_enc _ _ (by decide) (by decide)]
    rfl
  have hl : (bl ⟨#[195, 233, 250, 255, 255, 255]⟩).length = 6 := by decide +kernel
  unfold starts
  rw [hl]
  unfold startsF
  rw [if_neg (by rw [hl]; decide), List.drop_zero, d0]
  dsimp only
  unfold startsF
  rw [if_neg (by rw [hl]; decide), d1]
  dsimp only
  unfold startsF
  rw [if_pos (by rw [hl]; decide)]
  rfl
theorem its1 {W : World} {g : Nat} (h : W.heap[g]? = some (.cells #[.int .i64 0, .bool false, .int .i64 0, .int .i64 0, .int .i64 0, .int .i64 0, .int .i64 0, .int .i64 1, .int .i64 0, .int .i64 20, .bool false, .int .i64 0, .int .i64 0, .int .i64 0, .int .i64 0, .int .i64 0, .int .i64 0, .int .i64 0, .int .i64 17, .bool false, .int .i64 0, .int .i64 0, .int .i64 0, .int .i64 0, .int .i64 0, .int .i64 0, .int .i64 1] 56 (0, 0))) : Its W (some ⟨g, 0, none⟩) exL1 := by
  refine ⟨fun t ht => ?_, fun _ => ⟨_, rfl, blk_lt h, fun i hi => ?_⟩⟩
  · simp only [exL1, List.mem_cons, List.not_mem_nil, or_false] at ht
    rcases ht with rfl | rfl | rfl
    all_goals exact ⟨by unfold NB; decide, by decide, by decide⟩
  · have hi2 : i = 0 ∨ i = 1 ∨ i = 2 := by have : exL1.length = 3 := rfl; omega
    have c := fun k => blk_cell h k
    rcases hi2 with rfl | rfl | rfl
    · exact ⟨c 0, c 1, c 2, c 3, c 4, c 5, c 6, c 7, c 8⟩
    · exact ⟨c 9, c 10, c 11, c 12, c 13, c 14, c 15, c 16, c 17⟩
    · exact ⟨c 18, c 19, c 20, c 21, c 22, c 23, c 24, c 25, c 26⟩
theorem its2 {W : World} {g : Nat} (h : W.heap[g]? = some (.cells #[.int .i64 17, .bool false, .int .i64 0, .int .i64 0, .int .i64 0, .int .i64 0, .int .i64 0, .int .i64 0, .int .i64 2] 56 (0, 0))) : Its W (some ⟨g, 0, none⟩) exL2 := by
  refine ⟨fun t ht => ?_, fun _ => ⟨_, rfl, blk_lt h, fun i hi => ?_⟩⟩
  · simp only [exL2, List.mem_cons, List.not_mem_nil, or_false] at ht
    subst ht
    exact ⟨by unfold NB; decide, by decide, by decide⟩
  · have hi2 : i = 0 := by have : exL2.length = 1 := rfl; omega
    have c := fun k => blk_cell h k
    subst hi2
    exact ⟨c 0, c 1, c 2, c 3, c 4, c 5, c 6, c 7, c 8⟩
theorem asm1 (W : World) (g : Nat) (ht : Tab W) (h : W.heap[g]? = some (.cells #[.int .i64 0, .bool false, .int .i64 0, .int .i64 0, .int .i64 0, .int .i64 0, .int .i64 0, .int .i64 1, .int .i64 0, .int .i64 20, .bool false, .int .i64 0, .int .i64 0, .int .i64 0, .int .i64 0, .int .i64 0, .int .i64 0, .int .i64 0, .int .i64 17, .bool false, .int .i64 0, .int .i64 0, .int .i64 0, .int .i64 0, .int .i64 0, .int .i64 0, .int .i64 1] 56 (0, 0))) :
    Calls Tryd.prog 28 #[.slice (some ⟨g, 0, none⟩) 3 3] W fun e w' => e = .returned (.tuple #[.string ⟨#[195, 233, 250, 255, 255, 255]⟩, .int .i64 0]) ∧ Below W.heap.size W w' := by
  have h1 : Calls Tryd.prog 28 #[.slice (some ⟨g, 0, none⟩) 3 3] W (AsmAns exL1 W) := Assemble exL1 (some ⟨g, 0, none⟩) 3 W ht (by decide) (its1 h)
  refine h1.mono fun e w' ha => ?_
  unfold AsmAns at ha
  rw [exA1] at ha
  exact ⟨ha.1, ha.2⟩
theorem asm2 (W : World) (g : Nat) (ht : Tab W) (h : W.heap[g]? = some (.cells #[.int .i64 17, .bool false, .int .i64 0, .int .i64 0, .int .i64 0, .int .i64 0, .int .i64 0, .int .i64 0, .int .i64 2] 56 (0, 0))) :
    Calls Tryd.prog 28 #[.slice (some ⟨g, 0, none⟩) 1 1] W fun e w' => e = .returned (.tuple #[.string ⟨#[]⟩, .int .i64 4]) ∧ Below W.heap.size W w' := by
  have h1 : Calls Tryd.prog 28 #[.slice (some ⟨g, 0, none⟩) 1 1] W (AsmAns exL2 W) := Assemble exL2 (some ⟨g, 0, none⟩) 1 W ht (by decide) (its2 h)
  refine h1.mono fun e w' ha => ?_
  unfold AsmAns at ha
  rw [exA2] at ha
  exact ⟨ha.1, ha.2⟩
theorem starts1 (W : World) (ht : Tab W) : Calls Tryd.prog 30 #[.string ⟨#[195, 233, 250, 255, 255, 255]⟩] W fun e w' => ∃ (A : Option Addr) (cap : Nat), e = .returned (.tuple #[.slice A 2 cap, .int .i64 0]) ∧ ReadsInt w' .i64 A 2 [0, 1] ∧ Below W.heap.size W w' := by
  refine (Starts _ W ht (by decide)).mono fun e w' h => ?_
  unfold StartsAns at h
  rw [exS] at h
  obtain ⟨⟨v, rfl, ho⟩, hb⟩ := h
  obtain ⟨A, cap, rfl, hr⟩ := reads_of_own ho (by decide)
  exact ⟨A, cap, rfl, hr, hb⟩
set_option maxHeartbeats 16000000 in
set_option maxRecDepth 100000 in
theorem AExamples (w : World) (ht : Tab w) : Calls Tryd.prog 24 #[] w fun e w' => e = .returned (.bool true) ∧ Below w.heap.size w w' := by
  have HT := Aside0.mk ht
  have H0 := Aside0.mk (blk_new w (.cells #[.int .i64 0, .bool false, .int .i64 0, .int .i64 0, .int .i64 0, .int .i64 0, .int .i64 0, .int .i64 1, .int .i64 0, .int .i64 20, .bool false, .int .i64 0, .int .i64 0, .int .i64 0, .int .i64 0, .int .i64 0, .int .i64 0, .int .i64 0, .int .i64 17, .bool false, .int .i64 0, .int .i64 0, .int .i64 0, .int .i64 0, .int .i64 0, .int .i64 0, .int .i64 1] 56))
  have H00 := Aside0.mk (fun W : World => blk_new W (.cells #[.int .i64 17, .bool false, .int .i64 0, .int .i64 0, .int .i64 0, .int .i64 0, .int .i64 0, .int .i64 0, .int .i64 2] 56))
  have HN2 := Aside0.mk (fun W : World => (show ReadsInt (W.alloc (.cells #[.int .i64 0, .int .i64 1] 3)) .i64 (some ⟨W.heap.size, 0, none⟩) 2 [0, 1] from reads_new W [0, 1] 2 rfl (by decide)))
  clear ht
  go_enter Tryd.func24, Tryd.ntmps24
  go_upto_region 2 with (go_at_call 28; (with_reducible refine (asm1 _ _ (HT.out.below (below_alloc (Below.refl _ _) _)) H0.out).mono ?_); rintro e w1 ⟨rfl, hb⟩; have H1 := Aside0.mk ((below_alloc (Below.refl w.heap.size w) _).trans (hb.mono (by simp))); clear hb)
  go_upto_region 3 with (go_at_call 30; (with_reducible refine (starts1 _ (HT.out.below H1.out)).mono ?_); rintro e w2 ⟨A, cap, rfl, hr, hb⟩; have H2 := Aside0.mk (And.intro (H1.out.trans (hb.mono H1.out.size)) hr); clear hb hr)
  go_upto_region 4 with (go_at_call 27; (with_reducible refine (Numbers [0, 1] _ _ _ _ _ _ (H2.out.2.below (below_alloc (Below.refl _ _) _)) (HN2.out w2)).mono ?_); rintro e w3 ⟨rfl, hb⟩; have H3 := Aside0.mk ((below_alloc H2.out.1 _).trans (hb.mono (Nat.le_trans H2.out.1.size (by simp)))); clear hb)
  go_wp2_with (go_at_call 28; (with_reducible refine (asm2 _ _ (HT.out.below (below_alloc H3.out _)) (H00.out _)).mono ?_); rintro e w4 ⟨rfl, hb⟩; have H4 := Aside0.mk ((below_alloc H3.out _).trans (hb.mono (Nat.le_trans H3.out.size (by simp)))); clear hb)
  go_ret
  exact ⟨rfl, H4.out⟩
end Go.Proofs.YtkfinaongajhmaaDoor.X
