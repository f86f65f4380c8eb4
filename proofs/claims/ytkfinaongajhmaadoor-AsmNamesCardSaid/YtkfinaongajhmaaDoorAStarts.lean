/- Where instructions begin: what the program's function computes. -/
import Derived.Test.YtkfinaongajhmaaDoorAPlaces
namespace Go.Ob.Xc
/-- where instructions begin, from the k-th byte on -/
def startsF : Nat → List Int → Nat → List Int → Option (List Int)
  | 0, _, _, _ => none
  | f + 1, l, k, acc => if l.length ≤ k then some acc else
    match dec (l.drop k) with
    | none => none
    | some (_, m) => startsF f l (k + m) (acc ++ [(k : Int)])
def starts (l : List Int) : Option (List Int) := startsF (l.length + 1) l 0 []
end Go.Ob.Xc
namespace Go.Proofs.YtkfinaongajhmaaDoor.X
open Go.Ob Go.Ob.Xc Go.RowKit Go.Proofs.YtkfinaongajhmaaDoorW.PrintWords Go.Proofs.YtkfinaongajhmaaDoorW.PrintMore
attribute [local go_sem] max2_int min2_int max_two min_two
set_option linter.unusedVariables false
set_option linter.unusedSimpArgs false
theorem dec_two (s : ByteArray) : (dec (bl s) = none ∧ decA (bl s) = .tuple #[xv ⟨0, false, 0, 0, 0, 0, 0⟩, .int .i64 0, .int .i64 6]) ∨
    ∃ (y : XI) (k : Nat), dec (bl s) = some (y, k) ∧ decA (bl s) = .tuple #[xv y, .int .i64 k, .int .i64 0] ∧ 1 ≤ k ∧ k ≤ 10 ∧ k ≤ s.size := by
  cases h : dec (bl s) with
  | none => exact .inl ⟨rfl, by unfold decA; rw [h]⟩
  | some p =>
    obtain ⟨y, k⟩ := p
    obtain ⟨hr, hp, hk⟩ := dec_some h
    obtain ⟨s1, s2, -⟩ := sizes hr
    have := hp.length_le
    rw [bl_length] at this
    exact .inr ⟨y, k, rfl, by unfold decA; rw [h], by omega, by omega, by omega⟩
/-- what Starts answers -/
def StartsAns (l : List Int) (w : World) (e : Ending) (w' : World) : Prop :=
  (match starts l with
   | some acc => ∃ v : Value, e = .returned (.tuple #[v, .int .i64 0]) ∧ w'.ownsRow w.heap.size 3 1 v acc.length (acc.map (Value.int .i64))
   | none => e = .returned (.tuple #[.slice none 0 0, .int .i64 6])) ∧ Below w.heap.size w w'
theorem starts_no {l : List Int} {w w' : World} {e : Ending} (h : starts l = none) (he : e = .returned (.tuple #[.slice none 0 0, .int .i64 6])) (hb : Below w.heap.size w w') : StartsAns l w e w' := by
  unfold StartsAns
  rw [h]
  exact ⟨he, hb⟩
theorem starts_yes {l acc : List Int} {w w' : World} {e : Ending} {v : Value} (h : starts l = some acc) (he : e = .returned (.tuple #[v, .int .i64 0])) (ho : w'.ownsRow w.heap.size 3 1 v acc.length (acc.map (Value.int .i64))) (hb : Below w.heap.size w w') : StartsAns l w e w' := by
  unfold StartsAns
  rw [h]
  exact ⟨⟨v, he, ho⟩, hb⟩
set_option maxHeartbeats 16000000 in
set_option maxRecDepth 100000 in
theorem Starts (s : ByteArray) (w : World) (ht : Tab w) (hs : s.size ≤ 17592186040320) : Calls Tryd.prog 30 #[.string s] w (StartsAns (bl s) w) := by
  obtain ⟨i0, hi0, hz0, hz1, hz2⟩ := info_parts info_int
  have HT := Aside0.mk ht
  clear ht
  go_enter Tryd.func30, Tryd.ntmps30
  go_wp2
  go_loopw [4, 5] (fun v i wr => ∃ (k f : Nat) (acc : List Int), i = .int .i64 k ∧ k ≤ s.size ∧ acc.length ≤ k ∧ s.size - k < f ∧ startsF f (bl s) k acc = starts (bl s) ∧ wr.ownsRow w.heap.size 3 1 v acc.length (acc.map (Value.int .i64)) ∧ Below w.heap.size w wr) (fun _ i _ => s.size - (intOf i).toNat)
  case atStart => exact ⟨0, s.size + 1, [], rfl, Nat.zero_le _, Nat.zero_le _, by omega, by unfold starts; rw [bl_length], World.ownsRow_nil _ _ _ _, Below.refl _ _⟩
  case round =>
    obtain ⟨k, f, acc, rfl, hk, hacc, hf, hst, hown, hbw⟩ := hrel
    have HS := Aside0.mk hst
    have HO := Aside0.mk hown
    have HW := Aside0.mk hbw
    clear hst hown hbw
    obtain ⟨f, rfl⟩ : ∃ g, f = g + 1 := ⟨f - 1, by omega⟩
    by_cases hlt : k < s.size
    · have hdr : bl (s.extract k s.size) = (bl s).drop k := by
        rw [bl_extract]
        exact List.take_of_length_le (by rw [List.length_drop, bl_length]; exact Nat.le_refl _)
      have hle : ¬ (bl s).length ≤ k := by rw [bl_length]; omega
      have hsz : (s.extract k s.size).size = s.size - k := by rw [ByteArray.size_extract]; omega
      have hD := fun W (hW : Tab W) => Decode (s.extract k s.size) W hW (by omega)
      rcases dec_two (s.extract k s.size) with ⟨hd, hA⟩ | ⟨y, m, hd, hA, m1, m2, m3⟩
      · rw [hA] at hD
        have HD := Aside0.mk hD
        have HN := Aside0.mk (show starts (bl s) = none by
          rw [← HS.out]
          unfold startsF
          rw [if_neg hle, ← hdr, hd])
        clear hD hd hA hdr hle hsz
        go_wp2_with (go_at_call 20; (with_reducible refine (HD.out _ (HT.out.below HW.out)).mono ?_); rintro e w2 ⟨rfl, hb2⟩; have H2 := Aside0.mk hb2; clear hb2)
        go_ret2
        exact starts_no HN.out rfl (((HW.out.trans (H2.out.mono HW.out.size))).alloc (Nat.le_trans HW.out.size H2.out.size) _)
      · rw [hA] at hD
        rw [hsz] at m3
        have HD := Aside0.mk hD
        have HN := Aside0.mk (show startsF f (bl s) (k + m) (acc ++ [(k : Int)]) = starts (bl s) by
          rw [← HS.out]
          conv => rhs; unfold startsF
          rw [if_neg hle, ← hdr, hd])
        clear hD hd hA hdr hle hsz
        obtain ⟨o, wd, r, b, i, c, nn⟩ := y
        go_wp2_with (first
          | (go_at_call 20; (with_reducible refine (HD.out _ (HT.out.below HW.out)).mono ?_); rintro e w2 ⟨rfl, hb2⟩; have H2 := Aside0.mk hb2; have O2 := Aside0.mk ((pw_own_below HO.out hb2).alloc (.cells #[.int .i64 o, .bool wd, .int .i64 r, .int .i64 b, .int .i64 i, .int .i64 c, .int .i64 nn] 23)); clear hb2)
          | (at_builtin; refine wpList_append_own _ rfl _ _ 44 rfl w.heap.size 3 i0 (.int .i64 0) 1 8 Tryd.underlying44 hi0 hz0 hz1 hz2 rfl (by decide) _ _ _ rfl (O2.out.alloc _) ⟨_, 0, none⟩ 1 1 [.int .i64 (k : Int)] rfl rfl ?c1 ?c2 ?c3 ?c4 ?c5 ?_))
        case c1 =>
          have h := one_cell (w2.alloc (.cells #[.int .i64 o, .bool wd, .int .i64 r, .int .i64 b, .int .i64 i, .int .i64 c, .int .i64 nn] 23)) (.int .i64 (k : Int)) 3
          rw [World.size_alloc] at h
          exact h
        case c2 => intro u hu; simp at hu; subst hu; rfl
        case c3 => unfold maxLen; omega
        case c4 => omega
        case c5 => exact Nat.le_trans HW.out.size (Nat.le_trans H2.out.size (by simp <;> omega))
        intro v' w3 hown3 hgrow _
        have H3 := Aside0.mk (And.intro hown3 hgrow)
        have B2 : Below w.heap.size w w2 := HW.out.trans (H2.out.mono HW.out.size)
        have HB2 := Aside0.mk B2
        clear hown3 hgrow B2
        go_wp2
        have B3 : Below w.heap.size w w3 := ((HB2.out.alloc HB2.out.size _).alloc (Nat.le_trans HB2.out.size (by simp <;> omega)) _).grown H3.out.2 (Nat.le_trans HB2.out.size (by simp <;> omega)) (fun q hq => (HO.out.lt q hq).1)
        refine ⟨⟨k + m, f, acc ++ [(k : Int)], by simp, by omega, by simp; omega, by omega, HN.out, ?_, B3⟩, by simp [intOf]; omega⟩
        rw [List.map_append, List.length_append]
        exact H3.out.1
    · obtain rfl : k = s.size := by omega
      have HN := Aside0.mk (show starts (bl s) = some acc by
        rw [← HS.out]
        unfold startsF
        rw [if_pos (by rw [bl_length]; exact Nat.le_refl _)])
      go_wp2
      go_ret2
      exact starts_yes HN.out rfl HO.out HW.out
end Go.Proofs.YtkfinaongajhmaaDoor.X
