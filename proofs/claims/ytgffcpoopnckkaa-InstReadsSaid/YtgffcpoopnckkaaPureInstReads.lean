/- What the reference reads, and the law of reading. -/
import Derived.Test.YtgffcpoopnckkaaInstRefKind
import Derived.Test.YtgffcpoopnckkaaLebRefTakeInst
import Derived.Test.YtgffcpoopnckkaaInstLaws
import Derived.Test.YtgffcpoopnckkaaMIx12
namespace Go.Proofs.Ytgffcpoopnckkaa.CoreInst
open Go.RowKit Go.Proofs.Ytgffcpoopnckkaa.MI Go.Proofs.YtgffcpoopnckkaaW.PrintWords Go.Proofs.YtgffcpoopnckkaaW.PrintLast Go.Proofs.YtgffcpoopnckkaaW.PrintMore Go.Ob Go.Ob.Leb Go.Ob.Inst
set_option linter.unusedVariables false
set_option linter.unusedSimpArgs false
/-- what the reference reads -/
def rtk (l : List Int) : Int × Int × Int × ByteArray × Bool := match take l with | none => (0, 0, 0, (⟨#[]⟩ : ByteArray), false) | some (op, n, m, r) => (op, n, m, strOfNums r, true)
theorem rTake_eq (s : ByteArray) (k : Nat) (hk : 50 ≤ k) : oublietteref04_Take.f k s = some (rtk (bl s)) := by
  obtain ⟨k, rfl⟩ : ∃ j, k = j + 4 := ⟨k - 4, by omega⟩
  cases hl : bl s with
  | nil =>
    have : s.toList = ([] : List UInt8) := (toList_iff_lit s []).mpr (by rw [hl]; rfl)
    unfold oublietteref04_Take.f
    rw [if_pos this]
    rfl
  | cons b l =>
    have hsz : s.size = l.length + 1 := by rw [← bl_length, hl]; rfl
    have hb := bl_bytes s b (by rw [hl]; simp)
    have hbt : bt s 0 = b := by
      have := bt_eq s 0 (by omega)
      simp only [hl] at this
      exact this
    have hr : s.extract 1 s.size = strOfNums l := by rw [rest_eq, hl]; rfl
    have hlb : ∀ c ∈ l, 0 ≤ c ∧ c < 256 := fun c hc => bl_bytes s c (by rw [hl]; simp [hc])
    have hbl : bl (strOfNums l) = l := bl_num l hlb
    have hne : s.toList ≠ ([] : List UInt8) := fun h => by rw [toList_iff_lit, hl] at h; cases h
    unfold oublietteref04_Take.f
    rw [if_neg hne, if_pos (by omega), if_pos (by omega), hbt, wrap_in (by omega) (by omega), rKind_eq b _ (by omega), hr]
    simp only [Option.bind_some]
    unfold rtk take
    simp only []
    rcases kd_cases b with e | e | e | e | e | e | e <;> rw [e] <;> simp only [Int.reduceEq, reduceCtorEq, if_true, if_false]
    · simp [oublietteref04_Take.j0]
    · cases l with
      | nil =>
        rw [if_pos ((toList_iff_lit _ []).mpr (by rw [hbl]; rfl))]
      | cons c l =>
        have hc := hlb c (by simp)
        have hs2 : (strOfNums (c :: l)).size = l.length + 1 := by rw [← bl_length, hbl]; rfl
        have hbt1 : bt (strOfNums (c :: l)) 0 = c := by
          have := bt_eq (strOfNums (c :: l)) 0 (by omega)
          simp only [hbl] at this
          exact this
        have hbt2 : bt s 1 = c := by
          have := bt_eq s 1 (by simp only [List.length_cons] at hsz; omega)
          simp only [hl] at this
          exact this
        have hr2 : (strOfNums (c :: l)).extract 1 (strOfNums (c :: l)).size = strOfNums l := by rw [rest_eq, hbl]; rfl
        have hs2n : (1 : Int) ≤ ((strOfNums (c :: l)).size : Int) := by omega
        have hszn : (1 : Int) < (s.size : Int) := by simp only [List.length_cons] at hsz; omega
        rw [if_neg (fun h => by rw [toList_iff_lit, hbl] at h; cases h), if_pos (by omega), hbt1]
        simp only [oublietteref04_Take.j0, hr2]
        by_cases hc64 : c = 64
        · subst hc64; simp [hs2n]
        · rw [if_neg hc64, if_neg hc64, wrap_in (x := c) (by omega) (by omega), wrap_in (x := 127 - c) (by omega) (by omega), wrap_in (by omega) (by omega), show 127 - c + 1 = 128 - c by omega]
          by_cases h1 : 128 - c < 1
          · rw [if_pos h1, if_neg (show ¬ (1 ≤ 128 - c ∧ 128 - c ≤ 4) by omega)]
          · rw [if_neg h1]
            by_cases h2 : 128 - c > 4
            · rw [if_pos h2, if_neg (show ¬ (1 ≤ 128 - c ∧ 128 - c ≤ 4) by omega)]
            · rw [if_neg h2, if_pos hs2n, if_pos (show 1 ≤ 128 - c ∧ 128 - c ≤ 4 by omega)]
              simp
    · rw [rTakeU_eq _ 32 (by decide) (by decide) _ (by omega), hbl]
      simp only [Option.bind_some, oublietteref04_Take.j0]
      split <;> simp
    · rw [rTakeU_eq _ 1 (by decide) (by decide) _ (by omega), hbl]
      simp only [Option.bind_some, oublietteref04_Take.j0]
      by_cases he : (takeU l 1).2.2 = 0
      · rw [if_pos he, if_pos he]
        have hl2 : ∀ c ∈ (takeU l 1).2.1, 0 ≤ c ∧ c < 256 := fun c hc => hlb c (by rw [← (takeU_off l hlb 1 he).2.2.2]; simp [hc])
        rw [rTakeU_eq _ 32 (by decide) (by decide) _ (by omega), bl_num _ hl2]
        simp only [Option.bind_some]
        split <;> simp
      · rw [if_neg he, if_neg he, if_neg he]
    · rw [rTakeS_eq _ 32 (by decide) (by decide) _ (by omega), hbl]
      simp only [Option.bind_some, oublietteref04_Take.j0]
      split <;> simp
    · rw [rTakeS_eq _ 64 (by decide) (by decide) _ (by omega), hbl]
      simp only [Option.bind_some, oublietteref04_Take.j0]
      split <;> simp
end Go.Proofs.Ytgffcpoopnckkaa.CoreInst
namespace Go.Proofs.Ytgffcpoopnckkaa.Pure
open Go.RowKit Go.Proofs.Ytgffcpoopnckkaa.MI Go.Proofs.Ytgffcpoopnckkaa.CoreInst Go.Ob Go.Ob.Leb Go.Ob.Inst

theorem InstReads : oubliettelaw04_InstReads.Pure := by
  intro s hs
  refine ⟨60, ?_⟩
  unfold oubliettelaw04_InstReads.f
  rw [examples_true 60 (by decide), Take_eq s 60 (by decide), rTake_eq s 60 (by decide)]
  simp only [Option.bind_some, if_true]
  unfold tk rtk
  cases take (bl s) with
  | none => simp
  | some x => obtain ⟨op, n, m, r⟩ := x; simp
end Go.Proofs.Ytgffcpoopnckkaa.Pure
