/- An instruction's bytes begin with its first byte; two unlike ones have bytes of which none is the other's beginning. -/
import Derived.Test.YtgffcpoopnckkaaInstLaws
import Derived.Test.YtgffcpoopnckkaaMIFirst
namespace Go.Proofs.Ytgffcpoopnckkaa.Pure
open Go.RowKit Go.Proofs.YtgffcpoopnckkaaW.PrintWords Go.Proofs.YtgffcpoopnckkaaW.PrintLast Go.Proofs.YtgffcpoopnckkaaW.PrintMore Go.Proofs.Ytgffcpoopnckkaa.MI Go.Proofs.Ytgffcpoopnckkaa.CoreInst Go.Ob Go.Ob.Leb Go.Ob.Inst
set_option linter.unusedVariables false
set_option linter.unusedSimpArgs false
theorem pre_one {a b c x y z : Int} (hb : -9223372036854775808 ≤ b ∧ b ≤ 9223372036854775807) (hy : -9223372036854775808 ≤ y ∧ y ≤ 9223372036854775807) (h1 : rt a b c = true) (h2 : rt x y z = true)
    (hl : (enc a b c).length ≤ (enc x y z).length) (h : enc a b c = (enc x y z).take (enc a b c).length) : a = x ∧ b = y ∧ c = z := by
  have e1 := take_enc a b c hb.1 hb.2 h1 ((enc x y z).drop (enc a b c).length)
  have e2 := take_enc x y z hy.1 hy.2 h2 []
  rw [List.append_nil] at e2
  have e3 : enc a b c ++ (enc x y z).drop (enc a b c).length = enc x y z := by
    conv => lhs; lhs; rw [h]
    exact List.take_append_drop _ _
  rw [e3, e2] at e1
  simp only [Option.some.injEq, Prod.mk.injEq] at e1
  exact ⟨e1.1.symm, e1.2.1.symm, e1.2.2.1.symm⟩
theorem pre_iff {a b c x y z : Int} (hb : -9223372036854775808 ≤ b ∧ b ≤ 9223372036854775807) (hy : -9223372036854775808 ≤ y ∧ y ≤ 9223372036854775807) (h1 : rt a b c = true) (h2 : rt x y z = true) (p : Nat)
    (hp : p = if (enc x y z).length < (enc a b c).length then (enc x y z).length else (enc a b c).length) : (enc a b c).take p = (enc x y z).take p ↔ a = x ∧ b = y ∧ c = z := by
  constructor
  · intro h
    by_cases hl : (enc x y z).length < (enc a b c).length
    · rw [if_pos hl] at hp
      subst hp
      rw [List.take_length] at h
      obtain ⟨e1, e2, e3⟩ := pre_one hy hb h2 h1 (by omega) h.symm
      exact ⟨e1.symm, e2.symm, e3.symm⟩
    · rw [if_neg hl] at hp
      subst hp
      rw [List.take_length] at h
      exact pre_one hb hy h1 h2 (by omega) h
  · rintro ⟨rfl, rfl, rfl⟩
    rfl
theorem InstFirst (a b c x y z : Int) (wa : (Lit.int .i64 a).wf = true) (wb : (Lit.int .i64 b).wf = true) (wc : (Lit.int .i64 c).wf = true) (wx : (Lit.int .i64 x).wf = true) (wy : (Lit.int .i64 y).wf = true) (wz : (Lit.int .i64 z).wf = true) :
    ∃ k, oubliettelaw04_InstFirst.f k a b c x y z = some true := by
  refine ⟨82, ?_⟩
  have hb := bounds_i64 wb
  have hy := bounds_i64 wy
  unfold oubliettelaw04_InstFirst.f
  rw [examples_true 82 (by decide), Option.bind_some]
  cases h1 : rt a b c with
  | false =>
    rw [Bytes_no a b c h1 82 (by decide), Option.bind_some]
    cases h2 : rt x y z with
    | false => rw [Bytes_no x y z h2 82 (by decide), Option.bind_some]; rfl
    | true => rw [Bytes_ok x y z hy.1 hy.2 h2 82 (by decide), Option.bind_some]; rfl
  | true =>
    rw [Bytes_ok a b c hb.1 hb.2 h1 82 (by decide), Option.bind_some]
    cases h2 : rt x y z with
    | false => rw [Bytes_no x y z h2 82 (by decide), Option.bind_some]; rfl
    | true =>
      rw [Bytes_ok x y z hy.1 hy.2 h2 82 (by decide), Option.bind_some]
      have k0 : kd a ≠ 0 := by intro k0; unfold rt at h1; rw [if_pos k0] at h1; cases h1
      have ha := kd_byte a k0
      have bA := bl_num _ (enc_bytes a b c h1)
      have bB := bl_num _ (enc_bytes x y z h2)
      have lA := enc_len a b c hb.1 hb.2 h1
      have lB := enc_len x y z hy.1 hy.2 h2
      have sA : (strOfNums (enc a b c)).size = (enc a b c).length := by rw [← bl_length, bA]
      have sB : (strOfNums (enc x y z)).size = (enc x y z).length := by rw [← bl_length, bB]
      have hbt : bt (strOfNums (enc a b c)) 0 = a := by
        have := bt_eq (strOfNums (enc a b c)) 0 (by omega)
        simp only [bA] at this
        exact this.trans rfl
      simp only [if_true]
      show oubliettelaw04_InstFirst.j0 (81 + 1) true _ _ false a b c x y z = some true
      simp only [oubliettelaw04_InstFirst.j0, Bool.false_eq_true, if_false]
      rw [if_neg (by omega), if_neg (by omega), if_pos (by omega), hbt, wrap_in (by omega) (by omega)]
      show oubliettelaw04_InstFirst.j1 (80 + 1) true _ _ (a != a) a b c x y z = some true
      rw [show (a != a) = false by simp]
      simp only [oubliettelaw04_InstFirst.j1, Bool.false_eq_true, if_false, if_true, sA, sB]
      have hm : mn ((enc a b c).length : Int) ((enc x y z).length : Int) = (((if (enc x y z).length < (enc a b c).length then (enc x y z).length else (enc a b c).length) : Nat) : Int) := by
        show (if ((enc x y z).length : Int) < ((enc a b c).length : Int) then ((enc x y z).length : Int) else ((enc a b c).length : Int)) = _
        split <;> split <;> omega
      generalize hp : (if (enc x y z).length < (enc a b c).length then (enc x y z).length else (enc a b c).length) = p at hm
      rw [hm]
      have hq : ((a == x && (b == y && (c == z))) == (((strOfNums (enc a b c)).extract 0 ((p : Nat) : Int).toNat).toList == ((strOfNums (enc x y z)).extract 0 ((p : Nat) : Int).toNat).toList)) = true := by
        rw [beq_iff_eq, Bool.eq_iff_iff]
        simp only [Bool.and_eq_true, beq_iff_eq, Int.toNat_natCast]
        rw [toList_iff, bl_extract, bl_extract, bA, bB, List.drop_zero, List.drop_zero, Nat.sub_zero]
        exact (pre_iff hb hy h1 h2 p hp.symm).symm
      have hpl : (p : Int) ≤ ((enc a b c).length : Int) ∧ (p : Int) ≤ ((enc x y z).length : Int) := by
        split at hp <;> omega
      rw [if_pos (by omega), if_pos hpl.1, if_pos hpl.2, if_pos hq, Kind_eq a 80 (by decide), Option.bind_some]
      have := kd_cases a
      rw [if_pos (by omega), Option.bind_some, decide_eq_true (by omega)]
end Go.Proofs.Ytgffcpoopnckkaa.Pure
