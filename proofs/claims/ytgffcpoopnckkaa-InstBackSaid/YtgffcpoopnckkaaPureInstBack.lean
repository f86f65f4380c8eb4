/- An instruction that is written is read as it was; what is read is written as it stood. -/
import Derived.Test.YtgffcpoopnckkaaInstLaws
import Derived.Test.YtgffcpoopnckkaaMIx13
namespace Go.Proofs.Ytgffcpoopnckkaa.Pure
open Go.RowKit Go.Proofs.YtgffcpoopnckkaaW.PrintWords Go.Proofs.YtgffcpoopnckkaaW.PrintLast Go.Proofs.YtgffcpoopnckkaaW.PrintMore Go.Proofs.Ytgffcpoopnckkaa.MI Go.Proofs.Ytgffcpoopnckkaa.CoreInst Go.Ob Go.Ob.Leb Go.Ob.Inst
set_option linter.unusedVariables false
set_option linter.unusedSimpArgs false
theorem back_j1 (s : ByteArray) (hs : s.size ≤ 140737488351232) (k : Nat) (hk : 60 ≤ k) : oubliettelaw04_InstBack.j1 k s true = some true := by
  obtain ⟨k, rfl⟩ : ∃ j, k = j + 1 := ⟨k - 1, by omega⟩
  simp only [oubliettelaw04_InstBack.j1]
  rw [Take_eq s k (by omega), Option.bind_some]
  unfold tk
  cases ht : take (bl s) with
  | none => simp
  | some x =>
    obtain ⟨op, n, m, r⟩ := x
    obtain ⟨hr, he, hn, _⟩ := take_back _ (bl_bytes s) _ _ _ _ ht
    have hrb : ∀ b ∈ r, 0 ≤ b ∧ b < 256 := fun b hb => bl_bytes s b (by rw [← he]; simp [hb])
    have hcat : strOfNums (enc op n m) ++ strOfNums r = s := bl_inj (by rw [bl_append, bl_num _ (enc_bytes op n m hr), bl_num _ hrb, he])
    have hsz : (strOfNums (enc op n m)).size + (strOfNums r).size ≤ 9223372036854775807 := by
      rw [← bl_length, ← bl_length, bl_num _ (enc_bytes op n m hr), bl_num _ hrb]
      have := congrArg List.length he
      rw [bl_length, List.length_append] at this
      omega
    simp only [if_true]
    rw [Bytes_ok op n m hn.1 hn.2 hr k (by omega), Option.bind_some]
    simp only [if_true]
    rw [if_pos hsz, if_pos (by rw [hcat]), Right_eq op n m k (by omega), hr]
    rfl
theorem InstBack (op n m : Int) (t s : ByteArray) (w0 : (Lit.int .i64 op).wf = true) (w1 : (Lit.int .i64 n).wf = true) (w2 : (Lit.int .i64 m).wf = true) (ht : t.size ≤ 140737488351232) (hs : s.size ≤ 140737488351232) :
    ∃ k, oubliettelaw04_InstBack.f k op n m t s = some true := by
  refine ⟨80, ?_⟩
  have hn := bounds_i64 w1
  unfold oubliettelaw04_InstBack.f
  rw [examples_true 80 (by decide), Option.bind_some]
  cases hr : rt op n m with
  | false =>
    rw [Bytes_no op n m hr 80 (by decide), Option.bind_some]
    simp only [Int.reduceEq, if_false]
    exact back_j1 s hs 80 (by decide)
  | true =>
    rw [Bytes_ok op n m hn.1 hn.2 hr 80 (by decide), Option.bind_some]
    simp only [if_true]
    have hb := bl_num _ (enc_bytes op n m hr)
    have hl := enc_len op n m hn.1 hn.2 hr
    rw [if_pos (by rw [← bl_length, hb]; omega), Take_eq _ 80 (by decide), bl_append, hb, Option.bind_some]
    unfold tk
    rw [take_enc op n m hn.1 hn.2 hr (bl t)]
    simp only [num_bl, beq_self_eq_true, Bool.not_true, Bool.or_self, Bool.false_eq_true, if_false, if_true]
    rw [Right_eq op n m 80 (by decide), hr, Option.bind_some]
    simp only [oubliettelaw04_InstBack.j0, Bool.not_true, Bool.false_eq_true, if_false]
    exact back_j1 s hs 79 (by decide)
end Go.Proofs.Ytgffcpoopnckkaa.Pure
