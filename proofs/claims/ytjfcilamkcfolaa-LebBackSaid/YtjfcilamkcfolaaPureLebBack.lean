/- A number that is written, with anything behind, is read as it was, of as many bits as it needs or more: for any number and any text. No condition. -/
import Derived.Test.YtjfcilamkcfolaaLebCoreLebBack
namespace Go.Proofs.Ytjfcilamkcfolaa.Pure
open Go.RowKit Go.Proofs.Ytjfcilamkcfolaa.PLebBack Go.Proofs.YtjfcilamkcfolaaW.PrintWords Go.Proofs.YtjfcilamkcfolaaW.PrintLast Go.Proofs.Ytjfcilamkcfolaa.CoreLebBack Go.Ob Go.Ob.Leb

theorem takeS_back (n : Int) (h0 : -9223372036854775808 ≤ n) (h1 : n ≤ 9223372036854775807) (r : List Int) : takeS (encS n ++ r) 64 = (n, r, 0) := by
  unfold takeS
  rw [if_neg (by decide), scan_append (form_encS n) r 10 (encS_len64 h0 h1)]
  simp only [List.take_left', List.drop_left']
  have hw : w64 n = n := by unfold w64; omega
  rw [valS_encS, hw, if_pos]
  refine ⟨rfl, ?_⟩
  show n / 2 ^ 63 = 0 ∨ n / 2 ^ 63 = -1
  omega
theorem takeU_back (n : Nat) (h1 : n ≤ 9223372036854775807) (r : List Int) : takeU (encU n ++ r) 63 = ((n : Int), r, 0) := by
  unfold takeU
  rw [if_neg (by decide), scan_append (form_encU n) r 10 (by have := encU_len63 h1; omega)]
  simp only [List.take_left', List.drop_left']
  rw [valU_encU, if_pos]
  refine ⟨?_, by simp⟩
  show (n : Int) < 2 ^ 63
  omega

theorem LebBack : oubliettelaw01_LebBack.Pure := by
  intro n rest wn hr
  have hb := bounds_i64 wn
  refine ⟨30, ?_⟩
  have hex : oubliettelaw01_examples.f 30 = some true := by decide +kernel
  unfold oubliettelaw01_LebBack.f leb_Size.f
  rw [hex, S_eq n hb.1 hb.2 30 (by omega)]
  have hlS : (strOfNums (encS n)).size ≤ 10 := by rw [← bl_length, bl_S]; exact encS_len64 hb.1 hb.2
  simp only [Option.bind_some]
  rw [if_pos (by omega), TakeS_eq _ 64 (by decide) (by decide) 30 (by omega), bl_append, bl_S, takeS_back n hb.1 hb.2]
  have hrest : strOfNums (bl rest) = rest := num_bl rest
  simp only [Option.bind_some, hrest, if_true]
  rw [show (((strOfNums (encS n)).size : Int) != ((strOfNums (encS n)).size : Int)) = false by simp]
  simp only [oubliettelaw01_LebBack.j0, Bool.false_eq_true, if_false]
  by_cases h0 : n < 0
  · rw [U_neg n h0]
    simp only [Option.bind_some, if_pos h0, if_true]
    decide +kernel
  · rw [U_pos n (by omega) hb.2 29 (by omega)]
    have hlU : (strOfNums (encU n.toNat)).size ≤ 9 := by rw [← bl_length, bl_U]; exact encU_len63 (by omega)
    simp only [Option.bind_some, if_neg h0, if_true]
    rw [if_pos (by omega), TakeU_eq _ 63 (by decide) (by decide) 29 (by omega), bl_append, bl_U, takeU_back n.toNat (by omega)]
    simp only [Option.bind_some, hrest, if_true]
    rw [if_pos (by omega)]
    rfl
end Go.Proofs.Ytjfcilamkcfolaa.Pure
