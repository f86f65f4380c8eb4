/- A greater number never has fewer bytes; each seven bits more are one byte more; all bytes but the last one have 128 more: for any two numbers. No condition. This text joins the walk and the plain law. -/
import Derived.Test.YtjfcilamkcfolaaLebSizesWalks
namespace Go.Proofs.Ytjfcilamkcfolaa.SizesWalk
open Go.Ob Go.Ob.Leb Go.Proofs.Ytjfcilamkcfolaa.CoreLebBack
open Go.RowKit Go.Proofs.Ytjfcilamkcfolaa.PLebBack Go.Proofs.YtjfcilamkcfolaaW.PrintWords Go.Proofs.YtjfcilamkcfolaaW.PrintMore
theorem form_ge {l : List Int} (h : Leb.Form l) : ∀ i (hi : i < l.length), 128 ≤ l[i] ↔ i + 1 < l.length := by
  induction h with
  | one b h0 h1 => intro i hi; simp at hi; subst hi; simp; omega
  | more b l h0 h1 h ih =>
    intro i hi
    cases i with
    | zero => simp; have := h.pos; omega
    | succ i => simpa using ih i (by simpa using hi)
theorem Size_eq (n : Int) (h0 : -9223372036854775808 ≤ n) (h1 : n ≤ 9223372036854775807) : leb_Size.f 30 n = some ((encS n).length : Int) := by
  unfold leb_Size.f
  rw [S_eq n h0 h1 30 (by omega)]
  simp only [Option.bind_some]
  rw [← bl_length, bl_S]
theorem len_le {n m : Int} (h0 : 0 ≤ n) (h : n ≤ m) : (encS n).length ≤ (encS m).length := by
  have hp := (form_encS m).pos
  have e : (encS m).length = ((encS m).length - 1) + 1 := by omega
  have h1 := (encS_len ((encS m).length - 1) m).mp (by omega)
  rw [e]
  exact (encS_len _ n).mpr (by omega)
theorem len_neg (n : Int) : (encS (-(n + 1))).length = (encS n).length := by
  have key : ∀ m : Int, (encS (-(m + 1))).length ≤ (encS m).length := by
    intro m
    have hp := (form_encS m).pos
    have e : (encS m).length = ((encS m).length - 1) + 1 := by omega
    have h1 := (encS_len ((encS m).length - 1) m).mp (by omega)
    rw [e]
    exact (encS_len _ _).mpr (by omega)
  have h2 := key (-(n + 1))
  rw [show -(-(n + 1) + 1) = n by omega] at h2
  have := key n
  omega
theorem len_more {n : Int} (h : 0 < n) : (encS (n * 128)).length = (encS n).length + 1 := by
  rw [encS_out (show ¬ (-64 ≤ n * 128 ∧ n * 128 ≤ 63) by omega), show n * 128 / 128 = n by omega]
  rfl
theorem mx_eq (a : Int) (h0 : -9223372036854775808 ≤ a) (h1 : a ≤ 9223372036854775807) : ∃ X, mx a (wrap64 (-(wrap64 (a + 1)))) = X ∧ 0 ≤ X ∧ X ≤ 9223372036854775807 := by
  refine ⟨_, rfl, ?_, ?_⟩ <;> unfold mx wrap64 <;> split <;> omega
theorem walk (a0 a1 : Int) (w : World) (w0 : (Lit.int .i64 a0).wf = true) (w1 : (Lit.int .i64 a1).wf = true) :
    Calls Try.prog 8 #[.int .i64 a0, .int .i64 a1] w fun e w' => e = .returned (.bool true) ∧ Below w.heap.size w w' := by
  have hb0 := bounds_i64 w0
  have hb1 := bounds_i64 w1
  have hex : oubliettelaw01_examples.f 30 = some true := by decide +kernel
  obtain ⟨X, hX, X0, X1⟩ := mx_eq a0 hb0.1 hb0.2
  obtain ⟨Y, hY, Y0, Y1⟩ := mx_eq a1 hb1.1 hb1.2
  have hs := S_eq X (by omega) X1 30 (by omega)
  have hl : (strOfNums (encS X)).size = (encS X).length := by rw [← bl_length, bl_S]
  have h10 := encS_len64 (n := X) (by omega) X1
  have hby : ∀ i (h : i < (strOfNums (encS X)).size), 128 ≤ ((strOfNums (encS X))[i].toNat : Int) ↔ i + 1 < (strOfNums (encS X)).size := by
    intro i hi
    have hf := form_ge (form_encS X) i (by omega)
    have hbt := bt_eq (strOfNums (encS X)) i hi
    have : bt (strOfNums (encS X)) (i : Int) = ((strOfNums (encS X))[i].toNat : Int) := by unfold bt; rw [dif_pos (by simpa using hi)]; rfl
    rw [← this, hbt]
    have e : (bl (strOfNums (encS X)))[i]'(by rw [bl_length]; exact hi) = (encS X)[i]'(by omega) := by simp only [bl_S]
    rw [e]
    exact hf.trans (by omega)
  have hz := Size_eq X (by omega) X1
  have hw : wrap64 (-wrap64 (X + 1)) = -(X + 1) := by unfold wrap64; omega
  have hz1 : leb_Size.f 30 (-(X + 1)) = some ((encS X).length : Int) := by rw [Size_eq _ (by omega) (by omega), len_neg]
  have hy := Size_eq Y (by omega) Y1
  have hp := (form_encS X).pos
  by_cases hg : Y < X
  · by_cases hbig : 36028797018963968 ≤ X
    · exact w_gt_big 30 a0 a1 X Y _ _ ⟨hex⟩ hX hY ⟨hs⟩ (by omega) hby ⟨X0, X1⟩ hg ⟨hz⟩ ⟨by rw [hw]; exact hz1⟩ hbig w
    · exact w_gt_mid 30 a0 a1 X Y _ _ ⟨hex⟩ hX hY ⟨hs⟩ (by omega) hby ⟨X0, X1⟩ hg ⟨hz⟩ ⟨hz1⟩ (by omega) (by omega) (by omega) (by omega) ⟨by rw [Size_eq _ (by omega) (by omega), len_more (by omega)]; rfl⟩ w
  · have hle : X ≤ Y := by omega
    have hlen := len_le X0 hle
    by_cases hbig : 36028797018963968 ≤ X
    · exact w_le_big 30 a0 a1 X Y _ _ ⟨hex⟩ hX hY ⟨hs⟩ (by omega) hby ⟨X0, X1⟩ hle _ ⟨hy⟩ (by omega) ⟨hz⟩ ⟨by rw [hw]; exact hz1⟩ hbig w
    · by_cases hpos : 0 < X
      · exact w_le_mid 30 a0 a1 X Y _ _ ⟨hex⟩ hX hY ⟨hs⟩ (by omega) hby ⟨X0, X1⟩ hle _ ⟨hy⟩ (by omega) ⟨hz⟩ ⟨hz1⟩ (by omega) hpos (by omega) (by omega) ⟨by rw [Size_eq _ (by omega) (by omega), len_more hpos]; rfl⟩ w
      · obtain rfl : X = 0 := by omega
        exact w_le_zero 30 a0 a1 Y _ ⟨hex⟩ hX hY ⟨hs⟩ (by omega) hby hle _ ⟨hy⟩ (by have := (form_encS Y).pos; omega) ⟨by decide +kernel⟩ ⟨by decide +kernel⟩ w
end Go.Proofs.Ytjfcilamkcfolaa.SizesWalk
