/- Of two unlike numbers neither's bytes begin with the other's: for any two numbers. No condition. This text joins the walk and the plain law. -/
import Derived.Test.YtjfcilamkcfolaaLebApartWalk
namespace Go.Proofs.Ytjfcilamkcfolaa.ApartWalk
open Go.Ob Go.Ob.Leb Go.Proofs.Ytjfcilamkcfolaa.CoreLebBack
open Go.RowKit Go.Proofs.Ytjfcilamkcfolaa.PLebBack Go.Proofs.YtjfcilamkcfolaaW.PrintWords
/-- of two forms one begins with the other just if they are the same -/
theorem form_pre {l m : List Int} (hl : Leb.Form l) (hm : Leb.Form m) (h : l.length ≤ m.length) : l = m.take l.length ↔ l = m := by
  constructor
  · intro e
    have := hl.unique hm (r := m.drop l.length) (s := []) (by rw [List.append_nil]; conv => lhs; lhs; rw [e]
                                                              exact List.take_append_drop _ _)
    exact this.1
  · rintro rfl; simp
theorem pre_beq (l m : List Int) (hl : Leb.Form l) (hm : Leb.Form m) (q : Bool) (hq : (l = m) ↔ q = true) :
    ((strOfNums l).size ≤ (strOfNums m).size → ((strOfNums l).toList == ((strOfNums m).extract 0 (strOfNums l).size).toList) = q) ∧
    ((strOfNums m).size < (strOfNums l).size → (((strOfNums l).extract 0 (strOfNums m).size).toList == (strOfNums m).toList) = q) := by
  have bl1 := bl_num l hl.bytes
  have bl2 := bl_num m hm.bytes
  have s1 : (strOfNums l).size = l.length := by rw [← bl_length, bl1]
  have s2 : (strOfNums m).size = m.length := by rw [← bl_length, bl2]
  rw [s1, s2]
  constructor
  · intro h
    rw [Bool.eq_iff_iff, ← hq, beq_iff_eq, txt_iff l hl.bytes, bl2]
    exact form_pre hl hm h
  · intro h
    rw [Bool.eq_iff_iff, ← hq, beq_iff_eq]
    constructor
    · intro e
      have := (txt_iff m hm.bytes (strOfNums l) m.length).mp e.symm
      rw [bl1] at this
      exact ((form_pre hm hl (by omega)).mp this).symm
    · intro e
      have : l.length = m.length := by rw [e]
      omega
theorem walk (a0 a1 : Int) (w : World) (w0 : (Lit.int .i64 a0).wf = true) (w1 : (Lit.int .i64 a1).wf = true) :
    Calls Try.prog 4 #[.int .i64 a0, .int .i64 a1] w fun e w' => e = .returned (.bool true) ∧ Below w.heap.size w w' := by
  have hb0 := bounds_i64 w0
  have hb1 := bounds_i64 w1
  have hex : oubliettelaw01_examples.f 30 = some true := by decide +kernel
  have hq : (a0 == a1) = decide (a0 = a1) := rfl
  have hs := pre_beq (encS a0) (encS a1) (form_encS a0) (form_encS a1) (decide (a0 = a1)) (by rw [decide_eq_true_eq]; exact ⟨encS_inj, fun h => by rw [h]⟩)
  have l0 : (strOfNums (encS a0)).size ≤ 10 := by rw [← bl_length, bl_S]; exact encS_len64 hb0.1 hb0.2
  have l1 : (strOfNums (encS a1)).size ≤ 10 := by rw [← bl_length, bl_S]; exact encS_len64 hb1.1 hb1.2
  have hsa := S_eq a0 hb0.1 hb0.2 30 (by omega)
  have hsb := S_eq a1 hb1.1 hb1.2 30 (by omega)
  by_cases n0 : a0 < 0
  · have hua := U_neg a0 n0 30
    obtain ⟨ub, f, hub⟩ : ∃ ub f, leb_U.f 30 a1 = some (ub, f) := by
      by_cases n1 : a1 < 0
      · exact ⟨_, _, U_neg a1 n1 30⟩
      · exact ⟨_, _, U_pos a1 (by omega) hb1.2 30 (by omega)⟩
    rcases Nat.lt_or_ge (strOfNums (encS a1)).size (strOfNums (encS a0)).size with c | c <;> rcases Nat.lt_or_ge ub.size (ByteArray.mk #[]).size with d | d
    · exact w_sb_ub_e 30 a0 a1 f _ _ _ _ _ hq ⟨hex⟩ ⟨hsa⟩ ⟨hsb⟩ ⟨hua⟩ ⟨hub⟩ l0 l1 c d (hs.2 c) w
    · exact w_sb_ua_e 30 a0 a1 f _ _ _ _ _ hq ⟨hex⟩ ⟨hsa⟩ ⟨hsb⟩ ⟨hua⟩ ⟨hub⟩ l0 l1 c d (hs.2 c) w
    · exact w_sa_ub_e 30 a0 a1 f _ _ _ _ _ hq ⟨hex⟩ ⟨hsa⟩ ⟨hsb⟩ ⟨hua⟩ ⟨hub⟩ l0 l1 c d (hs.1 c) w
    · exact w_sa_ua_e 30 a0 a1 f _ _ _ _ _ hq ⟨hex⟩ ⟨hsa⟩ ⟨hsb⟩ ⟨hua⟩ ⟨hub⟩ l0 l1 c d (hs.1 c) w
  · have hua := U_pos a0 (by omega) hb0.2 30 (by omega)
    by_cases n1 : a1 < 0
    · have hub := U_neg a1 n1 30
      rcases Nat.lt_or_ge (strOfNums (encS a1)).size (strOfNums (encS a0)).size with c | c <;> rcases Nat.lt_or_ge (ByteArray.mk #[]).size (strOfNums (encU a0.toNat)).size with d | d
      · exact w_sb_ub_f 30 a0 a1 _ _ _ _ _ hq ⟨hex⟩ ⟨hsa⟩ ⟨hsb⟩ ⟨hua⟩ ⟨hub⟩ l0 l1 c d (hs.2 c) w
      · exact w_sb_ua_f 30 a0 a1 _ _ _ _ _ hq ⟨hex⟩ ⟨hsa⟩ ⟨hsb⟩ ⟨hua⟩ ⟨hub⟩ l0 l1 c d (hs.2 c) w
      · exact w_sa_ub_f 30 a0 a1 _ _ _ _ _ hq ⟨hex⟩ ⟨hsa⟩ ⟨hsb⟩ ⟨hua⟩ ⟨hub⟩ l0 l1 c d (hs.1 c) w
      · exact w_sa_ua_f 30 a0 a1 _ _ _ _ _ hq ⟨hex⟩ ⟨hsa⟩ ⟨hsb⟩ ⟨hua⟩ ⟨hub⟩ l0 l1 c d (hs.1 c) w
    · have hub := U_pos a1 (by omega) hb1.2 30 (by omega)
      have hu := pre_beq (encU a0.toNat) (encU a1.toNat) (form_encU _) (form_encU _) (decide (a0 = a1)) (by
        rw [decide_eq_true_eq]
        exact ⟨fun h => by have := encU_inj h; omega, fun h => by rw [h]⟩)
      rcases Nat.lt_or_ge (strOfNums (encS a1)).size (strOfNums (encS a0)).size with c | c <;> rcases Nat.lt_or_ge (strOfNums (encU a1.toNat)).size (strOfNums (encU a0.toNat)).size with d | d
      · exact w_sb_ub_g 30 a0 a1 _ _ _ _ _ hq ⟨hex⟩ ⟨hsa⟩ ⟨hsb⟩ ⟨hua⟩ ⟨hub⟩ l0 l1 c d (hs.2 c) (hu.2 d) w
      · exact w_sb_ua_g 30 a0 a1 _ _ _ _ _ hq ⟨hex⟩ ⟨hsa⟩ ⟨hsb⟩ ⟨hua⟩ ⟨hub⟩ l0 l1 c d (hs.2 c) (hu.1 d) w
      · exact w_sa_ub_g 30 a0 a1 _ _ _ _ _ hq ⟨hex⟩ ⟨hsa⟩ ⟨hsb⟩ ⟨hua⟩ ⟨hub⟩ l0 l1 c d (hs.1 c) (hu.2 d) w
      · exact w_sa_ua_g 30 a0 a1 _ _ _ _ _ hq ⟨hex⟩ ⟨hsa⟩ ⟨hsb⟩ ⟨hua⟩ ⟨hub⟩ l0 l1 c d (hs.1 c) (hu.1 d) w
end Go.Proofs.Ytjfcilamkcfolaa.ApartWalk
