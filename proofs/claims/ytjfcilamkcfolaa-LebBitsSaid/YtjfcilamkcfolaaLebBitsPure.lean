/- A number is read of as many bits as it has, and of no fewer; its bytes, cut off, or with a byte of nought laid in behind, are none: for any two numbers (the law itself halves the first one and takes the second one's rest). No condition. This text joins the walk and the plain law. -/
import Derived.Test.YtjfcilamkcfolaaLebBitsWalks
namespace Go.Proofs.Ytjfcilamkcfolaa.BitsWalk
open Go.Ob Go.Ob.Leb Go.Proofs.Ytjfcilamkcfolaa.CoreLebBack
open Go.RowKit Go.Proofs.Ytjfcilamkcfolaa.PLebBack Go.Proofs.YtjfcilamkcfolaaW.PrintWords Go.Proofs.YtjfcilamkcfolaaW.PrintMore
theorem form_snoc {l : List Int} (h : Leb.Form l) : ∃ pre c, l = pre ++ [c] ∧ (∀ b ∈ pre, 128 ≤ b ∧ b < 256) ∧ 0 ≤ c ∧ c < 128 := by
  induction h with
  | one b h0 h1 => exact ⟨[], b, rfl, by simp, h0, h1⟩
  | more b l h0 h1 h ih =>
    obtain ⟨pre, c, rfl, hp, c0, c1⟩ := ih
    refine ⟨b :: pre, c, rfl, ?_, c0, c1⟩
    intro x hx
    simp at hx
    rcases hx with rfl | hx
    · exact ⟨h0, h1⟩
    · exact hp x hx
theorem form_mk (pre : List Int) (c : Int) (hp : ∀ b ∈ pre, 128 ≤ b ∧ b < 256) (c0 : 0 ≤ c) (c1 : c < 128) : Leb.Form (pre ++ [c]) := by
  induction pre with
  | nil => exact .one c c0 c1
  | cons b pre ih => exact .more b _ (hp b (by simp)).1 (hp b (by simp)).2 (ih fun x hx => hp x (by simp [hx]))
theorem valS_snoc (pre : List Int) (c : Int) : valS (pre ++ [c]) = valU pre + (if c % 128 < 64 then c % 128 else c % 128 - 128) * 128 ^ pre.length := by
  induction pre with
  | nil => simp [valS, valU]
  | cons b pre ih =>
    rw [List.cons_append, valS_cons b (by simp), ih]
    simp only [valU, List.length_cons, Int.pow_succ]
    rw [Int.mul_add, Int.mul_comm 128 (_ * _), Int.mul_assoc _ _ 128]
    omega
theorem takeS_at (n m : Int) (h0 : -4611686018427387904 ≤ n) (h1 : n ≤ 4611686018427387903) (m1 : 1 ≤ m) (m2 : m ≤ 62) :
    (takeS (encS n) m).2.2 = if -(2 ^ (m.toNat - 1)) ≤ n ∧ n ≤ 2 ^ (m.toNat - 1) - 1 then 0 else 6 := by
  have hp : (0 : Int) < 2 ^ (m.toNat - 1) := Int.pow_pos (by decide)
  have hs := scan_append (form_encS n) [] 10 (encS_len64 (by omega) (by omega))
  rw [List.append_nil] at hs
  unfold takeS
  rw [if_neg (by omega), hs]
  have hw : w64 n = n := by unfold w64; omega
  simp only [List.take_length, valS_encS, hw, true_and]
  have hd : (n / 2 ^ (m.toNat - 1) = 0 ∨ n / 2 ^ (m.toNat - 1) = -1) ↔ (-(2 ^ (m.toNat - 1)) ≤ n ∧ n ≤ 2 ^ (m.toNat - 1) - 1) := by
    have e := Int.emod_add_mul_ediv n (2 ^ (m.toNat - 1))
    have e0 := Int.emod_nonneg n (show (2 : Int) ^ (m.toNat - 1) ≠ 0 by omega)
    have e1 := Int.emod_lt_of_pos n hp
    generalize n / 2 ^ (m.toNat - 1) = q at *
    generalize (2 : Int) ^ (m.toNat - 1) = P at *
    constructor
    · rintro (rfl | rfl) <;> omega
    · rintro ⟨c0, c1⟩
      rcases Int.lt_trichotomy q 0 with hq | hq | hq
      · rcases (show q < -1 ∨ -1 ≤ q by omega) with hq2 | hq2
        · have : P * q ≤ P * (-2) := Int.mul_le_mul_of_nonneg_left (by omega) (by omega)
          omega
        · exact .inr (by omega)
      · exact .inl hq
      · have : P * 1 ≤ P * q := Int.mul_le_mul_of_nonneg_left (by omega) (by omega)
        omega
  by_cases c : n / 2 ^ (m.toNat - 1) = 0 ∨ n / 2 ^ (m.toNat - 1) = -1
  · rw [if_pos c, if_pos (hd.mp c)]
  · rw [if_neg c, if_neg (fun h => c (hd.mpr h))]
/-- the sign of a number, and what stands behind its bytes when one more is laid in -/
theorem sign_of (n : Int) (pre : List Int) (c : Int) (hl : encS n = pre ++ [c]) (c0 : 0 ≤ c) (c1 : c < 128) :
    (n < 0 ↔ 64 ≤ c) ∧ valU pre + (if c < 64 then c else c - 128) * 128 ^ pre.length = n := by
  have hv := valS_encS n
  rw [hl, valS_snoc, show c % 128 = c by omega] at hv
  refine ⟨?_, hv⟩
  have hu0 := valU_nonneg pre
  have hu1 := valU_lt pre
  have hp : (0 : Int) < 128 ^ pre.length := Int.pow_pos (by decide)
  by_cases c64 : c < 64
  · rw [if_pos c64] at hv
    have := Int.mul_nonneg c0 (Int.le_of_lt hp)
    omega
  · rw [if_neg c64] at hv
    have h1 : (c - 128) * 128 ^ pre.length ≤ (-1) * 128 ^ pre.length := Int.mul_le_mul_of_nonneg_right (by omega) (Int.le_of_lt hp)
    omega
theorem val_tail (n : Int) (pre : List Int) (c : Int) (hl : encS n = pre ++ [c]) (c0 : 0 ≤ c) (c1 : c < 128) : valS ((pre ++ [c + 128]) ++ [if n < 0 then 127 else 0]) = n := by
  obtain ⟨hs, hv⟩ := sign_of n pre c hl c0 c1
  rw [valS_snoc, valU_snoc, show (c + 128) % 128 = c by omega]
  simp only [List.length_append, List.length_singleton, Int.pow_succ]
  by_cases hneg : n < 0
  · rw [if_neg (show ¬ c < 64 by have := hs.mp hneg; omega), Int.sub_mul] at hv
    rw [if_pos hneg, if_neg (by decide)]
    omega
  · rw [if_pos (show c < 64 by have := mt hs.mpr hneg; omega)] at hv
    rw [if_neg hneg, if_pos (by decide)]
    omega
theorem tail_err (n : Int) (n0 : -4611686018427387904 ≤ n) (n1 : n ≤ 4611686018427387903) (pre : List Int) (c : Int) (hl : encS n = pre ++ [c]) (hpre : ∀ b ∈ pre, 128 ≤ b ∧ b < 256) (c0 : 0 ≤ c) (c1 : c < 128) (hL : pre.length ≤ 8)
    (T : ByteArray) (hTt : bl T = [if n < 0 then 127 else 0]) : ∃ n2 r2, leb_TakeS.f 30 (strOfNums (pre ++ [c + 128]) ++ T) 64 = some (n2, r2, 6) := by
  have hTb : ∀ x ∈ pre ++ [c + 128], 0 ≤ x ∧ x < 256 := by
    intro x hx
    rcases List.mem_append.mp hx with h | h
    · have := hpre x h; omega
    · simp at h; omega
  have hf : Leb.Form ((pre ++ [c + 128]) ++ [if n < 0 then 127 else 0]) := form_mk _ _ (fun x hx => by
    rcases List.mem_append.mp hx with h | h
    · exact hpre x h
    · simp at h; omega) (by split <;> omega) (by split <;> omega)
  have hval := val_tail n pre c hl c0 c1
  have hte := TakeS_eq (strOfNums (pre ++ [c + 128]) ++ T) 64 (by decide) (by decide) 30 (by omega)
  rw [bl_append, bl_num _ hTb, hTt] at hte
  have hw : w64 n = n := by unfold w64; omega
  have hsc := scan_append hf [] 10 (by simp; omega)
  rw [List.append_nil] at hsc
  have : (takeS ((pre ++ [c + 128]) ++ [if n < 0 then 127 else 0]) 64).2.2 = 6 := by
    unfold takeS
    rw [if_neg (by decide), hsc]
    simp only [List.take_length]
    rw [hval, hw, if_neg]
    rintro ⟨h, _⟩
    have := congrArg List.length h
    rw [hl] at this
    simp at this
  rw [this] at hte
  exact ⟨_, _, hte⟩
theorem eh1 (P : Int) (h0 : 0 < P) (h1 : P ≤ 2305843009213693952) : wrap64 (-P) = -P ∧ wrap64 (wrap64 P - 1) = P - 1 := by
  unfold wrap64; omega
theorem em_neg (a1 : Int) (h : a1 < 0) (h0 : -9223372036854775808 ≤ a1) : wrap64 (1 + -(a1 + 1).tmod 62) = 1 + (-(a1 + 1)) % 62 := by
  have e : -((a1 + 1).tmod 62) = (-(a1 + 1)) % 62 := by
    rw [← Int.neg_tmod, Int.tmod_eq_emod_of_nonneg (by omega)]
  rw [e]
  exact wrap_in (by omega) (by omega)

theorem walk (a0 a1 : Int) (w : World) (w0 : (Lit.int .i64 a0).wf = true) (w1 : (Lit.int .i64 a1).wf = true) :
    Calls Try.prog 5 #[.int .i64 a0, .int .i64 a1] w fun e w' => e = .returned (.bool true) ∧ Below w.heap.size w w' := by
  have hb0 := bounds_i64 w0
  have hb1 := bounds_i64 w1
  have hex : oubliettelaw01_examples.f 30 = some true := by decide +kernel
  have n0 : -4611686018427387904 ≤ a0 / 2 := by omega
  have n1 : a0 / 2 ≤ 4611686018427387903 := by omega
  obtain ⟨n, hn⟩ : ∃ n, a0 / 2 = n := ⟨_, rfl⟩
  have hs := S_eq (a0 / 2) (by omega) (by omega) 30 (by omega)
  obtain ⟨pre, c, hl, hpre, c0, c1⟩ := form_snoc (form_encS (a0 / 2))
  have hlen : (encS (a0 / 2)).length = pre.length + 1 := by rw [hl]; simp
  have hL : pre.length ≤ 8 := by have := (encS_len 8 (a0 / 2)).mpr (by constructor <;> omega); omega
  have hsz : (strOfNums (encS (a0 / 2))).size = pre.length + 1 := by rw [← bl_length, bl_S, hlen]
  have hbl : bl (strOfNums (encS (a0 / 2))) = pre ++ [c] := by rw [bl_S, hl]
  have hne : (strOfNums (encS (a0 / 2))).toList.isEmpty = false := by
    rw [Lib.toList_data]
    have : (strOfNums (encS (a0 / 2))).data.toList.length = pre.length + 1 := by rw [Array.length_toList]; exact hsz
    cases h : (strOfNums (encS (a0 / 2))).data.toList with
    | nil => rw [h] at this; simp at this
    | cons x l => rfl
  have hc : ∀ W : World, (Lib.bytesWorld W 5 (strOfNums (encS (a0 / 2)))).cell? ⟨W.heap.size, pre.length, none⟩ = some (.int .u8 c) := by
    intro W
    rw [Lib.bytesWorld_cell W 5 _ pre.length (by omega)]
    have h1 : (bl (strOfNums (encS (a0 / 2))))[pre.length]? = some c := by rw [hbl]; simp
    rw [bl, List.getElem?_map] at h1
    obtain ⟨x, hx, hxc⟩ := Option.map_eq_some_iff.mp h1
    rw [List.getD_eq_getElem?_getD, hx, Option.getD_some, hxc]
  have hTl : strOfNums ((bl (strOfNums (encS (a0 / 2)))).take pre.length ++ [bits .or .u8 c 128]) = strOfNums (pre ++ [c + 128]) := by
    rw [hbl, List.take_left' rfl, or128 c c0 (by omega), show c % 128 + 128 = c + 128 by omega]
  have hTb : ∀ x ∈ pre ++ [c + 128], 0 ≤ x ∧ x < 256 := by
    intro x hx
    rcases List.mem_append.mp hx with h | h
    · have := hpre x h; omega
    · simp at h; omega
  have hTs : (strOfNums (pre ++ [c + 128])).size ≤ 10 := by rw [← bl_length, bl_num _ hTb]; simp; omega
  have ht2 := tail_err (a0 / 2) n0 n1 pre c hl hpre c0 c1 (by omega)
  have ht3 : ∃ n3 r3, leb_TakeS.f 30 ((strOfNums (encS (a0 / 2))).extract 0 pre.length) 64 = some (n3, r3, 6) := by
    have hte := TakeS_eq ((strOfNums (encS (a0 / 2))).extract 0 pre.length) 64 (by decide) (by decide) 30 (by omega)
    rw [bl_extract, hbl, List.drop_zero, Nat.sub_zero, List.take_left' rfl] at hte
    have : (takeS pre 64).2.2 = 6 := by
      unfold takeS
      rw [if_neg (by decide), scan_none 10 pre (fun b hb => (hpre b hb).1)]
    rw [this] at hte
    exact ⟨_, _, hte⟩
  obtain ⟨n3, r3, ht3⟩ := ht3
  obtain ⟨m, hm⟩ : ∃ m : Int, m = 1 + (if a1 < 0 then -(a1 + 1) else a1) % 62 := ⟨_, rfl⟩
  have m1 : 1 ≤ m := by split at hm <;> omega
  have m2 : m ≤ 62 := by split at hm <;> omega
  have hp62 : (2 : Int) ^ (m.toNat - 1) ≤ 2305843009213693952 := by
    have : (2 : Nat) ^ (m.toNat - 1) ≤ 2 ^ 61 := Nat.pow_le_pow_right (by decide) (by omega)
    have h2 : ((2 ^ (m.toNat - 1) : Nat) : Int) ≤ ((2 ^ 61 : Nat) : Int) := Int.ofNat_le.mpr this
    simpa using h2
  have hp0 : (0 : Int) < 2 ^ (m.toNat - 1) := Int.pow_pos (by decide)
  obtain ⟨el, eh⟩ := eh1 (2 ^ (m.toNat - 1)) hp0 hp62
  have ht := TakeS_eq (strOfNums (encS (a0 / 2))) m (by omega) (by omega) 30 (by omega)
  rw [bl_S] at ht
  have hte := takeS_at (a0 / 2) m n0 n1 m1 m2
  have em1 : a1 < 0 → wrap64 (1 + -(a1 + 1).tmod 62) = m := by
    intro h
    rw [if_pos h] at hm
    rw [em_neg a1 h hb1.1, hm]
  have em2 : ¬ a1 < 0 → 1 + a1 % 62 = m := by intro h; rw [if_neg h] at hm; exact hm.symm
  obtain ⟨P, hP⟩ : ∃ P : Int, (2 : Int) ^ (m.toNat - 1) = P := ⟨_, rfl⟩
  replace el : wrap64 (-2 ^ (m.toNat - 1)) = -P := by rw [← hP]; exact el
  replace eh : wrap64 (wrap64 (2 ^ (m.toNat - 1)) - 1) = P - 1 := by rw [← hP]; exact eh
  rw [hP] at hte
  replace el := Aside0.mk el
  replace eh := Aside0.mk eh
  clear hP hp62 hp0
  by_cases hn0 : a0 / 2 < 0
  · obtain ⟨n2, r2, ht2⟩ := ht2 ⟨#[127]⟩ (by rw [if_pos hn0]; rfl)
    by_cases ha : a1 < 0
    · by_cases h1 : -P ≤ a0 / 2
      · by_cases h2 : a0 / 2 ≤ P - 1
        · rw [if_pos ⟨h1, h2⟩] at hte
          rw [hte] at ht
          exact w_nn_fits 30 a0 a1 _ n2 n3 c _ _ m _ _ r2 r3 _ (em1 ha) m1 m2 el.out eh.out h1 h2 ⟨hex⟩ hb0.1 hb0.2 ha hb1.1 ⟨hs⟩ ⟨ht⟩ pre.length hsz (by omega) hne hn0 hc ⟨hTl⟩ hTs ⟨ht2⟩ ⟨ht3⟩ w
        · rw [if_neg (fun h => h2 h.2)] at hte
          rw [hte] at ht
          exact w_nn_high 30 a0 a1 _ n2 n3 c _ _ m _ _ r2 r3 _ (em1 ha) m1 m2 el.out eh.out _ (by decide) h1 (by omega) ⟨hex⟩ hb0.1 hb0.2 ha hb1.1 ⟨hs⟩ ⟨ht⟩ pre.length hsz (by omega) hne hn0 hc ⟨hTl⟩ hTs ⟨ht2⟩ ⟨ht3⟩ w
      · rw [if_neg (fun h => h1 h.1)] at hte
        rw [hte] at ht
        exact w_nn_low 30 a0 a1 _ n2 n3 c _ _ m _ _ r2 r3 _ (em1 ha) m1 m2 el.out eh.out _ (by decide) (by omega) ⟨hex⟩ hb0.1 hb0.2 ha hb1.1 ⟨hs⟩ ⟨ht⟩ pre.length hsz (by omega) hne hn0 hc ⟨hTl⟩ hTs ⟨ht2⟩ ⟨ht3⟩ w
    · by_cases h1 : -P ≤ a0 / 2
      · by_cases h2 : a0 / 2 ≤ P - 1
        · rw [if_pos ⟨h1, h2⟩] at hte
          rw [hte] at ht
          exact w_pn_fits 30 a0 a1 _ n2 n3 c _ _ m _ _ r2 r3 _ (em2 ha) m1 m2 el.out eh.out h1 h2 ⟨hex⟩ hb0.1 hb0.2 (by omega) hb1.2 ⟨hs⟩ ⟨ht⟩ pre.length hsz (by omega) hne hn0 hc ⟨hTl⟩ hTs ⟨ht2⟩ ⟨ht3⟩ w
        · rw [if_neg (fun h => h2 h.2)] at hte
          rw [hte] at ht
          exact w_pn_high 30 a0 a1 _ n2 n3 c _ _ m _ _ r2 r3 _ (em2 ha) m1 m2 el.out eh.out _ (by decide) h1 (by omega) ⟨hex⟩ hb0.1 hb0.2 (by omega) hb1.2 ⟨hs⟩ ⟨ht⟩ pre.length hsz (by omega) hne hn0 hc ⟨hTl⟩ hTs ⟨ht2⟩ ⟨ht3⟩ w
      · rw [if_neg (fun h => h1 h.1)] at hte
        rw [hte] at ht
        exact w_pn_low 30 a0 a1 _ n2 n3 c _ _ m _ _ r2 r3 _ (em2 ha) m1 m2 el.out eh.out _ (by decide) (by omega) ⟨hex⟩ hb0.1 hb0.2 (by omega) hb1.2 ⟨hs⟩ ⟨ht⟩ pre.length hsz (by omega) hne hn0 hc ⟨hTl⟩ hTs ⟨ht2⟩ ⟨ht3⟩ w
  · obtain ⟨n2, r2, ht2⟩ := ht2 ⟨#[0]⟩ (by rw [if_neg hn0]; rfl)
    by_cases ha : a1 < 0
    · by_cases h1 : -P ≤ a0 / 2
      · by_cases h2 : a0 / 2 ≤ P - 1
        · rw [if_pos ⟨h1, h2⟩] at hte
          rw [hte] at ht
          exact w_np_fits 30 a0 a1 _ n2 n3 c _ _ m _ _ r2 r3 _ (em1 ha) m1 m2 el.out eh.out h1 h2 ⟨hex⟩ hb0.1 hb0.2 ha hb1.1 ⟨hs⟩ ⟨ht⟩ pre.length hsz (by omega) hne (by omega) hc ⟨hTl⟩ hTs ⟨ht2⟩ ⟨ht3⟩ w
        · rw [if_neg (fun h => h2 h.2)] at hte
          rw [hte] at ht
          exact w_np_high 30 a0 a1 _ n2 n3 c _ _ m _ _ r2 r3 _ (em1 ha) m1 m2 el.out eh.out _ (by decide) h1 (by omega) ⟨hex⟩ hb0.1 hb0.2 ha hb1.1 ⟨hs⟩ ⟨ht⟩ pre.length hsz (by omega) hne (by omega) hc ⟨hTl⟩ hTs ⟨ht2⟩ ⟨ht3⟩ w
      · rw [if_neg (fun h => h1 h.1)] at hte
        rw [hte] at ht
        exact w_np_low 30 a0 a1 _ n2 n3 c _ _ m _ _ r2 r3 _ (em1 ha) m1 m2 el.out eh.out _ (by decide) (by omega) ⟨hex⟩ hb0.1 hb0.2 ha hb1.1 ⟨hs⟩ ⟨ht⟩ pre.length hsz (by omega) hne (by omega) hc ⟨hTl⟩ hTs ⟨ht2⟩ ⟨ht3⟩ w
    · by_cases h1 : -P ≤ a0 / 2
      · by_cases h2 : a0 / 2 ≤ P - 1
        · rw [if_pos ⟨h1, h2⟩] at hte
          rw [hte] at ht
          exact w_pp_fits 30 a0 a1 _ n2 n3 c _ _ m _ _ r2 r3 _ (em2 ha) m1 m2 el.out eh.out h1 h2 ⟨hex⟩ hb0.1 hb0.2 (by omega) hb1.2 ⟨hs⟩ ⟨ht⟩ pre.length hsz (by omega) hne (by omega) hc ⟨hTl⟩ hTs ⟨ht2⟩ ⟨ht3⟩ w
        · rw [if_neg (fun h => h2 h.2)] at hte
          rw [hte] at ht
          exact w_pp_high 30 a0 a1 _ n2 n3 c _ _ m _ _ r2 r3 _ (em2 ha) m1 m2 el.out eh.out _ (by decide) h1 (by omega) ⟨hex⟩ hb0.1 hb0.2 (by omega) hb1.2 ⟨hs⟩ ⟨ht⟩ pre.length hsz (by omega) hne (by omega) hc ⟨hTl⟩ hTs ⟨ht2⟩ ⟨ht3⟩ w
      · rw [if_neg (fun h => h1 h.1)] at hte
        rw [hte] at ht
        exact w_pp_low 30 a0 a1 _ n2 n3 c _ _ m _ _ r2 r3 _ (em2 ha) m1 m2 el.out eh.out _ (by decide) (by omega) ⟨hex⟩ hb0.1 hb0.2 (by omega) hb1.2 ⟨hs⟩ ⟨ht⟩ pre.length hsz (by omega) hne (by omega) hc ⟨hTl⟩ hTs ⟨ht2⟩ ⟨ht3⟩ w
end Go.Proofs.Ytjfcilamkcfolaa.BitsWalk
