/- Any writes are applied to any memories as the chapter says, or refused: the law's function. No condition but that numbers and lengths are those of the language. -/
import Derived.Test.YtiacmfgkbgfhkaaLinEq
import Derived.Test.YtiacmfgkbgfhkaaLinEx
import Derived.Test.YtiacmfgkbgfhkaaLinApplyRef
import Derived.BigRegion
namespace Go.Proofs.Ytiacmfgkbgfhkaa.Lin
open Go.Ob Go.RowKit Go.Proofs.YtiacmfgkbgfhkaaW.PrintWords Go.Proofs.YtiacmfgkbgfhkaaW.PrintMore
attribute [local go_sem] max2_int min2_int max_two min_two
set_option linter.unusedVariables false
set_option linter.unusedSimpArgs false
theorem resA_form (r : Option M2) : ∃ a b ok, resA r = .tuple #[.agg #[.string a, .string b], .bool ok] := by
  cases r with
  | none => exact ⟨_, _, _, rfl⟩
  | some m => exact ⟨_, _, _, rfl⟩
set_option maxHeartbeats 16000000 in
set_option maxRecDepth 100000 in
theorem Applies (one two : ByteArray) (A : Option Addr) (ds : List D3) (n cap : Nat) (w : World) (h1 : one.size ≤ 140737488351232) (h2 : two.size ≤ 140737488351232) (hl : ds.length = n) (hcap : n ≤ cap) (hn : n ≤ 9223372036854775807) (hd : CellsD w A ds) (hsz : ∀ d ∈ ds, d.2.2.size ≤ 9223372036854775807) (hat : ∀ d ∈ ds, -9223372036854775808 ≤ d.2.1 ∧ d.2.1 ≤ 9223372036854775807) :
    Calls Try.prog 12 #[.string one, .string two, .slice A n cap] w fun e w' => e = .returned (.bool true) ∧ Below w.heap.size w w' := by
  obtain ⟨M, hM, hMs⟩ : ∃ M : ByteArray, (if 5000 < one.size then one.extract 0 5000 else one) = M ∧ M.size ≤ 5000 := by
    refine ⟨_, rfl, ?_⟩
    split
    · rw [ByteArray.size_extract]; omega
    · omega
  obtain ⟨N, hN, hNs⟩ : ∃ M : ByteArray, (if 5000 < two.size then two.extract 0 5000 else two) = M ∧ M.size ≤ 5000 := by
    refine ⟨_, rfl, ?_⟩
    split
    · rw [ByteArray.size_extract]; omega
    · omega
  obtain ⟨k, hk, hk20⟩ : ∃ k : Nat, (if 20 < n then 20 else n) = k ∧ k ≤ 20 := ⟨_, rfl, by split <;> omega⟩
  obtain ⟨s, t, ok, hres⟩ := resA_form (apl (M, N) (ds.take k))
  have hkl : (ds.take k).length = k := by rw [List.length_take, hl]; rw [← hk]; split <;> omega
  have C1 := fun W (h : CellsD W A (ds.take k)) => Apply M N A (ds.take k) k cap W hkl (by omega) h (fun d hd => hsz d (List.mem_of_mem_take hd)) (fun d hd => hat d (List.mem_of_mem_take hd)) (by omega) (by omega)
  have C2 := fun W (h : CellsD W A (ds.take k)) => rApply M N A (ds.take k) k cap W hkl (by omega) h (fun d hd => hsz d (List.mem_of_mem_take hd)) (fun d hd => hat d (List.mem_of_mem_take hd)) (by omega) (by omega)
  rw [hres] at C1 C2
  have HC := Aside0.mk (And.intro C1 C2)
  have HD := Aside0.mk (hd.take k)
  have heq : ∀ W, (Op.equalIn 10000 51 (.agg #[.string s, .string t]) (.agg #[.string s, .string t])).run Try.prog W = .ok true W := fun W => by rw [eq2, beq_toListBytes, beq_toListBytes]; simp
  have HQ := Aside0.mk heq
  clear C1 C2 hd hsz hat hres hkl heq
  have c1 : 5000 < one.size ∨ one.size ≤ 5000 := by omega
  have c2 : 5000 < two.size ∨ two.size ≤ 5000 := by omega
  have c3 : 20 < n ∨ n ≤ 20 := by omega
  have S1 : ∀ W, (Instr.slice 9 (.string one) none (some (.int .i64 (if (5000 : Int) < one.size then 5000 else one.size))) none).run Try.prog W = .ok (.string M) W := by
    intro W
    rw [← hM]
    rcases c1 with h | h
    · rw [if_pos (by omega), if_pos h]; exact slice_to 9 Try.underlying9 one 5000 5000 rfl (by omega) W
    · rw [if_neg (by omega), if_neg (by omega)]
      have := slice_to (P := Try.prog) 9 Try.underlying9 one one.size one.size rfl (by omega) W
      rwa [show one.extract 0 one.size = one by simp] at this
  have S2 : ∀ W, (Instr.slice 9 (.string two) none (some (.int .i64 (if (5000 : Int) < two.size then 5000 else two.size))) none).run Try.prog W = .ok (.string N) W := by
    intro W
    rw [← hN]
    rcases c2 with h | h
    · rw [if_pos (by omega), if_pos h]; exact slice_to 9 Try.underlying9 two 5000 5000 rfl (by omega) W
    · rw [if_neg (by omega), if_neg (by omega)]
      have := slice_to (P := Try.prog) 9 Try.underlying9 two two.size two.size rfl (by omega) W
      rwa [show two.extract 0 two.size = two by simp] at this
  have S3 : ∀ W, (Instr.slice 50 (.slice A n cap) none (some (.int .i64 (if (20 : Int) < n then 20 else n))) none).run Try.prog W = .ok (.slice A k cap) W := by
    intro W
    refine sl_to A n cap k _ ?_ ?_ W
    · rw [← hk]; split <;> split <;> omega
    · rw [← hk]; split <;> omega
  have HS3 := Aside0.mk S3
  have HS := Aside0.mk (And.intro S1 S2)
  have HKK := Aside0.mk hk
  clear S3 hk
  clear S1 S2 hM hN
  go_enter Try.func12, Try.ntmps12
  go_wp2_with fail
  refine (examples _).mono ?_
  rintro e w1 ⟨rfl, hb1⟩
  have H1 := Aside0.mk hb1
  clear hb1
  go_wp2_with fail
  rcases c1 with c1 | c1 <;> rcases c2 with c2 | c2 <;> rcases c3 with c3 | c3
  all_goals
    have S1 := HS.out.1
    have S2 := HS.out.2
    have S3 := HS3.out
    first
      | simp only [show ((5000 : Int) < one.size) = True from eq_true (by omega), if_true] at S1
      | simp only [show ((5000 : Int) < one.size) = False from eq_false (by omega), if_false] at S1
    first
      | simp only [show ((5000 : Int) < two.size) = True from eq_true (by omega), if_true] at S2
      | simp only [show ((5000 : Int) < two.size) = False from eq_false (by omega), if_false] at S2
    first
      | (have hkk := HKK.out; rw [if_pos c3] at hkk; subst hkk)
      | (have hkk := HKK.out; rw [if_neg (by omega)] at hkk; subst hkk)
    first
      | simp only [show ((20 : Int) < n) = True from eq_true (by omega), if_true] at S3
      | simp only [show ((20 : Int) < k) = False from eq_false (by omega), if_false] at S3
      | simp only [show ((20 : Int) < n) = False from eq_false (by omega), if_false] at S3
    go_region
    clear S1 S2
    have hb2 : Below w.heap.size w (w1.alloc (.cells #[.string M, .string N] 51)).drew := below_drew (below_alloc H1.out _)
    have kM := blk_drew (blk_new w1 (.cells #[.string M, .string N] 51))
    have HK := Aside0.mk (And.intro kM hb2)
    clear kM hb2
    go_wp2_with fail
    clear S3
    obtain ⟨W, hW⟩ : ∃ W, (w1.alloc (.cells #[.string M, .string N] 51)).drew = W := ⟨_, rfl⟩
    have HKW := HK.out
    rw [hW] at HKW ⊢
    clear hW HK
    have HK2 := Aside0.mk HKW
    clear HKW
    (with_reducible refine (HC.out.1 W (HD.out.below HK2.out.2)).mono ?_)
    rintro e w2 ⟨rfl, hb⟩
    have K1 := Aside0.mk (blk_below HK2.out.1 hb)
    have B1 := Aside0.mk (HK2.out.2.trans (hb.mono HK2.out.2.size))
    clear hb
    have K3 := blk_alloc K1.out (.cells #[.string s, .string t] 51)
    have r0 := blk_cell K3 0
    have r1 := blk_cell K3 1
    simp at r0 r1
    have HK3 := Aside0.mk (And.intro (blk_new w2 (.cells #[.string s, .string t] 51)) (below_alloc B1.out (.cells #[.string s, .string t] 51)))
    clear K3
    go_wp2_with fail
    clear r0 r1
    obtain ⟨W, hW⟩ : ∃ W, (w2.alloc (.cells #[.string s, .string t] 51)) = W := ⟨_, rfl⟩
    have HKW := And.intro (blk_alloc K1.out (.cells #[.string s, .string t] 51)) HK3.out
    rw [hW] at HKW ⊢
    clear hW HK3 K1
    have HK4 := Aside0.mk HKW
    clear HKW
    (with_reducible refine (HC.out.2 W (HD.out.below HK4.out.2.2)).mono ?_)
    rintro e w3 ⟨rfl, hb⟩
    have K2 := Aside0.mk (blk_below HK4.out.2.1 hb)
    have B2 := Aside0.mk (HK4.out.2.2.trans (hb.mono HK4.out.2.2.size))
    clear hb
    have K3 := blk_alloc K2.out (.cells #[.string s, .string t] 51)
    have r0 := blk_cell K3 0
    have r1 := blk_cell K3 1
    simp at r0 r1
    have HK5 := Aside0.mk (below_alloc B2.out (.cells #[.string s, .string t] 51))
    clear K3
    have heq := HQ.out
    go_wp2_with fail
    go_ret
    exact ⟨rfl, HK5.out⟩

theorem Applies2 (one two : ByteArray) (A : Option Addr) (n cap : Nat) (ds : List D3) (w : World) (h1 : one.size ≤ 140737488351232) (h2 : two.size ≤ 140737488351232) (hl : ds.length = n) (hcap : n ≤ cap) (hn : n ≤ 9223372036854775807) (hd : CellsD w A ds) (hsz : ∀ d ∈ ds, d.2.2.size ≤ 9223372036854775807) (hat : ∀ d ∈ ds, -9223372036854775808 ≤ d.2.1 ∧ d.2.1 ≤ 9223372036854775807) :
    Calls Try.prog 12 #[.string one, .string two, .slice A n cap] w fun e w' => e = .returned (.bool true) ∧ Below w.heap.size w w' := Applies one two A ds n cap w h1 h2 hl hcap hn hd hsz hat
end Go.Proofs.Ytiacmfgkbgfhkaa.Lin
