/- Writes one behind the other are the same in two parts: the law's function, whole. No condition but that numbers and lengths are those of the language. -/
import Derived.Test.YtiacmfgkbgfhkaaLinWrites
namespace Go.Proofs.Ytiacmfgkbgfhkaa.Lin
open Go.Ob Go.RowKit Go.Proofs.YtiacmfgkbgfhkaaW.PrintWords Go.Proofs.YtiacmfgkbgfhkaaW.PrintMore
set_option linter.unusedVariables false
set_option linter.unusedSimpArgs false
theorem Writes (A : Option Addr) (n cap : Nat) (ds : List D3) (at_ : Int) (w : World) (hl : ds.length = n) (hcap : n ≤ cap) (hn : n ≤ 9223372036854775807) (hd : CellsD w A ds) (hsz : ∀ d ∈ ds, d.2.2.size ≤ 9223372036854775807) (hat : ∀ d ∈ ds, -9223372036854775808 ≤ d.2.1 ∧ d.2.1 ≤ 9223372036854775807) (ha : -9223372036854775808 ≤ at_ ∧ at_ ≤ 9223372036854775807) :
    Calls Try.prog 13 #[.slice A n cap, .int .i64 at_] w fun e w' => e = .returned (.bool true) ∧ Below w.heap.size w w' := by
  obtain ⟨k, hk, hk10⟩ : ∃ k : Nat, (if 10 < n then 10 else n) = k ∧ k ≤ 10 := ⟨_, rfl, by split <;> omega⟩
  have hkn : k ≤ n := by rw [← hk]; split <;> omega
  obtain ⟨j, hj1, hj2, hj3⟩ : ∃ j : Nat, j ≤ k ∧ (at_ < 0 → -((at_ + 1).tmod ((k : Int) + 1)) = j) ∧ (0 ≤ at_ → at_ % ((k : Int) + 1) = j) := by
    rcases Int.lt_or_le at_ 0 with h | h
    · refine ⟨(-((at_ + 1).tmod ((k : Int) + 1))).toNat, ?_, fun _ => ?_, fun h' => by omega⟩
      · rw [← Int.neg_tmod, Int.tmod_eq_emod_of_nonneg (by omega)]
        have := Int.emod_lt_of_pos (-(at_ + 1)) (show (0 : Int) < (k : Int) + 1 by omega)
        omega
      · rw [← Int.neg_tmod, Int.tmod_eq_emod_of_nonneg (by omega)]
        have := Int.emod_nonneg (-(at_ + 1)) (show ((k : Int) + 1) ≠ 0 by omega)
        omega
    · refine ⟨(at_ % ((k : Int) + 1)).toNat, ?_, fun h' => by omega, fun _ => ?_⟩
      · have := Int.emod_lt_of_pos at_ (show (0 : Int) < (k : Int) + 1 by omega)
        omega
      · have := Int.emod_nonneg at_ (show ((k : Int) + 1) ≠ 0 by omega)
        omega
  obtain ⟨l, hle⟩ : ∃ l, ds.take k = l := ⟨_, rfl⟩
  have hll : l.length = k := by rw [← hle, List.length_take, hl]; omega
  have hmem : ∀ d ∈ l, d ∈ ds := fun d h => List.mem_of_mem_take (hle ▸ h)
  have hcl : CellsD w A l := hle ▸ hd.take k
  have hs0 : s0.size = 16 := rfl
  have ht0 : t0.size = 16 := rfl
  have C := fun (p q : ByteArray) (m : Nat) (cp : Nat) (B : Option Addr) (es : List D3) (W : World) (h1 : es.length = m) (h2 : CellsD W B es) (h3 : m ≤ 10) (hm : ∀ d ∈ es, d ∈ l) (h4 : p.size = 16) (h5 : q.size = 16) =>
    Apply p q B es m cp W h1 (by omega) h2 (fun d hd => hsz d (hmem d (hm d hd))) (fun d hd => hat d (hmem d (hm d hd))) (by omega) (by omega)
  have hE : ∀ W, Below w.heap.size w W → (CellsD W A l ∧ True) ∧ (CellsD W (tl A cap j) (l.drop j)) := fun W hb => ⟨⟨hcl.below hb, trivial⟩, (hcl.below hb).drop j cap (by omega)⟩
  have split : apl (s0, t0) l = (apl (s0, t0) (l.take j)).bind fun m' => apl m' (l.drop j) := by rw [← apl_append, List.take_append_drop]
  have hcell : 0 < k → ∃ d : D3, (∀ x, apl (s0, t0) l = some x → ∃ y, ap1 y d = some x) ∧ d ∈ l ∧ ∀ W, (CellsD W A l ∧ True) → ∃ ad, A = some ad ∧ ad.block < W.heap.size ∧ W.cell? (ad.add ((k - 1) * 3)) = some (.int .i64 d.1) ∧ W.cell? ⟨(ad.add ((k - 1) * 3)).block, (ad.add ((k - 1) * 3)).off + 1, none⟩ = some (.int .i64 d.2.1) ∧ W.cell? ⟨(ad.add ((k - 1) * 3)).block, (ad.add ((k - 1) * 3)).off + 2, none⟩ = some (.string d.2.2) := fun hk0 =>
    ⟨l[k - 1]'(by omega), fun x hx => apl_last (k := k - 1) (by omega) hx, List.getElem_mem _, fun W h => h.1 (k - 1) (by omega)⟩
  cases h1 : apl (s0, t0) (l.take j) with
  | none =>
    rw [h1] at split
    refine Writes_g A n cap k j at_ ⟨#[]⟩ ⟨#[]⟩ ⟨#[]⟩ ⟨#[]⟩ false false w _ _ hE hn hcap hkn hj1 hk hj2 hj3 ha (fun W h => ?_) (fun W h => ?_) (fun h => by cases h) (fun _ => ⟨⟨rfl, rfl, rfl⟩, rfl, rfl⟩) (fun _ => ⟨rfl, rfl⟩) (fun h => by cases h)
    · have := C s0 t0 k cap A l W hll h.1 hk10 (fun d h => h) hs0 ht0
      rwa [split] at this
    · have := C s0 t0 j cap A (l.take j) W (by rw [List.length_take]; omega) (h.1.take j) (by omega) (fun d h => List.mem_of_mem_take h) hs0 ht0
      rwa [h1] at this
  | some y =>
    rw [h1] at split
    obtain ⟨y1, y2⟩ := y
    have hy := apl_sizes _ h1
    have D2 : ∀ W, (CellsD W A l ∧ True) → Calls Try.prog 36 #[.agg #[.string s0, .string t0], .slice A j cap] W fun e w' => e = .returned (ret2 y1 y2 true) ∧ Below W.heap.size W w' := fun W h => by
      have := C s0 t0 j cap A (l.take j) W (by rw [List.length_take]; omega) (h.1.take j) (by omega) (fun d h => List.mem_of_mem_take h) hs0 ht0
      rwa [h1] at this
    have D1 := fun W (h : CellsD W A l ∧ True) => C s0 t0 k cap A l W hll h.1 hk10 (fun d h => h) hs0 ht0
    have D3 := fun W (h : CellsD W (tl A cap j) (l.drop j)) => C y1 y2 (k - j) (cap - j) (tl A cap j) (l.drop j) W (by rw [List.length_drop, hll]) h (by omega) (fun d h => List.mem_of_mem_drop h) (hy.1.trans hs0) (hy.2.trans ht0)
    have e3 : apl (y1, y2) (l.drop j) = apl (s0, t0) l := split.symm
    rw [e3] at D3
    cases h2 : apl (s0, t0) l with
    | none =>
      rw [h2] at D1 D3
      exact Writes_g A n cap k j at_ ⟨#[]⟩ ⟨#[]⟩ y1 y2 false true w _ _ hE hn hcap hkn hj1 hk hj2 hj3 ha D1 D2 (fun _ => D3) (fun h => by cases h) (fun _ => ⟨rfl, rfl⟩) (fun h => by cases h)
    | some x =>
      obtain ⟨x1, x2⟩ := x
      rw [h2] at D1 D3
      have hx := apl_sizes _ h2
      refine Writes_g A n cap k j at_ x1 x2 y1 y2 true true w _ _ hE hn hcap hkn hj1 hk hj2 hj3 ha D1 D2 (fun _ => D3) (fun h => by cases h) (fun h => by cases h) (fun _ hk0 => ?_)
      obtain ⟨d, hd1, hd2, hd3⟩ := hcell hk0
      obtain ⟨y, hy⟩ := hd1 _ h2
      have ht := ap1_there hy
      refine ⟨d, ?_, hx.1.trans hs0, hx.2.trans ht0, ht, hd3⟩
      have a1 : x1.size = 16 := hx.1.trans hs0
      have a2 : x2.size = 16 := hx.2.trans ht0
      dsimp only at ht
      omega
end Go.Proofs.Ytiacmfgkbgfhkaa.Lin
