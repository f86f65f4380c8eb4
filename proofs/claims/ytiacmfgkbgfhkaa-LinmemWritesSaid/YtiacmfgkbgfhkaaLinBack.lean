/- What was stored is loaded as it was; what lies beside it stays: the law's function. No condition but that numbers and lengths are those of the language. -/
import Derived.Test.YtiacmfgkbgfhkaaLinMath
namespace Go.Proofs.Ytiacmfgkbgfhkaa.Lin
variable {P : Program}
open Go.Ob Go.RowKit Go.Proofs.YtiacmfgkbgfhkaaW.PrintWords Go.Proofs.YtiacmfgkbgfhkaaW.PrintMore
attribute [local go_sem] max2_int min2_int max_two min_two
set_option linter.unusedVariables false
set_option linter.unusedSimpArgs false
theorem wrap64_bd (x : Int) : -9223372036854775808 ≤ wrap64 x ∧ wrap64 x ≤ 9223372036854775807 := by unfold wrap64; omega
theorem slice_to (t : TypeId) (ht : P.underlying t = some .string) (s : ByteArray) (b : Nat) (j : Int) (hj : j = b) (hb : b ≤ s.size) (W : World) :
    (Instr.slice t (.string s) none (some (.int .i64 j)) none).run P W = .ok (.string (s.extract 0 b)) W := by
  subst hj
  simp [Instr.slice, Instr.sliceBounds, Instr.sliceBound, asIntOf, run_underlying ht, hb]
theorem slice_of (t : TypeId) (ht : P.underlying t = some .string) (s : ByteArray) (a n : Nat) (i : Int) (hi : i = a) (hn : s.size = n) (hb : a ≤ s.size) (W : World) :
    (Instr.slice t (.string s) (some (.int .i64 i)) none none).run P W = .ok (.string (s.extract a n)) W := by
  subst hi
  subst hn
  simp [Instr.slice, Instr.sliceBounds, Instr.sliceBound, asIntOf, run_underlying ht, hb]
set_option maxHeartbeats 16000000 in
set_option maxRecDepth 100000 in
theorem Back (mem : ByteArray) (addr off : Int) (wide : Bool) (v : Int) (w : World) (hm : mem.size ≤ 9223372036854775807) (ha : -9223372036854775808 ≤ addr ∧ addr ≤ 9223372036854775807) (ho : -9223372036854775808 ≤ off ∧ off ≤ 9223372036854775807) (hv : -9223372036854775808 ≤ v ∧ v ≤ 9223372036854775807) :
    Calls Try.prog 9 #[.string mem, .int .i64 addr, .int .i64 off, .bool wide, .int .i64 v] w fun e w' => e = .returned (.bool true) ∧ Below w.heap.size w w' := by
  obtain ⟨M, hM, hMs⟩ : ∃ M : ByteArray, (if 5000 < mem.size then mem.extract 0 5000 else mem) = M ∧ M.size ≤ 5000 := by
    refine ⟨_, rfl, ?_⟩
    split
    · rw [ByteArray.size_extract]; omega
    · omega
  have HM := Aside0.mk hM
  clear hM
  obtain ⟨N, hN⟩ : ∃ N : Nat, (if wide then 8 else 4) = N := ⟨_, rfl⟩
  have hNN : N = 4 ∨ N = 8 := by rw [← hN]; cases wide <;> simp
  have C1 := fun W => Store M addr off N v W (by omega) ha ho (by omega) hv
  have C2 := fun W => Load M addr off N W (by omega) ha ho (by omega)
  cases hok : okAt M.size (plc addr off) N with
  | false =>
    have z1 : str M addr off N v = ⟨#[]⟩ := by unfold str; rw [hok, if_neg (by decide)]
    have z2 : ldr M addr off N = 0 := by unfold ldr; rw [hok, if_neg (by decide)]
    rw [z1, hok] at C1
    rw [z2, hok] at C2
    have hL := Aside0.mk (And.intro C1 C2)
    clear C1 C2 z1 z2 hok
    have split5 : 5000 < mem.size ∨ mem.size ≤ 5000 := by omega
    rcases split5 with h5 | h5
    all_goals
      cases wide
      all_goals
        simp at hN
        subst hN
        go_enter Try.func9, Try.ntmps9
        go_wp2_with fail
        refine (examples _).mono ?_
        rintro e w1 ⟨rfl, hb1⟩
        have H1 := Aside0.mk hb1
        clear hb1
        go_wp2_with fail
        first
          | (have hq : mem.extract 0 5000 = M := (by have h := HM.out; rwa [if_pos h5] at h); rw [hq]; clear hq)
          | (have hq : mem = M := (by have h := HM.out; rwa [if_neg (by omega)] at h); subst mem)
        refine (hL.out.1 _).mono ?_
        rintro e w2 ⟨rfl, hb2⟩
        have H2 := Aside0.mk (H1.out.trans (hb2.mono H1.out.size))
        clear hb2
        go_wp2_with fail
        refine (hL.out.2 _).mono ?_
        rintro e w3 ⟨rfl, hb3⟩
        have H3 := Aside0.mk (H2.out.trans (hb3.mono H2.out.size))
        clear hb3
        go_wp2
        go_ret
        exact ⟨rfl, H3.out⟩
  | true =>
    obtain ⟨K, hK⟩ := Int.eq_ofNat_of_zero_le (plc_bd addr off).1
    obtain ⟨hN2, hkn⟩ := okAt_iff.mp hok
    have hKN : K + N ≤ M.size := by omega
    have hsz := str_size M addr off N v hok
    have hhd := str_head M addr off v K N hK hok
    have htl := str_tail M addr off v K N hK hok
    have hbk := str_back M addr off v N hok
    have hld := ldr_str M addr off v N hok
    obtain ⟨wv, hwv, hwb⟩ : ∃ wv : Int, wrap64 (v % 256 ^ N) = wv ∧ (if wide then v else v % 4294967296) = wv := by
      refine ⟨_, rfl, ?_⟩
      cases wide
      · simp at hN
        subst hN
        simp only [Int.reducePow]
        rw [if_neg (by decide)]
        unfold wrap64
        omega
      · simp at hN
        subst hN
        rw [if_pos rfl]
        exact (wrap_pow v hv).symm
    rw [hwv] at hld
    have C3 := fun W => Load (str M addr off N v) addr off N W (by omega) ha ho (by omega)
    have hwas : -9223372036854775808 ≤ ldr M addr off N ∧ ldr M addr off N ≤ 9223372036854775807 := by
      unfold ldr ldv
      repeat' split
      all_goals first | exact wrap64_bd _ | omega
    have C4 := fun W => Store (str M addr off N v) addr off N (ldr M addr off N) W (by omega) ha ho (by omega) hwas
    rw [hsz, hok, hld] at C3
    rw [hsz, hok, hbk] at C4
    rw [hok] at C1 C2
    have hpl : addr % 4294967296 + off % 4294967296 = K := by unfold plc at hK; exact hK
    have e1 : bits .and .i64 addr 4294967295 = addr % 4294967296 := and_mask addr 32 (by decide)
    have e2 : bits .and .i64 off 4294967295 = off % 4294967296 := and_mask off 32 (by decide)
    have e3 : bits .and .i64 v 4294967295 = v % 4294967296 := and_mask v 32 (by decide)
    generalize str M addr off N v = S at *
    generalize ldr M addr off N = was at *
    have hL := Aside0.mk (And.intro (And.intro C1 C2) (And.intro C3 C4))
    have HR := Aside0.mk (And.intro (And.intro hpl (And.intro e1 (And.intro e2 e3))) (And.intro hsz (And.intro hhd htl)))
    have HW := Aside0.mk hwb
    have HK := Aside0.mk (And.intro hKN (And.intro hwas (And.intro hK (And.intro hN2 (And.intro hkn hNN)))))
    clear C1 C2 C3 C4 hbk hld hwv hok hpl e1 e2 e3 hsz hhd htl hwb hKN hwas hK hN2 hkn hNN
    have split5 : 5000 < mem.size ∨ mem.size ≤ 5000 := by omega
    rcases split5 with h5 | h5
    all_goals
      cases wide
      all_goals
        simp at hN
        subst hN
        go_enter Try.func9, Try.ntmps9
        go_wp2_with fail
        refine (examples _).mono ?_
        rintro e w1 ⟨rfl, hb1⟩
        have H1 := Aside0.mk hb1
        clear hb1
        go_wp2_with fail
        first
          | (have hq : mem.extract 0 5000 = M := (by have h := HM.out; rwa [if_pos h5] at h); rw [hq]; clear hq)
          | (have hq : mem = M := (by have h := HM.out; rwa [if_neg (by omega)] at h); subst mem)
        refine (hL.out.1.1 _).mono ?_
        rintro e w2 ⟨rfl, hb2⟩
        have H2 := Aside0.mk (H1.out.trans (hb2.mono H1.out.size))
        clear hb2
        go_wp2_with fail
        refine (hL.out.1.2 _).mono ?_
        rintro e w3 ⟨rfl, hb3⟩
        have H3 := Aside0.mk (H2.out.trans (hb3.mono H2.out.size))
        clear hb3
        go_wp2_with fail
        refine (hL.out.2.1 _).mono ?_
        rintro e w4 ⟨rfl, hb4⟩
        have H4 := Aside0.mk (H3.out.trans (hb4.mono H3.out.size))
        clear hb4
        have e1 := HR.out.1.2.1
        have e2 := HR.out.1.2.2.1
        go_wp2_with fail
        refine (hL.out.2.2 _).mono ?_
        rintro e w5 ⟨rfl, hb5⟩
        have H5 := Aside0.mk (H4.out.trans (hb5.mono H4.out.size))
        clear hb5 e1 e2
        go_wp2_with fail
        have e3 := HR.out.1.2.2.2
        have hw' := HW.out
        simp only [reduceIte, Bool.false_eq_true, if_true, if_false] at hw'
        first
          | (rw [hw'] at e3; rw [e3, HR.out.1.1])
          | (subst hw'; rw [HR.out.1.1])
        clear e3
        have s1 := HR.out.2.1
        have s2 := HR.out.2.2.1
        have s3 := HR.out.2.2.2
        have hk := HK.out.1
        have d1 := fun W => slice_to (P := Try.prog) 9 Try.underlying9 S K K rfl (by omega) W
        have d2 := fun W => slice_to (P := Try.prog) 9 Try.underlying9 M K K rfl (by omega) W
        rw [s2] at d1
        first
          | (have w1 : IntKind.i64.wrap ((K : Int) + 8) = (K : Int) + 8 := by rw [IntKind.wrap_i64]; omega
             have d3 := fun W => slice_of (P := Try.prog) 9 Try.underlying9 S (K + 8) M.size ((K : Int) + 8) (by simp) s1 (by omega) W
             have d4 := fun W => slice_of (P := Try.prog) 9 Try.underlying9 M (K + 8) M.size ((K : Int) + 8) (by simp) rfl (by omega) W
             rw [s3] at d3)
          | (have w1 : IntKind.i64.wrap ((K : Int) + 4) = (K : Int) + 4 := by rw [IntKind.wrap_i64]; omega
             have d3 := fun W => slice_of (P := Try.prog) 9 Try.underlying9 S (K + 4) M.size ((K : Int) + 4) (by simp) s1 (by omega) W
             have d4 := fun W => slice_of (P := Try.prog) 9 Try.underlying9 M (K + 4) M.size ((K : Int) + 4) (by simp) rfl (by omega) W
             rw [s3] at d3)
        have HB := Aside0.mk (And.intro s1 H5.out)
        clear s2 s3 hk hL HK HW HR H1 H2 H3 H4 H5 ha ho hv hMs HM
        refine wp_region_still_lit (by kernel_rfl) (by kernel_rfl) ?_
        repeat still_step
        refine wpStill_nil ?_
        go_wp2
        go_ret
        exact ⟨rfl, below_drew HB.out.2⟩
theorem Back2 (mem : ByteArray) (addr off : Int) (wide : Bool) (v : Int) (w : World) (hm : mem.size ≤ 140737488351232) (ha : -9223372036854775808 ≤ addr ∧ addr ≤ 9223372036854775807) (ho : -9223372036854775808 ≤ off ∧ off ≤ 9223372036854775807) (hv : -9223372036854775808 ≤ v ∧ v ≤ 9223372036854775807) :
    Calls Try.prog 9 #[.string mem, .int .i64 addr, .int .i64 off, .bool wide, .int .i64 v] w fun e w' => e = .returned (.bool true) ∧ Below w.heap.size w w' := Back mem addr off wide v w (by omega) ha ho hv
end Go.Proofs.Ytiacmfgkbgfhkaa.Lin
