/- The places of chapter 19: the law of telling, its function. No condition but that the table of registers holds what the program's text lays, and that lengths are those of the language. -/
import Derived.Test.YtlhhhkhbfnjkiaaDoorTells2
import Derived.Test.YtlhhhkhbfnjkiaaDoorWEqStruct
namespace Go.Proofs.YtlhhhkhbfnjkiaaDoor.Tells
open Go.RowKit Go.Proofs.YtlhhhkhbfnjkiaaDoorW.PrintWords Go.Proofs.YtlhhhkhbfnjkiaaDoorW.PrintMore
attribute [local go_sem] max2_int min2_int max_two min_two
set_option linter.unusedVariables false
set_option linter.unusedSimpArgs false
set_option maxRecDepth 100000 in
theorem eqx (o : Int) (wd : Bool) (r b i c n : Int) (o' : Int) (wd' : Bool) (r' b' i' c' n' : Int) (W : World) :
    (Op.equalIn 10000 27 (xv o wd r b i c n) (xv o' wd' r' b' i' c' n')).run Tryd.prog W = .ok (o == o' && (wd == wd' && (r == r' && (b == b' && (i == i' && (c == c' && n == n')))))) W := by
  refine eqA_of Tryd.underlying27 (by kernel_rfl) ?_
  refine eqf_cons (by rfl) (by go_simp; rfl) (by go_simp; rfl) (by go_simp) ?_
  refine eqf_cons (by rfl) (by go_simp; rfl) (by go_simp; rfl) (by go_simp) ?_
  refine eqf_cons (by rfl) (by go_simp; rfl) (by go_simp; rfl) (by go_simp) ?_
  refine eqf_cons (by rfl) (by go_simp; rfl) (by go_simp; rfl) (by go_simp) ?_
  refine eqf_cons (by rfl) (by go_simp; rfl) (by go_simp; rfl) (by go_simp) ?_
  refine eqf_cons (by rfl) (by go_simp; rfl) (by go_simp; rfl) (by go_simp) ?_
  exact eqf_last (by rfl) (by go_simp; rfl) (by go_simp; rfl) (by go_simp)
theorem Bytes (L : List Int) (A : Option Addr) (n cap : Nat) (w : World) (hr : ReadsInt w .i64 A n L) (hn : near L) :
    Calls Tryd.prog 15 #[.slice A n cap] w fun e w' => e = .returned (.int .i64 (8 * sl L)) ∧ w = w' := by
  obtain ⟨h0, h1⟩ := sl_bd L hn
  go_enter Tryd.func15, Tryd.ntmps15
  go_wp2_with (first
    | (go_at_call 32; (with_reducible refine (Slots L A n cap _ hr hn).mono ?_); rintro e w1 ⟨rfl, rfl⟩))
  go_ret
  exact ⟨rfl, rfl⟩
theorem rBytes (L : List Int) (A : Option Addr) (n cap : Nat) (w : World) (hr : ReadsInt w .i64 A n L) (hn : near L) :
    Calls Tryd.prog 16 #[.slice A n cap] w fun e w' => e = .returned (.int .i64 (8 * sl L)) ∧ w = w' := by
  obtain ⟨h0, h1⟩ := sl_bd L hn
  go_enter Tryd.func16, Tryd.ntmps16
  go_wp2_with (first
    | (go_at_call 33; (with_reducible refine (rSlots L A n cap _ hr hn).mono ?_); rintro e w1 ⟨rfl, rfl⟩))
  go_ret
  exact ⟨rfl, rfl⟩
theorem Args (i : Int) (w : World) : Calls Tryd.prog 17 #[.int .i64 i] w fun e w' => e = .returned (.int .i64 (wrap64 (8 * i))) ∧ w = w' := by
  go_enter Tryd.func17, Tryd.ntmps17
  go_wp2
  go_ret
  exact ⟨rfl, rfl⟩
theorem rArgs (i : Int) (w : World) : Calls Tryd.prog 18 #[.int .i64 i] w fun e w' => e = .returned (.int .i64 (wrap64 (8 * i))) ∧ w = w' := by
  go_enter Tryd.func18, Tryd.ntmps18
  go_wp2
  go_ret
  exact ⟨rfl, rfl⟩
theorem Global (i : Int) (w : World) : Calls Tryd.prog 19 #[.int .i64 i] w fun e w' => e = .returned (.int .i64 (wrap64 (40 + wrap64 (8 * i)))) ∧ w = w' := by
  go_enter Tryd.func19, Tryd.ntmps19
  go_wp2
  go_ret
  exact ⟨rfl, rfl⟩
theorem rGlobal (i : Int) (w : World) : Calls Tryd.prog 20 #[.int .i64 i] w fun e w' => e = .returned (.int .i64 (wrap64 (40 + wrap64 (8 * i)))) ∧ w = w' := by
  go_enter Tryd.func20, Tryd.ntmps20
  go_wp2
  go_ret
  exact ⟨rfl, rfl⟩
theorem Memory (i : Int) (w : World) : Calls Tryd.prog 21 #[.int .i64 i] w fun e w' => e = .returned (.int .i64 (wrap64 (wrap64 (131072 + wrap64 (65536 * i)) - 65536))) ∧ w = w' := by
  go_enter Tryd.func21, Tryd.ntmps21
  go_wp2
  go_ret
  exact ⟨rfl, rfl⟩
theorem rMemory (i : Int) (w : World) : Calls Tryd.prog 22 #[.int .i64 i] w fun e w' => e = .returned (.int .i64 (wrap64 (wrap64 (131072 + wrap64 (65536 * i)) - 65536))) ∧ w = w' := by
  go_enter Tryd.func22, Tryd.ntmps22
  go_wp2
  go_ret
  exact ⟨rfl, rfl⟩
theorem NCalls (w : World) : Calls Tryd.prog 29 #[] w fun e w' => e = .returned (.int .i64 32) ∧ w = w' := by
  go_enter Tryd.func29, Tryd.ntmps29
  go_wp2
  go_ret
  exact ⟨rfl, rfl⟩
end Go.Proofs.YtlhhhkhbfnjkiaaDoor.Tells
