/- Any memory is made, any number is loaded and stored, as the chapter says: the law's function. No condition but that numbers and lengths are those of the language. -/
import Derived.Test.YtiacmfgkbgfhkaaLinMath
import Derived.Test.YtiacmfgkbgfhkaaLinNewRef
import Derived.Deep.RegionHeld3
namespace Go.Proofs.Ytiacmfgkbgfhkaa.Lin
open Go.Ob Go.RowKit Go.Proofs.YtiacmfgkbgfhkaaW.PrintWords Go.Proofs.YtiacmfgkbgfhkaaW.PrintMore
attribute [local go_sem] max2_int min2_int max_two min_two
set_option linter.unusedVariables false
set_option linter.unusedSimpArgs false
/-- the box of the module, as the law's function has made it, is untouched -/
def Bx (cs : Array Value) (w wr : World) : Prop := Below (w.heap.size + 1) (w.alloc (.cells cs 38)) wr
theorem Bx.cell {cs : Array Value} {w wr : World} (h : Bx cs w wr) (i : Nat) : wr.cell? ⟨w.heap.size, i, none⟩ = cs[i]? := by
  have h1 := Below.cell h (p := ⟨w.heap.size, i, none⟩) (Nat.lt_succ_self _)
  rw [h1]
  exact blk_cell (blk_new w (.cells cs 38)) i
theorem Bx.below {cs : Array Value} {w wr w' : World} (h : Bx cs w wr) (hb : Below wr.heap.size wr w') : Bx cs w w' := Below.trans h (hb.mono (by have := h.size; rw [World.size_alloc] at this; exact this))
theorem Bx.drew {cs : Array Value} {w wr : World} (h : Bx cs w wr) : Bx cs w wr.drew := Below.drew h
theorem Bx.all {cs : Array Value} {w wr : World} (h : Bx cs w wr) : Below w.heap.size w wr :=
  (below_alloc (Below.refl _ _) _).trans (Below.mono h (Nat.le_succ _))
abbrev SBx (a0 a1 a2 a3 a4 a5 a6 : Value) (w wr : World) : Prop := wr.cell? ⟨w.heap.size, 0, none⟩ = some a0 ∧ wr.cell? ⟨w.heap.size, 1, none⟩ = some a1 ∧ wr.cell? ⟨w.heap.size, 2, none⟩ = some a2 ∧ wr.cell? ⟨w.heap.size, 3, none⟩ = some a3 ∧
  wr.cell? ⟨w.heap.size, 4, none⟩ = some a4 ∧ wr.cell? ⟨w.heap.size, 5, none⟩ = some a5 ∧ wr.cell? ⟨w.heap.size, 6, none⟩ = some a6 ∧ Bx #[a0, a1, a2, a3, a4, a5, a6] w wr
theorem Bx.cells {a0 a1 a2 a3 a4 a5 a6 : Value} {w wr : World} (h : Bx #[a0, a1, a2, a3, a4, a5, a6] w wr) : SBx a0 a1 a2 a3 a4 a5 a6 w wr :=
  ⟨h.cell 0, h.cell 1, h.cell 2, h.cell 3, h.cell 4, h.cell 5, h.cell 6, h⟩
theorem SBx.all {a0 a1 a2 a3 a4 a5 a6 : Value} {w wr : World} (h : SBx a0 a1 a2 a3 a4 a5 a6 w wr) : Below w.heap.size w wr := h.2.2.2.2.2.2.2.all
set_option maxHeartbeats 16000000 in
set_option maxRecDepth 100000 in
theorem Works (sg im fn gl : Value) (m0 m1 k : Int) (A : Option Addr) (ds : List D3) (nn cap : Nat) (mem : ByteArray) (addr off n v : Int) (w : World) (hl : ds.length = nn) (hn0 : nn ≤ 9223372036854775807) (hd : CellsD w A ds) (hsz : ∀ d ∈ ds, d.2.2.size ≤ 9223372036854775807)
    (hm : mem.size ≤ 9223372036854775807) (ha : -9223372036854775808 ≤ addr ∧ addr ≤ 9223372036854775807) (ho : -9223372036854775808 ≤ off ∧ off ≤ 9223372036854775807) (hn : -9223372036854775808 ≤ n ∧ n ≤ 9223372036854775807) (hv : -9223372036854775808 ≤ v ∧ v ≤ 9223372036854775807) :
    Calls Try.prog 8 #[.agg #[sg, im, fn, .int .i64 m0, .int .i64 m1, gl, .slice A nn cap], .int .i64 k, .string mem, .int .i64 addr, .int .i64 off, .int .i64 n, .int .i64 v] w fun e w' => e = .returned (.bool true) ∧ Below w.heap.size w w' := by
  obtain ⟨M, hM, hMs⟩ : ∃ M : ByteArray, (if 5000 < mem.size then mem.extract 0 5000 else mem) = M ∧ M.size ≤ 5000 := by
    refine ⟨_, rfl, ?_⟩
    split
    · rw [ByteArray.size_extract]; omega
    · omega
  have HM := Aside0.mk hM
  clear hM
  have C1 := fun W => Load M addr off n W (by omega) ha ho hn
  have C2 := fun W => rLoad M addr off n W (by omega) ha ho hn
  have C3 := fun W => Store M addr off n v W (by omega) ha ho hn hv
  have C4 := fun W => rStore M addr off n v W (by omega) ha ho hn hv
  generalize str M addr off n v = S at *
  generalize ldr M addr off n = L at *
  generalize okAt M.size (plc addr off) n = ok at *
  have C5 := fun W hd => New sg im fn gl m0 m1 k A ds nn cap W hl hn0 hd
  have C6 := fun W hd => rNew sg im fn gl m0 m1 k A ds nn cap W hl hn0 hd hsz
  generalize news k (if k = 0 then m0 else m1) ds = B at *
  have hL := Aside0.mk (And.intro (And.intro C1 C2) (And.intro C3 C4))
  have hN := Aside0.mk (And.intro C5 C6)
  have HD := Aside0.mk hd
  clear C1 C2 C3 C4 C5 C6 hl hn0 hd hsz hMs ha ho hn hv
  have split5 : 5000 < mem.size ∨ mem.size ≤ 5000 := by omega
  rcases split5 with h5 | h5
  all_goals
    go_enter Try.func8, Try.ntmps8
    go_wp2_with fail
    refine (examples _).mono ?_
    rintro e w1 ⟨rfl, hb1⟩
    have H1 : Aside0 (Bx #[sg, im, fn, .int .i64 m0, .int .i64 m1, gl, .slice A nn cap] w w1) := Aside0.mk (Bx.below (Below.refl _ _) hb1)
    clear hb1
    go_wp2_with fail
    first
      | (have hq : mem.extract 0 5000 = M := (by have h := HM.out; rwa [if_pos h5] at h); rw [hq]; clear hq)
      | (have hq : mem = M := (by have h := HM.out; rwa [if_neg (by omega)] at h); subst mem)
    refine (hL.out.1.1 _).mono ?_
    rintro e w2 ⟨rfl, hb⟩
    have H2 := Aside0.mk (H1.out.below hb)
    clear hb H1
    go_wp2_with fail
    refine (hL.out.1.2 _).mono ?_
    rintro e w3 ⟨rfl, hb⟩
    have H3 := Aside0.mk (H2.out.below hb)
    clear hb H2
    go_wp2_with fail
    refine (hL.out.2.1 _).mono ?_
    rintro e w4 ⟨rfl, hb⟩
    have H4 := Aside0.mk (H3.out.below hb)
    clear hb H3
    go_wp2_with fail
    refine (hL.out.2.2 _).mono ?_
    rintro e w5 ⟨rfl, hb⟩
    have H5 := Aside0.mk (H4.out.below hb)
    clear hb H4
    go_wp2_with fail
    have hx := H5.out
    have hs := H5.out.cells
    have hcd : ∀ wr, Bx #[sg, im, fn, .int .i64 m0, .int .i64 m1, gl, .slice A nn cap] w wr → CellsD wr A ds := fun wr h => HD.out.below h.all
    go_region_held3 (fun wr => SBx sg im fn (.int .i64 m0) (.int .i64 m1) gl (.slice A nn cap) w wr)
      ((refine Bx.cells ?_; (with_reducible repeat (first | assumption | refine Bx.drew ?_ | refine Bx.below ?_ (by assumption)))))
      (first
        | (go_at_call 34; refine (hN.out.1 _ (hcd _ (by with_reducible repeat (first | assumption | refine Bx.drew ?_ | refine Bx.below ?_ (by assumption))))).mono ?_; rintro e w' ⟨rfl, hb'⟩)
        | (go_at_call 35; refine (hN.out.2 _ (hcd _ (by with_reducible repeat (first | assumption | refine Bx.drew ?_ | refine Bx.below ?_ (by assumption))))).mono ?_; rintro e w' ⟨rfl, hb'⟩))
    go_wp2
    go_ret
    exact ⟨rfl, SBx.all (by assumption)⟩
theorem Works2 (sg im fn gl : Value) (m0 m1 : Int) (A : Option Addr) (nn cap : Nat) (ds : List D3) (k : Int) (mem : ByteArray) (addr off n v : Int) (w : World)
    (hl : ds.length = nn) (hn0 : nn ≤ 9223372036854775807) (hd : CellsD w A ds) (hsz : ∀ d ∈ ds, d.2.2.size ≤ 9223372036854775807) (hk : -9223372036854775808 ≤ k ∧ k ≤ 9223372036854775807)
    (hm : mem.size ≤ 140737488351232) (ha : -9223372036854775808 ≤ addr ∧ addr ≤ 9223372036854775807) (ho : -9223372036854775808 ≤ off ∧ off ≤ 9223372036854775807) (hn : -9223372036854775808 ≤ n ∧ n ≤ 9223372036854775807) (hv : -9223372036854775808 ≤ v ∧ v ≤ 9223372036854775807) :
    Calls Try.prog 8 #[.agg #[sg, im, fn, .int .i64 m0, .int .i64 m1, gl, .slice A nn cap], .int .i64 k, .string mem, .int .i64 addr, .int .i64 off, .int .i64 n, .int .i64 v] w fun e w' => e = .returned (.bool true) ∧ Below w.heap.size w w' :=
  Works sg im fn gl m0 m1 k A ds nn cap mem addr off n v w hl hn0 hd hsz (by omega) ha ho hn hv
end Go.Proofs.Ytiacmfgkbgfhkaa.Lin
