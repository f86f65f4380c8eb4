/- A number read in a machine's memory: the program's functions. -/
import Derived.Test.YtgaiehnbjggmdaaDoorFMath
import Derived.BigQuiet
namespace Go.Proofs.YtgaiehnbjggmdaaDoor.F
open Go.Ob Go.RowKit Go.Proofs.YtgaiehnbjggmdaaDoorW.PrintWords Go.Proofs.YtgaiehnbjggmdaaDoorW.PrintMore
attribute [local go_sem] max2_int min2_int max_two min_two
set_option linter.unusedVariables false
set_option linter.unusedSimpArgs false
/-- do n bytes from an address on lie within a region? -/
def inR (r : R3) (at_ n : Int) : Bool := decide (r.1 ≤ at_ ∧ at_ - r.1 ≤ (r.2.1.size : Int) ∧ n ≤ (r.2.1.size : Int) - (at_ - r.1))
/-- the first region where they do, from the i-th on -/
def fndF (at_ n : Int) (code : Bool) : List R3 → Nat → Option (Nat × Nat)
  | [], _ => none
  | r :: l, i => if r.2.2 = code ∧ inR r at_ n = true then some (i, (at_ - r.1).toNat) else fndF at_ n code l (i + 1)
/-- what is read -/
def rdA (l : List R3) (at_ n : Int) : Int × Bool :=
  if n = 4 ∨ n = 8 then (match fndF at_ n false l 0 with
    | some (i, k) => (wrap64 (le (((bl (l.getD i (0, ⟨#[]⟩, false)).2.1).drop k).take n.toNat)), true)
    | none => (0, false)) else (0, false)
/-- the cells of regions -/
def CellsR (w : World) (A : Option Addr) (l : List R3) : Prop := ∀ i (h : i < l.length), ∃ ad, A = some ad ∧ ad.block < w.heap.size ∧ w.cell? (ad.add (i * 3)) = some (.int .i64 l[i].1) ∧
  w.cell? ⟨(ad.add (i * 3)).block, (ad.add (i * 3)).off + 1, none⟩ = some (.string l[i].2.1) ∧ w.cell? ⟨(ad.add (i * 3)).block, (ad.add (i * 3)).off + 2, none⟩ = some (.bool l[i].2.2)
theorem CellsR.below {w w' : World} {A : Option Addr} {l : List R3} (h : CellsR w A l) (hb : Below w.heap.size w w') : CellsR w' A l := fun i hi => by
  obtain ⟨ad, e, hk, c0, c1, c2⟩ := h i hi
  exact ⟨ad, e, Nat.lt_of_lt_of_le hk hb.size, (hb.cell (by rw [add_blk]; exact hk)).trans c0, (hb.cell (p := ⟨(ad.add (i * 3)).block, (ad.add (i * 3)).off + 1, none⟩) (by show (ad.add (i * 3)).block < _; rw [add_blk]; exact hk)).trans c1,
    (hb.cell (p := ⟨(ad.add (i * 3)).block, (ad.add (i * 3)).off + 2, none⟩) (by show (ad.add (i * 3)).block < _; rw [add_blk]; exact hk)).trans c2⟩
set_option maxHeartbeats 4000000 in
set_option maxRecDepth 100000 in
theorem Within (r : R3) (at_ n : Int) (w : World) (hr : -9223372036854775808 ≤ r.1 ∧ r.1 ≤ 9223372036854775807) (ha : -9223372036854775808 ≤ at_ ∧ at_ ≤ 9223372036854775807) (hn : n = 1 ∨ n = 4 ∨ n = 8) (hs : r.2.1.size ≤ 9223372036854775000) :
    Calls Tryd.prog 66 #[.agg #[.int .i64 r.1, .string r.2.1, .bool r.2.2], .int .i64 at_, .int .i64 n] w fun e w' => e = .returned (.tuple #[.int .i64 (if inR r at_ n then at_ - r.1 else 0), .bool (inR r at_ n)]) ∧ Below w.heap.size w w' := by
  obtain ⟨a, s, c⟩ := r
  dsimp only at hr hs
  unfold inR
  dsimp only
  by_cases h1 : at_ < a
  · rw [decide_eq_false (by omega)]
    simp only [Bool.false_eq_true, if_false]
    go_enter Tryd.func66, Tryd.ntmps66
    go_wp2
    go_ret2
    exact ⟨rfl, by with_reducible repeat (first | exact Below.refl _ _ | refine below_alloc ?_ _)⟩
  · have e1 : IntKind.u64.wrap (IntKind.u64.wrap at_ - IntKind.u64.wrap a) = at_ - a := by
      rw [u64_wrap, u64_wrap, u64_wrap]
      omega
    by_cases h2 : at_ - a ≤ (s.size : Int)
    · by_cases h3 : n ≤ (s.size : Int) - (at_ - a)
      · rw [decide_eq_true (show a ≤ at_ ∧ at_ - a ≤ (s.size : Int) ∧ n ≤ (s.size : Int) - (at_ - a) by omega)]
        simp only [if_true]
        have h4 : ¬ (s.size : Int) < at_ - a := by omega
        have h5 : ¬ (s.size : Int) - (at_ - a) < n := by omega
        go_enter Tryd.func66, Tryd.ntmps66
        go_wp2
        go_ret2
        exact ⟨rfl, by with_reducible repeat (first | exact Below.refl _ _ | refine below_alloc ?_ _)⟩
      · rw [decide_eq_false (show ¬ (a ≤ at_ ∧ at_ - a ≤ (s.size : Int) ∧ n ≤ (s.size : Int) - (at_ - a)) by omega)]
        simp only [Bool.false_eq_true, if_false]
        have h4 : ¬ (s.size : Int) < at_ - a := by omega
        have h5 : (s.size : Int) - (at_ - a) < n := by omega
        go_enter Tryd.func66, Tryd.ntmps66
        go_wp2
        go_ret2
        exact ⟨rfl, by with_reducible repeat (first | exact Below.refl _ _ | refine below_alloc ?_ _)⟩
    · rw [decide_eq_false (show ¬ (a ≤ at_ ∧ at_ - a ≤ (s.size : Int) ∧ n ≤ (s.size : Int) - (at_ - a)) by omega)]
      simp only [Bool.false_eq_true, if_false]
      have h4 : (s.size : Int) < at_ - a := by omega
      go_enter Tryd.func66, Tryd.ntmps66
      go_wp2
      go_ret2
      exact ⟨rfl, by with_reducible repeat (first | exact Below.refl _ _ | refine below_alloc ?_ _)⟩
/-- where a region is found, as find tells it -/
def fndA (o : Option (Nat × Nat)) : Value := match o with
  | some (i, k) => .tuple #[.int .i64 i, .int .i64 k]
  | none => .tuple #[.int .i64 (-1), .int .i64 0]
def OkR (r : R3) : Prop := (-9223372036854775808 ≤ r.1 ∧ r.1 ≤ 9223372036854775807) ∧ r.2.1.size ≤ 9223372036854775000
set_option maxHeartbeats 8000000 in
set_option maxRecDepth 100000 in
theorem Find (l : List R3) (A : Option Addr) (m cap : Nat) (at_ n : Int) (code : Bool) (w : World) (hm : l.length = m) (hm2 : m ≤ 9223372036854775807) (hc : CellsR w A l) (hr : ∀ r ∈ l, OkR r) (ha : -9223372036854775808 ≤ at_ ∧ at_ ≤ 9223372036854775807) (hn : n = 1 ∨ n = 4 ∨ n = 8) :
    Calls Tryd.prog 45 #[.slice A m cap, .int .i64 at_, .int .i64 n, .bool code] w fun e w' => e = .returned (fndA (fndF at_ n code l 0)) ∧ Below w.heap.size w w' := by
  have HC := Aside0.mk (And.intro hc hr)
  clear hc hr
  obtain ⟨V, hV⟩ : ∃ V, fndF at_ n code l 0 = V := ⟨_, rfl⟩
  rw [hV]
  have HV := Aside0.mk hV
  clear hV
  go_enter Tryd.func45, Tryd.ntmps45
  go_wp2
  go_loopw [16] (fun i wr => ∃ k : Nat, k ≤ m ∧ i = .int .i64 k ∧ fndF at_ n code (l.drop k) k = V ∧ Below w.heap.size w wr) (fun i _ => m - (intOf i).toNat)
  case atStart => exact ⟨0, Nat.zero_le _, rfl, by rw [List.drop_zero]; exact HV.out, Below.refl _ _⟩
  case round =>
    obtain ⟨k, hk, rfl, hf, hbw⟩ := hrel
    have HW := Aside0.mk hbw
    by_cases hlt : k < m
    · obtain ⟨ad, rfl, hbk, d0, d1, d2⟩ := (HC.out.1.below hbw) k (by omega)
      have hlt2 : k < l.length := by omega
      rw [List.drop_eq_getElem_cons hlt2, fndF] at hf
      have hr := HC.out.2 l[k] (List.getElem_mem _)
      generalize l[k] = r at *
      have hW := fun W => Within r at_ n W hr.1 ha hn hr.2
      have HF := Aside0.mk hf
      obtain ⟨ra, rs, rc⟩ := r
      dsimp only at hW hf
      dsimp only at d0 d1 d2
      by_cases hcode : rc = code
      · subst hcode
        cases hin : inR (ra, rs, rc) at_ n
        · rw [hin] at hW
          simp only [Bool.false_eq_true, if_false] at hW
          have HWi := Aside0.mk hW
          have hf2 : fndF at_ n rc (l.drop (k + 1)) (k + 1) = V := by
            rw [if_neg (by rw [hin]; simp)] at hf
            exact hf
          clear HF
          have HF := Aside0.mk hf2
          clear hf2
          clear hW hf hbw hin hr
          go_wp2_with (go_at_call 66; (with_reducible refine (HWi.out _).mono ?_); rintro e w1 ⟨rfl, hb⟩; have H1 := Aside0.mk hb; clear hb)
          refine ⟨⟨k + 1, hlt, by simp, HF.out, ?_⟩, by simp [intOf]; omega⟩
          exact (HW.out.alloc HW.out.size _).trans (H1.out.mono (Nat.le_trans HW.out.size (by simp)))
        · rw [hin] at hW
          simp only [if_true] at hW
          rw [if_pos ⟨rfl, hin⟩] at hf
          have hk0 : ((at_ - ra).toNat : Int) = at_ - ra := by
            have := of_decide_eq_true hin
            dsimp only at this
            omega
          have HWi := Aside0.mk hW
          have HK := Aside0.mk hk0
          clear hW hbw hin hr HF
          subst hf
          go_wp2_with (go_at_call 66; (with_reducible refine (HWi.out _).mono ?_); rintro e w1 ⟨rfl, hb⟩; have H1 := Aside0.mk hb; clear hb)
          go_ret2
          exact ⟨by show _ = Ending.returned (.tuple #[.int .i64 k, .int .i64 ((at_ - ra).toNat : Int)]); rw [HK.out]; rfl, (HW.out.alloc HW.out.size _).trans (H1.out.mono (Nat.le_trans HW.out.size (by simp)))⟩
      · rw [if_neg (fun h => hcode h.1)] at hf
        have HF := Aside0.mk hf
        have hne : (rc == code) = false := beq_eq_false_iff_ne.mpr hcode
        have hne2 : (!(rc == code)) = true := by rw [hne]; rfl
        clear hW hf hbw hr
        go_wp2
        refine ⟨⟨k + 1, hlt, by simp, HF.out, HW.out.alloc HW.out.size _⟩, by simp [intOf]; omega⟩
    · obtain rfl : k = m := by omega
      rw [List.drop_eq_nil_of_le (by omega), fndF] at hf
      have HF := Aside0.mk hf
      clear hf
      go_wp2
      go_ret2
      exact ⟨by rw [← HF.out]; rfl, HW.out⟩
/-- a machine's value -/
abbrev mach (r0 r1 r2 r3 r4 r5 r6 r7 r8 r9 r10 r11 r12 r13 r14 r15 fz fs fc fo pc rg st : Value) : Value := .agg #[r0, r1, r2, r3, r4, r5, r6, r7, r8, r9, r10, r11, r12, r13, r14, r15, fz, fs, fc, fo, pc, rg, st]
theorem Size (n : Int) (w : World) : Calls Tryd.prog 44 #[.int .i64 n] w fun e w' => e = .returned (.bool (n == 4 || n == 8)) ∧ w = w' := by
  by_cases h4 : n = 4
  · subst h4
    go_enter Tryd.func44, Tryd.ntmps44
    go_wp2
    go_ret
    exact ⟨rfl, rfl⟩
  · by_cases h8 : n = 8
    · subst h8
      go_enter Tryd.func44, Tryd.ntmps44
      go_wp2
      go_ret
      exact ⟨rfl, rfl⟩
    · have e4 : (n == 4) = false := beq_eq_false_iff_ne.mpr h4
      have e8 : (n == 8) = false := beq_eq_false_iff_ne.mpr h8
      go_enter Tryd.func44, Tryd.ntmps44
      go_wp2
      go_ret
      exact ⟨by simp [e4, e8], rfl⟩
set_option maxHeartbeats 8000000 in
set_option maxRecDepth 100000 in
theorem Read_ok (l : List R3) (ad : Addr) (m cap : Nat) (at_ : Int) (N i k : Nat) (r0 r1 r2 r3 r4 r5 r6 r7 r8 r9 r10 r11 r12 r13 r14 r15 fz fs fc fo pc st : Value) (w : World) (hm : l.length = m) (hm2 : m ≤ 9223372036854775807) (hc : CellsR w (some ad) l) (hr : ∀ r ∈ l, OkR r)
    (ha : -9223372036854775808 ≤ at_ ∧ at_ ≤ 9223372036854775807) (hN : N = 4 ∨ N = 8) (hf : fndF at_ N false l 0 = some (i, k)) (hi : i < l.length) (s : ByteArray) (hs : l[i].2.1 = s) (hk : k + N ≤ s.size) :
    Calls Tryd.prog 17 #[mach r0 r1 r2 r3 r4 r5 r6 r7 r8 r9 r10 r11 r12 r13 r14 r15 fz fs fc fo pc (.slice (some ad) m cap) st, .int .i64 at_, .int .i64 N] w fun e w' => e = .returned (.tuple #[.int .i64 (wrap64 (le (((bl s).drop k).take N))), .bool true]) ∧ Below w.heap.size w w' := by
  have hF := fun W (hb : Below w.heap.size w W) => Find l (some ad) m cap at_ N false W hm hm2 (hc.below hb) hr ha (by omega)
  rw [hf, show fndA (some (i, k)) = .tuple #[.int .i64 i, .int .i64 k] from rfl] at hF
  have HF := Aside0.mk hF
  have HS := Aside0.mk (fun W => Size N W)
  have hsz : ((N : Int) == 4 || (N : Int) == 8) = true := by rcases hN with rfl | rfl <;> rfl
  rw [hsz] at HS
  have HC := Aside0.mk (And.intro hc (And.intro hm (And.intro hi hs)))
  have hss : s.size ≤ 9223372036854775000 := by rw [← hs]; exact (hr l[i] (List.getElem_mem _)).2
  clear hF hf hsz hc hr hs
  have hi2 : i < m := by omega
  have hsl := fun W => slice_mid (P := Tryd.prog) 9 Tryd.underlying9 s k (k + N) (k : Int) ((k : Int) + (N : Int)) rfl (by omega) (by omega) hk W
  have hcv := fun W => Lib.run_convert_string_bytes (P := Tryd.prog) W 9 49 5 (s.extract k (k + N)) Tryd.underlying9 Tryd.underlying49 Tryd.underlying5
  go_enter Tryd.func17, Tryd.ntmps17
  go_wp2_with (first
    | (go_at_call 44; (with_reducible refine (HS.out _).mono ?_); rintro e w1 ⟨rfl, rfl⟩)
    | (go_at_call 45; (with_reducible refine (HF.out _ (below_alloc (Below.refl _ _) _)).mono ?_); rintro e w1 ⟨rfl, hb⟩; have X1 := blk_below (blk_new w (.cells #[r0, r1, r2, r3, r4, r5, r6, r7, r8, r9, r10, r11, r12, r13, r14, r15, fz, fs, fc, fo, pc, .slice (some ad) m cap, st] 27)) hb; have B1 := (below_alloc (Below.refl w.heap.size w) _).trans (hb.mono (by simp)); obtain ⟨ad2, e2, hbk, d0, d1, d2⟩ := (HC.out.1.below B1) i HC.out.2.2.1; obtain rfl := Option.some.inj e2; have H1 := Aside0.mk B1; have y3 := blk_cell X1 21; simp at y3; rw [HC.out.2.2.2] at d1; clear hb B1 d0 d2 e2 X1))
  obtain ⟨WB, hWB⟩ : ∃ W, Lib.bytesWorld w1 5 (s.extract k (k + N)) = W := ⟨_, rfl⟩
  have hrow := Row.of_string w1 (s.extract k (k + N))
  have hbw := bytes_below H1.out H1.out.size 5 (s.extract k (k + N))
  have hB : bl (s.extract k (k + N)) = ((bl s).drop k).take N := by rw [bl_extract, Nat.add_sub_cancel_left]
  have hBl : (((bl s).drop k).take N).length = N := by rw [List.length_take, List.length_drop, bl_length]; omega
  have hBb : ∀ b ∈ ((bl s).drop k).take N, 0 ≤ b ∧ b < 256 := fun b h => bl_bytes s b (List.mem_of_mem_drop (List.mem_of_mem_take h))
  have hez : (s.extract k (k + N)).size = N := by rw [ByteArray.size_extract]; omega
  rw [hWB] at hrow hbw ⊢
  rw [hB] at hrow
  obtain ⟨B, hBB⟩ : ∃ B, ((bl s).drop k).take N = B := ⟨_, rfl⟩
  rw [hBB] at hrow hBl hBb
  have HB := Aside0.mk (And.intro hrow (And.intro hbw (And.intro hBl hBb)))
  have HBB := Aside0.mk hBB
  clear hWB hB hBl hBb hrow hbw hcv hsl d1 y3 hBB
  go_loopw [10, 39] (fun v c wx => ∃ j : Nat, j ≤ N ∧ c = .int .i64 j ∧ v = .int .i64 (wrap64 (le (B.take j))) ∧ wx = WB) (fun _ c _ => N - (intOf c).toNat)
  case atStart => exact ⟨0, Nat.zero_le _, rfl, by simp [le, wrap64], rfl⟩
  case round =>
    obtain ⟨j, hj, rfl, rfl, rfl⟩ := hrel
    by_cases hlt : j < N
    · have hck := (HB.out.1.2 j (by rw [HB.out.2.2.1]; exact hlt)).1
      have hst := le_step B j (by omega) (by rw [HB.out.2.2.1]; exact hlt) HB.out.2.2.2
      have hbd := HB.out.2.2.2 (B.getD j 0) (by rw [List.getD_eq_getElem?_getD, List.getElem?_eq_getElem (by rw [HB.out.2.2.1]; exact hlt)]; exact List.getElem_mem _)
      have HST := Aside0.mk hst
      clear hst
      have hw : wrap64 (B.getD j 0) = B.getD j 0 := by unfold wrap64; omega
      have HWR := Aside0.mk hw
      clear hw
      go_wp2
      refine ⟨⟨j + 1, hlt, by simp, ?_, by first | rfl | trivial⟩, by simp [intOf]; omega⟩
      rw [← List.getD_eq_getElem?_getD, HWR.out, HST.out]
    · obtain rfl : j = N := by omega
      have hall : B.take j = B := List.take_of_length_le (by rw [HB.out.2.2.1]; exact Nat.le_refl _)
      rw [hall]
      go_wp2
      go_ret2
      exact ⟨by rw [HBB.out]; rfl, HB.out.2.1⟩
set_option maxHeartbeats 8000000 in
set_option maxRecDepth 100000 in
theorem Read_no (l : List R3) (A : Option Addr) (m cap : Nat) (at_ : Int) (N : Nat) (r0 r1 r2 r3 r4 r5 r6 r7 r8 r9 r10 r11 r12 r13 r14 r15 fz fs fc fo pc st : Value) (w : World) (hm : l.length = m) (hm2 : m ≤ 9223372036854775807) (hc : CellsR w A l) (hr : ∀ r ∈ l, OkR r)
    (ha : -9223372036854775808 ≤ at_ ∧ at_ ≤ 9223372036854775807) (hN : N = 4 ∨ N = 8) (hf : fndF at_ N false l 0 = none) :
    Calls Tryd.prog 17 #[mach r0 r1 r2 r3 r4 r5 r6 r7 r8 r9 r10 r11 r12 r13 r14 r15 fz fs fc fo pc (.slice A m cap) st, .int .i64 at_, .int .i64 N] w fun e w' => e = .returned (.tuple #[.int .i64 0, .bool false]) ∧ Below w.heap.size w w' := by
  have hF := fun W (hb : Below w.heap.size w W) => Find l A m cap at_ N false W hm hm2 (hc.below hb) hr ha (by omega)
  rw [hf, show fndA none = .tuple #[.int .i64 (-1), .int .i64 0] from rfl] at hF
  have HF := Aside0.mk hF
  have HS := Aside0.mk (fun W => Size N W)
  have hsz : ((N : Int) == 4 || (N : Int) == 8) = true := by rcases hN with rfl | rfl <;> rfl
  rw [hsz] at HS
  clear hF hf hsz hc hr
  go_enter Tryd.func17, Tryd.ntmps17
  go_wp2_with (first
    | (go_at_call 44; (with_reducible refine (HS.out _).mono ?_); rintro e w1 ⟨rfl, rfl⟩)
    | (go_at_call 45; (with_reducible refine (HF.out _ (below_alloc (Below.refl _ _) _)).mono ?_); rintro e w1 ⟨rfl, hb⟩; have H1 := Aside0.mk ((below_alloc (Below.refl w.heap.size w) _).trans (hb.mono (by simp))); clear hb))
  go_ret2
  exact ⟨rfl, H1.out⟩
/-- the number of eight bytes -/
theorem le_bytesOf8 (v : Int) (h : -9223372036854775808 ≤ v ∧ v ≤ 9223372036854775807) : wrap64 (le (bytesOf v 8)) = v := by
  simp only [bytesOf, le]
  unfold wrap64
  omega
end Go.Proofs.YtgaiehnbjggmdaaDoor.F
