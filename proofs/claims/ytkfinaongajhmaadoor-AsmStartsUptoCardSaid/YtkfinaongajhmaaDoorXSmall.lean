/- The small functions of the machine's instructions: what the program's compute. No condition but that the table of conditions holds what the program's text lays. -/
import Derived.Test.YtkfinaongajhmaaDoorProg
import Derived.Test.YtkfinaongajhmaaDoorXW
import Derived.Test.YtkfinaongajhmaaDoorXMath
import Derived.Test.YtkfinaongajhmaaDoorBuilder
import Derived.WalkKit
import Derived.BigCall
import Derived.LoopTactic
import Derived.LoopN
import Derived.Outline
namespace Go.Proofs.YtkfinaongajhmaaDoor.X
open Go.Ob Go.Ob.Xc Go.RowKit Go.Proofs.YtkfinaongajhmaaDoorW.PrintWords Go.Proofs.YtkfinaongajhmaaDoorW.PrintMore
attribute [local go_sem] max2_int min2_int max_two min_two
set_option linter.unusedVariables false
set_option linter.unusedSimpArgs false
/-- an instruction of the machine, as a value -/
abbrev xv (x : XI) : Value := .agg #[.int .i64 x.op, .bool x.wide, .int .i64 x.r, .int .i64 x.b, .int .i64 x.i, .int .i64 x.c, .int .i64 x.n]
theorem rex_bits (wd : Bool) (r i b : Int) (hr : 0 ≤ r ∧ r ≤ 15) (hi : 0 ≤ i ∧ i ≤ 15) (hb : 0 ≤ b ∧ b ≤ 15) :
    (if wd = true then Go.bits .or .i64 (Go.bits .or .i64 (Go.bits .or .i64 (Go.bits .or .i64 64 (wrap64 ((r / 8) * 4))) (wrap64 ((i / 8) * 2))) (b / 8)) 8 else Go.bits .or .i64 (Go.bits .or .i64 (Go.bits .or .i64 64 (wrap64 ((r / 8) * 4))) (wrap64 ((i / 8) * 2))) (b / 8)) = rexN wd r i b := by
  have H : ∀ (wd : Bool) (r i b : Fin 2), (if wd = true then Go.bits .or .i64 (Go.bits .or .i64 (Go.bits .or .i64 (Go.bits .or .i64 64 (wrap64 ((r.val : Int) * 4))) (wrap64 ((i.val : Int) * 2))) (b.val : Int)) 8 else Go.bits .or .i64 (Go.bits .or .i64 (Go.bits .or .i64 64 (wrap64 ((r.val : Int) * 4))) (wrap64 ((i.val : Int) * 2))) (b.val : Int)) = 64 + (if wd then 8 else 0) + 4 * (r.val : Int) + 2 * (i.val : Int) + (b.val : Int) := by decide +kernel
  have h := H wd ⟨(r / 8).toNat, by omega⟩ ⟨(i / 8).toNat, by omega⟩ ⟨(b / 8).toNat, by omega⟩
  simp only [Int.toNat_of_nonneg (show 0 ≤ r / 8 by omega), Int.toNat_of_nonneg (show 0 ≤ i / 8 by omega), Int.toNat_of_nonneg (show 0 ≤ b / 8 by omega)] at h
  exact h
def rexI (w : Bool) (r i b : Int) : Int := if rexN w r i b = 64 then -1 else rexN w r i b
set_option maxHeartbeats 4000000 in
set_option maxRecDepth 100000 in
theorem Rex (wd : Bool) (r i b : Int) (w : World) (hr : 0 ≤ r ∧ r ≤ 15) (hi : 0 ≤ i ∧ i ≤ 15) (hb : 0 ≤ b ∧ b ≤ 15) :
    Calls Tryd.prog 32 #[.bool wd, .int .i64 r, .int .i64 i, .int .i64 b] w fun e w' => e = .returned (.int .i64 (rexI wd r i b)) ∧ w = w' := by
  have h := rex_bits wd r i b hr hi hb
  unfold rexI
  rw [← h]
  clear h hr hi hb
  cases wd with
  | true =>
    rw [if_pos rfl]
    by_cases c : Go.bits .or .i64 (Go.bits .or .i64 (Go.bits .or .i64 (Go.bits .or .i64 64 (wrap64 ((r / 8) * 4))) (wrap64 ((i / 8) * 2))) (b / 8)) 8 = 64
    · rw [if_pos c]
      have c1 := beq_iff_eq.mpr c
      clear c
      go_enter Tryd.func32, Tryd.ntmps32
      go_wp2
      go_ret
      exact ⟨rfl, rfl⟩
    · rw [if_neg c]
      have c1 := beq_eq_false_iff_ne.mpr c
      clear c
      go_enter Tryd.func32, Tryd.ntmps32
      go_wp2
      go_ret
      exact ⟨rfl, rfl⟩
  | false =>
    simp only [Bool.false_eq_true, if_false]
    by_cases c : Go.bits .or .i64 (Go.bits .or .i64 (Go.bits .or .i64 64 (wrap64 ((r / 8) * 4))) (wrap64 ((i / 8) * 2))) (b / 8) = 64
    · rw [if_pos c]
      have c1 := beq_iff_eq.mpr c
      clear c
      go_enter Tryd.func32, Tryd.ntmps32
      go_wp2
      go_ret
      exact ⟨rfl, rfl⟩
    · rw [if_neg c]
      have c1 := beq_eq_false_iff_ne.mpr c
      clear c
      go_enter Tryd.func32, Tryd.ntmps32
      go_wp2
      go_ret
      exact ⟨rfl, rfl⟩
theorem mr_bits (m r b : Int) (hm : 0 ≤ m ∧ m ≤ 3) : Go.bits .or .i64 (Go.bits .or .i64 (wrap64 (m * 64)) (wrap64 ((Go.bits .and .i64 r 7) * 8))) (Go.bits .and .i64 b 7) = mr m r b := by
  have hr := and_mask r 3 (by decide)
  have hb := and_mask b 3 (by decide)
  rw [show ((2 : Int) ^ 3 - 1) = 7 by decide, show ((2 : Int) ^ 3) = 8 by decide] at hr hb
  rw [hr, hb]
  have H : ∀ (m : Fin 4) (r b : Fin 8), Go.bits .or .i64 (Go.bits .or .i64 (wrap64 ((m.val : Int) * 64)) (wrap64 ((r.val : Int) * 8))) (b.val : Int) = 64 * (m.val : Int) + 8 * (r.val : Int) + (b.val : Int) := by decide +kernel
  have h := H ⟨m.toNat, by omega⟩ ⟨(r % 8).toNat, by omega⟩ ⟨(b % 8).toNat, by omega⟩
  simp only [Int.toNat_of_nonneg hm.1, Int.toNat_of_nonneg (show 0 ≤ r % 8 by omega), Int.toNat_of_nonneg (show 0 ≤ b % 8 by omega)] at h
  unfold mr
  exact h
set_option maxHeartbeats 4000000 in
theorem Mr (m r b : Int) (w : World) (hm : 0 ≤ m ∧ m ≤ 3) :
    Calls Tryd.prog 33 #[.int .i64 m, .int .i64 r, .int .i64 b] w fun e w' => e = .returned (.int .i64 (mr m r b)) ∧ w = w' := by
  rw [← mr_bits m r b hm]
  clear hm
  go_enter Tryd.func33, Tryd.ntmps33
  go_wp2
  go_ret
  exact ⟨rfl, rfl⟩
theorem word_wrap (n : Int) : (n == wrap64 (wrap32 n)) = word n := by
  have h : n = wrap64 (wrap32 n) ↔ (-2147483648 ≤ n ∧ n ≤ 2147483647) := by
    unfold wrap64 wrap32
    omega
  unfold word
  by_cases hb : -2147483648 ≤ n ∧ n ≤ 2147483647
  · rw [decide_eq_true hb, beq_iff_eq]
    exact h.mpr hb
  · rw [decide_eq_false hb, beq_eq_false_iff_ne]
    exact fun e => hb (h.mp e)
set_option maxHeartbeats 4000000 in
theorem Word (n : Int) (w : World) (hn : -9223372036854775808 ≤ n ∧ n ≤ 9223372036854775807) :
    Calls Tryd.prog 59 #[.int .i64 n] w fun e w' => e = .returned (.bool (word n)) ∧ w = w' := by
  rw [← word_wrap]
  clear hn
  go_enter Tryd.func59, Tryd.ntmps59
  go_wp2
  go_ret
  exact ⟨rfl, rfl⟩
theorem Reg (n : Int) (w : World) : Calls Tryd.prog 57 #[.int .i64 n] w fun e w' => e = .returned (.bool (reg n)) ∧ w = w' := by
  unfold reg
  have : n < 0 ∨ 16 ≤ n ∨ (0 ≤ n ∧ n < 16) := by omega
  rcases this with h | h | ⟨h, h'⟩
  · rw [decide_eq_false (by omega)]
    go_enter Tryd.func57, Tryd.ntmps57
    go_wp2
    go_ret
    exact ⟨rfl, rfl⟩
  · rw [decide_eq_false (by omega)]
    have h0 : 0 ≤ n := by omega
    have e : decide (n < 16) = false := decide_eq_false (by omega)
    go_enter Tryd.func57, Tryd.ntmps57
    go_wp2
    go_ret
    exact ⟨rfl, rfl⟩
  · rw [decide_eq_true (by omega)]
    go_enter Tryd.func57, Tryd.ntmps57
    go_wp2
    go_ret
    exact ⟨rfl, rfl⟩
/-- the cells of an instruction -/
abbrev xo (x : XI) : Obj := .cells #[.int .i64 x.op, .bool x.wide, .int .i64 x.r, .int .i64 x.b, .int .i64 x.i, .int .i64 x.c, .int .i64 x.n] 23
set_option maxHeartbeats 4000000 in
theorem Plain (o : Int) (wd : Bool) (r b i c n : Int) (w : World) : Calls Tryd.prog 58 #[xv ⟨o, wd, r, b, i, c, n⟩] w fun e w' => e = .returned (xv ⟨o, wd, 0, 0, 0, 0, 0⟩) ∧ w' = (w.alloc (.cells #[.int .i64 o, .bool wd, .int .i64 r, .int .i64 b, .int .i64 i, .int .i64 c, .int .i64 n] 23)).alloc (.cells #[.int .i64 o, .bool wd, .int .i64 0, .int .i64 0, .int .i64 0, .int .i64 0, .int .i64 0] 23) := by
  go_enter Tryd.func58, Tryd.ntmps58
  go_wp2
  exact bodyPost_ret (v := xv ⟨o, wd, 0, 0, 0, 0, 0⟩) (by simp [results, Tryd.results58, go_sem]) rfl ⟨rfl, rfl⟩
/-- the table of conditions, as the text lays it -/
def Tab (w : World) : Prop := ∀ i : Nat, i < 16 → w.cell? ⟨0, i, none⟩ = some (.bool (cnd i))
theorem Tab.below {w w' : World} (h : Tab w) (hb : Below w.heap.size w w') : Tab w' := fun i hi => pw_cell_below hb (h i hi)
set_option maxHeartbeats 4000000 in
theorem Cond (c : Int) (w : World) (ht : Tab w) : Calls Tryd.prog 61 #[.int .i64 c] w fun e w' => e = .returned (.bool (cnd c)) ∧ w = w' := by
  have : c < 0 ∨ 16 ≤ c ∨ (0 ≤ c ∧ c < 16) := by omega
  rcases this with h | h | ⟨h, h'⟩
  · have hc : cnd c = false := by unfold cnd; exact decide_eq_false (by omega)
    rw [hc]
    clear hc ht
    go_enter Tryd.func61, Tryd.ntmps61
    go_wp2
    go_ret
    exact ⟨rfl, rfl⟩
  · have hc : cnd c = false := by unfold cnd; exact decide_eq_false (by omega)
    rw [hc]
    have h0 : 0 ≤ c := by omega
    have e : decide (c < 16) = false := decide_eq_false (by omega)
    clear hc ht
    go_enter Tryd.func61, Tryd.ntmps61
    go_wp2
    go_ret
    exact ⟨rfl, rfl⟩
  · obtain ⟨i, rfl⟩ := Int.eq_ofNat_of_zero_le h
    have hi : i < 16 := by omega
    have hcell := ht i hi
    have e : decide ((i : Int) < 16) = true := decide_eq_true (by omega)
    clear ht h h'
    generalize cnd i = q at hcell ⊢
    go_enter Tryd.func61, Tryd.ntmps61
    go_wp2
    go_ret
    exact ⟨rfl, rfl⟩
set_option maxHeartbeats 4000000 in
theorem Prefix (s p : ByteArray) (w : World) (hs : s.size ≤ 9223372036854775807) (hp : p.size ≤ 9223372036854775807) :
    Calls Tryd.prog 49 #[.string s, .string p] w fun e w' => e = .returned (.bool (decide (bl p <+: bl s))) ∧ w = w' := by
  by_cases h : p.size ≤ s.size
  · have h2 : decide (bl p <+: bl s) = (s.extract 0 p.size == p) := by
      rw [beq_toListBytes, Bool.eq_iff_iff, decide_eq_true_iff, beq_iff_eq, toList_iff, bl_extract, List.prefix_iff_eq_take, bl_length]
      simp only [List.drop_zero, Nat.sub_zero]
      exact eq_comm
    rw [h2]
    clear h2
    go_enter Tryd.func49, Tryd.ntmps49
    go_wp2
    go_ret
    exact ⟨by rw [beq_toListBytes]; rfl, rfl⟩
  · have h2 : decide (bl p <+: bl s) = false := by
      apply decide_eq_false
      intro hh
      have := hh.length_le
      rw [bl_length, bl_length] at this
      omega
    rw [h2]
    clear h2
    go_enter Tryd.func49, Tryd.ntmps49
    go_wp2
    go_ret
    exact ⟨rfl, rfl⟩
/-- where something stands, or a number below nought -/
def SomeAt (L : List Int) (v : Int) (w : World) (e : Ending) (w' : World) : Prop := ∃ r : Int, e = .returned (.int .i64 r) ∧ decide (0 ≤ r) = decide (v ∈ L) ∧ w = w'
set_option maxHeartbeats 4000000 in
theorem Index (L : List Int) (A : Option Addr) (n cap : Nat) (v : Int) (w : World) (hr : ReadsInt w .i64 A n L) (hl : L.length = n) (hn : n ≤ 9223372036854775807) :
    Calls Tryd.prog 71 #[.slice A n cap, .int .i64 v] w (SomeAt L v w) := by
  obtain ⟨hl', hm, hc⟩ := hr
  have HL := Aside0.mk hl
  clear hl' hm hl
  go_enter Tryd.func71, Tryd.ntmps71
  go_wp2
  go_loop [5, 8] (fun _ i => ∃ k : Nat, k ≤ n ∧ i = .int .i64 k ∧ v ∉ L.take k) (fun _ i => n - (intOf i).toNat)
  case atStart => exact ⟨0, Nat.zero_le _, rfl, by simp⟩
  case round =>
    obtain ⟨k, hk, rfl, hno⟩ := hrel
    have HN := Aside0.mk hno
    clear hno
    by_cases hlt : k < n
    · obtain ⟨ad, hA, hcell⟩ := hc (by omega)
      subst hA
      have hck := hcell k hlt
      have hts : L.take (k + 1) = L.take k ++ [L.getD k 0] := by
        rw [List.take_succ_eq_append_getElem (by rw [HL.out]; exact hlt), List.getD_eq_getElem?_getD, List.getElem?_eq_getElem (by rw [HL.out]; exact hlt)]
        rfl
      have hin : L.getD k 0 ∈ L := by
        rw [List.getD_eq_getElem?_getD, List.getElem?_eq_getElem (by rw [HL.out]; exact hlt)]
        exact List.getElem_mem _
      have HT := Aside0.mk (And.intro hts hin)
      clear hcell hts hc hin
      generalize L.getD k 0 = x at *
      by_cases hv : v = x
      · subst hv
        go_wp2
        go_ret
        exact ⟨k, rfl, by rw [decide_eq_true (show (0 : Int) ≤ k by omega), decide_eq_true HT.out.2], rfl⟩
      · have hv1 : (v == x) = false := beq_eq_false_iff_ne.mpr hv
        have HV := Aside0.mk hv
        clear hv
        go_wp2
        go_round
        case rel => exact ⟨k + 1, hlt, rfl, by rw [HT.out.1]; simp only [List.mem_append, List.mem_singleton, not_or]; exact ⟨HN.out, HV.out⟩⟩
        case measure => simp [intOf]; omega
    · obtain rfl : k = n := by omega
      have hall := HN.out
      rw [List.take_of_length_le (by rw [HL.out]; exact Nat.le_refl _)] at hall
      have HA := Aside0.mk hall
      clear hall hc
      go_wp2
      go_ret
      exact ⟨-1, rfl, by rw [decide_eq_false (by decide), decide_eq_false HA.out], rfl⟩
set_option maxHeartbeats 4000000 in
theorem Contains (L : List Int) (A : Option Addr) (n cap : Nat) (v : Int) (w : World) (hr : ReadsInt w .i64 A n L) (hl : L.length = n) (hn : n ≤ 9223372036854775807) :
    Calls Tryd.prog 60 #[.slice A n cap, .int .i64 v] w fun e w' => e = .returned (.bool (decide (v ∈ L))) ∧ w = w' := by
  have hI := Index L A n cap v w hr hl hn
  have HI := Aside0.mk hI
  clear hI hr
  go_enter Tryd.func60, Tryd.ntmps60
  go_wp2_with (first
    | (go_at_call 71; (with_reducible refine HI.out.mono ?_); rintro e w1 ⟨r, rfl, hd, rfl⟩; have HD := Aside0.mk hd; clear hd))
  go_ret
  exact ⟨by simp; exact decide_eq_decide.mp HD.out, rfl⟩
/-- a way out by one exit alone: the nested blocks of a switch, left by laws and not by reckoning -/
def ExAt (k : Nat) (R : Act → World → Prop) (e : Exit) (a : Act) (w : World) : Prop := e = .exit k ∧ R a w
theorem mono0 {P : Program} {c : Code} {a : Act} {w : World} {Q : Exit → Act → World → Prop} {k : Nat} {R : Act → World → Prop} (hq : ∀ a w, R a w → Q (.exit k) a w) (h : c.wp P (ExAt k R) a w) : c.wp P Q a w :=
  Code.wp_mono (fun e a w q => by obtain ⟨rfl, hr⟩ := q; exact hq a w hr) h
theorem then_out {K : Act → World → Prop} {Q : Exit → Act → World → Prop} {j : Nat} {a : Act} {w : World} (h : Q (.exit j) a w) : Exit.then K Q (.exit j) a w := h
theorem then_in {K : Act → World → Prop} {Q : Exit → Act → World → Prop} {a : Act} {w : World} (h : K a w) : Exit.then K Q .normal a w := h
theorem block_out {id j : Nat} {Q : Exit → Act → World → Prop} {a : Act} {w : World} (hj : j ≠ id) (h : Q (.exit j) a w) : Exit.inBlock id Q (.exit j) a w := by
  show (if j = id then Q .normal a w else Q (.exit j) a w)
  rw [if_neg hj]
  exact h
theorem block_in {id : Nat} {Q : Exit → Act → World → Prop} {a : Act} {w : World} (h : Q .normal a w) : Exit.inBlock id Q (.exit id) a w := by
  show (if id = id then Q .normal a w else Q (.exit id) a w)
  rw [if_pos rfl]
  exact h
/-- a block with one cell written, its cells written out -/
theorem blk_put {W : World} {g : Nat} {cs : Array Value} {t : TypeId} (h : W.heap[g]? = some (.cells cs t (0, 0))) (k : Nat) (v : Value) (cs' : Array Value) (hc : cs.setIfInBounds k v = cs') :
    (W.setCell ⟨g, k, none⟩ v).heap[g]? = some (.cells cs' t (0, 0)) := by
  rw [← hc]
  exact blk_set h k v
/-- a block of seven cells, all written anew -/
theorem row7 {W : World} {g : Nat} {a0 a1 a2 a3 a4 a5 a6 : Value} {t : TypeId} (h : W.heap[g]? = some (.cells #[a0, a1, a2, a3, a4, a5, a6] t (0, 0))) (v0 v1 v2 v3 v4 v5 v6 : Value) :
    (((((((W.setCell ⟨g, 0, none⟩ v0).setCell ⟨g, 1, none⟩ v1).setCell ⟨g, 2, none⟩ v2).setCell ⟨g, 3, none⟩ v3).setCell ⟨g, 4, none⟩ v4).setCell ⟨g, 5, none⟩ v5).setCell ⟨g, 6, none⟩ v6).heap[g]? = some (.cells #[v0, v1, v2, v3, v4, v5, v6] t (0, 0)) := by
  have h0 := blk_put h 0 v0 #[v0, a1, a2, a3, a4, a5, a6] rfl
  have h1 := blk_put h0 1 v1 #[v0, v1, a2, a3, a4, a5, a6] rfl
  have h2 := blk_put h1 2 v2 #[v0, v1, v2, a3, a4, a5, a6] rfl
  have h3 := blk_put h2 3 v3 #[v0, v1, v2, v3, a4, a5, a6] rfl
  have h4 := blk_put h3 4 v4 #[v0, v1, v2, v3, v4, a5, a6] rfl
  have h5 := blk_put h4 5 v5 #[v0, v1, v2, v3, v4, v5, a6] rfl
  have h6 := blk_put h5 6 v6 #[v0, v1, v2, v3, v4, v5, v6] rfl
  exact h6
theorem below7 {B : Nat} {w W : World} {g : Nat} (hg : B ≤ g) (h : Below B w W) (v0 v1 v2 v3 v4 v5 v6 : Value) :
    Below B w (((((((W.setCell ⟨g, 0, none⟩ v0).setCell ⟨g, 1, none⟩ v1).setCell ⟨g, 2, none⟩ v2).setCell ⟨g, 3, none⟩ v3).setCell ⟨g, 4, none⟩ v4).setCell ⟨g, 5, none⟩ v5).setCell ⟨g, 6, none⟩ v6) :=
  ((((((h.setCell (p := ⟨g, 0, none⟩) hg v0).setCell (p := ⟨g, 1, none⟩) hg v1).setCell (p := ⟨g, 2, none⟩) hg v2).setCell (p := ⟨g, 3, none⟩) hg v3).setCell (p := ⟨g, 4, none⟩) hg v4).setCell (p := ⟨g, 5, none⟩) hg v5).setCell (p := ⟨g, 6, none⟩) hg v6
theorem cell7 {W : World} {g : Nat} {a0 a1 a2 a3 a4 a5 a6 : Value} {t : TypeId} (h : W.heap[g]? = some (.cells #[a0, a1, a2, a3, a4, a5, a6] t (0, 0))) : (W.cell? ⟨g, 0, none⟩ = some a0 ∧ W.cell? ⟨g, 1, none⟩ = some a1 ∧ W.cell? ⟨g, 2, none⟩ = some a2 ∧ W.cell? ⟨g, 3, none⟩ = some a3 ∧ W.cell? ⟨g, 4, none⟩ = some a4 ∧ W.cell? ⟨g, 5, none⟩ = some a5 ∧ W.cell? ⟨g, 6, none⟩ = some a6) :=
  ⟨by simpa using blk_cell h 0, by simpa using blk_cell h 1, by simpa using blk_cell h 2, by simpa using blk_cell h 3, by simpa using blk_cell h 4, by simpa using blk_cell h 5, by simpa using blk_cell h 6⟩
theorem froz7 {W : World} {g : Nat} {a0 a1 a2 a3 a4 a5 a6 : Value} {t : TypeId} (h : W.heap[g]? = some (.cells #[a0, a1, a2, a3, a4, a5, a6] t (0, 0))) : (W.frozen? ⟨g, 0, none⟩ = false ∧ W.frozen? ⟨g, 1, none⟩ = false ∧ W.frozen? ⟨g, 2, none⟩ = false ∧ W.frozen? ⟨g, 3, none⟩ = false ∧ W.frozen? ⟨g, 4, none⟩ = false ∧ W.frozen? ⟨g, 5, none⟩ = false ∧ W.frozen? ⟨g, 6, none⟩ = false) :=
  ⟨blk_frozen h 0, blk_frozen h 1, blk_frozen h 2, blk_frozen h 3, blk_frozen h 4, blk_frozen h 5, blk_frozen h 6⟩
theorem open5 (w : World) (x z p : XI) : ∃ W y q, ((((w.alloc (xo x)).alloc (xo z)).alloc (xo x)).alloc (xo p)).alloc (xo p) = W ∧ w.heap.size + 1 + 1 + 1 + 1 = y ∧ w.heap.size + 1 = q ∧
    (¬ w.heap.size = y) ∧ (¬ y = w.heap.size) ∧ (¬ q = y) ∧ (¬ y = q) ∧ (¬ q = w.heap.size) ∧ w.heap.size ≤ q ∧ w.heap.size ≤ y ∧
    Aside0 (W.heap[w.heap.size]? = some (xo x) ∧ W.heap[q]? = some (xo z) ∧ W.heap[y]? = some (xo p) ∧ Below w.heap.size w W) := by
  refine ⟨_, _, _, rfl, rfl, rfl, by omega, by omega, by omega, by omega, by omega, by omega, by omega, ⟨?_, ?_, ?_, ?_⟩⟩
  · exact blk_alloc (blk_alloc (blk_alloc (blk_alloc (blk_new w (xo x)) (xo z)) (xo x)) (xo p)) (xo p)
  · have h := blk_alloc (blk_alloc (blk_alloc (blk_new (w.alloc (xo x)) (xo z)) (xo x)) (xo p)) (xo p)
    simpa only [World.size_alloc] using h
  · have h := blk_new ((((w.alloc (xo x)).alloc (xo z)).alloc (xo x)).alloc (xo p)) (xo p)
    simpa only [World.size_alloc] using h
  · exact below_alloc (below_alloc (below_alloc (below_alloc (below_alloc (Below.refl w.heap.size w) (xo x)) (xo z)) (xo x)) (xo p)) (xo p)
theorem reads_new (W : World) (xs : List Int) (n : Nat) (hn : xs.length = n) (hm : n ≤ 9223372036854775807) : ReadsInt (W.alloc (.cells (xs.map (Value.int .i64)).toArray 3)) .i64 (some ⟨W.heap.size, 0, none⟩) n xs := by
  refine ⟨hn, hm, fun _ => ⟨_, rfl, fun j hj => ?_⟩⟩
  have e : (⟨W.heap.size, 0, none⟩ : Addr).add j = ⟨W.heap.size, j, none⟩ := by
    unfold Addr.add
    split
    · rename_i h; subst h; rfl
    · simp
  rw [e, blk_cell (blk_new W _) j]
  simp [List.getD_eq_getElem?_getD, List.getElem?_eq_getElem (show j < xs.length by omega)]
theorem alu_mem (c : Int) : decide (c ∈ [0, 1, 4, 5, 6, 7]) = alu c := by
  unfold alu
  rw [decide_eq_decide]
  simp only [List.mem_cons, List.not_mem_nil, or_false]
  omega
theorem alu_mem' (c : Int) : decide (c ∈ [0, 1, 4, 5, 7]) = shf c := by
  unfold shf
  rw [decide_eq_decide]
  simp only [List.mem_cons, List.not_mem_nil, or_false]
theorem HasAlu (c : Int) (W : World) : Calls Tryd.prog 60 #[.slice (some ⟨W.heap.size, 0, none⟩) 6 6, .int .i64 c] (W.alloc (.cells #[.int .i64 0, .int .i64 1, .int .i64 4, .int .i64 5, .int .i64 6, .int .i64 7] 3)) fun e w' => e = .returned (.bool (alu c)) ∧ (W.alloc (.cells #[.int .i64 0, .int .i64 1, .int .i64 4, .int .i64 5, .int .i64 6, .int .i64 7] 3)) = w' := by
  rw [← alu_mem]
  exact Contains [0, 1, 4, 5, 6, 7] _ 6 6 c _ (reads_new W [0, 1, 4, 5, 6, 7] 6 rfl (by decide)) rfl (by decide)
theorem HasShf (c : Int) (W : World) : Calls Tryd.prog 60 #[.slice (some ⟨W.heap.size, 0, none⟩) 5 5, .int .i64 c] (W.alloc (.cells #[.int .i64 0, .int .i64 1, .int .i64 4, .int .i64 5, .int .i64 7] 3)) fun e w' => e = .returned (.bool (shf c)) ∧ (W.alloc (.cells #[.int .i64 0, .int .i64 1, .int .i64 4, .int .i64 5, .int .i64 7] 3)) = w' := by
  rw [← alu_mem']
  exact Contains [0, 1, 4, 5, 7] _ 5 5 c _ (reads_new W [0, 1, 4, 5, 7] 5 rfl (by decide)) rfl (by decide)
end Go.Proofs.YtkfinaongajhmaaDoor.X
