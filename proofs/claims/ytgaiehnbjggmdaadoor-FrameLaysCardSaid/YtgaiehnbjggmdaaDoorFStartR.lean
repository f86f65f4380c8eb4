/- A machine that begins: the reference's function. No condition but that numbers and lengths are those of the language. -/
import Derived.Test.YtgaiehnbjggmdaaDoorFStartRP
import Derived.Deep.RegionWith
namespace Go.Proofs.YtgaiehnbjggmdaaDoor.F
open Go.Ob Go.RowKit Go.Proofs.YtgaiehnbjggmdaaDoorW.PrintWords Go.Proofs.YtgaiehnbjggmdaaDoorW.PrintMore
set_option linter.unusedVariables false
set_option linter.unusedSimpArgs false
theorem own_lt {w : World} {b z n g cap : Nat} {e : TypeId} {xs : List Value} (h : w.ownsRow b e z (.slice (some ⟨g, 0, none⟩) n cap) n xs) (h0 : 0 < n) : g < w.heap.size := by
  obtain ⟨g', c', e1, _, hl⟩ := own_slice h h0
  simp only [Value.slice.injEq, Option.some.injEq, Addr.mk.injEq, and_true, true_and] at e1
  obtain ⟨rfl, _⟩ := e1
  exact hl
theorem own_far {w : World} {b z n g cap : Nat} {e : TypeId} {xs : List Value} (h : w.ownsRow b e z (.slice (some ⟨g, 0, none⟩) n cap) n xs) {p : Addr} (hp : p.block ≠ g) (u : Value) : (w.setCell p u).ownsRow b e z (.slice (some ⟨g, 0, none⟩) n cap) n xs := by
  refine ⟨h.1, h.2.elim Or.inl fun ⟨g', cap', cur, h1, h2, h3, h4⟩ => Or.inr ⟨g', cap', cur, h1, h2, ?_, h4⟩⟩
  simp only [Value.slice.injEq, Option.some.injEq, Addr.mk.injEq, and_true, true_and] at h1
  obtain ⟨rfl, _⟩ := h1
  rw [heap_setCell_other _ _ _ _ (Ne.symm hp)]
  exact h3
theorem own_far_row {w : World} {b z n g cap : Nat} {e : TypeId} {xs : List Value} (h : w.ownsRow b e z (.slice (some ⟨g, 0, none⟩) n cap) n xs) {p : Nat} (hp : p ≠ g) (cs : Array Value) : (w.setRow p cs).ownsRow b e z (.slice (some ⟨g, 0, none⟩) n cap) n xs := by
  refine ⟨h.1, h.2.elim Or.inl fun ⟨g', cap', cur, h1, h2, h3, h4⟩ => Or.inr ⟨g', cap', cur, h1, h2, ?_, h4⟩⟩
  simp only [Value.slice.injEq, Option.some.injEq, Addr.mk.injEq, and_true, true_and] at h1
  obtain ⟨rfl, _⟩ := h1
  rw [setRow_other _ _ _ _ (Ne.symm hp)]
  exact h3
theorem wrap_is (x : Int) : IntKind.i64.wrap x = wrap64 x := by
  rw [IntKind.wrap_i64]
  unfold wrap64
  omega
set_option maxHeartbeats 16000000 in
set_option maxRecDepth 100000 in
theorem rStart_ok (sg im fn : Value) (m0 m1 : Int) (G A : Option Addr) (gl : List (Int × Int)) (ds : List D3) (ng cg nd cd : Nat) (v0 v1 v2 v3 v4 v5 v6 en : Value) (code : ByteArray) (halt entry : Int) (P : Option Addr) (na ca : Nat) (args : List Int) (w : World)
    (hgl : gl.length = ng) (hng : ng ≤ 1000) (hG : CellsG w G gl) (hgv : ∀ g ∈ gl, -9223372036854775808 ≤ g.2 ∧ g.2 ≤ 9223372036854775807) (hds : ds.length = nd) (hnd : nd ≤ 9223372036854775807) (hD : CellsD w A ds) (hsz : ∀ d ∈ ds, d.2.2.size ≤ 9223372036854775807) (hs : code.size ≤ 9223372036854775807) (hna : args.length = na) (hn4 : na ≤ 4) (hr : ReadsInt w .i64 P na args) (hrv : ∀ v ∈ args, -9223372036854775808 ≤ v ∧ v ≤ 9223372036854775807)
    (h0 : 0 ≤ entry) (h1 : ¬ (code.size : Int) ≤ entry) :
    Calls Tryd.prog 38 #[.agg #[sg, im, fn, .int .i64 m0, .int .i64 m1, .slice G ng cg, .slice A nd cd], .agg #[v0, v1, v2, v3, v4, v5, v6, .string code, en, .int .i64 halt], .int .i64 entry, .slice P na ca] w fun e w' => ∃ rg, e = .returned (.tuple #[machS entry rg, .bool true]) ∧ w'.ownsRow w.heap.size 33 3 rg (regs code (aI (dataL (gl.map (·.2))) args na) (List.replicate 16376 0 ++ bytesOf (wrap64 (1048576 + halt)) 8) m0 m1 ds).length (cl3 (regs code (aI (dataL (gl.map (·.2))) args na) (List.replicate 16376 0 ++ bytesOf (wrap64 (1048576 + halt)) 8) m0 m1 ds)) ∧ Below w.heap.size w w' := by
  obtain ⟨W3, hW3⟩ : ∃ W, ((w.alloc (.cells #[sg, im, fn, .int .i64 m0, .int .i64 m1, .slice G ng cg, .slice A nd cd] 70)).alloc (.cells #[v0, v1, v2, v3, v4, v5, v6, .string code, en, .int .i64 halt] 72)).alloc (.cells #[.int .i64 0, .int .i64 0, .int .i64 0, .int .i64 0, .int .i64 0, .int .i64 0, .int .i64 0, .int .i64 0, .int .i64 0, .int .i64 0, .int .i64 0, .int .i64 0, .int .i64 0, .int .i64 0, .int .i64 0, .int .i64 0, .bool false, .bool false, .bool false, .bool false, .int .i64 0, .slice none 0 0, .int .i64 0] 27) = W := ⟨_, rfl⟩
  have b3 : Below w.heap.size w W3 := by rw [← hW3]; exact below_alloc (below_alloc (below_alloc (Below.refl _ _) _) _) _
  have z3 : W3.heap.size = w.heap.size + 1 + 1 + 1 := by rw [← hW3, World.size_alloc, World.size_alloc, World.size_alloc]
  have k0 : W3.heap[w.heap.size]? = some (.cells #[sg, im, fn, .int .i64 m0, .int .i64 m1, .slice G ng cg, .slice A nd cd] 70 (0, 0)) := by rw [← hW3]; exact blk_alloc (blk_alloc (blk_new w _) _) _
  have k1 : W3.heap[w.heap.size + 1]? = some (.cells #[v0, v1, v2, v3, v4, v5, v6, .string code, en, .int .i64 halt] 72 (0, 0)) := by
    rw [← hW3]
    have := blk_new (w.alloc (.cells #[sg, im, fn, .int .i64 m0, .int .i64 m1, .slice G ng cg, .slice A nd cd] 70)) (.cells #[v0, v1, v2, v3, v4, v5, v6, .string code, en, .int .i64 halt] 72)
    rw [World.size_alloc] at this
    exact blk_alloc this _
  have k2 : W3.heap[w.heap.size + 1 + 1]? = some (.cells #[.int .i64 0, .int .i64 0, .int .i64 0, .int .i64 0, .int .i64 0, .int .i64 0, .int .i64 0, .int .i64 0, .int .i64 0, .int .i64 0, .int .i64 0, .int .i64 0, .int .i64 0, .int .i64 0, .int .i64 0, .int .i64 0, .bool false, .bool false, .bool false, .bool false, .int .i64 0, .slice none 0 0, .int .i64 0] 27 (0, 0)) := by
    rw [← hW3]
    have := blk_new ((w.alloc (.cells #[sg, im, fn, .int .i64 m0, .int .i64 m1, .slice G ng cg, .slice A nd cd] 70)).alloc (.cells #[v0, v1, v2, v3, v4, v5, v6, .string code, en, .int .i64 halt] 72)) (.cells #[.int .i64 0, .int .i64 0, .int .i64 0, .int .i64 0, .int .i64 0, .int .i64 0, .int .i64 0, .int .i64 0, .int .i64 0, .int .i64 0, .int .i64 0, .int .i64 0, .int .i64 0, .int .i64 0, .int .i64 0, .int .i64 0, .bool false, .bool false, .bool false, .bool false, .int .i64 0, .slice none 0 0, .int .i64 0] 27)
    rw [World.size_alloc, World.size_alloc] at this
    exact this
  have hC := rRegions sg im fn m0 m1 G A gl ds ng cg nd cd code W3 hgl hng (hG.below b3) hgv hds hnd (hD.below b3) hsz
  obtain ⟨Z, hZ⟩ : ∃ Z, List.replicate 16384 (0 : Int) = Z := ⟨_, rfl⟩
  obtain ⟨DL, hDL⟩ : ∃ DL, dataL (gl.map (·.2)) = DL := ⟨_, rfl⟩
  rw [hZ, hDL] at hC
  rw [hDL]
  have hDLl : DL.length = 40 + 8 * ng := by rw [← hDL, dataL_len, List.length_map, hgl]
  have hDLb : ∀ b ∈ DL, 0 ≤ b ∧ b < 256 := by rw [← hDL]; exact dataL_bytes _
  have HC := Aside0.mk hC
  have HZ := Aside0.mk hZ
  have HDL := Aside0.mk (And.intro hDLl hDLb)
  have H3 := Aside0.mk (And.intro b3 (And.intro z3 (And.intro k0 (And.intro k1 k2))))
  have HA := Aside0.mk (And.intro hna (And.intro (hr.below b3) hrv))
  have HW3 := Aside0.mk hW3
  have t1 : decide (entry < 0) = false := decide_eq_false (by omega)
  have t2 : decide ((code.size : Int) ≤ entry) = false := decide_eq_false (by omega)
  have t3 : decide ((4 : Int) < na) = false := decide_eq_false (by omega)
  have y7 := blk_cell k1 7
  simp at y7
  clear hC hZ hDL hDLl hDLb b3 z3 k0 k1 k2 hna hr hrv hW3 hgl hG hgv hds hD hsz
  go_enter Tryd.func38, Tryd.ntmps38
  go_upto_region 1 with fail
  rw [HW3.out]
  clear HW3
  go_wp2_with (first
    | (refine wpList_load_row rfl 70 (.tmp 4) rfl w.heap.size rfl 70 _ (0, 0) _ H3.out.2.2.1 rfl rfl rfl ?_)
    | fail)
  refine HC.out.mono ?_
  rintro e w4 ⟨v, rfl, ho, hb⟩
  obtain ⟨g, cap, rfl, hg0, hg1⟩ := own_slice ho (by have := regs_len code DL Z m0 m1 ds; omega)
  have H4 := Aside0.mk (And.intro ho (And.intro hb (And.intro hg0 hg1)))
  clear ho hb hg0 hg1 t1 t2 t3 y7 HC
  obtain ⟨n, hn⟩ : ∃ n, (regs code DL Z m0 m1 ds).length = n + 1 := ⟨(regs code DL Z m0 m1 ds).length - 1, by have := regs_len code DL Z m0 m1 ds; omega⟩
  have hn5 : 2 ≤ n ∧ n ≤ 4 := by have := regs_len code DL Z m0 m1 ds; omega
  rw [hn] at H4 ⊢
  go_wp2_with fail
  go_loopw [11, 12] (fun s c wr => ∃ k : Nat, k ≤ na ∧ c = .int .i64 k ∧ s = .string (strOfNums (b8 (args.take k))) ∧ Below w4.heap.size w4 wr) (fun _ c _ => na - (intOf c).toNat)
  case atStart => exact ⟨0, Nat.zero_le _, rfl, rfl, Below.refl _ _⟩
  case round =>
    obtain ⟨k, hk, rfl, rfl, hbw⟩ := hrel
    have HB := Aside0.mk hbw
    clear hbw
    by_cases hlt : k < na
    · obtain ⟨ad, hA, hc⟩ := HA.out.2.1.2.2 (by omega)
      have hck := hc k hlt
      have hl := World.block_lt_of_cell? _ _ hck
      have hck2 : wr.cell? (ad.add k) = some (.int .i64 (args.getD k 0)) := by
        rw [HB.out.cell (Nat.lt_of_lt_of_le hl H4.out.2.1.size), H4.out.2.1.cell hl]
        exact hck
      have hkl : k < args.length := by rw [HA.out.1]; exact hlt
      have hgv : args[k] = args.getD k 0 := by
        rw [List.getD_eq_getElem?_getD, List.getElem?_eq_getElem hkl]
        rfl
      have hst := args_step args k hkl
      have hrk := HA.out.2.2 args[k] (List.getElem_mem _)
      have hE := fun W => Eight args[k] W hrk
      rw [hgv] at hst hE
      have hle1 : (strOfNums (b8 (args.take k))).size ≤ 1000 := by rw [num_size, b8_length, List.length_take]; omega
      have hle2 : (strOfNums (bytesOf (args.getD k 0) 8)).size ≤ 8 := by rw [num_size, bytesOf_length]; omega
      generalize strOfNums (b8 (args.take k)) = S0 at *
      generalize args.getD k 0 = av at *
      generalize strOfNums (bytesOf av 8) = S1 at *
      subst hA
      have HE := Aside0.mk hE
      have HST := Aside0.mk hst
      clear hE hst hgv hrk hck hc hl
      go_wp2_with (go_at_call 63; (with_reducible refine (HE.out _).mono ?_); rintro e w5 ⟨rfl, hb⟩; have H5 := Aside0.mk hb; clear hb)
      refine ⟨⟨k + 1, hlt, by simp, ?_, ?_⟩, by simp [intOf]; omega⟩
      · rw [HST.out]
      · exact HB.out.trans (H5.out.mono HB.out.size)
    · obtain rfl : k = na := by omega
      have hall : args.take k = args := List.take_of_length_le (by rw [HA.out.1]; exact Nat.le_refl _)
      rw [hall]
      have hown := pw_own_below H4.out.1 HB.out
      have hw4 := H4.out.2.2.2
      have c4 := own_cell hown 4 (by omega)
      rw [cl3_data] at c4
      have hb8 : (b8 args).length = 8 * k := by rw [b8_length, HA.out.1]
      have hsa : (strOfNums (b8 args)).size = 8 * k := by rw [num_size, hb8]
      have hsd : (strOfNums DL).size = 40 + 8 * ng := by rw [num_size, HDL.out.1]
      have hsl := fun W => slice_from (P := Tryd.prog) 9 Tryd.underlying9 (strOfNums DL) (8 * k) ((8 * k : Nat) : Int) rfl (by omega) W
      have hcat : strOfNums (b8 args) ++ (strOfNums DL).extract (8 * k) (strOfNums DL).size = strOfNums (aI DL args k) := by
        rw [num_extract DL _ HDL.out.2, num_append _ _ (b8_bytes _) (fun x hm => HDL.out.2 x (List.mem_of_mem_drop hm))]
        unfold aI
        rw [hall]
      have hcs : ((strOfNums DL).extract (8 * k) (strOfNums DL).size).size ≤ 100000 := by rw [ByteArray.size_extract]; omega
      have hsa2 : (strOfNums (b8 args)).size ≤ 1000 := by omega
      have hsd2 : (strOfNums DL).size ≤ 100000 := by omega
      have HCAT := Aside0.mk hcat
      have HSA := Aside0.mk hsa
      obtain ⟨S0, hS0⟩ : ∃ S, strOfNums (b8 args) = S := ⟨_, rfl⟩
      obtain ⟨S1, hS1⟩ : ∃ S, strOfNums DL = S := ⟨_, rfl⟩
      rw [hS0] at HCAT HSA hsa2 ⊢
      rw [hS1] at HCAT hsl c4 hcs hsd2
      obtain ⟨S2, hS2⟩ : ∃ S, S1.extract (8 * k) S1.size = S := ⟨_, rfl⟩
      rw [hS2] at HCAT hsl hcs
      rw [← HSA.out] at hsl
      obtain ⟨c4, f4⟩ := c4
      have HO := Aside0.mk hown
      clear hall hown hb8 hsa hsd hcat hS0 hS1 hS2 hw4
      go_upto_region 10 with fail
      have hAD : (regs code (aI DL args k) Z m0 m1 ds).length = n + 1 := (regs_same code _ _ _ _ m0 m1 ds).trans hn
      obtain ⟨W6, hW6⟩ : ∃ W, wr.setCell ⟨g, 4, none⟩ (.string (S0 ++ S2)) = W := ⟨_, rfl⟩
      have o6 := (HO.out.stored 4 (.string (S0 ++ S2))).1
      rw [HCAT.out, set_data, ← HCAT.out, hW6] at o6
      have b6 : Below W3.heap.size W3 W6 := by
        rw [← hW6]
        exact (H4.out.2.1.trans (HB.out.mono H4.out.2.1.size)).setCell H4.out.2.2.1 _
      rw [hW6]
      clear hW6 c4 f4 hsl hcs hsa2 hsd2
      have hQ : ∀ W, Below W6.heap.size W6 W → (W.cell? ⟨g, n * 3 + 1, none⟩ = some (.string (strOfNums Z)) ∧ W.frozen? ⟨g, n * 3 + 1, none⟩ = false) ∧ W.cell? ⟨w.heap.size + 1, 9, none⟩ = some (.int .i64 halt) := fun W hb => by
        have q := own_cell (pw_own_below o6 hb) (n * 3 + 1) (by omega)
        rw [cl3_stack _ _ _ _ _ _ n hAD] at q
        have q9 := blk_cell (blk_below (blk_below H3.out.2.2.2.1 b6) hb) 9
        simp at q9
        exact ⟨q, q9⟩
      have hSZ : (strOfNums Z).size = 16384 := by rw [num_size, ← HZ.out, List.length_replicate]
      have hsl2 := fun W => slice_to (P := Tryd.prog) 9 Tryd.underlying9 (strOfNums Z) 16376 16376 rfl (by omega) W
      have hz1 : (strOfNums Z).extract 0 16376 = strOfNums (List.replicate 16376 0) := by
        rw [num_extract0 Z _ (by rw [← HZ.out]; exact zeros_bytes _), ← HZ.out, List.take_replicate, show min 16376 16384 = 16376 from rfl]
      have hx1 : ((strOfNums Z).extract 0 16376).size ≤ 100000 := by rw [ByteArray.size_extract]; omega
      obtain ⟨hv, hhv⟩ : ∃ hv, wrap64 (1048576 + halt) = hv := ⟨_, rfl⟩
      have hvr : -9223372036854775808 ≤ hv ∧ hv ≤ 9223372036854775807 := by rw [← hhv]; exact wrap64_rng _
      have ws : IntKind.i64.wrap (1048576 + halt) = hv := by rw [← hhv]; exact wrap_is _
      have hE := fun W => Eight hv W hvr
      have hcat2 : strOfNums (List.replicate 16376 0) ++ strOfNums (bytesOf hv 8) = strOfNums (List.replicate 16376 0 ++ bytesOf hv 8) := num_append _ _ (zeros_bytes _) (bytesOf_bytes _ 8)
      rw [← hz1] at hcat2
      have hx2 : (strOfNums (bytesOf hv 8)).size ≤ 100 := by rw [num_size, bytesOf_length]; omega
      obtain ⟨SZ, hSZe⟩ : ∃ S, strOfNums Z = S := ⟨_, rfl⟩
      rw [hSZe] at hsl2 hcat2 hx1 hQ
      have HQ := Aside0.mk hQ
      obtain ⟨S3, hS3⟩ : ∃ S, SZ.extract 0 16376 = S := ⟨_, rfl⟩
      rw [hS3] at hsl2 hcat2 hx1
      obtain ⟨S4, hS4⟩ : ∃ S, strOfNums (bytesOf hv 8) = S := ⟨_, rfl⟩
      rw [hS4] at hE hx2 hcat2
      have HE := Aside0.mk hE
      have HCAT2 := Aside0.mk hcat2
      have H6 := Aside0.mk (And.intro o6 (And.intro b6 (And.intro hAD hhv)))
      obtain ⟨⟨c4, f4⟩, y9⟩ := hQ W6 (Below.refl _ _)
      clear hhv hz1 hSZ hSZe hS3 hS4 hcat2 hE o6 b6 hAD hn hQ
      go_wp2
      go_cut [10] from 62 to 76 (fun v wx => v = .slice (some ⟨g, 0, none⟩) (n + 1) cap ∧ wx.ownsRow W3.heap.size 33 3 (.slice (some ⟨g, 0, none⟩) (n + 1) cap) (n + 1) ((cl3 (regs code (aI DL args k) Z m0 m1 ds)).set (n * 3 + 1) (.string (S3 ++ S4))) ∧ Below W3.heap.size W3 wx)
      case first =>
        go_region_with (first
          | (go_at_call 63; (with_reducible refine (HE.out _).mono ?_); rintro e w5 ⟨rfl, hb⟩; have H5 := Aside0.mk ((below_drew (Below.refl W6.heap.size W6)).trans hb); obtain ⟨⟨d4, g4⟩, z9⟩ := HQ.out _ H5.out; clear hb))
        all_goals
          go_wp2
          go_meet
          case rel =>
            exact ⟨rfl, ((pw_own_below H6.out.1 H5.out).stored _ _).1, (H6.out.2.1.trans (H5.out.mono H6.out.2.1.size)).setCell H4.out.2.2.1 _⟩
      case rest =>
        obtain ⟨rfl, ho7, hb7⟩ := hcut
        rw [HCAT2.out, set_stack _ _ _ _ _ _ _ n H6.out.2.2.1] at ho7
        have H7 := Aside0.mk (And.intro ho7 hb7)
        clear ho7 hb7 c4 f4 y9 ws hsl2 hx1 hx2
        have hz7 := H7.out.2.size
        have hz3 := H3.out.2.1
        have X12 := setRow_heap (wc.alloc (.cells #[.int .i64 0, .int .i64 0, .int .i64 0, .int .i64 0, .int .i64 0, .int .i64 0, .int .i64 0, .int .i64 0, .int .i64 0, .int .i64 0, .int .i64 0, .int .i64 0, .int .i64 0, .int .i64 0, .int .i64 0, .int .i64 0, .bool false, .bool false, .bool false, .bool false, .int .i64 0, .slice none 0 0, .int .i64 0] 27)) wc.heap.size _ #[.int .i64 0, .int .i64 0, .int .i64 0, .int .i64 0, .int .i64 0, .int .i64 0, .int .i64 0, .int .i64 0, .int .i64 0, .int .i64 0, .int .i64 0, .int .i64 0, .int .i64 0, .int .i64 0, .int .i64 0, .int .i64 0, .bool false, .bool false, .bool false, .bool false, .int .i64 (wrap64 (1048576 + entry)), .slice (some ⟨g, 0, none⟩) (n + 1) cap, .int .i64 0] _ _ (blk_new wc _)
        have b12 : Below W3.heap.size W3 ((wc.alloc (.cells #[.int .i64 0, .int .i64 0, .int .i64 0, .int .i64 0, .int .i64 0, .int .i64 0, .int .i64 0, .int .i64 0, .int .i64 0, .int .i64 0, .int .i64 0, .int .i64 0, .int .i64 0, .int .i64 0, .int .i64 0, .int .i64 0, .bool false, .bool false, .bool false, .bool false, .int .i64 0, .slice none 0 0, .int .i64 0] 27)).setRow wc.heap.size #[.int .i64 0, .int .i64 0, .int .i64 0, .int .i64 0, .int .i64 0, .int .i64 0, .int .i64 0, .int .i64 0, .int .i64 0, .int .i64 0, .int .i64 0, .int .i64 0, .int .i64 0, .int .i64 0, .int .i64 0, .int .i64 0, .bool false, .bool false, .bool false, .bool false, .int .i64 (wrap64 (1048576 + entry)), .slice (some ⟨g, 0, none⟩) (n + 1) cap, .int .i64 0]) := H7.out.2.trans ((below_setRow (below_alloc (Below.refl wc.heap.size wc) _) (Nat.le_refl _) _).mono hz7)
        have o12 : ((wc.alloc (.cells #[.int .i64 0, .int .i64 0, .int .i64 0, .int .i64 0, .int .i64 0, .int .i64 0, .int .i64 0, .int .i64 0, .int .i64 0, .int .i64 0, .int .i64 0, .int .i64 0, .int .i64 0, .int .i64 0, .int .i64 0, .int .i64 0, .bool false, .bool false, .bool false, .bool false, .int .i64 0, .slice none 0 0, .int .i64 0] 27)).setRow wc.heap.size #[.int .i64 0, .int .i64 0, .int .i64 0, .int .i64 0, .int .i64 0, .int .i64 0, .int .i64 0, .int .i64 0, .int .i64 0, .int .i64 0, .int .i64 0, .int .i64 0, .int .i64 0, .int .i64 0, .int .i64 0, .int .i64 0, .bool false, .bool false, .bool false, .bool false, .int .i64 (wrap64 (1048576 + entry)), .slice (some ⟨g, 0, none⟩) (n + 1) cap, .int .i64 0]).ownsRow W3.heap.size 33 3 (.slice (some ⟨g, 0, none⟩) (n + 1) cap) (n + 1) _ := pw_own_below H7.out.1 (below_setRow (below_alloc (Below.refl wc.heap.size wc) _) (Nat.le_refl _) _)
        obtain ⟨W12, hW12⟩ : ∃ W, (wc.alloc (.cells #[.int .i64 0, .int .i64 0, .int .i64 0, .int .i64 0, .int .i64 0, .int .i64 0, .int .i64 0, .int .i64 0, .int .i64 0, .int .i64 0, .int .i64 0, .int .i64 0, .int .i64 0, .int .i64 0, .int .i64 0, .int .i64 0, .bool false, .bool false, .bool false, .bool false, .int .i64 0, .slice none 0 0, .int .i64 0] 27)).setRow wc.heap.size #[.int .i64 0, .int .i64 0, .int .i64 0, .int .i64 0, .int .i64 0, .int .i64 0, .int .i64 0, .int .i64 0, .int .i64 0, .int .i64 0, .int .i64 0, .int .i64 0, .int .i64 0, .int .i64 0, .int .i64 0, .int .i64 0, .bool false, .bool false, .bool false, .bool false, .int .i64 (wrap64 (1048576 + entry)), .slice (some ⟨g, 0, none⟩) (n + 1) cap, .int .i64 0] = W := ⟨_, rfl⟩
        rw [hW12] at X12 b12 o12
        have HW12 := Aside0.mk hW12
        have y4 := blk_cell X12 4
        have y15 := blk_cell X12 15
        have f4 := blk_frozen X12 4
        have f15 := blk_frozen X12 15
        simp at y4 y15
        obtain ⟨W15, hW15⟩ : ∃ W, (W12.setCell ⟨wc.heap.size, 4, none⟩ (.int .i64 278520)).setCell ⟨wc.heap.size, 15, none⟩ (.int .i64 65536) = W := ⟨_, rfl⟩
        have X15 : W15.heap[wc.heap.size]? = some (.cells #[.int .i64 0, .int .i64 0, .int .i64 0, .int .i64 0, .int .i64 278520, .int .i64 0, .int .i64 0, .int .i64 0, .int .i64 0, .int .i64 0, .int .i64 0, .int .i64 0, .int .i64 0, .int .i64 0, .int .i64 0, .int .i64 65536, .bool false, .bool false, .bool false, .bool false, .int .i64 (wrap64 (1048576 + entry)), .slice (some ⟨g, 0, none⟩) (n + 1) cap, .int .i64 0] 27 (0, 0)) := by
          rw [← hW15]
          exact blk_set (blk_set X12 4 (.int .i64 278520)) 15 (.int .i64 65536)
        have b15 : Below W3.heap.size W3 W15 := by
          rw [← hW15]
          exact (b12.setCell (p := ⟨wc.heap.size, 4, none⟩) hz7 (.int .i64 278520)).setCell (p := ⟨wc.heap.size, 15, none⟩) hz7 (.int .i64 65536)
        have hgc : g < wc.heap.size := own_lt H7.out.1 (by omega)
        have o15 := own_far (own_far o12 (p := ⟨wc.heap.size, 4, none⟩) (Nat.ne_of_gt hgc) (.int .i64 278520)) (p := ⟨wc.heap.size, 15, none⟩) (Nat.ne_of_gt hgc) (.int .i64 65536)
        rw [hW15] at o15
        have r15 := (b15.block (w.heap.size + 1 + 1) (by omega)).trans H3.out.2.2.2.2
        have H15 := Aside0.mk (And.intro X15 (And.intro b15 (And.intro o15 r15)))
        have HW15 := Aside0.mk hW15
        clear X12 b12 o12 hW12 hW15 X15 b15 o15 r15
        go_upto_region 15 with (first
          | (refine wpList_store_row rfl 27 (.tmp 14) (.tmp 80) rfl wc.heap.size #[.int .i64 0, .int .i64 0, .int .i64 0, .int .i64 0, .int .i64 0, .int .i64 0, .int .i64 0, .int .i64 0, .int .i64 0, .int .i64 0, .int .i64 0, .int .i64 0, .int .i64 0, .int .i64 0, .int .i64 0, .int .i64 0, .bool false, .bool false, .bool false, .bool false, .int .i64 (wrap64 (1048576 + entry)), .slice (some ⟨g, 0, none⟩) (n + 1) cap, .int .i64 0] rfl rfl 27 _ (blk_new wc _) (by kernel_rfl) rfl (by kernel_rfl) ?_; rw [HW12.out])
          | fail)
        rw [HW15.out]
        clear y4 y15 f4 f15
        refine wp_region_lit ?_
        refine wpList_load_row rfl 27 (.tmp 14) rfl wc.heap.size rfl 27 #[.int .i64 0, .int .i64 0, .int .i64 0, .int .i64 0, .int .i64 278520, .int .i64 0, .int .i64 0, .int .i64 0, .int .i64 0, .int .i64 0, .int .i64 0, .int .i64 0, .int .i64 0, .int .i64 0, .int .i64 0, .int .i64 65536, .bool false, .bool false, .bool false, .bool false, .int .i64 (wrap64 (1048576 + entry)), .slice (some ⟨g, 0, none⟩) (n + 1) cap, .int .i64 0] (0, 0) _ H15.out.1 rfl rfl rfl ?_
        refine wpList_store_row rfl 27 (.tmp 8) (.tmp 85) rfl (w.heap.size + 1 + 1) #[.int .i64 0, .int .i64 0, .int .i64 0, .int .i64 0, .int .i64 278520, .int .i64 0, .int .i64 0, .int .i64 0, .int .i64 0, .int .i64 0, .int .i64 0, .int .i64 0, .int .i64 0, .int .i64 0, .int .i64 0, .int .i64 65536, .bool false, .bool false, .bool false, .bool false, .int .i64 (wrap64 (1048576 + entry)), .slice (some ⟨g, 0, none⟩) (n + 1) cap, .int .i64 0] rfl rfl 27 _ H15.out.2.2.2 (by kernel_rfl) rfl (by kernel_rfl) ?_
        have X16 := setRow_heap W15 (w.heap.size + 1 + 1) _ #[.int .i64 0, .int .i64 0, .int .i64 0, .int .i64 0, .int .i64 278520, .int .i64 0, .int .i64 0, .int .i64 0, .int .i64 0, .int .i64 0, .int .i64 0, .int .i64 0, .int .i64 0, .int .i64 0, .int .i64 0, .int .i64 65536, .bool false, .bool false, .bool false, .bool false, .int .i64 (wrap64 (1048576 + entry)), .slice (some ⟨g, 0, none⟩) (n + 1) cap, .int .i64 0] _ _ H15.out.2.2.2
        have hg3 := H4.out.2.2.1
        have o16 := own_far_row H15.out.2.2.1 (p := w.heap.size + 1 + 1) (by omega) #[.int .i64 0, .int .i64 0, .int .i64 0, .int .i64 0, .int .i64 278520, .int .i64 0, .int .i64 0, .int .i64 0, .int .i64 0, .int .i64 0, .int .i64 0, .int .i64 0, .int .i64 0, .int .i64 0, .int .i64 0, .int .i64 65536, .bool false, .bool false, .bool false, .bool false, .int .i64 (wrap64 (1048576 + entry)), .slice (some ⟨g, 0, none⟩) (n + 1) cap, .int .i64 0]
        have b16 := below_setRow (H3.out.1.trans (H15.out.2.1.mono H3.out.1.size)) (by omega : w.heap.size ≤ w.heap.size + 1 + 1) #[.int .i64 0, .int .i64 0, .int .i64 0, .int .i64 0, .int .i64 278520, .int .i64 0, .int .i64 0, .int .i64 0, .int .i64 0, .int .i64 0, .int .i64 0, .int .i64 0, .int .i64 0, .int .i64 0, .int .i64 0, .int .i64 65536, .bool false, .bool false, .bool false, .bool false, .int .i64 (wrap64 (1048576 + entry)), .slice (some ⟨g, 0, none⟩) (n + 1) cap, .int .i64 0]
        have H16 := Aside0.mk (And.intro X16 (And.intro o16 b16))
        clear X16 o16 b16 HW15 HW12
        generalize W15.setRow _ _ = W16 at H16 ⊢
        go_wp2
        refine bodyPost_ret (results_row_tmp rfl _ _ (w.heap.size + 1 + 1) _ _ _ _ rfl H16.out.1 rfl rfl rfl) rfl ?_
        refine ⟨_, rfl, ?_, H16.out.2.2⟩
        rw [H6.out.2.2.2, regs_same code _ (aI DL args k) _ Z m0 m1 ds, H6.out.2.2.1]
        exact own_base (by omega) H16.out.2.1
end Go.Proofs.YtgaiehnbjggmdaaDoor.F
