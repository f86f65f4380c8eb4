/- Writes one behind the other are the same in two parts; one that does not lie within its memory refuses all; a write is there behind it: the law's function. No condition but that numbers and lengths are those of the language. -/
import Derived.Test.YtiacmfgkbgfhkaaLinEq
import Derived.Test.YtiacmfgkbgfhkaaLinEx
import Derived.Test.YtiacmfgkbgfhkaaLinBack
import Derived.Deep.RegionWith
import Derived.Deep.DeepCutAuto
import Derived.BigQuiet
namespace Go.Proofs.Ytiacmfgkbgfhkaa.Lin
open Go.Ob Go.RowKit Go.Proofs.YtiacmfgkbgfhkaaW.PrintWords Go.Proofs.YtiacmfgkbgfhkaaW.PrintMore
attribute [local go_sem] max2_int min2_int max_two min_two
set_option linter.unusedVariables false
set_option linter.unusedSimpArgs false
abbrev s0 : ByteArray := ⟨#[48, 49, 50, 51, 52, 53, 54, 55, 56, 57, 97, 98, 99, 100, 101, 102]⟩
abbrev t0 : ByteArray := ⟨#[65, 66, 67, 68, 69, 70, 71, 72, 73, 74, 75, 76, 77, 78, 79, 80]⟩
theorem ap1_sizes {m x : M2} {d : D3} (h : ap1 m d = some x) : x.1.size = m.1.size ∧ x.2.size = m.2.size := by
  unfold ap1 at h
  split at h
  · rename_i ho
    simp only [Option.some.injEq] at h
    subst h
    rcases ho with ⟨h1, h2, h3⟩ | ⟨h1, h2, h3⟩
    · rw [if_pos h1]
      exact ⟨wr1_size _ _ _ (by omega), rfl⟩
    · rw [if_neg (by omega)]
      exact ⟨rfl, wr1_size _ _ _ (by omega)⟩
  · cases h
theorem apl_sizes : ∀ (l : List D3) {m x : M2}, apl m l = some x → x.1.size = m.1.size ∧ x.2.size = m.2.size
  | [], m, x, h => by simp only [apl, Option.some.injEq] at h; subst h; exact ⟨rfl, rfl⟩
  | d :: l, m, x, h => by
    simp only [apl] at h
    cases h1 : ap1 m d with
    | none => rw [h1] at h; cases h
    | some y =>
      rw [h1] at h
      have a := apl_sizes l (m := y) (x := x) h
      have b := ap1_sizes h1
      exact ⟨a.1.trans b.1, a.2.trans b.2⟩
theorem wr1_there (m : ByteArray) (K : Nat) (bs : ByteArray) (h : K + bs.size ≤ m.size) : (wr1 m K bs).extract K (K + bs.size) = bs := by
  have hb : ∀ x ∈ spl (bl m) K (bl bs), 0 ≤ x ∧ x < 256 := by
    intro x hx
    simp only [spl, List.mem_append] at hx
    rcases hx with hx | hx | hx
    · exact bl_bytes m x (List.mem_of_mem_take hx)
    · exact bl_bytes bs x hx
    · exact bl_bytes m x (List.mem_of_mem_drop hx)
  apply bl_inj
  rw [bl_extract]
  unfold wr1
  rw [bl_num _ hb, spl, List.drop_append_of_le_length (by rw [List.length_take, bl_length]; omega), List.drop_of_length_le (by rw [List.length_take]; omega), List.nil_append, Nat.add_sub_cancel_left, List.take_append_of_le_length (by rw [bl_length]; omega), List.take_of_length_le (by rw [bl_length]; omega)]
theorem ap1_there {m x : M2} {d : D3} (h : ap1 m d = some x) : (d.1 = 0 ∧ 0 ≤ d.2.1 ∧ d.2.1 + d.2.2.size ≤ x.1.size ∧ x.1.extract d.2.1.toNat (d.2.1.toNat + d.2.2.size) = d.2.2) ∨ (d.1 = 1 ∧ 0 ≤ d.2.1 ∧ d.2.1 + d.2.2.size ≤ x.2.size ∧ x.2.extract d.2.1.toNat (d.2.1.toNat + d.2.2.size) = d.2.2) := by
  have hs := ap1_sizes h
  unfold ap1 at h
  split at h
  · rename_i ho
    simp only [Option.some.injEq] at h
    rcases ho with ⟨h1, h2, h3⟩ | ⟨h1, h2, h3⟩
    · rw [if_pos h1] at h
      subst h
      exact .inl ⟨h1, h2, by rw [hs.1]; exact h3, wr1_there _ _ _ (by omega)⟩
    · rw [if_neg (by omega)] at h
      subst h
      exact .inr ⟨h1, h2, by rw [hs.2]; exact h3, wr1_there _ _ _ (by omega)⟩
  · cases h
theorem apl_last {m x : M2} {l : List D3} {k : Nat} (hk : l.length = k + 1) (h : apl m l = some x) : ∃ y, ap1 y (l[k]'(by omega)) = some x := by
  have e : l = l.take k ++ [l[k]'(by omega)] := by
    rw [← List.take_succ_eq_append_getElem (by omega), List.take_of_length_le (by omega)]
  rw [e, apl_append] at h
  cases h1 : apl m (l.take k) with
  | none => rw [h1] at h; cases h
  | some y =>
    refine ⟨y, ?_⟩
    rw [h1] at h
    simp only [Option.bind, apl] at h
    cases h2 : ap1 y (l[k]'(by omega)) with
    | none => rw [h2] at h; cases h
    | some z => rw [h2] at h; exact h
theorem add_add (a : Addr) (x y : Nat) : (a.add x).add y = a.add (x + y) := by
  unfold Addr.add
  by_cases hx : x = 0
  · subst hx; simp
  · by_cases hy : y = 0
    · subst hy; simp [hx]
    · simp [hx, hy, Nat.add_assoc]
theorem CellsD.drop {w : World} {A : Option Addr} {ds : List D3} (h : CellsD w A ds) (k cap : Nat) (hc : ds.length ≤ cap) : CellsD w (tl A cap k) (ds.drop k) := fun i hi => by
  have hi' : k + i < ds.length := by rw [List.length_drop] at hi; omega
  obtain ⟨ad, rfl, h1, h2, h3, h4⟩ := h (k + i) hi'
  have e : (ad.add (k * 3)).add (i * 3) = ad.add ((k + i) * 3) := by rw [add_add, ← Nat.add_mul]
  refine ⟨ad.add (k * 3), ?_, ?_, ?_⟩
  · unfold tl
    rw [if_neg (by omega)]
    rfl
  · rw [add_blk]; exact h1
  · rw [e, List.getElem_drop]
    exact ⟨h2, h3, h4⟩
theorem eqz (a b : ByteArray) (W : World) : (Op.equalIn 10000 51 (.agg #[.string a, .string b]) (.agg #[.string a, .string b])).run Try.prog W = .ok true W := by
  rw [eq2, beq_toListBytes, beq_toListBytes]; simp
theorem slice_in {P : Program} (t : TypeId) (ht : P.underlying t = some .string) (s : ByteArray) (a b : Nat) (i j : Int) (hi : i = a) (hj : j = b) (hab : a ≤ b) (hb : b ≤ s.size) (W : World) {r : ByteArray} (hr : s.extract a b = r) :
    (Instr.slice t (.string s) (some (.int .i64 i)) (some (.int .i64 j)) none).run P W = .ok (.string r) W := by
  subst hi hj hr
  simp [Instr.slice, Instr.sliceBounds, Instr.sliceBound, asIntOf, run_underlying ht, hb, hab]
theorem bcell {W w1 : World} (hb : Below W.heap.size W w1) : (∀ b o, b < W.heap.size → w1.cell? ⟨b, o, none⟩ = W.cell? ⟨b, o, none⟩) ∧ (∀ b o, b < W.heap.size → w1.frozen? ⟨b, o, none⟩ = W.frozen? ⟨b, o, none⟩) :=
  ⟨fun b o h => hb.cell (p := ⟨b, o, none⟩) h, fun b o h => hb.frozen (p := ⟨b, o, none⟩) h⟩
abbrev bx (a b : ByteArray) : Obj := .cells #[.string a, .string b] 51 (0, 0)
abbrev ret2 (a b : ByteArray) (ok : Bool) : Value := .tuple #[.agg #[.string a, .string b], .bool ok]
set_option maxHeartbeats 16000000 in
set_option maxRecDepth 100000 in
theorem Writes_g (A : Option Addr) (n cap k j : Nat) (at_ : Int) (a1 b1 y1 y2 : ByteArray) (ok ok2 : Bool) (w : World) (E F : World → Prop) (hE : ∀ W, Below w.heap.size w W → E W ∧ F W) (hn : n ≤ 9223372036854775807) (hcap : n ≤ cap) (hkn : k ≤ n) (hjk : j ≤ k) (hk : (if 10 < n then 10 else n) = k)
    (hj2 : at_ < 0 → -((at_ + 1).tmod ((k : Int) + 1)) = j) (hj3 : 0 ≤ at_ → at_ % ((k : Int) + 1) = j) (ha : -9223372036854775808 ≤ at_ ∧ at_ ≤ 9223372036854775807)
    (C1 : ∀ W, E W → Calls Try.prog 36 #[.agg #[.string s0, .string t0], .slice A k cap] W fun e w' => e = .returned (ret2 a1 b1 ok) ∧ Below W.heap.size W w')
    (C2 : ∀ W, E W → Calls Try.prog 36 #[.agg #[.string s0, .string t0], .slice A j cap] W fun e w' => e = .returned (ret2 y1 y2 ok2) ∧ Below W.heap.size W w')
    (C3 : ok2 = true → ∀ W, F W → Calls Try.prog 36 #[.agg #[.string y1, .string y2], .slice (tl A cap j) (k - j) (cap - j)] W fun e w' => e = .returned (ret2 a1 b1 ok) ∧ Below W.heap.size W w')
    (hno : ok2 = false → (ok = false ∧ a1 = ⟨#[]⟩ ∧ b1 = ⟨#[]⟩) ∧ y1 = ⟨#[]⟩ ∧ y2 = ⟨#[]⟩) (hok : ok = false → a1 = ⟨#[]⟩ ∧ b1 = ⟨#[]⟩)
    (hlast : ok = true → 0 < k → ∃ d : D3, d.2.2.size ≤ 16 ∧ a1.size = 16 ∧ b1.size = 16 ∧ ((d.1 = 0 ∧ 0 ≤ d.2.1 ∧ d.2.1 + d.2.2.size ≤ a1.size ∧ a1.extract d.2.1.toNat (d.2.1.toNat + d.2.2.size) = d.2.2) ∨ (d.1 = 1 ∧ 0 ≤ d.2.1 ∧ d.2.1 + d.2.2.size ≤ b1.size ∧ b1.extract d.2.1.toNat (d.2.1.toNat + d.2.2.size) = d.2.2)) ∧
      ∀ W, E W → ∃ ad, A = some ad ∧ ad.block < W.heap.size ∧ W.cell? (ad.add ((k - 1) * 3)) = some (.int .i64 d.1) ∧ W.cell? ⟨(ad.add ((k - 1) * 3)).block, (ad.add ((k - 1) * 3)).off + 1, none⟩ = some (.int .i64 d.2.1) ∧ W.cell? ⟨(ad.add ((k - 1) * 3)).block, (ad.add ((k - 1) * 3)).off + 2, none⟩ = some (.string d.2.2)) :
    Calls Try.prog 13 #[.slice A n cap, .int .i64 at_] w fun e w' => e = .returned (.bool true) ∧ Below w.heap.size w w' := by
  have HC := Aside0.mk (And.intro C1 (And.intro C2 C3))
  have HP := Aside0.mk (And.intro hno (And.intro hok hlast))
  have HE := Aside0.mk hE
  have HJ := Aside0.mk (And.intro hj2 hj3)
  have S3 : ∀ W, (Instr.slice 50 (.slice A n cap) none (some (.int .i64 (if (10 : Int) < n then 10 else n))) none).run Try.prog W = .ok (.slice A k cap) W := by
    intro W
    refine sl_to A n cap k _ ?_ ?_ W
    · rw [← hk]; split <;> split <;> omega
    · omega
  have S4 : ∀ W, (Instr.slice 50 (.slice A k cap) none (some (.int .i64 j)) none).run Try.prog W = .ok (.slice A j cap) W := fun W => sl_to A k cap j _ rfl (by omega) W
  have HS := Aside0.mk (And.intro S3 S4)
  have S5 : ∀ W, (Instr.slice 50 (.slice A k cap) (some (.int .i64 j)) none none).run Try.prog W = .ok (.slice (tl A cap j) (k - j) (cap - j)) W := fun W => sl_of A k cap j _ rfl hjk (by omega) W
  have HQ := Aside0.mk (And.intro (eqz ⟨#[]⟩ ⟨#[]⟩) (And.intro (eqz a1 b1) S5))
  have c3 : 10 < n ∨ n ≤ 10 := by omega
  have c4 : at_ < 0 ∨ 0 ≤ at_ := by omega
  have hk10 : k ≤ 10 := by rw [← hk]; split <;> omega
  clear C1 C2 C3 hno hok hlast hE hj2 hj3 S3 S4 S5 hk
  rcases c3 with c3 | c3 <;> rcases c4 with c4 | c4
  all_goals
    have S3 := HS.out.1
    first
      | simp only [show ((10 : Int) < n) = True from eq_true (by omega), if_true] at S3
      | simp only [show ((10 : Int) < n) = False from eq_false (by omega), if_false] at S3
    go_enter Try.func13, Try.ntmps13
    go_wp2_with fail
    refine (examples _).mono ?_
    rintro e w1 ⟨rfl, hb1⟩
    have H1 := Aside0.mk hb1
    clear hb1
    go_wp2_with fail
    clear S3
    first
      | (have hq := HJ.out.1 (by assumption); rw [hq]; clear hq)
      | (have hq := HJ.out.2 (by assumption); rw [hq]; clear hq)
    obtain ⟨W, hW⟩ : ∃ W, (w1.alloc (.cells #[.string s0, .string t0] 51)) = W := ⟨_, rfl⟩
    have HK := And.intro (blk_new w1 (.cells #[.string s0, .string t0] 51)) (below_alloc H1.out (.cells #[.string s0, .string t0] 51))
    rw [hW] at HK ⊢
    clear hW
    have HK2 := Aside0.mk HK
    clear HK
    refine (HC.out.1 W (HE.out W HK2.out.2).1).mono ?_
    rintro e w2 ⟨rfl, hb⟩
    have K1 := Aside0.mk (blk_below HK2.out.1 hb)
    have B1 := Aside0.mk (HK2.out.2.trans (hb.mono HK2.out.2.size))
    clear hb
    have r0 := blk_cell (blk_alloc K1.out (.cells #[.string a1, .string b1] 51)) 0
    have r1 := blk_cell (blk_alloc K1.out (.cells #[.string a1, .string b1] 51)) 1
    simp at r0 r1
    go_wp2_with fail
    clear r0 r1
    obtain ⟨W2, hW⟩ : ∃ W2, (w2.alloc (.cells #[.string a1, .string b1] 51)) = W2 := ⟨_, rfl⟩
    have HK := And.intro (blk_new w2 (bx a1 b1)) (And.intro (blk_alloc K1.out (bx a1 b1)) (below_alloc B1.out (bx a1 b1)))
    rw [hW] at HK ⊢
    clear hW
    have r0 := blk_cell HK.2.1 0
    have r1 := blk_cell HK.2.1 1
    have HK3 := Aside0.mk HK
    have B2 := HK.2.2
    have S4 := HS.out.2
    have hlt := blk_lt HK.2.1
    clear HK
    simp at r0 r1
    go_cut [9, 10] (fun v9 v10 wc => ∃ z : Nat, v9 = .pointer (some ⟨z, 0, none⟩) ∧ v10 = .bool ok2 ∧ Aside0 (wc.heap[z]? = some (bx y1 y2) ∧ wc.heap[w2.heap.size]? = some (bx a1 b1) ∧ Below w.heap.size w wc))
    case first =>
      go_region_with (first
        | (go_at_call 36; refine (HC.out.2.1 _ (HE.out _ (by with_reducible repeat (first | exact B2 | refine below_alloc ?_ _ | refine below_drew ?_))).1).mono ?_; rintro e w3 ⟨rfl, hb3⟩; obtain ⟨hc3, hf3⟩ := bcell hb3; have hz3 := hb3.size; simp at hz3; have H3 := Aside0.mk hb3; clear hb3))
      all_goals
        go_wp2_with fail
        go_meet
        case rel =>
          first
            | exact ⟨w3.heap.size, rfl, rfl, Aside0.mk ⟨blk_new w3 _, blk_alloc (blk_below (blk_drew HK3.out.1) H3.out) _, below_alloc ((below_drew HK3.out.2.2).trans (H3.out.mono (below_drew HK3.out.2.2).size)) _⟩⟩
            | (have kz := blk_below (blk_drew (blk_new W2 _)) H3.out
               have k2 := blk_below (blk_drew (blk_alloc HK3.out.1 _)) H3.out
               have b2 := (below_drew (below_alloc HK3.out.2.2 _)).trans (H3.out.mono (below_drew (below_alloc HK3.out.2.2 _)).size)
               have hlz := blk_lt HK3.out.1
               have hwz := HK3.out.2.2.size
               exact ⟨W2.heap.size, rfl, rfl, Aside0.mk ⟨blk_set (blk_set kz 0 _) 1 _, blk_far (blk_far k2 (p := ⟨W2.heap.size, 0, none⟩) (by simp; omega) _) (p := ⟨W2.heap.size, 1, none⟩) (by simp; omega) _, (b2.setCell (p := ⟨W2.heap.size, 0, none⟩) hwz _).setCell (p := ⟨W2.heap.size, 1, none⟩) hwz _⟩⟩)
            | (trace_state; sorry)
    case rest =>
      clear B2 r0 r1 S4 hlt
      obtain ⟨z, rfl, rfl, hz⟩ := hcut
      cases ok2 with
      | false =>
        obtain ⟨⟨rfl, rfl, rfl⟩, rfl, rfl⟩ := HP.out.1 (by trivial)
        have z0 := blk_cell hz.out.1 0
        have z1 := blk_cell hz.out.1 1
        have y0 := blk_cell hz.out.2.1 0
        have y1 := blk_cell hz.out.2.1 1
        have heq := HQ.out.1
        simp at z0 z1 y0 y1
        go_wp2_with fail
        go_ret
        exact ⟨rfl, hz.out.2.2⟩
      | true =>
        go_wp2_with fail
        have r0 := blk_cell hz.out.1 0
        have r1 := blk_cell hz.out.1 1
        have S5 := HQ.out.2.2
        have B2 := hz.out.2.2
        have hlt := blk_lt hz.out.1
        simp at r0 r1
        go_cut [11, 12] (fun v11 v12 wd => ∃ q : Nat, v11 = .pointer (some ⟨q, 0, none⟩) ∧ v12 = .bool ok ∧ Aside0 (wd.heap[q]? = some (bx a1 b1) ∧ wd.heap[w2.heap.size]? = some (bx a1 b1) ∧ Below w.heap.size w wd))
        case first =>
          go_region_with (first
            | (go_at_call 36; refine (HC.out.2.2 (by trivial) _ (HE.out _ (by with_reducible repeat (first | exact B2 | refine below_alloc ?_ _ | refine below_drew ?_))).2).mono ?_; rintro e w3 ⟨rfl, hb3⟩; obtain ⟨hc3, hf3⟩ := bcell hb3; have hz3 := hb3.size; simp at hz3; have H3 := Aside0.mk hb3; clear hb3))
          all_goals
            go_wp2_with fail
            go_meet
            case rel =>
              first
                | exact ⟨w3.heap.size, rfl, rfl, Aside0.mk ⟨blk_new w3 _, blk_alloc (blk_below (blk_drew hz.out.2.1) H3.out) _, below_alloc ((below_drew hz.out.2.2).trans (H3.out.mono (below_drew hz.out.2.2).size)) _⟩⟩
                | (have kz := blk_below (blk_drew (blk_new wc _)) H3.out
                   have k2 := blk_below (blk_drew (blk_alloc hz.out.2.1 _)) H3.out
                   have b2 := (below_drew (below_alloc hz.out.2.2 _)).trans (H3.out.mono (below_drew (below_alloc hz.out.2.2 _)).size)
                   have hlz := blk_lt hz.out.2.1
                   have hwz := hz.out.2.2.size
                   exact ⟨wc.heap.size, rfl, rfl, Aside0.mk ⟨blk_set (blk_set kz 0 _) 1 _, blk_far (blk_far k2 (p := ⟨wc.heap.size, 0, none⟩) (by simp; omega) _) (p := ⟨wc.heap.size, 1, none⟩) (by simp; omega) _, (b2.setCell (p := ⟨wc.heap.size, 0, none⟩) hwz _).setCell (p := ⟨wc.heap.size, 1, none⟩) hwz _⟩⟩)
        case rest =>
          clear B2 r0 r1 S5 hlt hz
          obtain ⟨q, rfl, rfl, hz⟩ := hcut
          have z0 := blk_cell hz.out.1 0
          have z1 := blk_cell hz.out.1 1
          have y0 := blk_cell hz.out.2.1 0
          have y1 := blk_cell hz.out.2.1 1
          simp at z0 z1 y0 y1
          have heq := HQ.out.2.1
          cases ok with
          | false =>
            obtain ⟨rfl, rfl⟩ := HP.out.2.1 (by trivial)
            go_wp2_with fail
            go_ret
            exact ⟨rfl, hz.out.2.2⟩
          | true =>
            by_cases hk0 : k = 0
            · subst hk0
              go_wp2_with fail
              go_ret
              exact ⟨rfl, hz.out.2.2⟩
            · have hk1 : 0 < k := by omega
              obtain ⟨d, hd16, ha16, hb16, hd, hcell⟩ := HP.out.2.2 (by trivial) hk1
              obtain ⟨ad, rfl, hbk, d0, d1, d2⟩ := hcell _ (HE.out _ hz.out.2.2).1
              obtain ⟨dm, da, dbs⟩ := d
              dsimp only at hd16 hd d0 d1 d2
              have hu55 := Try.underlying55
              go_wp2_with fail
              clear hbk d0 d1 d2 hcell
              have hlt2 := blk_lt hz.out.2.1
              have ha16' : (a1.size : Int) = 16 := by omega
              have hb16' : (b1.size : Int) = 16 := by omega
              rcases hd with ⟨rfl, h0, h1, h2⟩ | ⟨rfl, h0, h1, h2⟩
              all_goals
                obtain ⟨K, rfl⟩ := Int.eq_ofNat_of_zero_le h0
                rw [Int.toNat_natCast] at h2
                have hw1 : IntKind.i64.wrap ((K : Int) + dbs.size) = (K : Int) + dbs.size := by rw [IntKind.wrap_i64]; omega
                have S6 := fun W => slice_in 9 Try.underlying9 _ K (K + dbs.size) K ((K : Int) + dbs.size) rfl (by simp) (Nat.le_add_right _ _) (show K + dbs.size ≤ _ by omega) W (P := Try.prog) (h2 : ByteArray.extract _ _ _ = _)
                clear h0 h1 h2
                go_quiet (fail)
                go_wp2
                go_ret
                exact ⟨rfl, pw_below_drewN (below_alloc hz.out.2.2 _) nq⟩
end Go.Proofs.Ytiacmfgkbgfhkaa.Lin
