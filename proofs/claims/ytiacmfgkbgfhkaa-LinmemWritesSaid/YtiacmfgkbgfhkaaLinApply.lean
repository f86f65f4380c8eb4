/- Writes are applied to two memories, one behind the other, or refused: the program's function. No condition but that numbers and lengths are those of the language. -/
import Derived.Test.YtiacmfgkbgfhkaaLinNew
import Derived.Test.YtiacmfgkbgfhkaaLinOver
import Derived.BigQuiet
namespace Go.Proofs.Ytiacmfgkbgfhkaa.Lin
open Go.Ob Go.RowKit Go.Proofs.YtiacmfgkbgfhkaaW.PrintWords Go.Proofs.YtiacmfgkbgfhkaaW.PrintMore
attribute [local go_sem] max2_int min2_int max_two min_two
set_option linter.unusedVariables false
set_option linter.unusedSimpArgs false
abbrev M2 := ByteArray × ByteArray
/-- bytes laid over a memory -/
def wr1 (m : ByteArray) (K : Nat) (bs : ByteArray) : ByteArray := strOfNums (spl (bl m) K (bl bs))
def okW (m : M2) (d : D3) : Prop := (d.1 = 0 ∧ 0 ≤ d.2.1 ∧ d.2.1 + d.2.2.size ≤ m.1.size) ∨ (d.1 = 1 ∧ 0 ≤ d.2.1 ∧ d.2.1 + d.2.2.size ≤ m.2.size)
instance (m : M2) (d : D3) : Decidable (okW m d) := by unfold okW; infer_instance
def ap1 (m : M2) (d : D3) : Option M2 := if okW m d then some (if d.1 = 0 then (wr1 m.1 d.2.1.toNat d.2.2, m.2) else (m.1, wr1 m.2 d.2.1.toNat d.2.2)) else none
def apl (m : M2) : List D3 → Option M2
  | [] => some m
  | d :: ds => (ap1 m d).bind fun m' => apl m' ds
theorem apl_append (l k : List D3) : ∀ m, apl m (l ++ k) = (apl m l).bind fun m' => apl m' k := by
  induction l with
  | nil => exact fun m => rfl
  | cons d l ih =>
    intro m
    simp only [List.cons_append, apl]
    cases ap1 m d with
    | none => rfl
    | some m' => exact ih m'
theorem apl_snoc (m x : M2) (ds : List D3) (j : Nat) (hj : j < ds.length) (h : apl m (ds.take j) = some x) : apl m (ds.take (j + 1)) = ap1 x ds[j] := by
  rw [List.take_succ_eq_append_getElem hj, apl_append, h]
  simp only [Option.bind, apl]
  cases ap1 x ds[j] <;> rfl
theorem apl_none (m : M2) (ds : List D3) (j : Nat) (h : apl m (ds.take j) = none) : apl m ds = none := by
  rw [← List.take_append_drop j ds, apl_append, h]
  rfl
theorem wr1_size (m : ByteArray) (K : Nat) (bs : ByteArray) (h : K + bs.size ≤ m.size) : (wr1 m K bs).size = m.size := by
  have hb : ∀ x ∈ spl (bl m) K (bl bs), 0 ≤ x ∧ x < 256 := by
    intro x hx
    simp only [spl, List.mem_append] at hx
    rcases hx with hx | hx | hx
    · exact bl_bytes m x (List.mem_of_mem_take hx)
    · exact bl_bytes bs x hx
    · exact bl_bytes m x (List.mem_of_mem_drop hx)
  unfold wr1
  rw [← bl_length, bl_num _ hb, spl_length (by rw [bl_length, bl_length]; exact h), bl_length]
def resA : Option M2 → Value
  | some m => .tuple #[.agg #[.string m.1, .string m.2], .bool true]
  | none => .tuple #[.agg #[.string ⟨#[]⟩, .string ⟨#[]⟩], .bool false]
theorem nums_atF {w : World} {g : Nat} {k : IntKind} {xs : List Int} {t : TypeId} {fz : Nat × Nat} (h : w.heap[g]? = some (.cells (nums k xs).toArray t fz)) (i : Nat) (hi : i < xs.length) : w.cell? ⟨g, i, none⟩ = some (.int k (xs.getD i 0)) := by
  rw [cell_of_row w g i _ t fz h]
  simp [nums, hi, List.getD_eq_getElem?_getD]
set_option maxHeartbeats 16000000 in
set_option maxRecDepth 100000 in
theorem Apply (ma mb : ByteArray) (A : Option Addr) (ds : List D3) (n cap : Nat) (w : World) (hl : ds.length = n) (hn : n ≤ 9223372036854775807) (hd : CellsD w A ds) (hsz : ∀ d ∈ ds, d.2.2.size ≤ 9223372036854775807) (hat : ∀ d ∈ ds, -9223372036854775808 ≤ d.2.1 ∧ d.2.1 ≤ 9223372036854775807)
    (hma : ma.size ≤ 140737488351232) (hmb : mb.size ≤ 140737488351232) :
    Calls Try.prog 36 #[.agg #[.string ma, .string mb], .slice A n cap] w fun e w' => e = .returned (resA (apl (ma, mb) ds)) ∧ Below w.heap.size w w' := by
  have HD := Aside0.mk (And.intro hl (And.intro hd (And.intro hsz hat)))
  clear hl hd hsz hat
  go_enter Try.func36, Try.ntmps36
  go_wp2_with fail
  go_loopw [7, 8, 11] (fun _ _ i wr => ∃ j : Nat, ∃ x y : ByteArray, j ≤ n ∧ i = .int .i64 j ∧ apl (ma, mb) (ds.take j) = some (x, y) ∧ x.size = ma.size ∧ y.size = mb.size ∧ wr.heap[w.heap.size]? = some (.cells #[.string x, .string y] 51 (0, 0)) ∧
    wr.heap[w.heap.size + 1]? = some (.cells #[.string ⟨#[]⟩, .string ⟨#[]⟩] 51 (0, 0)) ∧ Below w.heap.size w wr) (fun _ _ i _ => n - (intOf i).toNat)
  case atStart =>
    refine ⟨0, ma, mb, Nat.zero_le _, rfl, rfl, rfl, rfl, ?_, ?_, ?_⟩
    · exact blk_alloc (blk_new w _) _
    · have := blk_new (w.alloc (.cells #[.string ma, .string mb] 51)) (.cells #[.string ⟨#[]⟩, .string ⟨#[]⟩] 51)
      rw [World.size_alloc] at this
      exact this
    · exact below_alloc (below_alloc (Below.refl _ _) _) _
  case round =>
    obtain ⟨j, x, y, hj, rfl, hap, hx, hy, hblk, hres, hbw⟩ := hrel
    by_cases hlt : j < n
    · obtain ⟨ad, rfl, hbk, d0, d1, d2⟩ := (HD.out.2.1.below hbw) j (by rw [HD.out.1]; exact hlt)
      have hst := apl_snoc (ma, mb) (x, y) ds j (by rw [HD.out.1]; exact hlt) hap
      have hds := HD.out.2.2.1 (ds[j]'(by rw [HD.out.1]; exact hlt)) (List.getElem_mem _)
      have hda := HD.out.2.2.2 (ds[j]'(by rw [HD.out.1]; exact hlt)) (List.getElem_mem _)
      have hu55 := Try.underlying55
      generalize ds[j]'(by rw [HD.out.1]; exact hlt) = d at *
      obtain ⟨dm, da, dbs⟩ := d
      dsimp only at d0 d1 d2 hds hda
      have m0 := blk_cell hblk 0
      have m1 := blk_cell hblk 1
      simp at m0 m1
      have hz := blk_lt hres
      have HB := Aside0.mk (And.intro hblk (And.intro hres (And.intro hbw hst)))
      have HS := Aside0.mk (And.intro hx hy)
      have hxs : x.size ≤ 140737488351232 := by omega
      have hys : y.size ≤ 140737488351232 := by omega
      clear hblk hres hbw hst hap hx hy hma hmb hds
      go_wp2_with fail
      have HBn := HB.out.2.2.2
      have cases6 : dm < 0 ∨ 1 < dm ∨ (dm = 0 ∧ da < 0) ∨ (dm = 1 ∧ da < 0) ∨ (dm = 0 ∧ (x.size : Int) < da) ∨ (dm = 1 ∧ (y.size : Int) < da) ∨ (dm = 0 ∧ 0 ≤ da ∧ da ≤ x.size ∧ (x.size : Int) - da < dbs.size) ∨
          (dm = 1 ∧ 0 ≤ da ∧ da ≤ y.size ∧ (y.size : Int) - da < dbs.size) ∨ (dm = 0 ∧ 0 ≤ da ∧ da + dbs.size ≤ x.size) ∨ (dm = 1 ∧ 0 ≤ da ∧ da + dbs.size ≤ y.size) := by omega
      rcases cases6 with h | h | ⟨rfl, h⟩ | ⟨rfl, h⟩ | ⟨rfl, h⟩ | ⟨rfl, h⟩ | ⟨rfl, h, h', h''⟩ | ⟨rfl, h, h', h''⟩ | ⟨rfl, h, h'⟩ | ⟨rfl, h, h'⟩
      rotate_left 8
      · clear HBn
        obtain ⟨K, rfl⟩ := Int.eq_ofNat_of_zero_le h
        have hw1 : IntKind.i64.wrap ((x.size : Int) - K) = (x.size : Int) - K := by rw [IntKind.wrap_i64]; omega
        have e0 : decide ((K : Int) < 0) = false := decide_eq_false (by omega)
        have e1 : decide (x.size < K) = false := decide_eq_false (by omega)
        have e2 : decide ((x.size : Int) - K < dbs.size) = false := decide_eq_false (by omega)
        have c0 := blk_cell (blk_drew (blk_alloc HB.out.1 (.cells #[.int .i64 0, .int .i64 (K : Int), .string dbs] 55))) 0
        simp at c0
        refine wp_region_still_lit (by kernel_rfl) (by kernel_rfl) ?_
        change wpStill _ _ (World.drew _) _ _ _
        repeat still_step
        refine wpStill_nil ?_
        change Exit.then _ _ _ _ (World.drew _)
        clear hw1 e0 e1 e2 c0
        obtain ⟨W, hW⟩ : ∃ W, (wr.alloc (.cells #[.int .i64 0, .int .i64 (K : Int), .string dbs] 55)).drew = W := ⟨_, rfl⟩
        have kD : W.heap[wr.heap.size]? = some (.cells #[.int .i64 0, .int .i64 (K : Int), .string dbs] 55 (0, 0)) := by rw [← hW]; exact blk_drew (blk_new wr _)
        have kM : W.heap[w.heap.size]? = some (.cells #[.string x, .string y] 51 (0, 0)) := by rw [← hW]; exact blk_drew (blk_alloc HB.out.1 _)
        have kR : W.heap[w.heap.size + 1]? = some (.cells #[.string ⟨#[]⟩, .string ⟨#[]⟩] 51 (0, 0)) := by rw [← hW]; exact blk_drew (blk_alloc HB.out.2.1 _)
        have kB : Below w.heap.size w W := by rw [← hW]; exact below_drew (below_alloc HB.out.2.2.1 _)
        have kz : W.heap.size = wr.heap.size + 1 := by rw [← hW]; exact World.size_alloc _ _
        rw [hW]
        clear hW m0 m1 d0 d1 d2 hbk hu55
        have q0 := blk_cell kD 0
        have q1 := blk_cell kD 1
        have q2 := blk_cell kD 2
        have r0 := blk_cell kM 0
        have r1 := blk_cell kM 1
        simp at q0 q1 q2 r0 r1
        have hcvt := Lib.run_convert_string_bytes (P := Try.prog) W 9 61 5 x Try.underlying9 Try.underlying61 Try.underlying5
        obtain ⟨z, fz, hrow, hfz⟩ := bytes_row W x
        have kD2 := (bytes_old W x _ (blk_lt kD)).trans kD
        have kM2 := (bytes_old W x _ (blk_lt kM)).trans kM
        have kR2 := (bytes_old W x _ (blk_lt kR)).trans kR
        have kB2 := bytes_below kB (by omega) x
        have kz2 : (Lib.bytesWorld W 5 x).heap.size = wr.heap.size + 2 := by rw [Lib.bytesWorld_size, kz]
        obtain ⟨W2, hW2⟩ : ∃ W2, Lib.bytesWorld W 5 x = W2 := ⟨_, rfl⟩
        obtain ⟨c, hc⟩ : ∃ c, grownCap W x.size 0 5 = c := ⟨_, rfl⟩
        have hcc : x.size ≤ c := by rw [← hc]; exact grownCap_ge _ _ _ _
        rw [hW2] at hcvt hrow kD2 kM2 kR2 kB2 kz2
        rw [hc, kz] at hcvt
        rw [kz] at hrow
        clear hW2 hc kD kM kR kB
        have p1 := blk_cell kD2 1
        have p2 := blk_cell kD2 2
        have p0 := blk_cell kD2 0
        simp at p0 p1 p2
        have HK := Aside0.mk (And.intro kD2 (And.intro kM2 (And.intro kR2 (And.intro kB2 (And.intro kz2 (And.intro hrow hfz))))))
        clear kD2 kM2 kR2 kB2 hrow hfz
        go_wp2_with fail
        have hle : K ≤ x.size := by omega
        have hlc : K ≤ c := by omega
        have hX : ∃ X, spl (bl x) K (bl dbs) = X ∧ X.length = x.size ∧ wr1 x K dbs = strOfNums X := ⟨_, rfl, by rw [spl_length (by rw [bl_length, bl_length]; omega), bl_length], rfl⟩
        obtain ⟨X, hX1, hX2, hX3⟩ := hX
        have hfin : okW (x, y) (0, (K : Int), dbs) := .inl ⟨rfl, by omega, by show (K : Int) + dbs.size ≤ x.size; omega⟩
        have hap : apl (ma, mb) (ds.take (j + 1)) = some (strOfNums X, y) := by
          rw [HB.out.2.2.2]
          unfold ap1
          rw [if_pos hfin, if_pos rfl]
          simp only [Int.toNat_natCast, hX3]
        have hsX : (strOfNums X).size = ma.size := by rw [strOfNums_size, hX2]; exact HS.out.1
        have HA := Aside0.mk (And.intro hap hsX)
        clear hap hsX hfin hX3 hcvt
        have hne : c = K ∨ (c = K) = False := by
          by_cases h : c = K
          · exact .inl h
          · exact .inr (eq_false h)
        have fin : ∀ off : Nat, off = K ∨ c = K ∧ off = 0 → off + (x.size - K) ≤ x.size ∧ spl (bl x ++ z) off ((bl dbs).take (x.size - K)) = X ++ z := by
          intro off ho
          have ht : (bl dbs).take (x.size - K) = bl dbs := List.take_of_length_le (by rw [bl_length]; omega)
          rw [ht]
          rcases ho with rfl | ⟨hck, rfl⟩
          · exact ⟨by omega, by rw [spl_append _ _ _ _ (by rw [bl_length, bl_length]; omega), hX1]⟩
          · have h0 : bl dbs = [] := List.eq_nil_of_length_eq_zero (by rw [bl_length]; omega)
            rw [h0, spl_nil] at hX1
            rw [h0, spl_nil, hX1]
            exact ⟨by omega, rfl⟩
        rcases hne with hne | hne
        all_goals
          refine wp_region_still_tail 6 (by kernel_rfl) (by kernel_rfl) ?_
          change wpStill _ _ (World.drew _) _ _ _
          simp only [List.take_succ_cons, List.take_zero, List.drop_succ_cons, List.drop_zero]
          repeat still_step
          try refine wpStill_nil ?_
          have hg := blk_drew HK.out.2.2.2.2.2.1
          have hbb := below_drew HK.out.2.2.2.1
          have hfz := HK.out.2.2.2.2.2.2
          have hlen : (bl x ++ z).length = x.size + z.length := by rw [List.length_append, bl_length]
          first
            | (have ho := fin K (.inl rfl)
               refine wpList_copy_blT rfl (.tmp 61) (.tmp 63) 61 9 rfl 5 Try.underlying61 info5 (wr.heap.size + 1) K (x.size - K) _ rfl dbs rfl _ 5 fz hg (by omega) (by rw [hlen]; omega) w.heap.size w hbb (by omega) ?_)
            | (have ho := fin 0 (.inr ⟨hne, rfl⟩)
               refine wpList_copy_blT rfl (.tmp 61) (.tmp 63) 61 9 rfl 5 Try.underlying61 info5 (wr.heap.size + 1) 0 (x.size - K) _ rfl dbs rfl _ 5 fz hg (by omega) (by rw [hlen]; omega) w.heap.size w hbb (by omega) ?_)
          rw [ho.2]
          clear ho fin hg hbb hlen
          intro W3 HC hb3 hk3 hz3
          have kD := (hk3 wr.heap.size (by omega)).trans HK.out.1
          have kM := (hk3 w.heap.size (by omega)).trans HK.out.2.1
          have kR := (hk3 (w.heap.size + 1) (by omega)).trans HK.out.2.2.1
          have hcv : (convert 61 9 (.slice (some ⟨wr.heap.size + 1, 0, none⟩) x.size c)).run Try.prog W3 = .ok (.string (strOfNums X)) W3 :=
            run_convert_bytes_arg W3 61 5 Try.underlying61 Try.underlying5 (wr.heap.size + 1) 0 x.size c X hX2 (fun i hi => by
              have hlz : i < (X ++ z).length := by rw [List.length_append, hX2]; omega
              have h1 := nums_atF HC.out i hlz
              rw [Nat.zero_add, h1]
              simp [List.getD_eq_getElem?_getD, List.getElem?_append, hX2, hi]) 9 Try.underlying9
          try rw [show c = K from hne] at hcv
          have p1 := blk_cell kD 1
          have p2 := blk_cell kD 2
          have p0 := blk_cell kD 0
          simp at p0 p1 p2
          have r0 := blk_cell kM 0
          have rf := blk_frozen kM 0
          simp at r0
          have HZ := Aside0.mk (And.intro kM (And.intro kR hb3))
          clear kD kM kR hb3 hk3 hfz HC
          go_wp2_with fail
          refine ⟨⟨j + 1, strOfNums X, y, hlt, rfl, HA.out.1, HA.out.2, HS.out.2, blk_set HZ.out.1 0 _, blk_far HZ.out.2.1 (p := ⟨w.heap.size, 0, none⟩) (by simp) _, HZ.out.2.2.setCell (p := ⟨w.heap.size, 0, none⟩) (Nat.le_refl _) _⟩, by simp [intOf]; omega⟩
      · clear HBn
        obtain ⟨K, rfl⟩ := Int.eq_ofNat_of_zero_le h
        have hw1 : IntKind.i64.wrap ((y.size : Int) - K) = (y.size : Int) - K := by rw [IntKind.wrap_i64]; omega
        have e0 : decide ((K : Int) < 0) = false := decide_eq_false (by omega)
        have e1 : decide (y.size < K) = false := decide_eq_false (by omega)
        have e2 : decide ((y.size : Int) - K < dbs.size) = false := decide_eq_false (by omega)
        have c0 := blk_cell (blk_drew (blk_alloc HB.out.1 (.cells #[.int .i64 1, .int .i64 (K : Int), .string dbs] 55))) 1
        simp at c0
        refine wp_region_still_lit (by kernel_rfl) (by kernel_rfl) ?_
        change wpStill _ _ (World.drew _) _ _ _
        repeat still_step
        refine wpStill_nil ?_
        change Exit.then _ _ _ _ (World.drew _)
        clear hw1 e0 e1 e2 c0
        obtain ⟨W, hW⟩ : ∃ W, (wr.alloc (.cells #[.int .i64 1, .int .i64 (K : Int), .string dbs] 55)).drew = W := ⟨_, rfl⟩
        have kD : W.heap[wr.heap.size]? = some (.cells #[.int .i64 1, .int .i64 (K : Int), .string dbs] 55 (0, 0)) := by rw [← hW]; exact blk_drew (blk_new wr _)
        have kM : W.heap[w.heap.size]? = some (.cells #[.string x, .string y] 51 (0, 0)) := by rw [← hW]; exact blk_drew (blk_alloc HB.out.1 _)
        have kR : W.heap[w.heap.size + 1]? = some (.cells #[.string ⟨#[]⟩, .string ⟨#[]⟩] 51 (0, 0)) := by rw [← hW]; exact blk_drew (blk_alloc HB.out.2.1 _)
        have kB : Below w.heap.size w W := by rw [← hW]; exact below_drew (below_alloc HB.out.2.2.1 _)
        have kz : W.heap.size = wr.heap.size + 1 := by rw [← hW]; exact World.size_alloc _ _
        rw [hW]
        clear hW m0 m1 d0 d1 d2 hbk hu55
        have q0 := blk_cell kD 0
        have q1 := blk_cell kD 1
        have q2 := blk_cell kD 2
        have r0 := blk_cell kM 0
        have r1 := blk_cell kM 1
        simp at q0 q1 q2 r0 r1
        have hcvt := Lib.run_convert_string_bytes (P := Try.prog) W 9 61 5 y Try.underlying9 Try.underlying61 Try.underlying5
        obtain ⟨z, fz, hrow, hfz⟩ := bytes_row W y
        have kD2 := (bytes_old W y _ (blk_lt kD)).trans kD
        have kM2 := (bytes_old W y _ (blk_lt kM)).trans kM
        have kR2 := (bytes_old W y _ (blk_lt kR)).trans kR
        have kB2 := bytes_below kB (by omega) y
        have kz2 : (Lib.bytesWorld W 5 y).heap.size = wr.heap.size + 2 := by rw [Lib.bytesWorld_size, kz]
        obtain ⟨W2, hW2⟩ : ∃ W2, Lib.bytesWorld W 5 y = W2 := ⟨_, rfl⟩
        obtain ⟨c, hc⟩ : ∃ c, grownCap W y.size 0 5 = c := ⟨_, rfl⟩
        have hcc : y.size ≤ c := by rw [← hc]; exact grownCap_ge _ _ _ _
        rw [hW2] at hcvt hrow kD2 kM2 kR2 kB2 kz2
        rw [hc, kz] at hcvt
        rw [kz] at hrow
        clear hW2 hc kD kM kR kB
        have p1 := blk_cell kD2 1
        have p2 := blk_cell kD2 2
        have p0 := blk_cell kD2 0
        simp at p0 p1 p2
        have HK := Aside0.mk (And.intro kD2 (And.intro kM2 (And.intro kR2 (And.intro kB2 (And.intro kz2 (And.intro hrow hfz))))))
        clear kD2 kM2 kR2 kB2 hrow hfz
        go_wp2_with fail
        have hle : K ≤ y.size := by omega
        have hlc : K ≤ c := by omega
        have hX : ∃ X, spl (bl y) K (bl dbs) = X ∧ X.length = y.size ∧ wr1 y K dbs = strOfNums X := ⟨_, rfl, by rw [spl_length (by rw [bl_length, bl_length]; omega), bl_length], rfl⟩
        obtain ⟨X, hX1, hX2, hX3⟩ := hX
        have hfin : okW (x, y) (1, (K : Int), dbs) := .inr ⟨rfl, by omega, by show (K : Int) + dbs.size ≤ y.size; omega⟩
        have hap : apl (ma, mb) (ds.take (j + 1)) = some (x, strOfNums X) := by
          rw [HB.out.2.2.2]
          unfold ap1
          rw [if_pos hfin, if_neg (show ¬((1 : Int) = 0) by decide)]
          simp only [Int.toNat_natCast, hX3]
        have hsX : (strOfNums X).size = mb.size := by rw [strOfNums_size, hX2]; exact HS.out.2
        have HA := Aside0.mk (And.intro hap hsX)
        clear hap hsX hfin hX3 hcvt
        have hne : c = K ∨ (c = K) = False := by
          by_cases h : c = K
          · exact .inl h
          · exact .inr (eq_false h)
        have fin : ∀ off : Nat, off = K ∨ c = K ∧ off = 0 → off + (y.size - K) ≤ y.size ∧ spl (bl y ++ z) off ((bl dbs).take (y.size - K)) = X ++ z := by
          intro off ho
          have ht : (bl dbs).take (y.size - K) = bl dbs := List.take_of_length_le (by rw [bl_length]; omega)
          rw [ht]
          rcases ho with rfl | ⟨hck, rfl⟩
          · exact ⟨by omega, by rw [spl_append _ _ _ _ (by rw [bl_length, bl_length]; omega), hX1]⟩
          · have h0 : bl dbs = [] := List.eq_nil_of_length_eq_zero (by rw [bl_length]; omega)
            rw [h0, spl_nil] at hX1
            rw [h0, spl_nil, hX1]
            exact ⟨by omega, rfl⟩
        rcases hne with hne | hne
        all_goals
          refine wp_region_still_tail 6 (by kernel_rfl) (by kernel_rfl) ?_
          change wpStill _ _ (World.drew _) _ _ _
          simp only [List.take_succ_cons, List.take_zero, List.drop_succ_cons, List.drop_zero]
          repeat still_step
          try refine wpStill_nil ?_
          have hg := blk_drew HK.out.2.2.2.2.2.1
          have hbb := below_drew HK.out.2.2.2.1
          have hfz := HK.out.2.2.2.2.2.2
          have hlen : (bl y ++ z).length = y.size + z.length := by rw [List.length_append, bl_length]
          first
            | (have ho := fin K (.inl rfl)
               refine wpList_copy_blT rfl (.tmp 61) (.tmp 63) 61 9 rfl 5 Try.underlying61 info5 (wr.heap.size + 1) K (y.size - K) _ rfl dbs rfl _ 5 fz hg (by omega) (by rw [hlen]; omega) w.heap.size w hbb (by omega) ?_)
            | (have ho := fin 0 (.inr ⟨hne, rfl⟩)
               refine wpList_copy_blT rfl (.tmp 61) (.tmp 63) 61 9 rfl 5 Try.underlying61 info5 (wr.heap.size + 1) 0 (y.size - K) _ rfl dbs rfl _ 5 fz hg (by omega) (by rw [hlen]; omega) w.heap.size w hbb (by omega) ?_)
          rw [ho.2]
          clear ho fin hg hbb hlen
          intro W3 HC hb3 hk3 hz3
          have kD := (hk3 wr.heap.size (by omega)).trans HK.out.1
          have kM := (hk3 w.heap.size (by omega)).trans HK.out.2.1
          have kR := (hk3 (w.heap.size + 1) (by omega)).trans HK.out.2.2.1
          have hcv : (convert 61 9 (.slice (some ⟨wr.heap.size + 1, 0, none⟩) y.size c)).run Try.prog W3 = .ok (.string (strOfNums X)) W3 :=
            run_convert_bytes_arg W3 61 5 Try.underlying61 Try.underlying5 (wr.heap.size + 1) 0 y.size c X hX2 (fun i hi => by
              have hlz : i < (X ++ z).length := by rw [List.length_append, hX2]; omega
              have h1 := nums_atF HC.out i hlz
              rw [Nat.zero_add, h1]
              simp [List.getD_eq_getElem?_getD, List.getElem?_append, hX2, hi]) 9 Try.underlying9
          try rw [show c = K from hne] at hcv
          have p1 := blk_cell kD 1
          have p2 := blk_cell kD 2
          have p0 := blk_cell kD 0
          simp at p0 p1 p2
          have r0 := blk_cell kM 1
          have rf := blk_frozen kM 1
          simp at r0
          have HZ := Aside0.mk (And.intro kM (And.intro kR hb3))
          clear kD kM kR hb3 hk3 hfz HC
          go_wp2_with fail
          refine ⟨⟨j + 1, x, strOfNums X, hlt, rfl, HA.out.1, HS.out.1, HA.out.2, blk_set HZ.out.1 1 _, blk_far HZ.out.2.1 (p := ⟨w.heap.size, 1, none⟩) (by simp) _, HZ.out.2.2.setCell (p := ⟨w.heap.size, 1, none⟩) (Nat.le_refl _) _⟩, by simp [intOf]; omega⟩
      · have hap : ap1 (x, y) (dm, da, dbs) = none := by
          unfold ap1
          rw [if_neg (by unfold okW; dsimp only; omega)]
        rw [hap] at HBn
        have hno := Aside0.mk (apl_none _ _ _ HBn)
        have e0 : decide (dm < 0) = true := decide_eq_true (by omega)
        clear hap HBn
        go_quiet (fail)
        obtain ⟨W, hW⟩ : ∃ W, (wr.alloc (.cells #[.int .i64 dm, .int .i64 da, .string dbs] 55)).drewN nq = W := ⟨_, rfl⟩
        have kR : W.heap[w.heap.size + 1]? = some (.cells #[.string ⟨#[]⟩, .string ⟨#[]⟩] 51 (0, 0)) := by rw [← hW]; exact blk_drewN (blk_alloc HB.out.2.1 _) nq
        have kB : Below w.heap.size w W := by rw [← hW]; exact pw_below_drewN (below_alloc HB.out.2.2.1 _) nq
        have s0 := blk_cell kR 0
        have s1 := blk_cell kR 1
        have g0 := blk_frozen kR 0
        have g1 := blk_frozen kR 1
        simp at s0 s1
        have HZ := Aside0.mk (And.intro kB (And.intro hno.out kR))
        clear kB kR hno
        rw [hW]
        clear hW m0 m1 d0 d1 d2
        go_wp2
        obtain ⟨W5, hW5⟩ : ∃ W5, (W.setCell ⟨w.heap.size + 1, 0, none⟩ (.string ⟨#[]⟩)).setCell ⟨w.heap.size + 1, 1, none⟩ (.string ⟨#[]⟩) = W5 := ⟨_, rfl⟩
        have kF : W5.heap[w.heap.size + 1]? = some (.cells #[.string ⟨#[]⟩, .string ⟨#[]⟩] 51 (0, 0)) := by rw [← hW5]; exact blk_set (blk_set HZ.out.2.2 0 _) 1 _
        have kB5 : Below w.heap.size w W5 := by rw [← hW5]; exact (HZ.out.1.setCell (p := ⟨w.heap.size + 1, 0, none⟩) (Nat.le_succ _) _).setCell (p := ⟨w.heap.size + 1, 1, none⟩) (Nat.le_succ _) _
        rw [hW5]
        clear hW5
        have z0 := blk_cell kF 0
        have z1 := blk_cell kF 1
        simp at z0 z1
        refine bodyPost_ret (v := .tuple #[.agg #[.string ⟨#[]⟩, .string ⟨#[]⟩], .bool false]) (by simp [results, Try.results36, go_sem, z0, z1]) rfl ⟨?_, kB5⟩
        rw [HZ.out.2.1]
        rfl
      · have hap : ap1 (x, y) (dm, da, dbs) = none := by
          unfold ap1
          rw [if_neg (by unfold okW; dsimp only; omega)]
        rw [hap] at HBn
        have hno := Aside0.mk (apl_none _ _ _ HBn)
        have e0 : decide (dm < 0) = false := decide_eq_false (by omega)
        have e1 : decide (1 < dm) = true := decide_eq_true (by omega)
        clear hap HBn
        go_quiet (fail)
        obtain ⟨W, hW⟩ : ∃ W, (wr.alloc (.cells #[.int .i64 dm, .int .i64 da, .string dbs] 55)).drewN nq = W := ⟨_, rfl⟩
        have kR : W.heap[w.heap.size + 1]? = some (.cells #[.string ⟨#[]⟩, .string ⟨#[]⟩] 51 (0, 0)) := by rw [← hW]; exact blk_drewN (blk_alloc HB.out.2.1 _) nq
        have kB : Below w.heap.size w W := by rw [← hW]; exact pw_below_drewN (below_alloc HB.out.2.2.1 _) nq
        have s0 := blk_cell kR 0
        have s1 := blk_cell kR 1
        have g0 := blk_frozen kR 0
        have g1 := blk_frozen kR 1
        simp at s0 s1
        have HZ := Aside0.mk (And.intro kB (And.intro hno.out kR))
        clear kB kR hno
        rw [hW]
        clear hW m0 m1 d0 d1 d2
        go_wp2
        obtain ⟨W5, hW5⟩ : ∃ W5, (W.setCell ⟨w.heap.size + 1, 0, none⟩ (.string ⟨#[]⟩)).setCell ⟨w.heap.size + 1, 1, none⟩ (.string ⟨#[]⟩) = W5 := ⟨_, rfl⟩
        have kF : W5.heap[w.heap.size + 1]? = some (.cells #[.string ⟨#[]⟩, .string ⟨#[]⟩] 51 (0, 0)) := by rw [← hW5]; exact blk_set (blk_set HZ.out.2.2 0 _) 1 _
        have kB5 : Below w.heap.size w W5 := by rw [← hW5]; exact (HZ.out.1.setCell (p := ⟨w.heap.size + 1, 0, none⟩) (Nat.le_succ _) _).setCell (p := ⟨w.heap.size + 1, 1, none⟩) (Nat.le_succ _) _
        rw [hW5]
        clear hW5
        have z0 := blk_cell kF 0
        have z1 := blk_cell kF 1
        simp at z0 z1
        refine bodyPost_ret (v := .tuple #[.agg #[.string ⟨#[]⟩, .string ⟨#[]⟩], .bool false]) (by simp [results, Try.results36, go_sem, z0, z1]) rfl ⟨?_, kB5⟩
        rw [HZ.out.2.1]
        rfl
      · have hap : ap1 (x, y) (0, da, dbs) = none := by
          unfold ap1
          rw [if_neg (by unfold okW; dsimp only; omega)]
        rw [hap] at HBn
        have hno := Aside0.mk (apl_none _ _ _ HBn)
        have e0 : decide (da < 0) = true := decide_eq_true (by omega)
        clear hap HBn
        go_quiet (fail)
        obtain ⟨W, hW⟩ : ∃ W, (wr.alloc (.cells #[.int .i64 0, .int .i64 da, .string dbs] 55)).drewN nq = W := ⟨_, rfl⟩
        have kR : W.heap[w.heap.size + 1]? = some (.cells #[.string ⟨#[]⟩, .string ⟨#[]⟩] 51 (0, 0)) := by rw [← hW]; exact blk_drewN (blk_alloc HB.out.2.1 _) nq
        have kB : Below w.heap.size w W := by rw [← hW]; exact pw_below_drewN (below_alloc HB.out.2.2.1 _) nq
        have s0 := blk_cell kR 0
        have s1 := blk_cell kR 1
        have g0 := blk_frozen kR 0
        have g1 := blk_frozen kR 1
        simp at s0 s1
        have HZ := Aside0.mk (And.intro kB (And.intro hno.out kR))
        clear kB kR hno
        rw [hW]
        clear hW m0 m1 d0 d1 d2
        go_wp2
        obtain ⟨W5, hW5⟩ : ∃ W5, (W.setCell ⟨w.heap.size + 1, 0, none⟩ (.string ⟨#[]⟩)).setCell ⟨w.heap.size + 1, 1, none⟩ (.string ⟨#[]⟩) = W5 := ⟨_, rfl⟩
        have kF : W5.heap[w.heap.size + 1]? = some (.cells #[.string ⟨#[]⟩, .string ⟨#[]⟩] 51 (0, 0)) := by rw [← hW5]; exact blk_set (blk_set HZ.out.2.2 0 _) 1 _
        have kB5 : Below w.heap.size w W5 := by rw [← hW5]; exact (HZ.out.1.setCell (p := ⟨w.heap.size + 1, 0, none⟩) (Nat.le_succ _) _).setCell (p := ⟨w.heap.size + 1, 1, none⟩) (Nat.le_succ _) _
        rw [hW5]
        clear hW5
        have z0 := blk_cell kF 0
        have z1 := blk_cell kF 1
        simp at z0 z1
        refine bodyPost_ret (v := .tuple #[.agg #[.string ⟨#[]⟩, .string ⟨#[]⟩], .bool false]) (by simp [results, Try.results36, go_sem, z0, z1]) rfl ⟨?_, kB5⟩
        rw [HZ.out.2.1]
        rfl
      · have hap : ap1 (x, y) (1, da, dbs) = none := by
          unfold ap1
          rw [if_neg (by unfold okW; dsimp only; omega)]
        rw [hap] at HBn
        have hno := Aside0.mk (apl_none _ _ _ HBn)
        have e0 : decide (da < 0) = true := decide_eq_true (by omega)
        clear hap HBn
        go_quiet (fail)
        obtain ⟨W, hW⟩ : ∃ W, (wr.alloc (.cells #[.int .i64 1, .int .i64 da, .string dbs] 55)).drewN nq = W := ⟨_, rfl⟩
        have kR : W.heap[w.heap.size + 1]? = some (.cells #[.string ⟨#[]⟩, .string ⟨#[]⟩] 51 (0, 0)) := by rw [← hW]; exact blk_drewN (blk_alloc HB.out.2.1 _) nq
        have kB : Below w.heap.size w W := by rw [← hW]; exact pw_below_drewN (below_alloc HB.out.2.2.1 _) nq
        have s0 := blk_cell kR 0
        have s1 := blk_cell kR 1
        have g0 := blk_frozen kR 0
        have g1 := blk_frozen kR 1
        simp at s0 s1
        have HZ := Aside0.mk (And.intro kB (And.intro hno.out kR))
        clear kB kR hno
        rw [hW]
        clear hW m0 m1 d0 d1 d2
        go_wp2
        obtain ⟨W5, hW5⟩ : ∃ W5, (W.setCell ⟨w.heap.size + 1, 0, none⟩ (.string ⟨#[]⟩)).setCell ⟨w.heap.size + 1, 1, none⟩ (.string ⟨#[]⟩) = W5 := ⟨_, rfl⟩
        have kF : W5.heap[w.heap.size + 1]? = some (.cells #[.string ⟨#[]⟩, .string ⟨#[]⟩] 51 (0, 0)) := by rw [← hW5]; exact blk_set (blk_set HZ.out.2.2 0 _) 1 _
        have kB5 : Below w.heap.size w W5 := by rw [← hW5]; exact (HZ.out.1.setCell (p := ⟨w.heap.size + 1, 0, none⟩) (Nat.le_succ _) _).setCell (p := ⟨w.heap.size + 1, 1, none⟩) (Nat.le_succ _) _
        rw [hW5]
        clear hW5
        have z0 := blk_cell kF 0
        have z1 := blk_cell kF 1
        simp at z0 z1
        refine bodyPost_ret (v := .tuple #[.agg #[.string ⟨#[]⟩, .string ⟨#[]⟩], .bool false]) (by simp [results, Try.results36, go_sem, z0, z1]) rfl ⟨?_, kB5⟩
        rw [HZ.out.2.1]
        rfl
      · obtain ⟨K, rfl⟩ := Int.eq_ofNat_of_zero_le (show 0 ≤ da by omega)
        have hap : ap1 (x, y) (0, (K : Int), dbs) = none := by
          unfold ap1
          rw [if_neg (by unfold okW; dsimp only; omega)]
        rw [hap] at HBn
        have hno := Aside0.mk (apl_none _ _ _ HBn)
        have e0 : decide ((K : Int) < 0) = false := decide_eq_false (by omega)
        have e1 : decide (x.size < K) = true := decide_eq_true (by omega)
        have c0 := blk_cell (blk_drew (blk_alloc HB.out.1 (.cells #[.int .i64 0, .int .i64 (K : Int), .string dbs] 55))) 0
        simp at c0
        clear hap HBn
        go_quiet (fail)
        obtain ⟨W, hW⟩ : ∃ W, (wr.alloc (.cells #[.int .i64 0, .int .i64 (K : Int), .string dbs] 55)).drewN nq = W := ⟨_, rfl⟩
        have kR : W.heap[w.heap.size + 1]? = some (.cells #[.string ⟨#[]⟩, .string ⟨#[]⟩] 51 (0, 0)) := by rw [← hW]; exact blk_drewN (blk_alloc HB.out.2.1 _) nq
        have kB : Below w.heap.size w W := by rw [← hW]; exact pw_below_drewN (below_alloc HB.out.2.2.1 _) nq
        have s0 := blk_cell kR 0
        have s1 := blk_cell kR 1
        have g0 := blk_frozen kR 0
        have g1 := blk_frozen kR 1
        simp at s0 s1
        have HZ := Aside0.mk (And.intro kB (And.intro hno.out kR))
        clear kB kR hno
        rw [hW]
        clear hW m0 m1 d0 d1 d2
        go_wp2
        obtain ⟨W5, hW5⟩ : ∃ W5, (W.setCell ⟨w.heap.size + 1, 0, none⟩ (.string ⟨#[]⟩)).setCell ⟨w.heap.size + 1, 1, none⟩ (.string ⟨#[]⟩) = W5 := ⟨_, rfl⟩
        have kF : W5.heap[w.heap.size + 1]? = some (.cells #[.string ⟨#[]⟩, .string ⟨#[]⟩] 51 (0, 0)) := by rw [← hW5]; exact blk_set (blk_set HZ.out.2.2 0 _) 1 _
        have kB5 : Below w.heap.size w W5 := by rw [← hW5]; exact (HZ.out.1.setCell (p := ⟨w.heap.size + 1, 0, none⟩) (Nat.le_succ _) _).setCell (p := ⟨w.heap.size + 1, 1, none⟩) (Nat.le_succ _) _
        rw [hW5]
        clear hW5
        have z0 := blk_cell kF 0
        have z1 := blk_cell kF 1
        simp at z0 z1
        refine bodyPost_ret (v := .tuple #[.agg #[.string ⟨#[]⟩, .string ⟨#[]⟩], .bool false]) (by simp [results, Try.results36, go_sem, z0, z1]) rfl ⟨?_, kB5⟩
        rw [HZ.out.2.1]
        rfl
      · obtain ⟨K, rfl⟩ := Int.eq_ofNat_of_zero_le (show 0 ≤ da by omega)
        have hap : ap1 (x, y) (1, (K : Int), dbs) = none := by
          unfold ap1
          rw [if_neg (by unfold okW; dsimp only; omega)]
        rw [hap] at HBn
        have hno := Aside0.mk (apl_none _ _ _ HBn)
        have e0 : decide ((K : Int) < 0) = false := decide_eq_false (by omega)
        have e1 : decide (y.size < K) = true := decide_eq_true (by omega)
        have c0 := blk_cell (blk_drew (blk_alloc HB.out.1 (.cells #[.int .i64 1, .int .i64 (K : Int), .string dbs] 55))) 1
        simp at c0
        clear hap HBn
        go_quiet (fail)
        obtain ⟨W, hW⟩ : ∃ W, (wr.alloc (.cells #[.int .i64 1, .int .i64 (K : Int), .string dbs] 55)).drewN nq = W := ⟨_, rfl⟩
        have kR : W.heap[w.heap.size + 1]? = some (.cells #[.string ⟨#[]⟩, .string ⟨#[]⟩] 51 (0, 0)) := by rw [← hW]; exact blk_drewN (blk_alloc HB.out.2.1 _) nq
        have kB : Below w.heap.size w W := by rw [← hW]; exact pw_below_drewN (below_alloc HB.out.2.2.1 _) nq
        have s0 := blk_cell kR 0
        have s1 := blk_cell kR 1
        have g0 := blk_frozen kR 0
        have g1 := blk_frozen kR 1
        simp at s0 s1
        have HZ := Aside0.mk (And.intro kB (And.intro hno.out kR))
        clear kB kR hno
        rw [hW]
        clear hW m0 m1 d0 d1 d2
        go_wp2
        obtain ⟨W5, hW5⟩ : ∃ W5, (W.setCell ⟨w.heap.size + 1, 0, none⟩ (.string ⟨#[]⟩)).setCell ⟨w.heap.size + 1, 1, none⟩ (.string ⟨#[]⟩) = W5 := ⟨_, rfl⟩
        have kF : W5.heap[w.heap.size + 1]? = some (.cells #[.string ⟨#[]⟩, .string ⟨#[]⟩] 51 (0, 0)) := by rw [← hW5]; exact blk_set (blk_set HZ.out.2.2 0 _) 1 _
        have kB5 : Below w.heap.size w W5 := by rw [← hW5]; exact (HZ.out.1.setCell (p := ⟨w.heap.size + 1, 0, none⟩) (Nat.le_succ _) _).setCell (p := ⟨w.heap.size + 1, 1, none⟩) (Nat.le_succ _) _
        rw [hW5]
        clear hW5
        have z0 := blk_cell kF 0
        have z1 := blk_cell kF 1
        simp at z0 z1
        refine bodyPost_ret (v := .tuple #[.agg #[.string ⟨#[]⟩, .string ⟨#[]⟩], .bool false]) (by simp [results, Try.results36, go_sem, z0, z1]) rfl ⟨?_, kB5⟩
        rw [HZ.out.2.1]
        rfl
      · obtain ⟨K, rfl⟩ := Int.eq_ofNat_of_zero_le (show 0 ≤ da by omega)
        have hap : ap1 (x, y) (0, (K : Int), dbs) = none := by
          unfold ap1
          rw [if_neg (by unfold okW; dsimp only; omega)]
        rw [hap] at HBn
        have hno := Aside0.mk (apl_none _ _ _ HBn)
        have hw1 : IntKind.i64.wrap ((x.size : Int) - K) = (x.size : Int) - K := by rw [IntKind.wrap_i64]; omega
        have e0 : decide ((K : Int) < 0) = false := decide_eq_false (by omega)
        have e1 : decide (x.size < K) = false := decide_eq_false (by omega)
        have e2 : decide ((x.size : Int) - K < dbs.size) = true := decide_eq_true (by omega)
        have c0 := blk_cell (blk_drew (blk_alloc HB.out.1 (.cells #[.int .i64 0, .int .i64 (K : Int), .string dbs] 55))) 0
        simp at c0
        clear hap HBn
        go_quiet (fail)
        obtain ⟨W, hW⟩ : ∃ W, (wr.alloc (.cells #[.int .i64 0, .int .i64 (K : Int), .string dbs] 55)).drewN nq = W := ⟨_, rfl⟩
        have kR : W.heap[w.heap.size + 1]? = some (.cells #[.string ⟨#[]⟩, .string ⟨#[]⟩] 51 (0, 0)) := by rw [← hW]; exact blk_drewN (blk_alloc HB.out.2.1 _) nq
        have kB : Below w.heap.size w W := by rw [← hW]; exact pw_below_drewN (below_alloc HB.out.2.2.1 _) nq
        have s0 := blk_cell kR 0
        have s1 := blk_cell kR 1
        have g0 := blk_frozen kR 0
        have g1 := blk_frozen kR 1
        simp at s0 s1
        have HZ := Aside0.mk (And.intro kB (And.intro hno.out kR))
        clear kB kR hno
        rw [hW]
        clear hW m0 m1 d0 d1 d2
        go_wp2
        obtain ⟨W5, hW5⟩ : ∃ W5, (W.setCell ⟨w.heap.size + 1, 0, none⟩ (.string ⟨#[]⟩)).setCell ⟨w.heap.size + 1, 1, none⟩ (.string ⟨#[]⟩) = W5 := ⟨_, rfl⟩
        have kF : W5.heap[w.heap.size + 1]? = some (.cells #[.string ⟨#[]⟩, .string ⟨#[]⟩] 51 (0, 0)) := by rw [← hW5]; exact blk_set (blk_set HZ.out.2.2 0 _) 1 _
        have kB5 : Below w.heap.size w W5 := by rw [← hW5]; exact (HZ.out.1.setCell (p := ⟨w.heap.size + 1, 0, none⟩) (Nat.le_succ _) _).setCell (p := ⟨w.heap.size + 1, 1, none⟩) (Nat.le_succ _) _
        rw [hW5]
        clear hW5
        have z0 := blk_cell kF 0
        have z1 := blk_cell kF 1
        simp at z0 z1
        refine bodyPost_ret (v := .tuple #[.agg #[.string ⟨#[]⟩, .string ⟨#[]⟩], .bool false]) (by simp [results, Try.results36, go_sem, z0, z1]) rfl ⟨?_, kB5⟩
        rw [HZ.out.2.1]
        rfl
      · obtain ⟨K, rfl⟩ := Int.eq_ofNat_of_zero_le (show 0 ≤ da by omega)
        have hap : ap1 (x, y) (1, (K : Int), dbs) = none := by
          unfold ap1
          rw [if_neg (by unfold okW; dsimp only; omega)]
        rw [hap] at HBn
        have hno := Aside0.mk (apl_none _ _ _ HBn)
        have hw1 : IntKind.i64.wrap ((y.size : Int) - K) = (y.size : Int) - K := by rw [IntKind.wrap_i64]; omega
        have e0 : decide ((K : Int) < 0) = false := decide_eq_false (by omega)
        have e1 : decide (y.size < K) = false := decide_eq_false (by omega)
        have e2 : decide ((y.size : Int) - K < dbs.size) = true := decide_eq_true (by omega)
        have c0 := blk_cell (blk_drew (blk_alloc HB.out.1 (.cells #[.int .i64 1, .int .i64 (K : Int), .string dbs] 55))) 1
        simp at c0
        clear hap HBn
        go_quiet (fail)
        obtain ⟨W, hW⟩ : ∃ W, (wr.alloc (.cells #[.int .i64 1, .int .i64 (K : Int), .string dbs] 55)).drewN nq = W := ⟨_, rfl⟩
        have kR : W.heap[w.heap.size + 1]? = some (.cells #[.string ⟨#[]⟩, .string ⟨#[]⟩] 51 (0, 0)) := by rw [← hW]; exact blk_drewN (blk_alloc HB.out.2.1 _) nq
        have kB : Below w.heap.size w W := by rw [← hW]; exact pw_below_drewN (below_alloc HB.out.2.2.1 _) nq
        have s0 := blk_cell kR 0
        have s1 := blk_cell kR 1
        have g0 := blk_frozen kR 0
        have g1 := blk_frozen kR 1
        simp at s0 s1
        have HZ := Aside0.mk (And.intro kB (And.intro hno.out kR))
        clear kB kR hno
        rw [hW]
        clear hW m0 m1 d0 d1 d2
        go_wp2
        obtain ⟨W5, hW5⟩ : ∃ W5, (W.setCell ⟨w.heap.size + 1, 0, none⟩ (.string ⟨#[]⟩)).setCell ⟨w.heap.size + 1, 1, none⟩ (.string ⟨#[]⟩) = W5 := ⟨_, rfl⟩
        have kF : W5.heap[w.heap.size + 1]? = some (.cells #[.string ⟨#[]⟩, .string ⟨#[]⟩] 51 (0, 0)) := by rw [← hW5]; exact blk_set (blk_set HZ.out.2.2 0 _) 1 _
        have kB5 : Below w.heap.size w W5 := by rw [← hW5]; exact (HZ.out.1.setCell (p := ⟨w.heap.size + 1, 0, none⟩) (Nat.le_succ _) _).setCell (p := ⟨w.heap.size + 1, 1, none⟩) (Nat.le_succ _) _
        rw [hW5]
        clear hW5
        have z0 := blk_cell kF 0
        have z1 := blk_cell kF 1
        simp at z0 z1
        refine bodyPost_ret (v := .tuple #[.agg #[.string ⟨#[]⟩, .string ⟨#[]⟩], .bool false]) (by simp [results, Try.results36, go_sem, z0, z1]) rfl ⟨?_, kB5⟩
        rw [HZ.out.2.1]
        rfl
    · obtain rfl : j = n := by omega
      have hall : ds.take j = ds := List.take_of_length_le (by rw [HD.out.1]; exact Nat.le_refl _)
      rw [hall] at hap
      have r0 := blk_cell hblk 0
      have r1 := blk_cell hblk 1
      have s0 := blk_cell hres 0
      have s1 := blk_cell hres 1
      have g0 := blk_frozen hres 0
      have g1 := blk_frozen hres 1
      simp at r0 r1 s0 s1
      have HZ := Aside0.mk (And.intro hbw (And.intro hap hres))
      clear hbw hap hblk hres hall
      go_wp2
      obtain ⟨W5, hW5⟩ : ∃ W5, (wr.setCell ⟨w.heap.size + 1, 0, none⟩ (.string x)).setCell ⟨w.heap.size + 1, 1, none⟩ (.string y) = W5 := ⟨_, rfl⟩
      have kF : W5.heap[w.heap.size + 1]? = some (.cells #[.string x, .string y] 51 (0, 0)) := by rw [← hW5]; exact blk_set (blk_set HZ.out.2.2 0 _) 1 _
      have kB5 : Below w.heap.size w W5 := by rw [← hW5]; exact (HZ.out.1.setCell (p := ⟨w.heap.size + 1, 0, none⟩) (Nat.le_succ _) _).setCell (p := ⟨w.heap.size + 1, 1, none⟩) (Nat.le_succ _) _
      rw [hW5]
      clear hW5
      have z0 := blk_cell kF 0
      have z1 := blk_cell kF 1
      simp at z0 z1
      refine bodyPost_ret (v := .tuple #[.agg #[.string x, .string y], .bool true]) (by simp [results, Try.results36, go_sem, z0, z1]) rfl ⟨?_, kB5⟩
      rw [HZ.out.2.1]
      rfl
end Go.Proofs.Ytiacmfgkbgfhkaa.Lin
