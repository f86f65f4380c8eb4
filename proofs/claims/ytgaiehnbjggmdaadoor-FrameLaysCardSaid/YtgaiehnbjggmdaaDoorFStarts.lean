/- A machine that begins goes, stands at the place that was meant, has its arguments at theirs, and above its stack's top the place of the halt: the law's function. No condition but that numbers and lengths are those of the language. -/
import Derived.Test.YtgaiehnbjggmdaaDoorFPlain
import Derived.Test.YtgaiehnbjggmdaaDoorFBox
import Derived.BigRegion
import Derived.Deep.RegionWith
namespace Go.Proofs.YtgaiehnbjggmdaaDoor.F
open Go.Ob Go.RowKit Go.Proofs.YtgaiehnbjggmdaaDoorW.PrintWords Go.Proofs.YtgaiehnbjggmdaaDoorW.PrintMore
/-- the smaller of two, as the language reckons it; not laid open in a walk -/
def mn (x y : Int) : Int := if y < x then y else x
theorem min2_mn (k k' : IntKind) (x y : Int) : Builtin.min2 (.int k x) (.int k' y) = pure (.int k (mn x y)) := by simp only [Builtin.min2, mn]
attribute [local go_sem] min2_mn min_two IsM_drew atM_drew
attribute [local go_sem ↓] loadAt_mach
attribute [local go_sem] run_loadMI

set_option linter.unusedVariables false
set_option linter.unusedSimpArgs false
theorem slice_to {P : Program} (t : TypeId) (ht : P.underlying t = some .string) (s : ByteArray) (b : Nat) (j : Int) (hj : j = b) (hb : b ≤ s.size) (W : World) :
    (Instr.slice t (.string s) none (some (.int .i64 j)) none).run P W = .ok (.string (s.extract 0 b)) W := by
  subst hj
  simp [Instr.slice, Instr.sliceBounds, Instr.sliceBound, asIntOf, run_underlying ht, hb]
theorem sl_to_g (A : Option Addr) (n cap k : Nat) (j : Int) (hj : j = k) (hk : k ≤ cap) (W : World) :
    (Instr.slice 67 (.slice A n cap) none (some (.int .i64 j)) none).run Tryd.prog W = .ok (.slice A k cap) W := by
  have hs : ∀ W, (sizeOf 77).run Tryd.prog W = .ok 2 W := fun W => by go_simp
  have hm : Option.map (fun a => a.add 0) A = A := by cases A with
    | none => rfl
    | some a =>
      have : a.add 0 = a := by unfold Addr.add; split <;> simp_all
      rw [Option.map_some, this]
  subst hj
  simp [Instr.slice, Instr.sliceBounds, Instr.sliceBound, asIntOf, run_underlying Tryd.underlying67, hk, hs, hm]
/-- a module's value -/
abbrev modV (sg im fn : Value) (m0 m1 : Int) (G : Option Addr) (ng cg : Nat) (A : Option Addr) (nd cd : Nat) : Value := .agg #[sg, im, fn, .int .i64 m0, .int .i64 m1, .slice G ng cg, .slice A nd cd]
/-- a text's first bytes, as the law cuts them -/
theorem cut_text (s : ByteArray) (m : Nat) (hm : m ≤ 9223372036854775807) (hs : s.size ≤ 9223372036854775807) : ∃ c : ByteArray, c.size = min s.size m ∧ ∀ W, (Instr.slice 9 (.string s) none (some (.int .i64 (mn s.size m))) none).run Tryd.prog W = .ok (.string c) W := by
  by_cases h : m < s.size
  · refine ⟨s.extract 0 m, by rw [ByteArray.size_extract]; omega, fun W => ?_⟩
    rw [mn, if_pos (by omega)]
    exact slice_to 9 Tryd.underlying9 s m m rfl (by omega) W
  · refine ⟨s, by omega, fun W => ?_⟩
    rw [mn, if_neg (by omega)]
    have := slice_to (P := Tryd.prog) 9 Tryd.underlying9 s s.size s.size rfl (Nat.le_refl _) W
    rwa [show s.extract 0 s.size = s by simp] at this
theorem cut_globals (G : Option Addr) (ng cg m : Nat) (hc : ng ≤ cg) : ∃ k : Nat, k = min ng m ∧ ∀ W, (Instr.slice 67 (.slice G ng cg) none (some (.int .i64 (mn ng m))) none).run Tryd.prog W = .ok (.slice G k cg) W := by
  refine ⟨min ng m, rfl, fun W => sl_to_g G ng cg _ _ ?_ (by omega) W⟩
  unfold mn
  split <;> omega
theorem CellsG.take {w : World} {G : Option Addr} {gl : List (Int × Int)} (h : CellsG w G gl) (k : Nat) : CellsG w G (gl.take k) := fun i hi => by
  have hi2 : i < gl.length := by rw [List.length_take] at hi; omega
  obtain ⟨ad, e, hb, c0, c1⟩ := h i hi2
  have e2 : (gl.take k)[i] = gl[i] := List.getElem_take
  rw [e2]
  exact ⟨ad, e, hb, c0, c1⟩
/-- the regions of a machine that begins, read -/
structure RdOk (RL : List R3) (args : List Int) (halt : Int) : Prop where
  ok : ∀ r ∈ RL, OkR r
  pos : 2 ≤ RL.length
  small : RL.length ≤ 5
  arg : ∀ i, i < args.length → fndF (65536 + ((8 * i : Nat) : Int)) 8 false RL 0 = some (1, 8 * i)
  argv : ∀ i (h : i < args.length), wrap64 (le (((bl (RL.getD 1 (0, ⟨#[]⟩, false)).2.1).drop (8 * i)).take 8)) = args[i]
  argz : args.length ≤ 4 ∧ 40 ≤ (RL.getD 1 (0, ⟨#[]⟩, false)).2.1.size
  call : fndF (65536 + ((32 : Nat) : Int)) 8 false RL 0 = some (1, 32)
  callv : wrap64 (le (((bl (RL.getD 1 (0, ⟨#[]⟩, false)).2.1).drop 32).take 8)) = 0
  top : fndF 278520 8 false RL 0 = some (RL.length - 1, 16376)
  topv : wrap64 (le (((bl (RL.getD (RL.length - 1) (0, ⟨#[]⟩, false)).2.1).drop 16376).take 8)) = wrap64 (1048576 + halt)
  topz : (RL.getD (RL.length - 1) (0, ⟨#[]⟩, false)).2.1.size = 16384
theorem regs_len (code : ByteArray) (data stack : List Int) (m0 m1 : Int) (ds : List D3) : 3 ≤ (regs code data stack m0 m1 ds).length ∧ (regs code data stack m0 m1 ds).length ≤ 5 := by
  simp only [regs, memR]
  by_cases k0 : memOk 0 m0 <;> by_cases k1 : memOk 1 m1 <;> simp [k0, k1]
theorem regs_last (code : ByteArray) (data stack : List Int) (m0 m1 : Int) (ds : List D3) : (regs code data stack m0 m1 ds).getD ((regs code data stack m0 m1 ds).length - 1) (0, ⟨#[]⟩, false) = (262144, strOfNums stack, false) := by
  simp only [regs, memR]
  by_cases k0 : memOk 0 m0 <;> by_cases k1 : memOk 1 m1 <;> simp [k0, k1]
theorem regs_one (code : ByteArray) (data stack : List Int) (m0 m1 : Int) (ds : List D3) : (regs code data stack m0 m1 ds).getD 1 (0, ⟨#[]⟩, false) = (65536, strOfNums data, false) := rfl
theorem wrap64_rng (x : Int) : -9223372036854775808 ≤ wrap64 x ∧ wrap64 x ≤ 9223372036854775807 := by unfold wrap64; omega
theorem rdOk_of (code : ByteArray) (gl args : List Int) (halt m0 m1 : Int) (ds : List D3) (hc : code.size ≤ 100000) (hgl : gl.length ≤ 1000) (ha : args.length ≤ 4) (hb : ∀ v ∈ args, -9223372036854775808 ≤ v ∧ v ≤ 9223372036854775807) :
    RdOk (regs code (aI (dataL gl) args args.length) (List.replicate 16376 0 ++ bytesOf (wrap64 (1048576 + halt)) 8) m0 m1 ds) args halt := by
  have hd : (aI (dataL gl) args args.length).length = 40 + 8 * gl.length := by
    rw [aI_len _ _ _ (Nat.le_refl _) (by rw [dataL_len]; omega), dataL_len]
  have hst : (List.replicate 16376 (0 : Int) ++ bytesOf (wrap64 (1048576 + halt)) 8).length = 16384 := by
    rw [List.length_append, List.length_replicate, bytes8_len]
  have hn := regs_len code (aI (dataL gl) args args.length) (List.replicate 16376 0 ++ bytesOf (wrap64 (1048576 + halt)) 8) m0 m1 ds
  refine ⟨regs_ok _ _ _ _ _ _ hc (by omega) hst, by omega, hn.2, fun i h => find_data _ _ _ _ _ _ _ (by omega), fun i h => ?_, ⟨ha, ?_⟩, find_data _ _ _ _ _ _ 32 (by omega), ?_, find_stack _ _ _ _ _ _ (by omega) hst (news_small _ _ _) (news_small _ _ _), ?_, ?_⟩
  · rw [regs_one]
    exact read_arg _ args (dataL_bytes gl) i h (hb _ (List.getElem_mem _))
  · rw [regs_one]
    show 40 ≤ (strOfNums _).size
    rw [num_size, hd]
    omega
  · rw [regs_one, read_calls gl args ha, le_zeros]
    unfold wrap64
    omega
  · rw [regs_last]
    exact read_top _ (wrap64_rng _)
  · rw [regs_last]
    show (strOfNums _).size = _
    rw [num_size, hst]
theorem Read_of (RL : List R3) (ok : ∀ r ∈ RL, OkR r) (ad : Addr) (m cap : Nat) (at_ v : Int) (i k : Nat) (r0 r1 r2 r3 r4 r5 r6 r7 r8 r9 r10 r11 r12 r13 r14 r15 fz fs fc fo pc st : Value) (W : World) (hm : RL.length = m) (hm2 : m ≤ 9223372036854775807) (hc : CellsR W (some ad) RL)
    (ha : -9223372036854775808 ≤ at_ ∧ at_ ≤ 9223372036854775807) (hf : fndF at_ 8 false RL 0 = some (i, k)) (hi : i < m) (hv : wrap64 (le (((bl (RL.getD i (0, ⟨#[]⟩, false)).2.1).drop k).take 8)) = v) (hk : k + 8 ≤ (RL.getD i (0, ⟨#[]⟩, false)).2.1.size) :
    Calls Tryd.prog 17 #[mach r0 r1 r2 r3 r4 r5 r6 r7 r8 r9 r10 r11 r12 r13 r14 r15 fz fs fc fo pc (.slice (some ad) m cap) st, .int .i64 at_, .int .i64 8] W fun e w' => e = .returned (.tuple #[.int .i64 v, .bool true]) ∧ Below W.heap.size W w' := by
  have hi2 : i < RL.length := by omega
  have hg : RL.getD i (0, ⟨#[]⟩, false) = RL[i] := by rw [List.getD_eq_getElem?_getD, List.getElem?_eq_getElem hi2]; rfl
  rw [hg] at hv hk
  have := Read_ok RL ad m cap at_ 8 i k r0 r1 r2 r3 r4 r5 r6 r7 r8 r9 r10 r11 r12 r13 r14 r15 fz fs fc fo pc st W hm hm2 hc ok ha (Or.inr rfl) hf hi2 RL[i].2.1 rfl hk
  rw [hv] at this
  exact this
theorem ent_wrap (e : Int) (h0 : 0 ≤ e) (h1 : e < 3000) : wrap64 (1048576 + e) = 1048576 + e := by
  unfold wrap64
  omega
theorem sum_arg (K : Nat) (h : K ≤ 24) : IntKind.i64.wrap (65536 + (K : Int)) = 65536 + (K : Int) := by
  rw [IntKind.wrap_i64]
  omega
theorem sum_calls : IntKind.i64.wrap 65568 = 65568 := by
  rw [IntKind.wrap_i64]
  omega
theorem rng_arg (K : Nat) (h : K ≤ 24) : -9223372036854775808 ≤ 65536 + (K : Int) ∧ 65536 + (K : Int) ≤ 9223372036854775807 := by omega
theorem rng_calls : (-9223372036854775808 : Int) ≤ 65568 ∧ (65568 : Int) ≤ 9223372036854775807 := by omega
theorem rng_top : (-9223372036854775808 : Int) ≤ 278520 ∧ (278520 : Int) ≤ 9223372036854775807 := by omega
theorem mach_cells {w : World} {g : Nat} {t : TypeId} {r0 r1 r2 r3 r4 r5 r6 r7 r8 r9 r10 r11 r12 r13 r14 r15 fz fs fc fo pc rg st : Value} (h : w.heap[g]? = some (.cells #[r0, r1, r2, r3, r4, r5, r6, r7, r8, r9, r10, r11, r12, r13, r14, r15, fz, fs, fc, fo, pc, rg, st] t (0, 0))) :
    w.cell? ⟨g, 0, none⟩ = some r0 ∧ w.cell? ⟨g, 1, none⟩ = some r1 ∧ w.cell? ⟨g, 2, none⟩ = some r2 ∧ w.cell? ⟨g, 3, none⟩ = some r3 ∧ w.cell? ⟨g, 4, none⟩ = some r4 ∧ w.cell? ⟨g, 5, none⟩ = some r5 ∧ w.cell? ⟨g, 6, none⟩ = some r6 ∧ w.cell? ⟨g, 7, none⟩ = some r7 ∧
    w.cell? ⟨g, 8, none⟩ = some r8 ∧ w.cell? ⟨g, 9, none⟩ = some r9 ∧ w.cell? ⟨g, 10, none⟩ = some r10 ∧ w.cell? ⟨g, 11, none⟩ = some r11 ∧ w.cell? ⟨g, 12, none⟩ = some r12 ∧ w.cell? ⟨g, 13, none⟩ = some r13 ∧ w.cell? ⟨g, 14, none⟩ = some r14 ∧ w.cell? ⟨g, 15, none⟩ = some r15 ∧
    w.cell? ⟨g, 16, none⟩ = some fz ∧ w.cell? ⟨g, 17, none⟩ = some fs ∧ w.cell? ⟨g, 18, none⟩ = some fc ∧ w.cell? ⟨g, 19, none⟩ = some fo ∧ w.cell? ⟨g, 20, none⟩ = some pc ∧ w.cell? ⟨g, 21, none⟩ = some rg ∧ w.cell? ⟨g, 22, none⟩ = some st :=
  ⟨blk_cell h 0, blk_cell h 1, blk_cell h 2, blk_cell h 3, blk_cell h 4, blk_cell h 5, blk_cell h 6, blk_cell h 7, blk_cell h 8, blk_cell h 9, blk_cell h 10, blk_cell h 11, blk_cell h 12, blk_cell h 13, blk_cell h 14, blk_cell h 15, blk_cell h 16, blk_cell h 17, blk_cell h 18, blk_cell h 19, blk_cell h 20, blk_cell h 21, blk_cell h 22⟩
set_option maxHeartbeats 16000000 in
set_option maxRecDepth 100000 in
theorem Starts_ok (sg im fn : Value) (m0 m1 : Int) (G A : Option Addr) (gl : List (Int × Int)) (ds : List D3) (ng cg nd cd : Nat) (code : ByteArray) (halt entry : Int) (P : Option Addr) (na ca : Nat) (args : List Int) (w : World) (hg : Glb w)
    (hgl : gl.length = ng) (hng : ng ≤ 9223372036854775807) (hgc : ng ≤ cg) (hG : CellsG w G gl) (hds : ds.length = nd) (hnd : nd ≤ 9223372036854775807) (hD : CellsD w A ds) (hs : code.size ≤ 9223372036854775807) (hna : args.length = na) (hn4 : na ≤ 4) (hr : ReadsInt w .i64 P na args) (hbp : 0 < na → ∀ a, P = some a → a.block < w.heap.size) (hrv : ∀ v ∈ args, -9223372036854775808 ≤ v ∧ v ≤ 9223372036854775807)
    (hh : -9223372036854775808 ≤ halt ∧ halt ≤ 9223372036854775807) (h0 : 0 ≤ entry) (h1 : entry < (min code.size 3000 : Nat)) :
    Calls Tryd.prog 11 #[modV sg im fn m0 m1 G ng cg A nd cd, .string code, .int .i64 halt, .int .i64 entry, .slice P na ca] w fun e w' => e = .returned (.bool true) ∧ Below w.heap.size w w' := by
  obtain ⟨C, hC, S1⟩ := cut_text code 3000 (by omega) hs
  obtain ⟨k, hk, S3⟩ := cut_globals G ng cg 8 hgc
  have hCs : C.size ≤ 3000 := by omega
  have HEC : Aside0 (entry < (C.size : Int)) := ⟨by omega⟩
  have HE := Aside0.mk (fun W hg => examples W hg)
  have HSS := Aside0.mk (And.intro S1 S3)
  have HK := Aside0.mk (And.intro hC (And.intro hk (And.intro hgl hna)))
  have HP := Aside0.mk (And.intro hg (And.intro hG (And.intro hds (And.intro hD (And.intro hr (And.intro hbp hrv))))))
  clear hC S1 hk S3 hg hG hds hD hr hbp hrv hgl hna hs
  have s1 := HSS.out.1
  have s3 := HSS.out.2
  rw [show ((3000 : Nat) : Int) = 3000 from rfl] at s1
  rw [show ((8 : Nat) : Int) = 8 from rfl] at s3
  obtain ⟨W0, hW0⟩ : ∃ W, w.alloc (.cells #[sg, im, fn, .int .i64 m0, .int .i64 m1, .slice G ng cg, .slice A nd cd] 70) = W := ⟨_, rfl⟩
  have b0 : Below w.heap.size w W0 := by rw [← hW0]; exact below_alloc (Below.refl _ _) _
  have X0 : W0.heap[w.heap.size]? = some (.cells #[sg, im, fn, .int .i64 m0, .int .i64 m1, .slice G ng cg, .slice A nd cd] 70 (0, 0)) := by rw [← hW0]; exact blk_new w _
  have z0 : W0.heap.size = w.heap.size + 1 := by rw [← hW0, World.size_alloc]
  have H0 := Aside0.mk (And.intro b0 (And.intro X0 z0))
  have HW0 := Aside0.mk hW0
  clear hW0 b0 X0 z0
  go_enter Tryd.func11, Tryd.ntmps11
  go_wp2_with fail
  rw [HW0.out]
  clear HW0
  refine (HE.out _ (HP.out.1.below H0.out.1)).mono ?_
  rintro e w1 ⟨rfl, hb1⟩
  have X1 := (hb1.block w.heap.size (by rw [H0.out.2.2]; omega)).trans H0.out.2.1
  have y4 := blk_cell X1 4
  have y5 := blk_cell X1 5
  have f5 := blk_frozen X1 5
  simp at y4 y5
  have H1 := Aside0.mk (And.intro hb1 X1)
  clear hb1 X1
  go_upto_region 4 with fail
  obtain ⟨W2, hW2⟩ : ∃ W, w1.setCell ⟨w.heap.size, 5, none⟩ (.slice G k cg) = W := ⟨_, rfl⟩
  have X2 : W2.heap[w.heap.size]? = some (.cells #[sg, im, fn, .int .i64 m0, .int .i64 m1, .slice G k cg, .slice A nd cd] 70 (0, 0)) := by
    rw [← hW2]
    exact blk_set H1.out.2 5 (.slice G k cg)
  have b2 : Below w.heap.size w W2 := by
    rw [← hW2]
    exact (H0.out.1.trans (H1.out.1.mono (by rw [H0.out.2.2]; exact Nat.le_succ _))).setCell (Nat.le_refl _) _
  rw [hW2]
  clear hW2 y4 y5 f5
  have hkl : (gl.take k).length = k := by rw [List.length_take, HK.out.2.2.1, HK.out.2.1]; omega
  have hS := Start_ok sg im fn m0 m1 G A (gl.take k) ds k cg nd cd (.slice none 0 0) (.slice none 0 0) (.slice none 0 0) (.int .i64 0) (.int .i64 0) (.slice none 0 0) (.slice none 0 0) (.slice none 0 0) C halt entry P na ca args W2 hkl (by rw [HK.out.2.1]; omega)
    ((HP.out.2.1.take k).below b2) HP.out.2.2.1 hnd (HP.out.2.2.2.1.below b2) (by omega) HK.out.2.2.2 hn4 (HP.out.2.2.2.2.1.below b2) (fun hn a e => Nat.lt_of_lt_of_le (HP.out.2.2.2.2.2.1 hn a e) b2.size) h0 (by have := HEC.out; omega)
  have hRd := rdOk_of C ((gl.take k).map (·.2)) args halt m0 m1 ds (by omega) (by rw [List.length_map, hkl, HK.out.2.1]; omega) (by rw [HK.out.2.2.2]; exact hn4) HP.out.2.2.2.2.2.2
  rw [HK.out.2.2.2] at hRd
  obtain ⟨RL, hRL⟩ : ∃ RL, regs C (aI (dataL ((gl.take k).map (·.2))) args na) (List.replicate 16376 0 ++ bytesOf (wrap64 (1048576 + halt)) 8) m0 m1 ds = RL := ⟨_, rfl⟩
  rw [hRL] at hS hRd
  clear hRL hkl
  have HS := Aside0.mk hS
  have HR := Aside0.mk hRd
  have H2 := Aside0.mk (And.intro b2 X2)
  clear hS hRd b2 X2 HE HSS s1 s3
  go_wp2_with (first
    | (refine wpList_load_row rfl 70 (.tmp 5) rfl w.heap.size rfl 70 _ (0, 0) _ H2.out.2 rfl rfl rfl ?_)
    | fail)
  refine HS.out.mono ?_
  rintro e w3 ⟨v, rfl, ho, hb⟩
  obtain ⟨g, cap, rfl, hg0, hg1, hCR⟩ := cells_of_owned ho rfl (by have := HR.out.pos; omega)
  have H3 := Aside0.mk (And.intro hb (And.intro hCR hg1))
  clear ho hb hCR hg0 hg1 HS
  have X4 := setRow_heap (w3.alloc (.cells #[.int .i64 0, .int .i64 0, .int .i64 0, .int .i64 0, .int .i64 0, .int .i64 0, .int .i64 0, .int .i64 0, .int .i64 0, .int .i64 0, .int .i64 0, .int .i64 0, .int .i64 0, .int .i64 0, .int .i64 0, .int .i64 0, .bool false, .bool false, .bool false, .bool false, .int .i64 0, .slice none 0 0, .int .i64 0] 27)) w3.heap.size _ #[.int .i64 0, .int .i64 0, .int .i64 0, .int .i64 0, .int .i64 278520, .int .i64 0, .int .i64 0, .int .i64 0, .int .i64 0, .int .i64 0, .int .i64 0, .int .i64 0, .int .i64 0, .int .i64 0, .int .i64 0, .int .i64 65536, .bool false, .bool false, .bool false, .bool false, .int .i64 (wrap64 (1048576 + entry)), .slice (some ⟨g, 0, none⟩) RL.length cap, .int .i64 0] _ _ (blk_new w3 _)
  have b4 : Below w3.heap.size w3 ((w3.alloc (.cells #[.int .i64 0, .int .i64 0, .int .i64 0, .int .i64 0, .int .i64 0, .int .i64 0, .int .i64 0, .int .i64 0, .int .i64 0, .int .i64 0, .int .i64 0, .int .i64 0, .int .i64 0, .int .i64 0, .int .i64 0, .int .i64 0, .bool false, .bool false, .bool false, .bool false, .int .i64 0, .slice none 0 0, .int .i64 0] 27)).setRow w3.heap.size #[.int .i64 0, .int .i64 0, .int .i64 0, .int .i64 0, .int .i64 278520, .int .i64 0, .int .i64 0, .int .i64 0, .int .i64 0, .int .i64 0, .int .i64 0, .int .i64 0, .int .i64 0, .int .i64 0, .int .i64 0, .int .i64 65536, .bool false, .bool false, .bool false, .bool false, .int .i64 (wrap64 (1048576 + entry)), .slice (some ⟨g, 0, none⟩) RL.length cap, .int .i64 0]) := below_setRow (below_alloc (Below.refl _ _) _) (Nat.le_refl _) _
  obtain ⟨W4, hW4⟩ : ∃ W, (w3.alloc (.cells #[.int .i64 0, .int .i64 0, .int .i64 0, .int .i64 0, .int .i64 0, .int .i64 0, .int .i64 0, .int .i64 0, .int .i64 0, .int .i64 0, .int .i64 0, .int .i64 0, .int .i64 0, .int .i64 0, .int .i64 0, .int .i64 0, .bool false, .bool false, .bool false, .bool false, .int .i64 0, .slice none 0 0, .int .i64 0] 27)).setRow w3.heap.size #[.int .i64 0, .int .i64 0, .int .i64 0, .int .i64 0, .int .i64 278520, .int .i64 0, .int .i64 0, .int .i64 0, .int .i64 0, .int .i64 0, .int .i64 0, .int .i64 0, .int .i64 0, .int .i64 0, .int .i64 0, .int .i64 65536, .bool false, .bool false, .bool false, .bool false, .int .i64 (wrap64 (1048576 + entry)), .slice (some ⟨g, 0, none⟩) RL.length cap, .int .i64 0] = W := ⟨_, rfl⟩
  rw [hW4] at X4 b4
  have y15 := blk_cell X4 15
  have y20 := blk_cell X4 20
  have y22 := blk_cell X4 22
  simp at y15 y20 y22
  rw [ent_wrap entry h0 (by omega)] at y20
  have H4 := Aside0.mk (And.intro b4 X4)
  have HW4 := Aside0.mk hW4
  clear hW4 b4 X4
  have t1 : decide (entry < 0) = false := decide_eq_false (by omega)
  have t2 : decide ((C.size : Int) ≤ entry) = false := decide_eq_false (by have := HEC.out; omega)
  have t3 : decide ((4 : Int) < na) = false := decide_eq_false (by omega)
  go_wp2_with (first
    | (refine wpList_store_row rfl 27 (.tmp 12) (.tmp 43) rfl w3.heap.size #[.int .i64 0, .int .i64 0, .int .i64 0, .int .i64 0, .int .i64 278520, .int .i64 0, .int .i64 0, .int .i64 0, .int .i64 0, .int .i64 0, .int .i64 0, .int .i64 0, .int .i64 0, .int .i64 0, .int .i64 0, .int .i64 65536, .bool false, .bool false, .bool false, .bool false, .int .i64 (wrap64 (1048576 + entry)), .slice (some ⟨g, 0, none⟩) RL.length cap, .int .i64 0] rfl rfl 27 _ (blk_new w3 _) (by kernel_rfl) rfl (by kernel_rfl) ?_; rw [HW4.out])
    | fail)
  have hCW : ∀ W, Below W4.heap.size W4 W → CellsR W (some ⟨g, 0, none⟩) RL ∧ W.heap[w3.heap.size]? = some (.cells #[.int .i64 0, .int .i64 0, .int .i64 0, .int .i64 0, .int .i64 278520, .int .i64 0, .int .i64 0, .int .i64 0, .int .i64 0, .int .i64 0, .int .i64 0, .int .i64 0, .int .i64 0, .int .i64 0, .int .i64 0, .int .i64 65536, .bool false, .bool false, .bool false, .bool false, .int .i64 (wrap64 (1048576 + entry)), .slice (some ⟨g, 0, none⟩) RL.length cap, .int .i64 0] 27 (0, 0)) := fun W hb => by
    have hz := H4.out.1.size
    have hx := blk_lt H4.out.2
    exact ⟨(H3.out.2.1.below H4.out.1).below (hb.mono (Nat.le_refl _)), (hb.block w3.heap.size hx).trans H4.out.2⟩
  have HCW := Aside0.mk hCW
  have hZ : ∀ W, Below W4.heap.size W4 W → Below w.heap.size w W := fun W hb => H2.out.1.trans ((H3.out.1.mono H2.out.1.size).trans ((H4.out.1.mono (Nat.le_trans H2.out.1.size H3.out.1.size)).trans (hb.mono (Nat.le_trans H2.out.1.size (Nat.le_trans H3.out.1.size H4.out.1.size)))))
  have HZ := Aside0.mk hZ
  clear hZ
  clear t1 t2 t3
  clear hCW HW4 y15 y20 y22
  go_loopw [14] (fun c wr => ∃ i : Nat, i ≤ na ∧ c = .int .i64 i ∧ Below W4.heap.size W4 wr) (fun c _ => na - (intOf c).toNat)
  case atStart => exact ⟨0, Nat.zero_le _, rfl, Below.refl _ _⟩
  case round =>
    obtain ⟨i, hi, rfl, hbw⟩ := hrel
    have HB := Aside0.mk hbw
    obtain ⟨hcr, hx⟩ := HCW.out wr hbw
    clear hbw
    by_cases hlt : i < na
    · as_aux_lemma =>
        obtain ⟨ad, hA, hc⟩ := HP.out.2.2.2.2.1.2.2 (by omega)
        have hck := hc i hlt
        have hck2 : ∀ W, Below W4.heap.size W4 W → W.cell? (ad.add i) = some (.int .i64 (args.getD i 0)) := fun W hb => by
          have hl := World.block_lt_of_cell? _ _ hck
          rw [hb.cell (Nat.lt_of_lt_of_le hl (H2.out.1.trans ((H3.out.1.mono H2.out.1.size).trans (H4.out.1.mono (Nat.le_trans H2.out.1.size H3.out.1.size)))).size)]
          rw [(H2.out.1.trans ((H3.out.1.mono H2.out.1.size).trans (H4.out.1.mono (Nat.le_trans H2.out.1.size H3.out.1.size)))).cell hl]
          exact hck
        have HCK := Aside0.mk hck2
        have hA2 := fun W => Args (i : Int) W
        rw [ar_wrap i (by omega)] at hA2
        have hRd := fun W (h : Below W4.heap.size W4 W) => Read_of RL HR.out.ok ⟨g, 0, none⟩ RL.length cap (65536 + ((8 * i : Nat) : Int)) (args.getD i 0) 1 (8 * i) (.int .i64 0) (.int .i64 0) (.int .i64 0) (.int .i64 0) (.int .i64 278520) (.int .i64 0) (.int .i64 0) (.int .i64 0) (.int .i64 0) (.int .i64 0) (.int .i64 0) (.int .i64 0) (.int .i64 0) (.int .i64 0) (.int .i64 0) (.int .i64 65536) (.bool false) (.bool false) (.bool false) (.bool false) (.int .i64 (wrap64 (1048576 + entry))) (.int .i64 0) W rfl (by have := HR.out.small; omega) (HCW.out W h).1 (rng_arg (8 * i) (by omega)) (HR.out.arg i (by rw [HK.out.2.2.2]; exact hlt)) (by have := HR.out.pos; omega)
          (by rw [HR.out.argv i (by rw [HK.out.2.2.2]; exact hlt), List.getD_eq_getElem?_getD, List.getElem?_eq_getElem (by rw [HK.out.2.2.2]; exact hlt)]; rfl) (by have := HR.out.argz.2; omega)
        obtain ⟨K, hK⟩ : ∃ K, 8 * i = K := ⟨_, rfl⟩
        have hK2 : K ≤ 24 := by omega
        rw [hK] at hA2 hRd
        subst hA
        obtain ⟨av, hav⟩ : ∃ av, args.getD i 0 = av := ⟨_, rfl⟩
        rw [hav] at hRd HCK
        have HA2 := Aside0.mk hA2
        have HRD := Aside0.mk hRd
        clear hA2 hRd hK hck hck2 hc hav
        have mk1 := isM_of hx rfl
        have mk2 := atM_of hx
        have ws := sum_arg K hK2
        go_wp2_with fail
        go_region_with (first
          | (go_at_call 31; (with_reducible refine (HA2.out _).mono ?_); rintro e w5 ⟨rfl, rfl⟩)
          | (go_at_call 17; (with_reducible refine (HRD.out _ (below_drew HB.out)).mono ?_); rintro e w5 ⟨rfl, hb5⟩; have H5 := Aside0.mk ((below_drew HB.out).trans (hb5.mono HB.out.size)); clear hb5))
        all_goals
          have c1 := HCK.out w5 H5.out
          clear mk1 mk2 ws hx
          go_wp2
          refine ⟨⟨i + 1, hlt, by simp, H5.out⟩, by simp [intOf]; omega⟩
    · as_aux_lemma =>
        obtain rfl : i = na := by omega
        have hN := fun W => NCalls W
        have hR1 := fun W (h : Below W4.heap.size W4 W) => Read_of RL HR.out.ok ⟨g, 0, none⟩ RL.length cap 65568 0 1 32 (.int .i64 0) (.int .i64 0) (.int .i64 0) (.int .i64 0) (.int .i64 278520) (.int .i64 0) (.int .i64 0) (.int .i64 0) (.int .i64 0) (.int .i64 0) (.int .i64 0) (.int .i64 0) (.int .i64 0) (.int .i64 0) (.int .i64 0) (.int .i64 65536) (.bool false) (.bool false) (.bool false) (.bool false) (.int .i64 (wrap64 (1048576 + entry))) (.int .i64 0) W rfl (by have := HR.out.small; omega) (HCW.out W h).1 rng_calls HR.out.call (by have := HR.out.pos; omega) HR.out.callv HR.out.argz.2
        have hR2 := fun W (h : Below W4.heap.size W4 W) => Read_of RL HR.out.ok ⟨g, 0, none⟩ RL.length cap 278520 (wrap64 (1048576 + halt)) (RL.length - 1) 16376 (.int .i64 0) (.int .i64 0) (.int .i64 0) (.int .i64 0) (.int .i64 278520) (.int .i64 0) (.int .i64 0) (.int .i64 0) (.int .i64 0) (.int .i64 0) (.int .i64 0) (.int .i64 0) (.int .i64 0) (.int .i64 0) (.int .i64 0) (.int .i64 65536) (.bool false) (.bool false) (.bool false) (.bool false) (.int .i64 (wrap64 (1048576 + entry))) (.int .i64 0) W rfl (by have := HR.out.small; omega) (HCW.out W h).1 rng_top HR.out.top (by have := HR.out.pos; omega) HR.out.topv (by rw [HR.out.topz]; omega)
        have HR1 := Aside0.mk hR1
        have HR2 := Aside0.mk hR2
        have HN := Aside0.mk hN
        have ws := sum_calls
        have mk1 := isM_of hx rfl
        have mk2 := atM_of hx
        clear hR1 hR2 hN
        go_wp2_with fail
        go_region_with (first
          | (go_at_call 42; (with_reducible refine (HN.out _).mono ?_); rintro e w5 ⟨rfl, rfl⟩)
          | (go_at_call 17; (with_reducible refine (HR1.out _ (below_drew HB.out)).mono ?_); rintro e w5 ⟨rfl, hb5⟩; have H5 := Aside0.mk ((below_drew HB.out).trans (hb5.mono HB.out.size)); clear hb5))
        all_goals
          clear mk1 mk2 ws hx
          have hx5 := (HCW.out w5 H5.out).2
          have mk1 := isM_of hx5 rfl
          have mk2 := atM_of hx5
          have y4 := blk_cell hx5 4
          simp at y4
          clear hx5
          go_wp2_with (first
            | (go_at_call 17; (with_reducible refine (HR2.out _ H5.out).mono ?_); rintro e w6 ⟨rfl, hb6⟩; have H6 := Aside0.mk (H5.out.trans (hb6.mono H5.out.size)); clear hb6))
          go_ret
          exact ⟨rfl, HZ.out _ H6.out⟩
end Go.Proofs.YtgaiehnbjggmdaaDoor.F
