/- A machine that begins: the program's function. -/
import Derived.Test.YtgaiehnbjggmdaaDoorFLayS
import Derived.Test.YtgaiehnbjggmdaaDoorFRead
namespace Go.Proofs.YtgaiehnbjggmdaaDoor.F
open Go.Ob Go.RowKit Go.Proofs.YtgaiehnbjggmdaaDoorW.PrintWords Go.Proofs.YtgaiehnbjggmdaaDoorW.PrintMore
attribute [local go_sem] max2_int min2_int max_two min_two
set_option linter.unusedVariables false
set_option linter.unusedSimpArgs false
/-- a built value named ahead -/
theorem build_named {P : Program} {ops : Array Oper} {rest : List Oper} {o : Oper} {a : Act} {w : World} {Q : Exit → Act → World → Prop} (hg : o.guard = none) (t : TypeId) (parts : Array (Nat × Operand)) (ho : o.op = .build t parts) (cells : Array Value)
    (hf : P.built t (parts.map fun (i, x) => (i, a.eval x)).toList = some cells) (h : wpList P ops Q rest (a.put o.dst (.agg cells)) w) : wpList P ops Q (o :: rest) a w := by
  refine wpList_build hg t parts ho (by rw [hf]; exact Option.isSome_some) ?_
  rw [hf, Option.getD_some]
  exact h
/-- a struct's box beside a temporary, as results -/
theorem results_row_tmp {P : Program} {fn : Func} {p : Tmp} {ty : TypeId} {t2 : Tmp} (h : fn.results = #[.cell p ty, .tmp t2]) (tmps : Array Value) (w : World) (g : Nat) (t : TypeId) (cs : Array Value) (fr : Nat × Nat) (d : TypeDesc)
    (hp : tmps.getD p undef = .pointer (some ⟨g, 0, none⟩)) (hg : w.heap[g]? = some (.cells cs t fr))
    (hu : P.underlying ty = some d) (hd : (match d with | .struct _ | .array _ _ => true | _ => false) = true) (hi : (P.info? ty).map (·.size) = some cs.size) :
    (results fn tmps).run P w = .ok (.tuple #[.agg cs, tmps.getD t2 undef]) w := by
  have hp' : tmps[p]?.getD undef = .pointer (some ⟨g, 0, none⟩) := by simpa using hp
  simp [results, h, hp', asAddr, run_loadVar_row w g t ty cs fr d hg hu hd hi]
/-- an owned row is a slice -/
theorem owned_slice {w : World} {b : Nat} {e : TypeId} {z : Nat} {v : Value} {n : Nat} {xs : List Value} (h : w.ownsRow b e z v n xs) : ∃ p m c, v = .slice p m c := by
  rcases h.2 with ⟨h1, _⟩ | ⟨g, cap, cur, h1, _⟩
  · exact ⟨_, _, _, h1⟩
  · exact ⟨_, _, _, h1⟩
theorem owns_move {w w' : World} {b b' : Nat} {e : TypeId} {z : Nat} {v : Value} {n : Nat} {xs : List Value} (h : w.ownsRow b e z v n xs) (hh : ∀ k, b ≤ k → w'.heap[k]? = w.heap[k]?) (hb : b' ≤ b) : w'.ownsRow b' e z v n xs :=
  ⟨h.1, h.2.elim Or.inl fun ⟨g, cap, cur, h1, h2, h3, h4⟩ => Or.inr ⟨g, cap, cur, h1, Nat.le_trans hb h2, (hh g h2).trans h3, h4⟩⟩
/-- a machine with nothing in it -/
abbrev machZ (rg : Value) : Value := mach (.int .i64 0) (.int .i64 0) (.int .i64 0) (.int .i64 0) (.int .i64 0) (.int .i64 0) (.int .i64 0) (.int .i64 0) (.int .i64 0) (.int .i64 0) (.int .i64 0) (.int .i64 0) (.int .i64 0) (.int .i64 0) (.int .i64 0) (.int .i64 0) (.bool false) (.bool false) (.bool false) (.bool false) (.int .i64 0) rg (.int .i64 0)
/-- a machine that begins -/
abbrev machS (entry : Int) (rg : Value) : Value := mach (.int .i64 0) (.int .i64 0) (.int .i64 0) (.int .i64 0) (.int .i64 278520) (.int .i64 0) (.int .i64 0) (.int .i64 0) (.int .i64 0) (.int .i64 0) (.int .i64 0) (.int .i64 0) (.int .i64 0) (.int .i64 0) (.int .i64 0) (.int .i64 65536) (.bool false) (.bool false) (.bool false) (.bool false) (.int .i64 (wrap64 (1048576 + entry))) rg (.int .i64 0)
set_option maxHeartbeats 16000000 in
set_option maxRecDepth 100000 in
theorem Start_no (sg im fn : Value) (m0 m1 gl dt v0 v1 v2 v3 v4 v5 v6 en : Value) (code : ByteArray) (halt entry : Int) (P : Option Addr) (na ca : Nat) (w : World) (hs : code.size ≤ 9223372036854775807) (hna : na ≤ 9223372036854775807) (h : entry < 0 ∨ (code.size : Int) ≤ entry ∨ 4 < na) :
    Calls Tryd.prog 37 #[.agg #[sg, im, fn, m0, m1, gl, dt], .agg #[v0, v1, v2, v3, v4, v5, v6, .string code, en, .int .i64 halt], .int .i64 entry, .slice P na ca] w fun e w' => e = .returned (.tuple #[machZ (.slice none 0 0), .bool false]) ∧ Below w.heap.size w w' := by
  have hc : entry < 0 ∨ (0 ≤ entry ∧ (code.size : Int) ≤ entry) ∨ (0 ≤ entry ∧ ¬ (code.size : Int) ≤ entry ∧ 4 < na) := by omega
  rcases hc with h1 | ⟨h1, h2⟩ | ⟨h1, h2, h3⟩
  all_goals
    clear h
    go_enter Tryd.func37, Tryd.ntmps37
    go_upto_region 2 with fail
    obtain ⟨W4, hW4⟩ : ∃ W, (((w.alloc (.cells #[sg, im, fn, m0, m1, gl, dt] 70)).alloc (.cells #[v0, v1, v2, v3, v4, v5, v6, .string code, en, .int .i64 halt] 72)).alloc (.cells #[.slice P na ca] 43)).alloc (.cells #[.int .i64 0, .int .i64 0, .int .i64 0, .int .i64 0, .int .i64 0, .int .i64 0, .int .i64 0, .int .i64 0, .int .i64 0, .int .i64 0, .int .i64 0, .int .i64 0, .int .i64 0, .int .i64 0, .int .i64 0, .int .i64 0, .bool false, .bool false, .bool false, .bool false, .int .i64 0, .slice none 0 0, .int .i64 0] 27) = W := ⟨_, rfl⟩
    have X4 := blk_new (((w.alloc (.cells #[sg, im, fn, m0, m1, gl, dt] 70)).alloc (.cells #[v0, v1, v2, v3, v4, v5, v6, .string code, en, .int .i64 halt] 72)).alloc (.cells #[.slice P na ca] 43)) (.cells #[.int .i64 0, .int .i64 0, .int .i64 0, .int .i64 0, .int .i64 0, .int .i64 0, .int .i64 0, .int .i64 0, .int .i64 0, .int .i64 0, .int .i64 0, .int .i64 0, .int .i64 0, .int .i64 0, .int .i64 0, .int .i64 0, .bool false, .bool false, .bool false, .bool false, .int .i64 0, .slice none 0 0, .int .i64 0] 27)
    rw [World.size_alloc, World.size_alloc, World.size_alloc] at X4
    have B4 : Below w.heap.size w W4 := by rw [← hW4]; exact below_alloc (below_alloc (below_alloc (below_alloc (Below.refl _ _) _) _) _) _
    rw [hW4] at X4 ⊢
    have H4 := Aside0.mk (And.intro B4 X4)
    clear hW4 B4 X4
    refine wp_region_lit ?_
    refine build_named rfl 27 _ rfl #[.int .i64 0, .int .i64 0, .int .i64 0, .int .i64 0, .int .i64 0, .int .i64 0, .int .i64 0, .int .i64 0, .int .i64 0, .int .i64 0, .int .i64 0, .int .i64 0, .int .i64 0, .int .i64 0, .int .i64 0, .int .i64 0, .bool false, .bool false, .bool false, .bool false, .int .i64 0, .slice none 0 0, .int .i64 0] (by kernel_rfl) ?_
    refine wpList_store_row rfl 27 (.tmp 8) (.tmp 25) rfl (w.heap.size + 1 + 1 + 1) #[.int .i64 0, .int .i64 0, .int .i64 0, .int .i64 0, .int .i64 0, .int .i64 0, .int .i64 0, .int .i64 0, .int .i64 0, .int .i64 0, .int .i64 0, .int .i64 0, .int .i64 0, .int .i64 0, .int .i64 0, .int .i64 0, .bool false, .bool false, .bool false, .bool false, .int .i64 0, .slice none 0 0, .int .i64 0] rfl rfl 27 _ H4.out.2 (by kernel_rfl) rfl (by kernel_rfl) ?_
    have H5 := Aside0.mk (And.intro (below_setRow H4.out.1 (by omega : w.heap.size ≤ w.heap.size + 1 + 1 + 1) #[.int .i64 0, .int .i64 0, .int .i64 0, .int .i64 0, .int .i64 0, .int .i64 0, .int .i64 0, .int .i64 0, .int .i64 0, .int .i64 0, .int .i64 0, .int .i64 0, .int .i64 0, .int .i64 0, .int .i64 0, .int .i64 0, .bool false, .bool false, .bool false, .bool false, .int .i64 0, .slice none 0 0, .int .i64 0]) (setRow_heap W4 (w.heap.size + 1 + 1 + 1) _ #[.int .i64 0, .int .i64 0, .int .i64 0, .int .i64 0, .int .i64 0, .int .i64 0, .int .i64 0, .int .i64 0, .int .i64 0, .int .i64 0, .int .i64 0, .int .i64 0, .int .i64 0, .int .i64 0, .int .i64 0, .int .i64 0, .bool false, .bool false, .bool false, .bool false, .int .i64 0, .slice none 0 0, .int .i64 0] _ _ H4.out.2))
    clear H4
    generalize W4.setRow _ _ = W5 at H5 ⊢
    go_wp2
    refine bodyPost_ret (results_row_tmp rfl _ _ (w.heap.size + 1 + 1 + 1) _ _ _ _ rfl H5.out.2 rfl rfl rfl) rfl ?_
    exact ⟨rfl, H5.out.1⟩
set_option maxHeartbeats 16000000 in
set_option maxRecDepth 100000 in
theorem Start_ok (sg im fn : Value) (m0 m1 : Int) (G A : Option Addr) (gl : List (Int × Int)) (ds : List D3) (ng cg nd cd : Nat) (v0 v1 v2 v3 v4 v5 v6 en : Value) (code : ByteArray) (halt entry : Int) (P : Option Addr) (na ca : Nat) (args : List Int) (w : World)
    (hgl : gl.length = ng) (hng : ng ≤ 1000) (hG : CellsG w G gl) (hds : ds.length = nd) (hnd : nd ≤ 9223372036854775807) (hD : CellsD w A ds) (hs : code.size ≤ 9223372036854775807) (hna : args.length = na) (hn4 : na ≤ 4) (hr : ReadsInt w .i64 P na args) (hbp : 0 < na → ∀ a, P = some a → a.block < w.heap.size)
    (h0 : 0 ≤ entry) (h1 : ¬ (code.size : Int) ≤ entry) :
    Calls Tryd.prog 37 #[.agg #[sg, im, fn, .int .i64 m0, .int .i64 m1, .slice G ng cg, .slice A nd cd], .agg #[v0, v1, v2, v3, v4, v5, v6, .string code, en, .int .i64 halt], .int .i64 entry, .slice P na ca] w fun e w' => ∃ rg, e = .returned (.tuple #[machS entry rg, .bool true]) ∧ w'.ownsRow w.heap.size 33 3 rg (regs code (aI (dataL (gl.map (·.2))) args na) (List.replicate 16376 0 ++ bytesOf (wrap64 (1048576 + halt)) 8) m0 m1 ds).length (cl3 (regs code (aI (dataL (gl.map (·.2))) args na) (List.replicate 16376 0 ++ bytesOf (wrap64 (1048576 + halt)) 8) m0 m1 ds)) ∧ Below w.heap.size w w' := by
  obtain ⟨RL, hRL⟩ : ∃ RL, regs code (aI (dataL (gl.map (·.2))) args na) (List.replicate 16376 0 ++ bytesOf (wrap64 (1048576 + halt)) 8) m0 m1 ds = RL := ⟨_, rfl⟩
  rw [hRL]
  have h3 : ¬ (4 : Int) < na := by omega
  have HP := Aside0.mk (And.intro hgl (And.intro hG (And.intro hds (And.intro hD (And.intro hna (And.intro hr hbp))))))
  clear hgl hG hds hD hna hr hbp
  go_enter Tryd.func37, Tryd.ntmps37
  go_upto_region 3 with fail
  obtain ⟨W4, hW4⟩ : ∃ W, ((((w.alloc (.cells #[sg, im, fn, .int .i64 m0, .int .i64 m1, .slice G ng cg, .slice A nd cd] 70)).alloc (.cells #[v0, v1, v2, v3, v4, v5, v6, .string code, en, .int .i64 halt] 72)).alloc (.cells #[.slice P na ca] 43)).alloc (.cells #[.int .i64 0, .int .i64 0, .int .i64 0, .int .i64 0, .int .i64 0, .int .i64 0, .int .i64 0, .int .i64 0, .int .i64 0, .int .i64 0, .int .i64 0, .int .i64 0, .int .i64 0, .int .i64 0, .int .i64 0, .int .i64 0, .bool false, .bool false, .bool false, .bool false, .int .i64 0, .slice none 0 0, .int .i64 0] 27)) = W := ⟨_, rfl⟩
  have s4 : W4.heap.size = w.heap.size + 1 + 1 + 1 + 1 := by rw [← hW4, World.size_alloc, World.size_alloc, World.size_alloc, World.size_alloc]
  have b4 : Below w.heap.size w W4 := by rw [← hW4]; exact below_alloc (below_alloc (below_alloc (below_alloc (Below.refl _ _) _) _) _) _
  have k0 : W4.heap[w.heap.size]? = some (.cells #[sg, im, fn, .int .i64 m0, .int .i64 m1, .slice G ng cg, .slice A nd cd] 70 (0, 0)) := by
    rw [← hW4]
    exact blk_alloc (blk_alloc (blk_alloc (blk_new _ _) _) _) _
  have k1 : W4.heap[w.heap.size + 1]? = some (.cells #[v0, v1, v2, v3, v4, v5, v6, .string code, en, .int .i64 halt] 72 (0, 0)) := by
    rw [← hW4]
    refine blk_alloc (blk_alloc ?_ _) _
    have := blk_new (w.alloc (.cells #[sg, im, fn, .int .i64 m0, .int .i64 m1, .slice G ng cg, .slice A nd cd] 70)) (.cells #[v0, v1, v2, v3, v4, v5, v6, .string code, en, .int .i64 halt] 72)
    rw [World.size_alloc] at this
    exact this
  have k2 : W4.heap[w.heap.size + 1 + 1]? = some (.cells #[.slice P na ca] 43 (0, 0)) := by
    rw [← hW4]
    refine blk_alloc ?_ _
    have := blk_new ((w.alloc (.cells #[sg, im, fn, .int .i64 m0, .int .i64 m1, .slice G ng cg, .slice A nd cd] 70)).alloc (.cells #[v0, v1, v2, v3, v4, v5, v6, .string code, en, .int .i64 halt] 72)) (.cells #[.slice P na ca] 43)
    rw [World.size_alloc, World.size_alloc] at this
    exact this
  have k3 : W4.heap[w.heap.size + 1 + 1 + 1]? = some (.cells #[.int .i64 0, .int .i64 0, .int .i64 0, .int .i64 0, .int .i64 0, .int .i64 0, .int .i64 0, .int .i64 0, .int .i64 0, .int .i64 0, .int .i64 0, .int .i64 0, .int .i64 0, .int .i64 0, .int .i64 0, .int .i64 0, .bool false, .bool false, .bool false, .bool false, .int .i64 0, .slice none 0 0, .int .i64 0] 27 (0, 0)) := by
    rw [← hW4]
    have := blk_new (((w.alloc (.cells #[sg, im, fn, .int .i64 m0, .int .i64 m1, .slice G ng cg, .slice A nd cd] 70)).alloc (.cells #[v0, v1, v2, v3, v4, v5, v6, .string code, en, .int .i64 halt] 72)).alloc (.cells #[.slice P na ca] 43)) (.cells #[.int .i64 0, .int .i64 0, .int .i64 0, .int .i64 0, .int .i64 0, .int .i64 0, .int .i64 0, .int .i64 0, .int .i64 0, .int .i64 0, .int .i64 0, .int .i64 0, .int .i64 0, .int .i64 0, .int .i64 0, .int .i64 0, .bool false, .bool false, .bool false, .bool false, .int .i64 0, .slice none 0 0, .int .i64 0] 27)
    rw [World.size_alloc, World.size_alloc, World.size_alloc] at this
    exact this
  rw [hW4]
  have HK := Aside0.mk (And.intro b4 (And.intro k0 (And.intro k1 (And.intro k2 (And.intro k3 s4)))))
  clear hW4 b4 k0 k1 k2 k3 s4
  go_upto_region 4 with (first
    | (refine build_named rfl 27 _ rfl #[.int .i64 0, .int .i64 0, .int .i64 0, .int .i64 0, .int .i64 0, .int .i64 0, .int .i64 0, .int .i64 0, .int .i64 0, .int .i64 0, .int .i64 0, .int .i64 0, .int .i64 0, .int .i64 0, .int .i64 0, .int .i64 0, .bool false, .bool false, .bool false, .bool false, .int .i64 (wrap64 (1048576 + entry)), .slice none 0 0, .int .i64 0] (by kernel_rfl) ?_)
    | (refine wpList_store_row rfl 27 (.tmp 10) (.tmp 28) rfl W4.heap.size #[.int .i64 0, .int .i64 0, .int .i64 0, .int .i64 0, .int .i64 0, .int .i64 0, .int .i64 0, .int .i64 0, .int .i64 0, .int .i64 0, .int .i64 0, .int .i64 0, .int .i64 0, .int .i64 0, .int .i64 0, .int .i64 0, .bool false, .bool false, .bool false, .bool false, .int .i64 (wrap64 (1048576 + entry)), .slice none 0 0, .int .i64 0] rfl rfl 27 _ (blk_new W4 _) (by kernel_rfl) rfl (by kernel_rfl) ?_))
  obtain ⟨W5, hW5⟩ : ∃ W, (W4.alloc (.cells #[.int .i64 0, .int .i64 0, .int .i64 0, .int .i64 0, .int .i64 0, .int .i64 0, .int .i64 0, .int .i64 0, .int .i64 0, .int .i64 0, .int .i64 0, .int .i64 0, .int .i64 0, .int .i64 0, .int .i64 0, .int .i64 0, .bool false, .bool false, .bool false, .bool false, .int .i64 0, .slice none 0 0, .int .i64 0] 27)).setRow W4.heap.size #[.int .i64 0, .int .i64 0, .int .i64 0, .int .i64 0, .int .i64 0, .int .i64 0, .int .i64 0, .int .i64 0, .int .i64 0, .int .i64 0, .int .i64 0, .int .i64 0, .int .i64 0, .int .i64 0, .int .i64 0, .int .i64 0, .bool false, .bool false, .bool false, .bool false, .int .i64 (wrap64 (1048576 + entry)), .slice none 0 0, .int .i64 0] = W := ⟨_, rfl⟩
  have k4 : W5.heap[W4.heap.size]? = some (.cells #[.int .i64 0, .int .i64 0, .int .i64 0, .int .i64 0, .int .i64 0, .int .i64 0, .int .i64 0, .int .i64 0, .int .i64 0, .int .i64 0, .int .i64 0, .int .i64 0, .int .i64 0, .int .i64 0, .int .i64 0, .int .i64 0, .bool false, .bool false, .bool false, .bool false, .int .i64 (wrap64 (1048576 + entry)), .slice none 0 0, .int .i64 0] 27 (0, 0)) := by
    rw [← hW5]
    exact setRow_heap _ _ _ _ _ _ (blk_new W4 _)
  have ko : ∀ k, k < W4.heap.size → W5.heap[k]? = W4.heap[k]? := fun k hk => by
    rw [← hW5, setRow_other _ _ _ _ (by omega)]
    exact Below.heap_alloc W4 _ k hk
  have s4 := HK.out.2.2.2.2.2
  have s5 : W5.heap.size = W4.heap.size + 1 := by rw [← hW5, size_setRow, World.size_alloc]
  have b5 : Below w.heap.size w W5 := by
    rw [← hW5]
    exact below_setRow (below_alloc HK.out.1 _) (by rw [s4]; omega) _
  rw [hW5]
  clear hW5
  have q0 := (ko w.heap.size (by rw [s4]; omega)).trans HK.out.2.1
  have q1 := (ko (w.heap.size + 1) (by rw [s4]; omega)).trans HK.out.2.2.1
  have q2 := (ko (w.heap.size + 1 + 1) (by rw [s4]; omega)).trans HK.out.2.2.2.1
  have q3 := (ko (w.heap.size + 1 + 1 + 1) (by rw [s4]; omega)).trans HK.out.2.2.2.2.1
  clear ko HK
  generalize W4.heap.size = g4 at *
  have hL := LayS sg im fn m0 m1 G A gl ds ng cg nd cd code W5 HP.out.1 hng (HP.out.2.1.below b5) HP.out.2.2.1 hnd (HP.out.2.2.2.1.below b5) (w.heap.size + 1 + 1) (w.heap.size + 1) na ca args P v0 v1 v2 v3 v4 v5 v6 (.string code) en halt HP.out.2.2.2.2.1 hn4 q2 q1 (HP.out.2.2.2.2.2.1.below b5) (fun hn a e => Nat.lt_of_lt_of_le (HP.out.2.2.2.2.2.2 hn a e) b5.size)
  clear HP
  rw [hRL] at hL
  clear hRL
  have y7 := blk_cell q1 7
  simp at y7
  have HL := Aside0.mk hL
  have HQ := Aside0.mk (And.intro q0 (And.intro q3 (And.intro k4 (And.intro b5 (And.intro s4 s5)))))
  clear hL q0 q1 q2 q3 k4 b5 s4 s5
  go_upto_region 7 with (first
    | (refine wpList_load_row rfl 70 (.tmp 4) rfl w.heap.size rfl 70 _ (0, 0) _ HQ.out.1 rfl rfl rfl ?_)
    | (go_at_call 60; (with_reducible refine HL.out.mono ?_); rintro e w6 ⟨v, rfl, ho, hb⟩; have k6 := (hb.block g4 (by rw [HQ.out.2.2.2.2.2]; omega)).trans HQ.out.2.2.1; have y21 := blk_cell k6 21; have y4 := blk_cell k6 4; have y15 := blk_cell k6 15; have f21 := blk_frozen k6 21; have f4 := blk_frozen k6 4; have f15 := blk_frozen k6 15; simp at y21 y4 y15; obtain ⟨vp, vn, vc, rfl⟩ := owned_slice ho; have H6 := Aside0.mk (And.intro ho (And.intro hb k6)); clear ho hb k6))
  obtain ⟨W7, hW7⟩ : ∃ W, ((w6.setCell ⟨g4, 21, none⟩ (.slice vp vn vc)).setCell ⟨g4, 4, none⟩ (.int .i64 278520)).setCell ⟨g4, 15, none⟩ (.int .i64 65536) = W := ⟨_, rfl⟩
  have s4 := HQ.out.2.2.2.2.1
  have s5 := HQ.out.2.2.2.2.2
  have hb := H6.out.2.1
  have e7 : W7.heap[g4]? = some (.cells #[.int .i64 0, .int .i64 0, .int .i64 0, .int .i64 0, .int .i64 278520, .int .i64 0, .int .i64 0, .int .i64 0, .int .i64 0, .int .i64 0, .int .i64 0, .int .i64 0, .int .i64 0, .int .i64 0, .int .i64 0, .int .i64 65536, .bool false, .bool false, .bool false, .bool false, .int .i64 (wrap64 (1048576 + entry)), .slice vp vn vc, .int .i64 0] 27 (0, 0)) := by
    rw [← hW7]
    have z1 := heap_setCell_same w6 g4 21 _ _ (.slice vp vn vc) H6.out.2.2
    have z2 := heap_setCell_same _ g4 4 _ _ (.int .i64 278520) z1
    have z3 := heap_setCell_same _ g4 15 _ _ (.int .i64 65536) z2
    exact z3
  have o7 : ∀ k, k ≠ g4 → W7.heap[k]? = w6.heap[k]? := fun k hk => by
    rw [← hW7, heap_setCell_other _ _ _ _ hk, heap_setCell_other _ _ _ _ hk, heap_setCell_other _ _ _ _ hk]
  have b67 : Below w.heap.size w6 W7 := ⟨by rw [← hW7]; rfl, by rw [← hW7]; rfl, by rw [← hW7]; rfl, by rw [← hW7]; simp [World.setCell], fun k hk => o7 k (by omega)⟩
  have b7 : Below w.heap.size w W7 := (HQ.out.2.2.2.1.trans (hb.mono (by omega))).trans b67
  have r7 := (o7 (w.heap.size + 1 + 1 + 1) (by omega)).trans ((hb.block (w.heap.size + 1 + 1 + 1) (by omega)).trans HQ.out.2.1)
  rw [hW7]
  clear hW7
  have o8 : ∀ k, W5.heap.size ≤ k → (W7.setRow (w.heap.size + 1 + 1 + 1) #[.int .i64 0, .int .i64 0, .int .i64 0, .int .i64 0, .int .i64 278520, .int .i64 0, .int .i64 0, .int .i64 0, .int .i64 0, .int .i64 0, .int .i64 0, .int .i64 0, .int .i64 0, .int .i64 0, .int .i64 0, .int .i64 65536, .bool false, .bool false, .bool false, .bool false, .int .i64 (wrap64 (1048576 + entry)), .slice vp vn vc, .int .i64 0]).heap[k]? = w6.heap[k]? := fun k hk => (setRow_other _ _ _ _ (by omega)).trans (o7 k (by omega))
  have H8 := Aside0.mk (And.intro (setRow_heap W7 (w.heap.size + 1 + 1 + 1) _ #[.int .i64 0, .int .i64 0, .int .i64 0, .int .i64 0, .int .i64 278520, .int .i64 0, .int .i64 0, .int .i64 0, .int .i64 0, .int .i64 0, .int .i64 0, .int .i64 0, .int .i64 0, .int .i64 0, .int .i64 0, .int .i64 65536, .bool false, .bool false, .bool false, .bool false, .int .i64 (wrap64 (1048576 + entry)), .slice vp vn vc, .int .i64 0] _ _ r7) (And.intro (owns_move H6.out.1 o8 (by omega : w.heap.size ≤ W5.heap.size)) (below_setRow b7 (by omega : w.heap.size ≤ w.heap.size + 1 + 1 + 1) #[.int .i64 0, .int .i64 0, .int .i64 0, .int .i64 0, .int .i64 278520, .int .i64 0, .int .i64 0, .int .i64 0, .int .i64 0, .int .i64 0, .int .i64 0, .int .i64 0, .int .i64 0, .int .i64 0, .int .i64 0, .int .i64 65536, .bool false, .bool false, .bool false, .bool false, .int .i64 (wrap64 (1048576 + entry)), .slice vp vn vc, .int .i64 0])))
  refine wp_region_lit ?_
  refine wpList_load_row rfl 27 (.tmp 10) rfl g4 rfl 27 #[.int .i64 0, .int .i64 0, .int .i64 0, .int .i64 0, .int .i64 278520, .int .i64 0, .int .i64 0, .int .i64 0, .int .i64 0, .int .i64 0, .int .i64 0, .int .i64 0, .int .i64 0, .int .i64 0, .int .i64 0, .int .i64 65536, .bool false, .bool false, .bool false, .bool false, .int .i64 (wrap64 (1048576 + entry)), .slice vp vn vc, .int .i64 0] (0, 0) _ e7 rfl rfl rfl ?_
  refine wpList_store_row rfl 27 (.tmp 8) (.tmp 39) rfl (w.heap.size + 1 + 1 + 1) #[.int .i64 0, .int .i64 0, .int .i64 0, .int .i64 0, .int .i64 278520, .int .i64 0, .int .i64 0, .int .i64 0, .int .i64 0, .int .i64 0, .int .i64 0, .int .i64 0, .int .i64 0, .int .i64 0, .int .i64 0, .int .i64 65536, .bool false, .bool false, .bool false, .bool false, .int .i64 (wrap64 (1048576 + entry)), .slice vp vn vc, .int .i64 0] rfl rfl 27 _ r7 (by kernel_rfl) rfl (by kernel_rfl) ?_
  clear e7 o7 b67 b7 r7 o8 hb HQ HL H6
  generalize W7.setRow _ _ = W8 at H8 ⊢
  go_wp2
  refine bodyPost_ret (results_row_tmp rfl _ _ (w.heap.size + 1 + 1 + 1) _ _ _ _ rfl H8.out.1 rfl rfl rfl) rfl ?_
  exact ⟨_, rfl, H8.out.2.1, H8.out.2.2⟩
end Go.Proofs.YtgaiehnbjggmdaaDoor.F
