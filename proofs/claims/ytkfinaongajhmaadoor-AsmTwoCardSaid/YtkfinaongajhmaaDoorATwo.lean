/- AsmTwo: items without labels behind others: the walk. At most 60 of each. -/
import Derived.Test.YtkfinaongajhmaaDoorACat
import Derived.Test.YtkfinaongajhmaaDoorANames
import Derived.Test.YtkfinaongajhmaaDoorXOpenP
import Derived.Laws.AppendOwnNone
import Derived.BigQuiet
namespace Go.Proofs.YtkfinaongajhmaaDoor.X
open Go.Ob Go.Ob.Xc Go.RowKit Go.Proofs.YtkfinaongajhmaaDoorW.PrintWords Go.Proofs.YtkfinaongajhmaaDoorW.PrintMore
attribute [local go_sem] max2_int min2_int max_two min_two
set_option linter.unusedVariables false
set_option linter.unusedSimpArgs false
/-- instructions as an argument: none, or some -/
def Xs (w : World) (A : Option Addr) (X : List XI) : Prop := (∀ x ∈ X, NB x) ∧ (0 < X.length → ∃ a, A = some a ∧ a.block < w.heap.size ∧ CellsAt w a X)
theorem Xs.below {w w' : World} {A : Option Addr} {X : List XI} (h : Xs w A X) (hb : Below w.heap.size w w') : Xs w' A X := by
  refine ⟨h.1, fun h0 => ?_⟩
  obtain ⟨a, e, ha, hc⟩ := h.2 h0
  exact ⟨a, e, Nat.lt_of_lt_of_le ha hb.size, hc.below (fun _ => ha) hb⟩
/-- what All answers -/
def AllAns (X : List XI) (w : World) (e : Ending) (w' : World) : Prop :=
  (e = if allRt X then .returned (.tuple #[.string (strOfNums (cat X)), .int .i64 0]) else .returned (.tuple #[.string ⟨#[]⟩, .int .i64 4])) ∧ Below w.heap.size w w'
theorem AllX (X : List XI) (v : Value) (A : Option Addr) (cap : Nat) (hv : v = .slice A X.length cap) (hA : A = none → cap = 0) (w : World) (ht : Tab w) (hX : X.length ≤ 1000) (h : Xs w A X) :
    Calls Tryd.prog 22 #[v] w (AllAns X w) := by
  subst hv
  cases A with
  | none =>
    have h0 : X.length = 0 := by
      refine Nat.eq_zero_of_not_pos fun hp => ?_
      obtain ⟨a, e, _⟩ := h.2 hp
      cases e
    obtain rfl : X = [] := List.eq_nil_of_length_eq_zero h0
    rw [hA rfl]
    exact (All_nil w).mono fun e w' q => ⟨q.1, q.2⟩
  | some a =>
    refine (All_some X a cap w ht (by omega) (fun h0 => ?_) (fun i hi => ?_) h.1).mono fun e w' q => ⟨q.1, q.2⟩
    · obtain ⟨b, e, hb, _⟩ := h.2 h0
      simp only [Option.some.injEq] at e
      subst e
      exact hb
    · obtain ⟨b, e, _, hc⟩ := h.2 (by omega)
      simp only [Option.some.injEq] at e
      subst e
      exact hc i hi
theorem c9_all {t : It} {u : Value} (h : u ∈ c9 t) : u.oneCell' = true := by
  simp [c9] at h
  rcases h with rfl | rfl | rfl | rfl | rfl | rfl | rfl | rfl | rfl <;> rfl
theorem cl_all : ∀ {L : List It} {u : Value}, u ∈ cl L → u.oneCell' = true
  | t :: l, u, h => by
    rcases List.mem_append.mp (show u ∈ c9 t ++ cl l from h) with h | h
    · exact c9_all h
    · exact cl_all h
theorem cl_len : ∀ (L : List It), (cl L).length = L.length * 9
  | [] => rfl
  | t :: l => by
    show (c9 t ++ cl l).length = _
    rw [List.length_append, cl_len l, List.length_cons]
    show 9 + _ = _
    omega
theorem its_cl {w : World} {a : Addr} {L : List It} (h : TCells w a L) : ∀ (j : Nat) (u : Value), (cl L)[j]? = some u → w.cell? (a.add j) = some u := by
  intro j u hj
  have hlt : j < L.length * 9 := by rw [← cl_len]; exact (List.getElem?_eq_some_iff.mp hj).1
  obtain ⟨i, k, rfl, hi, hk⟩ : ∃ i k, j = i * 9 + k ∧ i < L.length ∧ k < 9 := ⟨j / 9, j % 9, by omega, by omega, by omega⟩
  rw [cl_at L i hi k hk] at hj
  obtain ⟨c0, c1, c2, c3, c4, c5, c6, c7, c8⟩ := h i hi
  have ad : ∀ k, 0 < k → a.add (i * 9 + k) = ⟨(a.add (i * 9)).block, (a.add (i * 9)).off + k, none⟩ := by
    intro k h0
    unfold Addr.add
    rw [if_neg (by omega)]
    split
    · rename_i h1
      simp [h1]
    · simp [Nat.add_assoc]
  have hk' : k = 0 ∨ k = 1 ∨ k = 2 ∨ k = 3 ∨ k = 4 ∨ k = 5 ∨ k = 6 ∨ k = 7 ∨ k = 8 := by omega
  rcases hk' with rfl | rfl | rfl | rfl | rfl | rfl | rfl | rfl | rfl
  · simp [c9] at hj; subst hj; exact c0
  all_goals
    simp [c9] at hj
    subst hj
    rw [ad _ (by decide)]
    assumption
theorem append_its {ops : Array Oper} {rest : List Oper} {o : Oper} {a : Act} {Q : Exit → Act → World → Prop} {w : World} (hgd : o.guard = none) (s x : Operand)
    (ho : o.op = .call { callee := .builtin .append, args := #[s, x], argTypes := #[43, 43] }) (base : Nat) (hs : a.eval s = .slice none 0 0)
    (A : Option Addr) (n cap : Nat) (hx : a.eval x = .slice A n cap) (hAc : A = none → cap = 0) (M : List It) (hi : Its w A M) (hn : M.length = n) (hn60 : n ≤ 60) (hbase : base ≤ w.heap.size)
    (h : ∀ v' w', w'.ownsRow base 56 9 v' n (cl M) → w.grownBy w' none → wpList Tryd.prog ops Q rest (a.put o.dst v') w') : wpList Tryd.prog ops Q (o :: rest) a w := by
  obtain ⟨i0, hi0, hz0, hz1, hz2⟩ := info_parts info_item
  cases A with
  | none =>
    have h0 : n = 0 := by
      refine Nat.eq_zero_of_not_pos fun hp => ?_
      obtain ⟨a, e, _⟩ := hi.2 (by omega)
      cases e
    subst h0
    obtain rfl : M = [] := List.eq_nil_of_length_eq_zero hn
    rw [hAc rfl] at hx
    exact wpList_append_own_none hgd s x 43 ho base 56 i0 9 Tryd.underlying43 hi0 _ 0 [] hs (World.ownsRow_nil _ _ _ _) hx (h _ _ (World.ownsRow_nil _ _ _ _) ⟨rfl, rfl, rfl, Nat.le_refl _, fun _ _ _ => rfl⟩)
  | some ad =>
    refine wpList_append_own w hgd s x 43 ho base 56 i0 _ 9 72 Tryd.underlying43 hi0 hz0 hz1 hz2 rfl (by decide) (.slice none 0 0) 0 [] hs (World.ownsRow_nil _ _ _ _) ad n cap (cl M) hx (by rw [cl_len, hn]) ?_ (fun u hu => cl_all hu) (by unfold maxLen; omega) (by omega) hbase ?_
    · by_cases h0 : n = 0
      · obtain rfl : M = [] := List.eq_nil_of_length_eq_zero (by omega)
        intro j u hj
        cases hj
      · obtain ⟨b, e, _, hc⟩ := hi.2 (by omega)
        simp only [Option.some.injEq] at e
        subst e
        exact its_cl hc
    · intro v' w' ho' hg _
      rw [Nat.zero_add, List.nil_append] at ho'
      exact h v' w' ho' hg
/-- what the two parts and the whole are -/
theorem two_plain (M : List It) (Y : List XI) (s : List Int) (hM : M.length ≤ 60) (hY : Y.length ≤ 60) (h1 : ∀ t ∈ M, NB t.x) (h2 : ∀ x ∈ Y, NB x) (hs : asmB M = some s) (hy : allRt Y = true) :
    ∃ (X1 : List XI), asmB (M ++ Y.map pl) = some (s ++ cat Y) ∧
    (∀ W, Tab W → Calls Tryd.prog 30 #[.string (strOfNums s)] W fun e w' => ∃ (A : Option Addr) (cap : Nat), e = .returned (.tuple #[.slice A X1.length cap, .int .i64 0]) ∧ ReadsInt w' .i64 A X1.length (offs 0 X1) ∧ Below W.heap.size W w') ∧
    (∀ W, Tab W → Calls Tryd.prog 30 #[.string (strOfNums (cat Y))] W fun e w' => ∃ (A : Option Addr) (cap : Nat), e = .returned (.tuple #[.slice A Y.length cap, .int .i64 0]) ∧ ReadsInt w' .i64 A Y.length (offs 0 Y) ∧ Below W.heap.size W w') ∧
    (∀ W, Tab W → Calls Tryd.prog 30 #[.string (strOfNums s ++ strOfNums (cat Y))] W fun e w' => ∃ (A : Option Addr) (cap : Nat), e = .returned (.tuple #[.slice A (X1.length + Y.length) cap, .int .i64 0]) ∧ ReadsInt w' .i64 A (X1.length + Y.length) (offs 0 X1 ++ (offs 0 Y).map ((s.length : Int) + ·)) ∧ Below W.heap.size W w') ∧
    X1.length ≤ 60 ∧ s.length ≤ 1000 ∧ (strOfNums s).size = s.length ∧ (strOfNums (cat Y)).size ≤ 1000 ∧ (∀ b ∈ offs 0 Y, 0 ≤ b ∧ b ≤ 100000) := by
  obtain ⟨a1, a2, a3, a4, a5, a6⟩ := asm_ins (by omega) h1 hs
  have hYi : Ins Y := fun x hx => ⟨List.all_eq_true.mp hy x hx, h2 x hx⟩
  have hsb := (itemsB_ok a3).2
  have hsl := (itemsB_ok a3).1
  have hyb := (cat_ok Y hy).2
  have hyl := (cat_ok Y hy).1
  obtain ⟨t1, t2, t3⟩ := starts_twice a6 hYi
  rw [← a4] at t1 t3
  have hil := ins_len M M.length
  refine ⟨ins M M.length, asm_twice (by omega) h1 hs hYi, fun W ht => ?_, fun W ht => ?_, fun W ht => ?_, by omega, by omega, strsize hsb, by rw [strsize hyb]; omega, ?_⟩
  · exact StartsR s _ _ (offs_length _ _) hsb (by omega) t1 (by omega) W ht
  · exact StartsR (cat Y) _ _ (offs_length _ _) hyb (by omega) t2 (by omega) W ht
  · rw [← num_app]
    refine StartsR (s ++ cat Y) _ _ (by rw [List.length_append, List.length_map, offs_length, offs_length]) (fun b hb => ?_) (by rw [List.length_append]; omega) t3 (by omega) W ht
    rcases List.mem_append.mp hb with hb | hb
    · exact hsb b hb
    · exact hyb b hb
  · have key : ∀ (X : List XI) (k : Int), allRt X = true → ∀ b ∈ offs k X, k ≤ b ∧ b ≤ k + (cat X).length := by
      intro X
      induction X with
      | nil => intro k _ b hb; cases hb
      | cons x X ih =>
        intro k hX b hb
        unfold allRt at hX
        rw [List.all_cons, Bool.and_eq_true] at hX
        rcases List.mem_cons.mp hb with rfl | hb
        · simp only [cat, List.length_append]; omega
        · have := ih _ hX.2 b hb
          simp only [cat, List.length_append]
          omega
    intro b hb
    have := key Y 0 hy b hb
    omega
set_option maxHeartbeats 16000000 in
set_option maxRecDepth 100000 in
theorem TwoWalk (L M : List It) (A : Option Addr) (cap n : Nat) (X Y : List XI) (B : Option Addr) (cb m : Nat) (w : World) (ht : Tab w) (hi : Its w A M) (hcap : L.length ≤ cap) (hlen : L.length ≤ 9223372036854775807) (hAc : A = none → cap = 0)
    (hnM : M.length = n) (hn60 : n ≤ 60) (hn : (L.length ≤ 60 ∧ n = L.length) ∨ (¬ L.length ≤ 60 ∧ n = 60))
    (hx : Xs w B Y) (hxc : X.length ≤ cb) (hxl : X.length ≤ 9223372036854775807) (hBc : B = none → cb = 0)
    (hmY : Y.length = m) (hm60 : m ≤ 60) (hm : (X.length ≤ 60 ∧ m = X.length) ∨ (¬ X.length ≤ 60 ∧ m = 60)) :
    Calls Tryd.prog 14 #[.slice A L.length cap, .slice B X.length cb] w fun e w' => e = .returned (.bool true) ∧ Below w.heap.size w w' := by
  obtain ⟨i0, hi0, hz0, hz1, hz2⟩ := info_parts info_item
  have HE := Aside0.mk (AExamples w ht)
  have HT := Aside0.mk (And.intro ht (And.intro hi hx))
  have hA := fun W (hW : Below w.heap.size w W) => Assemble M A cap W (ht.below hW) (by omega) (hi.below hW)
  have hB := fun W (hW : Below w.heap.size w W) => AllX Y (.slice B m cb) B cb (by rw [hmY]) hBc W (ht.below hW) (by omega) (hx.below hW)
  rw [hnM] at hA
  have HM := Aside0.mk (And.intro hnM (And.intro hmY (And.intro hAc hBc)))
  clear ht hi hx hnM hmY hAc hBc
  cases hq : asmB M with
  | none =>
    have HQ := Aside0.mk hq
    have HA := Aside0.mk hA
    have HB := Aside0.mk hB
    clear hA hB hq
    cases hy : allRt Y
    all_goals
      have HY := Aside0.mk hy
      clear hy
      rcases hn with ⟨hn, rfl⟩ | ⟨hn, rfl⟩ <;> rcases hm with ⟨hm, rfl⟩ | ⟨hm, rfl⟩
    all_goals
      go_enter Tryd.func14, Tryd.ntmps14
      go_wp2_with (first
        | (go_at_call 24; (with_reducible refine HE.out.mono ?_); rintro e w1 ⟨rfl, hb⟩; have H1 := Aside0.mk hb; clear hb)
        | (go_at_call 28; (with_reducible refine (HA.out _ H1.out).mono ?_); intro e w2 hp; unfold AsmAns at hp; rw [HQ.out] at hp; obtain ⟨rfl, hb⟩ := hp; have H2 := Aside0.mk (H1.out.trans (hb.mono H1.out.size)); clear hb)
        | (go_at_call 22; (with_reducible refine (HB.out _ H2.out).mono ?_); intro e w3 hp; unfold AllAns at hp; rw [HY.out] at hp; obtain ⟨rfl, hb⟩ := hp; have H3 := Aside0.mk (H2.out.trans (hb.mono H2.out.size)); clear hb))
      go_ret
      exact ⟨rfl, H3.out⟩
  | some s =>
    have HQ := Aside0.mk hq
    have HA := Aside0.mk hA
    have HB := Aside0.mk hB
    clear hA hB
    cases hy : allRt Y with
    | false =>
      have HY := Aside0.mk hy
      clear hy hq
      rcases hn with ⟨hn, rfl⟩ | ⟨hn, rfl⟩ <;> rcases hm with ⟨hm, rfl⟩ | ⟨hm, rfl⟩
      all_goals
        go_enter Tryd.func14, Tryd.ntmps14
        go_wp2_with (first
          | (go_at_call 24; (with_reducible refine HE.out.mono ?_); rintro e w1 ⟨rfl, hb⟩; have H1 := Aside0.mk hb; clear hb)
          | (go_at_call 28; (with_reducible refine (HA.out _ H1.out).mono ?_); intro e w2 hp; unfold AsmAns at hp; rw [HQ.out] at hp; obtain ⟨rfl, hb⟩ := hp; have H2 := Aside0.mk (H1.out.trans (hb.mono H1.out.size)); clear hb)
          | (go_at_call 22; (with_reducible refine (HB.out _ H2.out).mono ?_); intro e w3 hp; unfold AllAns at hp; rw [HY.out] at hp; obtain ⟨rfl, hb⟩ := hp; have H3 := Aside0.mk (H2.out.trans (hb.mono H2.out.size)); clear hb))
        go_ret
        exact ⟨rfl, H3.out⟩
    | true =>
      have HY := Aside0.mk hy
      obtain ⟨X1, hpl⟩ := two_plain M Y s (by rw [HM.out.1]; exact hn60) (by rw [HM.out.2.1]; exact hm60) (fun t ht => (HT.out.2.1.1 t ht).1) HT.out.2.2.1 hq hy
      have PL := Aside0.mk hpl
      clear hpl
      clear hy hq
      rcases hn with ⟨hn, rfl⟩ | ⟨hn, rfl⟩ <;> rcases hm with ⟨hm, rfl⟩ | ⟨hm, rfl⟩
      all_goals
        go_enter Tryd.func14, Tryd.ntmps14
        go_wp2_with (first
            | (go_at_call 24; (with_reducible refine HE.out.mono ?_); rintro e w1 ⟨rfl, hb⟩; have H1 := Aside0.mk hb; clear hb)
            | (go_at_call 28; (with_reducible refine (HA.out _ H1.out).mono ?_); intro e w2 hp; unfold AsmAns at hp; rw [HQ.out] at hp; obtain ⟨rfl, hb⟩ := hp; have H2 := Aside0.mk (H1.out.trans (hb.mono H1.out.size)); clear hb)
            | (go_at_call 22; (with_reducible refine (HB.out _ H2.out).mono ?_); intro e w3 hp; unfold AllAns at hp; rw [HY.out] at hp; obtain ⟨rfl, hb⟩ := hp; have H3 := Aside0.mk (H2.out.trans (hb.mono H2.out.size)); clear hb)
            | (at_builtin; refine append_its rfl _ _ rfl w.heap.size rfl A _ cap rfl HM.out.2.2.1 M (HT.out.2.1.below H3.out) HM.out.1 hn60 H3.out.size ?_))
        intro v' w4 hown hgrow
        have H4 := Aside0.mk (And.intro hown (And.intro hgrow (H3.out.grown hgrow H3.out.size (fun q hq => by cases hq))))
        clear hown hgrow
        go_wp2_with fail
        go_loopw [10, 11] (fun v i wr => ∃ k : Nat, i = .int .i64 k ∧ k ≤ Y.length ∧ wr.ownsRow w.heap.size 56 9 v (M.length + k) (cl (M ++ (Y.take k).map pl)) ∧ Below w.heap.size w wr) (fun _ i _ => Y.length - (intOf i).toNat)
        case atStart => exact ⟨0, rfl, Nat.zero_le _, by rw [HM.out.1]; simpa using H4.out.1, H4.out.2.2⟩
        case round =>
          obtain ⟨k, rfl, hk, hown, hbw⟩ := hrel
          have HW := Aside0.mk hbw
          have HO := Aside0.mk hown
          clear hown
          by_cases hlt : k < Y.length
          · have hlt2 := hlt
            rw [HM.out.2.1] at hlt2
            obtain ⟨hnb, hcs⟩ := HT.out.2.2.below hbw
            obtain ⟨ad, hA, hab, hc⟩ := hcs (by omega)
            subst hA
            obtain ⟨c0, c1, c2, c3, c4, c5, c6⟩ := hc k hlt
            have HY2 := Aside0.mk (show M ++ (Y.take (k + 1)).map pl = (M ++ (Y.take k).map pl) ++ [pl Y[k]] by rw [List.take_succ_eq_append_getElem hlt, List.map_append, List.append_assoc]; rfl)
            have hu := Tryd.underlying56
            have hM2 := HM.out.1
            clear hbw hc hcs hnb
            generalize hq : Y[k] = x at *
            clear hq
            obtain ⟨o, wd, r, b, i, c, nn⟩ := x
            dsimp only at c0 c1 c2 c3 c4 c5 c6
            go_wp2_with (at_builtin; refine wpList_append_own _ rfl _ _ 43 rfl w.heap.size 56 i0 _ 9 72 Tryd.underlying43 hi0 hz0 hz1 hz2 rfl (by decide) _ _ _ rfl (HO.out.alloc _) ⟨_, 0, none⟩ 1 1 (c9 ⟨⟨o, wd, r, b, i, c, nn⟩, 0, 0⟩) rfl rfl ?c1 ?c2 ?c3 ?c4 ?c5 ?_)
            case c1 => exact nine wr ⟨⟨o, wd, r, b, i, c, nn⟩, 0, 0⟩
            case c2 => intro u hu; exact c9_all hu
            case c3 => unfold maxLen; omega
            case c4 => omega
            case c5 => exact Nat.le_trans HW.out.size (by simp)
            intro v' w5 hown5 hgrow _
            have H5 := Aside0.mk (And.intro hown5 hgrow)
            clear hown5 hgrow
            go_wp2
            have B5 : Below w.heap.size w w5 := (HW.out.alloc HW.out.size _).grown H5.out.2 (Nat.le_trans HW.out.size (by simp)) (fun q hq => (HO.out.lt q hq).1)
            refine ⟨⟨k + 1, by simp, hlt, ?_, B5⟩, by simp [intOf]; omega⟩
            rw [HY2.out, cl_append]
            have h5 := H5.out.1
            rw [HM.out.1, ← Nat.add_assoc, List.map_take]
            rw [show cl [pl (⟨o, wd, r, b, i, c, nn⟩ : XI)] = c9 ⟨⟨o, wd, r, b, i, c, nn⟩, 0, 0⟩ by show c9 _ ++ [] = _; rw [List.append_nil]; rfl]
            exact h5
          · obtain rfl : k = Y.length := by omega
            have hown := HO.out
            rw [List.take_length] at hown
            have hlm : (M ++ Y.map pl).length = M.length + Y.length := by rw [List.length_append, List.length_map]
            rw [← hlm] at hown
            obtain ⟨A2, cap2, hv2, hi2⟩ := its_own hown (fun t ht => by
              rcases List.mem_append.mp ht with ht | ht
              · exact HT.out.2.1.1 t ht
              · obtain ⟨x, hx, rfl⟩ := List.mem_map.mp ht
                exact ⟨HT.out.2.2.1 x hx, by show (-9223372036854775808 : Int) ≤ 0 ∧ (0 : Int) ≤ 9223372036854775807; decide, by show (-9223372036854775808 : Int) ≤ 0 ∧ (0 : Int) ≤ 9223372036854775807; decide⟩)
            subst hv2
            have hM2 := HM.out.1
            have hM3 := HM.out.2.1
            have hB := fun W (hW : Tab W) (hb : Below wr.heap.size wr W) => Assemble (M ++ Y.map pl) A2 cap2 W hW (by rw [hlm]; omega) (hi2.below hb)
            rw [hlm, HM.out.1, HM.out.2.1] at hB
            have HB2 := Aside0.mk hB
            clear hB hown hi2 HB HA
            obtain ⟨x1, x2, x3, x4, -⟩ := PL.out.2.2.2.2
            have x5 : (strOfNums s).size ≤ 1000 := by omega
            go_wp2_with (first
              | (go_at_call 28; (with_reducible refine (HB2.out _ (HT.out.1.below HW.out) (Below.refl _ _)).mono ?_); intro e w6 hp; unfold AsmAns at hp; rw [PL.out.1] at hp; dsimp only at hp; rw [num_app] at hp; obtain ⟨rfl, hb⟩ := hp; have H6 := Aside0.mk (HW.out.trans (hb.mono HW.out.size)); clear hb)
              | (go_at_call 30; (with_reducible refine (PL.out.2.1 _ (HT.out.1.below H6.out)).mono ?_); rintro e w7 ⟨A3, c3, rfl, hr, hb⟩; have H7 := Aside0.mk (And.intro (H6.out.trans (hb.mono H6.out.size)) hr); clear hb hr)
              | (go_at_call 30; (with_reducible refine (PL.out.2.2.1 _ (HT.out.1.below H7.out.1)).mono ?_); rintro e w8 ⟨A4, c4, rfl, hr, hb⟩; have H8 := Aside0.mk (And.intro (H7.out.1.trans (hb.mono H7.out.1.size)) (And.intro (H7.out.2.below hb) hr)); clear hb hr)
              | (go_at_call 30; (with_reducible refine (PL.out.2.2.2.1 _ (HT.out.1.below H8.out.1)).mono ?_); rintro e w9 ⟨A5, c5, rfl, hr, hb⟩; have H9 := Aside0.mk (And.intro (H8.out.1.trans (hb.mono H8.out.1.size)) (And.intro (H8.out.2.1.below hb) (And.intro (H8.out.2.2.below hb) hr))); clear hb hr))
            go_loopw [20] (fun i wr => ∃ k n : Nat, i = .int .i64 k ∧ k ≤ X1.length + Y.length ∧ wr = w9.drewN n) (fun i _ => X1.length + Y.length - (intOf i).toNat)
            case atStart => exact ⟨0, 0, rfl, Nat.zero_le _, rfl⟩
            case round =>
              obtain ⟨j, nd, rfl, hj, rfl⟩ := hrel
              by_cases hjt : j < X1.length + Y.length
              · obtain ⟨_, _, r5⟩ := H9.out.2.2.2.drewN nd
                obtain ⟨a5, rfl, g5⟩ := r5 (by omega)
                have c5 := g5 j hjt
                by_cases hja : j < X1.length
                · obtain ⟨_, _, r3⟩ := H9.out.2.1.drewN nd
                  obtain ⟨a3, rfl, g3⟩ := r3 (by omega)
                  have c3 := g3 j hja
                  have e5 : (offs 0 X1 ++ (offs 0 Y).map ((s.length : Int) + ·)).getD j 0 = (offs 0 X1).getD j 0 := by
                    rw [List.getD_eq_getElem?_getD, List.getD_eq_getElem?_getD, List.getElem?_append_left (by rw [offs_length]; exact hja)]
                  rw [e5] at c5
                  clear g3 g5 r3 r5 e5
                  generalize (offs 0 X1).getD j 0 = x at *
                  generalize hW : w9.drewN nd = W at *
                  have f1 : (j : Int) < (X1.length : Int) := by omega
                  have f2 : (j : Int) < (X1.length : Int) + (X.length : Int) := by omega
                  have f3 : (0 : Int) ≤ (j : Int) := by omega
                  have e0 : decide ((j : Int) < (X1.length : Int)) = true := decide_eq_true (by omega)
                  have e1 : decide ((X1.length : Int) ≤ (j : Int)) = false := decide_eq_false (by omega)
                  have f4 : ¬ (X1.length : Int) ≤ (j : Int) := by omega
                  have f5 : ¬ X1.length ≤ j := by omega
                  have e2 : decide (X1.length ≤ j) = false := decide_eq_false f5
                  go_upto_region 22 with fail
                  go_quiet (fail)
                  go_wp2
                  refine ⟨⟨j + 1, nd + nq, by simp, hjt, by rw [← hW, World.drewN_drewN]⟩, by simp [intOf]; omega⟩
                · obtain ⟨d, rfl⟩ : ∃ d, j = X1.length + d := ⟨j - X1.length, by omega⟩
                  have hd : d < Y.length := by omega
                  obtain ⟨_, _, r4⟩ := H9.out.2.2.1.drewN nd
                  obtain ⟨a4, rfl, g4⟩ := r4 (by omega)
                  have c4 := g4 d hd
                  have e5 : (offs 0 X1 ++ (offs 0 Y).map ((s.length : Int) + ·)).getD (X1.length + d) 0 = (s.length : Int) + (offs 0 Y).getD d 0 := by
                    rw [List.getD_eq_getElem?_getD, List.getD_eq_getElem?_getD, List.getElem?_append_right (by rw [offs_length]; omega), offs_length, Nat.add_sub_cancel_left, List.getElem?_map, List.getElem?_eq_getElem (by rw [offs_length]; exact hd)]
                    rfl
                  rw [e5] at c5
                  have hm : (offs 0 Y).getD d 0 ∈ offs 0 Y := by
                    rw [List.getD_eq_getElem?_getD, List.getElem?_eq_getElem (by rw [offs_length]; exact hd)]
                    exact List.getElem_mem _
                  obtain ⟨m0, m1⟩ := PL.out.2.2.2.2.2.2.2.2 _ hm
                  clear g4 g5 r4 r5 e5 hm
                  generalize (offs 0 Y).getD d 0 = x at *
                  generalize hW : w9.drewN nd = W at *
                  have f6 : ¬ (X1.length : Int) + (d : Int) < (X1.length : Int) := by omega
                  have e6 : decide ((X1.length : Int) + (d : Int) < (X1.length : Int)) = false := decide_eq_false (by omega)
                  have e7 : decide ((X1.length : Int) ≤ (X1.length : Int) + (d : Int)) = true := decide_eq_true (by omega)
                  have f7 : (X1.length : Int) ≤ (X1.length : Int) + (d : Int) := by omega
                  have f1 : ¬ ((X1.length + d : Nat) : Int) < (X1.length : Int) := by omega
                  have f2 : (d : Int) < (Y.length : Int) := by omega
                  have f3 : (0 : Int) ≤ (d : Int) := by omega
                  have e0 : decide (((X1.length + d : Nat) : Int) < (X1.length : Int)) = false := decide_eq_false (by omega)
                  have e1 : decide ((X1.length : Int) ≤ ((X1.length + d : Nat) : Int)) = true := decide_eq_true (by omega)
                  go_upto_region 22 with fail
                  go_quiet (fail)
                  go_wp2
                  refine ⟨⟨X1.length + d + 1, nd + nq, by simp, hjt, by rw [← hW, World.drewN_drewN]⟩, by simp [intOf]; omega⟩
              · obtain rfl : j = X1.length + Y.length := by omega
                have HF := Aside0.mk (show Below w.heap.size w (w9.drewN nd) from pw_below_drewN H9.out.1 _)
                have eq1 : ((strOfNums s ++ strOfNums (cat Y)).toList == (strOfNums s ++ strOfNums (cat Y)).toList) = true := beq_self_eq_true _
                go_wp2
                go_ret
                exact ⟨by first | rfl | simp, HF.out⟩
theorem CellsAt.take {w : World} {a : Addr} {X : List XI} (h : CellsAt w a X) (n : Nat) : CellsAt w a (X.take n) := by
  intro i hi
  have hi' := hi
  rw [List.length_take] at hi'
  rw [List.getElem_take]
  exact h i (by omega)
theorem Xs.take {w : World} {A : Option Addr} {X : List XI} (h : Xs w A X) (n : Nat) : Xs w A (X.take n) := by
  refine ⟨fun x hx => h.1 x (List.mem_of_mem_take hx), fun h0 => ?_⟩
  rw [List.length_take] at h0
  obtain ⟨a, e, ha, hc⟩ := h.2 (by omega)
  exact ⟨a, e, ha, hc.take n⟩
theorem TwoL (L : List It) (A : Option Addr) (cap : Nat) (X : List XI) (B : Option Addr) (cb : Nat) (w : World) (ht : Tab w) (hi : Its w A L) (hcap : L.length ≤ cap) (hlen : L.length ≤ 9223372036854775807) (hAc : A = none → cap = 0)
    (hx : Xs w B X) (hxc : X.length ≤ cb) (hxl : X.length ≤ 9223372036854775807) (hBc : B = none → cb = 0) :
    Calls Tryd.prog 14 #[.slice A L.length cap, .slice B X.length cb] w fun e w' => e = .returned (.bool true) ∧ Below w.heap.size w w' := by
  have l60 : ∀ {T : Type} (Z : List T), ¬ Z.length ≤ 60 → (Z.take 60).length = 60 := fun Z h => by rw [List.length_take]; omega
  by_cases h : L.length ≤ 60 <;> by_cases g : X.length ≤ 60
  · exact TwoWalk L L A cap L.length X X B cb X.length w ht hi hcap hlen hAc rfl h (.inl ⟨h, rfl⟩) hx hxc hxl hBc rfl g (.inl ⟨g, rfl⟩)
  · exact TwoWalk L L A cap L.length X (X.take 60) B cb 60 w ht hi hcap hlen hAc rfl h (.inl ⟨h, rfl⟩) (hx.take 60) hxc hxl hBc (l60 X g) (Nat.le_refl _) (.inr ⟨g, rfl⟩)
  · exact TwoWalk L (L.take 60) A cap 60 X X B cb X.length w ht (hi.take 60) hcap hlen hAc (l60 L h) (Nat.le_refl _) (.inr ⟨h, rfl⟩) hx hxc hxl hBc rfl g (.inl ⟨g, rfl⟩)
  · exact TwoWalk L (L.take 60) A cap 60 X (X.take 60) B cb 60 w ht (hi.take 60) hcap hlen hAc (l60 L h) (Nat.le_refl _) (.inr ⟨h, rfl⟩) (hx.take 60) hxc hxl hBc (l60 X g) (Nat.le_refl _) (.inr ⟨g, rfl⟩)
/-- a slice of items as a parameter: none at all, or at some place -/
def TsIs2 (W : World) (v : Value) : Prop := ∃ (L : List It) (A : Option Addr) (cap : Nat), v = .slice A L.length cap ∧ L.length ≤ cap ∧ L.length ≤ 9223372036854775807 ∧ Its W A L ∧ (A = none → cap = 0)
theorem ts2_of {W : World} {v : Value} (h : TsIs W v) (h2 : v = .slice none 0 0 ∨ ∃ a n c, v = .slice (some a) n c) : TsIs2 W v := by
  obtain ⟨L, A, cap, rfl, h1, h3, h4⟩ := h
  refine ⟨L, A, cap, rfl, h1, h3, h4, fun hA => ?_⟩
  rcases h2 with h2 | ⟨a, n, c, h2⟩
  · injection h2
  · injection h2 with e
    rw [hA] at e
    cases e
theorem TwoT (v u : Value) (w : World) (ht : Tab w) (hv : TsIs2 w v) (hu : XsIs w u ∧ ∀ a n c, u = .slice a n c → n ≤ c) :
    Calls Tryd.prog 14 #[v, u] w fun e w' => e = .returned (.bool true) ∧ Below w.heap.size w w' := by
  obtain ⟨L, A, cap, rfl, hc, hl, hi, hA⟩ := hv
  obtain ⟨hu, huc⟩ := hu
  rcases hu with rfl | ⟨X, a, cb, rfl, hl2, ha, hc2, hn⟩
  · exact TwoL L A cap [] none 0 w ht hi hc hl hA ⟨fun x hx => by simp at hx, fun h => absurd h (by simp)⟩ (Nat.le_refl _) (by decide) (fun _ => rfl)
  · exact TwoL L A cap X (some a) cb w ht hi hc hl hA ⟨hn, fun h => ⟨a, rfl, ha h, hc2⟩⟩ (huc _ _ _ rfl) (by omega) (fun h => by cases h)
end Go.Proofs.YtkfinaongajhmaaDoor.X
