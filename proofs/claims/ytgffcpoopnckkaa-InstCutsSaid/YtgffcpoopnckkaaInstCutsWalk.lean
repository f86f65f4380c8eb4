/- The law of cuts: what its function computes. -/
import Derived.Test.YtgffcpoopnckkaaInstBodyWalk
import Derived.Test.YtgffcpoopnckkaaInstLaws
import Derived.Test.YtgffcpoopnckkaaMIx7
import Derived.RegionTactic
import Derived.ChangeAlike
namespace Go.Proofs.Ytgffcpoopnckkaa.BodyWalk
open Go.RowKit Go.Proofs.Ytgffcpoopnckkaa.MI Go.Proofs.YtgffcpoopnckkaaW.PrintWords Go.Proofs.YtgffcpoopnckkaaW.PrintLast Go.Proofs.YtgffcpoopnckkaaW.PrintMore Go.Ob.Inst Go.Proofs.Ytgffcpoopnckkaa.CoreInst Go.Ob Go.Ob.Leb
attribute [local go_sem] max2_int min2_int max_two min_two max_three min_three max_four min_four
set_option linter.unusedVariables false
set_option linter.unusedSimpArgs false
/-- an instruction that is cut off is none -/
theorem take_cut (op n m : Int) (hn : -9223372036854775808 ≤ n ∧ n ≤ 9223372036854775807) (h : rt op n m = true) (j : Nat) (hj : j < (enc op n m).length) : take ((enc op n m).take j) = none := by
  cases ht : take ((enc op n m).take j) with
  | none => rfl
  | some x =>
    obtain ⟨op', n', m', r⟩ := x
    have hb := enc_bytes op n m h
    obtain ⟨h1, h2, h3, _⟩ := take_back _ (fun b hx => hb b (List.mem_of_mem_take hx)) _ _ _ _ ht
    have e1 : enc op' n' m' ++ (r ++ (enc op n m).drop j) = enc op n m := by rw [← List.append_assoc, h2, List.take_append_drop]
    have e2 := take_enc op' n' m' h3.1 h3.2 h1 (r ++ (enc op n m).drop j)
    have e3 := take_enc op n m hn.1 hn.2 h []
    rw [List.append_nil] at e3
    rw [e1, e3] at e2
    simp only [Option.some.injEq, Prod.mk.injEq] at e2
    have := congrArg List.length e2.2.2.2
    rw [List.length_append, List.length_drop] at this
    simp at this
    omega
theorem tk_take (x : I3) (r : List Int) (hx : -9223372036854775808 ≤ x.2.1 ∧ x.2.1 ≤ 9223372036854775807) (h : rt x.1 x.2.1 x.2.2 = true) (hr : ∀ b ∈ r, 0 ≤ b ∧ b < 256) :
    inst_Take.f 60 (strOfNums (enc x.1 x.2.1 x.2.2 ++ r)) = some (x.1, x.2.1, x.2.2, strOfNums r, 0) := by
  rw [Take_eq _ 60 (by decide), bl_num _ (by intro b hb; rcases List.mem_append.mp hb with hb | hb; exact enc_bytes _ _ _ h b hb; exact hr b hb)]
  unfold tk
  rw [take_enc _ _ _ hx.1 hx.2 h]
theorem tk_cut (x : I3) (r : List Int) (hx : -9223372036854775808 ≤ x.2.1 ∧ x.2.1 ≤ 9223372036854775807) (h : rt x.1 x.2.1 x.2.2 = true) (hr : ∀ b ∈ r, 0 ≤ b ∧ b < 256) (j : Nat) (hj : j < (enc x.1 x.2.1 x.2.2).length) :
    inst_Take.f 60 (((strOfNums (enc x.1 x.2.1 x.2.2 ++ r)).extract 0 (enc x.1 x.2.1 x.2.2).length).extract 0 j) = some (0, 0, 0, (⟨#[]⟩ : ByteArray), 6) := by
  rw [Take_eq _ 60 (by decide), bl_extract, bl_extract, bl_num _ (by intro b hb; rcases List.mem_append.mp hb with hb | hb; exact enc_bytes _ _ _ h b hb; exact hr b hb)]
  rw [List.drop_zero, List.drop_zero, Nat.sub_zero, Nat.sub_zero, List.take_left', tk, take_cut _ _ _ hx h j hj]
  rfl
theorem Body_len (L : List I3) (l : Nat) (hl : L.length = l) (a : Addr) (cap : Nat) (w : World) (hL : l ≤ 100) (ha : 0 < L.length → a.block < w.heap.size) (hc : CellsAt w a L) (hw : ∀ x ∈ L, -9223372036854775808 ≤ x.2.1 ∧ x.2.1 ≤ 9223372036854775807) :
    Calls Try.prog 18 #[.slice (some a) l cap] w fun e w' => (e = if allRt L then .returned (.tuple #[.string (strOfNums (cat L)), .int .i64 0]) else .returned (.tuple #[.string ⟨#[]⟩, .int .i64 4])) ∧ Below w.heap.size w w' := by
  subst hl
  exact Body_some L a cap w (by omega) ha hc hw
theorem wr_succ (n : Nat) (h : n < 1000) : wrap64 ((n : Int) + 1) = ((n + 1 : Nat) : Int) := by unfold wrap64; omega
theorem ms_succ (l n : Nat) (h : n < l) : l - ((n : Int) + 1).toNat < l - ((n : Int)).toNat := by omega
theorem ms_wrap (l n : Nat) (h : n < l) (h2 : n < 1000) : l - (wrap64 ((n : Int) + 1)).toNat < l - ((n : Int)).toNat := by rw [wr_succ n h2]; omega
set_option maxHeartbeats 8000000 in
set_option maxRecDepth 100000 in
theorem Cuts_some (L : List I3) (a : Addr) (len cap : Nat) (cut : Int) (w : World) (hcut : -9223372036854775808 ≤ cut ∧ cut ≤ 9223372036854775807) (hlen : L.length = if 100 < len then 100 else len) (hlc : len ≤ cap) (hcap : cap ≤ maxLen) (ha : 0 < L.length → a.block < w.heap.size) (hc : CellsAt w a L)
    (hw : ∀ x ∈ L, -9223372036854775808 ≤ x.2.1 ∧ x.2.1 ≤ 9223372036854775807) (hex : oubliettelaw04_examples.f 60 = some true) :
    Calls Try.prog 8 #[.slice (some a) len cap, .int .i64 cut] w fun e w' => e = .returned (.bool true) ∧ Below w.heap.size w w' := by
  have HX := Aside0.mk hex
  have HC := Aside0.mk (And.intro hlen (And.intro ha (And.intro hc hw)))
  clear ha hc hw hex
  have cells : ∀ w' : World, Below w.heap.size w w' → (0 < L.length → a.block < w'.heap.size) ∧ CellsAt w' a L := fun w' hb => ⟨fun h0 => Nat.lt_of_lt_of_le (HC.out.2.1 h0) hb.size, fun i hi => by
    obtain ⟨c0, c1, c2⟩ := HC.out.2.2.1 i hi
    have hbk : (a.add (i * 3)).block < w.heap.size := by rw [show (a.add (i * 3)).block = a.block by unfold Addr.add; split <;> rfl]; exact HC.out.2.1 (by omega)
    exact ⟨(hb.cell hbk).trans c0, (hb.cell (p := ⟨(a.add (i * 3)).block, (a.add (i * 3)).off + 1, none⟩) hbk).trans c1, (hb.cell (p := ⟨(a.add (i * 3)).block, (a.add (i * 3)).off + 2, none⟩) hbk).trans c2⟩⟩
  have CE := Aside0.mk cells
  clear cells
  have hcap2 : cap ≤ 9223372036854775807 := by unfold maxLen at hcap; omega
  have hinl : 100 < len → L.length = 100 := fun h => by rw [hlen, if_pos h]
  have hinr : ¬ 100 < len → L.length = len := fun h => by rw [hlen, if_neg h]
  clear hlen
  have HI := Aside0.mk (And.intro hinl hinr)
  clear hinl hinr
  have hl100 : L.length ≤ 100 := by
    by_cases h : 100 < len
    · rw [HI.out.1 h]; exact Nat.le_refl _
    · rw [HI.out.2 h]; omega
  cases hall : allRt L with
  | true =>
    have HA := Aside0.mk hall
    clear hall
    have HL1 := Aside0.mk hl100
    clear hl100
    go_enter Try.func8, Try.ntmps8
    go_wp2_with (first
      | (go_at_call 9; (with_reducible refine (oubliettelaw04_examples.calls 60 true _ HX.out).mono ?_); rintro e w1 ⟨rfl, hb1⟩; have H1 := Aside0.mk hb1; clear hb1)
      | (go_at_call 18; (with_reducible refine (Body_len L _ (by first | exact HI.out.2 (by omega) | exact HI.out.1 (by omega)) a cap _ (by omega) (CE.out _ H1.out).1 (CE.out _ H1.out).2 HC.out.2.2.2).mono ?_); rw [HA.out]; rintro e w2 ⟨rfl, hb2⟩; have H2 := Aside0.mk (H1.out.trans (hb2.mono H1.out.size)); clear hb2))
    all_goals
      obtain ⟨c, hc0, hc1, hcv⟩ : ∃ c : Int, 0 ≤ c ∧ c ≤ 9223372036854775807 ∧ (c = cut ∨ c = -(cut + 1)) := by
        rcases Int.lt_or_le cut 0 with h | h
        · exact ⟨-(cut + 1), by omega, by omega, .inr rfl⟩
        · exact ⟨cut, h, by omega, .inl rfl⟩
      first
        | (have hq : -(cut + 1) = c := (by omega); rw [hq]; clear hq; have hd : decide (cut < 0) = true := decide_eq_true (by omega); rw [hd]; clear hd)
        | (have hq : cut = c := (by omega); subst cut; have hd : decide (c < 0) = false := decide_eq_false (by omega); rw [hd]; clear hd)
      first
        | (have hl := HI.out.2 (by omega); subst hl)
        | (have hl := HI.out.1 (by omega); generalize (100 : Nat) = l0 at hl ⊢; subst hl)
      try clear hcv
      go_loopw [8, 9] (fun r i wr => ∃ n : Nat, i = .int .i64 n ∧ r = .string (strOfNums (cat (L.drop n))) ∧ n ≤ L.length ∧ Below w.heap.size w wr) (fun _ i _ => L.length - (intOf i).toNat)
      case atStart => exact ⟨0, rfl, rfl, Nat.zero_le _, H2.out⟩
      case round =>
        obtain ⟨n, rfl, rfl, hn, hbw⟩ := hrel
        have HW := Aside0.mk hbw
        clear hbw
        have hu23 := Try.underlying23
        by_cases hlt : n < L.length
        · obtain ⟨d0, d1, d2⟩ := (CE.out _ HW.out).2 n hlt
          have hd : L.drop n = L[n] :: L.drop (n + 1) := List.drop_eq_getElem_cons hlt
          have hcat : cat (L.drop n) = enc L[n].1 L[n].2.1 L[n].2.2 ++ cat (L.drop (n + 1)) := by rw [hd]; rfl
          have hr : rt L[n].1 L[n].2.1 L[n].2.2 = true := List.all_eq_true.mp HA.out L[n] (List.getElem_mem hlt)
          have hx := HC.out.2.2.2 L[n] (List.getElem_mem hlt)
          have hall2 : allRt (L.drop (n + 1)) = true := List.all_eq_true.mpr fun y hy => List.all_eq_true.mp HA.out y (List.mem_of_mem_drop hy)
          have hk := cat_ok (L.drop (n + 1)) (fun y hy => HC.out.2.2.2 y (List.mem_of_mem_drop hy)) hall2
          have hel := enc_len _ _ _ hx.1 hx.2 hr
          have t1 := tk_take L[n] (cat (L.drop (n + 1))) hx hr hk.2
          have hm0 := Int.tmod_nonneg ((enc L[n].1 L[n].2.1 L[n].2.2).length : Int) hc0
          have hm1 := Int.tmod_lt_of_pos c (show 0 < ((enc L[n].1 L[n].2.1 L[n].2.2).length : Int) by omega)
          obtain ⟨j, hj⟩ := Int.eq_ofNat_of_zero_le hm0
          have hj1 : j < (enc L[n].1 L[n].2.1 L[n].2.2).length := by omega
          have t2 := tk_cut L[n] (cat (L.drop (n + 1))) hx hr hk.2 j hj1
          have sA : (strOfNums (enc L[n].1 L[n].2.1 L[n].2.2 ++ cat (L.drop (n + 1)))).size = (enc L[n].1 L[n].2.1 L[n].2.2).length + (strOfNums (cat (L.drop (n + 1)))).size := by
            rw [strOfNums_size, strOfNums_size, List.length_append]
          have sB : (strOfNums (cat (L.drop (n + 1)))).size ≤ 2000 := by
            rw [strOfNums_size]
            have : (L.drop (n + 1)).length ≤ 100 := by rw [List.length_drop]; have := HL1.out; omega
            omega
          rw [hcat]
          have HB := Aside0.mk (rfl : strOfNums (cat (L.drop (n + 1))) = strOfNums (cat (L.drop (n + 1))))
          generalize strOfNums (enc L[n].1 L[n].2.1 L[n].2.2 ++ cat (L.drop (n + 1))) = A at t1 t2 sA ⊢
          obtain ⟨B, hB⟩ : ∃ B, strOfNums (cat (L.drop (n + 1))) = B := ⟨_, rfl⟩
          rw [hB] at t1 sA sB
          replace HB := Aside0.mk hB
          clear hB hd hcat hk hall2 hm0 hm1
          generalize (enc L[n].1 L[n].2.1 L[n].2.2).length = e at hel hj hj1 t2 sA
          have T1 := Aside0.mk t1
          have T2 := Aside0.mk t2
          have HR := Aside0.mk hr
          clear t1 t2 hr hx
          have hn1 : n < 100 := by have := HL1.out; omega
          have q1 : (A.size : Int) - B.size = e := by omega
          have q2 : (e ≤ A.size) = True := eq_true (by omega)
          have q3 : (A.extract 0 e).size = e := by rw [ByteArray.size_extract]; omega
          have q4 : min e A.size = e := by omega
          have q5 : (j ≤ e) = True := eq_true (by omega)
          have q6 : (e = 0) = False := eq_false (by omega)
          have q8 : ((e : Int) == 0) = false := beq_eq_false_iff_ne.mpr (by omega)
          have q7 : wrap64 (e : Int) = e := wrap_in (by omega) (by omega)
          go_wp2_with (first
            | (go_at_call 16; (with_reducible refine (inst_Take.calls 60 _ _ _ _ _ _ _ T1.out).mono ?_); rintro e3 w3 ⟨rfl, hb3⟩; have H3 := Aside0.mk (HW.out.trans (hb3.mono HW.out.size)); clear hb3))
          have HJ := Aside0.mk hel
          have HS := Aside0.mk (And.intro sA (And.intro sB hj1))
          clear hel sA sB hj1
          have HQ3 := Aside0.mk (H3.out.alloc H3.out.size (.cells #[.int .i64 L[n].1, .int .i64 L[n].2.1, .int .i64 L[n].2.2] 23))
          clear d0 d1 d2
          obtain ⟨d0, d1, d2⟩ := (CE.out _ HQ3.out).2 n hlt
          go_region
          go_wp2_with (first
            | (go_at_call 16; (with_reducible refine (inst_Take.calls 60 _ _ _ _ _ _ _ T2.out).mono ?_); rintro e4 w4 ⟨rfl, hb4⟩; have H4 := Aside0.mk (HQ3.out.drew.trans (hb4.mono HQ3.out.drew.size)); clear hb4))
          have B1 := H4.out.alloc H4.out.size (.cells #[.int .i64 0, .int .i64 0, .int .i64 0] 23)
          refine ⟨⟨n + 1, rfl, by rw [HB.out], hlt, by first | exact B1 | exact B1.drew⟩, ?_⟩
          exact ms_succ _ _ hlt
        · have hz : strOfNums (cat (L.drop n)) = ⟨#[]⟩ := by rw [List.drop_eq_nil_of_le (by omega)]; rfl
          rw [hz]
          obtain rfl : n = L.length := by omega
          clear hz
          go_wp2
          go_ret
          exact ⟨rfl, HW.out⟩
  | false =>
    have HA := Aside0.mk hall
    clear hall hl100
    go_enter Try.func8, Try.ntmps8
    go_wp2_with (first
      | (go_at_call 9; (with_reducible refine (oubliettelaw04_examples.calls 60 true _ HX.out).mono ?_); rintro e w1 ⟨rfl, hb1⟩; have H1 := Aside0.mk hb1; clear hb1)
      | (go_at_call 18; (with_reducible refine (Body_len L _ (by first | exact HI.out.2 (by omega) | exact HI.out.1 (by omega)) a cap _ (by omega) (CE.out _ H1.out).1 (CE.out _ H1.out).2 HC.out.2.2.2).mono ?_); rw [HA.out]; rintro e w2 ⟨rfl, hb2⟩; have H2 := Aside0.mk (H1.out.trans (hb2.mono H1.out.size)); clear hb2))
    all_goals (go_ret; exact ⟨rfl, H2.out⟩)
set_option maxHeartbeats 8000000 in
set_option maxRecDepth 100000 in
theorem Body_none (w : World) :
    Calls Try.prog 18 #[.slice none 0 0] w fun e w' => e = .returned (.tuple #[.string ⟨#[]⟩, .int .i64 0]) ∧ Below w.heap.size w w' := by
  go_enter Try.func18, Try.ntmps18
  go_wp2
  go_loopw [11] (fun i wr => i = .int .i64 0 ∧ Lib.IsBuilder 56 5 w.heap.size w.heap.size (Lib.byteCells []) wr ∧ Below w.heap.size w wr) (fun _ _ => 0)
  case atStart => exact ⟨rfl, Lib.fresh_isBuilder 56 5 w, (Below.refl _ w).alloc (Nat.le_refl _) _⟩
  case round =>
    obtain ⟨rfl, hB, hbw⟩ := hrel
    have HB := Aside0.mk hB
    have HW := Aside0.mk hbw
    clear hB hbw
    go_wp2_with (first
      | (go_at_call 31; (with_reducible refine (Bld.told w.heap.size w.heap.size _ _ HB.out HW.out.size).mono ?_); rintro e w2 ⟨rfl, hb2⟩; have H2 := Aside0.mk hb2; clear hb2))
    have B1 : Below w.heap.size w w2 := HW.out.trans H2.out
    go_ret2
    exact ⟨rfl, B1⟩
set_option maxHeartbeats 8000000 in
set_option maxRecDepth 100000 in
theorem Cuts_nil (cut : Int) (w : World) (hcut : -9223372036854775808 ≤ cut ∧ cut ≤ 9223372036854775807) (hex : oubliettelaw04_examples.f 60 = some true) :
    Calls Try.prog 8 #[.slice none 0 0, .int .i64 cut] w fun e w' => e = .returned (.bool true) ∧ Below w.heap.size w w' := by
  have HX := Aside0.mk hex
  clear hex
  obtain ⟨c0, c1⟩ := hcut
  rcases Int.lt_or_le cut 0 with hneg | hneg
  all_goals
    go_enter Try.func8, Try.ntmps8
    go_wp2_with (first
      | (go_at_call 9; (with_reducible refine (oubliettelaw04_examples.calls 60 true _ HX.out).mono ?_); rintro e w1 ⟨rfl, hb1⟩; have H1 := Aside0.mk hb1; clear hb1)
      | (go_at_call 18; (with_reducible refine (Body_none _).mono ?_); rintro e w2 ⟨rfl, hb2⟩; have H2 := Aside0.mk (H1.out.trans (hb2.mono H1.out.size)); clear hb2))
    go_loopw [8, 9] (fun r i wr => i = .int .i64 0 ∧ r = .string ⟨#[]⟩ ∧ Below w.heap.size w wr) (fun _ _ _ => 0)
    case atStart => exact ⟨rfl, rfl, H2.out⟩
    case round =>
      obtain ⟨rfl, rfl, hbw⟩ := hrel
      have HW := Aside0.mk hbw
      clear hbw
      go_wp2
      go_ret
      exact ⟨rfl, HW.out⟩
end Go.Proofs.Ytgffcpoopnckkaa.BodyWalk
