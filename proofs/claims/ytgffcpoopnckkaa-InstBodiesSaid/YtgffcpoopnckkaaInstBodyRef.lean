/- The reference's body of instructions, and the law of bodies: what their functions compute. -/
import Derived.Test.YtgffcpoopnckkaaInstBodyWalk
import Derived.Test.YtgffcpoopnckkaaInstRef
import Derived.Test.YtgffcpoopnckkaaInstLaws
namespace Go.Proofs.Ytgffcpoopnckkaa.BodyWalk
open Go.RowKit Go.Proofs.Ytgffcpoopnckkaa.MI Go.Proofs.YtgffcpoopnckkaaW.PrintWords Go.Proofs.YtgffcpoopnckkaaW.PrintLast Go.Proofs.YtgffcpoopnckkaaW.PrintMore Go.Ob.Inst Go.Proofs.Ytgffcpoopnckkaa.CoreInst
set_option linter.unusedVariables false
set_option linter.unusedSimpArgs false
theorem str_cat (x y : List Int) : strOfNums x ++ strOfNums y = strOfNums (x ++ y) := by
  apply ByteArray.ext
  simp [strOfNums]
set_option maxHeartbeats 8000000 in
set_option maxRecDepth 100000 in
theorem Body_nil (w : World) :
    Calls Try.prog 18 #[.slice none 0 0] w fun e w' => e = .returned (.tuple #[.string ⟨#[]⟩, .int .i64 0]) ∧ Below w.heap.size w w' := by
  go_enter Try.func18, Try.ntmps18
  go_wp2
  go_loopw [11] (fun i wr => i = .int .i64 0 ∧ Lib.IsBuilder 56 5 w.heap.size w.heap.size (Lib.byteCells []) wr ∧ Below w.heap.size w wr) (fun _ _ => 0)
  case atStart => exact ⟨rfl, Lib.fresh_isBuilder 56 5 w, (Below.refl _ w).alloc (Nat.le_refl _) _⟩
  case round =>
    obtain ⟨rfl, hB, hbw⟩ := hrel
    have HB := Aside0.mk hB
    have HW := Aside0.mk hbw
    clear hB hbw
    go_wp2_with (first
      | (go_at_call 31; (with_reducible refine (Bld.told w.heap.size w.heap.size _ _ HB.out HW.out.size).mono ?_); rintro e w2 ⟨rfl, hb2⟩; have H2 := Aside0.mk hb2; clear hb2))
    have B1 : Below w.heap.size w w2 := HW.out.trans H2.out
    go_ret2
    exact ⟨rfl, B1⟩
set_option maxHeartbeats 8000000 in
set_option maxRecDepth 100000 in
theorem rBody_nil (w : World) :
    Calls Try.prog 19 #[.slice none 0 0] w fun e w' => e = .returned (.tuple #[.string ⟨#[]⟩, .bool true]) ∧ Below w.heap.size w w' := by
  go_enter Try.func19, Try.ntmps19
  go_wp2
  go_loopw [4, 5] (fun o i wr => i = .int .i64 0 ∧ o = .string ⟨#[]⟩ ∧ Below w.heap.size w wr) (fun _ _ _ => 0)
  case atStart => exact ⟨rfl, rfl, Below.refl _ w⟩
  case round =>
    obtain ⟨rfl, rfl, hbw⟩ := hrel
    have HW := Aside0.mk hbw
    clear hbw
    go_wp2
    have B1 : Below w.heap.size w wr := HW.out
    go_ret2
    exact ⟨rfl, B1⟩
set_option maxHeartbeats 8000000 in
set_option maxRecDepth 100000 in
theorem rBody_some (L : List I3) (a : Addr) (cap : Nat) (w : World) (hL : L.length ≤ 5864062014805) (ha : 0 < L.length → a.block < w.heap.size) (hc : CellsAt w a L)
    (hw : ∀ x ∈ L, (-9223372036854775808 ≤ x.2.1 ∧ x.2.1 ≤ 9223372036854775807) ∧ -9223372036854775808 ≤ x.2.2 ∧ x.2.2 ≤ 9223372036854775807) :
    Calls Try.prog 19 #[.slice (some a) L.length cap] w fun e w' => (e = if allRt L then .returned (.tuple #[.string (strOfNums (cat L)), .bool true]) else .returned (.tuple #[.string ⟨#[]⟩, .bool false])) ∧ Below w.heap.size w w' := by
  go_enter Try.func19, Try.ntmps19
  go_wp2
  go_loopw [4, 5] (fun o i wr => ∃ n : Nat, i = .int .i64 n ∧ o = .string (strOfNums (cat (L.take n))) ∧ n ≤ L.length ∧ allRt (L.take n) = true ∧ Below w.heap.size w wr) (fun _ i _ => L.length - (intOf i).toNat)
  case atStart => exact ⟨0, rfl, rfl, Nat.zero_le _, rfl, Below.refl _ w⟩
  case round =>
    obtain ⟨n, rfl, rfl, hn, hall, hbw⟩ := hrel
    have HW := Aside0.mk hbw
    by_cases hlt : n < L.length
    · obtain ⟨c0, c1, c2⟩ := hc n hlt
      have d0 : wr.cell? (a.add (n * 3)) = _ := (hbw.cell (by show (a.add (n * 3)).block < _; rw [show (a.add (n * 3)).block = a.block by unfold Addr.add; split <;> rfl]; exact ha (by omega))).trans c0
      have d1 : wr.cell? ⟨(a.add (n * 3)).block, (a.add (n * 3)).off + 1, none⟩ = _ := (hbw.cell (by show (a.add (n * 3)).block < _; rw [show (a.add (n * 3)).block = a.block by unfold Addr.add; split <;> rfl]; exact ha (by omega))).trans c1
      have d2 : wr.cell? ⟨(a.add (n * 3)).block, (a.add (n * 3)).off + 2, none⟩ = _ := (hbw.cell (by show (a.add (n * 3)).block < _; rw [show (a.add (n * 3)).block = a.block by unfold Addr.add; split <;> rfl]; exact ha (by omega))).trans c2
      have hu23 := Try.underlying23
      have hx := hw L[n] (List.getElem_mem hlt)
      have hlast : L.take (n + 1) = L.take n ++ [L[n]] := List.take_succ_eq_append_getElem hlt
      clear hbw hc
      cases hr : rt L[n].1 L[n].2.1 L[n].2.2 with
      | true =>
        have hb := Aside0.mk (rBytes_ok L[n].1 L[n].2.1 L[n].2.2 hx.1.1 hx.1.2 hx.2.1 hx.2.2 hr 60 (by decide))
        have hk := cat_ok (L.take n) (fun y hy => (hw y (List.mem_of_mem_take hy)).1) hall
        have hs1 := size_num hk.2
        have hs2 := size_num (enc_bytes _ _ _ hr)
        have hel := enc_len _ _ _ hx.1.1 hx.1.2 hr
        have hlen : (strOfNums (cat (L.take n))).size + (strOfNums (enc L[n].1 L[n].2.1 L[n].2.2)).size ≤ 9223372036854775807 := by
          have h3 : (L.take n).length ≤ n := by rw [List.length_take]; omega
          omega
        have HL := Aside0.mk (And.intro hlast (And.intro hall hr))
        clear hk hs1 hs2 hel hlast hall hr hx
        go_wp2_with (first
          | (go_at_call 11; (with_reducible refine (oublietteref04_Bytes.calls 60 _ _ _ _ _ _ hb.out).mono ?_); rintro e w2 ⟨rfl, hb2⟩; have H2 := Aside0.mk hb2; clear hb2))
        have B1 : Below w.heap.size w w2 := HW.out.trans (H2.out.mono HW.out.size)
        obtain ⟨hlast, hall, hr⟩ := HL.out
        refine ⟨⟨n + 1, by simp, ?_, hlt, ?_, B1⟩, by simp [intOf]; omega⟩
        · rw [hlast, cat_append, str_cat]
          simp only [cat, List.append_nil]
        · rw [hlast]
          unfold allRt at hall ⊢
          rw [List.all_append, hall]
          simp [hr]
      | false =>
        have hb := Aside0.mk (rBytes_no L[n].1 L[n].2.1 L[n].2.2 hr 60 (by decide))
        have HL := Aside0.mk hr
        clear hlast hall hr hx
        go_wp2_with (first
          | (go_at_call 11; (with_reducible refine (oublietteref04_Bytes.calls 60 _ _ _ _ _ _ hb.out).mono ?_); rintro e w2 ⟨rfl, hb2⟩; have H2 := Aside0.mk hb2; clear hb2))
        · have h : allRt L = true := by assumption
          exact absurd (List.all_eq_true.mp h L[n] (List.getElem_mem hlt)) (by rw [HL.out]; decide)
        · have B1 : Below w.heap.size w w2 := HW.out.trans (H2.out.mono HW.out.size)
          go_ret2
          exact ⟨rfl, B1⟩
    · obtain rfl : n = L.length := by omega
      rw [List.take_length] at hall
      have HL := Aside0.mk hall
      clear hbw hc hall
      go_wp2
      · have B1 : Below w.heap.size w wr := HW.out
        go_ret2
        exact ⟨rfl, B1⟩
      · exact absurd HL.out (by assumption)
set_option maxHeartbeats 8000000 in
set_option maxRecDepth 100000 in
theorem Law_some (L : List I3) (a : Addr) (cap : Nat) (w : World) (hL : L.length ≤ 5864062014805) (ha : 0 < L.length → a.block < w.heap.size) (hc : CellsAt w a L)
    (hw : ∀ x ∈ L, (-9223372036854775808 ≤ x.2.1 ∧ x.2.1 ≤ 9223372036854775807) ∧ -9223372036854775808 ≤ x.2.2 ∧ x.2.2 ≤ 9223372036854775807) (hex : oubliettelaw04_examples.f 60 = some true) :
    Calls Try.prog 7 #[.slice (some a) L.length cap] w fun e w' => e = .returned (.bool true) ∧ Below w.heap.size w w' := by
  have HX := Aside0.mk hex
  have HC := Aside0.mk (And.intro hL (And.intro ha (And.intro hc hw)))
  clear hL ha hc hw hex
  have cells : ∀ w' : World, Below w.heap.size w w' → (0 < L.length → a.block < w'.heap.size) ∧ CellsAt w' a L := fun w' hb => ⟨fun h0 => Nat.lt_of_lt_of_le (HC.out.2.1 h0) hb.size, fun i hi => by
    obtain ⟨c0, c1, c2⟩ := HC.out.2.2.1 i hi
    have hbk : (a.add (i * 3)).block < w.heap.size := by rw [show (a.add (i * 3)).block = a.block by unfold Addr.add; split <;> rfl]; exact HC.out.2.1 (by omega)
    exact ⟨(hb.cell hbk).trans c0, (hb.cell (p := ⟨(a.add (i * 3)).block, (a.add (i * 3)).off + 1, none⟩) hbk).trans c1, (hb.cell (p := ⟨(a.add (i * 3)).block, (a.add (i * 3)).off + 2, none⟩) hbk).trans c2⟩⟩
  have CE := Aside0.mk cells
  clear cells
  cases hall : allRt L with
  | true =>
    have HA := Aside0.mk hall
    clear hall
    go_enter Try.func7, Try.ntmps7
    go_wp2_with (first
      | (go_at_call 9; (with_reducible refine (oubliettelaw04_examples.calls 60 true _ HX.out).mono ?_); rintro e w1 ⟨rfl, hb1⟩; have H1 := Aside0.mk hb1; clear hb1)
      | (go_at_call 18; (with_reducible refine (Body_some L a cap _ HC.out.1 (CE.out _ H1.out).1 (CE.out _ H1.out).2 (fun x hx => (HC.out.2.2.2 x hx).1)).mono ?_); rw [HA.out]; rintro e w2 ⟨rfl, hb2⟩; have H2 := Aside0.mk (H1.out.trans (hb2.mono H1.out.size)); clear hb2)
      | (go_at_call 19; (with_reducible refine (rBody_some L a cap _ HC.out.1 (CE.out _ H2.out).1 (CE.out _ H2.out).2 HC.out.2.2.2).mono ?_); rw [HA.out]; rintro e w3 ⟨rfl, hb3⟩; have H3 := Aside0.mk (H2.out.trans (hb3.mono H2.out.size)); clear hb3))
    go_ret
    exact ⟨rfl, H3.out⟩
  | false =>
    have HA := Aside0.mk hall
    clear hall
    go_enter Try.func7, Try.ntmps7
    go_wp2_with (first
      | (go_at_call 9; (with_reducible refine (oubliettelaw04_examples.calls 60 true _ HX.out).mono ?_); rintro e w1 ⟨rfl, hb1⟩; have H1 := Aside0.mk hb1; clear hb1)
      | (go_at_call 18; (with_reducible refine (Body_some L a cap _ HC.out.1 (CE.out _ H1.out).1 (CE.out _ H1.out).2 (fun x hx => (HC.out.2.2.2 x hx).1)).mono ?_); rw [HA.out]; rintro e w2 ⟨rfl, hb2⟩; have H2 := Aside0.mk (H1.out.trans (hb2.mono H1.out.size)); clear hb2)
      | (go_at_call 19; (with_reducible refine (rBody_some L a cap _ HC.out.1 (CE.out _ H2.out).1 (CE.out _ H2.out).2 HC.out.2.2.2).mono ?_); rw [HA.out]; rintro e w3 ⟨rfl, hb3⟩; have H3 := Aside0.mk (H2.out.trans (hb3.mono H2.out.size)); clear hb3))
    go_ret
    exact ⟨rfl, H3.out⟩
set_option maxHeartbeats 8000000 in
set_option maxRecDepth 100000 in
theorem Law_nil (w : World) (hex : oubliettelaw04_examples.f 60 = some true) :
    Calls Try.prog 7 #[.slice none 0 0] w fun e w' => e = .returned (.bool true) ∧ Below w.heap.size w w' := by
  have HX := Aside0.mk hex
  clear hex
  go_enter Try.func7, Try.ntmps7
  go_wp2_with (first
    | (go_at_call 9; (with_reducible refine (oubliettelaw04_examples.calls 60 true _ HX.out).mono ?_); rintro e w1 ⟨rfl, hb1⟩; have H1 := Aside0.mk hb1; clear hb1)
    | (go_at_call 18; (with_reducible refine (Body_nil _).mono ?_); rintro e w2 ⟨rfl, hb2⟩; have H2 := Aside0.mk (H1.out.trans (hb2.mono H1.out.size)); clear hb2)
    | (go_at_call 19; (with_reducible refine (rBody_nil _).mono ?_); rintro e w3 ⟨rfl, hb3⟩; have H3 := Aside0.mk (H2.out.trans (hb3.mono H2.out.size)); clear hb3))
  go_ret
  exact ⟨rfl, H3.out⟩
end Go.Proofs.Ytgffcpoopnckkaa.BodyWalk
