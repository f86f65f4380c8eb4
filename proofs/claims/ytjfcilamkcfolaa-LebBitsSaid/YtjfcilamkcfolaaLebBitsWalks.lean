/- A number is read of as many bits as it has, and of no fewer; its bytes, cut off, or with a byte of nought laid in behind, are none: the walk of the law's own Go function. -/
import Derived.Test.YtjfcilamkcfolaaLebCoreLebBack
import Derived.Lib.AtoiErrMem
namespace Go.Proofs.Ytjfcilamkcfolaa.BitsWalk
open Go.Ob Go.RowKit Go.Proofs.Ytjfcilamkcfolaa.PLebBack Go.Proofs.YtjfcilamkcfolaaW.PrintWords Go.Proofs.YtjfcilamkcfolaaW.PrintLast Go.Proofs.YtjfcilamkcfolaaW.PrintMore
set_option linter.unusedVariables false
set_option linter.unusedSimpArgs false
theorem bel {w w1 w2 : World} (h1 : Aside0 (Below w.heap.size w w1)) (h2 : Below w1.heap.size w1 w2) : Aside0 (Below w.heap.size w w2) := ⟨below_step h1.out h2⟩
theorem bel2 {w w1 w2 : World} {s : ByteArray} {L : Nat} {v : Value} (h1 : Aside0 (Below w.heap.size w w1)) (h2 : Below ((Lib.bytesWorld w1 5 s).setCell ⟨w1.heap.size, L, none⟩ v).heap.size ((Lib.bytesWorld w1 5 s).setCell ⟨w1.heap.size, L, none⟩ v) w2) : Aside0 (Below w.heap.size w w2) :=
  ⟨below_step (below_step h1.out ((Lib.bytesWorld_below w1 5 s).setCell (p := ⟨w1.heap.size, L, none⟩) (Nat.le_refl _) v)) h2⟩
theorem bw_frozen (W : World) (s : ByteArray) (j : Nat) (hj : j < s.size) : (Lib.bytesWorld W 5 s).frozen? ⟨W.heap.size, j, none⟩ = false := by
  simp [World.frozen?, Lib.bytesWorld_at_new, Lib.bytesCells]
  omega
theorem bw_reads (W : World) (s : ByteArray) (L : Nat) (hs : s.size = L + 1) (hL : L ≤ 9) (c : Int) : ReadsInt ((Lib.bytesWorld W 5 s).setCell ⟨W.heap.size, L, none⟩ (.int .u8 c)) .u8 (some ⟨W.heap.size, 0, none⟩) (L + 1) ((bl s).take L ++ [c]) := by
  have hl := bl_length s
  refine ⟨by simp; omega, by omega, fun _ => ⟨_, rfl, fun j hj => ?_⟩⟩
  rw [add_plain]
  by_cases hjl : j = L
  · subst hjl
    rw [World.cell?_setCell_same' _ _ _ (by rw [Lib.bytesWorld_cell W 5 s j (by omega)]; rfl)]
    congr 2
    rw [List.getD_eq_getElem?_getD, List.getElem?_append_right (by rw [List.length_take]; omega), List.length_take, Nat.min_eq_left (by omega)]
    simp
  · rw [World.cell?_setCell_other _ _ _ _ (by intro e; simp at e <;> omega), Lib.bytesWorld_cell W 5 s j (by omega)]
    congr 2
    rw [List.getD_eq_getElem?_getD, List.getD_eq_getElem?_getD, List.getElem?_append_left (by rw [List.length_take]; omega), List.getElem?_take, if_pos (by omega), bl, List.getElem?_map, List.getElem?_eq_getElem (by rw [Array.length_toList]; show j < s.size; omega)]
    rfl
theorem bw_back (W : World) (s : ByteArray) (L C : Nat) (hs : s.size = L + 1) (hL : L ≤ 9) (c : Int) :
    (convert 34 9 (.slice (some ⟨W.heap.size, 0, none⟩) (L + 1) C)).run Try.prog ((Lib.bytesWorld W 5 s).setCell ⟨W.heap.size, L, none⟩ (.int .u8 c)) = .ok (.string (strOfNums ((bl s).take L ++ [c]))) ((Lib.bytesWorld W 5 s).setCell ⟨W.heap.size, L, none⟩ (.int .u8 c)) :=
  string_of_reads Try.underlying34 Try.underlying5 Try.underlying9 (bw_reads W s L hs hL c)
set_option maxHeartbeats 4000000 in
set_option maxRecDepth 100000 in
theorem w_pp_fits (k : Nat) (a0 a1 n1 n2 n3 cL lo hi m : Int) (s r1 r2 r3 T : ByteArray) (em : 1 + a1 % 62 = m) (hm1 : 1 ≤ m) (hm2 : m ≤ 62) (el : wrap64 (-2 ^ (m.toNat - 1)) = lo) (eh : wrap64 (wrap64 (2 ^ (m.toNat - 1)) - 1) = hi) (hlo : lo ≤ a0 / 2) (hup : a0 / 2 ≤ hi) (hex : Aside0 (oubliettelaw01_examples.f k = some true)) (hb0 : -9223372036854775808 ≤ a0) (hb1 : a0 ≤ 9223372036854775807) (h0 : 0 ≤ a1) (h1 : a1 ≤ 9223372036854775807)
    (hs : Aside0 (leb_S.f k (a0 / 2) = some s)) (ht : Aside0 (leb_TakeS.f k s m = some (n1, r1, 0))) (L : Nat) (hsz : s.size = L + 1) (hL : L ≤ 9) (hne : s.toList.isEmpty = false) (hn0 : 0 ≤ a0 / 2)
    (hc : ∀ W : World, (Lib.bytesWorld W 5 s).cell? ⟨W.heap.size, L, none⟩ = some (.int .u8 cL)) (hT : Aside0 (strOfNums ((bl s).take L ++ [bits .or .u8 cL 128]) = T)) (hTs : T.size ≤ 10)
    (ht2 : Aside0 (leb_TakeS.f k (T ++ ⟨#[0]⟩) 64 = some (n2, r2, 6))) (ht3 : Aside0 (leb_TakeS.f k (s.extract 0 L) 64 = some (n3, r3, 6))) (w : World) :
    Calls Try.prog 5 #[.int .i64 a0, .int .i64 a1] w fun e w' => e = .returned (.bool true) ∧ Below w.heap.size w w' := by
  have HB := Aside0.mk (Below.refl w.heap.size w)
  have kc := fun W : World => Lib.run_convert_string_bytes (P := Try.prog) W 9 34 5 s Try.underlying9 Try.underlying34 Try.underlying5
  have hf := fun W : World => bw_frozen W s L (by omega)
  have kb := fun W : World => bw_back W s L (grownCap W (L + 1) 0 5) hsz hL (bits .or .u8 cL 128)
  rw [hT.out] at kb
  go_enter Try.func5, Try.ntmps5
  go_wp2_with (first
    | (go_at_call 9; (with_reducible refine (oubliettelaw01_examples.calls k true _ hex.out).mono ?_); rintro e w1 ⟨rfl, hb⟩; replace HB := bel HB hb; clear hb)
    | (go_at_call 14; (with_reducible refine (leb_S.calls k (a0 / 2) s _ hs.out).mono ?_); rintro e w1 ⟨rfl, hb⟩; replace HB := bel HB hb; clear hb)
    | (go_at_call 12; (with_reducible refine (leb_TakeS.calls k s m n1 r1 _ _ ht.out).mono ?_); rintro e w1 ⟨rfl, hb⟩; replace HB := bel HB hb; clear hb)
    | (go_at_call 12; (with_reducible refine (leb_TakeS.calls k (T ++ ⟨#[0]⟩) 64 n2 r2 6 _ ht2.out).mono ?_); rintro e w1 ⟨rfl, hb⟩; replace HB := bel2 HB hb; clear hb)
    | (go_at_call 12; (with_reducible refine (leb_TakeS.calls k (s.extract 0 L) 64 n3 r3 6 _ ht3.out).mono ?_); rintro e w1 ⟨rfl, hb⟩; replace HB := bel HB hb; clear hb))
  go_ret
  exact ⟨by first | rfl | (simp; done) | (simp [*]; done), HB.out⟩
set_option maxHeartbeats 4000000 in
set_option maxRecDepth 100000 in
theorem w_pp_low (k : Nat) (a0 a1 n1 n2 n3 cL lo hi m : Int) (s r1 r2 r3 T : ByteArray) (em : 1 + a1 % 62 = m) (hm1 : 1 ≤ m) (hm2 : m ≤ 62) (el : wrap64 (-2 ^ (m.toNat - 1)) = lo) (eh : wrap64 (wrap64 (2 ^ (m.toNat - 1)) - 1) = hi) (e1 : Int) (he1 : (e1 == 0) = false) (hlo : a0 / 2 < lo) (hex : Aside0 (oubliettelaw01_examples.f k = some true)) (hb0 : -9223372036854775808 ≤ a0) (hb1 : a0 ≤ 9223372036854775807) (h0 : 0 ≤ a1) (h1 : a1 ≤ 9223372036854775807)
    (hs : Aside0 (leb_S.f k (a0 / 2) = some s)) (ht : Aside0 (leb_TakeS.f k s m = some (n1, r1, e1))) (L : Nat) (hsz : s.size = L + 1) (hL : L ≤ 9) (hne : s.toList.isEmpty = false) (hn0 : 0 ≤ a0 / 2)
    (hc : ∀ W : World, (Lib.bytesWorld W 5 s).cell? ⟨W.heap.size, L, none⟩ = some (.int .u8 cL)) (hT : Aside0 (strOfNums ((bl s).take L ++ [bits .or .u8 cL 128]) = T)) (hTs : T.size ≤ 10)
    (ht2 : Aside0 (leb_TakeS.f k (T ++ ⟨#[0]⟩) 64 = some (n2, r2, 6))) (ht3 : Aside0 (leb_TakeS.f k (s.extract 0 L) 64 = some (n3, r3, 6))) (w : World) :
    Calls Try.prog 5 #[.int .i64 a0, .int .i64 a1] w fun e w' => e = .returned (.bool true) ∧ Below w.heap.size w w' := by
  have HB := Aside0.mk (Below.refl w.heap.size w)
  have kc := fun W : World => Lib.run_convert_string_bytes (P := Try.prog) W 9 34 5 s Try.underlying9 Try.underlying34 Try.underlying5
  have hf := fun W : World => bw_frozen W s L (by omega)
  have kb := fun W : World => bw_back W s L (grownCap W (L + 1) 0 5) hsz hL (bits .or .u8 cL 128)
  rw [hT.out] at kb
  go_enter Try.func5, Try.ntmps5
  go_wp2_with (first
    | (go_at_call 9; (with_reducible refine (oubliettelaw01_examples.calls k true _ hex.out).mono ?_); rintro e w1 ⟨rfl, hb⟩; replace HB := bel HB hb; clear hb)
    | (go_at_call 14; (with_reducible refine (leb_S.calls k (a0 / 2) s _ hs.out).mono ?_); rintro e w1 ⟨rfl, hb⟩; replace HB := bel HB hb; clear hb)
    | (go_at_call 12; (with_reducible refine (leb_TakeS.calls k s m n1 r1 _ _ ht.out).mono ?_); rintro e w1 ⟨rfl, hb⟩; replace HB := bel HB hb; clear hb)
    | (go_at_call 12; (with_reducible refine (leb_TakeS.calls k (T ++ ⟨#[0]⟩) 64 n2 r2 6 _ ht2.out).mono ?_); rintro e w1 ⟨rfl, hb⟩; replace HB := bel2 HB hb; clear hb)
    | (go_at_call 12; (with_reducible refine (leb_TakeS.calls k (s.extract 0 L) 64 n3 r3 6 _ ht3.out).mono ?_); rintro e w1 ⟨rfl, hb⟩; replace HB := bel HB hb; clear hb))
  go_ret
  exact ⟨by first | rfl | (simp; done) | (simp [*]; done), HB.out⟩
set_option maxHeartbeats 4000000 in
set_option maxRecDepth 100000 in
theorem w_pp_high (k : Nat) (a0 a1 n1 n2 n3 cL lo hi m : Int) (s r1 r2 r3 T : ByteArray) (em : 1 + a1 % 62 = m) (hm1 : 1 ≤ m) (hm2 : m ≤ 62) (el : wrap64 (-2 ^ (m.toNat - 1)) = lo) (eh : wrap64 (wrap64 (2 ^ (m.toNat - 1)) - 1) = hi) (e1 : Int) (he1 : (e1 == 0) = false) (hlo : lo ≤ a0 / 2) (hup : hi < a0 / 2) (hex : Aside0 (oubliettelaw01_examples.f k = some true)) (hb0 : -9223372036854775808 ≤ a0) (hb1 : a0 ≤ 9223372036854775807) (h0 : 0 ≤ a1) (h1 : a1 ≤ 9223372036854775807)
    (hs : Aside0 (leb_S.f k (a0 / 2) = some s)) (ht : Aside0 (leb_TakeS.f k s m = some (n1, r1, e1))) (L : Nat) (hsz : s.size = L + 1) (hL : L ≤ 9) (hne : s.toList.isEmpty = false) (hn0 : 0 ≤ a0 / 2)
    (hc : ∀ W : World, (Lib.bytesWorld W 5 s).cell? ⟨W.heap.size, L, none⟩ = some (.int .u8 cL)) (hT : Aside0 (strOfNums ((bl s).take L ++ [bits .or .u8 cL 128]) = T)) (hTs : T.size ≤ 10)
    (ht2 : Aside0 (leb_TakeS.f k (T ++ ⟨#[0]⟩) 64 = some (n2, r2, 6))) (ht3 : Aside0 (leb_TakeS.f k (s.extract 0 L) 64 = some (n3, r3, 6))) (w : World) :
    Calls Try.prog 5 #[.int .i64 a0, .int .i64 a1] w fun e w' => e = .returned (.bool true) ∧ Below w.heap.size w w' := by
  have HB := Aside0.mk (Below.refl w.heap.size w)
  have kc := fun W : World => Lib.run_convert_string_bytes (P := Try.prog) W 9 34 5 s Try.underlying9 Try.underlying34 Try.underlying5
  have hf := fun W : World => bw_frozen W s L (by omega)
  have kb := fun W : World => bw_back W s L (grownCap W (L + 1) 0 5) hsz hL (bits .or .u8 cL 128)
  rw [hT.out] at kb
  go_enter Try.func5, Try.ntmps5
  go_wp2_with (first
    | (go_at_call 9; (with_reducible refine (oubliettelaw01_examples.calls k true _ hex.out).mono ?_); rintro e w1 ⟨rfl, hb⟩; replace HB := bel HB hb; clear hb)
    | (go_at_call 14; (with_reducible refine (leb_S.calls k (a0 / 2) s _ hs.out).mono ?_); rintro e w1 ⟨rfl, hb⟩; replace HB := bel HB hb; clear hb)
    | (go_at_call 12; (with_reducible refine (leb_TakeS.calls k s m n1 r1 _ _ ht.out).mono ?_); rintro e w1 ⟨rfl, hb⟩; replace HB := bel HB hb; clear hb)
    | (go_at_call 12; (with_reducible refine (leb_TakeS.calls k (T ++ ⟨#[0]⟩) 64 n2 r2 6 _ ht2.out).mono ?_); rintro e w1 ⟨rfl, hb⟩; replace HB := bel2 HB hb; clear hb)
    | (go_at_call 12; (with_reducible refine (leb_TakeS.calls k (s.extract 0 L) 64 n3 r3 6 _ ht3.out).mono ?_); rintro e w1 ⟨rfl, hb⟩; replace HB := bel HB hb; clear hb))
  go_ret
  exact ⟨by first | rfl | (simp; done) | (simp [*]; done), HB.out⟩
set_option maxHeartbeats 4000000 in
set_option maxRecDepth 100000 in
theorem w_pn_fits (k : Nat) (a0 a1 n1 n2 n3 cL lo hi m : Int) (s r1 r2 r3 T : ByteArray) (em : 1 + a1 % 62 = m) (hm1 : 1 ≤ m) (hm2 : m ≤ 62) (el : wrap64 (-2 ^ (m.toNat - 1)) = lo) (eh : wrap64 (wrap64 (2 ^ (m.toNat - 1)) - 1) = hi) (hlo : lo ≤ a0 / 2) (hup : a0 / 2 ≤ hi) (hex : Aside0 (oubliettelaw01_examples.f k = some true)) (hb0 : -9223372036854775808 ≤ a0) (hb1 : a0 ≤ 9223372036854775807) (h0 : 0 ≤ a1) (h1 : a1 ≤ 9223372036854775807)
    (hs : Aside0 (leb_S.f k (a0 / 2) = some s)) (ht : Aside0 (leb_TakeS.f k s m = some (n1, r1, 0))) (L : Nat) (hsz : s.size = L + 1) (hL : L ≤ 9) (hne : s.toList.isEmpty = false) (hn0 : a0 / 2 < 0)
    (hc : ∀ W : World, (Lib.bytesWorld W 5 s).cell? ⟨W.heap.size, L, none⟩ = some (.int .u8 cL)) (hT : Aside0 (strOfNums ((bl s).take L ++ [bits .or .u8 cL 128]) = T)) (hTs : T.size ≤ 10)
    (ht2 : Aside0 (leb_TakeS.f k (T ++ ⟨#[127]⟩) 64 = some (n2, r2, 6))) (ht3 : Aside0 (leb_TakeS.f k (s.extract 0 L) 64 = some (n3, r3, 6))) (w : World) :
    Calls Try.prog 5 #[.int .i64 a0, .int .i64 a1] w fun e w' => e = .returned (.bool true) ∧ Below w.heap.size w w' := by
  have HB := Aside0.mk (Below.refl w.heap.size w)
  have kc := fun W : World => Lib.run_convert_string_bytes (P := Try.prog) W 9 34 5 s Try.underlying9 Try.underlying34 Try.underlying5
  have hf := fun W : World => bw_frozen W s L (by omega)
  have kb := fun W : World => bw_back W s L (grownCap W (L + 1) 0 5) hsz hL (bits .or .u8 cL 128)
  rw [hT.out] at kb
  go_enter Try.func5, Try.ntmps5
  go_wp2_with (first
    | (go_at_call 9; (with_reducible refine (oubliettelaw01_examples.calls k true _ hex.out).mono ?_); rintro e w1 ⟨rfl, hb⟩; replace HB := bel HB hb; clear hb)
    | (go_at_call 14; (with_reducible refine (leb_S.calls k (a0 / 2) s _ hs.out).mono ?_); rintro e w1 ⟨rfl, hb⟩; replace HB := bel HB hb; clear hb)
    | (go_at_call 12; (with_reducible refine (leb_TakeS.calls k s m n1 r1 _ _ ht.out).mono ?_); rintro e w1 ⟨rfl, hb⟩; replace HB := bel HB hb; clear hb)
    | (go_at_call 12; (with_reducible refine (leb_TakeS.calls k (T ++ ⟨#[127]⟩) 64 n2 r2 6 _ ht2.out).mono ?_); rintro e w1 ⟨rfl, hb⟩; replace HB := bel2 HB hb; clear hb)
    | (go_at_call 12; (with_reducible refine (leb_TakeS.calls k (s.extract 0 L) 64 n3 r3 6 _ ht3.out).mono ?_); rintro e w1 ⟨rfl, hb⟩; replace HB := bel HB hb; clear hb))
  go_ret
  exact ⟨by first | rfl | (simp; done) | (simp [*]; done), HB.out⟩
set_option maxHeartbeats 4000000 in
set_option maxRecDepth 100000 in
theorem w_pn_low (k : Nat) (a0 a1 n1 n2 n3 cL lo hi m : Int) (s r1 r2 r3 T : ByteArray) (em : 1 + a1 % 62 = m) (hm1 : 1 ≤ m) (hm2 : m ≤ 62) (el : wrap64 (-2 ^ (m.toNat - 1)) = lo) (eh : wrap64 (wrap64 (2 ^ (m.toNat - 1)) - 1) = hi) (e1 : Int) (he1 : (e1 == 0) = false) (hlo : a0 / 2 < lo) (hex : Aside0 (oubliettelaw01_examples.f k = some true)) (hb0 : -9223372036854775808 ≤ a0) (hb1 : a0 ≤ 9223372036854775807) (h0 : 0 ≤ a1) (h1 : a1 ≤ 9223372036854775807)
    (hs : Aside0 (leb_S.f k (a0 / 2) = some s)) (ht : Aside0 (leb_TakeS.f k s m = some (n1, r1, e1))) (L : Nat) (hsz : s.size = L + 1) (hL : L ≤ 9) (hne : s.toList.isEmpty = false) (hn0 : a0 / 2 < 0)
    (hc : ∀ W : World, (Lib.bytesWorld W 5 s).cell? ⟨W.heap.size, L, none⟩ = some (.int .u8 cL)) (hT : Aside0 (strOfNums ((bl s).take L ++ [bits .or .u8 cL 128]) = T)) (hTs : T.size ≤ 10)
    (ht2 : Aside0 (leb_TakeS.f k (T ++ ⟨#[127]⟩) 64 = some (n2, r2, 6))) (ht3 : Aside0 (leb_TakeS.f k (s.extract 0 L) 64 = some (n3, r3, 6))) (w : World) :
    Calls Try.prog 5 #[.int .i64 a0, .int .i64 a1] w fun e w' => e = .returned (.bool true) ∧ Below w.heap.size w w' := by
  have HB := Aside0.mk (Below.refl w.heap.size w)
  have kc := fun W : World => Lib.run_convert_string_bytes (P := Try.prog) W 9 34 5 s Try.underlying9 Try.underlying34 Try.underlying5
  have hf := fun W : World => bw_frozen W s L (by omega)
  have kb := fun W : World => bw_back W s L (grownCap W (L + 1) 0 5) hsz hL (bits .or .u8 cL 128)
  rw [hT.out] at kb
  go_enter Try.func5, Try.ntmps5
  go_wp2_with (first
    | (go_at_call 9; (with_reducible refine (oubliettelaw01_examples.calls k true _ hex.out).mono ?_); rintro e w1 ⟨rfl, hb⟩; replace HB := bel HB hb; clear hb)
    | (go_at_call 14; (with_reducible refine (leb_S.calls k (a0 / 2) s _ hs.out).mono ?_); rintro e w1 ⟨rfl, hb⟩; replace HB := bel HB hb; clear hb)
    | (go_at_call 12; (with_reducible refine (leb_TakeS.calls k s m n1 r1 _ _ ht.out).mono ?_); rintro e w1 ⟨rfl, hb⟩; replace HB := bel HB hb; clear hb)
    | (go_at_call 12; (with_reducible refine (leb_TakeS.calls k (T ++ ⟨#[127]⟩) 64 n2 r2 6 _ ht2.out).mono ?_); rintro e w1 ⟨rfl, hb⟩; replace HB := bel2 HB hb; clear hb)
    | (go_at_call 12; (with_reducible refine (leb_TakeS.calls k (s.extract 0 L) 64 n3 r3 6 _ ht3.out).mono ?_); rintro e w1 ⟨rfl, hb⟩; replace HB := bel HB hb; clear hb))
  go_ret
  exact ⟨by first | rfl | (simp; done) | (simp [*]; done), HB.out⟩
set_option maxHeartbeats 4000000 in
set_option maxRecDepth 100000 in
theorem w_pn_high (k : Nat) (a0 a1 n1 n2 n3 cL lo hi m : Int) (s r1 r2 r3 T : ByteArray) (em : 1 + a1 % 62 = m) (hm1 : 1 ≤ m) (hm2 : m ≤ 62) (el : wrap64 (-2 ^ (m.toNat - 1)) = lo) (eh : wrap64 (wrap64 (2 ^ (m.toNat - 1)) - 1) = hi) (e1 : Int) (he1 : (e1 == 0) = false) (hlo : lo ≤ a0 / 2) (hup : hi < a0 / 2) (hex : Aside0 (oubliettelaw01_examples.f k = some true)) (hb0 : -9223372036854775808 ≤ a0) (hb1 : a0 ≤ 9223372036854775807) (h0 : 0 ≤ a1) (h1 : a1 ≤ 9223372036854775807)
    (hs : Aside0 (leb_S.f k (a0 / 2) = some s)) (ht : Aside0 (leb_TakeS.f k s m = some (n1, r1, e1))) (L : Nat) (hsz : s.size = L + 1) (hL : L ≤ 9) (hne : s.toList.isEmpty = false) (hn0 : a0 / 2 < 0)
    (hc : ∀ W : World, (Lib.bytesWorld W 5 s).cell? ⟨W.heap.size, L, none⟩ = some (.int .u8 cL)) (hT : Aside0 (strOfNums ((bl s).take L ++ [bits .or .u8 cL 128]) = T)) (hTs : T.size ≤ 10)
    (ht2 : Aside0 (leb_TakeS.f k (T ++ ⟨#[127]⟩) 64 = some (n2, r2, 6))) (ht3 : Aside0 (leb_TakeS.f k (s.extract 0 L) 64 = some (n3, r3, 6))) (w : World) :
    Calls Try.prog 5 #[.int .i64 a0, .int .i64 a1] w fun e w' => e = .returned (.bool true) ∧ Below w.heap.size w w' := by
  have HB := Aside0.mk (Below.refl w.heap.size w)
  have kc := fun W : World => Lib.run_convert_string_bytes (P := Try.prog) W 9 34 5 s Try.underlying9 Try.underlying34 Try.underlying5
  have hf := fun W : World => bw_frozen W s L (by omega)
  have kb := fun W : World => bw_back W s L (grownCap W (L + 1) 0 5) hsz hL (bits .or .u8 cL 128)
  rw [hT.out] at kb
  go_enter Try.func5, Try.ntmps5
  go_wp2_with (first
    | (go_at_call 9; (with_reducible refine (oubliettelaw01_examples.calls k true _ hex.out).mono ?_); rintro e w1 ⟨rfl, hb⟩; replace HB := bel HB hb; clear hb)
    | (go_at_call 14; (with_reducible refine (leb_S.calls k (a0 / 2) s _ hs.out).mono ?_); rintro e w1 ⟨rfl, hb⟩; replace HB := bel HB hb; clear hb)
    | (go_at_call 12; (with_reducible refine (leb_TakeS.calls k s m n1 r1 _ _ ht.out).mono ?_); rintro e w1 ⟨rfl, hb⟩; replace HB := bel HB hb; clear hb)
    | (go_at_call 12; (with_reducible refine (leb_TakeS.calls k (T ++ ⟨#[127]⟩) 64 n2 r2 6 _ ht2.out).mono ?_); rintro e w1 ⟨rfl, hb⟩; replace HB := bel2 HB hb; clear hb)
    | (go_at_call 12; (with_reducible refine (leb_TakeS.calls k (s.extract 0 L) 64 n3 r3 6 _ ht3.out).mono ?_); rintro e w1 ⟨rfl, hb⟩; replace HB := bel HB hb; clear hb))
  go_ret
  exact ⟨by first | rfl | (simp; done) | (simp [*]; done), HB.out⟩
set_option maxHeartbeats 4000000 in
set_option maxRecDepth 100000 in
theorem w_np_fits (k : Nat) (a0 a1 n1 n2 n3 cL lo hi m : Int) (s r1 r2 r3 T : ByteArray) (em : wrap64 (1 + -(a1 + 1).tmod 62) = m) (hm1 : 1 ≤ m) (hm2 : m ≤ 62) (el : wrap64 (-2 ^ (m.toNat - 1)) = lo) (eh : wrap64 (wrap64 (2 ^ (m.toNat - 1)) - 1) = hi) (hlo : lo ≤ a0 / 2) (hup : a0 / 2 ≤ hi) (hex : Aside0 (oubliettelaw01_examples.f k = some true)) (hb0 : -9223372036854775808 ≤ a0) (hb1 : a0 ≤ 9223372036854775807) (h0 : a1 < 0) (h1 : -9223372036854775808 ≤ a1)
    (hs : Aside0 (leb_S.f k (a0 / 2) = some s)) (ht : Aside0 (leb_TakeS.f k s m = some (n1, r1, 0))) (L : Nat) (hsz : s.size = L + 1) (hL : L ≤ 9) (hne : s.toList.isEmpty = false) (hn0 : 0 ≤ a0 / 2)
    (hc : ∀ W : World, (Lib.bytesWorld W 5 s).cell? ⟨W.heap.size, L, none⟩ = some (.int .u8 cL)) (hT : Aside0 (strOfNums ((bl s).take L ++ [bits .or .u8 cL 128]) = T)) (hTs : T.size ≤ 10)
    (ht2 : Aside0 (leb_TakeS.f k (T ++ ⟨#[0]⟩) 64 = some (n2, r2, 6))) (ht3 : Aside0 (leb_TakeS.f k (s.extract 0 L) 64 = some (n3, r3, 6))) (w : World) :
    Calls Try.prog 5 #[.int .i64 a0, .int .i64 a1] w fun e w' => e = .returned (.bool true) ∧ Below w.heap.size w w' := by
  have HB := Aside0.mk (Below.refl w.heap.size w)
  have kc := fun W : World => Lib.run_convert_string_bytes (P := Try.prog) W 9 34 5 s Try.underlying9 Try.underlying34 Try.underlying5
  have hf := fun W : World => bw_frozen W s L (by omega)
  have kb := fun W : World => bw_back W s L (grownCap W (L + 1) 0 5) hsz hL (bits .or .u8 cL 128)
  rw [hT.out] at kb
  go_enter Try.func5, Try.ntmps5
  go_wp2_with (first
    | (go_at_call 9; (with_reducible refine (oubliettelaw01_examples.calls k true _ hex.out).mono ?_); rintro e w1 ⟨rfl, hb⟩; replace HB := bel HB hb; clear hb)
    | (go_at_call 14; (with_reducible refine (leb_S.calls k (a0 / 2) s _ hs.out).mono ?_); rintro e w1 ⟨rfl, hb⟩; replace HB := bel HB hb; clear hb)
    | (go_at_call 12; (with_reducible refine (leb_TakeS.calls k s m n1 r1 _ _ ht.out).mono ?_); rintro e w1 ⟨rfl, hb⟩; replace HB := bel HB hb; clear hb)
    | (go_at_call 12; (with_reducible refine (leb_TakeS.calls k (T ++ ⟨#[0]⟩) 64 n2 r2 6 _ ht2.out).mono ?_); rintro e w1 ⟨rfl, hb⟩; replace HB := bel2 HB hb; clear hb)
    | (go_at_call 12; (with_reducible refine (leb_TakeS.calls k (s.extract 0 L) 64 n3 r3 6 _ ht3.out).mono ?_); rintro e w1 ⟨rfl, hb⟩; replace HB := bel HB hb; clear hb))
  go_ret
  exact ⟨by first | rfl | (simp; done) | (simp [*]; done), HB.out⟩
set_option maxHeartbeats 4000000 in
set_option maxRecDepth 100000 in
theorem w_np_low (k : Nat) (a0 a1 n1 n2 n3 cL lo hi m : Int) (s r1 r2 r3 T : ByteArray) (em : wrap64 (1 + -(a1 + 1).tmod 62) = m) (hm1 : 1 ≤ m) (hm2 : m ≤ 62) (el : wrap64 (-2 ^ (m.toNat - 1)) = lo) (eh : wrap64 (wrap64 (2 ^ (m.toNat - 1)) - 1) = hi) (e1 : Int) (he1 : (e1 == 0) = false) (hlo : a0 / 2 < lo) (hex : Aside0 (oubliettelaw01_examples.f k = some true)) (hb0 : -9223372036854775808 ≤ a0) (hb1 : a0 ≤ 9223372036854775807) (h0 : a1 < 0) (h1 : -9223372036854775808 ≤ a1)
    (hs : Aside0 (leb_S.f k (a0 / 2) = some s)) (ht : Aside0 (leb_TakeS.f k s m = some (n1, r1, e1))) (L : Nat) (hsz : s.size = L + 1) (hL : L ≤ 9) (hne : s.toList.isEmpty = false) (hn0 : 0 ≤ a0 / 2)
    (hc : ∀ W : World, (Lib.bytesWorld W 5 s).cell? ⟨W.heap.size, L, none⟩ = some (.int .u8 cL)) (hT : Aside0 (strOfNums ((bl s).take L ++ [bits .or .u8 cL 128]) = T)) (hTs : T.size ≤ 10)
    (ht2 : Aside0 (leb_TakeS.f k (T ++ ⟨#[0]⟩) 64 = some (n2, r2, 6))) (ht3 : Aside0 (leb_TakeS.f k (s.extract 0 L) 64 = some (n3, r3, 6))) (w : World) :
    Calls Try.prog 5 #[.int .i64 a0, .int .i64 a1] w fun e w' => e = .returned (.bool true) ∧ Below w.heap.size w w' := by
  have HB := Aside0.mk (Below.refl w.heap.size w)
  have kc := fun W : World => Lib.run_convert_string_bytes (P := Try.prog) W 9 34 5 s Try.underlying9 Try.underlying34 Try.underlying5
  have hf := fun W : World => bw_frozen W s L (by omega)
  have kb := fun W : World => bw_back W s L (grownCap W (L + 1) 0 5) hsz hL (bits .or .u8 cL 128)
  rw [hT.out] at kb
  go_enter Try.func5, Try.ntmps5
  go_wp2_with (first
    | (go_at_call 9; (with_reducible refine (oubliettelaw01_examples.calls k true _ hex.out).mono ?_); rintro e w1 ⟨rfl, hb⟩; replace HB := bel HB hb; clear hb)
    | (go_at_call 14; (with_reducible refine (leb_S.calls k (a0 / 2) s _ hs.out).mono ?_); rintro e w1 ⟨rfl, hb⟩; replace HB := bel HB hb; clear hb)
    | (go_at_call 12; (with_reducible refine (leb_TakeS.calls k s m n1 r1 _ _ ht.out).mono ?_); rintro e w1 ⟨rfl, hb⟩; replace HB := bel HB hb; clear hb)
    | (go_at_call 12; (with_reducible refine (leb_TakeS.calls k (T ++ ⟨#[0]⟩) 64 n2 r2 6 _ ht2.out).mono ?_); rintro e w1 ⟨rfl, hb⟩; replace HB := bel2 HB hb; clear hb)
    | (go_at_call 12; (with_reducible refine (leb_TakeS.calls k (s.extract 0 L) 64 n3 r3 6 _ ht3.out).mono ?_); rintro e w1 ⟨rfl, hb⟩; replace HB := bel HB hb; clear hb))
  go_ret
  exact ⟨by first | rfl | (simp; done) | (simp [*]; done), HB.out⟩
set_option maxHeartbeats 4000000 in
set_option maxRecDepth 100000 in
theorem w_np_high (k : Nat) (a0 a1 n1 n2 n3 cL lo hi m : Int) (s r1 r2 r3 T : ByteArray) (em : wrap64 (1 + -(a1 + 1).tmod 62) = m) (hm1 : 1 ≤ m) (hm2 : m ≤ 62) (el : wrap64 (-2 ^ (m.toNat - 1)) = lo) (eh : wrap64 (wrap64 (2 ^ (m.toNat - 1)) - 1) = hi) (e1 : Int) (he1 : (e1 == 0) = false) (hlo : lo ≤ a0 / 2) (hup : hi < a0 / 2) (hex : Aside0 (oubliettelaw01_examples.f k = some true)) (hb0 : -9223372036854775808 ≤ a0) (hb1 : a0 ≤ 9223372036854775807) (h0 : a1 < 0) (h1 : -9223372036854775808 ≤ a1)
    (hs : Aside0 (leb_S.f k (a0 / 2) = some s)) (ht : Aside0 (leb_TakeS.f k s m = some (n1, r1, e1))) (L : Nat) (hsz : s.size = L + 1) (hL : L ≤ 9) (hne : s.toList.isEmpty = false) (hn0 : 0 ≤ a0 / 2)
    (hc : ∀ W : World, (Lib.bytesWorld W 5 s).cell? ⟨W.heap.size, L, none⟩ = some (.int .u8 cL)) (hT : Aside0 (strOfNums ((bl s).take L ++ [bits .or .u8 cL 128]) = T)) (hTs : T.size ≤ 10)
    (ht2 : Aside0 (leb_TakeS.f k (T ++ ⟨#[0]⟩) 64 = some (n2, r2, 6))) (ht3 : Aside0 (leb_TakeS.f k (s.extract 0 L) 64 = some (n3, r3, 6))) (w : World) :
    Calls Try.prog 5 #[.int .i64 a0, .int .i64 a1] w fun e w' => e = .returned (.bool true) ∧ Below w.heap.size w w' := by
  have HB := Aside0.mk (Below.refl w.heap.size w)
  have kc := fun W : World => Lib.run_convert_string_bytes (P := Try.prog) W 9 34 5 s Try.underlying9 Try.underlying34 Try.underlying5
  have hf := fun W : World => bw_frozen W s L (by omega)
  have kb := fun W : World => bw_back W s L (grownCap W (L + 1) 0 5) hsz hL (bits .or .u8 cL 128)
  rw [hT.out] at kb
  go_enter Try.func5, Try.ntmps5
  go_wp2_with (first
    | (go_at_call 9; (with_reducible refine (oubliettelaw01_examples.calls k true _ hex.out).mono ?_); rintro e w1 ⟨rfl, hb⟩; replace HB := bel HB hb; clear hb)
    | (go_at_call 14; (with_reducible refine (leb_S.calls k (a0 / 2) s _ hs.out).mono ?_); rintro e w1 ⟨rfl, hb⟩; replace HB := bel HB hb; clear hb)
    | (go_at_call 12; (with_reducible refine (leb_TakeS.calls k s m n1 r1 _ _ ht.out).mono ?_); rintro e w1 ⟨rfl, hb⟩; replace HB := bel HB hb; clear hb)
    | (go_at_call 12; (with_reducible refine (leb_TakeS.calls k (T ++ ⟨#[0]⟩) 64 n2 r2 6 _ ht2.out).mono ?_); rintro e w1 ⟨rfl, hb⟩; replace HB := bel2 HB hb; clear hb)
    | (go_at_call 12; (with_reducible refine (leb_TakeS.calls k (s.extract 0 L) 64 n3 r3 6 _ ht3.out).mono ?_); rintro e w1 ⟨rfl, hb⟩; replace HB := bel HB hb; clear hb))
  go_ret
  exact ⟨by first | rfl | (simp; done) | (simp [*]; done), HB.out⟩
set_option maxHeartbeats 4000000 in
set_option maxRecDepth 100000 in
theorem w_nn_fits (k : Nat) (a0 a1 n1 n2 n3 cL lo hi m : Int) (s r1 r2 r3 T : ByteArray) (em : wrap64 (1 + -(a1 + 1).tmod 62) = m) (hm1 : 1 ≤ m) (hm2 : m ≤ 62) (el : wrap64 (-2 ^ (m.toNat - 1)) = lo) (eh : wrap64 (wrap64 (2 ^ (m.toNat - 1)) - 1) = hi) (hlo : lo ≤ a0 / 2) (hup : a0 / 2 ≤ hi) (hex : Aside0 (oubliettelaw01_examples.f k = some true)) (hb0 : -9223372036854775808 ≤ a0) (hb1 : a0 ≤ 9223372036854775807) (h0 : a1 < 0) (h1 : -9223372036854775808 ≤ a1)
    (hs : Aside0 (leb_S.f k (a0 / 2) = some s)) (ht : Aside0 (leb_TakeS.f k s m = some (n1, r1, 0))) (L : Nat) (hsz : s.size = L + 1) (hL : L ≤ 9) (hne : s.toList.isEmpty = false) (hn0 : a0 / 2 < 0)
    (hc : ∀ W : World, (Lib.bytesWorld W 5 s).cell? ⟨W.heap.size, L, none⟩ = some (.int .u8 cL)) (hT : Aside0 (strOfNums ((bl s).take L ++ [bits .or .u8 cL 128]) = T)) (hTs : T.size ≤ 10)
    (ht2 : Aside0 (leb_TakeS.f k (T ++ ⟨#[127]⟩) 64 = some (n2, r2, 6))) (ht3 : Aside0 (leb_TakeS.f k (s.extract 0 L) 64 = some (n3, r3, 6))) (w : World) :
    Calls Try.prog 5 #[.int .i64 a0, .int .i64 a1] w fun e w' => e = .returned (.bool true) ∧ Below w.heap.size w w' := by
  have HB := Aside0.mk (Below.refl w.heap.size w)
  have kc := fun W : World => Lib.run_convert_string_bytes (P := Try.prog) W 9 34 5 s Try.underlying9 Try.underlying34 Try.underlying5
  have hf := fun W : World => bw_frozen W s L (by omega)
  have kb := fun W : World => bw_back W s L (grownCap W (L + 1) 0 5) hsz hL (bits .or .u8 cL 128)
  rw [hT.out] at kb
  go_enter Try.func5, Try.ntmps5
  go_wp2_with (first
    | (go_at_call 9; (with_reducible refine (oubliettelaw01_examples.calls k true _ hex.out).mono ?_); rintro e w1 ⟨rfl, hb⟩; replace HB := bel HB hb; clear hb)
    | (go_at_call 14; (with_reducible refine (leb_S.calls k (a0 / 2) s _ hs.out).mono ?_); rintro e w1 ⟨rfl, hb⟩; replace HB := bel HB hb; clear hb)
    | (go_at_call 12; (with_reducible refine (leb_TakeS.calls k s m n1 r1 _ _ ht.out).mono ?_); rintro e w1 ⟨rfl, hb⟩; replace HB := bel HB hb; clear hb)
    | (go_at_call 12; (with_reducible refine (leb_TakeS.calls k (T ++ ⟨#[127]⟩) 64 n2 r2 6 _ ht2.out).mono ?_); rintro e w1 ⟨rfl, hb⟩; replace HB := bel2 HB hb; clear hb)
    | (go_at_call 12; (with_reducible refine (leb_TakeS.calls k (s.extract 0 L) 64 n3 r3 6 _ ht3.out).mono ?_); rintro e w1 ⟨rfl, hb⟩; replace HB := bel HB hb; clear hb))
  go_ret
  exact ⟨by first | rfl | (simp; done) | (simp [*]; done), HB.out⟩
set_option maxHeartbeats 4000000 in
set_option maxRecDepth 100000 in
theorem w_nn_low (k : Nat) (a0 a1 n1 n2 n3 cL lo hi m : Int) (s r1 r2 r3 T : ByteArray) (em : wrap64 (1 + -(a1 + 1).tmod 62) = m) (hm1 : 1 ≤ m) (hm2 : m ≤ 62) (el : wrap64 (-2 ^ (m.toNat - 1)) = lo) (eh : wrap64 (wrap64 (2 ^ (m.toNat - 1)) - 1) = hi) (e1 : Int) (he1 : (e1 == 0) = false) (hlo : a0 / 2 < lo) (hex : Aside0 (oubliettelaw01_examples.f k = some true)) (hb0 : -9223372036854775808 ≤ a0) (hb1 : a0 ≤ 9223372036854775807) (h0 : a1 < 0) (h1 : -9223372036854775808 ≤ a1)
    (hs : Aside0 (leb_S.f k (a0 / 2) = some s)) (ht : Aside0 (leb_TakeS.f k s m = some (n1, r1, e1))) (L : Nat) (hsz : s.size = L + 1) (hL : L ≤ 9) (hne : s.toList.isEmpty = false) (hn0 : a0 / 2 < 0)
    (hc : ∀ W : World, (Lib.bytesWorld W 5 s).cell? ⟨W.heap.size, L, none⟩ = some (.int .u8 cL)) (hT : Aside0 (strOfNums ((bl s).take L ++ [bits .or .u8 cL 128]) = T)) (hTs : T.size ≤ 10)
    (ht2 : Aside0 (leb_TakeS.f k (T ++ ⟨#[127]⟩) 64 = some (n2, r2, 6))) (ht3 : Aside0 (leb_TakeS.f k (s.extract 0 L) 64 = some (n3, r3, 6))) (w : World) :
    Calls Try.prog 5 #[.int .i64 a0, .int .i64 a1] w fun e w' => e = .returned (.bool true) ∧ Below w.heap.size w w' := by
  have HB := Aside0.mk (Below.refl w.heap.size w)
  have kc := fun W : World => Lib.run_convert_string_bytes (P := Try.prog) W 9 34 5 s Try.underlying9 Try.underlying34 Try.underlying5
  have hf := fun W : World => bw_frozen W s L (by omega)
  have kb := fun W : World => bw_back W s L (grownCap W (L + 1) 0 5) hsz hL (bits .or .u8 cL 128)
  rw [hT.out] at kb
  go_enter Try.func5, Try.ntmps5
  go_wp2_with (first
    | (go_at_call 9; (with_reducible refine (oubliettelaw01_examples.calls k true _ hex.out).mono ?_); rintro e w1 ⟨rfl, hb⟩; replace HB := bel HB hb; clear hb)
    | (go_at_call 14; (with_reducible refine (leb_S.calls k (a0 / 2) s _ hs.out).mono ?_); rintro e w1 ⟨rfl, hb⟩; replace HB := bel HB hb; clear hb)
    | (go_at_call 12; (with_reducible refine (leb_TakeS.calls k s m n1 r1 _ _ ht.out).mono ?_); rintro e w1 ⟨rfl, hb⟩; replace HB := bel HB hb; clear hb)
    | (go_at_call 12; (with_reducible refine (leb_TakeS.calls k (T ++ ⟨#[127]⟩) 64 n2 r2 6 _ ht2.out).mono ?_); rintro e w1 ⟨rfl, hb⟩; replace HB := bel2 HB hb; clear hb)
    | (go_at_call 12; (with_reducible refine (leb_TakeS.calls k (s.extract 0 L) 64 n3 r3 6 _ ht3.out).mono ?_); rintro e w1 ⟨rfl, hb⟩; replace HB := bel HB hb; clear hb))
  go_ret
  exact ⟨by first | rfl | (simp; done) | (simp [*]; done), HB.out⟩
set_option maxHeartbeats 4000000 in
set_option maxRecDepth 100000 in
theorem w_nn_high (k : Nat) (a0 a1 n1 n2 n3 cL lo hi m : Int) (s r1 r2 r3 T : ByteArray) (em : wrap64 (1 + -(a1 + 1).tmod 62) = m) (hm1 : 1 ≤ m) (hm2 : m ≤ 62) (el : wrap64 (-2 ^ (m.toNat - 1)) = lo) (eh : wrap64 (wrap64 (2 ^ (m.toNat - 1)) - 1) = hi) (e1 : Int) (he1 : (e1 == 0) = false) (hlo : lo ≤ a0 / 2) (hup : hi < a0 / 2) (hex : Aside0 (oubliettelaw01_examples.f k = some true)) (hb0 : -9223372036854775808 ≤ a0) (hb1 : a0 ≤ 9223372036854775807) (h0 : a1 < 0) (h1 : -9223372036854775808 ≤ a1)
    (hs : Aside0 (leb_S.f k (a0 / 2) = some s)) (ht : Aside0 (leb_TakeS.f k s m = some (n1, r1, e1))) (L : Nat) (hsz : s.size = L + 1) (hL : L ≤ 9) (hne : s.toList.isEmpty = false) (hn0 : a0 / 2 < 0)
    (hc : ∀ W : World, (Lib.bytesWorld W 5 s).cell? ⟨W.heap.size, L, none⟩ = some (.int .u8 cL)) (hT : Aside0 (strOfNums ((bl s).take L ++ [bits .or .u8 cL 128]) = T)) (hTs : T.size ≤ 10)
    (ht2 : Aside0 (leb_TakeS.f k (T ++ ⟨#[127]⟩) 64 = some (n2, r2, 6))) (ht3 : Aside0 (leb_TakeS.f k (s.extract 0 L) 64 = some (n3, r3, 6))) (w : World) :
    Calls Try.prog 5 #[.int .i64 a0, .int .i64 a1] w fun e w' => e = .returned (.bool true) ∧ Below w.heap.size w w' := by
  have HB := Aside0.mk (Below.refl w.heap.size w)
  have kc := fun W : World => Lib.run_convert_string_bytes (P := Try.prog) W 9 34 5 s Try.underlying9 Try.underlying34 Try.underlying5
  have hf := fun W : World => bw_frozen W s L (by omega)
  have kb := fun W : World => bw_back W s L (grownCap W (L + 1) 0 5) hsz hL (bits .or .u8 cL 128)
  rw [hT.out] at kb
  go_enter Try.func5, Try.ntmps5
  go_wp2_with (first
    | (go_at_call 9; (with_reducible refine (oubliettelaw01_examples.calls k true _ hex.out).mono ?_); rintro e w1 ⟨rfl, hb⟩; replace HB := bel HB hb; clear hb)
    | (go_at_call 14; (with_reducible refine (leb_S.calls k (a0 / 2) s _ hs.out).mono ?_); rintro e w1 ⟨rfl, hb⟩; replace HB := bel HB hb; clear hb)
    | (go_at_call 12; (with_reducible refine (leb_TakeS.calls k s m n1 r1 _ _ ht.out).mono ?_); rintro e w1 ⟨rfl, hb⟩; replace HB := bel HB hb; clear hb)
    | (go_at_call 12; (with_reducible refine (leb_TakeS.calls k (T ++ ⟨#[127]⟩) 64 n2 r2 6 _ ht2.out).mono ?_); rintro e w1 ⟨rfl, hb⟩; replace HB := bel2 HB hb; clear hb)
    | (go_at_call 12; (with_reducible refine (leb_TakeS.calls k (s.extract 0 L) 64 n3 r3 6 _ ht3.out).mono ?_); rintro e w1 ⟨rfl, hb⟩; replace HB := bel HB hb; clear hb))
  go_ret
  exact ⟨by first | rfl | (simp; done) | (simp [*]; done), HB.out⟩
end Go.Proofs.Ytjfcilamkcfolaa.BitsWalk
