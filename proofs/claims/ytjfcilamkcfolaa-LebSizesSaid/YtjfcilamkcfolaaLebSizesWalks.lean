/- A greater number never has fewer bytes; each seven bits more are one byte more; all bytes but the last one have 128 more: the walk of the law's own Go function. -/
import Derived.Test.YtjfcilamkcfolaaLebCoreLebBack
namespace Go.Proofs.Ytjfcilamkcfolaa.SizesWalk
open Go.RowKit Go.Proofs.Ytjfcilamkcfolaa.PLebBack Go.Proofs.YtjfcilamkcfolaaW.PrintWords Go.Proofs.YtjfcilamkcfolaaW.PrintLast Go.Proofs.YtjfcilamkcfolaaW.PrintMore
attribute [local go_sem] max2_int min2_int max_two min_two max_three min_three max_four min_four
set_option linter.unusedVariables false
set_option linter.unusedSimpArgs false
theorem bel {w w1 w2 : World} (h1 : Aside0 (Below w.heap.size w w1)) (h2 : Below w1.heap.size w1 w2) : Aside0 (Below w.heap.size w w2) := ⟨below_step h1.out h2⟩
set_option maxHeartbeats 4000000 in
set_option maxRecDepth 100000 in
theorem w_gt_big (k : Nat) (a0 a1 X Y z : Int) (s : ByteArray) (hex : Aside0 (oubliettelaw01_examples.f k = some true)) (hX : mx a0 (wrap64 (-(wrap64 (a0 + 1)))) = X) (hY : mx a1 (wrap64 (-(wrap64 (a1 + 1)))) = Y)
    (hs : Aside0 (leb_S.f k X = some s)) (hsz : s.size ≤ 10)
    (hby : ∀ i (h : i < s.size), 128 ≤ (s[i].toNat : Int) ↔ i + 1 < s.size)
    (hXb : 0 ≤ X ∧ X ≤ 9223372036854775807) (hg : Y < X) (hz : Aside0 (leb_Size.f k X = some z)) (hz1 : Aside0 (leb_Size.f k (wrap64 (-wrap64 (X + 1))) = some z)) (hbig : 36028797018963968 ≤ X) (w : World) :
    Calls Try.prog 8 #[.int .i64 a0, .int .i64 a1] w fun e w' => e = .returned (.bool true) ∧ Below w.heap.size w w' := by
  have HB := Aside0.mk (Below.refl w.heap.size w)
  have hX_ : (if a0 < wrap64 (-wrap64 (a0 + 1)) then wrap64 (-wrap64 (a0 + 1)) else a0) = X := hX
  have hY_ : (if a1 < wrap64 (-wrap64 (a1 + 1)) then wrap64 (-wrap64 (a1 + 1)) else a1) = Y := hY
  clear hX hY
  replace hby := Aside0.mk hby
  obtain ⟨hX0, hX1⟩ := hXb
  go_enter Try.func8, Try.ntmps8
  go_wp2_with (first
    | (go_at_call 9; (with_reducible refine (oubliettelaw01_examples.calls k true _ hex.out).mono ?_); rintro e w1 ⟨rfl, hb⟩; replace HB := bel HB hb; clear hb)
    | (go_at_call 14; (with_reducible refine (leb_S.calls k X s _ hs.out).mono ?_); rintro e w1 ⟨rfl, hb⟩; replace HB := bel HB hb; clear hb))
  clear hX_ hY_
  go_loop [7] (fun i => ∃ k : Nat, k ≤ s.size ∧ i = .int .i64 k) (fun i => s.size - (intOf i).toNat)
  case atStart => exact ⟨0, Nat.zero_le _, rfl⟩
  case round =>
    obtain ⟨i, hi, rfl⟩ := hrel
    by_cases hlt : i < s.size
    · have hb := hby.out i hlt
      by_cases hl : i + 1 < s.size
      · have h1 : 128 ≤ (s[i].toNat : Int) := hb.mpr hl
        clear hb
        have h2 : (i : Int) < (s.size : Int) - 1 := by omega
        go_wp2
        go_round
        case rel => exact ⟨i + 1, by omega, by go_num⟩
        case measure => simp [intOf]; omega
      · have h1 : ¬ 128 ≤ (s[i].toNat : Int) := fun h => hl (hb.mp h)
        clear hb
        have h2 : ¬ (i : Int) < (s.size : Int) - 1 := by omega
        go_wp2
        go_round
        case rel => exact ⟨i + 1, by omega, by go_num⟩
        case measure => simp [intOf]; omega
    · go_wp2_with (first
        | (go_at_call 18; (with_reducible refine (leb_Size.calls k X z _ hz.out).mono ?_); rintro e w1 ⟨rfl, hb⟩; replace HB := bel HB hb; clear hb)
        | (go_at_call 18; (with_reducible refine (leb_Size.calls k (wrap64 (-wrap64 (X + 1))) z _ hz1.out).mono ?_); rintro e w1 ⟨rfl, hb⟩; replace HB := bel HB hb; clear hb))
      go_ret
      exact ⟨by first | rfl | (simp; done) | (simp [*]; done), by repeat (first | (with_reducible first | exact HB.out | apply below_alloc | apply pw_below_drewN | apply below_drew1) | exact HB.out)⟩
set_option maxHeartbeats 4000000 in
set_option maxRecDepth 100000 in
theorem w_gt_mid (k : Nat) (a0 a1 X Y z : Int) (s : ByteArray) (hex : Aside0 (oubliettelaw01_examples.f k = some true)) (hX : mx a0 (wrap64 (-(wrap64 (a0 + 1)))) = X) (hY : mx a1 (wrap64 (-(wrap64 (a1 + 1)))) = Y)
    (hs : Aside0 (leb_S.f k X = some s)) (hsz : s.size ≤ 10)
    (hby : ∀ i (h : i < s.size), 128 ≤ (s[i].toNat : Int) ↔ i + 1 < s.size)
    (hXb : 0 ≤ X ∧ X ≤ 9223372036854775807) (hg : Y < X) (hz : Aside0 (leb_Size.f k X = some z)) (hz1 : Aside0 (leb_Size.f k (-(X + 1)) = some z)) (hbig : X < 36028797018963968) (hpos : 0 < X) (hz0 : 0 ≤ z) (hz2 : z ≤ 10) (hz7 : Aside0 (leb_Size.f k (X * 128) = some (z + 1))) (w : World) :
    Calls Try.prog 8 #[.int .i64 a0, .int .i64 a1] w fun e w' => e = .returned (.bool true) ∧ Below w.heap.size w w' := by
  have HB := Aside0.mk (Below.refl w.heap.size w)
  have hX_ : (if a0 < wrap64 (-wrap64 (a0 + 1)) then wrap64 (-wrap64 (a0 + 1)) else a0) = X := hX
  have hY_ : (if a1 < wrap64 (-wrap64 (a1 + 1)) then wrap64 (-wrap64 (a1 + 1)) else a1) = Y := hY
  clear hX hY
  replace hby := Aside0.mk hby
  obtain ⟨hX0, hX1⟩ := hXb
  go_enter Try.func8, Try.ntmps8
  go_wp2_with (first
    | (go_at_call 9; (with_reducible refine (oubliettelaw01_examples.calls k true _ hex.out).mono ?_); rintro e w1 ⟨rfl, hb⟩; replace HB := bel HB hb; clear hb)
    | (go_at_call 14; (with_reducible refine (leb_S.calls k X s _ hs.out).mono ?_); rintro e w1 ⟨rfl, hb⟩; replace HB := bel HB hb; clear hb))
  clear hX_ hY_
  go_loop [7] (fun i => ∃ k : Nat, k ≤ s.size ∧ i = .int .i64 k) (fun i => s.size - (intOf i).toNat)
  case atStart => exact ⟨0, Nat.zero_le _, rfl⟩
  case round =>
    obtain ⟨i, hi, rfl⟩ := hrel
    by_cases hlt : i < s.size
    · have hb := hby.out i hlt
      by_cases hl : i + 1 < s.size
      · have h1 : 128 ≤ (s[i].toNat : Int) := hb.mpr hl
        clear hb
        have h2 : (i : Int) < (s.size : Int) - 1 := by omega
        go_wp2
        go_round
        case rel => exact ⟨i + 1, by omega, by go_num⟩
        case measure => simp [intOf]; omega
      · have h1 : ¬ 128 ≤ (s[i].toNat : Int) := fun h => hl (hb.mp h)
        clear hb
        have h2 : ¬ (i : Int) < (s.size : Int) - 1 := by omega
        go_wp2
        go_round
        case rel => exact ⟨i + 1, by omega, by go_num⟩
        case measure => simp [intOf]; omega
    · go_wp2_with (first
        | (go_at_call 18; (with_reducible refine (leb_Size.calls k X z _ hz.out).mono ?_); rintro e w1 ⟨rfl, hb⟩; replace HB := bel HB hb; clear hb)
        | (go_at_call 18; (with_reducible refine (leb_Size.calls k (-(X + 1)) z _ hz1.out).mono ?_); rintro e w1 ⟨rfl, hb⟩; replace HB := bel HB hb; clear hb)
        | (go_at_call 18; (with_reducible refine (leb_Size.calls k (X * 128) (z + 1) _ hz7.out).mono ?_); rintro e w1 ⟨rfl, hb⟩; replace HB := bel HB hb; clear hb))
      go_ret
      exact ⟨by first | rfl | (simp; done) | (simp [*]; done), by repeat (first | (with_reducible first | exact HB.out | apply below_alloc | apply pw_below_drewN | apply below_drew1) | exact HB.out)⟩
set_option maxHeartbeats 4000000 in
set_option maxRecDepth 100000 in
theorem w_gt_zero (k : Nat) (a0 a1 Y : Int) (s : ByteArray) (hex : Aside0 (oubliettelaw01_examples.f k = some true)) (hX : mx a0 (wrap64 (-(wrap64 (a0 + 1)))) = 0) (hY : mx a1 (wrap64 (-(wrap64 (a1 + 1)))) = Y)
    (hs : Aside0 (leb_S.f k 0 = some s)) (hsz : s.size ≤ 10)
    (hby : ∀ i (h : i < s.size), 128 ≤ (s[i].toNat : Int) ↔ i + 1 < s.size)
    (hg : Y < 0) (hz : Aside0 (leb_Size.f k 0 = some 1)) (hz1 : Aside0 (leb_Size.f k (-1) = some 1))  (w : World) :
    Calls Try.prog 8 #[.int .i64 a0, .int .i64 a1] w fun e w' => e = .returned (.bool true) ∧ Below w.heap.size w w' := by
  have HB := Aside0.mk (Below.refl w.heap.size w)
  have hX_ : (if a0 < wrap64 (-wrap64 (a0 + 1)) then wrap64 (-wrap64 (a0 + 1)) else a0) = 0 := hX
  have hY_ : (if a1 < wrap64 (-wrap64 (a1 + 1)) then wrap64 (-wrap64 (a1 + 1)) else a1) = Y := hY
  clear hX hY
  replace hby := Aside0.mk hby
  go_enter Try.func8, Try.ntmps8
  go_wp2_with (first
    | (go_at_call 9; (with_reducible refine (oubliettelaw01_examples.calls k true _ hex.out).mono ?_); rintro e w1 ⟨rfl, hb⟩; replace HB := bel HB hb; clear hb)
    | (go_at_call 14; (with_reducible refine (leb_S.calls k 0 s _ hs.out).mono ?_); rintro e w1 ⟨rfl, hb⟩; replace HB := bel HB hb; clear hb))
  clear hX_ hY_
  go_loop [7] (fun i => ∃ k : Nat, k ≤ s.size ∧ i = .int .i64 k) (fun i => s.size - (intOf i).toNat)
  case atStart => exact ⟨0, Nat.zero_le _, rfl⟩
  case round =>
    obtain ⟨i, hi, rfl⟩ := hrel
    by_cases hlt : i < s.size
    · have hb := hby.out i hlt
      by_cases hl : i + 1 < s.size
      · have h1 : 128 ≤ (s[i].toNat : Int) := hb.mpr hl
        clear hb
        have h2 : (i : Int) < (s.size : Int) - 1 := by omega
        go_wp2
        go_round
        case rel => exact ⟨i + 1, by omega, by go_num⟩
        case measure => simp [intOf]; omega
      · have h1 : ¬ 128 ≤ (s[i].toNat : Int) := fun h => hl (hb.mp h)
        clear hb
        have h2 : ¬ (i : Int) < (s.size : Int) - 1 := by omega
        go_wp2
        go_round
        case rel => exact ⟨i + 1, by omega, by go_num⟩
        case measure => simp [intOf]; omega
    · go_wp2_with (first
        | (go_at_call 18; (with_reducible refine (leb_Size.calls k 0 1 _ hz.out).mono ?_); rintro e w1 ⟨rfl, hb⟩; replace HB := bel HB hb; clear hb)
        | (go_at_call 18; (with_reducible refine (leb_Size.calls k (-1) 1 _ hz1.out).mono ?_); rintro e w1 ⟨rfl, hb⟩; replace HB := bel HB hb; clear hb))
      go_ret
      exact ⟨by first | rfl | (simp; done) | (simp [*]; done), by repeat (first | (with_reducible first | exact HB.out | apply below_alloc | apply pw_below_drewN | apply below_drew1) | exact HB.out)⟩
set_option maxHeartbeats 4000000 in
set_option maxRecDepth 100000 in
theorem w_le_big (k : Nat) (a0 a1 X Y z : Int) (s : ByteArray) (hex : Aside0 (oubliettelaw01_examples.f k = some true)) (hX : mx a0 (wrap64 (-(wrap64 (a0 + 1)))) = X) (hY : mx a1 (wrap64 (-(wrap64 (a1 + 1)))) = Y)
    (hs : Aside0 (leb_S.f k X = some s)) (hsz : s.size ≤ 10)
    (hby : ∀ i (h : i < s.size), 128 ≤ (s[i].toNat : Int) ↔ i + 1 < s.size)
    (hXb : 0 ≤ X ∧ X ≤ 9223372036854775807) (hg : X ≤ Y) (y : Int) (hy : Aside0 (leb_Size.f k Y = some y)) (hle : z ≤ y) (hz : Aside0 (leb_Size.f k X = some z)) (hz1 : Aside0 (leb_Size.f k (wrap64 (-wrap64 (X + 1))) = some z)) (hbig : 36028797018963968 ≤ X) (w : World) :
    Calls Try.prog 8 #[.int .i64 a0, .int .i64 a1] w fun e w' => e = .returned (.bool true) ∧ Below w.heap.size w w' := by
  have HB := Aside0.mk (Below.refl w.heap.size w)
  have hX_ : (if a0 < wrap64 (-wrap64 (a0 + 1)) then wrap64 (-wrap64 (a0 + 1)) else a0) = X := hX
  have hY_ : (if a1 < wrap64 (-wrap64 (a1 + 1)) then wrap64 (-wrap64 (a1 + 1)) else a1) = Y := hY
  clear hX hY
  replace hby := Aside0.mk hby
  obtain ⟨hX0, hX1⟩ := hXb
  go_enter Try.func8, Try.ntmps8
  go_wp2_with (first
    | (go_at_call 9; (with_reducible refine (oubliettelaw01_examples.calls k true _ hex.out).mono ?_); rintro e w1 ⟨rfl, hb⟩; replace HB := bel HB hb; clear hb)
    | (go_at_call 14; (with_reducible refine (leb_S.calls k X s _ hs.out).mono ?_); rintro e w1 ⟨rfl, hb⟩; replace HB := bel HB hb; clear hb))
  clear hX_ hY_
  go_loop [7] (fun i => ∃ k : Nat, k ≤ s.size ∧ i = .int .i64 k) (fun i => s.size - (intOf i).toNat)
  case atStart => exact ⟨0, Nat.zero_le _, rfl⟩
  case round =>
    obtain ⟨i, hi, rfl⟩ := hrel
    by_cases hlt : i < s.size
    · have hb := hby.out i hlt
      by_cases hl : i + 1 < s.size
      · have h1 : 128 ≤ (s[i].toNat : Int) := hb.mpr hl
        clear hb
        have h2 : (i : Int) < (s.size : Int) - 1 := by omega
        go_wp2
        go_round
        case rel => exact ⟨i + 1, by omega, by go_num⟩
        case measure => simp [intOf]; omega
      · have h1 : ¬ 128 ≤ (s[i].toNat : Int) := fun h => hl (hb.mp h)
        clear hb
        have h2 : ¬ (i : Int) < (s.size : Int) - 1 := by omega
        go_wp2
        go_round
        case rel => exact ⟨i + 1, by omega, by go_num⟩
        case measure => simp [intOf]; omega
    · go_wp2_with (first
        | (go_at_call 18; (with_reducible refine (leb_Size.calls k X z _ hz.out).mono ?_); rintro e w1 ⟨rfl, hb⟩; replace HB := bel HB hb; clear hb)
        | (go_at_call 18; (with_reducible refine (leb_Size.calls k (wrap64 (-wrap64 (X + 1))) z _ hz1.out).mono ?_); rintro e w1 ⟨rfl, hb⟩; replace HB := bel HB hb; clear hb)
        | (go_at_call 18; (with_reducible refine (leb_Size.calls k Y y _ hy.out).mono ?_); rintro e w1 ⟨rfl, hb⟩; replace HB := bel HB hb; clear hb))
      go_ret
      exact ⟨by first | rfl | (simp; done) | (simp [*]; done), by repeat (first | (with_reducible first | exact HB.out | apply below_alloc | apply pw_below_drewN | apply below_drew1) | exact HB.out)⟩
set_option maxHeartbeats 4000000 in
set_option maxRecDepth 100000 in
theorem w_le_mid (k : Nat) (a0 a1 X Y z : Int) (s : ByteArray) (hex : Aside0 (oubliettelaw01_examples.f k = some true)) (hX : mx a0 (wrap64 (-(wrap64 (a0 + 1)))) = X) (hY : mx a1 (wrap64 (-(wrap64 (a1 + 1)))) = Y)
    (hs : Aside0 (leb_S.f k X = some s)) (hsz : s.size ≤ 10)
    (hby : ∀ i (h : i < s.size), 128 ≤ (s[i].toNat : Int) ↔ i + 1 < s.size)
    (hXb : 0 ≤ X ∧ X ≤ 9223372036854775807) (hg : X ≤ Y) (y : Int) (hy : Aside0 (leb_Size.f k Y = some y)) (hle : z ≤ y) (hz : Aside0 (leb_Size.f k X = some z)) (hz1 : Aside0 (leb_Size.f k (-(X + 1)) = some z)) (hbig : X < 36028797018963968) (hpos : 0 < X) (hz0 : 0 ≤ z) (hz2 : z ≤ 10) (hz7 : Aside0 (leb_Size.f k (X * 128) = some (z + 1))) (w : World) :
    Calls Try.prog 8 #[.int .i64 a0, .int .i64 a1] w fun e w' => e = .returned (.bool true) ∧ Below w.heap.size w w' := by
  have HB := Aside0.mk (Below.refl w.heap.size w)
  have hX_ : (if a0 < wrap64 (-wrap64 (a0 + 1)) then wrap64 (-wrap64 (a0 + 1)) else a0) = X := hX
  have hY_ : (if a1 < wrap64 (-wrap64 (a1 + 1)) then wrap64 (-wrap64 (a1 + 1)) else a1) = Y := hY
  clear hX hY
  replace hby := Aside0.mk hby
  obtain ⟨hX0, hX1⟩ := hXb
  go_enter Try.func8, Try.ntmps8
  go_wp2_with (first
    | (go_at_call 9; (with_reducible refine (oubliettelaw01_examples.calls k true _ hex.out).mono ?_); rintro e w1 ⟨rfl, hb⟩; replace HB := bel HB hb; clear hb)
    | (go_at_call 14; (with_reducible refine (leb_S.calls k X s _ hs.out).mono ?_); rintro e w1 ⟨rfl, hb⟩; replace HB := bel HB hb; clear hb))
  clear hX_ hY_
  go_loop [7] (fun i => ∃ k : Nat, k ≤ s.size ∧ i = .int .i64 k) (fun i => s.size - (intOf i).toNat)
  case atStart => exact ⟨0, Nat.zero_le _, rfl⟩
  case round =>
    obtain ⟨i, hi, rfl⟩ := hrel
    by_cases hlt : i < s.size
    · have hb := hby.out i hlt
      by_cases hl : i + 1 < s.size
      · have h1 : 128 ≤ (s[i].toNat : Int) := hb.mpr hl
        clear hb
        have h2 : (i : Int) < (s.size : Int) - 1 := by omega
        go_wp2
        go_round
        case rel => exact ⟨i + 1, by omega, by go_num⟩
        case measure => simp [intOf]; omega
      · have h1 : ¬ 128 ≤ (s[i].toNat : Int) := fun h => hl (hb.mp h)
        clear hb
        have h2 : ¬ (i : Int) < (s.size : Int) - 1 := by omega
        go_wp2
        go_round
        case rel => exact ⟨i + 1, by omega, by go_num⟩
        case measure => simp [intOf]; omega
    · go_wp2_with (first
        | (go_at_call 18; (with_reducible refine (leb_Size.calls k X z _ hz.out).mono ?_); rintro e w1 ⟨rfl, hb⟩; replace HB := bel HB hb; clear hb)
        | (go_at_call 18; (with_reducible refine (leb_Size.calls k (-(X + 1)) z _ hz1.out).mono ?_); rintro e w1 ⟨rfl, hb⟩; replace HB := bel HB hb; clear hb)
        | (go_at_call 18; (with_reducible refine (leb_Size.calls k Y y _ hy.out).mono ?_); rintro e w1 ⟨rfl, hb⟩; replace HB := bel HB hb; clear hb)
        | (go_at_call 18; (with_reducible refine (leb_Size.calls k (X * 128) (z + 1) _ hz7.out).mono ?_); rintro e w1 ⟨rfl, hb⟩; replace HB := bel HB hb; clear hb))
      go_ret
      exact ⟨by first | rfl | (simp; done) | (simp [*]; done), by repeat (first | (with_reducible first | exact HB.out | apply below_alloc | apply pw_below_drewN | apply below_drew1) | exact HB.out)⟩
set_option maxHeartbeats 4000000 in
set_option maxRecDepth 100000 in
theorem w_le_zero (k : Nat) (a0 a1 Y : Int) (s : ByteArray) (hex : Aside0 (oubliettelaw01_examples.f k = some true)) (hX : mx a0 (wrap64 (-(wrap64 (a0 + 1)))) = 0) (hY : mx a1 (wrap64 (-(wrap64 (a1 + 1)))) = Y)
    (hs : Aside0 (leb_S.f k 0 = some s)) (hsz : s.size ≤ 10)
    (hby : ∀ i (h : i < s.size), 128 ≤ (s[i].toNat : Int) ↔ i + 1 < s.size)
    (hg : 0 ≤ Y) (y : Int) (hy : Aside0 (leb_Size.f k Y = some y)) (hle : 1 ≤ y) (hz : Aside0 (leb_Size.f k 0 = some 1)) (hz1 : Aside0 (leb_Size.f k (-1) = some 1))  (w : World) :
    Calls Try.prog 8 #[.int .i64 a0, .int .i64 a1] w fun e w' => e = .returned (.bool true) ∧ Below w.heap.size w w' := by
  have HB := Aside0.mk (Below.refl w.heap.size w)
  have hX_ : (if a0 < wrap64 (-wrap64 (a0 + 1)) then wrap64 (-wrap64 (a0 + 1)) else a0) = 0 := hX
  have hY_ : (if a1 < wrap64 (-wrap64 (a1 + 1)) then wrap64 (-wrap64 (a1 + 1)) else a1) = Y := hY
  clear hX hY
  replace hby := Aside0.mk hby
  go_enter Try.func8, Try.ntmps8
  go_wp2_with (first
    | (go_at_call 9; (with_reducible refine (oubliettelaw01_examples.calls k true _ hex.out).mono ?_); rintro e w1 ⟨rfl, hb⟩; replace HB := bel HB hb; clear hb)
    | (go_at_call 14; (with_reducible refine (leb_S.calls k 0 s _ hs.out).mono ?_); rintro e w1 ⟨rfl, hb⟩; replace HB := bel HB hb; clear hb))
  clear hX_ hY_
  go_loop [7] (fun i => ∃ k : Nat, k ≤ s.size ∧ i = .int .i64 k) (fun i => s.size - (intOf i).toNat)
  case atStart => exact ⟨0, Nat.zero_le _, rfl⟩
  case round =>
    obtain ⟨i, hi, rfl⟩ := hrel
    by_cases hlt : i < s.size
    · have hb := hby.out i hlt
      by_cases hl : i + 1 < s.size
      · have h1 : 128 ≤ (s[i].toNat : Int) := hb.mpr hl
        clear hb
        have h2 : (i : Int) < (s.size : Int) - 1 := by omega
        go_wp2
        go_round
        case rel => exact ⟨i + 1, by omega, by go_num⟩
        case measure => simp [intOf]; omega
      · have h1 : ¬ 128 ≤ (s[i].toNat : Int) := fun h => hl (hb.mp h)
        clear hb
        have h2 : ¬ (i : Int) < (s.size : Int) - 1 := by omega
        go_wp2
        go_round
        case rel => exact ⟨i + 1, by omega, by go_num⟩
        case measure => simp [intOf]; omega
    · go_wp2_with (first
        | (go_at_call 18; (with_reducible refine (leb_Size.calls k 0 1 _ hz.out).mono ?_); rintro e w1 ⟨rfl, hb⟩; replace HB := bel HB hb; clear hb)
        | (go_at_call 18; (with_reducible refine (leb_Size.calls k (-1) 1 _ hz1.out).mono ?_); rintro e w1 ⟨rfl, hb⟩; replace HB := bel HB hb; clear hb)
        | (go_at_call 18; (with_reducible refine (leb_Size.calls k Y y _ hy.out).mono ?_); rintro e w1 ⟨rfl, hb⟩; replace HB := bel HB hb; clear hb))
      go_ret
      exact ⟨by first | rfl | (simp; done) | (simp [*]; done), by repeat (first | (with_reducible first | exact HB.out | apply below_alloc | apply pw_below_drewN | apply below_drew1) | exact HB.out)⟩
end Go.Proofs.Ytjfcilamkcfolaa.SizesWalk
