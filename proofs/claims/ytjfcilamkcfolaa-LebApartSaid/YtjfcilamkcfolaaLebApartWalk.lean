/- Of two unlike numbers neither's bytes begin with the other's: the walk of the law's own Go function. -/
import Derived.Test.YtjfcilamkcfolaaPLebBackx3
import Derived.Test.YtjfcilamkcfolaaLebCoreLebBack
import Derived.Deep.QuietTactic
import Derived.BigQuiet
import Derived.Outline
namespace Go.Proofs.Ytjfcilamkcfolaa.ApartWalk
open Go.RowKit Go.Proofs.Ytjfcilamkcfolaa.PLebBack Go.Proofs.YtjfcilamkcfolaaW.PrintWords Go.Proofs.YtjfcilamkcfolaaW.PrintLast Go.Proofs.YtjfcilamkcfolaaW.PrintMore
attribute [local go_sem] max2_int min2_int max_two min_two max_three min_three max_four min_four
set_option linter.unusedVariables false
set_option linter.unusedSimpArgs false
theorem bel {w w1 w2 : World} (h1 : Aside0 (Below w.heap.size w w1)) (h2 : Below w1.heap.size w1 w2) : Aside0 (Below w.heap.size w w2) := ⟨below_step h1.out h2⟩
set_option maxHeartbeats 4000000 in
set_option maxRecDepth 100000 in
theorem w_sa_ua_e (k : Nat) (a0 a1 : Int) (f : Int) (sa sb ua ub : ByteArray) (q : Bool) (hq : (a0 == a1) = q) (hex : Aside0 (oubliettelaw01_examples.f k = some true)) (hsa : Aside0 (leb_S.f k a0 = some sa)) (hsb : Aside0 (leb_S.f k a1 = some sb))
    (hua : Aside0 (leb_U.f k a0 = some (ua, 4))) (hub : Aside0 (leb_U.f k a1 = some (ub, f))) (h10 : sa.size ≤ 10) (h10b : sb.size ≤ 10) (hx : sa.size ≤ sb.size) (hy : ua.size ≤ ub.size) (h1 : (sa.toList == (sb.extract 0 sa.size).toList) = q) (w : World) :
    Calls Try.prog 4 #[.int .i64 a0, .int .i64 a1] w fun e w' => e = .returned (.bool true) ∧ Below w.heap.size w w' := by
  have HB := Aside0.mk (Below.refl w.heap.size w)
  go_enter Try.func4, Try.ntmps4
  go_wp2_with (first
    | (go_at_call 9; (with_reducible refine (oubliettelaw01_examples.calls k true _ hex.out).mono ?_); rintro e w1 ⟨rfl, hb⟩; replace HB := bel HB hb; clear hb)
    | (go_at_call 14; (with_reducible refine (leb_S.calls k a0 sa _ hsa.out).mono ?_); rintro e w1 ⟨rfl, hb⟩; replace HB := bel HB hb; clear hb)
    | (go_at_call 14; (with_reducible refine (leb_S.calls k a1 sb _ hsb.out).mono ?_); rintro e w1 ⟨rfl, hb⟩; replace HB := bel HB hb; clear hb)
    | (go_at_call 15; (with_reducible refine (leb_U.calls k a0 ua _ _ hua.out).mono ?_); rintro e w1 ⟨rfl, hb⟩; replace HB := bel HB hb; clear hb)
    | (go_at_call 15; (with_reducible refine (leb_U.calls k a1 ub _ _ hub.out).mono ?_); rintro e w1 ⟨rfl, hb⟩; replace HB := bel HB hb; clear hb))
  go_quiet (fail)
  go_wp2
  go_ret
  exact ⟨by first | rfl | (simp; done) | (simp [*]; done), by repeat (first | (with_reducible first | exact HB.out | apply below_alloc | apply pw_below_drewN | apply below_drew1) | exact HB.out)⟩
set_option maxHeartbeats 4000000 in
set_option maxRecDepth 100000 in
theorem w_sa_ua_f (k : Nat) (a0 a1 : Int) (sa sb ua ub : ByteArray) (q : Bool) (hq : (a0 == a1) = q) (hex : Aside0 (oubliettelaw01_examples.f k = some true)) (hsa : Aside0 (leb_S.f k a0 = some sa)) (hsb : Aside0 (leb_S.f k a1 = some sb))
    (hua : Aside0 (leb_U.f k a0 = some (ua, 0))) (hub : Aside0 (leb_U.f k a1 = some (ub, 4))) (h10 : sa.size ≤ 10) (h10b : sb.size ≤ 10) (hx : sa.size ≤ sb.size) (hy : ua.size ≤ ub.size) (h1 : (sa.toList == (sb.extract 0 sa.size).toList) = q) (w : World) :
    Calls Try.prog 4 #[.int .i64 a0, .int .i64 a1] w fun e w' => e = .returned (.bool true) ∧ Below w.heap.size w w' := by
  have HB := Aside0.mk (Below.refl w.heap.size w)
  go_enter Try.func4, Try.ntmps4
  go_wp2_with (first
    | (go_at_call 9; (with_reducible refine (oubliettelaw01_examples.calls k true _ hex.out).mono ?_); rintro e w1 ⟨rfl, hb⟩; replace HB := bel HB hb; clear hb)
    | (go_at_call 14; (with_reducible refine (leb_S.calls k a0 sa _ hsa.out).mono ?_); rintro e w1 ⟨rfl, hb⟩; replace HB := bel HB hb; clear hb)
    | (go_at_call 14; (with_reducible refine (leb_S.calls k a1 sb _ hsb.out).mono ?_); rintro e w1 ⟨rfl, hb⟩; replace HB := bel HB hb; clear hb)
    | (go_at_call 15; (with_reducible refine (leb_U.calls k a0 ua _ _ hua.out).mono ?_); rintro e w1 ⟨rfl, hb⟩; replace HB := bel HB hb; clear hb)
    | (go_at_call 15; (with_reducible refine (leb_U.calls k a1 ub _ _ hub.out).mono ?_); rintro e w1 ⟨rfl, hb⟩; replace HB := bel HB hb; clear hb))
  go_quiet (fail)
  go_wp2
  go_ret
  exact ⟨by first | rfl | (simp; done) | (simp [*]; done), by repeat (first | (with_reducible first | exact HB.out | apply below_alloc | apply pw_below_drewN | apply below_drew1) | exact HB.out)⟩
set_option maxHeartbeats 4000000 in
set_option maxRecDepth 100000 in
theorem w_sa_ua_g (k : Nat) (a0 a1 : Int) (sa sb ua ub : ByteArray) (q : Bool) (hq : (a0 == a1) = q) (hex : Aside0 (oubliettelaw01_examples.f k = some true)) (hsa : Aside0 (leb_S.f k a0 = some sa)) (hsb : Aside0 (leb_S.f k a1 = some sb))
    (hua : Aside0 (leb_U.f k a0 = some (ua, 0))) (hub : Aside0 (leb_U.f k a1 = some (ub, 0))) (h10 : sa.size ≤ 10) (h10b : sb.size ≤ 10) (hx : sa.size ≤ sb.size) (hy : ua.size ≤ ub.size) (h1 : (sa.toList == (sb.extract 0 sa.size).toList) = q) (h2 : (ua.toList == (ub.extract 0 ua.size).toList) = q) (w : World) :
    Calls Try.prog 4 #[.int .i64 a0, .int .i64 a1] w fun e w' => e = .returned (.bool true) ∧ Below w.heap.size w w' := by
  have HB := Aside0.mk (Below.refl w.heap.size w)
  go_enter Try.func4, Try.ntmps4
  go_wp2_with (first
    | (go_at_call 9; (with_reducible refine (oubliettelaw01_examples.calls k true _ hex.out).mono ?_); rintro e w1 ⟨rfl, hb⟩; replace HB := bel HB hb; clear hb)
    | (go_at_call 14; (with_reducible refine (leb_S.calls k a0 sa _ hsa.out).mono ?_); rintro e w1 ⟨rfl, hb⟩; replace HB := bel HB hb; clear hb)
    | (go_at_call 14; (with_reducible refine (leb_S.calls k a1 sb _ hsb.out).mono ?_); rintro e w1 ⟨rfl, hb⟩; replace HB := bel HB hb; clear hb)
    | (go_at_call 15; (with_reducible refine (leb_U.calls k a0 ua _ _ hua.out).mono ?_); rintro e w1 ⟨rfl, hb⟩; replace HB := bel HB hb; clear hb)
    | (go_at_call 15; (with_reducible refine (leb_U.calls k a1 ub _ _ hub.out).mono ?_); rintro e w1 ⟨rfl, hb⟩; replace HB := bel HB hb; clear hb))
  go_quiet (fail)
  go_wp2
  go_ret
  exact ⟨by first | rfl | (simp; done) | (simp [*]; done), by repeat (first | (with_reducible first | exact HB.out | apply below_alloc | apply pw_below_drewN | apply below_drew1) | exact HB.out)⟩
set_option maxHeartbeats 4000000 in
set_option maxRecDepth 100000 in
theorem w_sa_ub_e (k : Nat) (a0 a1 : Int) (f : Int) (sa sb ua ub : ByteArray) (q : Bool) (hq : (a0 == a1) = q) (hex : Aside0 (oubliettelaw01_examples.f k = some true)) (hsa : Aside0 (leb_S.f k a0 = some sa)) (hsb : Aside0 (leb_S.f k a1 = some sb))
    (hua : Aside0 (leb_U.f k a0 = some (ua, 4))) (hub : Aside0 (leb_U.f k a1 = some (ub, f))) (h10 : sa.size ≤ 10) (h10b : sb.size ≤ 10) (hx : sa.size ≤ sb.size) (hy : ub.size < ua.size) (h1 : (sa.toList == (sb.extract 0 sa.size).toList) = q) (w : World) :
    Calls Try.prog 4 #[.int .i64 a0, .int .i64 a1] w fun e w' => e = .returned (.bool true) ∧ Below w.heap.size w w' := by
  have HB := Aside0.mk (Below.refl w.heap.size w)
  go_enter Try.func4, Try.ntmps4
  go_wp2_with (first
    | (go_at_call 9; (with_reducible refine (oubliettelaw01_examples.calls k true _ hex.out).mono ?_); rintro e w1 ⟨rfl, hb⟩; replace HB := bel HB hb; clear hb)
    | (go_at_call 14; (with_reducible refine (leb_S.calls k a0 sa _ hsa.out).mono ?_); rintro e w1 ⟨rfl, hb⟩; replace HB := bel HB hb; clear hb)
    | (go_at_call 14; (with_reducible refine (leb_S.calls k a1 sb _ hsb.out).mono ?_); rintro e w1 ⟨rfl, hb⟩; replace HB := bel HB hb; clear hb)
    | (go_at_call 15; (with_reducible refine (leb_U.calls k a0 ua _ _ hua.out).mono ?_); rintro e w1 ⟨rfl, hb⟩; replace HB := bel HB hb; clear hb)
    | (go_at_call 15; (with_reducible refine (leb_U.calls k a1 ub _ _ hub.out).mono ?_); rintro e w1 ⟨rfl, hb⟩; replace HB := bel HB hb; clear hb))
  go_quiet (fail)
  go_wp2
  go_ret
  exact ⟨by first | rfl | (simp; done) | (simp [*]; done), by repeat (first | (with_reducible first | exact HB.out | apply below_alloc | apply pw_below_drewN | apply below_drew1) | exact HB.out)⟩
set_option maxHeartbeats 4000000 in
set_option maxRecDepth 100000 in
theorem w_sa_ub_f (k : Nat) (a0 a1 : Int) (sa sb ua ub : ByteArray) (q : Bool) (hq : (a0 == a1) = q) (hex : Aside0 (oubliettelaw01_examples.f k = some true)) (hsa : Aside0 (leb_S.f k a0 = some sa)) (hsb : Aside0 (leb_S.f k a1 = some sb))
    (hua : Aside0 (leb_U.f k a0 = some (ua, 0))) (hub : Aside0 (leb_U.f k a1 = some (ub, 4))) (h10 : sa.size ≤ 10) (h10b : sb.size ≤ 10) (hx : sa.size ≤ sb.size) (hy : ub.size < ua.size) (h1 : (sa.toList == (sb.extract 0 sa.size).toList) = q) (w : World) :
    Calls Try.prog 4 #[.int .i64 a0, .int .i64 a1] w fun e w' => e = .returned (.bool true) ∧ Below w.heap.size w w' := by
  have HB := Aside0.mk (Below.refl w.heap.size w)
  go_enter Try.func4, Try.ntmps4
  go_wp2_with (first
    | (go_at_call 9; (with_reducible refine (oubliettelaw01_examples.calls k true _ hex.out).mono ?_); rintro e w1 ⟨rfl, hb⟩; replace HB := bel HB hb; clear hb)
    | (go_at_call 14; (with_reducible refine (leb_S.calls k a0 sa _ hsa.out).mono ?_); rintro e w1 ⟨rfl, hb⟩; replace HB := bel HB hb; clear hb)
    | (go_at_call 14; (with_reducible refine (leb_S.calls k a1 sb _ hsb.out).mono ?_); rintro e w1 ⟨rfl, hb⟩; replace HB := bel HB hb; clear hb)
    | (go_at_call 15; (with_reducible refine (leb_U.calls k a0 ua _ _ hua.out).mono ?_); rintro e w1 ⟨rfl, hb⟩; replace HB := bel HB hb; clear hb)
    | (go_at_call 15; (with_reducible refine (leb_U.calls k a1 ub _ _ hub.out).mono ?_); rintro e w1 ⟨rfl, hb⟩; replace HB := bel HB hb; clear hb))
  go_quiet (fail)
  go_wp2
  go_ret
  exact ⟨by first | rfl | (simp; done) | (simp [*]; done), by repeat (first | (with_reducible first | exact HB.out | apply below_alloc | apply pw_below_drewN | apply below_drew1) | exact HB.out)⟩
set_option maxHeartbeats 4000000 in
set_option maxRecDepth 100000 in
theorem w_sa_ub_g (k : Nat) (a0 a1 : Int) (sa sb ua ub : ByteArray) (q : Bool) (hq : (a0 == a1) = q) (hex : Aside0 (oubliettelaw01_examples.f k = some true)) (hsa : Aside0 (leb_S.f k a0 = some sa)) (hsb : Aside0 (leb_S.f k a1 = some sb))
    (hua : Aside0 (leb_U.f k a0 = some (ua, 0))) (hub : Aside0 (leb_U.f k a1 = some (ub, 0))) (h10 : sa.size ≤ 10) (h10b : sb.size ≤ 10) (hx : sa.size ≤ sb.size) (hy : ub.size < ua.size) (h1 : (sa.toList == (sb.extract 0 sa.size).toList) = q) (h2 : ((ua.extract 0 ub.size).toList == ub.toList) = q) (w : World) :
    Calls Try.prog 4 #[.int .i64 a0, .int .i64 a1] w fun e w' => e = .returned (.bool true) ∧ Below w.heap.size w w' := by
  have HB := Aside0.mk (Below.refl w.heap.size w)
  go_enter Try.func4, Try.ntmps4
  go_wp2_with (first
    | (go_at_call 9; (with_reducible refine (oubliettelaw01_examples.calls k true _ hex.out).mono ?_); rintro e w1 ⟨rfl, hb⟩; replace HB := bel HB hb; clear hb)
    | (go_at_call 14; (with_reducible refine (leb_S.calls k a0 sa _ hsa.out).mono ?_); rintro e w1 ⟨rfl, hb⟩; replace HB := bel HB hb; clear hb)
    | (go_at_call 14; (with_reducible refine (leb_S.calls k a1 sb _ hsb.out).mono ?_); rintro e w1 ⟨rfl, hb⟩; replace HB := bel HB hb; clear hb)
    | (go_at_call 15; (with_reducible refine (leb_U.calls k a0 ua _ _ hua.out).mono ?_); rintro e w1 ⟨rfl, hb⟩; replace HB := bel HB hb; clear hb)
    | (go_at_call 15; (with_reducible refine (leb_U.calls k a1 ub _ _ hub.out).mono ?_); rintro e w1 ⟨rfl, hb⟩; replace HB := bel HB hb; clear hb))
  go_quiet (fail)
  go_wp2
  go_ret
  exact ⟨by first | rfl | (simp; done) | (simp [*]; done), by repeat (first | (with_reducible first | exact HB.out | apply below_alloc | apply pw_below_drewN | apply below_drew1) | exact HB.out)⟩
set_option maxHeartbeats 4000000 in
set_option maxRecDepth 100000 in
theorem w_sb_ua_e (k : Nat) (a0 a1 : Int) (f : Int) (sa sb ua ub : ByteArray) (q : Bool) (hq : (a0 == a1) = q) (hex : Aside0 (oubliettelaw01_examples.f k = some true)) (hsa : Aside0 (leb_S.f k a0 = some sa)) (hsb : Aside0 (leb_S.f k a1 = some sb))
    (hua : Aside0 (leb_U.f k a0 = some (ua, 4))) (hub : Aside0 (leb_U.f k a1 = some (ub, f))) (h10 : sa.size ≤ 10) (h10b : sb.size ≤ 10) (hx : sb.size < sa.size) (hy : ua.size ≤ ub.size) (h1 : ((sa.extract 0 sb.size).toList == sb.toList) = q) (w : World) :
    Calls Try.prog 4 #[.int .i64 a0, .int .i64 a1] w fun e w' => e = .returned (.bool true) ∧ Below w.heap.size w w' := by
  have HB := Aside0.mk (Below.refl w.heap.size w)
  go_enter Try.func4, Try.ntmps4
  go_wp2_with (first
    | (go_at_call 9; (with_reducible refine (oubliettelaw01_examples.calls k true _ hex.out).mono ?_); rintro e w1 ⟨rfl, hb⟩; replace HB := bel HB hb; clear hb)
    | (go_at_call 14; (with_reducible refine (leb_S.calls k a0 sa _ hsa.out).mono ?_); rintro e w1 ⟨rfl, hb⟩; replace HB := bel HB hb; clear hb)
    | (go_at_call 14; (with_reducible refine (leb_S.calls k a1 sb _ hsb.out).mono ?_); rintro e w1 ⟨rfl, hb⟩; replace HB := bel HB hb; clear hb)
    | (go_at_call 15; (with_reducible refine (leb_U.calls k a0 ua _ _ hua.out).mono ?_); rintro e w1 ⟨rfl, hb⟩; replace HB := bel HB hb; clear hb)
    | (go_at_call 15; (with_reducible refine (leb_U.calls k a1 ub _ _ hub.out).mono ?_); rintro e w1 ⟨rfl, hb⟩; replace HB := bel HB hb; clear hb))
  go_quiet (fail)
  go_wp2
  go_ret
  exact ⟨by first | rfl | (simp; done) | (simp [*]; done), by repeat (first | (with_reducible first | exact HB.out | apply below_alloc | apply pw_below_drewN | apply below_drew1) | exact HB.out)⟩
set_option maxHeartbeats 4000000 in
set_option maxRecDepth 100000 in
theorem w_sb_ua_f (k : Nat) (a0 a1 : Int) (sa sb ua ub : ByteArray) (q : Bool) (hq : (a0 == a1) = q) (hex : Aside0 (oubliettelaw01_examples.f k = some true)) (hsa : Aside0 (leb_S.f k a0 = some sa)) (hsb : Aside0 (leb_S.f k a1 = some sb))
    (hua : Aside0 (leb_U.f k a0 = some (ua, 0))) (hub : Aside0 (leb_U.f k a1 = some (ub, 4))) (h10 : sa.size ≤ 10) (h10b : sb.size ≤ 10) (hx : sb.size < sa.size) (hy : ua.size ≤ ub.size) (h1 : ((sa.extract 0 sb.size).toList == sb.toList) = q) (w : World) :
    Calls Try.prog 4 #[.int .i64 a0, .int .i64 a1] w fun e w' => e = .returned (.bool true) ∧ Below w.heap.size w w' := by
  have HB := Aside0.mk (Below.refl w.heap.size w)
  go_enter Try.func4, Try.ntmps4
  go_wp2_with (first
    | (go_at_call 9; (with_reducible refine (oubliettelaw01_examples.calls k true _ hex.out).mono ?_); rintro e w1 ⟨rfl, hb⟩; replace HB := bel HB hb; clear hb)
    | (go_at_call 14; (with_reducible refine (leb_S.calls k a0 sa _ hsa.out).mono ?_); rintro e w1 ⟨rfl, hb⟩; replace HB := bel HB hb; clear hb)
    | (go_at_call 14; (with_reducible refine (leb_S.calls k a1 sb _ hsb.out).mono ?_); rintro e w1 ⟨rfl, hb⟩; replace HB := bel HB hb; clear hb)
    | (go_at_call 15; (with_reducible refine (leb_U.calls k a0 ua _ _ hua.out).mono ?_); rintro e w1 ⟨rfl, hb⟩; replace HB := bel HB hb; clear hb)
    | (go_at_call 15; (with_reducible refine (leb_U.calls k a1 ub _ _ hub.out).mono ?_); rintro e w1 ⟨rfl, hb⟩; replace HB := bel HB hb; clear hb))
  go_quiet (fail)
  go_wp2
  go_ret
  exact ⟨by first | rfl | (simp; done) | (simp [*]; done), by repeat (first | (with_reducible first | exact HB.out | apply below_alloc | apply pw_below_drewN | apply below_drew1) | exact HB.out)⟩
set_option maxHeartbeats 4000000 in
set_option maxRecDepth 100000 in
theorem w_sb_ua_g (k : Nat) (a0 a1 : Int) (sa sb ua ub : ByteArray) (q : Bool) (hq : (a0 == a1) = q) (hex : Aside0 (oubliettelaw01_examples.f k = some true)) (hsa : Aside0 (leb_S.f k a0 = some sa)) (hsb : Aside0 (leb_S.f k a1 = some sb))
    (hua : Aside0 (leb_U.f k a0 = some (ua, 0))) (hub : Aside0 (leb_U.f k a1 = some (ub, 0))) (h10 : sa.size ≤ 10) (h10b : sb.size ≤ 10) (hx : sb.size < sa.size) (hy : ua.size ≤ ub.size) (h1 : ((sa.extract 0 sb.size).toList == sb.toList) = q) (h2 : (ua.toList == (ub.extract 0 ua.size).toList) = q) (w : World) :
    Calls Try.prog 4 #[.int .i64 a0, .int .i64 a1] w fun e w' => e = .returned (.bool true) ∧ Below w.heap.size w w' := by
  have HB := Aside0.mk (Below.refl w.heap.size w)
  go_enter Try.func4, Try.ntmps4
  go_wp2_with (first
    | (go_at_call 9; (with_reducible refine (oubliettelaw01_examples.calls k true _ hex.out).mono ?_); rintro e w1 ⟨rfl, hb⟩; replace HB := bel HB hb; clear hb)
    | (go_at_call 14; (with_reducible refine (leb_S.calls k a0 sa _ hsa.out).mono ?_); rintro e w1 ⟨rfl, hb⟩; replace HB := bel HB hb; clear hb)
    | (go_at_call 14; (with_reducible refine (leb_S.calls k a1 sb _ hsb.out).mono ?_); rintro e w1 ⟨rfl, hb⟩; replace HB := bel HB hb; clear hb)
    | (go_at_call 15; (with_reducible refine (leb_U.calls k a0 ua _ _ hua.out).mono ?_); rintro e w1 ⟨rfl, hb⟩; replace HB := bel HB hb; clear hb)
    | (go_at_call 15; (with_reducible refine (leb_U.calls k a1 ub _ _ hub.out).mono ?_); rintro e w1 ⟨rfl, hb⟩; replace HB := bel HB hb; clear hb))
  go_quiet (fail)
  go_wp2
  go_ret
  exact ⟨by first | rfl | (simp; done) | (simp [*]; done), by repeat (first | (with_reducible first | exact HB.out | apply below_alloc | apply pw_below_drewN | apply below_drew1) | exact HB.out)⟩
set_option maxHeartbeats 4000000 in
set_option maxRecDepth 100000 in
theorem w_sb_ub_e (k : Nat) (a0 a1 : Int) (f : Int) (sa sb ua ub : ByteArray) (q : Bool) (hq : (a0 == a1) = q) (hex : Aside0 (oubliettelaw01_examples.f k = some true)) (hsa : Aside0 (leb_S.f k a0 = some sa)) (hsb : Aside0 (leb_S.f k a1 = some sb))
    (hua : Aside0 (leb_U.f k a0 = some (ua, 4))) (hub : Aside0 (leb_U.f k a1 = some (ub, f))) (h10 : sa.size ≤ 10) (h10b : sb.size ≤ 10) (hx : sb.size < sa.size) (hy : ub.size < ua.size) (h1 : ((sa.extract 0 sb.size).toList == sb.toList) = q) (w : World) :
    Calls Try.prog 4 #[.int .i64 a0, .int .i64 a1] w fun e w' => e = .returned (.bool true) ∧ Below w.heap.size w w' := by
  have HB := Aside0.mk (Below.refl w.heap.size w)
  go_enter Try.func4, Try.ntmps4
  go_wp2_with (first
    | (go_at_call 9; (with_reducible refine (oubliettelaw01_examples.calls k true _ hex.out).mono ?_); rintro e w1 ⟨rfl, hb⟩; replace HB := bel HB hb; clear hb)
    | (go_at_call 14; (with_reducible refine (leb_S.calls k a0 sa _ hsa.out).mono ?_); rintro e w1 ⟨rfl, hb⟩; replace HB := bel HB hb; clear hb)
    | (go_at_call 14; (with_reducible refine (leb_S.calls k a1 sb _ hsb.out).mono ?_); rintro e w1 ⟨rfl, hb⟩; replace HB := bel HB hb; clear hb)
    | (go_at_call 15; (with_reducible refine (leb_U.calls k a0 ua _ _ hua.out).mono ?_); rintro e w1 ⟨rfl, hb⟩; replace HB := bel HB hb; clear hb)
    | (go_at_call 15; (with_reducible refine (leb_U.calls k a1 ub _ _ hub.out).mono ?_); rintro e w1 ⟨rfl, hb⟩; replace HB := bel HB hb; clear hb))
  go_quiet (fail)
  go_wp2
  go_ret
  exact ⟨by first | rfl | (simp; done) | (simp [*]; done), by repeat (first | (with_reducible first | exact HB.out | apply below_alloc | apply pw_below_drewN | apply below_drew1) | exact HB.out)⟩
set_option maxHeartbeats 4000000 in
set_option maxRecDepth 100000 in
theorem w_sb_ub_f (k : Nat) (a0 a1 : Int) (sa sb ua ub : ByteArray) (q : Bool) (hq : (a0 == a1) = q) (hex : Aside0 (oubliettelaw01_examples.f k = some true)) (hsa : Aside0 (leb_S.f k a0 = some sa)) (hsb : Aside0 (leb_S.f k a1 = some sb))
    (hua : Aside0 (leb_U.f k a0 = some (ua, 0))) (hub : Aside0 (leb_U.f k a1 = some (ub, 4))) (h10 : sa.size ≤ 10) (h10b : sb.size ≤ 10) (hx : sb.size < sa.size) (hy : ub.size < ua.size) (h1 : ((sa.extract 0 sb.size).toList == sb.toList) = q) (w : World) :
    Calls Try.prog 4 #[.int .i64 a0, .int .i64 a1] w fun e w' => e = .returned (.bool true) ∧ Below w.heap.size w w' := by
  have HB := Aside0.mk (Below.refl w.heap.size w)
  go_enter Try.func4, Try.ntmps4
  go_wp2_with (first
    | (go_at_call 9; (with_reducible refine (oubliettelaw01_examples.calls k true _ hex.out).mono ?_); rintro e w1 ⟨rfl, hb⟩; replace HB := bel HB hb; clear hb)
    | (go_at_call 14; (with_reducible refine (leb_S.calls k a0 sa _ hsa.out).mono ?_); rintro e w1 ⟨rfl, hb⟩; replace HB := bel HB hb; clear hb)
    | (go_at_call 14; (with_reducible refine (leb_S.calls k a1 sb _ hsb.out).mono ?_); rintro e w1 ⟨rfl, hb⟩; replace HB := bel HB hb; clear hb)
    | (go_at_call 15; (with_reducible refine (leb_U.calls k a0 ua _ _ hua.out).mono ?_); rintro e w1 ⟨rfl, hb⟩; replace HB := bel HB hb; clear hb)
    | (go_at_call 15; (with_reducible refine (leb_U.calls k a1 ub _ _ hub.out).mono ?_); rintro e w1 ⟨rfl, hb⟩; replace HB := bel HB hb; clear hb))
  go_quiet (fail)
  go_wp2
  go_ret
  exact ⟨by first | rfl | (simp; done) | (simp [*]; done), by repeat (first | (with_reducible first | exact HB.out | apply below_alloc | apply pw_below_drewN | apply below_drew1) | exact HB.out)⟩
set_option maxHeartbeats 4000000 in
set_option maxRecDepth 100000 in
theorem w_sb_ub_g (k : Nat) (a0 a1 : Int) (sa sb ua ub : ByteArray) (q : Bool) (hq : (a0 == a1) = q) (hex : Aside0 (oubliettelaw01_examples.f k = some true)) (hsa : Aside0 (leb_S.f k a0 = some sa)) (hsb : Aside0 (leb_S.f k a1 = some sb))
    (hua : Aside0 (leb_U.f k a0 = some (ua, 0))) (hub : Aside0 (leb_U.f k a1 = some (ub, 0))) (h10 : sa.size ≤ 10) (h10b : sb.size ≤ 10) (hx : sb.size < sa.size) (hy : ub.size < ua.size) (h1 : ((sa.extract 0 sb.size).toList == sb.toList) = q) (h2 : ((ua.extract 0 ub.size).toList == ub.toList) = q) (w : World) :
    Calls Try.prog 4 #[.int .i64 a0, .int .i64 a1] w fun e w' => e = .returned (.bool true) ∧ Below w.heap.size w w' := by
  have HB := Aside0.mk (Below.refl w.heap.size w)
  go_enter Try.func4, Try.ntmps4
  go_wp2_with (first
    | (go_at_call 9; (with_reducible refine (oubliettelaw01_examples.calls k true _ hex.out).mono ?_); rintro e w1 ⟨rfl, hb⟩; replace HB := bel HB hb; clear hb)
    | (go_at_call 14; (with_reducible refine (leb_S.calls k a0 sa _ hsa.out).mono ?_); rintro e w1 ⟨rfl, hb⟩; replace HB := bel HB hb; clear hb)
    | (go_at_call 14; (with_reducible refine (leb_S.calls k a1 sb _ hsb.out).mono ?_); rintro e w1 ⟨rfl, hb⟩; replace HB := bel HB hb; clear hb)
    | (go_at_call 15; (with_reducible refine (leb_U.calls k a0 ua _ _ hua.out).mono ?_); rintro e w1 ⟨rfl, hb⟩; replace HB := bel HB hb; clear hb)
    | (go_at_call 15; (with_reducible refine (leb_U.calls k a1 ub _ _ hub.out).mono ?_); rintro e w1 ⟨rfl, hb⟩; replace HB := bel HB hb; clear hb))
  go_quiet (fail)
  go_wp2
  go_ret
  exact ⟨by first | rfl | (simp; done) | (simp [*]; done), by repeat (first | (with_reducible first | exact HB.out | apply below_alloc | apply pw_below_drewN | apply below_drew1) | exact HB.out)⟩
end Go.Proofs.Ytjfcilamkcfolaa.ApartWalk
