/-
  No cell of these rows narrows 'for every input' (looked for: loops, veiled, ifaces, maps, wideKeys, modest, calm, conditions, laid).
  DERIVED. THE GIVEN ROWS OF THIS SEAT. 9 by the template 'for every input the law returns true; each argument reads behind the call as it read before'; 0 by the template 'total and deterministic' (their statements: YtmmbhhapkgnlfaaTotals.lean).
  GIVEN WITH THE SEED: the statements are not yours to turn. If you find one false, say at which input.
  Laid BY PROGRAM, IN A SANDBOX (cutbox-rows.mjs): the forced cells as the released guide's own fill.sh prints them over the translation 4a5942dafaed2e99… (all of the seat's roots in one cut). By AI agents, Wed Nov 11 2026. No macro, syntax, notation, axiom, sorry.
-/
import Derived.Test.YtmmbhhapkgnlfaaChecked
import GoSem.Claim
import GoSem.ClaimJoined
import GoSem.ClaimMapViews
import Derived.JoinedTies
import Derived.KernelRfl
namespace Go.Proofs.Ytmmbhhapkgnlfaa
/- THE CELL 'sum', in the pinned program and in every row, IS THE sha256 OF THE DUMP (.gsa) THAT YtmmbhhapkgnlfaaProg.lean LOADS. Nothing in Lean hashes anything: it is a label: what it is worth is what the hold of that sum in a sandbox is worth. -/
noncomputable def Try.pinned : Pinned := { name := "ytmmbhhapkgnlfaa", sum := "4a5942dafaed2e994d828f4739fa3c0e4f6a98f301086ffd9637775ddfc159f7", checked := Try.checked }
namespace Rows
def none {H : Type} : Left H := { results := [], args := [] }

/-- 'oubliettelaw10.FlagsReckon': WHATEVER THE INPUT: true; the input reads as it did. -/
def flagsReckonSpec : ChangeSpec := { name := "flagsReckon", fn := fun _ => fun
  | [d1, d2, d3, d4] => { results := [.lit (.bool true)], args := [d1, d2, d3, d4] }
  | _ => none }
def flagsReckonRow : OpenClaim := { program := "ytmmbhhapkgnlfaa", sum := "4a5942dafaed2e994d828f4739fa3c0e4f6a98f301086ffd9637775ddfc159f7", func := "oubliette/oubliettelaw10.FlagsReckon", spec := "flagsReckon", named := ["math/bits.divideError", "math/bits.overflowError"], apart := false }
def FlagsReckonSaid : Prop := flagsReckonRow.holds Try.pinned (OpenSpec.ofChange flagsReckonSpec)

/-- ITS FALSE NEIGHBOUR: 'it returns false'. Refute it at one input. -/
def flagsReckonWrong : ChangeSpec := { name := "flagsReckon", fn := fun _ => fun
  | [d1, d2, d3, d4] => { results := [.lit (.bool false)], args := [d1, d2, d3, d4] }
  | _ => none }
def FlagsReckonWrongFalsely : Prop := flagsReckonRow.holds Try.pinned (OpenSpec.ofChange flagsReckonWrong)

/-- 'oubliettelaw10.FlagsDivide': WHATEVER THE INPUT: true; the input reads as it did. -/
def flagsDivideSpec : ChangeSpec := { name := "flagsDivide", fn := fun _ => fun
  | [d1, d2, d3, d4] => { results := [.lit (.bool true)], args := [d1, d2, d3, d4] }
  | _ => none }
def flagsDivideRow : OpenClaim := { program := "ytmmbhhapkgnlfaa", sum := "4a5942dafaed2e994d828f4739fa3c0e4f6a98f301086ffd9637775ddfc159f7", func := "oubliette/oubliettelaw10.FlagsDivide", spec := "flagsDivide", named := ["math/bits.divideError", "math/bits.overflowError"], apart := false }
def FlagsDivideSaid : Prop := flagsDivideRow.holds Try.pinned (OpenSpec.ofChange flagsDivideSpec)

/-- ITS FALSE NEIGHBOUR: 'it returns false'. Refute it at one input. -/
def flagsDivideWrong : ChangeSpec := { name := "flagsDivide", fn := fun _ => fun
  | [d1, d2, d3, d4] => { results := [.lit (.bool false)], args := [d1, d2, d3, d4] }
  | _ => none }
def FlagsDivideWrongFalsely : Prop := flagsDivideRow.holds Try.pinned (OpenSpec.ofChange flagsDivideWrong)

/-- 'oubliettelaw10.FlagsSums': WHATEVER THE INPUT: true; the input reads as it did. -/
def flagsSumsSpec : ChangeSpec := { name := "flagsSums", fn := fun _ => fun
  | [d1, d2, d3] => { results := [.lit (.bool true)], args := [d1, d2, d3] }
  | _ => none }
def flagsSumsRow : OpenClaim := { program := "ytmmbhhapkgnlfaa", sum := "4a5942dafaed2e994d828f4739fa3c0e4f6a98f301086ffd9637775ddfc159f7", func := "oubliette/oubliettelaw10.FlagsSums", spec := "flagsSums", named := ["math/bits.divideError", "math/bits.overflowError"], apart := false }
def FlagsSumsSaid : Prop := flagsSumsRow.holds Try.pinned (OpenSpec.ofChange flagsSumsSpec)

/-- ITS FALSE NEIGHBOUR: 'it returns false'. Refute it at one input. -/
def flagsSumsWrong : ChangeSpec := { name := "flagsSums", fn := fun _ => fun
  | [d1, d2, d3] => { results := [.lit (.bool false)], args := [d1, d2, d3] }
  | _ => none }
def FlagsSumsWrongFalsely : Prop := flagsSumsRow.holds Try.pinned (OpenSpec.ofChange flagsSumsWrong)

/-- 'oubliettelaw10.FlagsDivides': WHATEVER THE INPUT: true; the input reads as it did. -/
def flagsDividesSpec : ChangeSpec := { name := "flagsDivides", fn := fun _ => fun
  | [d1, d2, d3] => { results := [.lit (.bool true)], args := [d1, d2, d3] }
  | _ => none }
def flagsDividesRow : OpenClaim := { program := "ytmmbhhapkgnlfaa", sum := "4a5942dafaed2e994d828f4739fa3c0e4f6a98f301086ffd9637775ddfc159f7", func := "oubliette/oubliettelaw10.FlagsDivides", spec := "flagsDivides", named := ["math/bits.divideError", "math/bits.overflowError"], apart := false }
def FlagsDividesSaid : Prop := flagsDividesRow.holds Try.pinned (OpenSpec.ofChange flagsDividesSpec)

/-- ITS FALSE NEIGHBOUR: 'it returns false'. Refute it at one input. -/
def flagsDividesWrong : ChangeSpec := { name := "flagsDivides", fn := fun _ => fun
  | [d1, d2, d3] => { results := [.lit (.bool false)], args := [d1, d2, d3] }
  | _ => none }
def FlagsDividesWrongFalsely : Prop := flagsDividesRow.holds Try.pinned (OpenSpec.ofChange flagsDividesWrong)

/-- 'oubliettelaw10.FlagsCarry': WHATEVER THE INPUT: true; the input reads as it did. -/
def flagsCarrySpec : ChangeSpec := { name := "flagsCarry", fn := fun _ => fun
  | [d1, d2, d3] => { results := [.lit (.bool true)], args := [d1, d2, d3] }
  | _ => none }
def flagsCarryRow : OpenClaim := { program := "ytmmbhhapkgnlfaa", sum := "4a5942dafaed2e994d828f4739fa3c0e4f6a98f301086ffd9637775ddfc159f7", func := "oubliette/oubliettelaw10.FlagsCarry", spec := "flagsCarry", named := ["math/bits.divideError", "math/bits.overflowError"], apart := false }
def FlagsCarrySaid : Prop := flagsCarryRow.holds Try.pinned (OpenSpec.ofChange flagsCarrySpec)

/-- ITS FALSE NEIGHBOUR: 'it returns false'. Refute it at one input. -/
def flagsCarryWrong : ChangeSpec := { name := "flagsCarry", fn := fun _ => fun
  | [d1, d2, d3] => { results := [.lit (.bool false)], args := [d1, d2, d3] }
  | _ => none }
def FlagsCarryWrongFalsely : Prop := flagsCarryRow.holds Try.pinned (OpenSpec.ofChange flagsCarryWrong)

/-- 'oubliettelaw10.FlagsHold': WHATEVER THE INPUT: true; the input reads as it did. -/
def flagsHoldSpec : ChangeSpec := { name := "flagsHold", fn := fun _ => fun
  | [d1, d2, d3, d4, d5] => { results := [.lit (.bool true)], args := [d1, d2, d3, d4, d5] }
  | _ => none }
def flagsHoldRow : OpenClaim := { program := "ytmmbhhapkgnlfaa", sum := "4a5942dafaed2e994d828f4739fa3c0e4f6a98f301086ffd9637775ddfc159f7", func := "oubliette/oubliettelaw10.FlagsHold", spec := "flagsHold", named := ["math/bits.divideError", "math/bits.overflowError"], apart := false }
def FlagsHoldSaid : Prop := flagsHoldRow.holds Try.pinned (OpenSpec.ofChange flagsHoldSpec)

/-- ITS FALSE NEIGHBOUR: 'it returns false'. Refute it at one input. -/
def flagsHoldWrong : ChangeSpec := { name := "flagsHold", fn := fun _ => fun
  | [d1, d2, d3, d4, d5] => { results := [.lit (.bool false)], args := [d1, d2, d3, d4, d5] }
  | _ => none }
def FlagsHoldWrongFalsely : Prop := flagsHoldRow.holds Try.pinned (OpenSpec.ofChange flagsHoldWrong)

/-- 'oubliettelaw10.FlagsCompare': WHATEVER THE INPUT: true; the input reads as it did. -/
def flagsCompareSpec : ChangeSpec := { name := "flagsCompare", fn := fun _ => fun
  | [d1, d2, d3] => { results := [.lit (.bool true)], args := [d1, d2, d3] }
  | _ => none }
def flagsCompareRow : OpenClaim := { program := "ytmmbhhapkgnlfaa", sum := "4a5942dafaed2e994d828f4739fa3c0e4f6a98f301086ffd9637775ddfc159f7", func := "oubliette/oubliettelaw10.FlagsCompare", spec := "flagsCompare", named := ["math/bits.divideError", "math/bits.overflowError"], apart := false }
def FlagsCompareSaid : Prop := flagsCompareRow.holds Try.pinned (OpenSpec.ofChange flagsCompareSpec)

/-- ITS FALSE NEIGHBOUR: 'it returns false'. Refute it at one input. -/
def flagsCompareWrong : ChangeSpec := { name := "flagsCompare", fn := fun _ => fun
  | [d1, d2, d3] => { results := [.lit (.bool false)], args := [d1, d2, d3] }
  | _ => none }
def FlagsCompareWrongFalsely : Prop := flagsCompareRow.holds Try.pinned (OpenSpec.ofChange flagsCompareWrong)

/-- 'oubliettelaw10.FlagsShift': WHATEVER THE INPUT: true; the input reads as it did. -/
def flagsShiftSpec : ChangeSpec := { name := "flagsShift", fn := fun _ => fun
  | [d1, d2, d3, d4] => { results := [.lit (.bool true)], args := [d1, d2, d3, d4] }
  | _ => none }
def flagsShiftRow : OpenClaim := { program := "ytmmbhhapkgnlfaa", sum := "4a5942dafaed2e994d828f4739fa3c0e4f6a98f301086ffd9637775ddfc159f7", func := "oubliette/oubliettelaw10.FlagsShift", spec := "flagsShift", unfollowed := true, recurses := true, named := ["math/bits.divideError", "math/bits.overflowError"], apart := false }
def FlagsShiftSaid : Prop := flagsShiftRow.holds Try.pinned (OpenSpec.ofChange flagsShiftSpec)

/-- ITS FALSE NEIGHBOUR: 'it returns false'. Refute it at one input. -/
def flagsShiftWrong : ChangeSpec := { name := "flagsShift", fn := fun _ => fun
  | [d1, d2, d3, d4] => { results := [.lit (.bool false)], args := [d1, d2, d3, d4] }
  | _ => none }
def FlagsShiftWrongFalsely : Prop := flagsShiftRow.holds Try.pinned (OpenSpec.ofChange flagsShiftWrong)

/-- 'oubliettelaw10.FlagsTurns': WHATEVER THE INPUT: true; the input reads as it did. -/
def flagsTurnsSpec : ChangeSpec := { name := "flagsTurns", fn := fun _ => fun
  | [d1, d2, d3] => { results := [.lit (.bool true)], args := [d1, d2, d3] }
  | _ => none }
def flagsTurnsRow : OpenClaim := { program := "ytmmbhhapkgnlfaa", sum := "4a5942dafaed2e994d828f4739fa3c0e4f6a98f301086ffd9637775ddfc159f7", func := "oubliette/oubliettelaw10.FlagsTurns", spec := "flagsTurns", unfollowed := true, recurses := true, named := ["math/bits.divideError", "math/bits.overflowError"], apart := false }
def FlagsTurnsSaid : Prop := flagsTurnsRow.holds Try.pinned (OpenSpec.ofChange flagsTurnsSpec)

/-- ITS FALSE NEIGHBOUR: 'it returns false'. Refute it at one input. -/
def flagsTurnsWrong : ChangeSpec := { name := "flagsTurns", fn := fun _ => fun
  | [d1, d2, d3] => { results := [.lit (.bool false)], args := [d1, d2, d3] }
  | _ => none }
def FlagsTurnsWrongFalsely : Prop := flagsTurnsRow.holds Try.pinned (OpenSpec.ofChange flagsTurnsWrong)

/- THE SECOND FORM. 'bulk': how many values and letters a reading holds, each counted each time it is reached (what is shared counts as often as it is met; a slice's spare places count too). A statement '..UptoSaid' is the law's where the arguments, and the package variables that the reading takes, are together of bulk at most 1048576: NARROWER than '..Said'. Prove '..Said' where nothing that the law and all that it calls make is longer than what came in: it says more and counts as full. Else prove '..UptoSaid'. A law counts once. -/
mutual
def uptoBulk {H : Type} : DataW H → Nat
  | .lit (.string bytes) => bytes.length + 1
  | .lit _ => 1
  | .nil => 1
  | .ptr d => uptoBulk d + 1
  | .slice elems spare => uptoBulkAll elems + uptoBulkAll spare + 1
  | .agg parts => uptoBulkAll parts + 1
  | .iface _ d => uptoBulk d + 1
  | .map entries => uptoBulkEntries entries + 1
  | .held _ => 1
def uptoBulkAll {H : Type} : List (DataW H) → Nat
  | [] => 0
  | d :: r => uptoBulk d + uptoBulkAll r
def uptoBulkEntries {H : Type} : List (Lit × DataW H) → Nat
  | [] => 0
  | x :: r => uptoBulkEntry x + uptoBulkEntries r
def uptoBulkEntry {H : Type} : Lit × DataW H → Nat
  | (.string bytes, d) => bytes.length + uptoBulk d + 1
  | (_, d) => uptoBulk d + 1
 end
def uptoSmall : (H : Type) → List (DataW H) → Bool := fun _ ds => decide (uptoBulkAll ds ≤ 1048576)
def OpenSpec.upto (s : _root_.Go.ChangeSpec) : _root_.Go.OpenSpec := { _root_.Go.OpenSpec.ofChange s with cond := some uptoSmall }

/-- 'oubliettelaw10.FlagsReckon', WHERE WHAT IT READS IS OF BULK AT MOST 1048576: true; the input reads as it did. -/
def flagsReckonUptoRow : OpenClaim := { program := "ytmmbhhapkgnlfaa", sum := "4a5942dafaed2e994d828f4739fa3c0e4f6a98f301086ffd9637775ddfc159f7", func := "oubliette/oubliettelaw10.FlagsReckon", spec := "flagsReckon", named := ["math/bits.divideError", "math/bits.overflowError"], apart := false, narrowed := true }
def FlagsReckonUptoSaid : Prop := flagsReckonUptoRow.holds Try.pinned (OpenSpec.upto flagsReckonSpec)

/-- 'oubliettelaw10.FlagsDivide', WHERE WHAT IT READS IS OF BULK AT MOST 1048576: true; the input reads as it did. -/
def flagsDivideUptoRow : OpenClaim := { program := "ytmmbhhapkgnlfaa", sum := "4a5942dafaed2e994d828f4739fa3c0e4f6a98f301086ffd9637775ddfc159f7", func := "oubliette/oubliettelaw10.FlagsDivide", spec := "flagsDivide", named := ["math/bits.divideError", "math/bits.overflowError"], apart := false, narrowed := true }
def FlagsDivideUptoSaid : Prop := flagsDivideUptoRow.holds Try.pinned (OpenSpec.upto flagsDivideSpec)

/-- 'oubliettelaw10.FlagsSums', WHERE WHAT IT READS IS OF BULK AT MOST 1048576: true; the input reads as it did. -/
def flagsSumsUptoRow : OpenClaim := { program := "ytmmbhhapkgnlfaa", sum := "4a5942dafaed2e994d828f4739fa3c0e4f6a98f301086ffd9637775ddfc159f7", func := "oubliette/oubliettelaw10.FlagsSums", spec := "flagsSums", named := ["math/bits.divideError", "math/bits.overflowError"], apart := false, narrowed := true }
def FlagsSumsUptoSaid : Prop := flagsSumsUptoRow.holds Try.pinned (OpenSpec.upto flagsSumsSpec)

/-- 'oubliettelaw10.FlagsDivides', WHERE WHAT IT READS IS OF BULK AT MOST 1048576: true; the input reads as it did. -/
def flagsDividesUptoRow : OpenClaim := { program := "ytmmbhhapkgnlfaa", sum := "4a5942dafaed2e994d828f4739fa3c0e4f6a98f301086ffd9637775ddfc159f7", func := "oubliette/oubliettelaw10.FlagsDivides", spec := "flagsDivides", named := ["math/bits.divideError", "math/bits.overflowError"], apart := false, narrowed := true }
def FlagsDividesUptoSaid : Prop := flagsDividesUptoRow.holds Try.pinned (OpenSpec.upto flagsDividesSpec)

/-- 'oubliettelaw10.FlagsCarry', WHERE WHAT IT READS IS OF BULK AT MOST 1048576: true; the input reads as it did. -/
def flagsCarryUptoRow : OpenClaim := { program := "ytmmbhhapkgnlfaa", sum := "4a5942dafaed2e994d828f4739fa3c0e4f6a98f301086ffd9637775ddfc159f7", func := "oubliette/oubliettelaw10.FlagsCarry", spec := "flagsCarry", named := ["math/bits.divideError", "math/bits.overflowError"], apart := false, narrowed := true }
def FlagsCarryUptoSaid : Prop := flagsCarryUptoRow.holds Try.pinned (OpenSpec.upto flagsCarrySpec)

/-- 'oubliettelaw10.FlagsHold', WHERE WHAT IT READS IS OF BULK AT MOST 1048576: true; the input reads as it did. -/
def flagsHoldUptoRow : OpenClaim := { program := "ytmmbhhapkgnlfaa", sum := "4a5942dafaed2e994d828f4739fa3c0e4f6a98f301086ffd9637775ddfc159f7", func := "oubliette/oubliettelaw10.FlagsHold", spec := "flagsHold", named := ["math/bits.divideError", "math/bits.overflowError"], apart := false, narrowed := true }
def FlagsHoldUptoSaid : Prop := flagsHoldUptoRow.holds Try.pinned (OpenSpec.upto flagsHoldSpec)

/-- 'oubliettelaw10.FlagsCompare', WHERE WHAT IT READS IS OF BULK AT MOST 1048576: true; the input reads as it did. -/
def flagsCompareUptoRow : OpenClaim := { program := "ytmmbhhapkgnlfaa", sum := "4a5942dafaed2e994d828f4739fa3c0e4f6a98f301086ffd9637775ddfc159f7", func := "oubliette/oubliettelaw10.FlagsCompare", spec := "flagsCompare", named := ["math/bits.divideError", "math/bits.overflowError"], apart := false, narrowed := true }
def FlagsCompareUptoSaid : Prop := flagsCompareUptoRow.holds Try.pinned (OpenSpec.upto flagsCompareSpec)

/-- 'oubliettelaw10.FlagsShift', WHERE WHAT IT READS IS OF BULK AT MOST 1048576: true; the input reads as it did. -/
def flagsShiftUptoRow : OpenClaim := { program := "ytmmbhhapkgnlfaa", sum := "4a5942dafaed2e994d828f4739fa3c0e4f6a98f301086ffd9637775ddfc159f7", func := "oubliette/oubliettelaw10.FlagsShift", spec := "flagsShift", unfollowed := true, recurses := true, named := ["math/bits.divideError", "math/bits.overflowError"], apart := false, narrowed := true }
def FlagsShiftUptoSaid : Prop := flagsShiftUptoRow.holds Try.pinned (OpenSpec.upto flagsShiftSpec)

/-- 'oubliettelaw10.FlagsTurns', WHERE WHAT IT READS IS OF BULK AT MOST 1048576: true; the input reads as it did. -/
def flagsTurnsUptoRow : OpenClaim := { program := "ytmmbhhapkgnlfaa", sum := "4a5942dafaed2e994d828f4739fa3c0e4f6a98f301086ffd9637775ddfc159f7", func := "oubliette/oubliettelaw10.FlagsTurns", spec := "flagsTurns", unfollowed := true, recurses := true, named := ["math/bits.divideError", "math/bits.overflowError"], apart := false, narrowed := true }
def FlagsTurnsUptoSaid : Prop := flagsTurnsUptoRow.holds Try.pinned (OpenSpec.upto flagsTurnsSpec)

end Rows
end Go.Proofs.Ytmmbhhapkgnlfaa
