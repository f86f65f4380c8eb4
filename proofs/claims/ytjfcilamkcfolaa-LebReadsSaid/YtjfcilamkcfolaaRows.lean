/-
  No cell of these rows narrows 'for every input' (looked for: loops, veiled, ifaces, maps, wideKeys, modest, calm, conditions, laid).
  DERIVED. THE GIVEN ROWS OF THIS SEAT. 6 by the template 'for every input the law returns true; each argument reads behind the call as it read before'; 0 by the template 'total and deterministic' (their statements: YtjfcilamkcfolaaTotals.lean).
  GIVEN WITH THE SEED: the statements are not yours to turn. If you find one false, say at which input.
  Laid BY PROGRAM, IN A SANDBOX (cutbox-rows.mjs): the forced cells as the released guide's own fill.sh prints them over the translation d0aebcb5561ee4a0… (all of the seat's roots in one cut). By AI agents, Wed Nov 11 2026. No macro, syntax, notation, axiom, sorry.
-/
import Derived.Test.YtjfcilamkcfolaaChecked
import GoSem.Claim
import GoSem.ClaimJoined
import GoSem.ClaimMapViews
import Derived.JoinedTies
import Derived.KernelRfl
namespace Go.Proofs.Ytjfcilamkcfolaa
/- THE CELL 'sum', in the pinned program and in every row, IS THE sha256 OF THE DUMP (.gsa) THAT YtjfcilamkcfolaaProg.lean LOADS. Nothing in Lean hashes anything: it is a label: what it is worth is what the hold of that sum in a sandbox is worth. -/
noncomputable def Try.pinned : Pinned := { name := "ytjfcilamkcfolaa", sum := "d0aebcb5561ee4a04f01d47edd78d133b06529b0e9849a7ff7e91772460e4d84", checked := Try.checked }
namespace Rows
def none {H : Type} : Left H := { results := [], args := [] }

/-- 'oubliettelaw01.LebReads': WHATEVER THE INPUT: true; the input reads as it did. -/
def lebReadsSpec : ChangeSpec := { name := "lebReads", fn := fun _ => fun
  | [d1, d2] => { results := [.lit (.bool true)], args := [d1, d2] }
  | _ => none }
def lebReadsRow : OpenClaim := { program := "ytjfcilamkcfolaa", sum := "d0aebcb5561ee4a04f01d47edd78d133b06529b0e9849a7ff7e91772460e4d84", func := "oubliette/oubliettelaw01.LebReads", spec := "lebReads", apart := false }
def LebReadsSaid : Prop := lebReadsRow.holds Try.pinned (OpenSpec.ofChange lebReadsSpec)

/-- ITS FALSE NEIGHBOUR: 'it returns false'. Refute it at one input. -/
def lebReadsWrong : ChangeSpec := { name := "lebReads", fn := fun _ => fun
  | [d1, d2] => { results := [.lit (.bool false)], args := [d1, d2] }
  | _ => none }
def LebReadsWrongFalsely : Prop := lebReadsRow.holds Try.pinned (OpenSpec.ofChange lebReadsWrong)

/-- 'oubliettelaw01.LebApart': WHATEVER THE INPUT: true; the input reads as it did. -/
def lebApartSpec : ChangeSpec := { name := "lebApart", fn := fun _ => fun
  | [d1, d2] => { results := [.lit (.bool true)], args := [d1, d2] }
  | _ => none }
def lebApartRow : OpenClaim := { program := "ytjfcilamkcfolaa", sum := "d0aebcb5561ee4a04f01d47edd78d133b06529b0e9849a7ff7e91772460e4d84", func := "oubliette/oubliettelaw01.LebApart", spec := "lebApart", apart := false }
def LebApartSaid : Prop := lebApartRow.holds Try.pinned (OpenSpec.ofChange lebApartSpec)

/-- ITS FALSE NEIGHBOUR: 'it returns false'. Refute it at one input. -/
def lebApartWrong : ChangeSpec := { name := "lebApart", fn := fun _ => fun
  | [d1, d2] => { results := [.lit (.bool false)], args := [d1, d2] }
  | _ => none }
def LebApartWrongFalsely : Prop := lebApartRow.holds Try.pinned (OpenSpec.ofChange lebApartWrong)

/-- 'oubliettelaw01.LebBits': WHATEVER THE INPUT: true; the input reads as it did. -/
def lebBitsSpec : ChangeSpec := { name := "lebBits", fn := fun _ => fun
  | [d1, d2] => { results := [.lit (.bool true)], args := [d1, d2] }
  | _ => none }
def lebBitsRow : OpenClaim := { program := "ytjfcilamkcfolaa", sum := "d0aebcb5561ee4a04f01d47edd78d133b06529b0e9849a7ff7e91772460e4d84", func := "oubliette/oubliettelaw01.LebBits", spec := "lebBits", apart := false }
def LebBitsSaid : Prop := lebBitsRow.holds Try.pinned (OpenSpec.ofChange lebBitsSpec)

/-- ITS FALSE NEIGHBOUR: 'it returns false'. Refute it at one input. -/
def lebBitsWrong : ChangeSpec := { name := "lebBits", fn := fun _ => fun
  | [d1, d2] => { results := [.lit (.bool false)], args := [d1, d2] }
  | _ => none }
def LebBitsWrongFalsely : Prop := lebBitsRow.holds Try.pinned (OpenSpec.ofChange lebBitsWrong)

/-- 'oubliettelaw01.LebWrites': WHATEVER THE INPUT: true; the input reads as it did. -/
def lebWritesSpec : ChangeSpec := { name := "lebWrites", fn := fun _ => fun
  | [d] => { results := [.lit (.bool true)], args := [d] }
  | _ => none }
def lebWritesRow : OpenClaim := { program := "ytjfcilamkcfolaa", sum := "d0aebcb5561ee4a04f01d47edd78d133b06529b0e9849a7ff7e91772460e4d84", func := "oubliette/oubliettelaw01.LebWrites", spec := "lebWrites", apart := false }
def LebWritesSaid : Prop := lebWritesRow.holds Try.pinned (OpenSpec.ofChange lebWritesSpec)

/-- ITS FALSE NEIGHBOUR: 'it returns false'. Refute it at one input. -/
def lebWritesWrong : ChangeSpec := { name := "lebWrites", fn := fun _ => fun
  | [d] => { results := [.lit (.bool false)], args := [d] }
  | _ => none }
def LebWritesWrongFalsely : Prop := lebWritesRow.holds Try.pinned (OpenSpec.ofChange lebWritesWrong)

/-- 'oubliettelaw01.LebBack': WHATEVER THE INPUT: true; the input reads as it did. -/
def lebBackSpec : ChangeSpec := { name := "lebBack", fn := fun _ => fun
  | [d1, d2] => { results := [.lit (.bool true)], args := [d1, d2] }
  | _ => none }
def lebBackRow : OpenClaim := { program := "ytjfcilamkcfolaa", sum := "d0aebcb5561ee4a04f01d47edd78d133b06529b0e9849a7ff7e91772460e4d84", func := "oubliette/oubliettelaw01.LebBack", spec := "lebBack", apart := false }
def LebBackSaid : Prop := lebBackRow.holds Try.pinned (OpenSpec.ofChange lebBackSpec)

/-- ITS FALSE NEIGHBOUR: 'it returns false'. Refute it at one input. -/
def lebBackWrong : ChangeSpec := { name := "lebBack", fn := fun _ => fun
  | [d1, d2] => { results := [.lit (.bool false)], args := [d1, d2] }
  | _ => none }
def LebBackWrongFalsely : Prop := lebBackRow.holds Try.pinned (OpenSpec.ofChange lebBackWrong)

/-- 'oubliettelaw01.LebSizes': WHATEVER THE INPUT: true; the input reads as it did. -/
def lebSizesSpec : ChangeSpec := { name := "lebSizes", fn := fun _ => fun
  | [d1, d2] => { results := [.lit (.bool true)], args := [d1, d2] }
  | _ => none }
def lebSizesRow : OpenClaim := { program := "ytjfcilamkcfolaa", sum := "d0aebcb5561ee4a04f01d47edd78d133b06529b0e9849a7ff7e91772460e4d84", func := "oubliette/oubliettelaw01.LebSizes", spec := "lebSizes", apart := false }
def LebSizesSaid : Prop := lebSizesRow.holds Try.pinned (OpenSpec.ofChange lebSizesSpec)

/-- ITS FALSE NEIGHBOUR: 'it returns false'. Refute it at one input. -/
def lebSizesWrong : ChangeSpec := { name := "lebSizes", fn := fun _ => fun
  | [d1, d2] => { results := [.lit (.bool false)], args := [d1, d2] }
  | _ => none }
def LebSizesWrongFalsely : Prop := lebSizesRow.holds Try.pinned (OpenSpec.ofChange lebSizesWrong)

/- THE SECOND FORM. 'bulk': how many values and letters a reading holds, each counted each time it is reached (what is shared counts as often as it is met; a slice's spare places count too). A statement '..UptoSaid' is the law's where the arguments, and the package variables that the reading takes, are together of bulk at most 1048576: NARROWER than '..Said'. Prove '..Said' where nothing that the law and all that it calls make is longer than what came in: it says more and counts as full. Else prove '..UptoSaid'. A law counts once. -/
mutual
def uptoBulk {H : Type} : DataW H → Nat
  | .lit (.string bytes) => bytes.length + 1
  | .lit _ => 1
  | .nil => 1
  | .ptr d => uptoBulk d + 1
  | .slice elems spare => uptoBulkAll elems + uptoBulkAll spare + 1
  | .agg parts => uptoBulkAll parts + 1
  | .iface _ d => uptoBulk d + 1
  | .map entries => uptoBulkEntries entries + 1
  | .held _ => 1
def uptoBulkAll {H : Type} : List (DataW H) → Nat
  | [] => 0
  | d :: r => uptoBulk d + uptoBulkAll r
def uptoBulkEntries {H : Type} : List (Lit × DataW H) → Nat
  | [] => 0
  | x :: r => uptoBulkEntry x + uptoBulkEntries r
def uptoBulkEntry {H : Type} : Lit × DataW H → Nat
  | (.string bytes, d) => bytes.length + uptoBulk d + 1
  | (_, d) => uptoBulk d + 1
 end
def uptoSmall : (H : Type) → List (DataW H) → Bool := fun _ ds => decide (uptoBulkAll ds ≤ 1048576)
def OpenSpec.upto (s : _root_.Go.ChangeSpec) : _root_.Go.OpenSpec := { _root_.Go.OpenSpec.ofChange s with cond := some uptoSmall }

/-- 'oubliettelaw01.LebReads', WHERE WHAT IT READS IS OF BULK AT MOST 1048576: true; the input reads as it did. -/
def lebReadsUptoRow : OpenClaim := { program := "ytjfcilamkcfolaa", sum := "d0aebcb5561ee4a04f01d47edd78d133b06529b0e9849a7ff7e91772460e4d84", func := "oubliette/oubliettelaw01.LebReads", spec := "lebReads", apart := false, narrowed := true }
def LebReadsUptoSaid : Prop := lebReadsUptoRow.holds Try.pinned (OpenSpec.upto lebReadsSpec)

/-- 'oubliettelaw01.LebApart', WHERE WHAT IT READS IS OF BULK AT MOST 1048576: true; the input reads as it did. -/
def lebApartUptoRow : OpenClaim := { program := "ytjfcilamkcfolaa", sum := "d0aebcb5561ee4a04f01d47edd78d133b06529b0e9849a7ff7e91772460e4d84", func := "oubliette/oubliettelaw01.LebApart", spec := "lebApart", apart := false, narrowed := true }
def LebApartUptoSaid : Prop := lebApartUptoRow.holds Try.pinned (OpenSpec.upto lebApartSpec)

/-- 'oubliettelaw01.LebBits', WHERE WHAT IT READS IS OF BULK AT MOST 1048576: true; the input reads as it did. -/
def lebBitsUptoRow : OpenClaim := { program := "ytjfcilamkcfolaa", sum := "d0aebcb5561ee4a04f01d47edd78d133b06529b0e9849a7ff7e91772460e4d84", func := "oubliette/oubliettelaw01.LebBits", spec := "lebBits", apart := false, narrowed := true }
def LebBitsUptoSaid : Prop := lebBitsUptoRow.holds Try.pinned (OpenSpec.upto lebBitsSpec)

/-- 'oubliettelaw01.LebWrites', WHERE WHAT IT READS IS OF BULK AT MOST 1048576: true; the input reads as it did. -/
def lebWritesUptoRow : OpenClaim := { program := "ytjfcilamkcfolaa", sum := "d0aebcb5561ee4a04f01d47edd78d133b06529b0e9849a7ff7e91772460e4d84", func := "oubliette/oubliettelaw01.LebWrites", spec := "lebWrites", apart := false, narrowed := true }
def LebWritesUptoSaid : Prop := lebWritesUptoRow.holds Try.pinned (OpenSpec.upto lebWritesSpec)

/-- 'oubliettelaw01.LebBack', WHERE WHAT IT READS IS OF BULK AT MOST 1048576: true; the input reads as it did. -/
def lebBackUptoRow : OpenClaim := { program := "ytjfcilamkcfolaa", sum := "d0aebcb5561ee4a04f01d47edd78d133b06529b0e9849a7ff7e91772460e4d84", func := "oubliette/oubliettelaw01.LebBack", spec := "lebBack", apart := false, narrowed := true }
def LebBackUptoSaid : Prop := lebBackUptoRow.holds Try.pinned (OpenSpec.upto lebBackSpec)

/-- 'oubliettelaw01.LebSizes', WHERE WHAT IT READS IS OF BULK AT MOST 1048576: true; the input reads as it did. -/
def lebSizesUptoRow : OpenClaim := { program := "ytjfcilamkcfolaa", sum := "d0aebcb5561ee4a04f01d47edd78d133b06529b0e9849a7ff7e91772460e4d84", func := "oubliette/oubliettelaw01.LebSizes", spec := "lebSizes", apart := false, narrowed := true }
def LebSizesUptoSaid : Prop := lebSizesUptoRow.holds Try.pinned (OpenSpec.upto lebSizesSpec)

end Rows
end Go.Proofs.Ytjfcilamkcfolaa
