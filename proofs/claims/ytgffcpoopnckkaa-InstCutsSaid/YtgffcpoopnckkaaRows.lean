/-
  No cell of these rows narrows 'for every input' (looked for: loops, veiled, ifaces, maps, wideKeys, modest, calm, conditions, laid).
  DERIVED. THE GIVEN ROWS OF THIS SEAT. 6 by the template 'for every input the law returns true; each argument reads behind the call as it read before'; 0 by the template 'total and deterministic' (their statements: YtgffcpoopnckkaaTotals.lean).
  GIVEN WITH THE SEED: the statements are not yours to turn. If you find one false, say at which input.
  Laid BY PROGRAM, IN A SANDBOX (cutbox-rows.mjs): the forced cells as the released guide's own fill.sh prints them over the translation b1ffe09767984395… (all of the seat's roots in one cut). By AI agents, Wed Nov 11 2026. No macro, syntax, notation, axiom, sorry.
-/
import Derived.Test.YtgffcpoopnckkaaChecked
import GoSem.Claim
import GoSem.ClaimJoined
import GoSem.ClaimMapViews
import Derived.JoinedTies
import Derived.KernelRfl
namespace Go.Proofs.Ytgffcpoopnckkaa
/- THE CELL 'sum', in the pinned program and in every row, IS THE sha256 OF THE DUMP (.gsa) THAT YtgffcpoopnckkaaProg.lean LOADS. Nothing in Lean hashes anything: it is a label: what it is worth is what the hold of that sum in a sandbox is worth. -/
noncomputable def Try.pinned : Pinned := { name := "ytgffcpoopnckkaa", sum := "b1ffe09767984395bf5b9a869bbc4aa4531705f76d593a95bd24608c505e37e7", checked := Try.checked }
namespace Rows
def none {H : Type} : Left H := { results := [], args := [] }

/-- 'oubliettelaw04.InstWrites': WHATEVER THE INPUT: true; the input reads as it did. -/
def instWritesSpec : ChangeSpec := { name := "instWrites", fn := fun _ => fun
  | [d] => { results := [.lit (.bool true)], args := [d] }
  | _ => none }
def instWritesRow : OpenClaim := { program := "ytgffcpoopnckkaa", sum := "b1ffe09767984395bf5b9a869bbc4aa4531705f76d593a95bd24608c505e37e7", func := "oubliette/oubliettelaw04.InstWrites", spec := "instWrites", unfollowed := true, recurses := true, apart := false }
def InstWritesSaid : Prop := instWritesRow.holds Try.pinned (OpenSpec.ofChange instWritesSpec)

/-- ITS FALSE NEIGHBOUR: 'it returns false'. Refute it at one input. -/
def instWritesWrong : ChangeSpec := { name := "instWrites", fn := fun _ => fun
  | [d] => { results := [.lit (.bool false)], args := [d] }
  | _ => none }
def InstWritesWrongFalsely : Prop := instWritesRow.holds Try.pinned (OpenSpec.ofChange instWritesWrong)

/-- 'oubliettelaw04.InstReads': WHATEVER THE INPUT: true; the input reads as it did. -/
def instReadsSpec : ChangeSpec := { name := "instReads", fn := fun _ => fun
  | [d] => { results := [.lit (.bool true)], args := [d] }
  | _ => none }
def instReadsRow : OpenClaim := { program := "ytgffcpoopnckkaa", sum := "b1ffe09767984395bf5b9a869bbc4aa4531705f76d593a95bd24608c505e37e7", func := "oubliette/oubliettelaw04.InstReads", spec := "instReads", unfollowed := true, recurses := true, apart := false }
def InstReadsSaid : Prop := instReadsRow.holds Try.pinned (OpenSpec.ofChange instReadsSpec)

/-- ITS FALSE NEIGHBOUR: 'it returns false'. Refute it at one input. -/
def instReadsWrong : ChangeSpec := { name := "instReads", fn := fun _ => fun
  | [d] => { results := [.lit (.bool false)], args := [d] }
  | _ => none }
def InstReadsWrongFalsely : Prop := instReadsRow.holds Try.pinned (OpenSpec.ofChange instReadsWrong)

/-- 'oubliettelaw04.InstBack': WHATEVER THE INPUT: true; the input reads as it did. -/
def instBackSpec : ChangeSpec := { name := "instBack", fn := fun _ => fun
  | [d1, d2, d3] => { results := [.lit (.bool true)], args := [d1, d2, d3] }
  | _ => none }
def instBackRow : OpenClaim := { program := "ytgffcpoopnckkaa", sum := "b1ffe09767984395bf5b9a869bbc4aa4531705f76d593a95bd24608c505e37e7", func := "oubliette/oubliettelaw04.InstBack", spec := "instBack", unfollowed := true, recurses := true, apart := false }
def InstBackSaid : Prop := instBackRow.holds Try.pinned (OpenSpec.ofChange instBackSpec)

/-- ITS FALSE NEIGHBOUR: 'it returns false'. Refute it at one input. -/
def instBackWrong : ChangeSpec := { name := "instBack", fn := fun _ => fun
  | [d1, d2, d3] => { results := [.lit (.bool false)], args := [d1, d2, d3] }
  | _ => none }
def InstBackWrongFalsely : Prop := instBackRow.holds Try.pinned (OpenSpec.ofChange instBackWrong)

/-- 'oubliettelaw04.InstFirst': WHATEVER THE INPUT: true; the input reads as it did. -/
def instFirstSpec : ChangeSpec := { name := "instFirst", fn := fun _ => fun
  | [d1, d2] => { results := [.lit (.bool true)], args := [d1, d2] }
  | _ => none }
def instFirstRow : OpenClaim := { program := "ytgffcpoopnckkaa", sum := "b1ffe09767984395bf5b9a869bbc4aa4531705f76d593a95bd24608c505e37e7", func := "oubliette/oubliettelaw04.InstFirst", spec := "instFirst", unfollowed := true, recurses := true, apart := false }
def InstFirstSaid : Prop := instFirstRow.holds Try.pinned (OpenSpec.ofChange instFirstSpec)

/-- ITS FALSE NEIGHBOUR: 'it returns false'. Refute it at one input. -/
def instFirstWrong : ChangeSpec := { name := "instFirst", fn := fun _ => fun
  | [d1, d2] => { results := [.lit (.bool false)], args := [d1, d2] }
  | _ => none }
def InstFirstWrongFalsely : Prop := instFirstRow.holds Try.pinned (OpenSpec.ofChange instFirstWrong)

/-- 'oubliettelaw04.InstBodies': WHATEVER THE INPUT: true; the input reads as it did. -/
def instBodiesSpec : ChangeSpec := { name := "instBodies", fn := fun _ => fun
  | [d] => { results := [.lit (.bool true)], args := [d] }
  | _ => none }
def instBodiesRow : OpenClaim := { program := "ytgffcpoopnckkaa", sum := "b1ffe09767984395bf5b9a869bbc4aa4531705f76d593a95bd24608c505e37e7", func := "oubliette/oubliettelaw04.InstBodies", spec := "instBodies", inPlace := ["internal/abi.NoEscape"], unfollowed := true, recurses := true, apart := false }
def InstBodiesSaid : Prop := instBodiesRow.holds Try.pinned (OpenSpec.ofChange instBodiesSpec)

/-- ITS FALSE NEIGHBOUR: 'it returns false'. Refute it at one input. -/
def instBodiesWrong : ChangeSpec := { name := "instBodies", fn := fun _ => fun
  | [d] => { results := [.lit (.bool false)], args := [d] }
  | _ => none }
def InstBodiesWrongFalsely : Prop := instBodiesRow.holds Try.pinned (OpenSpec.ofChange instBodiesWrong)

/-- 'oubliettelaw04.InstCuts': WHATEVER THE INPUT: true; the input reads as it did. -/
def instCutsSpec : ChangeSpec := { name := "instCuts", fn := fun _ => fun
  | [d1, d2] => { results := [.lit (.bool true)], args := [d1, d2] }
  | _ => none }
def instCutsRow : OpenClaim := { program := "ytgffcpoopnckkaa", sum := "b1ffe09767984395bf5b9a869bbc4aa4531705f76d593a95bd24608c505e37e7", func := "oubliette/oubliettelaw04.InstCuts", spec := "instCuts", inPlace := ["internal/abi.NoEscape"], unfollowed := true, recurses := true, apart := false }
def InstCutsSaid : Prop := instCutsRow.holds Try.pinned (OpenSpec.ofChange instCutsSpec)

/-- ITS FALSE NEIGHBOUR: 'it returns false'. Refute it at one input. -/
def instCutsWrong : ChangeSpec := { name := "instCuts", fn := fun _ => fun
  | [d1, d2] => { results := [.lit (.bool false)], args := [d1, d2] }
  | _ => none }
def InstCutsWrongFalsely : Prop := instCutsRow.holds Try.pinned (OpenSpec.ofChange instCutsWrong)

/- THE SECOND FORM. 'bulk': how many values and letters a reading holds, each counted each time it is reached (what is shared counts as often as it is met; a slice's spare places count too). A statement '..UptoSaid' is the law's where the arguments, and the package variables that the reading takes, are together of bulk at most 1048576: NARROWER than '..Said'. Prove '..Said' where nothing that the law and all that it calls make is longer than what came in: it says more and counts as full. Else prove '..UptoSaid'. A law counts once. -/
mutual
def uptoBulk {H : Type} : DataW H → Nat
  | .lit (.string bytes) => bytes.length + 1
  | .lit _ => 1
  | .nil => 1
  | .ptr d => uptoBulk d + 1
  | .slice elems spare => uptoBulkAll elems + uptoBulkAll spare + 1
  | .agg parts => uptoBulkAll parts + 1
  | .iface _ d => uptoBulk d + 1
  | .map entries => uptoBulkEntries entries + 1
  | .held _ => 1
def uptoBulkAll {H : Type} : List (DataW H) → Nat
  | [] => 0
  | d :: r => uptoBulk d + uptoBulkAll r
def uptoBulkEntries {H : Type} : List (Lit × DataW H) → Nat
  | [] => 0
  | x :: r => uptoBulkEntry x + uptoBulkEntries r
def uptoBulkEntry {H : Type} : Lit × DataW H → Nat
  | (.string bytes, d) => bytes.length + uptoBulk d + 1
  | (_, d) => uptoBulk d + 1
 end
def uptoSmall : (H : Type) → List (DataW H) → Bool := fun _ ds => decide (uptoBulkAll ds ≤ 1048576)
def OpenSpec.upto (s : _root_.Go.ChangeSpec) : _root_.Go.OpenSpec := { _root_.Go.OpenSpec.ofChange s with cond := some uptoSmall }

/-- 'oubliettelaw04.InstWrites', WHERE WHAT IT READS IS OF BULK AT MOST 1048576: true; the input reads as it did. -/
def instWritesUptoRow : OpenClaim := { program := "ytgffcpoopnckkaa", sum := "b1ffe09767984395bf5b9a869bbc4aa4531705f76d593a95bd24608c505e37e7", func := "oubliette/oubliettelaw04.InstWrites", spec := "instWrites", unfollowed := true, recurses := true, apart := false, narrowed := true }
def InstWritesUptoSaid : Prop := instWritesUptoRow.holds Try.pinned (OpenSpec.upto instWritesSpec)

/-- 'oubliettelaw04.InstReads', WHERE WHAT IT READS IS OF BULK AT MOST 1048576: true; the input reads as it did. -/
def instReadsUptoRow : OpenClaim := { program := "ytgffcpoopnckkaa", sum := "b1ffe09767984395bf5b9a869bbc4aa4531705f76d593a95bd24608c505e37e7", func := "oubliette/oubliettelaw04.InstReads", spec := "instReads", unfollowed := true, recurses := true, apart := false, narrowed := true }
def InstReadsUptoSaid : Prop := instReadsUptoRow.holds Try.pinned (OpenSpec.upto instReadsSpec)

/-- 'oubliettelaw04.InstBack', WHERE WHAT IT READS IS OF BULK AT MOST 1048576: true; the input reads as it did. -/
def instBackUptoRow : OpenClaim := { program := "ytgffcpoopnckkaa", sum := "b1ffe09767984395bf5b9a869bbc4aa4531705f76d593a95bd24608c505e37e7", func := "oubliette/oubliettelaw04.InstBack", spec := "instBack", unfollowed := true, recurses := true, apart := false, narrowed := true }
def InstBackUptoSaid : Prop := instBackUptoRow.holds Try.pinned (OpenSpec.upto instBackSpec)

/-- 'oubliettelaw04.InstFirst', WHERE WHAT IT READS IS OF BULK AT MOST 1048576: true; the input reads as it did. -/
def instFirstUptoRow : OpenClaim := { program := "ytgffcpoopnckkaa", sum := "b1ffe09767984395bf5b9a869bbc4aa4531705f76d593a95bd24608c505e37e7", func := "oubliette/oubliettelaw04.InstFirst", spec := "instFirst", unfollowed := true, recurses := true, apart := false, narrowed := true }
def InstFirstUptoSaid : Prop := instFirstUptoRow.holds Try.pinned (OpenSpec.upto instFirstSpec)

/-- 'oubliettelaw04.InstBodies', WHERE WHAT IT READS IS OF BULK AT MOST 1048576: true; the input reads as it did. -/
def instBodiesUptoRow : OpenClaim := { program := "ytgffcpoopnckkaa", sum := "b1ffe09767984395bf5b9a869bbc4aa4531705f76d593a95bd24608c505e37e7", func := "oubliette/oubliettelaw04.InstBodies", spec := "instBodies", inPlace := ["internal/abi.NoEscape"], unfollowed := true, recurses := true, apart := false, narrowed := true }
def InstBodiesUptoSaid : Prop := instBodiesUptoRow.holds Try.pinned (OpenSpec.upto instBodiesSpec)

/-- 'oubliettelaw04.InstCuts', WHERE WHAT IT READS IS OF BULK AT MOST 1048576: true; the input reads as it did. -/
def instCutsUptoRow : OpenClaim := { program := "ytgffcpoopnckkaa", sum := "b1ffe09767984395bf5b9a869bbc4aa4531705f76d593a95bd24608c505e37e7", func := "oubliette/oubliettelaw04.InstCuts", spec := "instCuts", inPlace := ["internal/abi.NoEscape"], unfollowed := true, recurses := true, apart := false, narrowed := true }
def InstCutsUptoSaid : Prop := instCutsUptoRow.holds Try.pinned (OpenSpec.upto instCutsSpec)

end Rows
end Go.Proofs.Ytgffcpoopnckkaa
