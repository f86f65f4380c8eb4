/-
  No cell of these rows narrows 'for every input' (looked for: loops, veiled, ifaces, maps, wideKeys, modest, calm, conditions, laid).
  DERIVED. THE GIVEN ROWS OF THIS SEAT. 11 by the template 'for every input the law returns true; each argument reads behind the call as it read before'; 0 by the template 'total and deterministic' (their statements: YtiacmfgkbgfhkaaTotals.lean).
  GIVEN WITH THE SEED: the statements are not yours to turn. If you find one false, say at which input.
  Laid BY PROGRAM, IN A SANDBOX (cutbox-rows.mjs): the forced cells as the released guide's own fill.sh prints them over the translation 9402b500bcf08c8a… (all of the seat's roots in one cut). By AI agents, Wed Nov 11 2026. No macro, syntax, notation, axiom, sorry.
-/
import Derived.Test.YtiacmfgkbgfhkaaChecked
import GoSem.Claim
import GoSem.ClaimJoined
import GoSem.ClaimMapViews
import Derived.JoinedTies
import Derived.KernelRfl
namespace Go.Proofs.Ytiacmfgkbgfhkaa
/- THE CELL 'sum', in the pinned program and in every row, IS THE sha256 OF THE DUMP (.gsa) THAT YtiacmfgkbgfhkaaProg.lean LOADS. Nothing in Lean hashes anything: it is a label: what it is worth is what the hold of that sum in a sandbox is worth. -/
noncomputable def Try.pinned : Pinned := { name := "ytiacmfgkbgfhkaa", sum := "9402b500bcf08c8ad2cfab6bff2daa8ca0437427f220a672688d9afb649d5b1a", checked := Try.checked }
namespace Rows
def none {H : Type} : Left H := { results := [], args := [] }

/-- 'oubliettelaw03.LabelFlows': WHATEVER THE INPUT: true; the input reads as it did. -/
def labelFlowsSpec : ChangeSpec := { name := "labelFlows", fn := fun _ => fun
  | [d1, d2, d3] => { results := [.lit (.bool true)], args := [d1, d2, d3] }
  | _ => none }
def labelFlowsRow : OpenClaim := { program := "ytiacmfgkbgfhkaa", sum := "9402b500bcf08c8ad2cfab6bff2daa8ca0437427f220a672688d9afb649d5b1a", func := "oubliette/oubliettelaw03.LabelFlows", spec := "labelFlows", apart := false }
def LabelFlowsSaid : Prop := labelFlowsRow.holds Try.pinned (OpenSpec.ofChange labelFlowsSpec)

/-- ITS FALSE NEIGHBOUR: 'it returns false'. Refute it at one input. -/
def labelFlowsWrong : ChangeSpec := { name := "labelFlows", fn := fun _ => fun
  | [d1, d2, d3] => { results := [.lit (.bool false)], args := [d1, d2, d3] }
  | _ => none }
def LabelFlowsWrongFalsely : Prop := labelFlowsRow.holds Try.pinned (OpenSpec.ofChange labelFlowsWrong)

/-- 'oubliettelaw03.LabelTells': WHATEVER THE INPUT: true; the input reads as it did. -/
def labelTellsSpec : ChangeSpec := { name := "labelTells", fn := fun _ => fun
  | [d1, d2] => { results := [.lit (.bool true)], args := [d1, d2] }
  | _ => none }
def labelTellsRow : OpenClaim := { program := "ytiacmfgkbgfhkaa", sum := "9402b500bcf08c8ad2cfab6bff2daa8ca0437427f220a672688d9afb649d5b1a", func := "oubliette/oubliettelaw03.LabelTells", spec := "labelTells", apart := false }
def LabelTellsSaid : Prop := labelTellsRow.holds Try.pinned (OpenSpec.ofChange labelTellsSpec)

/-- ITS FALSE NEIGHBOUR: 'it returns false'. Refute it at one input. -/
def labelTellsWrong : ChangeSpec := { name := "labelTells", fn := fun _ => fun
  | [d1, d2] => { results := [.lit (.bool false)], args := [d1, d2] }
  | _ => none }
def LabelTellsWrongFalsely : Prop := labelTellsRow.holds Try.pinned (OpenSpec.ofChange labelTellsWrong)

/-- 'oubliettelaw03.LabelJoins': WHATEVER THE INPUT: true; the input reads as it did. -/
def labelJoinsSpec : ChangeSpec := { name := "labelJoins", fn := fun _ => fun
  | [d1, d2, d3] => { results := [.lit (.bool true)], args := [d1, d2, d3] }
  | _ => none }
def labelJoinsRow : OpenClaim := { program := "ytiacmfgkbgfhkaa", sum := "9402b500bcf08c8ad2cfab6bff2daa8ca0437427f220a672688d9afb649d5b1a", func := "oubliette/oubliettelaw03.LabelJoins", spec := "labelJoins", apart := false }
def LabelJoinsSaid : Prop := labelJoinsRow.holds Try.pinned (OpenSpec.ofChange labelJoinsSpec)

/-- ITS FALSE NEIGHBOUR: 'it returns false'. Refute it at one input. -/
def labelJoinsWrong : ChangeSpec := { name := "labelJoins", fn := fun _ => fun
  | [d1, d2, d3] => { results := [.lit (.bool false)], args := [d1, d2, d3] }
  | _ => none }
def LabelJoinsWrongFalsely : Prop := labelJoinsRow.holds Try.pinned (OpenSpec.ofChange labelJoinsWrong)

/-- 'oubliettelaw03.LabelOf': WHATEVER THE INPUT: true; the input reads as it did. -/
def labelOfSpec : ChangeSpec := { name := "labelOf", fn := fun _ => fun
  | [d1, d2, d3] => { results := [.lit (.bool true)], args := [d1, d2, d3] }
  | _ => none }
def labelOfRow : OpenClaim := { program := "ytiacmfgkbgfhkaa", sum := "9402b500bcf08c8ad2cfab6bff2daa8ca0437427f220a672688d9afb649d5b1a", func := "oubliette/oubliettelaw03.LabelOf", spec := "labelOf", apart := false }
def LabelOfSaid : Prop := labelOfRow.holds Try.pinned (OpenSpec.ofChange labelOfSpec)

/-- ITS FALSE NEIGHBOUR: 'it returns false'. Refute it at one input. -/
def labelOfWrong : ChangeSpec := { name := "labelOf", fn := fun _ => fun
  | [d1, d2, d3] => { results := [.lit (.bool false)], args := [d1, d2, d3] }
  | _ => none }
def LabelOfWrongFalsely : Prop := labelOfRow.holds Try.pinned (OpenSpec.ofChange labelOfWrong)

/-- 'oubliettelaw03.LabelAll': WHATEVER THE INPUT: true; the input reads as it did. -/
def labelAllSpec : ChangeSpec := { name := "labelAll", fn := fun _ => fun
  | [d1, d2] => { results := [.lit (.bool true)], args := [d1, d2] }
  | _ => none }
def labelAllRow : OpenClaim := { program := "ytiacmfgkbgfhkaa", sum := "9402b500bcf08c8ad2cfab6bff2daa8ca0437427f220a672688d9afb649d5b1a", func := "oubliette/oubliettelaw03.LabelAll", spec := "labelAll", unfollowed := true, recurses := true, apart := false }
def LabelAllSaid : Prop := labelAllRow.holds Try.pinned (OpenSpec.ofChange labelAllSpec)

/-- ITS FALSE NEIGHBOUR: 'it returns false'. Refute it at one input. -/
def labelAllWrong : ChangeSpec := { name := "labelAll", fn := fun _ => fun
  | [d1, d2] => { results := [.lit (.bool false)], args := [d1, d2] }
  | _ => none }
def LabelAllWrongFalsely : Prop := labelAllRow.holds Try.pinned (OpenSpec.ofChange labelAllWrong)

/-- 'oubliettelaw08.LinmemWorks': WHATEVER THE INPUT: true; the input reads as it did. -/
def linmemWorksSpec : ChangeSpec := { name := "linmemWorks", fn := fun _ => fun
  | [d1, d2, d3, d4, d5, d6, d7] => { results := [.lit (.bool true)], args := [d1, d2, d3, d4, d5, d6, d7] }
  | _ => none }
def linmemWorksRow : OpenClaim := { program := "ytiacmfgkbgfhkaa", sum := "9402b500bcf08c8ad2cfab6bff2daa8ca0437427f220a672688d9afb649d5b1a", func := "oubliette/oubliettelaw08.LinmemWorks", spec := "linmemWorks", apart := false }
def LinmemWorksSaid : Prop := linmemWorksRow.holds Try.pinned (OpenSpec.ofChange linmemWorksSpec)

/-- ITS FALSE NEIGHBOUR: 'it returns false'. Refute it at one input. -/
def linmemWorksWrong : ChangeSpec := { name := "linmemWorks", fn := fun _ => fun
  | [d1, d2, d3, d4, d5, d6, d7] => { results := [.lit (.bool false)], args := [d1, d2, d3, d4, d5, d6, d7] }
  | _ => none }
def LinmemWorksWrongFalsely : Prop := linmemWorksRow.holds Try.pinned (OpenSpec.ofChange linmemWorksWrong)

/-- 'oubliettelaw08.LinmemBack': WHATEVER THE INPUT: true; the input reads as it did. -/
def linmemBackSpec : ChangeSpec := { name := "linmemBack", fn := fun _ => fun
  | [d1, d2, d3, d4, d5] => { results := [.lit (.bool true)], args := [d1, d2, d3, d4, d5] }
  | _ => none }
def linmemBackRow : OpenClaim := { program := "ytiacmfgkbgfhkaa", sum := "9402b500bcf08c8ad2cfab6bff2daa8ca0437427f220a672688d9afb649d5b1a", func := "oubliette/oubliettelaw08.LinmemBack", spec := "linmemBack", apart := false }
def LinmemBackSaid : Prop := linmemBackRow.holds Try.pinned (OpenSpec.ofChange linmemBackSpec)

/-- ITS FALSE NEIGHBOUR: 'it returns false'. Refute it at one input. -/
def linmemBackWrong : ChangeSpec := { name := "linmemBack", fn := fun _ => fun
  | [d1, d2, d3, d4, d5] => { results := [.lit (.bool false)], args := [d1, d2, d3, d4, d5] }
  | _ => none }
def LinmemBackWrongFalsely : Prop := linmemBackRow.holds Try.pinned (OpenSpec.ofChange linmemBackWrong)

/-- 'oubliettelaw08.LinmemHalves': WHATEVER THE INPUT: true; the input reads as it did. -/
def linmemHalvesSpec : ChangeSpec := { name := "linmemHalves", fn := fun _ => fun
  | [d1, d2] => { results := [.lit (.bool true)], args := [d1, d2] }
  | _ => none }
def linmemHalvesRow : OpenClaim := { program := "ytiacmfgkbgfhkaa", sum := "9402b500bcf08c8ad2cfab6bff2daa8ca0437427f220a672688d9afb649d5b1a", func := "oubliette/oubliettelaw08.LinmemHalves", spec := "linmemHalves", apart := false }
def LinmemHalvesSaid : Prop := linmemHalvesRow.holds Try.pinned (OpenSpec.ofChange linmemHalvesSpec)

/-- ITS FALSE NEIGHBOUR: 'it returns false'. Refute it at one input. -/
def linmemHalvesWrong : ChangeSpec := { name := "linmemHalves", fn := fun _ => fun
  | [d1, d2] => { results := [.lit (.bool false)], args := [d1, d2] }
  | _ => none }
def LinmemHalvesWrongFalsely : Prop := linmemHalvesRow.holds Try.pinned (OpenSpec.ofChange linmemHalvesWrong)

/-- 'oubliettelaw08.LinmemData': WHATEVER THE INPUT: true; the input reads as it did. -/
def linmemDataSpec : ChangeSpec := { name := "linmemData", fn := fun _ => fun
  | [d1, d2, d3] => { results := [.lit (.bool true)], args := [d1, d2, d3] }
  | _ => none }
def linmemDataRow : OpenClaim := { program := "ytiacmfgkbgfhkaa", sum := "9402b500bcf08c8ad2cfab6bff2daa8ca0437427f220a672688d9afb649d5b1a", func := "oubliette/oubliettelaw08.LinmemData", spec := "linmemData", apart := false }
def LinmemDataSaid : Prop := linmemDataRow.holds Try.pinned (OpenSpec.ofChange linmemDataSpec)

/-- ITS FALSE NEIGHBOUR: 'it returns false'. Refute it at one input. -/
def linmemDataWrong : ChangeSpec := { name := "linmemData", fn := fun _ => fun
  | [d1, d2, d3] => { results := [.lit (.bool false)], args := [d1, d2, d3] }
  | _ => none }
def LinmemDataWrongFalsely : Prop := linmemDataRow.holds Try.pinned (OpenSpec.ofChange linmemDataWrong)

/-- 'oubliettelaw08.LinmemApplies': WHATEVER THE INPUT: true; the input reads as it did. -/
def linmemAppliesSpec : ChangeSpec := { name := "linmemApplies", fn := fun _ => fun
  | [d1, d2, d3] => { results := [.lit (.bool true)], args := [d1, d2, d3] }
  | _ => none }
def linmemAppliesRow : OpenClaim := { program := "ytiacmfgkbgfhkaa", sum := "9402b500bcf08c8ad2cfab6bff2daa8ca0437427f220a672688d9afb649d5b1a", func := "oubliette/oubliettelaw08.LinmemApplies", spec := "linmemApplies", apart := false }
def LinmemAppliesSaid : Prop := linmemAppliesRow.holds Try.pinned (OpenSpec.ofChange linmemAppliesSpec)

/-- ITS FALSE NEIGHBOUR: 'it returns false'. Refute it at one input. -/
def linmemAppliesWrong : ChangeSpec := { name := "linmemApplies", fn := fun _ => fun
  | [d1, d2, d3] => { results := [.lit (.bool false)], args := [d1, d2, d3] }
  | _ => none }
def LinmemAppliesWrongFalsely : Prop := linmemAppliesRow.holds Try.pinned (OpenSpec.ofChange linmemAppliesWrong)

/-- 'oubliettelaw08.LinmemWrites': WHATEVER THE INPUT: true; the input reads as it did. -/
def linmemWritesSpec : ChangeSpec := { name := "linmemWrites", fn := fun _ => fun
  | [d1, d2] => { results := [.lit (.bool true)], args := [d1, d2] }
  | _ => none }
def linmemWritesRow : OpenClaim := { program := "ytiacmfgkbgfhkaa", sum := "9402b500bcf08c8ad2cfab6bff2daa8ca0437427f220a672688d9afb649d5b1a", func := "oubliette/oubliettelaw08.LinmemWrites", spec := "linmemWrites", apart := false }
def LinmemWritesSaid : Prop := linmemWritesRow.holds Try.pinned (OpenSpec.ofChange linmemWritesSpec)

/-- ITS FALSE NEIGHBOUR: 'it returns false'. Refute it at one input. -/
def linmemWritesWrong : ChangeSpec := { name := "linmemWrites", fn := fun _ => fun
  | [d1, d2] => { results := [.lit (.bool false)], args := [d1, d2] }
  | _ => none }
def LinmemWritesWrongFalsely : Prop := linmemWritesRow.holds Try.pinned (OpenSpec.ofChange linmemWritesWrong)

/- THE SECOND FORM. 'bulk': how many values and letters a reading holds, each counted each time it is reached (what is shared counts as often as it is met; a slice's spare places count too). A statement '..UptoSaid' is the law's where the arguments, and the package variables that the reading takes, are together of bulk at most 1048576: NARROWER than '..Said'. Prove '..Said' where nothing that the law and all that it calls make is longer than what came in: it says more and counts as full. Else prove '..UptoSaid'. A law counts once. -/
mutual
def uptoBulk {H : Type} : DataW H → Nat
  | .lit (.string bytes) => bytes.length + 1
  | .lit _ => 1
  | .nil => 1
  | .ptr d => uptoBulk d + 1
  | .slice elems spare => uptoBulkAll elems + uptoBulkAll spare + 1
  | .agg parts => uptoBulkAll parts + 1
  | .iface _ d => uptoBulk d + 1
  | .map entries => uptoBulkEntries entries + 1
  | .held _ => 1
def uptoBulkAll {H : Type} : List (DataW H) → Nat
  | [] => 0
  | d :: r => uptoBulk d + uptoBulkAll r
def uptoBulkEntries {H : Type} : List (Lit × DataW H) → Nat
  | [] => 0
  | x :: r => uptoBulkEntry x + uptoBulkEntries r
def uptoBulkEntry {H : Type} : Lit × DataW H → Nat
  | (.string bytes, d) => bytes.length + uptoBulk d + 1
  | (_, d) => uptoBulk d + 1
 end
def uptoSmall : (H : Type) → List (DataW H) → Bool := fun _ ds => decide (uptoBulkAll ds ≤ 1048576)
def OpenSpec.upto (s : _root_.Go.ChangeSpec) : _root_.Go.OpenSpec := { _root_.Go.OpenSpec.ofChange s with cond := some uptoSmall }

/-- 'oubliettelaw03.LabelFlows', WHERE WHAT IT READS IS OF BULK AT MOST 1048576: true; the input reads as it did. -/
def labelFlowsUptoRow : OpenClaim := { program := "ytiacmfgkbgfhkaa", sum := "9402b500bcf08c8ad2cfab6bff2daa8ca0437427f220a672688d9afb649d5b1a", func := "oubliette/oubliettelaw03.LabelFlows", spec := "labelFlows", apart := false, narrowed := true }
def LabelFlowsUptoSaid : Prop := labelFlowsUptoRow.holds Try.pinned (OpenSpec.upto labelFlowsSpec)

/-- 'oubliettelaw03.LabelTells', WHERE WHAT IT READS IS OF BULK AT MOST 1048576: true; the input reads as it did. -/
def labelTellsUptoRow : OpenClaim := { program := "ytiacmfgkbgfhkaa", sum := "9402b500bcf08c8ad2cfab6bff2daa8ca0437427f220a672688d9afb649d5b1a", func := "oubliette/oubliettelaw03.LabelTells", spec := "labelTells", apart := false, narrowed := true }
def LabelTellsUptoSaid : Prop := labelTellsUptoRow.holds Try.pinned (OpenSpec.upto labelTellsSpec)

/-- 'oubliettelaw03.LabelJoins', WHERE WHAT IT READS IS OF BULK AT MOST 1048576: true; the input reads as it did. -/
def labelJoinsUptoRow : OpenClaim := { program := "ytiacmfgkbgfhkaa", sum := "9402b500bcf08c8ad2cfab6bff2daa8ca0437427f220a672688d9afb649d5b1a", func := "oubliette/oubliettelaw03.LabelJoins", spec := "labelJoins", apart := false, narrowed := true }
def LabelJoinsUptoSaid : Prop := labelJoinsUptoRow.holds Try.pinned (OpenSpec.upto labelJoinsSpec)

/-- 'oubliettelaw03.LabelOf', WHERE WHAT IT READS IS OF BULK AT MOST 1048576: true; the input reads as it did. -/
def labelOfUptoRow : OpenClaim := { program := "ytiacmfgkbgfhkaa", sum := "9402b500bcf08c8ad2cfab6bff2daa8ca0437427f220a672688d9afb649d5b1a", func := "oubliette/oubliettelaw03.LabelOf", spec := "labelOf", apart := false, narrowed := true }
def LabelOfUptoSaid : Prop := labelOfUptoRow.holds Try.pinned (OpenSpec.upto labelOfSpec)

/-- 'oubliettelaw03.LabelAll', WHERE WHAT IT READS IS OF BULK AT MOST 1048576: true; the input reads as it did. -/
def labelAllUptoRow : OpenClaim := { program := "ytiacmfgkbgfhkaa", sum := "9402b500bcf08c8ad2cfab6bff2daa8ca0437427f220a672688d9afb649d5b1a", func := "oubliette/oubliettelaw03.LabelAll", spec := "labelAll", unfollowed := true, recurses := true, apart := false, narrowed := true }
def LabelAllUptoSaid : Prop := labelAllUptoRow.holds Try.pinned (OpenSpec.upto labelAllSpec)

/-- 'oubliettelaw08.LinmemWorks', WHERE WHAT IT READS IS OF BULK AT MOST 1048576: true; the input reads as it did. -/
def linmemWorksUptoRow : OpenClaim := { program := "ytiacmfgkbgfhkaa", sum := "9402b500bcf08c8ad2cfab6bff2daa8ca0437427f220a672688d9afb649d5b1a", func := "oubliette/oubliettelaw08.LinmemWorks", spec := "linmemWorks", apart := false, narrowed := true }
def LinmemWorksUptoSaid : Prop := linmemWorksUptoRow.holds Try.pinned (OpenSpec.upto linmemWorksSpec)

/-- 'oubliettelaw08.LinmemBack', WHERE WHAT IT READS IS OF BULK AT MOST 1048576: true; the input reads as it did. -/
def linmemBackUptoRow : OpenClaim := { program := "ytiacmfgkbgfhkaa", sum := "9402b500bcf08c8ad2cfab6bff2daa8ca0437427f220a672688d9afb649d5b1a", func := "oubliette/oubliettelaw08.LinmemBack", spec := "linmemBack", apart := false, narrowed := true }
def LinmemBackUptoSaid : Prop := linmemBackUptoRow.holds Try.pinned (OpenSpec.upto linmemBackSpec)

/-- 'oubliettelaw08.LinmemHalves', WHERE WHAT IT READS IS OF BULK AT MOST 1048576: true; the input reads as it did. -/
def linmemHalvesUptoRow : OpenClaim := { program := "ytiacmfgkbgfhkaa", sum := "9402b500bcf08c8ad2cfab6bff2daa8ca0437427f220a672688d9afb649d5b1a", func := "oubliette/oubliettelaw08.LinmemHalves", spec := "linmemHalves", apart := false, narrowed := true }
def LinmemHalvesUptoSaid : Prop := linmemHalvesUptoRow.holds Try.pinned (OpenSpec.upto linmemHalvesSpec)

/-- 'oubliettelaw08.LinmemData', WHERE WHAT IT READS IS OF BULK AT MOST 1048576: true; the input reads as it did. -/
def linmemDataUptoRow : OpenClaim := { program := "ytiacmfgkbgfhkaa", sum := "9402b500bcf08c8ad2cfab6bff2daa8ca0437427f220a672688d9afb649d5b1a", func := "oubliette/oubliettelaw08.LinmemData", spec := "linmemData", apart := false, narrowed := true }
def LinmemDataUptoSaid : Prop := linmemDataUptoRow.holds Try.pinned (OpenSpec.upto linmemDataSpec)

/-- 'oubliettelaw08.LinmemApplies', WHERE WHAT IT READS IS OF BULK AT MOST 1048576: true; the input reads as it did. -/
def linmemAppliesUptoRow : OpenClaim := { program := "ytiacmfgkbgfhkaa", sum := "9402b500bcf08c8ad2cfab6bff2daa8ca0437427f220a672688d9afb649d5b1a", func := "oubliette/oubliettelaw08.LinmemApplies", spec := "linmemApplies", apart := false, narrowed := true }
def LinmemAppliesUptoSaid : Prop := linmemAppliesUptoRow.holds Try.pinned (OpenSpec.upto linmemAppliesSpec)

/-- 'oubliettelaw08.LinmemWrites', WHERE WHAT IT READS IS OF BULK AT MOST 1048576: true; the input reads as it did. -/
def linmemWritesUptoRow : OpenClaim := { program := "ytiacmfgkbgfhkaa", sum := "9402b500bcf08c8ad2cfab6bff2daa8ca0437427f220a672688d9afb649d5b1a", func := "oubliette/oubliettelaw08.LinmemWrites", spec := "linmemWrites", apart := false, narrowed := true }
def LinmemWritesUptoSaid : Prop := linmemWritesUptoRow.holds Try.pinned (OpenSpec.upto linmemWritesSpec)

end Rows
end Go.Proofs.Ytiacmfgkbgfhkaa
