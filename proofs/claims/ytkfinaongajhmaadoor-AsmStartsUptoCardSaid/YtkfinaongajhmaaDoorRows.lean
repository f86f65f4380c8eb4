/-
  NARROWER THAN 'FOR EVERY INPUT', by the rows' own cells (each row's printed sentence says how): XcodeWrites: laid · XcodeReads: laid · XcodeBack: laid · XcodeApart: laid · XcodeFields: laid · XcodeSizes: laid · XcodeAll: laid · AsmLays: laid · AsmStarts: laid · AsmJumps: laid · AsmNames: laid · AsmTwo: laid.
  DERIVED. THE GIVEN ROWS OF THIS SEAT. 12 by the template 'for every input the law returns true; each argument reads behind the call as it read before'; 0 by the template 'total and deterministic' (their statements: YtkfinaongajhmaaDoorTotals.lean).
  GIVEN WITH THE SEED: the statements are not yours to turn. If you find one false, say at which input.
  Laid BY PROGRAM, IN A SANDBOX (cutbox-rows.mjs): the forced cells as the released guide's own fill.sh prints them over the translation fd6043cd7009cc0d… (all of the seat's roots in one cut). By AI agents, Wed Nov 11 2026. No macro, syntax, notation, axiom, sorry.
-/
import Derived.Test.YtkfinaongajhmaaDoorChecked
import GoSem.Claim
import GoSem.ClaimJoined
import GoSem.ClaimMapViews
import Derived.JoinedTies
import Derived.KernelRfl
namespace Go.Proofs.YtkfinaongajhmaaDoor
/- THE CELL 'sum', in the pinned program and in every row, IS THE sha256 OF THE DUMP (.gsa) THAT YtkfinaongajhmaaDoorProg.lean LOADS. Nothing in Lean hashes anything: it is a label: what it is worth is what the hold of that sum in a sandbox is worth. -/
noncomputable def Tryd.pinned : Pinned := { name := "ytkfinaongajhmaadoor", sum := "fd6043cd7009cc0d81373918ae7e5ec028c91401bdf47447f01de88d6a474ee4", checked := Tryd.checked }
namespace Rows
def none {H : Type} : Left H := { results := [], args := [] }

/- WHAT THE LISTED PACKAGE-LEVEL VARIABLES READ AS WHEN THE CALL BEGINS. Each datum BY PROGRAM (the guide's laid-datum.mjs) off the statement by which the dump's own 'gosem.cut.vars' lays the variable. In a bare row this is a premise. The card (YtkfinaongajhmaaDoorCards.lean) ties it to the program's text. -/
def laid_oubliette_xcode_conds {H : Type} : DataW H := .agg [.lit (.bool false), .lit (.bool false), .lit (.bool true), .lit (.bool true), .lit (.bool true), .lit (.bool true), .lit (.bool true), .lit (.bool true), .lit (.bool false), .lit (.bool false), .lit (.bool false), .lit (.bool false), .lit (.bool true), .lit (.bool true), .lit (.bool true), .lit (.bool true)]

/-- 'oubliettelaw11.XcodeWrites': WHATEVER THE INPUT: true; the input reads as it did. -/
def xcodeWritesSpec : ChangeSpec := { name := "xcodeWrites", fn := fun _ => fun
  | [d] => { results := [.lit (.bool true)], args := [d] }
  | _ => none }
def xcodeWritesRow : OpenClaim := { program := "ytkfinaongajhmaadoor", sum := "fd6043cd7009cc0d81373918ae7e5ec028c91401bdf47447f01de88d6a474ee4", func := "oubliette/oubliettelaw11.XcodeWrites", spec := "xcodeWrites", inPlace := ["internal/abi.NoEscape"], unfollowed := true, recurses := true, named := ["oubliette/xcode.conds"], apart := false, laid := [("oubliette/xcode.conds", laid_oubliette_xcode_conds)] }
def XcodeWritesSaid : Prop := xcodeWritesRow.holds Tryd.pinned (OpenSpec.ofChange xcodeWritesSpec)

/-- ITS FALSE NEIGHBOUR: 'it returns false'. Refute it at one input. -/
def xcodeWritesWrong : ChangeSpec := { name := "xcodeWrites", fn := fun _ => fun
  | [d] => { results := [.lit (.bool false)], args := [d] }
  | _ => none }
def XcodeWritesWrongFalsely : Prop := xcodeWritesRow.holds Tryd.pinned (OpenSpec.ofChange xcodeWritesWrong)

/-- 'oubliettelaw11.XcodeReads': WHATEVER THE INPUT: true; the input reads as it did. -/
def xcodeReadsSpec : ChangeSpec := { name := "xcodeReads", fn := fun _ => fun
  | [d] => { results := [.lit (.bool true)], args := [d] }
  | _ => none }
def xcodeReadsRow : OpenClaim := { program := "ytkfinaongajhmaadoor", sum := "fd6043cd7009cc0d81373918ae7e5ec028c91401bdf47447f01de88d6a474ee4", func := "oubliette/oubliettelaw11.XcodeReads", spec := "xcodeReads", inPlace := ["internal/abi.NoEscape"], unfollowed := true, recurses := true, named := ["oubliette/xcode.conds"], apart := false, laid := [("oubliette/xcode.conds", laid_oubliette_xcode_conds)] }
def XcodeReadsSaid : Prop := xcodeReadsRow.holds Tryd.pinned (OpenSpec.ofChange xcodeReadsSpec)

/-- ITS FALSE NEIGHBOUR: 'it returns false'. Refute it at one input. -/
def xcodeReadsWrong : ChangeSpec := { name := "xcodeReads", fn := fun _ => fun
  | [d] => { results := [.lit (.bool false)], args := [d] }
  | _ => none }
def XcodeReadsWrongFalsely : Prop := xcodeReadsRow.holds Tryd.pinned (OpenSpec.ofChange xcodeReadsWrong)

/-- 'oubliettelaw11.XcodeBack': WHATEVER THE INPUT: true; the input reads as it did. -/
def xcodeBackSpec : ChangeSpec := { name := "xcodeBack", fn := fun _ => fun
  | [d1, d2, d3] => { results := [.lit (.bool true)], args := [d1, d2, d3] }
  | _ => none }
def xcodeBackRow : OpenClaim := { program := "ytkfinaongajhmaadoor", sum := "fd6043cd7009cc0d81373918ae7e5ec028c91401bdf47447f01de88d6a474ee4", func := "oubliette/oubliettelaw11.XcodeBack", spec := "xcodeBack", inPlace := ["internal/abi.NoEscape"], unfollowed := true, recurses := true, named := ["oubliette/xcode.conds"], apart := false, laid := [("oubliette/xcode.conds", laid_oubliette_xcode_conds)] }
def XcodeBackSaid : Prop := xcodeBackRow.holds Tryd.pinned (OpenSpec.ofChange xcodeBackSpec)

/-- ITS FALSE NEIGHBOUR: 'it returns false'. Refute it at one input. -/
def xcodeBackWrong : ChangeSpec := { name := "xcodeBack", fn := fun _ => fun
  | [d1, d2, d3] => { results := [.lit (.bool false)], args := [d1, d2, d3] }
  | _ => none }
def XcodeBackWrongFalsely : Prop := xcodeBackRow.holds Tryd.pinned (OpenSpec.ofChange xcodeBackWrong)

/-- 'oubliettelaw11.XcodeApart': WHATEVER THE INPUT: true; the input reads as it did. -/
def xcodeApartSpec : ChangeSpec := { name := "xcodeApart", fn := fun _ => fun
  | [d1, d2, d3] => { results := [.lit (.bool true)], args := [d1, d2, d3] }
  | _ => none }
def xcodeApartRow : OpenClaim := { program := "ytkfinaongajhmaadoor", sum := "fd6043cd7009cc0d81373918ae7e5ec028c91401bdf47447f01de88d6a474ee4", func := "oubliette/oubliettelaw11.XcodeApart", spec := "xcodeApart", inPlace := ["internal/abi.NoEscape"], unfollowed := true, recurses := true, named := ["oubliette/xcode.conds"], apart := false, laid := [("oubliette/xcode.conds", laid_oubliette_xcode_conds)] }
def XcodeApartSaid : Prop := xcodeApartRow.holds Tryd.pinned (OpenSpec.ofChange xcodeApartSpec)

/-- ITS FALSE NEIGHBOUR: 'it returns false'. Refute it at one input. -/
def xcodeApartWrong : ChangeSpec := { name := "xcodeApart", fn := fun _ => fun
  | [d1, d2, d3] => { results := [.lit (.bool false)], args := [d1, d2, d3] }
  | _ => none }
def XcodeApartWrongFalsely : Prop := xcodeApartRow.holds Tryd.pinned (OpenSpec.ofChange xcodeApartWrong)

/-- 'oubliettelaw11.XcodeFields': WHATEVER THE INPUT: true; the input reads as it did. -/
def xcodeFieldsSpec : ChangeSpec := { name := "xcodeFields", fn := fun _ => fun
  | [d1, d2] => { results := [.lit (.bool true)], args := [d1, d2] }
  | _ => none }
def xcodeFieldsRow : OpenClaim := { program := "ytkfinaongajhmaadoor", sum := "fd6043cd7009cc0d81373918ae7e5ec028c91401bdf47447f01de88d6a474ee4", func := "oubliette/oubliettelaw11.XcodeFields", spec := "xcodeFields", inPlace := ["internal/abi.NoEscape"], unfollowed := true, recurses := true, named := ["oubliette/xcode.conds"], apart := false, laid := [("oubliette/xcode.conds", laid_oubliette_xcode_conds)] }
def XcodeFieldsSaid : Prop := xcodeFieldsRow.holds Tryd.pinned (OpenSpec.ofChange xcodeFieldsSpec)

/-- ITS FALSE NEIGHBOUR: 'it returns false'. Refute it at one input. -/
def xcodeFieldsWrong : ChangeSpec := { name := "xcodeFields", fn := fun _ => fun
  | [d1, d2] => { results := [.lit (.bool false)], args := [d1, d2] }
  | _ => none }
def XcodeFieldsWrongFalsely : Prop := xcodeFieldsRow.holds Tryd.pinned (OpenSpec.ofChange xcodeFieldsWrong)

/-- 'oubliettelaw11.XcodeSizes': WHATEVER THE INPUT: true; the input reads as it did. -/
def xcodeSizesSpec : ChangeSpec := { name := "xcodeSizes", fn := fun _ => fun
  | [d] => { results := [.lit (.bool true)], args := [d] }
  | _ => none }
def xcodeSizesRow : OpenClaim := { program := "ytkfinaongajhmaadoor", sum := "fd6043cd7009cc0d81373918ae7e5ec028c91401bdf47447f01de88d6a474ee4", func := "oubliette/oubliettelaw11.XcodeSizes", spec := "xcodeSizes", inPlace := ["internal/abi.NoEscape"], unfollowed := true, recurses := true, named := ["oubliette/xcode.conds"], apart := false, laid := [("oubliette/xcode.conds", laid_oubliette_xcode_conds)] }
def XcodeSizesSaid : Prop := xcodeSizesRow.holds Tryd.pinned (OpenSpec.ofChange xcodeSizesSpec)

/-- ITS FALSE NEIGHBOUR: 'it returns false'. Refute it at one input. -/
def xcodeSizesWrong : ChangeSpec := { name := "xcodeSizes", fn := fun _ => fun
  | [d] => { results := [.lit (.bool false)], args := [d] }
  | _ => none }
def XcodeSizesWrongFalsely : Prop := xcodeSizesRow.holds Tryd.pinned (OpenSpec.ofChange xcodeSizesWrong)

/-- 'oubliettelaw11.XcodeAll': WHATEVER THE INPUT: true; the input reads as it did. -/
def xcodeAllSpec : ChangeSpec := { name := "xcodeAll", fn := fun _ => fun
  | [d] => { results := [.lit (.bool true)], args := [d] }
  | _ => none }
def xcodeAllRow : OpenClaim := { program := "ytkfinaongajhmaadoor", sum := "fd6043cd7009cc0d81373918ae7e5ec028c91401bdf47447f01de88d6a474ee4", func := "oubliette/oubliettelaw11.XcodeAll", spec := "xcodeAll", inPlace := ["internal/abi.NoEscape"], unfollowed := true, recurses := true, named := ["oubliette/xcode.conds"], apart := false, laid := [("oubliette/xcode.conds", laid_oubliette_xcode_conds)] }
def XcodeAllSaid : Prop := xcodeAllRow.holds Tryd.pinned (OpenSpec.ofChange xcodeAllSpec)

/-- ITS FALSE NEIGHBOUR: 'it returns false'. Refute it at one input. -/
def xcodeAllWrong : ChangeSpec := { name := "xcodeAll", fn := fun _ => fun
  | [d] => { results := [.lit (.bool false)], args := [d] }
  | _ => none }
def XcodeAllWrongFalsely : Prop := xcodeAllRow.holds Tryd.pinned (OpenSpec.ofChange xcodeAllWrong)

/-- 'oubliettelaw13.AsmLays': WHATEVER THE INPUT: true; the input reads as it did. -/
def asmLaysSpec : ChangeSpec := { name := "asmLays", fn := fun _ => fun
  | [d] => { results := [.lit (.bool true)], args := [d] }
  | _ => none }
def asmLaysRow : OpenClaim := { program := "ytkfinaongajhmaadoor", sum := "fd6043cd7009cc0d81373918ae7e5ec028c91401bdf47447f01de88d6a474ee4", func := "oubliette/oubliettelaw13.AsmLays", spec := "asmLays", inPlace := ["internal/abi.NoEscape"], unfollowed := true, recurses := true, named := ["oubliette/xcode.conds"], apart := false, laid := [("oubliette/xcode.conds", laid_oubliette_xcode_conds)] }
def AsmLaysSaid : Prop := asmLaysRow.holds Tryd.pinned (OpenSpec.ofChange asmLaysSpec)

/-- ITS FALSE NEIGHBOUR: 'it returns false'. Refute it at one input. -/
def asmLaysWrong : ChangeSpec := { name := "asmLays", fn := fun _ => fun
  | [d] => { results := [.lit (.bool false)], args := [d] }
  | _ => none }
def AsmLaysWrongFalsely : Prop := asmLaysRow.holds Tryd.pinned (OpenSpec.ofChange asmLaysWrong)

/-- 'oubliettelaw13.AsmStarts': WHATEVER THE INPUT: true; the input reads as it did. -/
def asmStartsSpec : ChangeSpec := { name := "asmStarts", fn := fun _ => fun
  | [d] => { results := [.lit (.bool true)], args := [d] }
  | _ => none }
def asmStartsRow : OpenClaim := { program := "ytkfinaongajhmaadoor", sum := "fd6043cd7009cc0d81373918ae7e5ec028c91401bdf47447f01de88d6a474ee4", func := "oubliette/oubliettelaw13.AsmStarts", spec := "asmStarts", inPlace := ["internal/abi.NoEscape"], unfollowed := true, recurses := true, named := ["oubliette/xcode.conds"], apart := false, laid := [("oubliette/xcode.conds", laid_oubliette_xcode_conds)] }
def AsmStartsSaid : Prop := asmStartsRow.holds Tryd.pinned (OpenSpec.ofChange asmStartsSpec)

/-- ITS FALSE NEIGHBOUR: 'it returns false'. Refute it at one input. -/
def asmStartsWrong : ChangeSpec := { name := "asmStarts", fn := fun _ => fun
  | [d] => { results := [.lit (.bool false)], args := [d] }
  | _ => none }
def AsmStartsWrongFalsely : Prop := asmStartsRow.holds Tryd.pinned (OpenSpec.ofChange asmStartsWrong)

/-- 'oubliettelaw13.AsmJumps': WHATEVER THE INPUT: true; the input reads as it did. -/
def asmJumpsSpec : ChangeSpec := { name := "asmJumps", fn := fun _ => fun
  | [d] => { results := [.lit (.bool true)], args := [d] }
  | _ => none }
def asmJumpsRow : OpenClaim := { program := "ytkfinaongajhmaadoor", sum := "fd6043cd7009cc0d81373918ae7e5ec028c91401bdf47447f01de88d6a474ee4", func := "oubliette/oubliettelaw13.AsmJumps", spec := "asmJumps", inPlace := ["internal/abi.NoEscape"], unfollowed := true, recurses := true, named := ["oubliette/xcode.conds"], apart := false, laid := [("oubliette/xcode.conds", laid_oubliette_xcode_conds)] }
def AsmJumpsSaid : Prop := asmJumpsRow.holds Tryd.pinned (OpenSpec.ofChange asmJumpsSpec)

/-- ITS FALSE NEIGHBOUR: 'it returns false'. Refute it at one input. -/
def asmJumpsWrong : ChangeSpec := { name := "asmJumps", fn := fun _ => fun
  | [d] => { results := [.lit (.bool false)], args := [d] }
  | _ => none }
def AsmJumpsWrongFalsely : Prop := asmJumpsRow.holds Tryd.pinned (OpenSpec.ofChange asmJumpsWrong)

/-- 'oubliettelaw13.AsmNames': WHATEVER THE INPUT: true; the input reads as it did. -/
def asmNamesSpec : ChangeSpec := { name := "asmNames", fn := fun _ => fun
  | [d1, d2] => { results := [.lit (.bool true)], args := [d1, d2] }
  | _ => none }
def asmNamesRow : OpenClaim := { program := "ytkfinaongajhmaadoor", sum := "fd6043cd7009cc0d81373918ae7e5ec028c91401bdf47447f01de88d6a474ee4", func := "oubliette/oubliettelaw13.AsmNames", spec := "asmNames", inPlace := ["internal/abi.NoEscape"], unfollowed := true, recurses := true, named := ["oubliette/xcode.conds"], apart := false, laid := [("oubliette/xcode.conds", laid_oubliette_xcode_conds)] }
def AsmNamesSaid : Prop := asmNamesRow.holds Tryd.pinned (OpenSpec.ofChange asmNamesSpec)

/-- ITS FALSE NEIGHBOUR: 'it returns false'. Refute it at one input. -/
def asmNamesWrong : ChangeSpec := { name := "asmNames", fn := fun _ => fun
  | [d1, d2] => { results := [.lit (.bool false)], args := [d1, d2] }
  | _ => none }
def AsmNamesWrongFalsely : Prop := asmNamesRow.holds Tryd.pinned (OpenSpec.ofChange asmNamesWrong)

/-- 'oubliettelaw13.AsmTwo': WHATEVER THE INPUT: true; the input reads as it did. -/
def asmTwoSpec : ChangeSpec := { name := "asmTwo", fn := fun _ => fun
  | [d1, d2] => { results := [.lit (.bool true)], args := [d1, d2] }
  | _ => none }
def asmTwoRow : OpenClaim := { program := "ytkfinaongajhmaadoor", sum := "fd6043cd7009cc0d81373918ae7e5ec028c91401bdf47447f01de88d6a474ee4", func := "oubliette/oubliettelaw13.AsmTwo", spec := "asmTwo", inPlace := ["internal/abi.NoEscape"], unfollowed := true, recurses := true, named := ["oubliette/xcode.conds"], apart := false, laid := [("oubliette/xcode.conds", laid_oubliette_xcode_conds)] }
def AsmTwoSaid : Prop := asmTwoRow.holds Tryd.pinned (OpenSpec.ofChange asmTwoSpec)

/-- ITS FALSE NEIGHBOUR: 'it returns false'. Refute it at one input. -/
def asmTwoWrong : ChangeSpec := { name := "asmTwo", fn := fun _ => fun
  | [d1, d2] => { results := [.lit (.bool false)], args := [d1, d2] }
  | _ => none }
def AsmTwoWrongFalsely : Prop := asmTwoRow.holds Tryd.pinned (OpenSpec.ofChange asmTwoWrong)

/- THE SECOND FORM. 'bulk': how many values and letters a reading holds, each counted each time it is reached (what is shared counts as often as it is met; a slice's spare places count too). A statement '..UptoSaid' is the law's where the arguments, and the package variables that the reading takes, are together of bulk at most 1048576: NARROWER than '..Said'. Prove '..Said' where nothing that the law and all that it calls make is longer than what came in: it says more and counts as full. Else prove '..UptoSaid'. A law counts once. -/
mutual
def uptoBulk {H : Type} : DataW H → Nat
  | .lit (.string bytes) => bytes.length + 1
  | .lit _ => 1
  | .nil => 1
  | .ptr d => uptoBulk d + 1
  | .slice elems spare => uptoBulkAll elems + uptoBulkAll spare + 1
  | .agg parts => uptoBulkAll parts + 1
  | .iface _ d => uptoBulk d + 1
  | .map entries => uptoBulkEntries entries + 1
  | .held _ => 1
def uptoBulkAll {H : Type} : List (DataW H) → Nat
  | [] => 0
  | d :: r => uptoBulk d + uptoBulkAll r
def uptoBulkEntries {H : Type} : List (Lit × DataW H) → Nat
  | [] => 0
  | x :: r => uptoBulkEntry x + uptoBulkEntries r
def uptoBulkEntry {H : Type} : Lit × DataW H → Nat
  | (.string bytes, d) => bytes.length + uptoBulk d + 1
  | (_, d) => uptoBulk d + 1
 end
def uptoSmall : (H : Type) → List (DataW H) → Bool := fun _ ds => decide (uptoBulkAll ds ≤ 1048576)
def OpenSpec.upto (s : _root_.Go.ChangeSpec) : _root_.Go.OpenSpec := { _root_.Go.OpenSpec.ofChange s with cond := some uptoSmall }

/-- 'oubliettelaw11.XcodeWrites', WHERE WHAT IT READS IS OF BULK AT MOST 1048576: true; the input reads as it did. -/
def xcodeWritesUptoRow : OpenClaim := { program := "ytkfinaongajhmaadoor", sum := "fd6043cd7009cc0d81373918ae7e5ec028c91401bdf47447f01de88d6a474ee4", func := "oubliette/oubliettelaw11.XcodeWrites", spec := "xcodeWrites", inPlace := ["internal/abi.NoEscape"], unfollowed := true, recurses := true, named := ["oubliette/xcode.conds"], apart := false, laid := [("oubliette/xcode.conds", laid_oubliette_xcode_conds)], narrowed := true }
def XcodeWritesUptoSaid : Prop := xcodeWritesUptoRow.holds Tryd.pinned (OpenSpec.upto xcodeWritesSpec)

/-- 'oubliettelaw11.XcodeReads', WHERE WHAT IT READS IS OF BULK AT MOST 1048576: true; the input reads as it did. -/
def xcodeReadsUptoRow : OpenClaim := { program := "ytkfinaongajhmaadoor", sum := "fd6043cd7009cc0d81373918ae7e5ec028c91401bdf47447f01de88d6a474ee4", func := "oubliette/oubliettelaw11.XcodeReads", spec := "xcodeReads", inPlace := ["internal/abi.NoEscape"], unfollowed := true, recurses := true, named := ["oubliette/xcode.conds"], apart := false, laid := [("oubliette/xcode.conds", laid_oubliette_xcode_conds)], narrowed := true }
def XcodeReadsUptoSaid : Prop := xcodeReadsUptoRow.holds Tryd.pinned (OpenSpec.upto xcodeReadsSpec)

/-- 'oubliettelaw11.XcodeBack', WHERE WHAT IT READS IS OF BULK AT MOST 1048576: true; the input reads as it did. -/
def xcodeBackUptoRow : OpenClaim := { program := "ytkfinaongajhmaadoor", sum := "fd6043cd7009cc0d81373918ae7e5ec028c91401bdf47447f01de88d6a474ee4", func := "oubliette/oubliettelaw11.XcodeBack", spec := "xcodeBack", inPlace := ["internal/abi.NoEscape"], unfollowed := true, recurses := true, named := ["oubliette/xcode.conds"], apart := false, laid := [("oubliette/xcode.conds", laid_oubliette_xcode_conds)], narrowed := true }
def XcodeBackUptoSaid : Prop := xcodeBackUptoRow.holds Tryd.pinned (OpenSpec.upto xcodeBackSpec)

/-- 'oubliettelaw11.XcodeApart', WHERE WHAT IT READS IS OF BULK AT MOST 1048576: true; the input reads as it did. -/
def xcodeApartUptoRow : OpenClaim := { program := "ytkfinaongajhmaadoor", sum := "fd6043cd7009cc0d81373918ae7e5ec028c91401bdf47447f01de88d6a474ee4", func := "oubliette/oubliettelaw11.XcodeApart", spec := "xcodeApart", inPlace := ["internal/abi.NoEscape"], unfollowed := true, recurses := true, named := ["oubliette/xcode.conds"], apart := false, laid := [("oubliette/xcode.conds", laid_oubliette_xcode_conds)], narrowed := true }
def XcodeApartUptoSaid : Prop := xcodeApartUptoRow.holds Tryd.pinned (OpenSpec.upto xcodeApartSpec)

/-- 'oubliettelaw11.XcodeFields', WHERE WHAT IT READS IS OF BULK AT MOST 1048576: true; the input reads as it did. -/
def xcodeFieldsUptoRow : OpenClaim := { program := "ytkfinaongajhmaadoor", sum := "fd6043cd7009cc0d81373918ae7e5ec028c91401bdf47447f01de88d6a474ee4", func := "oubliette/oubliettelaw11.XcodeFields", spec := "xcodeFields", inPlace := ["internal/abi.NoEscape"], unfollowed := true, recurses := true, named := ["oubliette/xcode.conds"], apart := false, laid := [("oubliette/xcode.conds", laid_oubliette_xcode_conds)], narrowed := true }
def XcodeFieldsUptoSaid : Prop := xcodeFieldsUptoRow.holds Tryd.pinned (OpenSpec.upto xcodeFieldsSpec)

/-- 'oubliettelaw11.XcodeSizes', WHERE WHAT IT READS IS OF BULK AT MOST 1048576: true; the input reads as it did. -/
def xcodeSizesUptoRow : OpenClaim := { program := "ytkfinaongajhmaadoor", sum := "fd6043cd7009cc0d81373918ae7e5ec028c91401bdf47447f01de88d6a474ee4", func := "oubliette/oubliettelaw11.XcodeSizes", spec := "xcodeSizes", inPlace := ["internal/abi.NoEscape"], unfollowed := true, recurses := true, named := ["oubliette/xcode.conds"], apart := false, laid := [("oubliette/xcode.conds", laid_oubliette_xcode_conds)], narrowed := true }
def XcodeSizesUptoSaid : Prop := xcodeSizesUptoRow.holds Tryd.pinned (OpenSpec.upto xcodeSizesSpec)

/-- 'oubliettelaw11.XcodeAll', WHERE WHAT IT READS IS OF BULK AT MOST 1048576: true; the input reads as it did. -/
def xcodeAllUptoRow : OpenClaim := { program := "ytkfinaongajhmaadoor", sum := "fd6043cd7009cc0d81373918ae7e5ec028c91401bdf47447f01de88d6a474ee4", func := "oubliette/oubliettelaw11.XcodeAll", spec := "xcodeAll", inPlace := ["internal/abi.NoEscape"], unfollowed := true, recurses := true, named := ["oubliette/xcode.conds"], apart := false, laid := [("oubliette/xcode.conds", laid_oubliette_xcode_conds)], narrowed := true }
def XcodeAllUptoSaid : Prop := xcodeAllUptoRow.holds Tryd.pinned (OpenSpec.upto xcodeAllSpec)

/-- 'oubliettelaw13.AsmLays', WHERE WHAT IT READS IS OF BULK AT MOST 1048576: true; the input reads as it did. -/
def asmLaysUptoRow : OpenClaim := { program := "ytkfinaongajhmaadoor", sum := "fd6043cd7009cc0d81373918ae7e5ec028c91401bdf47447f01de88d6a474ee4", func := "oubliette/oubliettelaw13.AsmLays", spec := "asmLays", inPlace := ["internal/abi.NoEscape"], unfollowed := true, recurses := true, named := ["oubliette/xcode.conds"], apart := false, laid := [("oubliette/xcode.conds", laid_oubliette_xcode_conds)], narrowed := true }
def AsmLaysUptoSaid : Prop := asmLaysUptoRow.holds Tryd.pinned (OpenSpec.upto asmLaysSpec)

/-- 'oubliettelaw13.AsmStarts', WHERE WHAT IT READS IS OF BULK AT MOST 1048576: true; the input reads as it did. -/
def asmStartsUptoRow : OpenClaim := { program := "ytkfinaongajhmaadoor", sum := "fd6043cd7009cc0d81373918ae7e5ec028c91401bdf47447f01de88d6a474ee4", func := "oubliette/oubliettelaw13.AsmStarts", spec := "asmStarts", inPlace := ["internal/abi.NoEscape"], unfollowed := true, recurses := true, named := ["oubliette/xcode.conds"], apart := false, laid := [("oubliette/xcode.conds", laid_oubliette_xcode_conds)], narrowed := true }
def AsmStartsUptoSaid : Prop := asmStartsUptoRow.holds Tryd.pinned (OpenSpec.upto asmStartsSpec)

/-- 'oubliettelaw13.AsmJumps', WHERE WHAT IT READS IS OF BULK AT MOST 1048576: true; the input reads as it did. -/
def asmJumpsUptoRow : OpenClaim := { program := "ytkfinaongajhmaadoor", sum := "fd6043cd7009cc0d81373918ae7e5ec028c91401bdf47447f01de88d6a474ee4", func := "oubliette/oubliettelaw13.AsmJumps", spec := "asmJumps", inPlace := ["internal/abi.NoEscape"], unfollowed := true, recurses := true, named := ["oubliette/xcode.conds"], apart := false, laid := [("oubliette/xcode.conds", laid_oubliette_xcode_conds)], narrowed := true }
def AsmJumpsUptoSaid : Prop := asmJumpsUptoRow.holds Tryd.pinned (OpenSpec.upto asmJumpsSpec)

/-- 'oubliettelaw13.AsmNames', WHERE WHAT IT READS IS OF BULK AT MOST 1048576: true; the input reads as it did. -/
def asmNamesUptoRow : OpenClaim := { program := "ytkfinaongajhmaadoor", sum := "fd6043cd7009cc0d81373918ae7e5ec028c91401bdf47447f01de88d6a474ee4", func := "oubliette/oubliettelaw13.AsmNames", spec := "asmNames", inPlace := ["internal/abi.NoEscape"], unfollowed := true, recurses := true, named := ["oubliette/xcode.conds"], apart := false, laid := [("oubliette/xcode.conds", laid_oubliette_xcode_conds)], narrowed := true }
def AsmNamesUptoSaid : Prop := asmNamesUptoRow.holds Tryd.pinned (OpenSpec.upto asmNamesSpec)

/-- 'oubliettelaw13.AsmTwo', WHERE WHAT IT READS IS OF BULK AT MOST 1048576: true; the input reads as it did. -/
def asmTwoUptoRow : OpenClaim := { program := "ytkfinaongajhmaadoor", sum := "fd6043cd7009cc0d81373918ae7e5ec028c91401bdf47447f01de88d6a474ee4", func := "oubliette/oubliettelaw13.AsmTwo", spec := "asmTwo", inPlace := ["internal/abi.NoEscape"], unfollowed := true, recurses := true, named := ["oubliette/xcode.conds"], apart := false, laid := [("oubliette/xcode.conds", laid_oubliette_xcode_conds)], narrowed := true }
def AsmTwoUptoSaid : Prop := asmTwoUptoRow.holds Tryd.pinned (OpenSpec.upto asmTwoSpec)

end Rows
end Go.Proofs.YtkfinaongajhmaaDoor
