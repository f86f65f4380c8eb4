/-
  NARROWER THAN 'FOR EVERY INPUT', by the rows' own cells (each row's printed sentence says how): XstepKeeps: laid · XstepTwo: laid · XstepPuts: laid · XstepCalls: laid · XstepMoves: laid · FrameTells: laid · FrameLays: laid · FrameApart: laid · FrameStarts: laid · FrameSaves: laid.
  DERIVED. THE GIVEN ROWS OF THIS SEAT. 10 by the template 'for every input the law returns true; each argument reads behind the call as it read before'; 0 by the template 'total and deterministic' (their statements: YtgaiehnbjggmdaaDoorTotals.lean).
  GIVEN WITH THE SEED: the statements are not yours to turn. If you find one false, say at which input.
  Laid BY PROGRAM, IN A SANDBOX (cutbox-rows.mjs): the forced cells as the released guide's own fill.sh prints them over the translation b071a203c83f870c… (all of the seat's roots in one cut). By AI agents, Wed Nov 11 2026. No macro, syntax, notation, axiom, sorry.
-/
import Derived.Test.YtgaiehnbjggmdaaDoorChecked
import GoSem.Claim
import GoSem.ClaimJoined
import GoSem.ClaimMapViews
import Derived.JoinedTies
import Derived.KernelRfl
namespace Go.Proofs.YtgaiehnbjggmdaaDoor
/- THE CELL 'sum', in the pinned program and in every row, IS THE sha256 OF THE DUMP (.gsa) THAT YtgaiehnbjggmdaaDoorProg.lean LOADS. Nothing in Lean hashes anything: it is a label: what it is worth is what the hold of that sum in a sandbox is worth. -/
noncomputable def Tryd.pinned : Pinned := { name := "ytgaiehnbjggmdaadoor", sum := "b071a203c83f870c6485e36f41f535b5de83f1cc6ce0914223a711a0ccf38914", checked := Tryd.checked }
namespace Rows
def none {H : Type} : Left H := { results := [], args := [] }

/- WHAT THE LISTED PACKAGE-LEVEL VARIABLES READ AS WHEN THE CALL BEGINS. Each datum BY PROGRAM (the guide's laid-datum.mjs) off the statement by which the dump's own 'gosem.cut.vars' lays the variable. In a bare row this is a premise. The card (YtgaiehnbjggmdaaDoorCards.lean) ties it to the program's text. -/
def laid_oubliette_xcode_conds {H : Type} : DataW H := .agg [.lit (.bool false), .lit (.bool false), .lit (.bool true), .lit (.bool true), .lit (.bool true), .lit (.bool true), .lit (.bool true), .lit (.bool true), .lit (.bool false), .lit (.bool false), .lit (.bool false), .lit (.bool false), .lit (.bool true), .lit (.bool true), .lit (.bool true), .lit (.bool true)]
def laid_oubliette_frame_registers {H : Type} : DataW H := .agg [.lit (.int .i64 3), .lit (.int .i64 5), .lit (.int .i64 6), .lit (.int .i64 7), .lit (.int .i64 8), .lit (.int .i64 9)]

/-- 'oubliettelaw12.XstepKeeps': WHATEVER THE INPUT: true; the input reads as it did. -/
def xstepKeepsSpec : ChangeSpec := { name := "xstepKeeps", fn := fun _ => fun
  | [d1, d2] => { results := [.lit (.bool true)], args := [d1, d2] }
  | _ => none }
def xstepKeepsRow : OpenClaim := { program := "ytgaiehnbjggmdaadoor", sum := "b071a203c83f870c6485e36f41f535b5de83f1cc6ce0914223a711a0ccf38914", func := "oubliette/oubliettelaw12.XstepKeeps", spec := "xstepKeeps", inPlace := ["internal/abi.NoEscape"], unfollowed := true, recurses := true, named := ["oubliette/xcode.conds", "math/bits.divideError", "math/bits.overflowError"], apart := false, laid := [("oubliette/xcode.conds", laid_oubliette_xcode_conds)] }
def XstepKeepsSaid : Prop := xstepKeepsRow.holds Tryd.pinned (OpenSpec.ofChange xstepKeepsSpec)

/-- ITS FALSE NEIGHBOUR: 'it returns false'. Refute it at one input. -/
def xstepKeepsWrong : ChangeSpec := { name := "xstepKeeps", fn := fun _ => fun
  | [d1, d2] => { results := [.lit (.bool false)], args := [d1, d2] }
  | _ => none }
def XstepKeepsWrongFalsely : Prop := xstepKeepsRow.holds Tryd.pinned (OpenSpec.ofChange xstepKeepsWrong)

/-- 'oubliettelaw12.XstepTwo': WHATEVER THE INPUT: true; the input reads as it did. -/
def xstepTwoSpec : ChangeSpec := { name := "xstepTwo", fn := fun _ => fun
  | [d1, d2, d3] => { results := [.lit (.bool true)], args := [d1, d2, d3] }
  | _ => none }
def xstepTwoRow : OpenClaim := { program := "ytgaiehnbjggmdaadoor", sum := "b071a203c83f870c6485e36f41f535b5de83f1cc6ce0914223a711a0ccf38914", func := "oubliette/oubliettelaw12.XstepTwo", spec := "xstepTwo", inPlace := ["internal/abi.NoEscape"], unfollowed := true, recurses := true, named := ["oubliette/xcode.conds", "math/bits.divideError", "math/bits.overflowError"], apart := false, laid := [("oubliette/xcode.conds", laid_oubliette_xcode_conds)] }
def XstepTwoSaid : Prop := xstepTwoRow.holds Tryd.pinned (OpenSpec.ofChange xstepTwoSpec)

/-- ITS FALSE NEIGHBOUR: 'it returns false'. Refute it at one input. -/
def xstepTwoWrong : ChangeSpec := { name := "xstepTwo", fn := fun _ => fun
  | [d1, d2, d3] => { results := [.lit (.bool false)], args := [d1, d2, d3] }
  | _ => none }
def XstepTwoWrongFalsely : Prop := xstepTwoRow.holds Tryd.pinned (OpenSpec.ofChange xstepTwoWrong)

/-- 'oubliettelaw12.XstepPuts': WHATEVER THE INPUT: true; the input reads as it did. -/
def xstepPutsSpec : ChangeSpec := { name := "xstepPuts", fn := fun _ => fun
  | [d1, d2, d3, d4, d5] => { results := [.lit (.bool true)], args := [d1, d2, d3, d4, d5] }
  | _ => none }
def xstepPutsRow : OpenClaim := { program := "ytgaiehnbjggmdaadoor", sum := "b071a203c83f870c6485e36f41f535b5de83f1cc6ce0914223a711a0ccf38914", func := "oubliette/oubliettelaw12.XstepPuts", spec := "xstepPuts", inPlace := ["internal/abi.NoEscape"], unfollowed := true, recurses := true, named := ["oubliette/xcode.conds", "math/bits.divideError", "math/bits.overflowError"], apart := false, laid := [("oubliette/xcode.conds", laid_oubliette_xcode_conds)] }
def XstepPutsSaid : Prop := xstepPutsRow.holds Tryd.pinned (OpenSpec.ofChange xstepPutsSpec)

/-- ITS FALSE NEIGHBOUR: 'it returns false'. Refute it at one input. -/
def xstepPutsWrong : ChangeSpec := { name := "xstepPuts", fn := fun _ => fun
  | [d1, d2, d3, d4, d5] => { results := [.lit (.bool false)], args := [d1, d2, d3, d4, d5] }
  | _ => none }
def XstepPutsWrongFalsely : Prop := xstepPutsRow.holds Tryd.pinned (OpenSpec.ofChange xstepPutsWrong)

/-- 'oubliettelaw12.XstepCalls': WHATEVER THE INPUT: true; the input reads as it did. -/
def xstepCallsSpec : ChangeSpec := { name := "xstepCalls", fn := fun _ => fun
  | [d1, d2] => { results := [.lit (.bool true)], args := [d1, d2] }
  | _ => none }
def xstepCallsRow : OpenClaim := { program := "ytgaiehnbjggmdaadoor", sum := "b071a203c83f870c6485e36f41f535b5de83f1cc6ce0914223a711a0ccf38914", func := "oubliette/oubliettelaw12.XstepCalls", spec := "xstepCalls", inPlace := ["internal/abi.NoEscape"], unfollowed := true, recurses := true, named := ["oubliette/xcode.conds", "math/bits.divideError", "math/bits.overflowError"], apart := false, laid := [("oubliette/xcode.conds", laid_oubliette_xcode_conds)] }
def XstepCallsSaid : Prop := xstepCallsRow.holds Tryd.pinned (OpenSpec.ofChange xstepCallsSpec)

/-- ITS FALSE NEIGHBOUR: 'it returns false'. Refute it at one input. -/
def xstepCallsWrong : ChangeSpec := { name := "xstepCalls", fn := fun _ => fun
  | [d1, d2] => { results := [.lit (.bool false)], args := [d1, d2] }
  | _ => none }
def XstepCallsWrongFalsely : Prop := xstepCallsRow.holds Tryd.pinned (OpenSpec.ofChange xstepCallsWrong)

/-- 'oubliettelaw12.XstepMoves': WHATEVER THE INPUT: true; the input reads as it did. -/
def xstepMovesSpec : ChangeSpec := { name := "xstepMoves", fn := fun _ => fun
  | [d1, d2, d3, d4] => { results := [.lit (.bool true)], args := [d1, d2, d3, d4] }
  | _ => none }
def xstepMovesRow : OpenClaim := { program := "ytgaiehnbjggmdaadoor", sum := "b071a203c83f870c6485e36f41f535b5de83f1cc6ce0914223a711a0ccf38914", func := "oubliette/oubliettelaw12.XstepMoves", spec := "xstepMoves", inPlace := ["internal/abi.NoEscape"], unfollowed := true, recurses := true, named := ["oubliette/xcode.conds", "math/bits.divideError", "math/bits.overflowError"], apart := false, laid := [("oubliette/xcode.conds", laid_oubliette_xcode_conds)] }
def XstepMovesSaid : Prop := xstepMovesRow.holds Tryd.pinned (OpenSpec.ofChange xstepMovesSpec)

/-- ITS FALSE NEIGHBOUR: 'it returns false'. Refute it at one input. -/
def xstepMovesWrong : ChangeSpec := { name := "xstepMoves", fn := fun _ => fun
  | [d1, d2, d3, d4] => { results := [.lit (.bool false)], args := [d1, d2, d3, d4] }
  | _ => none }
def XstepMovesWrongFalsely : Prop := xstepMovesRow.holds Tryd.pinned (OpenSpec.ofChange xstepMovesWrong)

/-- 'oubliettelaw19.FrameTells': WHATEVER THE INPUT: true; the input reads as it did. -/
def frameTellsSpec : ChangeSpec := { name := "frameTells", fn := fun _ => fun
  | [d1, d2, d3, d4] => { results := [.lit (.bool true)], args := [d1, d2, d3, d4] }
  | _ => none }
def frameTellsRow : OpenClaim := { program := "ytgaiehnbjggmdaadoor", sum := "b071a203c83f870c6485e36f41f535b5de83f1cc6ce0914223a711a0ccf38914", func := "oubliette/oubliettelaw19.FrameTells", spec := "frameTells", named := ["oubliette/frame.registers"], apart := false, laid := [("oubliette/frame.registers", laid_oubliette_frame_registers)] }
def FrameTellsSaid : Prop := frameTellsRow.holds Tryd.pinned (OpenSpec.ofChange frameTellsSpec)

/-- ITS FALSE NEIGHBOUR: 'it returns false'. Refute it at one input. -/
def frameTellsWrong : ChangeSpec := { name := "frameTells", fn := fun _ => fun
  | [d1, d2, d3, d4] => { results := [.lit (.bool false)], args := [d1, d2, d3, d4] }
  | _ => none }
def FrameTellsWrongFalsely : Prop := frameTellsRow.holds Tryd.pinned (OpenSpec.ofChange frameTellsWrong)

/-- 'oubliettelaw19.FrameLays': WHATEVER THE INPUT: true; the input reads as it did. -/
def frameLaysSpec : ChangeSpec := { name := "frameLays", fn := fun _ => fun
  | [d1, d2, d3, d4] => { results := [.lit (.bool true)], args := [d1, d2, d3, d4] }
  | _ => none }
def frameLaysRow : OpenClaim := { program := "ytgaiehnbjggmdaadoor", sum := "b071a203c83f870c6485e36f41f535b5de83f1cc6ce0914223a711a0ccf38914", func := "oubliette/oubliettelaw19.FrameLays", spec := "frameLays", unfollowed := true, recurses := true, named := ["oubliette/frame.registers"], apart := false, laid := [("oubliette/frame.registers", laid_oubliette_frame_registers)] }
def FrameLaysSaid : Prop := frameLaysRow.holds Tryd.pinned (OpenSpec.ofChange frameLaysSpec)

/-- ITS FALSE NEIGHBOUR: 'it returns false'. Refute it at one input. -/
def frameLaysWrong : ChangeSpec := { name := "frameLays", fn := fun _ => fun
  | [d1, d2, d3, d4] => { results := [.lit (.bool false)], args := [d1, d2, d3, d4] }
  | _ => none }
def FrameLaysWrongFalsely : Prop := frameLaysRow.holds Tryd.pinned (OpenSpec.ofChange frameLaysWrong)

/-- 'oubliettelaw19.FrameApart': WHATEVER THE INPUT: true; the input reads as it did. -/
def frameApartSpec : ChangeSpec := { name := "frameApart", fn := fun _ => fun
  | [d1, d2] => { results := [.lit (.bool true)], args := [d1, d2] }
  | _ => none }
def frameApartRow : OpenClaim := { program := "ytgaiehnbjggmdaadoor", sum := "b071a203c83f870c6485e36f41f535b5de83f1cc6ce0914223a711a0ccf38914", func := "oubliette/oubliettelaw19.FrameApart", spec := "frameApart", unfollowed := true, recurses := true, named := ["oubliette/frame.registers"], apart := false, laid := [("oubliette/frame.registers", laid_oubliette_frame_registers)] }
def FrameApartSaid : Prop := frameApartRow.holds Tryd.pinned (OpenSpec.ofChange frameApartSpec)

/-- ITS FALSE NEIGHBOUR: 'it returns false'. Refute it at one input. -/
def frameApartWrong : ChangeSpec := { name := "frameApart", fn := fun _ => fun
  | [d1, d2] => { results := [.lit (.bool false)], args := [d1, d2] }
  | _ => none }
def FrameApartWrongFalsely : Prop := frameApartRow.holds Tryd.pinned (OpenSpec.ofChange frameApartWrong)

/-- 'oubliettelaw19.FrameStarts': WHATEVER THE INPUT: true; the input reads as it did. -/
def frameStartsSpec : ChangeSpec := { name := "frameStarts", fn := fun _ => fun
  | [d1, d2, d3, d4, d5] => { results := [.lit (.bool true)], args := [d1, d2, d3, d4, d5] }
  | _ => none }
def frameStartsRow : OpenClaim := { program := "ytgaiehnbjggmdaadoor", sum := "b071a203c83f870c6485e36f41f535b5de83f1cc6ce0914223a711a0ccf38914", func := "oubliette/oubliettelaw19.FrameStarts", spec := "frameStarts", unfollowed := true, recurses := true, named := ["oubliette/frame.registers"], apart := false, laid := [("oubliette/frame.registers", laid_oubliette_frame_registers)] }
def FrameStartsSaid : Prop := frameStartsRow.holds Tryd.pinned (OpenSpec.ofChange frameStartsSpec)

/-- ITS FALSE NEIGHBOUR: 'it returns false'. Refute it at one input. -/
def frameStartsWrong : ChangeSpec := { name := "frameStarts", fn := fun _ => fun
  | [d1, d2, d3, d4, d5] => { results := [.lit (.bool false)], args := [d1, d2, d3, d4, d5] }
  | _ => none }
def FrameStartsWrongFalsely : Prop := frameStartsRow.holds Tryd.pinned (OpenSpec.ofChange frameStartsWrong)

/-- 'oubliettelaw19.FrameSaves': WHATEVER THE INPUT: true; the input reads as it did. -/
def frameSavesSpec : ChangeSpec := { name := "frameSaves", fn := fun _ => fun
  | [d1, d2, d3, d4] => { results := [.lit (.bool true)], args := [d1, d2, d3, d4] }
  | _ => none }
def frameSavesRow : OpenClaim := { program := "ytgaiehnbjggmdaadoor", sum := "b071a203c83f870c6485e36f41f535b5de83f1cc6ce0914223a711a0ccf38914", func := "oubliette/oubliettelaw19.FrameSaves", spec := "frameSaves", inPlace := ["internal/abi.NoEscape"], unfollowed := true, recurses := true, named := ["oubliette/frame.registers", "oubliette/xcode.conds", "math/bits.divideError", "math/bits.overflowError"], apart := false, laid := [("oubliette/frame.registers", laid_oubliette_frame_registers), ("oubliette/xcode.conds", laid_oubliette_xcode_conds)] }
def FrameSavesSaid : Prop := frameSavesRow.holds Tryd.pinned (OpenSpec.ofChange frameSavesSpec)

/-- ITS FALSE NEIGHBOUR: 'it returns false'. Refute it at one input. -/
def frameSavesWrong : ChangeSpec := { name := "frameSaves", fn := fun _ => fun
  | [d1, d2, d3, d4] => { results := [.lit (.bool false)], args := [d1, d2, d3, d4] }
  | _ => none }
def FrameSavesWrongFalsely : Prop := frameSavesRow.holds Tryd.pinned (OpenSpec.ofChange frameSavesWrong)

/- THE SECOND FORM. 'bulk': how many values and letters a reading holds, each counted each time it is reached (what is shared counts as often as it is met; a slice's spare places count too). A statement '..UptoSaid' is the law's where the arguments, and the package variables that the reading takes, are together of bulk at most 1048576: NARROWER than '..Said'. Prove '..Said' where nothing that the law and all that it calls make is longer than what came in: it says more and counts as full. Else prove '..UptoSaid'. A law counts once. -/
mutual
def uptoBulk {H : Type} : DataW H → Nat
  | .lit (.string bytes) => bytes.length + 1
  | .lit _ => 1
  | .nil => 1
  | .ptr d => uptoBulk d + 1
  | .slice elems spare => uptoBulkAll elems + uptoBulkAll spare + 1
  | .agg parts => uptoBulkAll parts + 1
  | .iface _ d => uptoBulk d + 1
  | .map entries => uptoBulkEntries entries + 1
  | .held _ => 1
def uptoBulkAll {H : Type} : List (DataW H) → Nat
  | [] => 0
  | d :: r => uptoBulk d + uptoBulkAll r
def uptoBulkEntries {H : Type} : List (Lit × DataW H) → Nat
  | [] => 0
  | x :: r => uptoBulkEntry x + uptoBulkEntries r
def uptoBulkEntry {H : Type} : Lit × DataW H → Nat
  | (.string bytes, d) => bytes.length + uptoBulk d + 1
  | (_, d) => uptoBulk d + 1
 end
def uptoSmall : (H : Type) → List (DataW H) → Bool := fun _ ds => decide (uptoBulkAll ds ≤ 1048576)
def OpenSpec.upto (s : _root_.Go.ChangeSpec) : _root_.Go.OpenSpec := { _root_.Go.OpenSpec.ofChange s with cond := some uptoSmall }

/-- 'oubliettelaw12.XstepKeeps', WHERE WHAT IT READS IS OF BULK AT MOST 1048576: true; the input reads as it did. -/
def xstepKeepsUptoRow : OpenClaim := { program := "ytgaiehnbjggmdaadoor", sum := "b071a203c83f870c6485e36f41f535b5de83f1cc6ce0914223a711a0ccf38914", func := "oubliette/oubliettelaw12.XstepKeeps", spec := "xstepKeeps", inPlace := ["internal/abi.NoEscape"], unfollowed := true, recurses := true, named := ["oubliette/xcode.conds", "math/bits.divideError", "math/bits.overflowError"], apart := false, laid := [("oubliette/xcode.conds", laid_oubliette_xcode_conds)], narrowed := true }
def XstepKeepsUptoSaid : Prop := xstepKeepsUptoRow.holds Tryd.pinned (OpenSpec.upto xstepKeepsSpec)

/-- 'oubliettelaw12.XstepTwo', WHERE WHAT IT READS IS OF BULK AT MOST 1048576: true; the input reads as it did. -/
def xstepTwoUptoRow : OpenClaim := { program := "ytgaiehnbjggmdaadoor", sum := "b071a203c83f870c6485e36f41f535b5de83f1cc6ce0914223a711a0ccf38914", func := "oubliette/oubliettelaw12.XstepTwo", spec := "xstepTwo", inPlace := ["internal/abi.NoEscape"], unfollowed := true, recurses := true, named := ["oubliette/xcode.conds", "math/bits.divideError", "math/bits.overflowError"], apart := false, laid := [("oubliette/xcode.conds", laid_oubliette_xcode_conds)], narrowed := true }
def XstepTwoUptoSaid : Prop := xstepTwoUptoRow.holds Tryd.pinned (OpenSpec.upto xstepTwoSpec)

/-- 'oubliettelaw12.XstepPuts', WHERE WHAT IT READS IS OF BULK AT MOST 1048576: true; the input reads as it did. -/
def xstepPutsUptoRow : OpenClaim := { program := "ytgaiehnbjggmdaadoor", sum := "b071a203c83f870c6485e36f41f535b5de83f1cc6ce0914223a711a0ccf38914", func := "oubliette/oubliettelaw12.XstepPuts", spec := "xstepPuts", inPlace := ["internal/abi.NoEscape"], unfollowed := true, recurses := true, named := ["oubliette/xcode.conds", "math/bits.divideError", "math/bits.overflowError"], apart := false, laid := [("oubliette/xcode.conds", laid_oubliette_xcode_conds)], narrowed := true }
def XstepPutsUptoSaid : Prop := xstepPutsUptoRow.holds Tryd.pinned (OpenSpec.upto xstepPutsSpec)

/-- 'oubliettelaw12.XstepCalls', WHERE WHAT IT READS IS OF BULK AT MOST 1048576: true; the input reads as it did. -/
def xstepCallsUptoRow : OpenClaim := { program := "ytgaiehnbjggmdaadoor", sum := "b071a203c83f870c6485e36f41f535b5de83f1cc6ce0914223a711a0ccf38914", func := "oubliette/oubliettelaw12.XstepCalls", spec := "xstepCalls", inPlace := ["internal/abi.NoEscape"], unfollowed := true, recurses := true, named := ["oubliette/xcode.conds", "math/bits.divideError", "math/bits.overflowError"], apart := false, laid := [("oubliette/xcode.conds", laid_oubliette_xcode_conds)], narrowed := true }
def XstepCallsUptoSaid : Prop := xstepCallsUptoRow.holds Tryd.pinned (OpenSpec.upto xstepCallsSpec)

/-- 'oubliettelaw12.XstepMoves', WHERE WHAT IT READS IS OF BULK AT MOST 1048576: true; the input reads as it did. -/
def xstepMovesUptoRow : OpenClaim := { program := "ytgaiehnbjggmdaadoor", sum := "b071a203c83f870c6485e36f41f535b5de83f1cc6ce0914223a711a0ccf38914", func := "oubliette/oubliettelaw12.XstepMoves", spec := "xstepMoves", inPlace := ["internal/abi.NoEscape"], unfollowed := true, recurses := true, named := ["oubliette/xcode.conds", "math/bits.divideError", "math/bits.overflowError"], apart := false, laid := [("oubliette/xcode.conds", laid_oubliette_xcode_conds)], narrowed := true }
def XstepMovesUptoSaid : Prop := xstepMovesUptoRow.holds Tryd.pinned (OpenSpec.upto xstepMovesSpec)

/-- 'oubliettelaw19.FrameTells', WHERE WHAT IT READS IS OF BULK AT MOST 1048576: true; the input reads as it did. -/
def frameTellsUptoRow : OpenClaim := { program := "ytgaiehnbjggmdaadoor", sum := "b071a203c83f870c6485e36f41f535b5de83f1cc6ce0914223a711a0ccf38914", func := "oubliette/oubliettelaw19.FrameTells", spec := "frameTells", named := ["oubliette/frame.registers"], apart := false, laid := [("oubliette/frame.registers", laid_oubliette_frame_registers)], narrowed := true }
def FrameTellsUptoSaid : Prop := frameTellsUptoRow.holds Tryd.pinned (OpenSpec.upto frameTellsSpec)

/-- 'oubliettelaw19.FrameLays', WHERE WHAT IT READS IS OF BULK AT MOST 1048576: true; the input reads as it did. -/
def frameLaysUptoRow : OpenClaim := { program := "ytgaiehnbjggmdaadoor", sum := "b071a203c83f870c6485e36f41f535b5de83f1cc6ce0914223a711a0ccf38914", func := "oubliette/oubliettelaw19.FrameLays", spec := "frameLays", unfollowed := true, recurses := true, named := ["oubliette/frame.registers"], apart := false, laid := [("oubliette/frame.registers", laid_oubliette_frame_registers)], narrowed := true }
def FrameLaysUptoSaid : Prop := frameLaysUptoRow.holds Tryd.pinned (OpenSpec.upto frameLaysSpec)

/-- 'oubliettelaw19.FrameApart', WHERE WHAT IT READS IS OF BULK AT MOST 1048576: true; the input reads as it did. -/
def frameApartUptoRow : OpenClaim := { program := "ytgaiehnbjggmdaadoor", sum := "b071a203c83f870c6485e36f41f535b5de83f1cc6ce0914223a711a0ccf38914", func := "oubliette/oubliettelaw19.FrameApart", spec := "frameApart", unfollowed := true, recurses := true, named := ["oubliette/frame.registers"], apart := false, laid := [("oubliette/frame.registers", laid_oubliette_frame_registers)], narrowed := true }
def FrameApartUptoSaid : Prop := frameApartUptoRow.holds Tryd.pinned (OpenSpec.upto frameApartSpec)

/-- 'oubliettelaw19.FrameStarts', WHERE WHAT IT READS IS OF BULK AT MOST 1048576: true; the input reads as it did. -/
def frameStartsUptoRow : OpenClaim := { program := "ytgaiehnbjggmdaadoor", sum := "b071a203c83f870c6485e36f41f535b5de83f1cc6ce0914223a711a0ccf38914", func := "oubliette/oubliettelaw19.FrameStarts", spec := "frameStarts", unfollowed := true, recurses := true, named := ["oubliette/frame.registers"], apart := false, laid := [("oubliette/frame.registers", laid_oubliette_frame_registers)], narrowed := true }
def FrameStartsUptoSaid : Prop := frameStartsUptoRow.holds Tryd.pinned (OpenSpec.upto frameStartsSpec)

/-- 'oubliettelaw19.FrameSaves', WHERE WHAT IT READS IS OF BULK AT MOST 1048576: true; the input reads as it did. -/
def frameSavesUptoRow : OpenClaim := { program := "ytgaiehnbjggmdaadoor", sum := "b071a203c83f870c6485e36f41f535b5de83f1cc6ce0914223a711a0ccf38914", func := "oubliette/oubliettelaw19.FrameSaves", spec := "frameSaves", inPlace := ["internal/abi.NoEscape"], unfollowed := true, recurses := true, named := ["oubliette/frame.registers", "oubliette/xcode.conds", "math/bits.divideError", "math/bits.overflowError"], apart := false, laid := [("oubliette/frame.registers", laid_oubliette_frame_registers), ("oubliette/xcode.conds", laid_oubliette_xcode_conds)], narrowed := true }
def FrameSavesUptoSaid : Prop := frameSavesUptoRow.holds Tryd.pinned (OpenSpec.upto frameSavesSpec)

end Rows
end Go.Proofs.YtgaiehnbjggmdaaDoor
