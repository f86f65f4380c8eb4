/-
  DERIVED. GIVEN WITH THE SEED: THE CARDS: each row of YtkfinaongajhmaaDoorRows.lean that lists a variable, with what it lists TIED to the program's text (the seventh form; the later family's looks); each row that meets fmt, with fmt's text TOLD by the authors' own Lean function (tested against real Go, not proved from fmt's source: count such statements apart). THE CARD IS WHAT COUNTS. Prove the row's statement (the work); the ties are given (YtkfinaongajhmaaDoorTie.lean); close each card by the builder's one call (the guide's Derived/Test/ToyasCard.lean, 'card_holds'). Laid BY PROGRAM, IN A SANDBOX (cutbox-door.mjs). By AI agents, Wed Nov 11 2026. No macro, syntax, notation, axiom, sorry.
-/
import Derived.Test.YtkfinaongajhmaaDoorRows
import GoSem.ClaimSeven
namespace Go.Proofs.YtkfinaongajhmaaDoor
namespace Rows

/-- THE TIED CARD OF 'oubliettelaw11.XcodeWrites'. -/
def xcodeWritesCard : Claim7 := { stood := { row := xcodeWritesRow, standIns := [], harness := (true, "5d22cd3383b779a579622890dab15e09d810f8b566145adb861793338ebf502d"), looks := false }, kinds := [], alts := [], laidByText := true, laidKinds := [.data], laidTests := true, laidLooks := .later }
def XcodeWritesCardSaid : Prop := Claim7.holds Tryd.pinned (.plain (OpenSpec.ofChange xcodeWritesSpec)) xcodeWritesCard

/-- THE TIED CARD OF 'oubliettelaw11.XcodeReads'. -/
def xcodeReadsCard : Claim7 := { stood := { row := xcodeReadsRow, standIns := [], harness := (true, "5d22cd3383b779a579622890dab15e09d810f8b566145adb861793338ebf502d"), looks := false }, kinds := [], alts := [], laidByText := true, laidKinds := [.data], laidTests := true, laidLooks := .later }
def XcodeReadsCardSaid : Prop := Claim7.holds Tryd.pinned (.plain (OpenSpec.ofChange xcodeReadsSpec)) xcodeReadsCard

/-- THE TIED CARD OF 'oubliettelaw11.XcodeBack'. -/
def xcodeBackCard : Claim7 := { stood := { row := xcodeBackRow, standIns := [], harness := (true, "5d22cd3383b779a579622890dab15e09d810f8b566145adb861793338ebf502d"), looks := false }, kinds := [], alts := [], laidByText := true, laidKinds := [.data], laidTests := true, laidLooks := .later }
def XcodeBackCardSaid : Prop := Claim7.holds Tryd.pinned (.plain (OpenSpec.ofChange xcodeBackSpec)) xcodeBackCard

/-- THE TIED CARD OF 'oubliettelaw11.XcodeApart'. -/
def xcodeApartCard : Claim7 := { stood := { row := xcodeApartRow, standIns := [], harness := (true, "5d22cd3383b779a579622890dab15e09d810f8b566145adb861793338ebf502d"), looks := false }, kinds := [], alts := [], laidByText := true, laidKinds := [.data], laidTests := true, laidLooks := .later }
def XcodeApartCardSaid : Prop := Claim7.holds Tryd.pinned (.plain (OpenSpec.ofChange xcodeApartSpec)) xcodeApartCard

/-- THE TIED CARD OF 'oubliettelaw11.XcodeFields'. -/
def xcodeFieldsCard : Claim7 := { stood := { row := xcodeFieldsRow, standIns := [], harness := (true, "5d22cd3383b779a579622890dab15e09d810f8b566145adb861793338ebf502d"), looks := false }, kinds := [], alts := [], laidByText := true, laidKinds := [.data], laidTests := true, laidLooks := .later }
def XcodeFieldsCardSaid : Prop := Claim7.holds Tryd.pinned (.plain (OpenSpec.ofChange xcodeFieldsSpec)) xcodeFieldsCard

/-- THE TIED CARD OF 'oubliettelaw11.XcodeSizes'. -/
def xcodeSizesCard : Claim7 := { stood := { row := xcodeSizesRow, standIns := [], harness := (true, "5d22cd3383b779a579622890dab15e09d810f8b566145adb861793338ebf502d"), looks := false }, kinds := [], alts := [], laidByText := true, laidKinds := [.data], laidTests := true, laidLooks := .later }
def XcodeSizesCardSaid : Prop := Claim7.holds Tryd.pinned (.plain (OpenSpec.ofChange xcodeSizesSpec)) xcodeSizesCard

/-- THE TIED CARD OF 'oubliettelaw11.XcodeAll'. -/
def xcodeAllCard : Claim7 := { stood := { row := xcodeAllRow, standIns := [], harness := (true, "5d22cd3383b779a579622890dab15e09d810f8b566145adb861793338ebf502d"), looks := false }, kinds := [], alts := [], laidByText := true, laidKinds := [.data], laidTests := true, laidLooks := .later }
def XcodeAllCardSaid : Prop := Claim7.holds Tryd.pinned (.plain (OpenSpec.ofChange xcodeAllSpec)) xcodeAllCard

/-- THE TIED CARD OF 'oubliettelaw13.AsmLays'. -/
def asmLaysCard : Claim7 := { stood := { row := asmLaysRow, standIns := [], harness := (true, "5d22cd3383b779a579622890dab15e09d810f8b566145adb861793338ebf502d"), looks := false }, kinds := [], alts := [], laidByText := true, laidKinds := [.data], laidTests := true, laidLooks := .later }
def AsmLaysCardSaid : Prop := Claim7.holds Tryd.pinned (.plain (OpenSpec.ofChange asmLaysSpec)) asmLaysCard

/-- THE TIED CARD OF 'oubliettelaw13.AsmStarts'. -/
def asmStartsCard : Claim7 := { stood := { row := asmStartsRow, standIns := [], harness := (true, "5d22cd3383b779a579622890dab15e09d810f8b566145adb861793338ebf502d"), looks := false }, kinds := [], alts := [], laidByText := true, laidKinds := [.data], laidTests := true, laidLooks := .later }
def AsmStartsCardSaid : Prop := Claim7.holds Tryd.pinned (.plain (OpenSpec.ofChange asmStartsSpec)) asmStartsCard

/-- THE TIED CARD OF 'oubliettelaw13.AsmJumps'. -/
def asmJumpsCard : Claim7 := { stood := { row := asmJumpsRow, standIns := [], harness := (true, "5d22cd3383b779a579622890dab15e09d810f8b566145adb861793338ebf502d"), looks := false }, kinds := [], alts := [], laidByText := true, laidKinds := [.data], laidTests := true, laidLooks := .later }
def AsmJumpsCardSaid : Prop := Claim7.holds Tryd.pinned (.plain (OpenSpec.ofChange asmJumpsSpec)) asmJumpsCard

/-- THE TIED CARD OF 'oubliettelaw13.AsmNames'. -/
def asmNamesCard : Claim7 := { stood := { row := asmNamesRow, standIns := [], harness := (true, "5d22cd3383b779a579622890dab15e09d810f8b566145adb861793338ebf502d"), looks := false }, kinds := [], alts := [], laidByText := true, laidKinds := [.data], laidTests := true, laidLooks := .later }
def AsmNamesCardSaid : Prop := Claim7.holds Tryd.pinned (.plain (OpenSpec.ofChange asmNamesSpec)) asmNamesCard

/-- THE TIED CARD OF 'oubliettelaw13.AsmTwo'. -/
def asmTwoCard : Claim7 := { stood := { row := asmTwoRow, standIns := [], harness := (true, "5d22cd3383b779a579622890dab15e09d810f8b566145adb861793338ebf502d"), looks := false }, kinds := [], alts := [], laidByText := true, laidKinds := [.data], laidTests := true, laidLooks := .later }
def AsmTwoCardSaid : Prop := Claim7.holds Tryd.pinned (.plain (OpenSpec.ofChange asmTwoSpec)) asmTwoCard

/-- THE SECOND FORM's CARD OF 'oubliettelaw11.XcodeWrites'. -/
def xcodeWritesUptoCard : Claim7 := { stood := { row := xcodeWritesUptoRow, standIns := [], harness := (true, "5d22cd3383b779a579622890dab15e09d810f8b566145adb861793338ebf502d"), looks := false }, kinds := [], alts := [], laidByText := true, laidKinds := [.data], laidTests := true, laidLooks := .later }
def XcodeWritesUptoCardSaid : Prop := Claim7.holds Tryd.pinned (.plain (OpenSpec.upto xcodeWritesSpec)) xcodeWritesUptoCard

/-- THE SECOND FORM's CARD OF 'oubliettelaw11.XcodeReads'. -/
def xcodeReadsUptoCard : Claim7 := { stood := { row := xcodeReadsUptoRow, standIns := [], harness := (true, "5d22cd3383b779a579622890dab15e09d810f8b566145adb861793338ebf502d"), looks := false }, kinds := [], alts := [], laidByText := true, laidKinds := [.data], laidTests := true, laidLooks := .later }
def XcodeReadsUptoCardSaid : Prop := Claim7.holds Tryd.pinned (.plain (OpenSpec.upto xcodeReadsSpec)) xcodeReadsUptoCard

/-- THE SECOND FORM's CARD OF 'oubliettelaw11.XcodeBack'. -/
def xcodeBackUptoCard : Claim7 := { stood := { row := xcodeBackUptoRow, standIns := [], harness := (true, "5d22cd3383b779a579622890dab15e09d810f8b566145adb861793338ebf502d"), looks := false }, kinds := [], alts := [], laidByText := true, laidKinds := [.data], laidTests := true, laidLooks := .later }
def XcodeBackUptoCardSaid : Prop := Claim7.holds Tryd.pinned (.plain (OpenSpec.upto xcodeBackSpec)) xcodeBackUptoCard

/-- THE SECOND FORM's CARD OF 'oubliettelaw11.XcodeApart'. -/
def xcodeApartUptoCard : Claim7 := { stood := { row := xcodeApartUptoRow, standIns := [], harness := (true, "5d22cd3383b779a579622890dab15e09d810f8b566145adb861793338ebf502d"), looks := false }, kinds := [], alts := [], laidByText := true, laidKinds := [.data], laidTests := true, laidLooks := .later }
def XcodeApartUptoCardSaid : Prop := Claim7.holds Tryd.pinned (.plain (OpenSpec.upto xcodeApartSpec)) xcodeApartUptoCard

/-- THE SECOND FORM's CARD OF 'oubliettelaw11.XcodeFields'. -/
def xcodeFieldsUptoCard : Claim7 := { stood := { row := xcodeFieldsUptoRow, standIns := [], harness := (true, "5d22cd3383b779a579622890dab15e09d810f8b566145adb861793338ebf502d"), looks := false }, kinds := [], alts := [], laidByText := true, laidKinds := [.data], laidTests := true, laidLooks := .later }
def XcodeFieldsUptoCardSaid : Prop := Claim7.holds Tryd.pinned (.plain (OpenSpec.upto xcodeFieldsSpec)) xcodeFieldsUptoCard

/-- THE SECOND FORM's CARD OF 'oubliettelaw11.XcodeSizes'. -/
def xcodeSizesUptoCard : Claim7 := { stood := { row := xcodeSizesUptoRow, standIns := [], harness := (true, "5d22cd3383b779a579622890dab15e09d810f8b566145adb861793338ebf502d"), looks := false }, kinds := [], alts := [], laidByText := true, laidKinds := [.data], laidTests := true, laidLooks := .later }
def XcodeSizesUptoCardSaid : Prop := Claim7.holds Tryd.pinned (.plain (OpenSpec.upto xcodeSizesSpec)) xcodeSizesUptoCard

/-- THE SECOND FORM's CARD OF 'oubliettelaw11.XcodeAll'. -/
def xcodeAllUptoCard : Claim7 := { stood := { row := xcodeAllUptoRow, standIns := [], harness := (true, "5d22cd3383b779a579622890dab15e09d810f8b566145adb861793338ebf502d"), looks := false }, kinds := [], alts := [], laidByText := true, laidKinds := [.data], laidTests := true, laidLooks := .later }
def XcodeAllUptoCardSaid : Prop := Claim7.holds Tryd.pinned (.plain (OpenSpec.upto xcodeAllSpec)) xcodeAllUptoCard

/-- THE SECOND FORM's CARD OF 'oubliettelaw13.AsmLays'. -/
def asmLaysUptoCard : Claim7 := { stood := { row := asmLaysUptoRow, standIns := [], harness := (true, "5d22cd3383b779a579622890dab15e09d810f8b566145adb861793338ebf502d"), looks := false }, kinds := [], alts := [], laidByText := true, laidKinds := [.data], laidTests := true, laidLooks := .later }
def AsmLaysUptoCardSaid : Prop := Claim7.holds Tryd.pinned (.plain (OpenSpec.upto asmLaysSpec)) asmLaysUptoCard

/-- THE SECOND FORM's CARD OF 'oubliettelaw13.AsmStarts'. -/
def asmStartsUptoCard : Claim7 := { stood := { row := asmStartsUptoRow, standIns := [], harness := (true, "5d22cd3383b779a579622890dab15e09d810f8b566145adb861793338ebf502d"), looks := false }, kinds := [], alts := [], laidByText := true, laidKinds := [.data], laidTests := true, laidLooks := .later }
def AsmStartsUptoCardSaid : Prop := Claim7.holds Tryd.pinned (.plain (OpenSpec.upto asmStartsSpec)) asmStartsUptoCard

/-- THE SECOND FORM's CARD OF 'oubliettelaw13.AsmJumps'. -/
def asmJumpsUptoCard : Claim7 := { stood := { row := asmJumpsUptoRow, standIns := [], harness := (true, "5d22cd3383b779a579622890dab15e09d810f8b566145adb861793338ebf502d"), looks := false }, kinds := [], alts := [], laidByText := true, laidKinds := [.data], laidTests := true, laidLooks := .later }
def AsmJumpsUptoCardSaid : Prop := Claim7.holds Tryd.pinned (.plain (OpenSpec.upto asmJumpsSpec)) asmJumpsUptoCard

/-- THE SECOND FORM's CARD OF 'oubliettelaw13.AsmNames'. -/
def asmNamesUptoCard : Claim7 := { stood := { row := asmNamesUptoRow, standIns := [], harness := (true, "5d22cd3383b779a579622890dab15e09d810f8b566145adb861793338ebf502d"), looks := false }, kinds := [], alts := [], laidByText := true, laidKinds := [.data], laidTests := true, laidLooks := .later }
def AsmNamesUptoCardSaid : Prop := Claim7.holds Tryd.pinned (.plain (OpenSpec.upto asmNamesSpec)) asmNamesUptoCard

/-- THE SECOND FORM's CARD OF 'oubliettelaw13.AsmTwo'. -/
def asmTwoUptoCard : Claim7 := { stood := { row := asmTwoUptoRow, standIns := [], harness := (true, "5d22cd3383b779a579622890dab15e09d810f8b566145adb861793338ebf502d"), looks := false }, kinds := [], alts := [], laidByText := true, laidKinds := [.data], laidTests := true, laidLooks := .later }
def AsmTwoUptoCardSaid : Prop := Claim7.holds Tryd.pinned (.plain (OpenSpec.upto asmTwoSpec)) asmTwoUptoCard
end Rows
end Go.Proofs.YtkfinaongajhmaaDoor
