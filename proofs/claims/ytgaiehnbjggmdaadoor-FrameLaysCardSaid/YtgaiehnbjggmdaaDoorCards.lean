/-
  DERIVED. GIVEN WITH THE SEED: THE CARDS: each row of YtgaiehnbjggmdaaDoorRows.lean that lists a variable, with what it lists TIED to the program's text (the seventh form; the later family's looks); each row that meets fmt, with fmt's text TOLD by the authors' own Lean function (tested against real Go, not proved from fmt's source: count such statements apart). THE CARD IS WHAT COUNTS. Prove the row's statement (the work); the ties are given (YtgaiehnbjggmdaaDoorTie.lean); close each card by the builder's one call (the guide's Derived/Test/ToyasCard.lean, 'card_holds'). Laid BY PROGRAM, IN A SANDBOX (cutbox-door.mjs). By AI agents, Wed Nov 11 2026. No macro, syntax, notation, axiom, sorry.
-/
import Derived.Test.YtgaiehnbjggmdaaDoorRows
import GoSem.ClaimSeven
namespace Go.Proofs.YtgaiehnbjggmdaaDoor
namespace Rows

/-- THE TIED CARD OF 'oubliettelaw12.XstepKeeps'. -/
def xstepKeepsCard : Claim7 := { stood := { row := xstepKeepsRow, standIns := [], harness := (true, "90c70cf05beb4cd2e5e2ab495252c005a1cb0c50d6705b17d0a7c2bcde7dee37"), looks := false }, kinds := [], alts := [], laidByText := true, laidKinds := [.data], laidTests := true, laidLooks := .later }
def XstepKeepsCardSaid : Prop := Claim7.holds Tryd.pinned (.plain (OpenSpec.ofChange xstepKeepsSpec)) xstepKeepsCard

/-- THE TIED CARD OF 'oubliettelaw12.XstepTwo'. -/
def xstepTwoCard : Claim7 := { stood := { row := xstepTwoRow, standIns := [], harness := (true, "90c70cf05beb4cd2e5e2ab495252c005a1cb0c50d6705b17d0a7c2bcde7dee37"), looks := false }, kinds := [], alts := [], laidByText := true, laidKinds := [.data], laidTests := true, laidLooks := .later }
def XstepTwoCardSaid : Prop := Claim7.holds Tryd.pinned (.plain (OpenSpec.ofChange xstepTwoSpec)) xstepTwoCard

/-- THE TIED CARD OF 'oubliettelaw12.XstepPuts'. -/
def xstepPutsCard : Claim7 := { stood := { row := xstepPutsRow, standIns := [], harness := (true, "90c70cf05beb4cd2e5e2ab495252c005a1cb0c50d6705b17d0a7c2bcde7dee37"), looks := false }, kinds := [], alts := [], laidByText := true, laidKinds := [.data], laidTests := true, laidLooks := .later }
def XstepPutsCardSaid : Prop := Claim7.holds Tryd.pinned (.plain (OpenSpec.ofChange xstepPutsSpec)) xstepPutsCard

/-- THE TIED CARD OF 'oubliettelaw12.XstepCalls'. -/
def xstepCallsCard : Claim7 := { stood := { row := xstepCallsRow, standIns := [], harness := (true, "90c70cf05beb4cd2e5e2ab495252c005a1cb0c50d6705b17d0a7c2bcde7dee37"), looks := false }, kinds := [], alts := [], laidByText := true, laidKinds := [.data], laidTests := true, laidLooks := .later }
def XstepCallsCardSaid : Prop := Claim7.holds Tryd.pinned (.plain (OpenSpec.ofChange xstepCallsSpec)) xstepCallsCard

/-- THE TIED CARD OF 'oubliettelaw12.XstepMoves'. -/
def xstepMovesCard : Claim7 := { stood := { row := xstepMovesRow, standIns := [], harness := (true, "90c70cf05beb4cd2e5e2ab495252c005a1cb0c50d6705b17d0a7c2bcde7dee37"), looks := false }, kinds := [], alts := [], laidByText := true, laidKinds := [.data], laidTests := true, laidLooks := .later }
def XstepMovesCardSaid : Prop := Claim7.holds Tryd.pinned (.plain (OpenSpec.ofChange xstepMovesSpec)) xstepMovesCard

/-- THE TIED CARD OF 'oubliettelaw19.FrameTells'. -/
def frameTellsCard : Claim7 := { stood := { row := frameTellsRow, standIns := [], harness := (true, "90c70cf05beb4cd2e5e2ab495252c005a1cb0c50d6705b17d0a7c2bcde7dee37"), looks := false }, kinds := [], alts := [], laidByText := true, laidKinds := [.data], laidTests := true, laidLooks := .later }
def FrameTellsCardSaid : Prop := Claim7.holds Tryd.pinned (.plain (OpenSpec.ofChange frameTellsSpec)) frameTellsCard

/-- THE TIED CARD OF 'oubliettelaw19.FrameLays'. -/
def frameLaysCard : Claim7 := { stood := { row := frameLaysRow, standIns := [], harness := (true, "90c70cf05beb4cd2e5e2ab495252c005a1cb0c50d6705b17d0a7c2bcde7dee37"), looks := false }, kinds := [], alts := [], laidByText := true, laidKinds := [.data], laidTests := true, laidLooks := .later }
def FrameLaysCardSaid : Prop := Claim7.holds Tryd.pinned (.plain (OpenSpec.ofChange frameLaysSpec)) frameLaysCard

/-- THE TIED CARD OF 'oubliettelaw19.FrameApart'. -/
def frameApartCard : Claim7 := { stood := { row := frameApartRow, standIns := [], harness := (true, "90c70cf05beb4cd2e5e2ab495252c005a1cb0c50d6705b17d0a7c2bcde7dee37"), looks := false }, kinds := [], alts := [], laidByText := true, laidKinds := [.data], laidTests := true, laidLooks := .later }
def FrameApartCardSaid : Prop := Claim7.holds Tryd.pinned (.plain (OpenSpec.ofChange frameApartSpec)) frameApartCard

/-- THE TIED CARD OF 'oubliettelaw19.FrameStarts'. -/
def frameStartsCard : Claim7 := { stood := { row := frameStartsRow, standIns := [], harness := (true, "90c70cf05beb4cd2e5e2ab495252c005a1cb0c50d6705b17d0a7c2bcde7dee37"), looks := false }, kinds := [], alts := [], laidByText := true, laidKinds := [.data], laidTests := true, laidLooks := .later }
def FrameStartsCardSaid : Prop := Claim7.holds Tryd.pinned (.plain (OpenSpec.ofChange frameStartsSpec)) frameStartsCard

/-- THE TIED CARD OF 'oubliettelaw19.FrameSaves'. -/
def frameSavesCard : Claim7 := { stood := { row := frameSavesRow, standIns := [], harness := (true, "90c70cf05beb4cd2e5e2ab495252c005a1cb0c50d6705b17d0a7c2bcde7dee37"), looks := false }, kinds := [], alts := [], laidByText := true, laidKinds := [.data, .data], laidTests := true, laidLooks := .later }
def FrameSavesCardSaid : Prop := Claim7.holds Tryd.pinned (.plain (OpenSpec.ofChange frameSavesSpec)) frameSavesCard

/-- THE SECOND FORM's CARD OF 'oubliettelaw12.XstepKeeps'. -/
def xstepKeepsUptoCard : Claim7 := { stood := { row := xstepKeepsUptoRow, standIns := [], harness := (true, "90c70cf05beb4cd2e5e2ab495252c005a1cb0c50d6705b17d0a7c2bcde7dee37"), looks := false }, kinds := [], alts := [], laidByText := true, laidKinds := [.data], laidTests := true, laidLooks := .later }
def XstepKeepsUptoCardSaid : Prop := Claim7.holds Tryd.pinned (.plain (OpenSpec.upto xstepKeepsSpec)) xstepKeepsUptoCard

/-- THE SECOND FORM's CARD OF 'oubliettelaw12.XstepTwo'. -/
def xstepTwoUptoCard : Claim7 := { stood := { row := xstepTwoUptoRow, standIns := [], harness := (true, "90c70cf05beb4cd2e5e2ab495252c005a1cb0c50d6705b17d0a7c2bcde7dee37"), looks := false }, kinds := [], alts := [], laidByText := true, laidKinds := [.data], laidTests := true, laidLooks := .later }
def XstepTwoUptoCardSaid : Prop := Claim7.holds Tryd.pinned (.plain (OpenSpec.upto xstepTwoSpec)) xstepTwoUptoCard

/-- THE SECOND FORM's CARD OF 'oubliettelaw12.XstepPuts'. -/
def xstepPutsUptoCard : Claim7 := { stood := { row := xstepPutsUptoRow, standIns := [], harness := (true, "90c70cf05beb4cd2e5e2ab495252c005a1cb0c50d6705b17d0a7c2bcde7dee37"), looks := false }, kinds := [], alts := [], laidByText := true, laidKinds := [.data], laidTests := true, laidLooks := .later }
def XstepPutsUptoCardSaid : Prop := Claim7.holds Tryd.pinned (.plain (OpenSpec.upto xstepPutsSpec)) xstepPutsUptoCard

/-- THE SECOND FORM's CARD OF 'oubliettelaw12.XstepCalls'. -/
def xstepCallsUptoCard : Claim7 := { stood := { row := xstepCallsUptoRow, standIns := [], harness := (true, "90c70cf05beb4cd2e5e2ab495252c005a1cb0c50d6705b17d0a7c2bcde7dee37"), looks := false }, kinds := [], alts := [], laidByText := true, laidKinds := [.data], laidTests := true, laidLooks := .later }
def XstepCallsUptoCardSaid : Prop := Claim7.holds Tryd.pinned (.plain (OpenSpec.upto xstepCallsSpec)) xstepCallsUptoCard

/-- THE SECOND FORM's CARD OF 'oubliettelaw12.XstepMoves'. -/
def xstepMovesUptoCard : Claim7 := { stood := { row := xstepMovesUptoRow, standIns := [], harness := (true, "90c70cf05beb4cd2e5e2ab495252c005a1cb0c50d6705b17d0a7c2bcde7dee37"), looks := false }, kinds := [], alts := [], laidByText := true, laidKinds := [.data], laidTests := true, laidLooks := .later }
def XstepMovesUptoCardSaid : Prop := Claim7.holds Tryd.pinned (.plain (OpenSpec.upto xstepMovesSpec)) xstepMovesUptoCard

/-- THE SECOND FORM's CARD OF 'oubliettelaw19.FrameTells'. -/
def frameTellsUptoCard : Claim7 := { stood := { row := frameTellsUptoRow, standIns := [], harness := (true, "90c70cf05beb4cd2e5e2ab495252c005a1cb0c50d6705b17d0a7c2bcde7dee37"), looks := false }, kinds := [], alts := [], laidByText := true, laidKinds := [.data], laidTests := true, laidLooks := .later }
def FrameTellsUptoCardSaid : Prop := Claim7.holds Tryd.pinned (.plain (OpenSpec.upto frameTellsSpec)) frameTellsUptoCard

/-- THE SECOND FORM's CARD OF 'oubliettelaw19.FrameLays'. -/
def frameLaysUptoCard : Claim7 := { stood := { row := frameLaysUptoRow, standIns := [], harness := (true, "90c70cf05beb4cd2e5e2ab495252c005a1cb0c50d6705b17d0a7c2bcde7dee37"), looks := false }, kinds := [], alts := [], laidByText := true, laidKinds := [.data], laidTests := true, laidLooks := .later }
def FrameLaysUptoCardSaid : Prop := Claim7.holds Tryd.pinned (.plain (OpenSpec.upto frameLaysSpec)) frameLaysUptoCard

/-- THE SECOND FORM's CARD OF 'oubliettelaw19.FrameApart'. -/
def frameApartUptoCard : Claim7 := { stood := { row := frameApartUptoRow, standIns := [], harness := (true, "90c70cf05beb4cd2e5e2ab495252c005a1cb0c50d6705b17d0a7c2bcde7dee37"), looks := false }, kinds := [], alts := [], laidByText := true, laidKinds := [.data], laidTests := true, laidLooks := .later }
def FrameApartUptoCardSaid : Prop := Claim7.holds Tryd.pinned (.plain (OpenSpec.upto frameApartSpec)) frameApartUptoCard

/-- THE SECOND FORM's CARD OF 'oubliettelaw19.FrameStarts'. -/
def frameStartsUptoCard : Claim7 := { stood := { row := frameStartsUptoRow, standIns := [], harness := (true, "90c70cf05beb4cd2e5e2ab495252c005a1cb0c50d6705b17d0a7c2bcde7dee37"), looks := false }, kinds := [], alts := [], laidByText := true, laidKinds := [.data], laidTests := true, laidLooks := .later }
def FrameStartsUptoCardSaid : Prop := Claim7.holds Tryd.pinned (.plain (OpenSpec.upto frameStartsSpec)) frameStartsUptoCard

/-- THE SECOND FORM's CARD OF 'oubliettelaw19.FrameSaves'. -/
def frameSavesUptoCard : Claim7 := { stood := { row := frameSavesUptoRow, standIns := [], harness := (true, "90c70cf05beb4cd2e5e2ab495252c005a1cb0c50d6705b17d0a7c2bcde7dee37"), looks := false }, kinds := [], alts := [], laidByText := true, laidKinds := [.data, .data], laidTests := true, laidLooks := .later }
def FrameSavesUptoCardSaid : Prop := Claim7.holds Tryd.pinned (.plain (OpenSpec.upto frameSavesSpec)) frameSavesUptoCard
end Rows
end Go.Proofs.YtgaiehnbjggmdaaDoor
