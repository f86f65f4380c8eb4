/-
  DERIVED. GIVEN WITH THE SEED: THE CARDS: each row of YtlhhhkhbfnjkiaaDoorRows.lean that lists a variable, with what it lists TIED to the program's text (the seventh form; the later family's looks); each row that meets fmt, with fmt's text TOLD by the authors' own Lean function (tested against real Go, not proved from fmt's source: count such statements apart). THE CARD IS WHAT COUNTS. Prove the row's statement (the work); the ties are given (YtlhhhkhbfnjkiaaDoorTie.lean); close each card by the builder's one call (the guide's Derived/Test/ToyasCard.lean, 'card_holds'). Laid BY PROGRAM, IN A SANDBOX (cutbox-door.mjs). By AI agents, Wed Nov 11 2026. No macro, syntax, notation, axiom, sorry.
-/
import Derived.Test.YtlhhhkhbfnjkiaaDoorRows
import GoSem.ClaimSeven
namespace Go.Proofs.YtlhhhkhbfnjkiaaDoor
namespace Rows

/-- THE TIED CARD OF 'oubliettelaw19.FrameTells'. -/
def frameTellsCard : Claim7 := { stood := { row := frameTellsRow, standIns := [], harness := (true, "ce6163e7420b915a0a0efd7656ecca921191237b595dcd2de4addad5af7d4cf0"), looks := false }, kinds := [], alts := [], laidByText := true, laidKinds := [.data], laidTests := true, laidLooks := .later }
def FrameTellsCardSaid : Prop := Claim7.holds Tryd.pinned (.plain (OpenSpec.ofChange frameTellsSpec)) frameTellsCard

/-- THE TIED CARD OF 'oubliettelaw19.FrameLays'. -/
def frameLaysCard : Claim7 := { stood := { row := frameLaysRow, standIns := [], harness := (true, "ce6163e7420b915a0a0efd7656ecca921191237b595dcd2de4addad5af7d4cf0"), looks := false }, kinds := [], alts := [], laidByText := true, laidKinds := [.data], laidTests := true, laidLooks := .later }
def FrameLaysCardSaid : Prop := Claim7.holds Tryd.pinned (.plain (OpenSpec.ofChange frameLaysSpec)) frameLaysCard

/-- THE TIED CARD OF 'oubliettelaw19.FrameApart'. -/
def frameApartCard : Claim7 := { stood := { row := frameApartRow, standIns := [], harness := (true, "ce6163e7420b915a0a0efd7656ecca921191237b595dcd2de4addad5af7d4cf0"), looks := false }, kinds := [], alts := [], laidByText := true, laidKinds := [.data], laidTests := true, laidLooks := .later }
def FrameApartCardSaid : Prop := Claim7.holds Tryd.pinned (.plain (OpenSpec.ofChange frameApartSpec)) frameApartCard

/-- THE TIED CARD OF 'oubliettelaw19.FrameStarts'. -/
def frameStartsCard : Claim7 := { stood := { row := frameStartsRow, standIns := [], harness := (true, "ce6163e7420b915a0a0efd7656ecca921191237b595dcd2de4addad5af7d4cf0"), looks := false }, kinds := [], alts := [], laidByText := true, laidKinds := [.data], laidTests := true, laidLooks := .later }
def FrameStartsCardSaid : Prop := Claim7.holds Tryd.pinned (.plain (OpenSpec.ofChange frameStartsSpec)) frameStartsCard

/-- THE TIED CARD OF 'oubliettelaw19.FrameSaves'. -/
def frameSavesCard : Claim7 := { stood := { row := frameSavesRow, standIns := [], harness := (true, "ce6163e7420b915a0a0efd7656ecca921191237b595dcd2de4addad5af7d4cf0"), looks := false }, kinds := [], alts := [], laidByText := true, laidKinds := [.data, .data], laidTests := true, laidLooks := .later }
def FrameSavesCardSaid : Prop := Claim7.holds Tryd.pinned (.plain (OpenSpec.ofChange frameSavesSpec)) frameSavesCard

/-- THE SECOND FORM's CARD OF 'oubliettelaw19.FrameTells'. -/
def frameTellsUptoCard : Claim7 := { stood := { row := frameTellsUptoRow, standIns := [], harness := (true, "ce6163e7420b915a0a0efd7656ecca921191237b595dcd2de4addad5af7d4cf0"), looks := false }, kinds := [], alts := [], laidByText := true, laidKinds := [.data], laidTests := true, laidLooks := .later }
def FrameTellsUptoCardSaid : Prop := Claim7.holds Tryd.pinned (.plain (OpenSpec.upto frameTellsSpec)) frameTellsUptoCard

/-- THE SECOND FORM's CARD OF 'oubliettelaw19.FrameLays'. -/
def frameLaysUptoCard : Claim7 := { stood := { row := frameLaysUptoRow, standIns := [], harness := (true, "ce6163e7420b915a0a0efd7656ecca921191237b595dcd2de4addad5af7d4cf0"), looks := false }, kinds := [], alts := [], laidByText := true, laidKinds := [.data], laidTests := true, laidLooks := .later }
def FrameLaysUptoCardSaid : Prop := Claim7.holds Tryd.pinned (.plain (OpenSpec.upto frameLaysSpec)) frameLaysUptoCard

/-- THE SECOND FORM's CARD OF 'oubliettelaw19.FrameApart'. -/
def frameApartUptoCard : Claim7 := { stood := { row := frameApartUptoRow, standIns := [], harness := (true, "ce6163e7420b915a0a0efd7656ecca921191237b595dcd2de4addad5af7d4cf0"), looks := false }, kinds := [], alts := [], laidByText := true, laidKinds := [.data], laidTests := true, laidLooks := .later }
def FrameApartUptoCardSaid : Prop := Claim7.holds Tryd.pinned (.plain (OpenSpec.upto frameApartSpec)) frameApartUptoCard

/-- THE SECOND FORM's CARD OF 'oubliettelaw19.FrameStarts'. -/
def frameStartsUptoCard : Claim7 := { stood := { row := frameStartsUptoRow, standIns := [], harness := (true, "ce6163e7420b915a0a0efd7656ecca921191237b595dcd2de4addad5af7d4cf0"), looks := false }, kinds := [], alts := [], laidByText := true, laidKinds := [.data], laidTests := true, laidLooks := .later }
def FrameStartsUptoCardSaid : Prop := Claim7.holds Tryd.pinned (.plain (OpenSpec.upto frameStartsSpec)) frameStartsUptoCard

/-- THE SECOND FORM's CARD OF 'oubliettelaw19.FrameSaves'. -/
def frameSavesUptoCard : Claim7 := { stood := { row := frameSavesUptoRow, standIns := [], harness := (true, "ce6163e7420b915a0a0efd7656ecca921191237b595dcd2de4addad5af7d4cf0"), looks := false }, kinds := [], alts := [], laidByText := true, laidKinds := [.data, .data], laidTests := true, laidLooks := .later }
def FrameSavesUptoCardSaid : Prop := Claim7.holds Tryd.pinned (.plain (OpenSpec.upto frameSavesSpec)) frameSavesUptoCard
end Rows
end Go.Proofs.YtlhhhkhbfnjkiaaDoor
