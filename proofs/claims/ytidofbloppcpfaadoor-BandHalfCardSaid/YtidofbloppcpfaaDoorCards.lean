/-
  DERIVED. GIVEN WITH THE SEED: THE CARDS: each row of YtidofbloppcpfaaDoorRows.lean that lists a variable, with what it lists TIED to the program's text (the seventh form; the later family's looks); each row that meets fmt, with fmt's text TOLD by the authors' own Lean function (tested against real Go, not proved from fmt's source: count such statements apart). THE CARD IS WHAT COUNTS. Prove the row's statement (the work); the ties are given (YtidofbloppcpfaaDoorTie.lean); close each card by the builder's one call (the guide's Derived/Test/ToyasCard.lean, 'card_holds'). Laid BY PROGRAM, IN A SANDBOX (cutbox-door.mjs). By AI agents, Wed Nov 11 2026. No macro, syntax, notation, axiom, sorry.
-/
import Derived.Test.YtidofbloppcpfaaDoorRows
import GoSem.ClaimSeven
namespace Go.Proofs.YtidofbloppcpfaaDoor
namespace Rows

/-- THE TIED CARD OF 'conventiclelaw05.BandRounds'. -/
def bandRoundsCard : Claim7 := { stood := { row := bandRoundsRow, standIns := [], harness := (true, "3787e6cb64c79402bda5acf41a282925eccd503783c9b4cabef7ae18d7cfc695"), looks := false }, kinds := [], alts := [], laidByText := true, laidKinds := [.data], laidTests := true, laidLooks := .later }
def BandRoundsCardSaid : Prop := Claim7.holds Tryd.pinned (.plain (OpenSpec.ofChange bandRoundsSpec)) bandRoundsCard

/-- THE TIED CARD OF 'conventiclelaw05.BandNext'. -/
def bandNextCard : Claim7 := { stood := { row := bandNextRow, standIns := [], harness := (true, "3787e6cb64c79402bda5acf41a282925eccd503783c9b4cabef7ae18d7cfc695"), looks := false }, kinds := [], alts := [], laidByText := true, laidKinds := [.data], laidTests := true, laidLooks := .later }
def BandNextCardSaid : Prop := Claim7.holds Tryd.pinned (.plain (OpenSpec.ofChange bandNextSpec)) bandNextCard

/-- THE TIED CARD OF 'conventiclelaw05.BandMeets'. -/
def bandMeetsCard : Claim7 := { stood := { row := bandMeetsRow, standIns := [], harness := (true, "3787e6cb64c79402bda5acf41a282925eccd503783c9b4cabef7ae18d7cfc695"), looks := false }, kinds := [], alts := [], laidByText := true, laidKinds := [.data], laidTests := true, laidLooks := .later }
def BandMeetsCardSaid : Prop := Claim7.holds Tryd.pinned (.plain (OpenSpec.ofChange bandMeetsSpec)) bandMeetsCard

/-- THE TIED CARD OF 'conventiclelaw05.BandHalf'. -/
def bandHalfCard : Claim7 := { stood := { row := bandHalfRow, standIns := [], harness := (true, "3787e6cb64c79402bda5acf41a282925eccd503783c9b4cabef7ae18d7cfc695"), looks := false }, kinds := [], alts := [], laidByText := true, laidKinds := [.data], laidTests := true, laidLooks := .later }
def BandHalfCardSaid : Prop := Claim7.holds Tryd.pinned (.plain (OpenSpec.ofChange bandHalfSpec)) bandHalfCard

/-- THE TIED CARD OF 'conventiclelaw05.BandBack'. -/
def bandBackCard : Claim7 := { stood := { row := bandBackRow, standIns := [], harness := (true, "3787e6cb64c79402bda5acf41a282925eccd503783c9b4cabef7ae18d7cfc695"), looks := false }, kinds := [], alts := [], laidByText := true, laidKinds := [.data], laidTests := true, laidLooks := .later }
def BandBackCardSaid : Prop := Claim7.holds Tryd.pinned (.plain (OpenSpec.ofChange bandBackSpec)) bandBackCard

/-- THE TIED CARD OF 'conventiclelaw05.BandPlaces'. -/
def bandPlacesCard : Claim7 := { stood := { row := bandPlacesRow, standIns := [], harness := (true, "3787e6cb64c79402bda5acf41a282925eccd503783c9b4cabef7ae18d7cfc695"), looks := false }, kinds := [], alts := [], laidByText := true, laidKinds := [.data], laidTests := true, laidLooks := .later }
def BandPlacesCardSaid : Prop := Claim7.holds Tryd.pinned (.plain (OpenSpec.ofChange bandPlacesSpec)) bandPlacesCard

/-- THE SECOND FORM's CARD OF 'conventiclelaw05.BandRounds'. -/
def bandRoundsUptoCard : Claim7 := { stood := { row := bandRoundsUptoRow, standIns := [], harness := (true, "3787e6cb64c79402bda5acf41a282925eccd503783c9b4cabef7ae18d7cfc695"), looks := false }, kinds := [], alts := [], laidByText := true, laidKinds := [.data], laidTests := true, laidLooks := .later }
def BandRoundsUptoCardSaid : Prop := Claim7.holds Tryd.pinned (.plain (OpenSpec.upto bandRoundsSpec)) bandRoundsUptoCard

/-- THE SECOND FORM's CARD OF 'conventiclelaw05.BandNext'. -/
def bandNextUptoCard : Claim7 := { stood := { row := bandNextUptoRow, standIns := [], harness := (true, "3787e6cb64c79402bda5acf41a282925eccd503783c9b4cabef7ae18d7cfc695"), looks := false }, kinds := [], alts := [], laidByText := true, laidKinds := [.data], laidTests := true, laidLooks := .later }
def BandNextUptoCardSaid : Prop := Claim7.holds Tryd.pinned (.plain (OpenSpec.upto bandNextSpec)) bandNextUptoCard

/-- THE SECOND FORM's CARD OF 'conventiclelaw05.BandMeets'. -/
def bandMeetsUptoCard : Claim7 := { stood := { row := bandMeetsUptoRow, standIns := [], harness := (true, "3787e6cb64c79402bda5acf41a282925eccd503783c9b4cabef7ae18d7cfc695"), looks := false }, kinds := [], alts := [], laidByText := true, laidKinds := [.data], laidTests := true, laidLooks := .later }
def BandMeetsUptoCardSaid : Prop := Claim7.holds Tryd.pinned (.plain (OpenSpec.upto bandMeetsSpec)) bandMeetsUptoCard

/-- THE SECOND FORM's CARD OF 'conventiclelaw05.BandHalf'. -/
def bandHalfUptoCard : Claim7 := { stood := { row := bandHalfUptoRow, standIns := [], harness := (true, "3787e6cb64c79402bda5acf41a282925eccd503783c9b4cabef7ae18d7cfc695"), looks := false }, kinds := [], alts := [], laidByText := true, laidKinds := [.data], laidTests := true, laidLooks := .later }
def BandHalfUptoCardSaid : Prop := Claim7.holds Tryd.pinned (.plain (OpenSpec.upto bandHalfSpec)) bandHalfUptoCard

/-- THE SECOND FORM's CARD OF 'conventiclelaw05.BandBack'. -/
def bandBackUptoCard : Claim7 := { stood := { row := bandBackUptoRow, standIns := [], harness := (true, "3787e6cb64c79402bda5acf41a282925eccd503783c9b4cabef7ae18d7cfc695"), looks := false }, kinds := [], alts := [], laidByText := true, laidKinds := [.data], laidTests := true, laidLooks := .later }
def BandBackUptoCardSaid : Prop := Claim7.holds Tryd.pinned (.plain (OpenSpec.upto bandBackSpec)) bandBackUptoCard

/-- THE SECOND FORM's CARD OF 'conventiclelaw05.BandPlaces'. -/
def bandPlacesUptoCard : Claim7 := { stood := { row := bandPlacesUptoRow, standIns := [], harness := (true, "3787e6cb64c79402bda5acf41a282925eccd503783c9b4cabef7ae18d7cfc695"), looks := false }, kinds := [], alts := [], laidByText := true, laidKinds := [.data], laidTests := true, laidLooks := .later }
def BandPlacesUptoCardSaid : Prop := Claim7.holds Tryd.pinned (.plain (OpenSpec.upto bandPlacesSpec)) bandPlacesUptoCard
end Rows
end Go.Proofs.YtidofbloppcpfaaDoor
