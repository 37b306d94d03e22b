/-
  DERIVED. GIVEN WITH THE SEED: THE CARDS: each row of YtkjjegakfceibaaDoorRows.lean that lists a variable, with what it lists TIED to the program's text (the seventh form; the later family's looks); each row that meets fmt, with fmt's text TOLD by the authors' own Lean function (tested against real Go, not proved from fmt's source: count such statements apart). THE CARD IS WHAT COUNTS. Prove the row's statement (the work); the ties are given (YtkjjegakfceibaaDoorTie.lean); close each card by the builder's one call (the guide's Derived/Test/ToyasCard.lean, 'card_holds'). Laid BY PROGRAM, IN A SANDBOX (cutbox-door.mjs). By AI agents, Wed Nov 11 2026. No macro, syntax, notation, axiom, sorry.
-/
import Derived.Test.YtkjjegakfceibaaDoorRows
import GoSem.ClaimSeven
namespace Go.Proofs.YtkjjegakfceibaaDoor
namespace Rows

/-- THE TIED CARD OF 'conventiclelaw17.TurnFirst'. -/
def turnFirstCard : Claim7 := { stood := { row := turnFirstRow, standIns := [], harness := (true, "e97f11c10d0cefc9e93e3568b466ba378a362fad7d716d958e44b8f6c0a89062"), looks := false }, kinds := [], alts := [], laidByText := true, laidKinds := [.data], laidTests := true, laidLooks := .later }
def TurnFirstCardSaid : Prop := Claim7.holds Tryd.pinned (.plain (OpenSpec.ofChange turnFirstSpec)) turnFirstCard

/-- THE TIED CARD OF 'conventiclelaw17.TurnAgrees'. -/
def turnAgreesCard : Claim7 := { stood := { row := turnAgreesRow, standIns := [], harness := (true, "e97f11c10d0cefc9e93e3568b466ba378a362fad7d716d958e44b8f6c0a89062"), looks := false }, kinds := [], alts := [], laidByText := true, laidKinds := [.data], laidTests := true, laidLooks := .later }
def TurnAgreesCardSaid : Prop := Claim7.holds Tryd.pinned (.plain (OpenSpec.ofChange turnAgreesSpec)) turnAgreesCard

/-- THE TIED CARD OF 'conventiclelaw17.TurnEnds'. -/
def turnEndsCard : Claim7 := { stood := { row := turnEndsRow, standIns := [], harness := (true, "e97f11c10d0cefc9e93e3568b466ba378a362fad7d716d958e44b8f6c0a89062"), looks := false }, kinds := [], alts := [], laidByText := true, laidKinds := [.data], laidTests := true, laidLooks := .later }
def TurnEndsCardSaid : Prop := Claim7.holds Tryd.pinned (.plain (OpenSpec.ofChange turnEndsSpec)) turnEndsCard

/-- THE TIED CARD OF 'conventiclelaw17.TurnOne'. -/
def turnOneCard : Claim7 := { stood := { row := turnOneRow, standIns := [], harness := (true, "e97f11c10d0cefc9e93e3568b466ba378a362fad7d716d958e44b8f6c0a89062"), looks := false }, kinds := [], alts := [], laidByText := true, laidKinds := [.data], laidTests := true, laidLooks := .later }
def TurnOneCardSaid : Prop := Claim7.holds Tryd.pinned (.plain (OpenSpec.ofChange turnOneSpec)) turnOneCard

/-- THE SECOND FORM's CARD OF 'conventiclelaw17.TurnFirst'. -/
def turnFirstUptoCard : Claim7 := { stood := { row := turnFirstUptoRow, standIns := [], harness := (true, "e97f11c10d0cefc9e93e3568b466ba378a362fad7d716d958e44b8f6c0a89062"), looks := false }, kinds := [], alts := [], laidByText := true, laidKinds := [.data], laidTests := true, laidLooks := .later }
def TurnFirstUptoCardSaid : Prop := Claim7.holds Tryd.pinned (.plain (OpenSpec.upto turnFirstSpec)) turnFirstUptoCard

/-- THE SECOND FORM's CARD OF 'conventiclelaw17.TurnAgrees'. -/
def turnAgreesUptoCard : Claim7 := { stood := { row := turnAgreesUptoRow, standIns := [], harness := (true, "e97f11c10d0cefc9e93e3568b466ba378a362fad7d716d958e44b8f6c0a89062"), looks := false }, kinds := [], alts := [], laidByText := true, laidKinds := [.data], laidTests := true, laidLooks := .later }
def TurnAgreesUptoCardSaid : Prop := Claim7.holds Tryd.pinned (.plain (OpenSpec.upto turnAgreesSpec)) turnAgreesUptoCard

/-- THE SECOND FORM's CARD OF 'conventiclelaw17.TurnEnds'. -/
def turnEndsUptoCard : Claim7 := { stood := { row := turnEndsUptoRow, standIns := [], harness := (true, "e97f11c10d0cefc9e93e3568b466ba378a362fad7d716d958e44b8f6c0a89062"), looks := false }, kinds := [], alts := [], laidByText := true, laidKinds := [.data], laidTests := true, laidLooks := .later }
def TurnEndsUptoCardSaid : Prop := Claim7.holds Tryd.pinned (.plain (OpenSpec.upto turnEndsSpec)) turnEndsUptoCard

/-- THE SECOND FORM's CARD OF 'conventiclelaw17.TurnOne'. -/
def turnOneUptoCard : Claim7 := { stood := { row := turnOneUptoRow, standIns := [], harness := (true, "e97f11c10d0cefc9e93e3568b466ba378a362fad7d716d958e44b8f6c0a89062"), looks := false }, kinds := [], alts := [], laidByText := true, laidKinds := [.data], laidTests := true, laidLooks := .later }
def TurnOneUptoCardSaid : Prop := Claim7.holds Tryd.pinned (.plain (OpenSpec.upto turnOneSpec)) turnOneUptoCard
end Rows
end Go.Proofs.YtkjjegakfceibaaDoor
