/-
  DERIVED. GIVEN WITH THE SEED: THE CARDS: each row of YtkkcnhfbcophiaaDoorRows.lean that lists a variable, with what it lists TIED to the program's text (the seventh form; the later family's looks); each row that meets fmt, with fmt's text TOLD by the authors' own Lean function (tested against real Go, not proved from fmt's source: count such statements apart). THE CARD IS WHAT COUNTS. Prove the row's statement (the work); the ties are given (YtkkcnhfbcophiaaDoorTie.lean); close each card by the builder's one call (the guide's Derived/Test/ToyasCard.lean, 'card_holds'). Laid BY PROGRAM, IN A SANDBOX (cutbox-door.mjs). By AI agents, Wed Nov 11 2026. No macro, syntax, notation, axiom, sorry.
-/
import Derived.Test.YtkkcnhfbcophiaaDoorRows
import GoSem.ClaimSeven
namespace Go.Proofs.YtkkcnhfbcophiaaDoor
namespace Rows

/-- THE TIED CARD OF 'conventiclelaw07.RollSelf'. -/
def rollSelfCard : Claim7 := { stood := { row := rollSelfRow, standIns := [], harness := (true, "808085275b1175832304a19db2396ab17f6d48ff6d19588e6796fd9261564617"), looks := true }, kinds := [], alts := [], laidByText := true, laidKinds := [.data], laidTests := true, laidLooks := .later }
def RollSelfCardSaid : Prop := Claim7.holds Tryd.pinned (.plain (OpenSpec.ofChange rollSelfSpec)) rollSelfCard

/-- THE TIED CARD OF 'conventiclelaw07.RollBoth'. -/
def rollBothCard : Claim7 := { stood := { row := rollBothRow, standIns := [], harness := (true, "808085275b1175832304a19db2396ab17f6d48ff6d19588e6796fd9261564617"), looks := true }, kinds := [], alts := [], laidByText := true, laidKinds := [.data], laidTests := true, laidLooks := .later }
def RollBothCardSaid : Prop := Claim7.holds Tryd.pinned (.plain (OpenSpec.ofChange rollBothSpec)) rollBothCard

/-- THE TIED CARD OF 'conventiclelaw07.RollTwice'. -/
def rollTwiceCard : Claim7 := { stood := { row := rollTwiceRow, standIns := [], harness := (true, "808085275b1175832304a19db2396ab17f6d48ff6d19588e6796fd9261564617"), looks := true }, kinds := [], alts := [], laidByText := true, laidKinds := [.data], laidTests := true, laidLooks := .later }
def RollTwiceCardSaid : Prop := Claim7.holds Tryd.pinned (.plain (OpenSpec.ofChange rollTwiceSpec)) rollTwiceCard

/-- THE TIED CARD OF 'conventiclelaw07.RollOrder'. -/
def rollOrderCard : Claim7 := { stood := { row := rollOrderRow, standIns := [], harness := (true, "808085275b1175832304a19db2396ab17f6d48ff6d19588e6796fd9261564617"), looks := true }, kinds := [], alts := [], laidByText := true, laidKinds := [.data], laidTests := true, laidLooks := .later }
def RollOrderCardSaid : Prop := Claim7.holds Tryd.pinned (.plain (OpenSpec.ofChange rollOrderSpec)) rollOrderCard

/-- THE TIED CARD OF 'conventiclelaw07.RollMerges'. -/
def rollMergesCard : Claim7 := { stood := { row := rollMergesRow, standIns := [], harness := (true, "808085275b1175832304a19db2396ab17f6d48ff6d19588e6796fd9261564617"), looks := true }, kinds := [], alts := [], laidByText := true, laidKinds := [.data], laidTests := true, laidLooks := .later }
def RollMergesCardSaid : Prop := Claim7.holds Tryd.pinned (.plain (OpenSpec.ofChange rollMergesSpec)) rollMergesCard

/-- THE TIED CARD OF 'conventiclelaw07.RollActs'. -/
def rollActsCard : Claim7 := { stood := { row := rollActsRow, standIns := [], harness := (true, "808085275b1175832304a19db2396ab17f6d48ff6d19588e6796fd9261564617"), looks := true }, kinds := [], alts := [], laidByText := true, laidKinds := [.data], laidTests := true, laidLooks := .later }
def RollActsCardSaid : Prop := Claim7.holds Tryd.pinned (.plain (OpenSpec.ofChange rollActsSpec)) rollActsCard

/-- THE TIED CARD OF 'conventiclelaw07.RollLive'. -/
def rollLiveCard : Claim7 := { stood := { row := rollLiveRow, standIns := [], harness := (true, "808085275b1175832304a19db2396ab17f6d48ff6d19588e6796fd9261564617"), looks := true }, kinds := [], alts := [], laidByText := true, laidKinds := [.data], laidTests := true, laidLooks := .later }
def RollLiveCardSaid : Prop := Claim7.holds Tryd.pinned (.plain (OpenSpec.ofChange rollLiveSpec)) rollLiveCard

/-- THE SECOND FORM's CARD OF 'conventiclelaw07.RollSelf'. -/
def rollSelfUptoCard : Claim7 := { stood := { row := rollSelfUptoRow, standIns := [], harness := (true, "808085275b1175832304a19db2396ab17f6d48ff6d19588e6796fd9261564617"), looks := true }, kinds := [], alts := [], laidByText := true, laidKinds := [.data], laidTests := true, laidLooks := .later }
def RollSelfUptoCardSaid : Prop := Claim7.holds Tryd.pinned (.plain (OpenSpec.upto rollSelfSpec)) rollSelfUptoCard

/-- THE SECOND FORM's CARD OF 'conventiclelaw07.RollBoth'. -/
def rollBothUptoCard : Claim7 := { stood := { row := rollBothUptoRow, standIns := [], harness := (true, "808085275b1175832304a19db2396ab17f6d48ff6d19588e6796fd9261564617"), looks := true }, kinds := [], alts := [], laidByText := true, laidKinds := [.data], laidTests := true, laidLooks := .later }
def RollBothUptoCardSaid : Prop := Claim7.holds Tryd.pinned (.plain (OpenSpec.upto rollBothSpec)) rollBothUptoCard

/-- THE SECOND FORM's CARD OF 'conventiclelaw07.RollTwice'. -/
def rollTwiceUptoCard : Claim7 := { stood := { row := rollTwiceUptoRow, standIns := [], harness := (true, "808085275b1175832304a19db2396ab17f6d48ff6d19588e6796fd9261564617"), looks := true }, kinds := [], alts := [], laidByText := true, laidKinds := [.data], laidTests := true, laidLooks := .later }
def RollTwiceUptoCardSaid : Prop := Claim7.holds Tryd.pinned (.plain (OpenSpec.upto rollTwiceSpec)) rollTwiceUptoCard

/-- THE SECOND FORM's CARD OF 'conventiclelaw07.RollOrder'. -/
def rollOrderUptoCard : Claim7 := { stood := { row := rollOrderUptoRow, standIns := [], harness := (true, "808085275b1175832304a19db2396ab17f6d48ff6d19588e6796fd9261564617"), looks := true }, kinds := [], alts := [], laidByText := true, laidKinds := [.data], laidTests := true, laidLooks := .later }
def RollOrderUptoCardSaid : Prop := Claim7.holds Tryd.pinned (.plain (OpenSpec.upto rollOrderSpec)) rollOrderUptoCard

/-- THE SECOND FORM's CARD OF 'conventiclelaw07.RollMerges'. -/
def rollMergesUptoCard : Claim7 := { stood := { row := rollMergesUptoRow, standIns := [], harness := (true, "808085275b1175832304a19db2396ab17f6d48ff6d19588e6796fd9261564617"), looks := true }, kinds := [], alts := [], laidByText := true, laidKinds := [.data], laidTests := true, laidLooks := .later }
def RollMergesUptoCardSaid : Prop := Claim7.holds Tryd.pinned (.plain (OpenSpec.upto rollMergesSpec)) rollMergesUptoCard

/-- THE SECOND FORM's CARD OF 'conventiclelaw07.RollActs'. -/
def rollActsUptoCard : Claim7 := { stood := { row := rollActsUptoRow, standIns := [], harness := (true, "808085275b1175832304a19db2396ab17f6d48ff6d19588e6796fd9261564617"), looks := true }, kinds := [], alts := [], laidByText := true, laidKinds := [.data], laidTests := true, laidLooks := .later }
def RollActsUptoCardSaid : Prop := Claim7.holds Tryd.pinned (.plain (OpenSpec.upto rollActsSpec)) rollActsUptoCard

/-- THE SECOND FORM's CARD OF 'conventiclelaw07.RollLive'. -/
def rollLiveUptoCard : Claim7 := { stood := { row := rollLiveUptoRow, standIns := [], harness := (true, "808085275b1175832304a19db2396ab17f6d48ff6d19588e6796fd9261564617"), looks := true }, kinds := [], alts := [], laidByText := true, laidKinds := [.data], laidTests := true, laidLooks := .later }
def RollLiveUptoCardSaid : Prop := Claim7.holds Tryd.pinned (.plain (OpenSpec.upto rollLiveSpec)) rollLiveUptoCard
end Rows
end Go.Proofs.YtkkcnhfbcophiaaDoor
