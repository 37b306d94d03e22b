/-
  No cell of these rows narrows 'for every input' (looked for: loops, veiled, ifaces, maps, wideKeys, modest, calm, conditions, laid).
  DERIVED. THE GIVEN ROWS OF THIS SEAT. 6 by the template 'for every input the law returns true; each argument reads behind the call as it read before'; 0 by the template 'total and deterministic' (their statements: YtkbjbpgclhlmpaaTotals.lean).
  GIVEN WITH THE SEED: the statements are not yours to turn. If you find one false, say at which input.
  Laid BY PROGRAM, IN A SANDBOX (cutbox-rows.mjs): the forced cells as the released guide's own fill.sh prints them over the translation 863d12f40880d245… (all of the seat's roots in one cut). By AI agents, Wed Nov 11 2026. No macro, syntax, notation, axiom, sorry.
-/
import Derived.Test.YtkbjbpgclhlmpaaChecked
import GoSem.Claim
import GoSem.ClaimJoined
import GoSem.ClaimMapViews
import Derived.JoinedTies
import Derived.KernelRfl
namespace Go.Proofs.Ytkbjbpgclhlmpaa
/- THE CELL 'sum', in the pinned program and in every row, IS THE sha256 OF THE DUMP (.gsa) THAT YtkbjbpgclhlmpaaProg.lean LOADS. Nothing in Lean hashes anything: it is a label: what it is worth is what the hold of that sum in a sandbox is worth. -/
noncomputable def Try.pinned : Pinned := { name := "ytkbjbpgclhlmpaa", sum := "863d12f40880d245f3e77e1616c7d96a3de7630c4bd9a3d3b4b7c156a151ab05", checked := Try.checked }
namespace Rows
def none {H : Type} : Left H := { results := [], args := [] }

/-- 'conventiclelaw02.GuardLinear': WHATEVER THE INPUT: true; the input reads as it did. -/
def guardLinearSpec : ChangeSpec := { name := "guardLinear", fn := fun _ => fun
  | [d1, d2, d3] => { results := [.lit (.bool true)], args := [d1, d2, d3] }
  | _ => none }
def guardLinearRow : OpenClaim := { program := "ytkbjbpgclhlmpaa", sum := "863d12f40880d245f3e77e1616c7d96a3de7630c4bd9a3d3b4b7c156a151ab05", func := "conventicle/conventiclelaw02.GuardLinear", spec := "guardLinear", unfollowed := true, recurses := true, apart := false }
def GuardLinearSaid : Prop := guardLinearRow.holds Try.pinned (OpenSpec.ofChange guardLinearSpec)

/-- ITS FALSE NEIGHBOUR: 'it returns false'. Refute it at one input. -/
def guardLinearWrong : ChangeSpec := { name := "guardLinear", fn := fun _ => fun
  | [d1, d2, d3] => { results := [.lit (.bool false)], args := [d1, d2, d3] }
  | _ => none }
def GuardLinearWrongFalsely : Prop := guardLinearRow.holds Try.pinned (OpenSpec.ofChange guardLinearWrong)

/-- 'conventiclelaw02.GuardTells': WHATEVER THE INPUT: true; the input reads as it did. -/
def guardTellsSpec : ChangeSpec := { name := "guardTells", fn := fun _ => fun
  | [d] => { results := [.lit (.bool true)], args := [d] }
  | _ => none }
def guardTellsRow : OpenClaim := { program := "ytkbjbpgclhlmpaa", sum := "863d12f40880d245f3e77e1616c7d96a3de7630c4bd9a3d3b4b7c156a151ab05", func := "conventicle/conventiclelaw02.GuardTells", spec := "guardTells", unfollowed := true, recurses := true, apart := false }
def GuardTellsSaid : Prop := guardTellsRow.holds Try.pinned (OpenSpec.ofChange guardTellsSpec)

/-- ITS FALSE NEIGHBOUR: 'it returns false'. Refute it at one input. -/
def guardTellsWrong : ChangeSpec := { name := "guardTells", fn := fun _ => fun
  | [d] => { results := [.lit (.bool false)], args := [d] }
  | _ => none }
def GuardTellsWrongFalsely : Prop := guardTellsRow.holds Try.pinned (OpenSpec.ofChange guardTellsWrong)

/-- 'conventiclelaw02.GuardTurned': WHATEVER THE INPUT: true; the input reads as it did. -/
def guardTurnedSpec : ChangeSpec := { name := "guardTurned", fn := fun _ => fun
  | [d1, d2, d3] => { results := [.lit (.bool true)], args := [d1, d2, d3] }
  | _ => none }
def guardTurnedRow : OpenClaim := { program := "ytkbjbpgclhlmpaa", sum := "863d12f40880d245f3e77e1616c7d96a3de7630c4bd9a3d3b4b7c156a151ab05", func := "conventicle/conventiclelaw02.GuardTurned", spec := "guardTurned", unfollowed := true, recurses := true, apart := false }
def GuardTurnedSaid : Prop := guardTurnedRow.holds Try.pinned (OpenSpec.ofChange guardTurnedSpec)

/-- ITS FALSE NEIGHBOUR: 'it returns false'. Refute it at one input. -/
def guardTurnedWrong : ChangeSpec := { name := "guardTurned", fn := fun _ => fun
  | [d1, d2, d3] => { results := [.lit (.bool false)], args := [d1, d2, d3] }
  | _ => none }
def GuardTurnedWrongFalsely : Prop := guardTurnedRow.holds Try.pinned (OpenSpec.ofChange guardTurnedWrong)

/-- 'conventiclelaw02.GuardShort': WHATEVER THE INPUT: true; the input reads as it did. -/
def guardShortSpec : ChangeSpec := { name := "guardShort", fn := fun _ => fun
  | [d] => { results := [.lit (.bool true)], args := [d] }
  | _ => none }
def guardShortRow : OpenClaim := { program := "ytkbjbpgclhlmpaa", sum := "863d12f40880d245f3e77e1616c7d96a3de7630c4bd9a3d3b4b7c156a151ab05", func := "conventicle/conventiclelaw02.GuardShort", spec := "guardShort", unfollowed := true, recurses := true, apart := false }
def GuardShortSaid : Prop := guardShortRow.holds Try.pinned (OpenSpec.ofChange guardShortSpec)

/-- ITS FALSE NEIGHBOUR: 'it returns false'. Refute it at one input. -/
def guardShortWrong : ChangeSpec := { name := "guardShort", fn := fun _ => fun
  | [d] => { results := [.lit (.bool false)], args := [d] }
  | _ => none }
def GuardShortWrongFalsely : Prop := guardShortRow.holds Try.pinned (OpenSpec.ofChange guardShortWrong)

/-- 'conventiclelaw02.GuardJoins': WHATEVER THE INPUT: true; the input reads as it did. -/
def guardJoinsSpec : ChangeSpec := { name := "guardJoins", fn := fun _ => fun
  | [d1, d2, d3, d4, d5] => { results := [.lit (.bool true)], args := [d1, d2, d3, d4, d5] }
  | _ => none }
def guardJoinsRow : OpenClaim := { program := "ytkbjbpgclhlmpaa", sum := "863d12f40880d245f3e77e1616c7d96a3de7630c4bd9a3d3b4b7c156a151ab05", func := "conventicle/conventiclelaw02.GuardJoins", spec := "guardJoins", unfollowed := true, recurses := true, apart := false }
def GuardJoinsSaid : Prop := guardJoinsRow.holds Try.pinned (OpenSpec.ofChange guardJoinsSpec)

/-- ITS FALSE NEIGHBOUR: 'it returns false'. Refute it at one input. -/
def guardJoinsWrong : ChangeSpec := { name := "guardJoins", fn := fun _ => fun
  | [d1, d2, d3, d4, d5] => { results := [.lit (.bool false)], args := [d1, d2, d3, d4, d5] }
  | _ => none }
def GuardJoinsWrongFalsely : Prop := guardJoinsRow.holds Try.pinned (OpenSpec.ofChange guardJoinsWrong)

/-- 'conventiclelaw02.GuardParts': WHATEVER THE INPUT: true; the input reads as it did. -/
def guardPartsSpec : ChangeSpec := { name := "guardParts", fn := fun _ => fun
  | [d1, d2, d3, d4, d5] => { results := [.lit (.bool true)], args := [d1, d2, d3, d4, d5] }
  | _ => none }
def guardPartsRow : OpenClaim := { program := "ytkbjbpgclhlmpaa", sum := "863d12f40880d245f3e77e1616c7d96a3de7630c4bd9a3d3b4b7c156a151ab05", func := "conventicle/conventiclelaw02.GuardParts", spec := "guardParts", unfollowed := true, recurses := true, apart := false }
def GuardPartsSaid : Prop := guardPartsRow.holds Try.pinned (OpenSpec.ofChange guardPartsSpec)

/-- ITS FALSE NEIGHBOUR: 'it returns false'. Refute it at one input. -/
def guardPartsWrong : ChangeSpec := { name := "guardParts", fn := fun _ => fun
  | [d1, d2, d3, d4, d5] => { results := [.lit (.bool false)], args := [d1, d2, d3, d4, d5] }
  | _ => none }
def GuardPartsWrongFalsely : Prop := guardPartsRow.holds Try.pinned (OpenSpec.ofChange guardPartsWrong)

/- THE SECOND FORM. 'bulk': how many values and letters a reading holds, each counted each time it is reached (what is shared counts as often as it is met; a slice's spare places count too). A statement '..UptoSaid' is the law's where the arguments, and the package variables that the reading takes, are together of bulk at most 1048576: NARROWER than '..Said'. Prove '..Said' where nothing that the law and all that it calls make is longer than what came in: it says more and counts as full. Else prove '..UptoSaid'. A law counts once. -/
mutual
def uptoBulk {H : Type} : DataW H → Nat
  | .lit (.string bytes) => bytes.length + 1
  | .lit _ => 1
  | .nil => 1
  | .ptr d => uptoBulk d + 1
  | .slice elems spare => uptoBulkAll elems + uptoBulkAll spare + 1
  | .agg parts => uptoBulkAll parts + 1
  | .iface _ d => uptoBulk d + 1
  | .map entries => uptoBulkEntries entries + 1
  | .held _ => 1
def uptoBulkAll {H : Type} : List (DataW H) → Nat
  | [] => 0
  | d :: r => uptoBulk d + uptoBulkAll r
def uptoBulkEntries {H : Type} : List (Lit × DataW H) → Nat
  | [] => 0
  | x :: r => uptoBulkEntry x + uptoBulkEntries r
def uptoBulkEntry {H : Type} : Lit × DataW H → Nat
  | (.string bytes, d) => bytes.length + uptoBulk d + 1
  | (_, d) => uptoBulk d + 1
 end
def uptoSmall : (H : Type) → List (DataW H) → Bool := fun _ ds => decide (uptoBulkAll ds ≤ 1048576)
def OpenSpec.upto (s : _root_.Go.ChangeSpec) : _root_.Go.OpenSpec := { _root_.Go.OpenSpec.ofChange s with cond := some uptoSmall }

/-- 'conventiclelaw02.GuardLinear', WHERE WHAT IT READS IS OF BULK AT MOST 1048576: true; the input reads as it did. -/
def guardLinearUptoRow : OpenClaim := { program := "ytkbjbpgclhlmpaa", sum := "863d12f40880d245f3e77e1616c7d96a3de7630c4bd9a3d3b4b7c156a151ab05", func := "conventicle/conventiclelaw02.GuardLinear", spec := "guardLinear", unfollowed := true, recurses := true, apart := false, narrowed := true }
def GuardLinearUptoSaid : Prop := guardLinearUptoRow.holds Try.pinned (OpenSpec.upto guardLinearSpec)

/-- 'conventiclelaw02.GuardTells', WHERE WHAT IT READS IS OF BULK AT MOST 1048576: true; the input reads as it did. -/
def guardTellsUptoRow : OpenClaim := { program := "ytkbjbpgclhlmpaa", sum := "863d12f40880d245f3e77e1616c7d96a3de7630c4bd9a3d3b4b7c156a151ab05", func := "conventicle/conventiclelaw02.GuardTells", spec := "guardTells", unfollowed := true, recurses := true, apart := false, narrowed := true }
def GuardTellsUptoSaid : Prop := guardTellsUptoRow.holds Try.pinned (OpenSpec.upto guardTellsSpec)

/-- 'conventiclelaw02.GuardTurned', WHERE WHAT IT READS IS OF BULK AT MOST 1048576: true; the input reads as it did. -/
def guardTurnedUptoRow : OpenClaim := { program := "ytkbjbpgclhlmpaa", sum := "863d12f40880d245f3e77e1616c7d96a3de7630c4bd9a3d3b4b7c156a151ab05", func := "conventicle/conventiclelaw02.GuardTurned", spec := "guardTurned", unfollowed := true, recurses := true, apart := false, narrowed := true }
def GuardTurnedUptoSaid : Prop := guardTurnedUptoRow.holds Try.pinned (OpenSpec.upto guardTurnedSpec)

/-- 'conventiclelaw02.GuardShort', WHERE WHAT IT READS IS OF BULK AT MOST 1048576: true; the input reads as it did. -/
def guardShortUptoRow : OpenClaim := { program := "ytkbjbpgclhlmpaa", sum := "863d12f40880d245f3e77e1616c7d96a3de7630c4bd9a3d3b4b7c156a151ab05", func := "conventicle/conventiclelaw02.GuardShort", spec := "guardShort", unfollowed := true, recurses := true, apart := false, narrowed := true }
def GuardShortUptoSaid : Prop := guardShortUptoRow.holds Try.pinned (OpenSpec.upto guardShortSpec)

/-- 'conventiclelaw02.GuardJoins', WHERE WHAT IT READS IS OF BULK AT MOST 1048576: true; the input reads as it did. -/
def guardJoinsUptoRow : OpenClaim := { program := "ytkbjbpgclhlmpaa", sum := "863d12f40880d245f3e77e1616c7d96a3de7630c4bd9a3d3b4b7c156a151ab05", func := "conventicle/conventiclelaw02.GuardJoins", spec := "guardJoins", unfollowed := true, recurses := true, apart := false, narrowed := true }
def GuardJoinsUptoSaid : Prop := guardJoinsUptoRow.holds Try.pinned (OpenSpec.upto guardJoinsSpec)

/-- 'conventiclelaw02.GuardParts', WHERE WHAT IT READS IS OF BULK AT MOST 1048576: true; the input reads as it did. -/
def guardPartsUptoRow : OpenClaim := { program := "ytkbjbpgclhlmpaa", sum := "863d12f40880d245f3e77e1616c7d96a3de7630c4bd9a3d3b4b7c156a151ab05", func := "conventicle/conventiclelaw02.GuardParts", spec := "guardParts", unfollowed := true, recurses := true, apart := false, narrowed := true }
def GuardPartsUptoSaid : Prop := guardPartsUptoRow.holds Try.pinned (OpenSpec.upto guardPartsSpec)

end Rows
end Go.Proofs.Ytkbjbpgclhlmpaa
