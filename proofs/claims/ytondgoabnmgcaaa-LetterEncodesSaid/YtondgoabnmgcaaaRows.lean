/-
  No cell of these rows narrows 'for every input' (looked for: loops, veiled, ifaces, maps, wideKeys, modest, calm, conditions, laid).
  DERIVED. THE GIVEN ROWS OF THIS SEAT. 5 by the template 'for every input the law returns true; each argument reads behind the call as it read before'; 0 by the template 'total and deterministic' (their statements: YtondgoabnmgcaaaTotals.lean).
  GIVEN WITH THE SEED: the statements are not yours to turn. If you find one false, say at which input.
  Laid BY PROGRAM, IN A SANDBOX (cutbox-rows.mjs): the forced cells as the released guide's own fill.sh prints them over the translation 563c387a280d3566… (all of the seat's roots in one cut). By AI agents, Wed Nov 11 2026. No macro, syntax, notation, axiom, sorry.
-/
import Derived.Test.YtondgoabnmgcaaaChecked
import GoSem.Claim
import GoSem.ClaimJoined
import GoSem.ClaimMapViews
import Derived.JoinedTies
import Derived.KernelRfl
namespace Go.Proofs.Ytondgoabnmgcaaa
/- THE CELL 'sum', in the pinned program and in every row, IS THE sha256 OF THE DUMP (.gsa) THAT YtondgoabnmgcaaaProg.lean LOADS. Nothing in Lean hashes anything: it is a label: what it is worth is what the hold of that sum in a sandbox is worth. -/
noncomputable def Try.pinned : Pinned := { name := "ytondgoabnmgcaaa", sum := "563c387a280d35663b18ce1860c355856c3cdba8b69cb6a66b3f5b7ddcb12187", checked := Try.checked }
namespace Rows
def none {H : Type} : Left H := { results := [], args := [] }

/-- 'conventiclelaw15.LetterDecodes': WHATEVER THE INPUT: true; the input reads as it did. -/
def letterDecodesSpec : ChangeSpec := { name := "letterDecodes", fn := fun _ => fun
  | [d1, d2] => { results := [.lit (.bool true)], args := [d1, d2] }
  | _ => none }
def letterDecodesRow : OpenClaim := { program := "ytondgoabnmgcaaa", sum := "563c387a280d35663b18ce1860c355856c3cdba8b69cb6a66b3f5b7ddcb12187", func := "conventicle/conventiclelaw15.LetterDecodes", spec := "letterDecodes", inPlace := ["math.Float64bits", "math.Float64frombits"], unfollowed := true, recurses := true, apart := false }
def LetterDecodesSaid : Prop := letterDecodesRow.holds Try.pinned (OpenSpec.ofChange letterDecodesSpec)

/-- ITS FALSE NEIGHBOUR: 'it returns false'. Refute it at one input. -/
def letterDecodesWrong : ChangeSpec := { name := "letterDecodes", fn := fun _ => fun
  | [d1, d2] => { results := [.lit (.bool false)], args := [d1, d2] }
  | _ => none }
def LetterDecodesWrongFalsely : Prop := letterDecodesRow.holds Try.pinned (OpenSpec.ofChange letterDecodesWrong)

/-- 'conventiclelaw15.LetterBack': WHATEVER THE INPUT: true; the input reads as it did. -/
def letterBackSpec : ChangeSpec := { name := "letterBack", fn := fun _ => fun
  | [d1, d2, d3] => { results := [.lit (.bool true)], args := [d1, d2, d3] }
  | _ => none }
def letterBackRow : OpenClaim := { program := "ytondgoabnmgcaaa", sum := "563c387a280d35663b18ce1860c355856c3cdba8b69cb6a66b3f5b7ddcb12187", func := "conventicle/conventiclelaw15.LetterBack", spec := "letterBack", inPlace := ["math.Float64bits", "math.Float64frombits"], unfollowed := true, recurses := true, apart := false }
def LetterBackSaid : Prop := letterBackRow.holds Try.pinned (OpenSpec.ofChange letterBackSpec)

/-- ITS FALSE NEIGHBOUR: 'it returns false'. Refute it at one input. -/
def letterBackWrong : ChangeSpec := { name := "letterBack", fn := fun _ => fun
  | [d1, d2, d3] => { results := [.lit (.bool false)], args := [d1, d2, d3] }
  | _ => none }
def LetterBackWrongFalsely : Prop := letterBackRow.holds Try.pinned (OpenSpec.ofChange letterBackWrong)

/-- 'conventiclelaw15.LetterMay': WHATEVER THE INPUT: true; the input reads as it did. -/
def letterMaySpec : ChangeSpec := { name := "letterMay", fn := fun _ => fun
  | [d1, d2, d3, d4, d5, d6] => { results := [.lit (.bool true)], args := [d1, d2, d3, d4, d5, d6] }
  | _ => none }
def letterMayRow : OpenClaim := { program := "ytondgoabnmgcaaa", sum := "563c387a280d35663b18ce1860c355856c3cdba8b69cb6a66b3f5b7ddcb12187", func := "conventicle/conventiclelaw15.LetterMay", spec := "letterMay", inPlace := ["math.Float64bits", "math.Float64frombits"], unfollowed := true, recurses := true, apart := false }
def LetterMaySaid : Prop := letterMayRow.holds Try.pinned (OpenSpec.ofChange letterMaySpec)

/-- ITS FALSE NEIGHBOUR: 'it returns false'. Refute it at one input. -/
def letterMayWrong : ChangeSpec := { name := "letterMay", fn := fun _ => fun
  | [d1, d2, d3, d4, d5, d6] => { results := [.lit (.bool false)], args := [d1, d2, d3, d4, d5, d6] }
  | _ => none }
def LetterMayWrongFalsely : Prop := letterMayRow.holds Try.pinned (OpenSpec.ofChange letterMayWrong)

/-- 'conventiclelaw15.LetterSizes': WHATEVER THE INPUT: true; the input reads as it did. -/
def letterSizesSpec : ChangeSpec := { name := "letterSizes", fn := fun _ => fun
  | [d] => { results := [.lit (.bool true)], args := [d] }
  | _ => none }
def letterSizesRow : OpenClaim := { program := "ytondgoabnmgcaaa", sum := "563c387a280d35663b18ce1860c355856c3cdba8b69cb6a66b3f5b7ddcb12187", func := "conventicle/conventiclelaw15.LetterSizes", spec := "letterSizes", inPlace := ["math.Float64bits", "math.Float64frombits"], unfollowed := true, recurses := true, apart := false }
def LetterSizesSaid : Prop := letterSizesRow.holds Try.pinned (OpenSpec.ofChange letterSizesSpec)

/-- ITS FALSE NEIGHBOUR: 'it returns false'. Refute it at one input. -/
def letterSizesWrong : ChangeSpec := { name := "letterSizes", fn := fun _ => fun
  | [d] => { results := [.lit (.bool false)], args := [d] }
  | _ => none }
def LetterSizesWrongFalsely : Prop := letterSizesRow.holds Try.pinned (OpenSpec.ofChange letterSizesWrong)

/-- 'conventiclelaw15.LetterEncodes': WHATEVER THE INPUT: true; the input reads as it did. -/
def letterEncodesSpec : ChangeSpec := { name := "letterEncodes", fn := fun _ => fun
  | [d1, d2] => { results := [.lit (.bool true)], args := [d1, d2] }
  | _ => none }
def letterEncodesRow : OpenClaim := { program := "ytondgoabnmgcaaa", sum := "563c387a280d35663b18ce1860c355856c3cdba8b69cb6a66b3f5b7ddcb12187", func := "conventicle/conventiclelaw15.LetterEncodes", spec := "letterEncodes", inPlace := ["math.Float64bits", "math.Float64frombits"], unfollowed := true, recurses := true, apart := false }
def LetterEncodesSaid : Prop := letterEncodesRow.holds Try.pinned (OpenSpec.ofChange letterEncodesSpec)

/-- ITS FALSE NEIGHBOUR: 'it returns false'. Refute it at one input. -/
def letterEncodesWrong : ChangeSpec := { name := "letterEncodes", fn := fun _ => fun
  | [d1, d2] => { results := [.lit (.bool false)], args := [d1, d2] }
  | _ => none }
def LetterEncodesWrongFalsely : Prop := letterEncodesRow.holds Try.pinned (OpenSpec.ofChange letterEncodesWrong)

/- THE SECOND FORM. 'bulk': how many values and letters a reading holds, each counted each time it is reached (what is shared counts as often as it is met; a slice's spare places count too). A statement '..UptoSaid' is the law's where the arguments, and the package variables that the reading takes, are together of bulk at most 1048576: NARROWER than '..Said'. Prove '..Said' where nothing that the law and all that it calls make is longer than what came in: it says more and counts as full. Else prove '..UptoSaid'. A law counts once. -/
mutual
def uptoBulk {H : Type} : DataW H → Nat
  | .lit (.string bytes) => bytes.length + 1
  | .lit _ => 1
  | .nil => 1
  | .ptr d => uptoBulk d + 1
  | .slice elems spare => uptoBulkAll elems + uptoBulkAll spare + 1
  | .agg parts => uptoBulkAll parts + 1
  | .iface _ d => uptoBulk d + 1
  | .map entries => uptoBulkEntries entries + 1
  | .held _ => 1
def uptoBulkAll {H : Type} : List (DataW H) → Nat
  | [] => 0
  | d :: r => uptoBulk d + uptoBulkAll r
def uptoBulkEntries {H : Type} : List (Lit × DataW H) → Nat
  | [] => 0
  | x :: r => uptoBulkEntry x + uptoBulkEntries r
def uptoBulkEntry {H : Type} : Lit × DataW H → Nat
  | (.string bytes, d) => bytes.length + uptoBulk d + 1
  | (_, d) => uptoBulk d + 1
 end
def uptoSmall : (H : Type) → List (DataW H) → Bool := fun _ ds => decide (uptoBulkAll ds ≤ 1048576)
def OpenSpec.upto (s : _root_.Go.ChangeSpec) : _root_.Go.OpenSpec := { _root_.Go.OpenSpec.ofChange s with cond := some uptoSmall }

/-- 'conventiclelaw15.LetterDecodes', WHERE WHAT IT READS IS OF BULK AT MOST 1048576: true; the input reads as it did. -/
def letterDecodesUptoRow : OpenClaim := { program := "ytondgoabnmgcaaa", sum := "563c387a280d35663b18ce1860c355856c3cdba8b69cb6a66b3f5b7ddcb12187", func := "conventicle/conventiclelaw15.LetterDecodes", spec := "letterDecodes", inPlace := ["math.Float64bits", "math.Float64frombits"], unfollowed := true, recurses := true, apart := false, narrowed := true }
def LetterDecodesUptoSaid : Prop := letterDecodesUptoRow.holds Try.pinned (OpenSpec.upto letterDecodesSpec)

/-- 'conventiclelaw15.LetterBack', WHERE WHAT IT READS IS OF BULK AT MOST 1048576: true; the input reads as it did. -/
def letterBackUptoRow : OpenClaim := { program := "ytondgoabnmgcaaa", sum := "563c387a280d35663b18ce1860c355856c3cdba8b69cb6a66b3f5b7ddcb12187", func := "conventicle/conventiclelaw15.LetterBack", spec := "letterBack", inPlace := ["math.Float64bits", "math.Float64frombits"], unfollowed := true, recurses := true, apart := false, narrowed := true }
def LetterBackUptoSaid : Prop := letterBackUptoRow.holds Try.pinned (OpenSpec.upto letterBackSpec)

/-- 'conventiclelaw15.LetterMay', WHERE WHAT IT READS IS OF BULK AT MOST 1048576: true; the input reads as it did. -/
def letterMayUptoRow : OpenClaim := { program := "ytondgoabnmgcaaa", sum := "563c387a280d35663b18ce1860c355856c3cdba8b69cb6a66b3f5b7ddcb12187", func := "conventicle/conventiclelaw15.LetterMay", spec := "letterMay", inPlace := ["math.Float64bits", "math.Float64frombits"], unfollowed := true, recurses := true, apart := false, narrowed := true }
def LetterMayUptoSaid : Prop := letterMayUptoRow.holds Try.pinned (OpenSpec.upto letterMaySpec)

/-- 'conventiclelaw15.LetterSizes', WHERE WHAT IT READS IS OF BULK AT MOST 1048576: true; the input reads as it did. -/
def letterSizesUptoRow : OpenClaim := { program := "ytondgoabnmgcaaa", sum := "563c387a280d35663b18ce1860c355856c3cdba8b69cb6a66b3f5b7ddcb12187", func := "conventicle/conventiclelaw15.LetterSizes", spec := "letterSizes", inPlace := ["math.Float64bits", "math.Float64frombits"], unfollowed := true, recurses := true, apart := false, narrowed := true }
def LetterSizesUptoSaid : Prop := letterSizesUptoRow.holds Try.pinned (OpenSpec.upto letterSizesSpec)

/-- 'conventiclelaw15.LetterEncodes', WHERE WHAT IT READS IS OF BULK AT MOST 1048576: true; the input reads as it did. -/
def letterEncodesUptoRow : OpenClaim := { program := "ytondgoabnmgcaaa", sum := "563c387a280d35663b18ce1860c355856c3cdba8b69cb6a66b3f5b7ddcb12187", func := "conventicle/conventiclelaw15.LetterEncodes", spec := "letterEncodes", inPlace := ["math.Float64bits", "math.Float64frombits"], unfollowed := true, recurses := true, apart := false, narrowed := true }
def LetterEncodesUptoSaid : Prop := letterEncodesUptoRow.holds Try.pinned (OpenSpec.upto letterEncodesSpec)

end Rows
end Go.Proofs.Ytondgoabnmgcaaa
