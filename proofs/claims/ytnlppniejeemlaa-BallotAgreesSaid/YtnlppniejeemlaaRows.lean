/-
  No cell of these rows narrows 'for every input' (looked for: loops, veiled, ifaces, maps, wideKeys, modest, calm, conditions, laid).
  DERIVED. THE GIVEN ROWS OF THIS SEAT. 5 by the template 'for every input the law returns true; each argument reads behind the call as it read before'; 0 by the template 'total and deterministic' (their statements: YtnlppniejeemlaaTotals.lean).
  GIVEN WITH THE SEED: the statements are not yours to turn. If you find one false, say at which input.
  Laid BY PROGRAM, IN A SANDBOX (cutbox-rows.mjs): the forced cells as the released guide's own fill.sh prints them over the translation 4fb28dbae3242d7b… (all of the seat's roots in one cut). By AI agents, Wed Nov 11 2026. No macro, syntax, notation, axiom, sorry.
-/
import Derived.Test.YtnlppniejeemlaaChecked
import GoSem.Claim
import GoSem.ClaimJoined
import GoSem.ClaimMapViews
import Derived.JoinedTies
import Derived.KernelRfl
namespace Go.Proofs.Ytnlppniejeemlaa
/- THE CELL 'sum', in the pinned program and in every row, IS THE sha256 OF THE DUMP (.gsa) THAT YtnlppniejeemlaaProg.lean LOADS. Nothing in Lean hashes anything: it is a label: what it is worth is what the hold of that sum in a sandbox is worth. -/
noncomputable def Try.pinned : Pinned := { name := "ytnlppniejeemlaa", sum := "4fb28dbae3242d7b9d01fd095a9ad1973dc665e227d43675d5b6a024a058088a", checked := Try.checked }
namespace Rows
def none {H : Type} : Left H := { results := [], args := [] }

/-- 'conventiclelaw16.BallotTop': WHATEVER THE INPUT: true; the input reads as it did. -/
def ballotTopSpec : ChangeSpec := { name := "ballotTop", fn := fun _ => fun
  | [d] => { results := [.lit (.bool true)], args := [d] }
  | _ => none }
def ballotTopRow : OpenClaim := { program := "ytnlppniejeemlaa", sum := "4fb28dbae3242d7b9d01fd095a9ad1973dc665e227d43675d5b6a024a058088a", func := "conventicle/conventiclelaw16.BallotTop", spec := "ballotTop", apart := false }
def BallotTopSaid : Prop := ballotTopRow.holds Try.pinned (OpenSpec.ofChange ballotTopSpec)

/-- ITS FALSE NEIGHBOUR: 'it returns false'. Refute it at one input. -/
def ballotTopWrong : ChangeSpec := { name := "ballotTop", fn := fun _ => fun
  | [d] => { results := [.lit (.bool false)], args := [d] }
  | _ => none }
def BallotTopWrongFalsely : Prop := ballotTopRow.holds Try.pinned (OpenSpec.ofChange ballotTopWrong)

/-- 'conventiclelaw16.BallotPicks': WHATEVER THE INPUT: true; the input reads as it did. -/
def ballotPicksSpec : ChangeSpec := { name := "ballotPicks", fn := fun _ => fun
  | [d] => { results := [.lit (.bool true)], args := [d] }
  | _ => none }
def ballotPicksRow : OpenClaim := { program := "ytnlppniejeemlaa", sum := "4fb28dbae3242d7b9d01fd095a9ad1973dc665e227d43675d5b6a024a058088a", func := "conventicle/conventiclelaw16.BallotPicks", spec := "ballotPicks", unfollowed := true, recurses := true, apart := false }
def BallotPicksSaid : Prop := ballotPicksRow.holds Try.pinned (OpenSpec.ofChange ballotPicksSpec)

/-- ITS FALSE NEIGHBOUR: 'it returns false'. Refute it at one input. -/
def ballotPicksWrong : ChangeSpec := { name := "ballotPicks", fn := fun _ => fun
  | [d] => { results := [.lit (.bool false)], args := [d] }
  | _ => none }
def BallotPicksWrongFalsely : Prop := ballotPicksRow.holds Try.pinned (OpenSpec.ofChange ballotPicksWrong)

/-- 'conventiclelaw16.BallotOwns': WHATEVER THE INPUT: true; the input reads as it did. -/
def ballotOwnsSpec : ChangeSpec := { name := "ballotOwns", fn := fun _ => fun
  | [d1, d2, d3, d4] => { results := [.lit (.bool true)], args := [d1, d2, d3, d4] }
  | _ => none }
def ballotOwnsRow : OpenClaim := { program := "ytnlppniejeemlaa", sum := "4fb28dbae3242d7b9d01fd095a9ad1973dc665e227d43675d5b6a024a058088a", func := "conventicle/conventiclelaw16.BallotOwns", spec := "ballotOwns", inPlace := ["math/bits.Add64"], apart := false }
def BallotOwnsSaid : Prop := ballotOwnsRow.holds Try.pinned (OpenSpec.ofChange ballotOwnsSpec)

/-- ITS FALSE NEIGHBOUR: 'it returns false'. Refute it at one input. -/
def ballotOwnsWrong : ChangeSpec := { name := "ballotOwns", fn := fun _ => fun
  | [d1, d2, d3, d4] => { results := [.lit (.bool false)], args := [d1, d2, d3, d4] }
  | _ => none }
def BallotOwnsWrongFalsely : Prop := ballotOwnsRow.holds Try.pinned (OpenSpec.ofChange ballotOwnsWrong)

/-- 'conventiclelaw16.BallotAgrees': WHATEVER THE INPUT: true; the input reads as it did. -/
def ballotAgreesSpec : ChangeSpec := { name := "ballotAgrees", fn := fun _ => fun
  | [d1, d2] => { results := [.lit (.bool true)], args := [d1, d2] }
  | _ => none }
def ballotAgreesRow : OpenClaim := { program := "ytnlppniejeemlaa", sum := "4fb28dbae3242d7b9d01fd095a9ad1973dc665e227d43675d5b6a024a058088a", func := "conventicle/conventiclelaw16.BallotAgrees", spec := "ballotAgrees", inPlace := ["math/bits.Add64"], unfollowed := true, recurses := true, apart := false }
def BallotAgreesSaid : Prop := ballotAgreesRow.holds Try.pinned (OpenSpec.ofChange ballotAgreesSpec)

/-- ITS FALSE NEIGHBOUR: 'it returns false'. Refute it at one input. -/
def ballotAgreesWrong : ChangeSpec := { name := "ballotAgrees", fn := fun _ => fun
  | [d1, d2] => { results := [.lit (.bool false)], args := [d1, d2] }
  | _ => none }
def BallotAgreesWrongFalsely : Prop := ballotAgreesRow.holds Try.pinned (OpenSpec.ofChange ballotAgreesWrong)

/-- 'conventiclelaw16.BallotActs': WHATEVER THE INPUT: true; the input reads as it did. -/
def ballotActsSpec : ChangeSpec := { name := "ballotActs", fn := fun _ => fun
  | [d1, d2, d3, d4] => { results := [.lit (.bool true)], args := [d1, d2, d3, d4] }
  | _ => none }
def ballotActsRow : OpenClaim := { program := "ytnlppniejeemlaa", sum := "4fb28dbae3242d7b9d01fd095a9ad1973dc665e227d43675d5b6a024a058088a", func := "conventicle/conventiclelaw16.BallotActs", spec := "ballotActs", inPlace := ["math/bits.Add64"], unfollowed := true, recurses := true, apart := false }
def BallotActsSaid : Prop := ballotActsRow.holds Try.pinned (OpenSpec.ofChange ballotActsSpec)

/-- ITS FALSE NEIGHBOUR: 'it returns false'. Refute it at one input. -/
def ballotActsWrong : ChangeSpec := { name := "ballotActs", fn := fun _ => fun
  | [d1, d2, d3, d4] => { results := [.lit (.bool false)], args := [d1, d2, d3, d4] }
  | _ => none }
def BallotActsWrongFalsely : Prop := ballotActsRow.holds Try.pinned (OpenSpec.ofChange ballotActsWrong)

/- THE SECOND FORM. 'bulk': how many values and letters a reading holds, each counted each time it is reached (what is shared counts as often as it is met; a slice's spare places count too). A statement '..UptoSaid' is the law's where the arguments, and the package variables that the reading takes, are together of bulk at most 1048576: NARROWER than '..Said'. Prove '..Said' where nothing that the law and all that it calls make is longer than what came in: it says more and counts as full. Else prove '..UptoSaid'. A law counts once. -/
mutual
def uptoBulk {H : Type} : DataW H → Nat
  | .lit (.string bytes) => bytes.length + 1
  | .lit _ => 1
  | .nil => 1
  | .ptr d => uptoBulk d + 1
  | .slice elems spare => uptoBulkAll elems + uptoBulkAll spare + 1
  | .agg parts => uptoBulkAll parts + 1
  | .iface _ d => uptoBulk d + 1
  | .map entries => uptoBulkEntries entries + 1
  | .held _ => 1
def uptoBulkAll {H : Type} : List (DataW H) → Nat
  | [] => 0
  | d :: r => uptoBulk d + uptoBulkAll r
def uptoBulkEntries {H : Type} : List (Lit × DataW H) → Nat
  | [] => 0
  | x :: r => uptoBulkEntry x + uptoBulkEntries r
def uptoBulkEntry {H : Type} : Lit × DataW H → Nat
  | (.string bytes, d) => bytes.length + uptoBulk d + 1
  | (_, d) => uptoBulk d + 1
 end
def uptoSmall : (H : Type) → List (DataW H) → Bool := fun _ ds => decide (uptoBulkAll ds ≤ 1048576)
def OpenSpec.upto (s : _root_.Go.ChangeSpec) : _root_.Go.OpenSpec := { _root_.Go.OpenSpec.ofChange s with cond := some uptoSmall }

/-- 'conventiclelaw16.BallotTop', WHERE WHAT IT READS IS OF BULK AT MOST 1048576: true; the input reads as it did. -/
def ballotTopUptoRow : OpenClaim := { program := "ytnlppniejeemlaa", sum := "4fb28dbae3242d7b9d01fd095a9ad1973dc665e227d43675d5b6a024a058088a", func := "conventicle/conventiclelaw16.BallotTop", spec := "ballotTop", apart := false, narrowed := true }
def BallotTopUptoSaid : Prop := ballotTopUptoRow.holds Try.pinned (OpenSpec.upto ballotTopSpec)

/-- 'conventiclelaw16.BallotPicks', WHERE WHAT IT READS IS OF BULK AT MOST 1048576: true; the input reads as it did. -/
def ballotPicksUptoRow : OpenClaim := { program := "ytnlppniejeemlaa", sum := "4fb28dbae3242d7b9d01fd095a9ad1973dc665e227d43675d5b6a024a058088a", func := "conventicle/conventiclelaw16.BallotPicks", spec := "ballotPicks", unfollowed := true, recurses := true, apart := false, narrowed := true }
def BallotPicksUptoSaid : Prop := ballotPicksUptoRow.holds Try.pinned (OpenSpec.upto ballotPicksSpec)

/-- 'conventiclelaw16.BallotOwns', WHERE WHAT IT READS IS OF BULK AT MOST 1048576: true; the input reads as it did. -/
def ballotOwnsUptoRow : OpenClaim := { program := "ytnlppniejeemlaa", sum := "4fb28dbae3242d7b9d01fd095a9ad1973dc665e227d43675d5b6a024a058088a", func := "conventicle/conventiclelaw16.BallotOwns", spec := "ballotOwns", inPlace := ["math/bits.Add64"], apart := false, narrowed := true }
def BallotOwnsUptoSaid : Prop := ballotOwnsUptoRow.holds Try.pinned (OpenSpec.upto ballotOwnsSpec)

/-- 'conventiclelaw16.BallotAgrees', WHERE WHAT IT READS IS OF BULK AT MOST 1048576: true; the input reads as it did. -/
def ballotAgreesUptoRow : OpenClaim := { program := "ytnlppniejeemlaa", sum := "4fb28dbae3242d7b9d01fd095a9ad1973dc665e227d43675d5b6a024a058088a", func := "conventicle/conventiclelaw16.BallotAgrees", spec := "ballotAgrees", inPlace := ["math/bits.Add64"], unfollowed := true, recurses := true, apart := false, narrowed := true }
def BallotAgreesUptoSaid : Prop := ballotAgreesUptoRow.holds Try.pinned (OpenSpec.upto ballotAgreesSpec)

/-- 'conventiclelaw16.BallotActs', WHERE WHAT IT READS IS OF BULK AT MOST 1048576: true; the input reads as it did. -/
def ballotActsUptoRow : OpenClaim := { program := "ytnlppniejeemlaa", sum := "4fb28dbae3242d7b9d01fd095a9ad1973dc665e227d43675d5b6a024a058088a", func := "conventicle/conventiclelaw16.BallotActs", spec := "ballotActs", inPlace := ["math/bits.Add64"], unfollowed := true, recurses := true, apart := false, narrowed := true }
def BallotActsUptoSaid : Prop := ballotActsUptoRow.holds Try.pinned (OpenSpec.upto ballotActsSpec)

end Rows
end Go.Proofs.Ytnlppniejeemlaa
