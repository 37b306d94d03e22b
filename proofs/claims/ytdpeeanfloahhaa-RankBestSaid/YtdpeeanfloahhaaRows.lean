/-
  No cell of these rows narrows 'for every input' (looked for: loops, veiled, ifaces, maps, wideKeys, modest, calm, conditions, laid).
  DERIVED. THE GIVEN ROWS OF THIS SEAT. 6 by the template 'for every input the law returns true; each argument reads behind the call as it read before'; 0 by the template 'total and deterministic' (their statements: YtdpeeanfloahhaaTotals.lean).
  GIVEN WITH THE SEED: the statements are not yours to turn. If you find one false, say at which input.
  Laid BY PROGRAM, IN A SANDBOX (cutbox-rows.mjs): the forced cells as the released guide's own fill.sh prints them over the translation 4dd619f6834fafca… (all of the seat's roots in one cut). By AI agents, Wed Nov 11 2026. No macro, syntax, notation, axiom, sorry.
-/
import Derived.Test.YtdpeeanfloahhaaChecked
import GoSem.Claim
import GoSem.ClaimJoined
import GoSem.ClaimMapViews
import Derived.JoinedTies
import Derived.KernelRfl
namespace Go.Proofs.Ytdpeeanfloahhaa
/- THE CELL 'sum', in the pinned program and in every row, IS THE sha256 OF THE DUMP (.gsa) THAT YtdpeeanfloahhaaProg.lean LOADS. Nothing in Lean hashes anything: it is a label: what it is worth is what the hold of that sum in a sandbox is worth. -/
noncomputable def Try.pinned : Pinned := { name := "ytdpeeanfloahhaa", sum := "4dd619f6834fafca9b728b4a8183c85d91b1b8718e2e29bcf709adef782e3e48", checked := Try.checked }
namespace Rows
def none {H : Type} : Left H := { results := [], args := [] }

/-- 'conventiclelaw06.RankOrder': WHATEVER THE INPUT: true; the input reads as it did. -/
def rankOrderSpec : ChangeSpec := { name := "rankOrder", fn := fun _ => fun
  | [d1, d2, d3] => { results := [.lit (.bool true)], args := [d1, d2, d3] }
  | _ => none }
def rankOrderRow : OpenClaim := { program := "ytdpeeanfloahhaa", sum := "4dd619f6834fafca9b728b4a8183c85d91b1b8718e2e29bcf709adef782e3e48", func := "conventicle/conventiclelaw06.RankOrder", spec := "rankOrder", unfollowed := true, recurses := true, apart := false }
def RankOrderSaid : Prop := rankOrderRow.holds Try.pinned (OpenSpec.ofChange rankOrderSpec)

/-- ITS FALSE NEIGHBOUR: 'it returns false'. Refute it at one input. -/
def rankOrderWrong : ChangeSpec := { name := "rankOrder", fn := fun _ => fun
  | [d1, d2, d3] => { results := [.lit (.bool false)], args := [d1, d2, d3] }
  | _ => none }
def RankOrderWrongFalsely : Prop := rankOrderRow.holds Try.pinned (OpenSpec.ofChange rankOrderWrong)

/-- 'conventiclelaw06.RankStates': WHATEVER THE INPUT: true; the input reads as it did. -/
def rankStatesSpec : ChangeSpec := { name := "rankStates", fn := fun _ => fun
  | [d1, d2, d3, d4] => { results := [.lit (.bool true)], args := [d1, d2, d3, d4] }
  | _ => none }
def rankStatesRow : OpenClaim := { program := "ytdpeeanfloahhaa", sum := "4dd619f6834fafca9b728b4a8183c85d91b1b8718e2e29bcf709adef782e3e48", func := "conventicle/conventiclelaw06.RankStates", spec := "rankStates", apart := false }
def RankStatesSaid : Prop := rankStatesRow.holds Try.pinned (OpenSpec.ofChange rankStatesSpec)

/-- ITS FALSE NEIGHBOUR: 'it returns false'. Refute it at one input. -/
def rankStatesWrong : ChangeSpec := { name := "rankStates", fn := fun _ => fun
  | [d1, d2, d3, d4] => { results := [.lit (.bool false)], args := [d1, d2, d3, d4] }
  | _ => none }
def RankStatesWrongFalsely : Prop := rankStatesRow.holds Try.pinned (OpenSpec.ofChange rankStatesWrong)

/-- 'conventiclelaw06.RankRefutes': WHATEVER THE INPUT: true; the input reads as it did. -/
def rankRefutesSpec : ChangeSpec := { name := "rankRefutes", fn := fun _ => fun
  | [d1, d2, d3] => { results := [.lit (.bool true)], args := [d1, d2, d3] }
  | _ => none }
def rankRefutesRow : OpenClaim := { program := "ytdpeeanfloahhaa", sum := "4dd619f6834fafca9b728b4a8183c85d91b1b8718e2e29bcf709adef782e3e48", func := "conventicle/conventiclelaw06.RankRefutes", spec := "rankRefutes", apart := false }
def RankRefutesSaid : Prop := rankRefutesRow.holds Try.pinned (OpenSpec.ofChange rankRefutesSpec)

/-- ITS FALSE NEIGHBOUR: 'it returns false'. Refute it at one input. -/
def rankRefutesWrong : ChangeSpec := { name := "rankRefutes", fn := fun _ => fun
  | [d1, d2, d3] => { results := [.lit (.bool false)], args := [d1, d2, d3] }
  | _ => none }
def RankRefutesWrongFalsely : Prop := rankRefutesRow.holds Try.pinned (OpenSpec.ofChange rankRefutesWrong)

/-- 'conventiclelaw06.RankOthers': WHATEVER THE INPUT: true; the input reads as it did. -/
def rankOthersSpec : ChangeSpec := { name := "rankOthers", fn := fun _ => fun
  | [d1, d2, d3] => { results := [.lit (.bool true)], args := [d1, d2, d3] }
  | _ => none }
def rankOthersRow : OpenClaim := { program := "ytdpeeanfloahhaa", sum := "4dd619f6834fafca9b728b4a8183c85d91b1b8718e2e29bcf709adef782e3e48", func := "conventicle/conventiclelaw06.RankOthers", spec := "rankOthers", apart := false }
def RankOthersSaid : Prop := rankOthersRow.holds Try.pinned (OpenSpec.ofChange rankOthersSpec)

/-- ITS FALSE NEIGHBOUR: 'it returns false'. Refute it at one input. -/
def rankOthersWrong : ChangeSpec := { name := "rankOthers", fn := fun _ => fun
  | [d1, d2, d3] => { results := [.lit (.bool false)], args := [d1, d2, d3] }
  | _ => none }
def RankOthersWrongFalsely : Prop := rankOthersRow.holds Try.pinned (OpenSpec.ofChange rankOthersWrong)

/-- 'conventiclelaw06.RankBest': WHATEVER THE INPUT: true; the input reads as it did. -/
def rankBestSpec : ChangeSpec := { name := "rankBest", fn := fun _ => fun
  | [d1, d2] => { results := [.lit (.bool true)], args := [d1, d2] }
  | _ => none }
def rankBestRow : OpenClaim := { program := "ytdpeeanfloahhaa", sum := "4dd619f6834fafca9b728b4a8183c85d91b1b8718e2e29bcf709adef782e3e48", func := "conventicle/conventiclelaw06.RankBest", spec := "rankBest", unfollowed := true, recurses := true, apart := false }
def RankBestSaid : Prop := rankBestRow.holds Try.pinned (OpenSpec.ofChange rankBestSpec)

/-- ITS FALSE NEIGHBOUR: 'it returns false'. Refute it at one input. -/
def rankBestWrong : ChangeSpec := { name := "rankBest", fn := fun _ => fun
  | [d1, d2] => { results := [.lit (.bool false)], args := [d1, d2] }
  | _ => none }
def RankBestWrongFalsely : Prop := rankBestRow.holds Try.pinned (OpenSpec.ofChange rankBestWrong)

/-- 'conventiclelaw06.RankTells': WHATEVER THE INPUT: true; the input reads as it did. -/
def rankTellsSpec : ChangeSpec := { name := "rankTells", fn := fun _ => fun
  | [d1, d2, d3, d4, d5] => { results := [.lit (.bool true)], args := [d1, d2, d3, d4, d5] }
  | _ => none }
def rankTellsRow : OpenClaim := { program := "ytdpeeanfloahhaa", sum := "4dd619f6834fafca9b728b4a8183c85d91b1b8718e2e29bcf709adef782e3e48", func := "conventicle/conventiclelaw06.RankTells", spec := "rankTells", unfollowed := true, recurses := true, apart := false }
def RankTellsSaid : Prop := rankTellsRow.holds Try.pinned (OpenSpec.ofChange rankTellsSpec)

/-- ITS FALSE NEIGHBOUR: 'it returns false'. Refute it at one input. -/
def rankTellsWrong : ChangeSpec := { name := "rankTells", fn := fun _ => fun
  | [d1, d2, d3, d4, d5] => { results := [.lit (.bool false)], args := [d1, d2, d3, d4, d5] }
  | _ => none }
def RankTellsWrongFalsely : Prop := rankTellsRow.holds Try.pinned (OpenSpec.ofChange rankTellsWrong)

/- THE SECOND FORM. 'bulk': how many values and letters a reading holds, each counted each time it is reached (what is shared counts as often as it is met; a slice's spare places count too). A statement '..UptoSaid' is the law's where the arguments, and the package variables that the reading takes, are together of bulk at most 1048576: NARROWER than '..Said'. Prove '..Said' where nothing that the law and all that it calls make is longer than what came in: it says more and counts as full. Else prove '..UptoSaid'. A law counts once. -/
mutual
def uptoBulk {H : Type} : DataW H → Nat
  | .lit (.string bytes) => bytes.length + 1
  | .lit _ => 1
  | .nil => 1
  | .ptr d => uptoBulk d + 1
  | .slice elems spare => uptoBulkAll elems + uptoBulkAll spare + 1
  | .agg parts => uptoBulkAll parts + 1
  | .iface _ d => uptoBulk d + 1
  | .map entries => uptoBulkEntries entries + 1
  | .held _ => 1
def uptoBulkAll {H : Type} : List (DataW H) → Nat
  | [] => 0
  | d :: r => uptoBulk d + uptoBulkAll r
def uptoBulkEntries {H : Type} : List (Lit × DataW H) → Nat
  | [] => 0
  | x :: r => uptoBulkEntry x + uptoBulkEntries r
def uptoBulkEntry {H : Type} : Lit × DataW H → Nat
  | (.string bytes, d) => bytes.length + uptoBulk d + 1
  | (_, d) => uptoBulk d + 1
 end
def uptoSmall : (H : Type) → List (DataW H) → Bool := fun _ ds => decide (uptoBulkAll ds ≤ 1048576)
def OpenSpec.upto (s : _root_.Go.ChangeSpec) : _root_.Go.OpenSpec := { _root_.Go.OpenSpec.ofChange s with cond := some uptoSmall }

/-- 'conventiclelaw06.RankOrder', WHERE WHAT IT READS IS OF BULK AT MOST 1048576: true; the input reads as it did. -/
def rankOrderUptoRow : OpenClaim := { program := "ytdpeeanfloahhaa", sum := "4dd619f6834fafca9b728b4a8183c85d91b1b8718e2e29bcf709adef782e3e48", func := "conventicle/conventiclelaw06.RankOrder", spec := "rankOrder", unfollowed := true, recurses := true, apart := false, narrowed := true }
def RankOrderUptoSaid : Prop := rankOrderUptoRow.holds Try.pinned (OpenSpec.upto rankOrderSpec)

/-- 'conventiclelaw06.RankStates', WHERE WHAT IT READS IS OF BULK AT MOST 1048576: true; the input reads as it did. -/
def rankStatesUptoRow : OpenClaim := { program := "ytdpeeanfloahhaa", sum := "4dd619f6834fafca9b728b4a8183c85d91b1b8718e2e29bcf709adef782e3e48", func := "conventicle/conventiclelaw06.RankStates", spec := "rankStates", apart := false, narrowed := true }
def RankStatesUptoSaid : Prop := rankStatesUptoRow.holds Try.pinned (OpenSpec.upto rankStatesSpec)

/-- 'conventiclelaw06.RankRefutes', WHERE WHAT IT READS IS OF BULK AT MOST 1048576: true; the input reads as it did. -/
def rankRefutesUptoRow : OpenClaim := { program := "ytdpeeanfloahhaa", sum := "4dd619f6834fafca9b728b4a8183c85d91b1b8718e2e29bcf709adef782e3e48", func := "conventicle/conventiclelaw06.RankRefutes", spec := "rankRefutes", apart := false, narrowed := true }
def RankRefutesUptoSaid : Prop := rankRefutesUptoRow.holds Try.pinned (OpenSpec.upto rankRefutesSpec)

/-- 'conventiclelaw06.RankOthers', WHERE WHAT IT READS IS OF BULK AT MOST 1048576: true; the input reads as it did. -/
def rankOthersUptoRow : OpenClaim := { program := "ytdpeeanfloahhaa", sum := "4dd619f6834fafca9b728b4a8183c85d91b1b8718e2e29bcf709adef782e3e48", func := "conventicle/conventiclelaw06.RankOthers", spec := "rankOthers", apart := false, narrowed := true }
def RankOthersUptoSaid : Prop := rankOthersUptoRow.holds Try.pinned (OpenSpec.upto rankOthersSpec)

/-- 'conventiclelaw06.RankBest', WHERE WHAT IT READS IS OF BULK AT MOST 1048576: true; the input reads as it did. -/
def rankBestUptoRow : OpenClaim := { program := "ytdpeeanfloahhaa", sum := "4dd619f6834fafca9b728b4a8183c85d91b1b8718e2e29bcf709adef782e3e48", func := "conventicle/conventiclelaw06.RankBest", spec := "rankBest", unfollowed := true, recurses := true, apart := false, narrowed := true }
def RankBestUptoSaid : Prop := rankBestUptoRow.holds Try.pinned (OpenSpec.upto rankBestSpec)

/-- 'conventiclelaw06.RankTells', WHERE WHAT IT READS IS OF BULK AT MOST 1048576: true; the input reads as it did. -/
def rankTellsUptoRow : OpenClaim := { program := "ytdpeeanfloahhaa", sum := "4dd619f6834fafca9b728b4a8183c85d91b1b8718e2e29bcf709adef782e3e48", func := "conventicle/conventiclelaw06.RankTells", spec := "rankTells", unfollowed := true, recurses := true, apart := false, narrowed := true }
def RankTellsUptoSaid : Prop := rankTellsUptoRow.holds Try.pinned (OpenSpec.upto rankTellsSpec)

end Rows
end Go.Proofs.Ytdpeeanfloahhaa
