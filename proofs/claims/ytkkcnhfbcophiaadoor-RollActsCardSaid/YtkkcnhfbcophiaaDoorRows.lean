/-
  NARROWER THAN 'FOR EVERY INPUT', by the rows' own cells (each row's printed sentence says how): RollSelf: laid · RollBoth: laid · RollTwice: laid · RollOrder: laid · RollMerges: laid · RollActs: laid · RollLive: laid.
  DERIVED. THE GIVEN ROWS OF THIS SEAT. 7 by the template 'for every input the law returns true; each argument reads behind the call as it read before'; 0 by the template 'total and deterministic' (their statements: YtkkcnhfbcophiaaDoorTotals.lean).
  GIVEN WITH THE SEED: the statements are not yours to turn. If you find one false, say at which input.
  Laid BY PROGRAM, IN A SANDBOX (cutbox-rows.mjs): the forced cells as the released guide's own fill.sh prints them over the translation bd558c9c59e69682… (all of the seat's roots in one cut). By AI agents, Wed Nov 11 2026. No macro, syntax, notation, axiom, sorry.
-/
import Derived.Test.YtkkcnhfbcophiaaDoorChecked
import GoSem.Claim
import GoSem.ClaimJoined
import GoSem.ClaimMapViews
import Derived.JoinedTies
import Derived.KernelRfl
namespace Go.Proofs.YtkkcnhfbcophiaaDoor
/- THE CELL 'sum', in the pinned program and in every row, IS THE sha256 OF THE DUMP (.gsa) THAT YtkkcnhfbcophiaaDoorProg.lean LOADS. Nothing in Lean hashes anything: it is a label: what it is worth is what the hold of that sum in a sandbox is worth. -/
noncomputable def Tryd.pinned : Pinned := { name := "ytkkcnhfbcophiaadoor", sum := "bd558c9c59e696820c5fab191ef0116fa0a1f40273e8a41871576ef4a6edf31e", checked := Tryd.checked }
namespace Rows
def none {H : Type} : Left H := { results := [], args := [] }

/- WHAT THE LISTED PACKAGE-LEVEL VARIABLES READ AS WHEN THE CALL BEGINS. Each datum BY PROGRAM (the guide's laid-datum.mjs) off the statement by which the dump's own 'gosem.cut.vars' lays the variable. In a bare row this is a premise. The card (YtkkcnhfbcophiaaDoorCards.lean) ties it to the program's text. -/
def laid_math_bits_deBruijn64tab {H : Type} : DataW H := .agg [.lit (.int .u8 0), .lit (.int .u8 1), .lit (.int .u8 56), .lit (.int .u8 2), .lit (.int .u8 57), .lit (.int .u8 49), .lit (.int .u8 28), .lit (.int .u8 3), .lit (.int .u8 61), .lit (.int .u8 58), .lit (.int .u8 42), .lit (.int .u8 50), .lit (.int .u8 38), .lit (.int .u8 29), .lit (.int .u8 17), .lit (.int .u8 4), .lit (.int .u8 62), .lit (.int .u8 47), .lit (.int .u8 59), .lit (.int .u8 36), .lit (.int .u8 45), .lit (.int .u8 43), .lit (.int .u8 51), .lit (.int .u8 22), .lit (.int .u8 53), .lit (.int .u8 39), .lit (.int .u8 33), .lit (.int .u8 30), .lit (.int .u8 24), .lit (.int .u8 18), .lit (.int .u8 12), .lit (.int .u8 5), .lit (.int .u8 63), .lit (.int .u8 55), .lit (.int .u8 48), .lit (.int .u8 27), .lit (.int .u8 60), .lit (.int .u8 41), .lit (.int .u8 37), .lit (.int .u8 16), .lit (.int .u8 46), .lit (.int .u8 35), .lit (.int .u8 44), .lit (.int .u8 21), .lit (.int .u8 52), .lit (.int .u8 32), .lit (.int .u8 23), .lit (.int .u8 11), .lit (.int .u8 54), .lit (.int .u8 26), .lit (.int .u8 40), .lit (.int .u8 15), .lit (.int .u8 34), .lit (.int .u8 20), .lit (.int .u8 31), .lit (.int .u8 10), .lit (.int .u8 25), .lit (.int .u8 14), .lit (.int .u8 19), .lit (.int .u8 9), .lit (.int .u8 13), .lit (.int .u8 8), .lit (.int .u8 7), .lit (.int .u8 6)]

/-- 'conventiclelaw07.RollSelf': WHATEVER THE INPUT: true; the input reads as it did. -/
def rollSelfSpec : ChangeSpec := { name := "rollSelf", fn := fun _ => fun
  | [d1, d2, d3] => { results := [.lit (.bool true)], args := [d1, d2, d3] }
  | _ => none }
def rollSelfRow : OpenClaim := { program := "ytkkcnhfbcophiaadoor", sum := "bd558c9c59e696820c5fab191ef0116fa0a1f40273e8a41871576ef4a6edf31e", func := "conventicle/conventiclelaw07.RollSelf", spec := "rollSelf", unfollowed := true, recurses := true, named := ["math/bits.deBruijn64tab"], apart := false, laid := [("math/bits.deBruijn64tab", laid_math_bits_deBruijn64tab)] }
def RollSelfSaid : Prop := rollSelfRow.holds Tryd.pinned (OpenSpec.ofChange rollSelfSpec)

/-- ITS FALSE NEIGHBOUR: 'it returns false'. Refute it at one input. -/
def rollSelfWrong : ChangeSpec := { name := "rollSelf", fn := fun _ => fun
  | [d1, d2, d3] => { results := [.lit (.bool false)], args := [d1, d2, d3] }
  | _ => none }
def RollSelfWrongFalsely : Prop := rollSelfRow.holds Tryd.pinned (OpenSpec.ofChange rollSelfWrong)

/-- 'conventiclelaw07.RollBoth': WHATEVER THE INPUT: true; the input reads as it did. -/
def rollBothSpec : ChangeSpec := { name := "rollBoth", fn := fun _ => fun
  | [d1, d2] => { results := [.lit (.bool true)], args := [d1, d2] }
  | _ => none }
def rollBothRow : OpenClaim := { program := "ytkkcnhfbcophiaadoor", sum := "bd558c9c59e696820c5fab191ef0116fa0a1f40273e8a41871576ef4a6edf31e", func := "conventicle/conventiclelaw07.RollBoth", spec := "rollBoth", unfollowed := true, recurses := true, named := ["math/bits.deBruijn64tab"], apart := false, laid := [("math/bits.deBruijn64tab", laid_math_bits_deBruijn64tab)] }
def RollBothSaid : Prop := rollBothRow.holds Tryd.pinned (OpenSpec.ofChange rollBothSpec)

/-- ITS FALSE NEIGHBOUR: 'it returns false'. Refute it at one input. -/
def rollBothWrong : ChangeSpec := { name := "rollBoth", fn := fun _ => fun
  | [d1, d2] => { results := [.lit (.bool false)], args := [d1, d2] }
  | _ => none }
def RollBothWrongFalsely : Prop := rollBothRow.holds Tryd.pinned (OpenSpec.ofChange rollBothWrong)

/-- 'conventiclelaw07.RollTwice': WHATEVER THE INPUT: true; the input reads as it did. -/
def rollTwiceSpec : ChangeSpec := { name := "rollTwice", fn := fun _ => fun
  | [d1, d2] => { results := [.lit (.bool true)], args := [d1, d2] }
  | _ => none }
def rollTwiceRow : OpenClaim := { program := "ytkkcnhfbcophiaadoor", sum := "bd558c9c59e696820c5fab191ef0116fa0a1f40273e8a41871576ef4a6edf31e", func := "conventicle/conventiclelaw07.RollTwice", spec := "rollTwice", unfollowed := true, recurses := true, named := ["math/bits.deBruijn64tab"], apart := false, laid := [("math/bits.deBruijn64tab", laid_math_bits_deBruijn64tab)] }
def RollTwiceSaid : Prop := rollTwiceRow.holds Tryd.pinned (OpenSpec.ofChange rollTwiceSpec)

/-- ITS FALSE NEIGHBOUR: 'it returns false'. Refute it at one input. -/
def rollTwiceWrong : ChangeSpec := { name := "rollTwice", fn := fun _ => fun
  | [d1, d2] => { results := [.lit (.bool false)], args := [d1, d2] }
  | _ => none }
def RollTwiceWrongFalsely : Prop := rollTwiceRow.holds Tryd.pinned (OpenSpec.ofChange rollTwiceWrong)

/-- 'conventiclelaw07.RollOrder': WHATEVER THE INPUT: true; the input reads as it did. -/
def rollOrderSpec : ChangeSpec := { name := "rollOrder", fn := fun _ => fun
  | [d1, d2, d3] => { results := [.lit (.bool true)], args := [d1, d2, d3] }
  | _ => none }
def rollOrderRow : OpenClaim := { program := "ytkkcnhfbcophiaadoor", sum := "bd558c9c59e696820c5fab191ef0116fa0a1f40273e8a41871576ef4a6edf31e", func := "conventicle/conventiclelaw07.RollOrder", spec := "rollOrder", unfollowed := true, recurses := true, named := ["math/bits.deBruijn64tab"], apart := false, laid := [("math/bits.deBruijn64tab", laid_math_bits_deBruijn64tab)] }
def RollOrderSaid : Prop := rollOrderRow.holds Tryd.pinned (OpenSpec.ofChange rollOrderSpec)

/-- ITS FALSE NEIGHBOUR: 'it returns false'. Refute it at one input. -/
def rollOrderWrong : ChangeSpec := { name := "rollOrder", fn := fun _ => fun
  | [d1, d2, d3] => { results := [.lit (.bool false)], args := [d1, d2, d3] }
  | _ => none }
def RollOrderWrongFalsely : Prop := rollOrderRow.holds Tryd.pinned (OpenSpec.ofChange rollOrderWrong)

/-- 'conventiclelaw07.RollMerges': WHATEVER THE INPUT: true; the input reads as it did. -/
def rollMergesSpec : ChangeSpec := { name := "rollMerges", fn := fun _ => fun
  | [d1, d2, d3] => { results := [.lit (.bool true)], args := [d1, d2, d3] }
  | _ => none }
def rollMergesRow : OpenClaim := { program := "ytkkcnhfbcophiaadoor", sum := "bd558c9c59e696820c5fab191ef0116fa0a1f40273e8a41871576ef4a6edf31e", func := "conventicle/conventiclelaw07.RollMerges", spec := "rollMerges", unfollowed := true, recurses := true, named := ["math/bits.deBruijn64tab"], apart := false, laid := [("math/bits.deBruijn64tab", laid_math_bits_deBruijn64tab)] }
def RollMergesSaid : Prop := rollMergesRow.holds Tryd.pinned (OpenSpec.ofChange rollMergesSpec)

/-- ITS FALSE NEIGHBOUR: 'it returns false'. Refute it at one input. -/
def rollMergesWrong : ChangeSpec := { name := "rollMerges", fn := fun _ => fun
  | [d1, d2, d3] => { results := [.lit (.bool false)], args := [d1, d2, d3] }
  | _ => none }
def RollMergesWrongFalsely : Prop := rollMergesRow.holds Tryd.pinned (OpenSpec.ofChange rollMergesWrong)

/-- 'conventiclelaw07.RollActs': WHATEVER THE INPUT: true; the input reads as it did. -/
def rollActsSpec : ChangeSpec := { name := "rollActs", fn := fun _ => fun
  | [d1, d2, d3, d4] => { results := [.lit (.bool true)], args := [d1, d2, d3, d4] }
  | _ => none }
def rollActsRow : OpenClaim := { program := "ytkkcnhfbcophiaadoor", sum := "bd558c9c59e696820c5fab191ef0116fa0a1f40273e8a41871576ef4a6edf31e", func := "conventicle/conventiclelaw07.RollActs", spec := "rollActs", unfollowed := true, recurses := true, named := ["math/bits.deBruijn64tab"], apart := false, laid := [("math/bits.deBruijn64tab", laid_math_bits_deBruijn64tab)] }
def RollActsSaid : Prop := rollActsRow.holds Tryd.pinned (OpenSpec.ofChange rollActsSpec)

/-- ITS FALSE NEIGHBOUR: 'it returns false'. Refute it at one input. -/
def rollActsWrong : ChangeSpec := { name := "rollActs", fn := fun _ => fun
  | [d1, d2, d3, d4] => { results := [.lit (.bool false)], args := [d1, d2, d3, d4] }
  | _ => none }
def RollActsWrongFalsely : Prop := rollActsRow.holds Tryd.pinned (OpenSpec.ofChange rollActsWrong)

/-- 'conventiclelaw07.RollLive': WHATEVER THE INPUT: true; the input reads as it did. -/
def rollLiveSpec : ChangeSpec := { name := "rollLive", fn := fun _ => fun
  | [d1, d2] => { results := [.lit (.bool true)], args := [d1, d2] }
  | _ => none }
def rollLiveRow : OpenClaim := { program := "ytkkcnhfbcophiaadoor", sum := "bd558c9c59e696820c5fab191ef0116fa0a1f40273e8a41871576ef4a6edf31e", func := "conventicle/conventiclelaw07.RollLive", spec := "rollLive", unfollowed := true, recurses := true, named := ["math/bits.deBruijn64tab"], apart := false, laid := [("math/bits.deBruijn64tab", laid_math_bits_deBruijn64tab)] }
def RollLiveSaid : Prop := rollLiveRow.holds Tryd.pinned (OpenSpec.ofChange rollLiveSpec)

/-- ITS FALSE NEIGHBOUR: 'it returns false'. Refute it at one input. -/
def rollLiveWrong : ChangeSpec := { name := "rollLive", fn := fun _ => fun
  | [d1, d2] => { results := [.lit (.bool false)], args := [d1, d2] }
  | _ => none }
def RollLiveWrongFalsely : Prop := rollLiveRow.holds Tryd.pinned (OpenSpec.ofChange rollLiveWrong)

/- THE SECOND FORM. 'bulk': how many values and letters a reading holds, each counted each time it is reached (what is shared counts as often as it is met; a slice's spare places count too). A statement '..UptoSaid' is the law's where the arguments, and the package variables that the reading takes, are together of bulk at most 1048576: NARROWER than '..Said'. Prove '..Said' where nothing that the law and all that it calls make is longer than what came in: it says more and counts as full. Else prove '..UptoSaid'. A law counts once. -/
mutual
def uptoBulk {H : Type} : DataW H → Nat
  | .lit (.string bytes) => bytes.length + 1
  | .lit _ => 1
  | .nil => 1
  | .ptr d => uptoBulk d + 1
  | .slice elems spare => uptoBulkAll elems + uptoBulkAll spare + 1
  | .agg parts => uptoBulkAll parts + 1
  | .iface _ d => uptoBulk d + 1
  | .map entries => uptoBulkEntries entries + 1
  | .held _ => 1
def uptoBulkAll {H : Type} : List (DataW H) → Nat
  | [] => 0
  | d :: r => uptoBulk d + uptoBulkAll r
def uptoBulkEntries {H : Type} : List (Lit × DataW H) → Nat
  | [] => 0
  | x :: r => uptoBulkEntry x + uptoBulkEntries r
def uptoBulkEntry {H : Type} : Lit × DataW H → Nat
  | (.string bytes, d) => bytes.length + uptoBulk d + 1
  | (_, d) => uptoBulk d + 1
 end
def uptoSmall : (H : Type) → List (DataW H) → Bool := fun _ ds => decide (uptoBulkAll ds ≤ 1048576)
def OpenSpec.upto (s : _root_.Go.ChangeSpec) : _root_.Go.OpenSpec := { _root_.Go.OpenSpec.ofChange s with cond := some uptoSmall }

/-- 'conventiclelaw07.RollSelf', WHERE WHAT IT READS IS OF BULK AT MOST 1048576: true; the input reads as it did. -/
def rollSelfUptoRow : OpenClaim := { program := "ytkkcnhfbcophiaadoor", sum := "bd558c9c59e696820c5fab191ef0116fa0a1f40273e8a41871576ef4a6edf31e", func := "conventicle/conventiclelaw07.RollSelf", spec := "rollSelf", unfollowed := true, recurses := true, named := ["math/bits.deBruijn64tab"], apart := false, laid := [("math/bits.deBruijn64tab", laid_math_bits_deBruijn64tab)], narrowed := true }
def RollSelfUptoSaid : Prop := rollSelfUptoRow.holds Tryd.pinned (OpenSpec.upto rollSelfSpec)

/-- 'conventiclelaw07.RollBoth', WHERE WHAT IT READS IS OF BULK AT MOST 1048576: true; the input reads as it did. -/
def rollBothUptoRow : OpenClaim := { program := "ytkkcnhfbcophiaadoor", sum := "bd558c9c59e696820c5fab191ef0116fa0a1f40273e8a41871576ef4a6edf31e", func := "conventicle/conventiclelaw07.RollBoth", spec := "rollBoth", unfollowed := true, recurses := true, named := ["math/bits.deBruijn64tab"], apart := false, laid := [("math/bits.deBruijn64tab", laid_math_bits_deBruijn64tab)], narrowed := true }
def RollBothUptoSaid : Prop := rollBothUptoRow.holds Tryd.pinned (OpenSpec.upto rollBothSpec)

/-- 'conventiclelaw07.RollTwice', WHERE WHAT IT READS IS OF BULK AT MOST 1048576: true; the input reads as it did. -/
def rollTwiceUptoRow : OpenClaim := { program := "ytkkcnhfbcophiaadoor", sum := "bd558c9c59e696820c5fab191ef0116fa0a1f40273e8a41871576ef4a6edf31e", func := "conventicle/conventiclelaw07.RollTwice", spec := "rollTwice", unfollowed := true, recurses := true, named := ["math/bits.deBruijn64tab"], apart := false, laid := [("math/bits.deBruijn64tab", laid_math_bits_deBruijn64tab)], narrowed := true }
def RollTwiceUptoSaid : Prop := rollTwiceUptoRow.holds Tryd.pinned (OpenSpec.upto rollTwiceSpec)

/-- 'conventiclelaw07.RollOrder', WHERE WHAT IT READS IS OF BULK AT MOST 1048576: true; the input reads as it did. -/
def rollOrderUptoRow : OpenClaim := { program := "ytkkcnhfbcophiaadoor", sum := "bd558c9c59e696820c5fab191ef0116fa0a1f40273e8a41871576ef4a6edf31e", func := "conventicle/conventiclelaw07.RollOrder", spec := "rollOrder", unfollowed := true, recurses := true, named := ["math/bits.deBruijn64tab"], apart := false, laid := [("math/bits.deBruijn64tab", laid_math_bits_deBruijn64tab)], narrowed := true }
def RollOrderUptoSaid : Prop := rollOrderUptoRow.holds Tryd.pinned (OpenSpec.upto rollOrderSpec)

/-- 'conventiclelaw07.RollMerges', WHERE WHAT IT READS IS OF BULK AT MOST 1048576: true; the input reads as it did. -/
def rollMergesUptoRow : OpenClaim := { program := "ytkkcnhfbcophiaadoor", sum := "bd558c9c59e696820c5fab191ef0116fa0a1f40273e8a41871576ef4a6edf31e", func := "conventicle/conventiclelaw07.RollMerges", spec := "rollMerges", unfollowed := true, recurses := true, named := ["math/bits.deBruijn64tab"], apart := false, laid := [("math/bits.deBruijn64tab", laid_math_bits_deBruijn64tab)], narrowed := true }
def RollMergesUptoSaid : Prop := rollMergesUptoRow.holds Tryd.pinned (OpenSpec.upto rollMergesSpec)

/-- 'conventiclelaw07.RollActs', WHERE WHAT IT READS IS OF BULK AT MOST 1048576: true; the input reads as it did. -/
def rollActsUptoRow : OpenClaim := { program := "ytkkcnhfbcophiaadoor", sum := "bd558c9c59e696820c5fab191ef0116fa0a1f40273e8a41871576ef4a6edf31e", func := "conventicle/conventiclelaw07.RollActs", spec := "rollActs", unfollowed := true, recurses := true, named := ["math/bits.deBruijn64tab"], apart := false, laid := [("math/bits.deBruijn64tab", laid_math_bits_deBruijn64tab)], narrowed := true }
def RollActsUptoSaid : Prop := rollActsUptoRow.holds Tryd.pinned (OpenSpec.upto rollActsSpec)

/-- 'conventiclelaw07.RollLive', WHERE WHAT IT READS IS OF BULK AT MOST 1048576: true; the input reads as it did. -/
def rollLiveUptoRow : OpenClaim := { program := "ytkkcnhfbcophiaadoor", sum := "bd558c9c59e696820c5fab191ef0116fa0a1f40273e8a41871576ef4a6edf31e", func := "conventicle/conventiclelaw07.RollLive", spec := "rollLive", unfollowed := true, recurses := true, named := ["math/bits.deBruijn64tab"], apart := false, laid := [("math/bits.deBruijn64tab", laid_math_bits_deBruijn64tab)], narrowed := true }
def RollLiveUptoSaid : Prop := rollLiveUptoRow.holds Tryd.pinned (OpenSpec.upto rollLiveSpec)

end Rows
end Go.Proofs.YtkkcnhfbcophiaaDoor
