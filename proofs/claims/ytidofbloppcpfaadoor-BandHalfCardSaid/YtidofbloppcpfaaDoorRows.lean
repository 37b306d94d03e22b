/-
  NARROWER THAN 'FOR EVERY INPUT', by the rows' own cells (each row's printed sentence says how): BandRounds: laid · BandNext: laid · BandMeets: laid · BandHalf: laid · BandBack: laid · BandPlaces: laid.
  DERIVED. THE GIVEN ROWS OF THIS SEAT. 6 by the template 'for every input the law returns true; each argument reads behind the call as it read before'; 0 by the template 'total and deterministic' (their statements: YtidofbloppcpfaaDoorTotals.lean).
  GIVEN WITH THE SEED: the statements are not yours to turn. If you find one false, say at which input.
  Laid BY PROGRAM, IN A SANDBOX (cutbox-rows.mjs): the forced cells as the released guide's own fill.sh prints them over the translation 9f4a23f65cb93d6c… (all of the seat's roots in one cut). By AI agents, Wed Nov 11 2026. No macro, syntax, notation, axiom, sorry.
-/
import Derived.Test.YtidofbloppcpfaaDoorChecked
import GoSem.Claim
import GoSem.ClaimJoined
import GoSem.ClaimMapViews
import Derived.JoinedTies
import Derived.KernelRfl
namespace Go.Proofs.YtidofbloppcpfaaDoor
/- THE CELL 'sum', in the pinned program and in every row, IS THE sha256 OF THE DUMP (.gsa) THAT YtidofbloppcpfaaDoorProg.lean LOADS. Nothing in Lean hashes anything: it is a label: what it is worth is what the hold of that sum in a sandbox is worth. -/
noncomputable def Tryd.pinned : Pinned := { name := "ytidofbloppcpfaadoor", sum := "9f4a23f65cb93d6c8e0276675fa7f0a8df69610cb56e6a6ffb9548e5af516e95", checked := Tryd.checked }
namespace Rows
def none {H : Type} : Left H := { results := [], args := [] }

/- WHAT THE LISTED PACKAGE-LEVEL VARIABLES READ AS WHEN THE CALL BEGINS. Each datum BY PROGRAM (the guide's laid-datum.mjs) off the statement by which the dump's own 'gosem.cut.vars' lays the variable. In a bare row this is a premise. The card (YtidofbloppcpfaaDoorCards.lean) ties it to the program's text. -/
def laid_math_bits_deBruijn64tab {H : Type} : DataW H := .agg [.lit (.int .u8 0), .lit (.int .u8 1), .lit (.int .u8 56), .lit (.int .u8 2), .lit (.int .u8 57), .lit (.int .u8 49), .lit (.int .u8 28), .lit (.int .u8 3), .lit (.int .u8 61), .lit (.int .u8 58), .lit (.int .u8 42), .lit (.int .u8 50), .lit (.int .u8 38), .lit (.int .u8 29), .lit (.int .u8 17), .lit (.int .u8 4), .lit (.int .u8 62), .lit (.int .u8 47), .lit (.int .u8 59), .lit (.int .u8 36), .lit (.int .u8 45), .lit (.int .u8 43), .lit (.int .u8 51), .lit (.int .u8 22), .lit (.int .u8 53), .lit (.int .u8 39), .lit (.int .u8 33), .lit (.int .u8 30), .lit (.int .u8 24), .lit (.int .u8 18), .lit (.int .u8 12), .lit (.int .u8 5), .lit (.int .u8 63), .lit (.int .u8 55), .lit (.int .u8 48), .lit (.int .u8 27), .lit (.int .u8 60), .lit (.int .u8 41), .lit (.int .u8 37), .lit (.int .u8 16), .lit (.int .u8 46), .lit (.int .u8 35), .lit (.int .u8 44), .lit (.int .u8 21), .lit (.int .u8 52), .lit (.int .u8 32), .lit (.int .u8 23), .lit (.int .u8 11), .lit (.int .u8 54), .lit (.int .u8 26), .lit (.int .u8 40), .lit (.int .u8 15), .lit (.int .u8 34), .lit (.int .u8 20), .lit (.int .u8 31), .lit (.int .u8 10), .lit (.int .u8 25), .lit (.int .u8 14), .lit (.int .u8 19), .lit (.int .u8 9), .lit (.int .u8 13), .lit (.int .u8 8), .lit (.int .u8 7), .lit (.int .u8 6)]

/-- 'conventiclelaw05.BandRounds': WHATEVER THE INPUT: true; the input reads as it did. -/
def bandRoundsSpec : ChangeSpec := { name := "bandRounds", fn := fun _ => fun
  | [d1, d2] => { results := [.lit (.bool true)], args := [d1, d2] }
  | _ => none }
def bandRoundsRow : OpenClaim := { program := "ytidofbloppcpfaadoor", sum := "9f4a23f65cb93d6c8e0276675fa7f0a8df69610cb56e6a6ffb9548e5af516e95", func := "conventicle/conventiclelaw05.BandRounds", spec := "bandRounds", unfollowed := true, recurses := true, named := ["math/bits.deBruijn64tab"], apart := false, laid := [("math/bits.deBruijn64tab", laid_math_bits_deBruijn64tab)] }
def BandRoundsSaid : Prop := bandRoundsRow.holds Tryd.pinned (OpenSpec.ofChange bandRoundsSpec)

/-- ITS FALSE NEIGHBOUR: 'it returns false'. Refute it at one input. -/
def bandRoundsWrong : ChangeSpec := { name := "bandRounds", fn := fun _ => fun
  | [d1, d2] => { results := [.lit (.bool false)], args := [d1, d2] }
  | _ => none }
def BandRoundsWrongFalsely : Prop := bandRoundsRow.holds Tryd.pinned (OpenSpec.ofChange bandRoundsWrong)

/-- 'conventiclelaw05.BandNext': WHATEVER THE INPUT: true; the input reads as it did. -/
def bandNextSpec : ChangeSpec := { name := "bandNext", fn := fun _ => fun
  | [d1, d2] => { results := [.lit (.bool true)], args := [d1, d2] }
  | _ => none }
def bandNextRow : OpenClaim := { program := "ytidofbloppcpfaadoor", sum := "9f4a23f65cb93d6c8e0276675fa7f0a8df69610cb56e6a6ffb9548e5af516e95", func := "conventicle/conventiclelaw05.BandNext", spec := "bandNext", unfollowed := true, recurses := true, named := ["math/bits.deBruijn64tab"], apart := false, laid := [("math/bits.deBruijn64tab", laid_math_bits_deBruijn64tab)] }
def BandNextSaid : Prop := bandNextRow.holds Tryd.pinned (OpenSpec.ofChange bandNextSpec)

/-- ITS FALSE NEIGHBOUR: 'it returns false'. Refute it at one input. -/
def bandNextWrong : ChangeSpec := { name := "bandNext", fn := fun _ => fun
  | [d1, d2] => { results := [.lit (.bool false)], args := [d1, d2] }
  | _ => none }
def BandNextWrongFalsely : Prop := bandNextRow.holds Tryd.pinned (OpenSpec.ofChange bandNextWrong)

/-- 'conventiclelaw05.BandMeets': WHATEVER THE INPUT: true; the input reads as it did. -/
def bandMeetsSpec : ChangeSpec := { name := "bandMeets", fn := fun _ => fun
  | [d1, d2, d3] => { results := [.lit (.bool true)], args := [d1, d2, d3] }
  | _ => none }
def bandMeetsRow : OpenClaim := { program := "ytidofbloppcpfaadoor", sum := "9f4a23f65cb93d6c8e0276675fa7f0a8df69610cb56e6a6ffb9548e5af516e95", func := "conventicle/conventiclelaw05.BandMeets", spec := "bandMeets", unfollowed := true, recurses := true, named := ["math/bits.deBruijn64tab"], apart := false, laid := [("math/bits.deBruijn64tab", laid_math_bits_deBruijn64tab)] }
def BandMeetsSaid : Prop := bandMeetsRow.holds Tryd.pinned (OpenSpec.ofChange bandMeetsSpec)

/-- ITS FALSE NEIGHBOUR: 'it returns false'. Refute it at one input. -/
def bandMeetsWrong : ChangeSpec := { name := "bandMeets", fn := fun _ => fun
  | [d1, d2, d3] => { results := [.lit (.bool false)], args := [d1, d2, d3] }
  | _ => none }
def BandMeetsWrongFalsely : Prop := bandMeetsRow.holds Tryd.pinned (OpenSpec.ofChange bandMeetsWrong)

/-- 'conventiclelaw05.BandHalf': WHATEVER THE INPUT: true; the input reads as it did. -/
def bandHalfSpec : ChangeSpec := { name := "bandHalf", fn := fun _ => fun
  | [d] => { results := [.lit (.bool true)], args := [d] }
  | _ => none }
def bandHalfRow : OpenClaim := { program := "ytidofbloppcpfaadoor", sum := "9f4a23f65cb93d6c8e0276675fa7f0a8df69610cb56e6a6ffb9548e5af516e95", func := "conventicle/conventiclelaw05.BandHalf", spec := "bandHalf", unfollowed := true, recurses := true, named := ["math/bits.deBruijn64tab"], apart := false, laid := [("math/bits.deBruijn64tab", laid_math_bits_deBruijn64tab)] }
def BandHalfSaid : Prop := bandHalfRow.holds Tryd.pinned (OpenSpec.ofChange bandHalfSpec)

/-- ITS FALSE NEIGHBOUR: 'it returns false'. Refute it at one input. -/
def bandHalfWrong : ChangeSpec := { name := "bandHalf", fn := fun _ => fun
  | [d] => { results := [.lit (.bool false)], args := [d] }
  | _ => none }
def BandHalfWrongFalsely : Prop := bandHalfRow.holds Tryd.pinned (OpenSpec.ofChange bandHalfWrong)

/-- 'conventiclelaw05.BandBack': WHATEVER THE INPUT: true; the input reads as it did. -/
def bandBackSpec : ChangeSpec := { name := "bandBack", fn := fun _ => fun
  | [d1, d2] => { results := [.lit (.bool true)], args := [d1, d2] }
  | _ => none }
def bandBackRow : OpenClaim := { program := "ytidofbloppcpfaadoor", sum := "9f4a23f65cb93d6c8e0276675fa7f0a8df69610cb56e6a6ffb9548e5af516e95", func := "conventicle/conventiclelaw05.BandBack", spec := "bandBack", unfollowed := true, recurses := true, named := ["math/bits.deBruijn64tab"], apart := false, laid := [("math/bits.deBruijn64tab", laid_math_bits_deBruijn64tab)] }
def BandBackSaid : Prop := bandBackRow.holds Tryd.pinned (OpenSpec.ofChange bandBackSpec)

/-- ITS FALSE NEIGHBOUR: 'it returns false'. Refute it at one input. -/
def bandBackWrong : ChangeSpec := { name := "bandBack", fn := fun _ => fun
  | [d1, d2] => { results := [.lit (.bool false)], args := [d1, d2] }
  | _ => none }
def BandBackWrongFalsely : Prop := bandBackRow.holds Tryd.pinned (OpenSpec.ofChange bandBackWrong)

/-- 'conventiclelaw05.BandPlaces': WHATEVER THE INPUT: true; the input reads as it did. -/
def bandPlacesSpec : ChangeSpec := { name := "bandPlaces", fn := fun _ => fun
  | [d1, d2, d3] => { results := [.lit (.bool true)], args := [d1, d2, d3] }
  | _ => none }
def bandPlacesRow : OpenClaim := { program := "ytidofbloppcpfaadoor", sum := "9f4a23f65cb93d6c8e0276675fa7f0a8df69610cb56e6a6ffb9548e5af516e95", func := "conventicle/conventiclelaw05.BandPlaces", spec := "bandPlaces", unfollowed := true, recurses := true, named := ["math/bits.deBruijn64tab"], apart := false, laid := [("math/bits.deBruijn64tab", laid_math_bits_deBruijn64tab)] }
def BandPlacesSaid : Prop := bandPlacesRow.holds Tryd.pinned (OpenSpec.ofChange bandPlacesSpec)

/-- ITS FALSE NEIGHBOUR: 'it returns false'. Refute it at one input. -/
def bandPlacesWrong : ChangeSpec := { name := "bandPlaces", fn := fun _ => fun
  | [d1, d2, d3] => { results := [.lit (.bool false)], args := [d1, d2, d3] }
  | _ => none }
def BandPlacesWrongFalsely : Prop := bandPlacesRow.holds Tryd.pinned (OpenSpec.ofChange bandPlacesWrong)

/- THE SECOND FORM. 'bulk': how many values and letters a reading holds, each counted each time it is reached (what is shared counts as often as it is met; a slice's spare places count too). A statement '..UptoSaid' is the law's where the arguments, and the package variables that the reading takes, are together of bulk at most 1048576: NARROWER than '..Said'. Prove '..Said' where nothing that the law and all that it calls make is longer than what came in: it says more and counts as full. Else prove '..UptoSaid'. A law counts once. -/
mutual
def uptoBulk {H : Type} : DataW H → Nat
  | .lit (.string bytes) => bytes.length + 1
  | .lit _ => 1
  | .nil => 1
  | .ptr d => uptoBulk d + 1
  | .slice elems spare => uptoBulkAll elems + uptoBulkAll spare + 1
  | .agg parts => uptoBulkAll parts + 1
  | .iface _ d => uptoBulk d + 1
  | .map entries => uptoBulkEntries entries + 1
  | .held _ => 1
def uptoBulkAll {H : Type} : List (DataW H) → Nat
  | [] => 0
  | d :: r => uptoBulk d + uptoBulkAll r
def uptoBulkEntries {H : Type} : List (Lit × DataW H) → Nat
  | [] => 0
  | x :: r => uptoBulkEntry x + uptoBulkEntries r
def uptoBulkEntry {H : Type} : Lit × DataW H → Nat
  | (.string bytes, d) => bytes.length + uptoBulk d + 1
  | (_, d) => uptoBulk d + 1
 end
def uptoSmall : (H : Type) → List (DataW H) → Bool := fun _ ds => decide (uptoBulkAll ds ≤ 1048576)
def OpenSpec.upto (s : _root_.Go.ChangeSpec) : _root_.Go.OpenSpec := { _root_.Go.OpenSpec.ofChange s with cond := some uptoSmall }

/-- 'conventiclelaw05.BandRounds', WHERE WHAT IT READS IS OF BULK AT MOST 1048576: true; the input reads as it did. -/
def bandRoundsUptoRow : OpenClaim := { program := "ytidofbloppcpfaadoor", sum := "9f4a23f65cb93d6c8e0276675fa7f0a8df69610cb56e6a6ffb9548e5af516e95", func := "conventicle/conventiclelaw05.BandRounds", spec := "bandRounds", unfollowed := true, recurses := true, named := ["math/bits.deBruijn64tab"], apart := false, laid := [("math/bits.deBruijn64tab", laid_math_bits_deBruijn64tab)], narrowed := true }
def BandRoundsUptoSaid : Prop := bandRoundsUptoRow.holds Tryd.pinned (OpenSpec.upto bandRoundsSpec)

/-- 'conventiclelaw05.BandNext', WHERE WHAT IT READS IS OF BULK AT MOST 1048576: true; the input reads as it did. -/
def bandNextUptoRow : OpenClaim := { program := "ytidofbloppcpfaadoor", sum := "9f4a23f65cb93d6c8e0276675fa7f0a8df69610cb56e6a6ffb9548e5af516e95", func := "conventicle/conventiclelaw05.BandNext", spec := "bandNext", unfollowed := true, recurses := true, named := ["math/bits.deBruijn64tab"], apart := false, laid := [("math/bits.deBruijn64tab", laid_math_bits_deBruijn64tab)], narrowed := true }
def BandNextUptoSaid : Prop := bandNextUptoRow.holds Tryd.pinned (OpenSpec.upto bandNextSpec)

/-- 'conventiclelaw05.BandMeets', WHERE WHAT IT READS IS OF BULK AT MOST 1048576: true; the input reads as it did. -/
def bandMeetsUptoRow : OpenClaim := { program := "ytidofbloppcpfaadoor", sum := "9f4a23f65cb93d6c8e0276675fa7f0a8df69610cb56e6a6ffb9548e5af516e95", func := "conventicle/conventiclelaw05.BandMeets", spec := "bandMeets", unfollowed := true, recurses := true, named := ["math/bits.deBruijn64tab"], apart := false, laid := [("math/bits.deBruijn64tab", laid_math_bits_deBruijn64tab)], narrowed := true }
def BandMeetsUptoSaid : Prop := bandMeetsUptoRow.holds Tryd.pinned (OpenSpec.upto bandMeetsSpec)

/-- 'conventiclelaw05.BandHalf', WHERE WHAT IT READS IS OF BULK AT MOST 1048576: true; the input reads as it did. -/
def bandHalfUptoRow : OpenClaim := { program := "ytidofbloppcpfaadoor", sum := "9f4a23f65cb93d6c8e0276675fa7f0a8df69610cb56e6a6ffb9548e5af516e95", func := "conventicle/conventiclelaw05.BandHalf", spec := "bandHalf", unfollowed := true, recurses := true, named := ["math/bits.deBruijn64tab"], apart := false, laid := [("math/bits.deBruijn64tab", laid_math_bits_deBruijn64tab)], narrowed := true }
def BandHalfUptoSaid : Prop := bandHalfUptoRow.holds Tryd.pinned (OpenSpec.upto bandHalfSpec)

/-- 'conventiclelaw05.BandBack', WHERE WHAT IT READS IS OF BULK AT MOST 1048576: true; the input reads as it did. -/
def bandBackUptoRow : OpenClaim := { program := "ytidofbloppcpfaadoor", sum := "9f4a23f65cb93d6c8e0276675fa7f0a8df69610cb56e6a6ffb9548e5af516e95", func := "conventicle/conventiclelaw05.BandBack", spec := "bandBack", unfollowed := true, recurses := true, named := ["math/bits.deBruijn64tab"], apart := false, laid := [("math/bits.deBruijn64tab", laid_math_bits_deBruijn64tab)], narrowed := true }
def BandBackUptoSaid : Prop := bandBackUptoRow.holds Tryd.pinned (OpenSpec.upto bandBackSpec)

/-- 'conventiclelaw05.BandPlaces', WHERE WHAT IT READS IS OF BULK AT MOST 1048576: true; the input reads as it did. -/
def bandPlacesUptoRow : OpenClaim := { program := "ytidofbloppcpfaadoor", sum := "9f4a23f65cb93d6c8e0276675fa7f0a8df69610cb56e6a6ffb9548e5af516e95", func := "conventicle/conventiclelaw05.BandPlaces", spec := "bandPlaces", unfollowed := true, recurses := true, named := ["math/bits.deBruijn64tab"], apart := false, laid := [("math/bits.deBruijn64tab", laid_math_bits_deBruijn64tab)], narrowed := true }
def BandPlacesUptoSaid : Prop := bandPlacesUptoRow.holds Tryd.pinned (OpenSpec.upto bandPlacesSpec)

end Rows
end Go.Proofs.YtidofbloppcpfaaDoor
