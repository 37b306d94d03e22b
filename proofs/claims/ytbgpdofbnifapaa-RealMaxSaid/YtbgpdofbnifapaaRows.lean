/-
  No cell of these rows narrows 'for every input' (looked for: loops, veiled, ifaces, maps, wideKeys, modest, calm, conditions, laid).
  DERIVED. THE GIVEN ROWS OF THIS SEAT. 10 by the template 'for every input the law returns true; each argument reads behind the call as it read before'; 0 by the template 'total and deterministic' (their statements: YtbgpdofbnifapaaTotals.lean).
  GIVEN WITH THE SEED: the statements are not yours to turn. If you find one false, say at which input.
  Laid BY PROGRAM, IN A SANDBOX (cutbox-rows.mjs): the forced cells as the released guide's own fill.sh prints them over the translation 2877c3f5c8d8b8d1… (all of the seat's roots in one cut). By AI agents, Wed Nov 11 2026. No macro, syntax, notation, axiom, sorry.
-/
import Derived.Test.YtbgpdofbnifapaaChecked
import GoSem.Claim
import GoSem.ClaimJoined
import GoSem.ClaimMapViews
import Derived.JoinedTies
import Derived.KernelRfl
namespace Go.Proofs.Ytbgpdofbnifapaa
/- THE CELL 'sum', in the pinned program and in every row, IS THE sha256 OF THE DUMP (.gsa) THAT YtbgpdofbnifapaaProg.lean LOADS. Nothing in Lean hashes anything: it is a label: what it is worth is what the hold of that sum in a sandbox is worth. -/
noncomputable def Try.pinned : Pinned := { name := "ytbgpdofbnifapaa", sum := "2877c3f5c8d8b8d1024f5d4c6e8c06a7a1f787595ea808ea79e79991a6c73ece", checked := Try.checked }
namespace Rows
def none {H : Type} : Left H := { results := [], args := [] }

/-- 'conventiclelaw04.RealOrder': WHATEVER THE INPUT: true; the input reads as it did. -/
def realOrderSpec : ChangeSpec := { name := "realOrder", fn := fun _ => fun
  | [d1, d2, d3] => { results := [.lit (.bool true)], args := [d1, d2, d3] }
  | _ => none }
def realOrderRow : OpenClaim := { program := "ytbgpdofbnifapaa", sum := "2877c3f5c8d8b8d1024f5d4c6e8c06a7a1f787595ea808ea79e79991a6c73ece", func := "conventicle/conventiclelaw04.RealOrder", spec := "realOrder", inPlace := ["math.Float64bits", "math.Float64frombits", "math.archCeil", "math.archFloor", "math.archTrunc"], unfollowed := true, recurses := true, apart := false }
def RealOrderSaid : Prop := realOrderRow.holds Try.pinned (OpenSpec.ofChange realOrderSpec)

/-- ITS FALSE NEIGHBOUR: 'it returns false'. Refute it at one input. -/
def realOrderWrong : ChangeSpec := { name := "realOrder", fn := fun _ => fun
  | [d1, d2, d3] => { results := [.lit (.bool false)], args := [d1, d2, d3] }
  | _ => none }
def RealOrderWrongFalsely : Prop := realOrderRow.holds Try.pinned (OpenSpec.ofChange realOrderWrong)

/-- 'conventiclelaw04.RealBits': WHATEVER THE INPUT: true; the input reads as it did. -/
def realBitsSpec : ChangeSpec := { name := "realBits", fn := fun _ => fun
  | [d] => { results := [.lit (.bool true)], args := [d] }
  | _ => none }
def realBitsRow : OpenClaim := { program := "ytbgpdofbnifapaa", sum := "2877c3f5c8d8b8d1024f5d4c6e8c06a7a1f787595ea808ea79e79991a6c73ece", func := "conventicle/conventiclelaw04.RealBits", spec := "realBits", inPlace := ["math.Float64bits", "math.Float64frombits", "math.archCeil", "math.archFloor", "math.archTrunc"], apart := false }
def RealBitsSaid : Prop := realBitsRow.holds Try.pinned (OpenSpec.ofChange realBitsSpec)

/-- ITS FALSE NEIGHBOUR: 'it returns false'. Refute it at one input. -/
def realBitsWrong : ChangeSpec := { name := "realBits", fn := fun _ => fun
  | [d] => { results := [.lit (.bool false)], args := [d] }
  | _ => none }
def RealBitsWrongFalsely : Prop := realBitsRow.holds Try.pinned (OpenSpec.ofChange realBitsWrong)

/-- 'conventiclelaw04.RealTicks': WHATEVER THE INPUT: true; the input reads as it did. -/
def realTicksSpec : ChangeSpec := { name := "realTicks", fn := fun _ => fun
  | [d1, d2] => { results := [.lit (.bool true)], args := [d1, d2] }
  | _ => none }
def realTicksRow : OpenClaim := { program := "ytbgpdofbnifapaa", sum := "2877c3f5c8d8b8d1024f5d4c6e8c06a7a1f787595ea808ea79e79991a6c73ece", func := "conventicle/conventiclelaw04.RealTicks", spec := "realTicks", inPlace := ["math.archCeil", "math.archFloor", "math.Float64bits", "math.Float64frombits", "math.archTrunc"], apart := false }
def RealTicksSaid : Prop := realTicksRow.holds Try.pinned (OpenSpec.ofChange realTicksSpec)

/-- ITS FALSE NEIGHBOUR: 'it returns false'. Refute it at one input. -/
def realTicksWrong : ChangeSpec := { name := "realTicks", fn := fun _ => fun
  | [d1, d2] => { results := [.lit (.bool false)], args := [d1, d2] }
  | _ => none }
def RealTicksWrongFalsely : Prop := realTicksRow.holds Try.pinned (OpenSpec.ofChange realTicksWrong)

/-- 'conventiclelaw04.RealClean': WHATEVER THE INPUT: true; the input reads as it did. -/
def realCleanSpec : ChangeSpec := { name := "realClean", fn := fun _ => fun
  | [d1, d2, d3] => { results := [.lit (.bool true)], args := [d1, d2, d3] }
  | _ => none }
def realCleanRow : OpenClaim := { program := "ytbgpdofbnifapaa", sum := "2877c3f5c8d8b8d1024f5d4c6e8c06a7a1f787595ea808ea79e79991a6c73ece", func := "conventicle/conventiclelaw04.RealClean", spec := "realClean", inPlace := ["math.Float64bits", "math.Float64frombits", "math.archCeil", "math.archFloor", "math.archTrunc"], apart := false }
def RealCleanSaid : Prop := realCleanRow.holds Try.pinned (OpenSpec.ofChange realCleanSpec)

/-- ITS FALSE NEIGHBOUR: 'it returns false'. Refute it at one input. -/
def realCleanWrong : ChangeSpec := { name := "realClean", fn := fun _ => fun
  | [d1, d2, d3] => { results := [.lit (.bool false)], args := [d1, d2, d3] }
  | _ => none }
def RealCleanWrongFalsely : Prop := realCleanRow.holds Try.pinned (OpenSpec.ofChange realCleanWrong)

/-- 'conventiclelaw04.RealWaits': WHATEVER THE INPUT: true; the input reads as it did. -/
def realWaitsSpec : ChangeSpec := { name := "realWaits", fn := fun _ => fun
  | [d1, d2, d3, d4] => { results := [.lit (.bool true)], args := [d1, d2, d3, d4] }
  | _ => none }
def realWaitsRow : OpenClaim := { program := "ytbgpdofbnifapaa", sum := "2877c3f5c8d8b8d1024f5d4c6e8c06a7a1f787595ea808ea79e79991a6c73ece", func := "conventicle/conventiclelaw04.RealWaits", spec := "realWaits", inPlace := ["math.Float64bits", "math.Float64frombits", "math.archCeil", "math.archFloor", "math.archTrunc"], unfollowed := true, recurses := true, apart := false }
def RealWaitsSaid : Prop := realWaitsRow.holds Try.pinned (OpenSpec.ofChange realWaitsSpec)

/-- ITS FALSE NEIGHBOUR: 'it returns false'. Refute it at one input. -/
def realWaitsWrong : ChangeSpec := { name := "realWaits", fn := fun _ => fun
  | [d1, d2, d3, d4] => { results := [.lit (.bool false)], args := [d1, d2, d3, d4] }
  | _ => none }
def RealWaitsWrongFalsely : Prop := realWaitsRow.holds Try.pinned (OpenSpec.ofChange realWaitsWrong)

/-- 'conventiclelaw04.RealHeld': WHATEVER THE INPUT: true; the input reads as it did. -/
def realHeldSpec : ChangeSpec := { name := "realHeld", fn := fun _ => fun
  | [d1, d2, d3, d4, d5] => { results := [.lit (.bool true)], args := [d1, d2, d3, d4, d5] }
  | _ => none }
def realHeldRow : OpenClaim := { program := "ytbgpdofbnifapaa", sum := "2877c3f5c8d8b8d1024f5d4c6e8c06a7a1f787595ea808ea79e79991a6c73ece", func := "conventicle/conventiclelaw04.RealHeld", spec := "realHeld", inPlace := ["math.Float64bits", "math.Float64frombits", "math.archCeil", "math.archFloor", "math.archTrunc"], unfollowed := true, recurses := true, apart := false }
def RealHeldSaid : Prop := realHeldRow.holds Try.pinned (OpenSpec.ofChange realHeldSpec)

/-- ITS FALSE NEIGHBOUR: 'it returns false'. Refute it at one input. -/
def realHeldWrong : ChangeSpec := { name := "realHeld", fn := fun _ => fun
  | [d1, d2, d3, d4, d5] => { results := [.lit (.bool false)], args := [d1, d2, d3, d4, d5] }
  | _ => none }
def RealHeldWrongFalsely : Prop := realHeldRow.holds Try.pinned (OpenSpec.ofChange realHeldWrong)

/-- 'conventiclelaw04.RealTold': WHATEVER THE INPUT: true; the input reads as it did. -/
def realToldSpec : ChangeSpec := { name := "realTold", fn := fun _ => fun
  | [d1, d2, d3] => { results := [.lit (.bool true)], args := [d1, d2, d3] }
  | _ => none }
def realToldRow : OpenClaim := { program := "ytbgpdofbnifapaa", sum := "2877c3f5c8d8b8d1024f5d4c6e8c06a7a1f787595ea808ea79e79991a6c73ece", func := "conventicle/conventiclelaw04.RealTold", spec := "realTold", inPlace := ["math.Float64bits", "math.Float64frombits", "math.archCeil", "math.archFloor", "math.archTrunc"], unfollowed := true, recurses := true, apart := false }
def RealToldSaid : Prop := realToldRow.holds Try.pinned (OpenSpec.ofChange realToldSpec)

/-- ITS FALSE NEIGHBOUR: 'it returns false'. Refute it at one input. -/
def realToldWrong : ChangeSpec := { name := "realTold", fn := fun _ => fun
  | [d1, d2, d3] => { results := [.lit (.bool false)], args := [d1, d2, d3] }
  | _ => none }
def RealToldWrongFalsely : Prop := realToldRow.holds Try.pinned (OpenSpec.ofChange realToldWrong)

/-- 'conventiclelaw04.RealBlends': WHATEVER THE INPUT: true; the input reads as it did. -/
def realBlendsSpec : ChangeSpec := { name := "realBlends", fn := fun _ => fun
  | [d1, d2, d3] => { results := [.lit (.bool true)], args := [d1, d2, d3] }
  | _ => none }
def realBlendsRow : OpenClaim := { program := "ytbgpdofbnifapaa", sum := "2877c3f5c8d8b8d1024f5d4c6e8c06a7a1f787595ea808ea79e79991a6c73ece", func := "conventicle/conventiclelaw04.RealBlends", spec := "realBlends", inPlace := ["math.Float64bits", "math.Float64frombits", "math.archCeil", "math.archFloor", "math.archTrunc"], unfollowed := true, recurses := true, apart := false }
def RealBlendsSaid : Prop := realBlendsRow.holds Try.pinned (OpenSpec.ofChange realBlendsSpec)

/-- ITS FALSE NEIGHBOUR: 'it returns false'. Refute it at one input. -/
def realBlendsWrong : ChangeSpec := { name := "realBlends", fn := fun _ => fun
  | [d1, d2, d3] => { results := [.lit (.bool false)], args := [d1, d2, d3] }
  | _ => none }
def RealBlendsWrongFalsely : Prop := realBlendsRow.holds Try.pinned (OpenSpec.ofChange realBlendsWrong)

/-- 'conventiclelaw04.RealTells': WHATEVER THE INPUT: true; the input reads as it did. -/
def realTellsSpec : ChangeSpec := { name := "realTells", fn := fun _ => fun
  | [d1, d2, d3] => { results := [.lit (.bool true)], args := [d1, d2, d3] }
  | _ => none }
def realTellsRow : OpenClaim := { program := "ytbgpdofbnifapaa", sum := "2877c3f5c8d8b8d1024f5d4c6e8c06a7a1f787595ea808ea79e79991a6c73ece", func := "conventicle/conventiclelaw04.RealTells", spec := "realTells", inPlace := ["math.Float64bits", "math.archCeil", "math.archFloor", "math.Float64frombits", "math.archTrunc"], unfollowed := true, recurses := true, apart := false }
def RealTellsSaid : Prop := realTellsRow.holds Try.pinned (OpenSpec.ofChange realTellsSpec)

/-- ITS FALSE NEIGHBOUR: 'it returns false'. Refute it at one input. -/
def realTellsWrong : ChangeSpec := { name := "realTells", fn := fun _ => fun
  | [d1, d2, d3] => { results := [.lit (.bool false)], args := [d1, d2, d3] }
  | _ => none }
def RealTellsWrongFalsely : Prop := realTellsRow.holds Try.pinned (OpenSpec.ofChange realTellsWrong)

/-- 'conventiclelaw04.RealMax': WHATEVER THE INPUT: true; the input reads as it did. -/
def realMaxSpec : ChangeSpec := { name := "realMax", fn := fun _ => fun
  | [d] => { results := [.lit (.bool true)], args := [d] }
  | _ => none }
def realMaxRow : OpenClaim := { program := "ytbgpdofbnifapaa", sum := "2877c3f5c8d8b8d1024f5d4c6e8c06a7a1f787595ea808ea79e79991a6c73ece", func := "conventicle/conventiclelaw04.RealMax", spec := "realMax", inPlace := ["math.Float64bits", "math.Float64frombits", "math.archCeil", "math.archFloor", "math.archTrunc"], unfollowed := true, recurses := true, apart := false }
def RealMaxSaid : Prop := realMaxRow.holds Try.pinned (OpenSpec.ofChange realMaxSpec)

/-- ITS FALSE NEIGHBOUR: 'it returns false'. Refute it at one input. -/
def realMaxWrong : ChangeSpec := { name := "realMax", fn := fun _ => fun
  | [d] => { results := [.lit (.bool false)], args := [d] }
  | _ => none }
def RealMaxWrongFalsely : Prop := realMaxRow.holds Try.pinned (OpenSpec.ofChange realMaxWrong)

/- THE SECOND FORM. 'bulk': how many values and letters a reading holds, each counted each time it is reached (what is shared counts as often as it is met; a slice's spare places count too). A statement '..UptoSaid' is the law's where the arguments, and the package variables that the reading takes, are together of bulk at most 1048576: NARROWER than '..Said'. Prove '..Said' where nothing that the law and all that it calls make is longer than what came in: it says more and counts as full. Else prove '..UptoSaid'. A law counts once. -/
mutual
def uptoBulk {H : Type} : DataW H → Nat
  | .lit (.string bytes) => bytes.length + 1
  | .lit _ => 1
  | .nil => 1
  | .ptr d => uptoBulk d + 1
  | .slice elems spare => uptoBulkAll elems + uptoBulkAll spare + 1
  | .agg parts => uptoBulkAll parts + 1
  | .iface _ d => uptoBulk d + 1
  | .map entries => uptoBulkEntries entries + 1
  | .held _ => 1
def uptoBulkAll {H : Type} : List (DataW H) → Nat
  | [] => 0
  | d :: r => uptoBulk d + uptoBulkAll r
def uptoBulkEntries {H : Type} : List (Lit × DataW H) → Nat
  | [] => 0
  | x :: r => uptoBulkEntry x + uptoBulkEntries r
def uptoBulkEntry {H : Type} : Lit × DataW H → Nat
  | (.string bytes, d) => bytes.length + uptoBulk d + 1
  | (_, d) => uptoBulk d + 1
 end
def uptoSmall : (H : Type) → List (DataW H) → Bool := fun _ ds => decide (uptoBulkAll ds ≤ 1048576)
def OpenSpec.upto (s : _root_.Go.ChangeSpec) : _root_.Go.OpenSpec := { _root_.Go.OpenSpec.ofChange s with cond := some uptoSmall }

/-- 'conventiclelaw04.RealOrder', WHERE WHAT IT READS IS OF BULK AT MOST 1048576: true; the input reads as it did. -/
def realOrderUptoRow : OpenClaim := { program := "ytbgpdofbnifapaa", sum := "2877c3f5c8d8b8d1024f5d4c6e8c06a7a1f787595ea808ea79e79991a6c73ece", func := "conventicle/conventiclelaw04.RealOrder", spec := "realOrder", inPlace := ["math.Float64bits", "math.Float64frombits", "math.archCeil", "math.archFloor", "math.archTrunc"], unfollowed := true, recurses := true, apart := false, narrowed := true }
def RealOrderUptoSaid : Prop := realOrderUptoRow.holds Try.pinned (OpenSpec.upto realOrderSpec)

/-- 'conventiclelaw04.RealBits', WHERE WHAT IT READS IS OF BULK AT MOST 1048576: true; the input reads as it did. -/
def realBitsUptoRow : OpenClaim := { program := "ytbgpdofbnifapaa", sum := "2877c3f5c8d8b8d1024f5d4c6e8c06a7a1f787595ea808ea79e79991a6c73ece", func := "conventicle/conventiclelaw04.RealBits", spec := "realBits", inPlace := ["math.Float64bits", "math.Float64frombits", "math.archCeil", "math.archFloor", "math.archTrunc"], apart := false, narrowed := true }
def RealBitsUptoSaid : Prop := realBitsUptoRow.holds Try.pinned (OpenSpec.upto realBitsSpec)

/-- 'conventiclelaw04.RealTicks', WHERE WHAT IT READS IS OF BULK AT MOST 1048576: true; the input reads as it did. -/
def realTicksUptoRow : OpenClaim := { program := "ytbgpdofbnifapaa", sum := "2877c3f5c8d8b8d1024f5d4c6e8c06a7a1f787595ea808ea79e79991a6c73ece", func := "conventicle/conventiclelaw04.RealTicks", spec := "realTicks", inPlace := ["math.archCeil", "math.archFloor", "math.Float64bits", "math.Float64frombits", "math.archTrunc"], apart := false, narrowed := true }
def RealTicksUptoSaid : Prop := realTicksUptoRow.holds Try.pinned (OpenSpec.upto realTicksSpec)

/-- 'conventiclelaw04.RealClean', WHERE WHAT IT READS IS OF BULK AT MOST 1048576: true; the input reads as it did. -/
def realCleanUptoRow : OpenClaim := { program := "ytbgpdofbnifapaa", sum := "2877c3f5c8d8b8d1024f5d4c6e8c06a7a1f787595ea808ea79e79991a6c73ece", func := "conventicle/conventiclelaw04.RealClean", spec := "realClean", inPlace := ["math.Float64bits", "math.Float64frombits", "math.archCeil", "math.archFloor", "math.archTrunc"], apart := false, narrowed := true }
def RealCleanUptoSaid : Prop := realCleanUptoRow.holds Try.pinned (OpenSpec.upto realCleanSpec)

/-- 'conventiclelaw04.RealWaits', WHERE WHAT IT READS IS OF BULK AT MOST 1048576: true; the input reads as it did. -/
def realWaitsUptoRow : OpenClaim := { program := "ytbgpdofbnifapaa", sum := "2877c3f5c8d8b8d1024f5d4c6e8c06a7a1f787595ea808ea79e79991a6c73ece", func := "conventicle/conventiclelaw04.RealWaits", spec := "realWaits", inPlace := ["math.Float64bits", "math.Float64frombits", "math.archCeil", "math.archFloor", "math.archTrunc"], unfollowed := true, recurses := true, apart := false, narrowed := true }
def RealWaitsUptoSaid : Prop := realWaitsUptoRow.holds Try.pinned (OpenSpec.upto realWaitsSpec)

/-- 'conventiclelaw04.RealHeld', WHERE WHAT IT READS IS OF BULK AT MOST 1048576: true; the input reads as it did. -/
def realHeldUptoRow : OpenClaim := { program := "ytbgpdofbnifapaa", sum := "2877c3f5c8d8b8d1024f5d4c6e8c06a7a1f787595ea808ea79e79991a6c73ece", func := "conventicle/conventiclelaw04.RealHeld", spec := "realHeld", inPlace := ["math.Float64bits", "math.Float64frombits", "math.archCeil", "math.archFloor", "math.archTrunc"], unfollowed := true, recurses := true, apart := false, narrowed := true }
def RealHeldUptoSaid : Prop := realHeldUptoRow.holds Try.pinned (OpenSpec.upto realHeldSpec)

/-- 'conventiclelaw04.RealTold', WHERE WHAT IT READS IS OF BULK AT MOST 1048576: true; the input reads as it did. -/
def realToldUptoRow : OpenClaim := { program := "ytbgpdofbnifapaa", sum := "2877c3f5c8d8b8d1024f5d4c6e8c06a7a1f787595ea808ea79e79991a6c73ece", func := "conventicle/conventiclelaw04.RealTold", spec := "realTold", inPlace := ["math.Float64bits", "math.Float64frombits", "math.archCeil", "math.archFloor", "math.archTrunc"], unfollowed := true, recurses := true, apart := false, narrowed := true }
def RealToldUptoSaid : Prop := realToldUptoRow.holds Try.pinned (OpenSpec.upto realToldSpec)

/-- 'conventiclelaw04.RealBlends', WHERE WHAT IT READS IS OF BULK AT MOST 1048576: true; the input reads as it did. -/
def realBlendsUptoRow : OpenClaim := { program := "ytbgpdofbnifapaa", sum := "2877c3f5c8d8b8d1024f5d4c6e8c06a7a1f787595ea808ea79e79991a6c73ece", func := "conventicle/conventiclelaw04.RealBlends", spec := "realBlends", inPlace := ["math.Float64bits", "math.Float64frombits", "math.archCeil", "math.archFloor", "math.archTrunc"], unfollowed := true, recurses := true, apart := false, narrowed := true }
def RealBlendsUptoSaid : Prop := realBlendsUptoRow.holds Try.pinned (OpenSpec.upto realBlendsSpec)

/-- 'conventiclelaw04.RealTells', WHERE WHAT IT READS IS OF BULK AT MOST 1048576: true; the input reads as it did. -/
def realTellsUptoRow : OpenClaim := { program := "ytbgpdofbnifapaa", sum := "2877c3f5c8d8b8d1024f5d4c6e8c06a7a1f787595ea808ea79e79991a6c73ece", func := "conventicle/conventiclelaw04.RealTells", spec := "realTells", inPlace := ["math.Float64bits", "math.archCeil", "math.archFloor", "math.Float64frombits", "math.archTrunc"], unfollowed := true, recurses := true, apart := false, narrowed := true }
def RealTellsUptoSaid : Prop := realTellsUptoRow.holds Try.pinned (OpenSpec.upto realTellsSpec)

/-- 'conventiclelaw04.RealMax', WHERE WHAT IT READS IS OF BULK AT MOST 1048576: true; the input reads as it did. -/
def realMaxUptoRow : OpenClaim := { program := "ytbgpdofbnifapaa", sum := "2877c3f5c8d8b8d1024f5d4c6e8c06a7a1f787595ea808ea79e79991a6c73ece", func := "conventicle/conventiclelaw04.RealMax", spec := "realMax", inPlace := ["math.Float64bits", "math.Float64frombits", "math.archCeil", "math.archFloor", "math.archTrunc"], unfollowed := true, recurses := true, apart := false, narrowed := true }
def RealMaxUptoSaid : Prop := realMaxUptoRow.holds Try.pinned (OpenSpec.upto realMaxSpec)

end Rows
end Go.Proofs.Ytbgpdofbnifapaa
