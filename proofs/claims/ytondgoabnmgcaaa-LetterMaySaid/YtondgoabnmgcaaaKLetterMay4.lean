/- Texts of this claim, one behind the other (joined by pack.py): WEqStruct. -/
import Derived.Test.YtondgoabnmgcaaaKLetterMay3
import Derived.Laws.StructEq
section
-- cut out of the kit's own print, for this claim
/-! ### 53. '==' of structs as_ one Bool -/
namespace Go.Proofs.YtondgoabnmgcaaaW.PrintWords
open Go.RowKit
section
variable {P : Program} {d : Nat} {xs ys : Array Value} {f : Field} {fs : List Field} {a b : Value} {r s : Bool} {w : World}
end
end Go.Proofs.YtondgoabnmgcaaaW.PrintWords
end
