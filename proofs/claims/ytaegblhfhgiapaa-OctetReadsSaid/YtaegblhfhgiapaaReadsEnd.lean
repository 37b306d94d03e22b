/- OctetReads, by hand: for whatever bytes and items. -/
import Derived.Test.YtaegblhfhgiapaaReadsLaw
namespace Go.Proofs.Ytaegblhfhgiapaa.R
open Go.RowKit Go.Proofs.YtaegblhfhgiapaaW.PrintWords Go.Proofs.YtaegblhfhgiapaaW.PrintLast Go.Proofs.YtaegblhfhgiapaaW.PrintMore Go.Proofs.Ytaegblhfhgiapaa.B

theorem reads_law (s : ByteArray) (A : Option Addr) (c : Nat) (l : List It) (w : World) (hr : Kd.C k45 w A l.length l) :
    Calls Try.prog 7 #[.string s, .slice A l.length c] w fun e w' => e = .returned (.bool true) ∧ Below w.heap.size w w' := by
  by_cases h1 : (1000 : Int) < s.size
  · exact reads_long s A l.length c w h1
  · by_cases h : (100 : Int) < l.length
    · exact reads_many s A l.length c w h1 h
    · exact reads_walk s A c l w h1 hr h
end Go.Proofs.Ytaegblhfhgiapaa.R
