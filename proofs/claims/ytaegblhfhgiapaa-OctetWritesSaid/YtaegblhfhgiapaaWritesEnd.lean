/- OctetWrites, by hand: for whatever items. -/
import Derived.Test.YtaegblhfhgiapaaWritesLaw
namespace Go.Proofs.Ytaegblhfhgiapaa.R
open Go.RowKit Go.Proofs.YtaegblhfhgiapaaW.PrintWords Go.Proofs.YtaegblhfhgiapaaW.PrintLast Go.Proofs.YtaegblhfhgiapaaW.PrintMore Go.Proofs.Ytaegblhfhgiapaa.B

theorem wf_all (l : List It) (h : ∀ a ∈ l, wfIt a) (k : Nat) : wfIt (l.getD k z45) := by
  rw [List.getD_eq_getElem?_getD]
  rcases Nat.lt_or_ge k l.length with hk | hk
  · rw [List.getElem?_eq_getElem hk]; exact h _ (List.getElem_mem hk)
  · rw [List.getElem?_eq_none hk]
    exact ⟨by decide, by decide, by decide, by decide, by decide, by decide⟩
theorem writes_law (A : Option Addr) (c : Nat) (l : List It) (w : World) (hr : Kd.C k45 w A l.length l) (hwf : ∀ a ∈ l, wfIt a) :
    Calls Try.prog 6 #[.slice A l.length c] w fun e w' => e = .returned (.bool true) ∧ Below w.heap.size w w' := by
  by_cases h : (60 : Int) < l.length
  · exact writes_many A l.length c w h
  · exact writes_walk A c l w hr (wf_all l hwf) h
end Go.Proofs.Ytaegblhfhgiapaa.R
