/- By hand: 'shown': a closed run, walked in place. -/
import Derived.Test.YtnlppniejeemlaaB0
import Derived.Handy
namespace Go.Proofs.Ytnlppniejeemlaa.B
open Go.RowKit Go.Proofs.YtnlppniejeemlaaW.PrintWords
def conventiclelaw16_shown.f : Option Bool := some true
theorem field29_1 (a b c : Value) (w : World) : (Instr.field 29 (.agg #[a, b, c]) 1).run Try.prog w = .ok (.agg #[b, c]) w := by kernel_rfl
theorem field27_1 (a b : Value) (w : World) : (Instr.field 27 (.agg #[a, b]) 1).run Try.prog w = .ok b w := by kernel_rfl
set_option maxHeartbeats 1000000 in
theorem conventiclelaw16_shown.calls (r : Bool) (w : World) (h : conventiclelaw16_shown.f = some r) :
    Calls Try.prog 8 #[] w fun e w' => e = .returned (.bool r) ∧ Below w.heap.size w w' := by
  obtain rfl := Option.some.inj h
  clear h
  have hfl := field29_1
  have hfl2 := field27_1
  go_enter Try.func8, Try.ntmps8
  go_wp2
  go_ret
  exact ⟨rfl, by go_grown⟩
end Go.Proofs.Ytnlppniejeemlaa.B
