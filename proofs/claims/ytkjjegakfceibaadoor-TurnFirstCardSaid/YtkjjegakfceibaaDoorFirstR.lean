/- By hand: TurnFirst: the ways joined, for the row. -/
import Derived.Test.YtkjjegakfceibaaDoorFirstL
namespace Go.Proofs.YtkjjegakfceibaaDoor.B
open Go.RowKit Go.Proofs.YtkjjegakfceibaaDoorW.PrintWords Go.Proofs.YtkjjegakfceibaaDoorW.PrintLast Go.Proofs.YtkjjegakfceibaaDoorW.PrintMore
theorem first_row (A0 : Option Addr) (c0 : Nat) (xs : List Int) (A1 : Option Addr) (c1 : Nat) (ys : List Int) (w : World) (hr0 : Kd.C (Kd.int .u64) w A0 xs.length xs) (_hl0 : xs.length ≤ c0) (hw0 : ∀ a ∈ xs, (fun n => (Lit.int .u64 n).wf = true) a)
    (hr1 : Kd.C (Kd.int .u16) w A1 ys.length ys) (_hl1 : ys.length ≤ c1) (hw1 : ∀ a ∈ ys, (fun n => (Lit.int .u16 n).wf = true) a) (hT : Aside0 (TabT w)) :
    Calls Tryd.prog 3 #[.slice A0 xs.length c0, .slice A1 ys.length c1] w fun e w' => e = .returned (.bool true) ∧ Below w.heap.size w w' := by
  by_cases h : xs.length ≤ 50 ∧ ys.length ≤ 50
  · refine first_loop w A0 c0 xs A1 c1 ys hr0 hr1 hT.out h.1 h.2 (fun x hx => ?_) (fun y hy => ?_)
    · have := hw0 x hx
      simp [Lit.wf, IntKind.min, IntKind.max, IntKind.signed, IntKind.bits] at this
      omega
    · have := hw1 y hy
      simp [Lit.wf, IntKind.min, IntKind.max, IntKind.signed, IntKind.bits] at this
      omega
  · exact first_long w A0 c0 xs A1 c1 ys hr0 hr1 hT.out (by omega)
end Go.Proofs.YtkjjegakfceibaaDoor.B
