/- By hand: the deferred closure of (*Roll).Merge, behind a panic and behind a return. -/
import Derived.Test.YtkkcnhfbcophiaaDoorHearR
import Derived.Tactics2
import Derived.Defers
import Derived.Recover
import Derived.Laws.Pointers
namespace Go.Proofs.YtkkcnhfbcophiaaDoor.B
open Go.RowKit Go.Proofs.YtkkcnhfbcophiaaDoorW.PrintWords Go.Proofs.YtkkcnhfbcophiaaDoorW.PrintLast Go.Proofs.YtkkcnhfbcophiaaDoorW.PrintMore

theorem catch_idle (p q : Addr) (w : World) :
    CallsD Tryd.prog 33 #[.pointer (some p), .pointer (some q)] .returning w fun e u' w' => e = .returned (.tuple #[]) ∧ u' = .returning ∧ w' = w := by
  refine callsD_of_wpS Tryd.func33 rfl fun c₀ cs hu => ?_
  apply wpS_seq
  apply wpS_region
  simp [wpOpsS, go_sem, recoverD, hu, Tryd.ntmps33, Exit.thenS]
  refine wpS_of_wp ?_
  go_wp2
  cases c₀
  simp_all [bodyPostS, results, Tryd.results33]
theorem catch_panic (p q : Addr) (x : Int) (u : Value) (older : List PanicEntry) (w : World) (hp : w.cell? p = some u) (hz : w.frozen? p = false) (hq : (w.setCell p (.slice none 0 0)).cell? q = some (.int .i64 x)) (hy : w.frozen? q = false) :
    CallsD Tryd.prog 33 #[.pointer (some p), .pointer (some q)] (.panicking ({ v := .iface 27 (.int .i64 60), recovered := false } :: older)) w fun e u' w' =>
      e = .returned (.tuple #[]) ∧ u' = .panicking ({ v := .iface 27 (.int .i64 60), recovered := true } :: older) ∧ w' = (w.setCell p (.slice none 0 0)).setCell q (.int .i64 60) := by
  have hta : (Instr.typeAssert (.iface 27 (.int .i64 60)) 20 27 true).run Tryd.prog w = .ok (.tuple #[.int .i64 60, .bool true]) w := by
    first | kernel_rfl | rfl
  refine callsD_of_wpS Tryd.func33 rfl fun c₀ cs hu => ?_
  apply wpS_seq
  apply wpS_region
  simp [wpOpsS, go_sem, recoverD, hu, Tryd.ntmps33, Exit.thenS]
  refine wpS_of_wp ?_
  go_wp2
  cases c₀
  simp_all [bodyPostS, results, Tryd.results33]
end Go.Proofs.YtkkcnhfbcophiaaDoor.B
