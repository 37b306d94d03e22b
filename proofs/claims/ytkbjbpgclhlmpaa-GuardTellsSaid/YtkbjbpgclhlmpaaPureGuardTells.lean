/- The sum of any text, and what any text is opened to, is the document's, or its error: for every text. -/
import Derived.Test.YtkbjbpgclhlmpaaPlain
namespace Go.Proofs.Ytkbjbpgclhlmpaa.Pure
open Go.RowKit Go.Proofs.Ytkbjbpgclhlmpaa.B Go.Proofs.YtkbjbpgclhlmpaaW.PrintWords Go.Proofs.YtkbjbpgclhlmpaaW.PrintLast

theorem GuardTells : conventiclelaw02_GuardTells.Pure := by
  intro s _
  refine ⟨40001 + 1, ?_⟩
  unfold conventiclelaw02_GuardTells.f
  by_cases h : (s.size : Int) > 2000
  · rw [if_pos h]
    obtain ⟨kk, hkk⟩ : ∃ kk, kk = 40001 := ⟨_, rfl⟩
    rw [← hkk]
    simp only [conventiclelaw02_GuardTells.j0, if_true, shown_run, Option.bind_some]
  · rw [if_neg h, shown_run, Option.bind_some]
    obtain ⟨kk, hkk⟩ : ∃ kk, kk = 40001 := ⟨_, rfl⟩
    rw [← hkk]
    simp only [conventiclelaw02_GuardTells.j0, Bool.not_true, Bool.false_eq_true, if_false]
    rw [hkk, show (40001 : Nat) = 0 + 40001 by omega, ropen_run s (by omega), rsum_run s (by omega), rseal_run s (by omega), sum_run s (by omega), seal_run s (by omega), open_run s (by omega)]
    simp
end Go.Proofs.Ytkbjbpgclhlmpaa.Pure
