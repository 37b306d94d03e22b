/- What is told of others is never refuted, nor what may not be, nor what is older: for all updates and numbers. -/
import Derived.Test.YtdpeeanfloahhaaPlain
namespace Go.Proofs.Ytdpeeanfloahhaa.Pure
open Go.RowKit Go.Proofs.Ytdpeeanfloahhaa.B Go.Proofs.YtdpeeanfloahhaaW.PrintWords Go.Proofs.YtdpeeanfloahhaaW.PrintLast

theorem rmay_run (n i s : Int) : conventicleref06_May.f n i s = some (may n s) := by
  have h := may_run n i s
  unfold rank_May.f rank_told_may.f at h
  unfold conventicleref06_May.f
  rw [← h]
  split <;> (try split) <;> (try split) <;> rfl
theorem RankOthers : conventiclelaw06_RankOthers.Pure := by
  intro m inc n i s hm hinc _ hi _
  have m0 := wf_u8 hm
  have j0 := wf_u64 hinc
  have i0 := wf_u64 hi
  clear hm hinc hi
  refine ⟨5, ?_⟩
  unfold conventiclelaw06_RankOthers.f
  rw [mod_u8 m0, refute_run 1 _ _ _ _ _ i0.1 i0.2, rmay_run]
  simp only [Option.bind_some]
  by_cases h2 : n = m % 64
  · rw [if_pos h2]
    by_cases h1 : may n s = true
    · rw [if_pos h1]
      by_cases h3 : i < inc
      · have e : refute (m % 64) inc n i s = (inc, false, 0) := by
          unfold refute
          rw [if_neg]
          rintro ⟨_, _, h⟩
          rw [newer_iff] at h
          omega
        rw [e, decide_eq_true h3]
        simp only [conventiclelaw06_RankOthers.j0, if_true, Bool.false_eq_true, if_false]
        rw [shown_run 1]
        rfl
      · rw [decide_eq_false h3]
        simp only [conventiclelaw06_RankOthers.j0, Bool.false_eq_true, if_false]
        rw [refute_run 0 _ _ _ _ _ j0.1 j0.2]
        have e : refute (m % 64) inc (m % 64) inc 0 = (inc, false, 0) := by
          unfold refute
          rw [if_neg]
          rintro ⟨_, _, h⟩
          rw [newer_iff] at h
          omega
        rw [e]
        simp only [Option.bind_some, if_true, Bool.false_eq_true, if_false]
        rw [shown_run 1]
        rfl
    · have e : refute (m % 64) inc n i s = (inc, false, 0) := by
        unfold refute
        rw [if_neg (fun h => h1 h.1)]
      rw [if_neg h1, e]
      simp only [conventiclelaw06_RankOthers.j0, if_true, Bool.false_eq_true, if_false]
      rw [shown_run 1]
      rfl
  · have e : refute (m % 64) inc n i s = (inc, false, 0) := by
      unfold refute
      rw [if_neg (fun h => h2 h.2.1)]
    rw [if_neg h2, e]
    simp only [conventiclelaw06_RankOthers.j0, if_true, Bool.false_eq_true, if_false]
    rw [shown_run 1]
    rfl
end Go.Proofs.Ytdpeeanfloahhaa.Pure
