/- What a node says of itself behind a refutation is newer than what it heard, and than what it said; it refutes it no more: for all updates and numbers. -/
import Derived.Test.YtdpeeanfloahhaaPlain
namespace Go.Proofs.Ytdpeeanfloahhaa.Pure
open Go.RowKit Go.Proofs.Ytdpeeanfloahhaa.B Go.Proofs.YtdpeeanfloahhaaW.PrintWords Go.Proofs.YtdpeeanfloahhaaW.PrintLast

theorem RankRefutes : conventiclelaw06_RankRefutes.Pure := by
  intro m inc n i s hm hinc _ hi _
  have m0 := wf_u8 hm
  have j0 := wf_u64 hinc
  have i0 := wf_u64 hi
  clear hm hinc hi
  refine ⟨4, ?_⟩
  unfold conventiclelaw06_RankRefutes.f
  rw [mod_u8 m0, refute_run 0 _ _ _ _ _ i0.1 i0.2]
  simp only [Option.bind_some]
  unfold refute
  by_cases h : may n s = true ∧ n = m % 64 ∧ newer i s inc 0 = true
  · rw [if_pos h]
    obtain ⟨h1, h2, h3⟩ := h
    rw [newer_iff] at h3
    rw [may_iff] at h1
    by_cases h4 : i = 18446744073709551615
    · rw [if_pos h4]
      simp only [Bool.false_eq_true, if_false, if_true]
      rw [if_neg (by decide), if_pos h4, shown_run 1]
      rfl
    · rw [if_neg h4]
      simp only [if_true]
      rw [refute_run 0 _ _ _ _ _ i0.1 i0.2]
      simp only [Option.bind_some]
      rw [if_pos (by omega), if_pos h2, newer_run 1, newer_run 1]
      have e1 : newer (i + 1) 0 i s = true := by rw [newer_iff]; omega
      have e2 : newer (i + 1) 0 inc 0 = true := by rw [newer_iff]; omega
      have e3 : refute (m % 64) (i + 1) n i s = (i + 1, false, 0) := by
        unfold refute
        rw [if_neg]
        rintro ⟨_, _, h⟩
        rw [newer_iff] at h
        omega
      rw [e1, e2, e3]
      simp only [Option.bind_some, if_true, Bool.false_eq_true, if_false]
      rw [shown_run 1]
      rfl
  · rw [if_neg h]
    simp only [Bool.false_eq_true, if_false, if_true]
    rw [shown_run 1]
    rfl
end Go.Proofs.Ytdpeeanfloahhaa.Pure
