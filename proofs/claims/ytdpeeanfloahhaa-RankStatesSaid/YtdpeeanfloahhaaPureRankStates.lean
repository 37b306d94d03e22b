/- Of one incarnation the states count Alive, Suspect, Left, Dead, one above the other; the next incarnation counts above all: for all numbers. -/
import Derived.Test.YtdpeeanfloahhaaPlain
namespace Go.Proofs.Ytdpeeanfloahhaa.Pure
open Go.RowKit Go.Proofs.Ytdpeeanfloahhaa.B Go.Proofs.YtdpeeanfloahhaaW.PrintWords Go.Proofs.YtdpeeanfloahhaaW.PrintLast

theorem RankStates : conventiclelaw06_RankStates.Pure := by
  intro m i a b hm hi ha hb
  have m0 := wf_u8 hm
  have i0 := wf_u64 hi
  have a0 := wf_u8 ha
  have b0 := wf_u8 hb
  clear hm hi ha hb
  refine ⟨3, ?_⟩
  unfold conventiclelaw06_RankStates.f
  rw [up_run i i0.1 i0.2, mod_u8 m0, mod_u8 a0, mod_u8 b0, Int.tmod_eq_emod_of_nonneg a0.1, Int.tmod_eq_emod_of_nonneg b0.1]
  simp only [Option.bind_some]
  by_cases h : i = 18446744073709551615
  · rw [if_pos h, if_pos h]
    simp only [if_true]
    rw [shown_run 0]
    rfl
  · rw [if_neg h, if_neg h, newer_run 0, newer_run 0]
    simp only [Option.bind_some]
    have e1 : (newer i (a % 4) i (b % 4) == decide (a % 4 > b % 4)) = true := by unfold newer; simp
    have e2 : newer (i + 1) 0 i (a % 4) = true := by rw [newer_iff]; omega
    rw [if_pos e1, if_pos trivial, e2]
    simp only [if_true, rank_Live.f]
    rw [if_pos (by omega)]
    simp only [Option.bind_some]
    have e3 : (decide (a % 4 ≤ 1) == decide (a % 4 < 2)) = true := by
      rw [beq_iff_eq, decide_eq_decide]; omega
    rw [if_pos e3, shown_run 0]
    rfl
end Go.Proofs.Ytdpeeanfloahhaa.Pure
