/- Of two updates of one node that are not the same just one is newer, and it is so through a third one: for all updates. -/
import Derived.Test.YtdpeeanfloahhaaB7
import Derived.Test.YtdpeeanfloahhaaPlain
namespace Go.Proofs.Ytdpeeanfloahhaa.Pure
open Go.RowKit Go.Proofs.Ytdpeeanfloahhaa.B Go.Proofs.YtdpeeanfloahhaaW.PrintWords Go.Proofs.YtdpeeanfloahhaaW.PrintLast

theorem newer_self (i s : Int) : newer i s i s = false := by unfold newer; simp
theorem RankOrder : conventiclelaw06_RankOrder.Pure := by
  intro an ai st bn bi sb cn ci sc _ _ _ _ _ _ _ _ _
  refine ⟨3, ?_⟩
  unfold conventiclelaw06_RankOrder.f
  have hr := fun n0 i0 s0 n1 i1 s1 => newer_run 0 n0 i0 s0 n1 i1 s1
  have hs := shown_run 0
  simp only [Nat.zero_add] at hr hs
  simp only [hr, hs, Option.bind_some, newer_self, Bool.false_eq_true, if_false]
  by_cases h1 : newer ai st bi sb = true
  · have a1 := newer_iff.1 h1
    have h2 : newer bi sb ai st = false := newer_not.2 (by omega)
    have h3 : (true == (!(ai == bi) || (!(st == sb)))) = true := by
      by_cases e : ai = bi
      · have : ¬ st = sb := by omega
        simp [e, this]
      · simp [e]
    rw [if_pos h1, h2]
    simp only [Bool.false_eq_true, if_false]
    rw [if_pos h3]
    by_cases h4 : newer bi sb ci sc = true
    · have a4 := newer_iff.1 h4
      rw [if_pos h4, if_pos (newer_iff.2 (by omega))]
    · rw [if_neg h4]
  · have a1 := newer_not.1 (by simpa using h1)
    rw [if_neg h1]
    have h3 : (newer bi sb ai st == (!(ai == bi) || (!(st == sb)))) = true := by
      by_cases h2 : newer bi sb ai st = true
      · have a2 := newer_iff.1 h2
        rw [h2]
        by_cases e : ai = bi
        · have : ¬ st = sb := by omega
          simp [e, this]
        · simp [e]
      · have a2 := newer_not.1 (by simpa using h2)
        have e1 : ai = bi := by omega
        have e2 : st = sb := by omega
        simp [e1, e2, newer_self]
    rw [if_pos h3]
end Go.Proofs.Ytdpeeanfloahhaa.Pure
