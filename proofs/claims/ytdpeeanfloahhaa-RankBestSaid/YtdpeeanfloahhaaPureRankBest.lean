/- The best of what is told is one of it, and nothing of its node is newer; in another order it counts as much: for all lists and numbers. -/
import Derived.Test.YtdpeeanfloahhaaB8
import Derived.Test.YtdpeeanfloahhaaBestPlain
namespace Go.Proofs.Ytdpeeanfloahhaa.Pure
open Go.RowKit Go.Proofs.Ytdpeeanfloahhaa.B Go.Proofs.YtdpeeanfloahhaaW.PrintWords Go.Proofs.YtdpeeanfloahhaaW.PrintLast

theorem bmay_run (n i s : Int) : conventicleref06_May.f n i s = some (may n s) := by
  have h := may_run n i s
  unfold rank_May.f rank_told_may.f at h
  unfold conventicleref06_May.f
  rw [← h]
  split <;> (try split) <;> (try split) <;> rfl
theorem bnewer_run (n0 i0 s0 n1 i1 s1 : Int) : conventicleref06_Newer.f n0 i0 s0 n1 i1 s1 = some (newer i0 s0 i1 s1) := by
  unfold conventicleref06_Newer.f newer
  by_cases h : i0 > i1
  · rw [if_pos h]; simp; omega
  · rw [if_neg h]
    by_cases h1 : i0 = i1
    · subst h1; simp [h]
    · rw [if_neg h1]; simp; omega
theorem rd24 (m : List S24) (j : Nat) (hj : j < m.length) : rd_T24 m (j : Int) = m[j] := by
  simp [rd_T24, List.getD, List.getElem?_eq_getElem hj]
theorem any_take (m : List S24) (j : Nat) (hj : j < m.length) : (m.take (j + 1)).any mayS = ((m.take j).any mayS || mayS m[j]) := by
  rw [List.take_succ_eq_append_getElem hj, List.any_append]
  simp
theorem loop1 (m : List S24) (hm : m.length ≤ 100) (b : S24) (x : Bool) (hx : x = m.any mayS) (hb : ∀ u ∈ m, mayS u = true → newerS u b = false) :
    ∀ n j : Nat, j + n = m.length → conventiclelaw06_RankBest.l1 (2 * n + 1) m x x ((m.take j).any mayS) j b.f0 b.f1 b.f2 b.f0 b.f1 b.f2 = some true := by
  intro n
  induction n with
  | zero =>
    intro j hj
    obtain rfl : j = m.length := by omega
    rw [show 2 * 0 + 1 = 0 + 1 from rfl, conventiclelaw06_RankBest.l1]
    rw [if_neg (by omega), List.take_length, ← hx]
    simp
  | succ n ih =>
    intro j hj
    have hlt : j < m.length := by omega
    have hmem : m[j] ∈ m := List.getElem_mem hlt
    have hw : wrap64 ((j : Int) + 1) = ((j + 1 : Nat) : Int) := by unfold wrap64; omega
    have hj3 : conventiclelaw06_RankBest.j3 (2 * n + 1 + 1) m x x ((m.take (j + 1)).any mayS) j b.f0 b.f1 b.f2 b.f0 b.f1 b.f2 = some true := by
      rw [conventiclelaw06_RankBest.j3]
      rw [if_pos (by omega), if_pos (by omega), bmay_run, bnewer_run, rd24 m j hlt, hw]
      simp only [Option.bind_some]
      by_cases hmay : may m[j].f0 m[j].f2 = true
      · rw [if_pos hmay, if_neg (by have := hb _ hmem hmay; unfold newerS at this; rw [this]; decide)]
        exact ih (j + 1) (by omega)
      · rw [if_neg hmay]
        exact ih (j + 1) (by omega)
    rw [show 2 * (n + 1) + 1 = (2 * n + 1 + 1) + 1 from by omega, conventiclelaw06_RankBest.l1]
    rw [if_pos (by omega)]
    rw [any_take m j hlt] at hj3
    by_cases hc : (m.take j).any mayS = true
    · rw [if_pos hc]
      rw [hc, Bool.true_or] at hj3
      exact hj3
    · rw [if_neg hc, if_pos (by omega), bmay_run, rd24 m j hlt]
      simp only [Option.bind_some]
      rw [Bool.not_eq_true] at hc
      rw [hc, Bool.false_or] at hj3
      exact hj3
theorem at_end (l0 : List S24) (hl : l0.length ≤ 100) (a1 : Int) (ha : 0 ≤ a1 ∧ a1 ≤ 255) :
    conventiclelaw06_RankBest.l0 (2 * l0.length + 1 + 1) l0 a1 (l0.map to3) l0.length = some true := by
  obtain ⟨m, hm⟩ : ∃ m, m = l0.map to3 := ⟨_, rfl⟩
  have h3 := all3 l0
  rw [← hm] at h3 ⊢
  have hml : m.length = l0.length := by rw [hm, List.length_map]
  have hw : wrap64 ((m.length : Int) + 1) = (m.length : Int) + 1 := by unfold wrap64; omega
  have hw1 : wrap64 a1 = a1 := by unfold wrap64; omega
  obtain ⟨k, hk⟩ : ∃ k : Nat, Int.tmod a1 ((m.length : Int) + 1) = (k : Int) := by
    rw [Int.tmod_eq_emod_of_nonneg ha.1]
    exact ⟨(a1 % ((m.length : Int) + 1)).toNat, by have := Int.emod_nonneg a1 (b := (m.length : Int) + 1) (by omega); omega⟩
  have hk1 : k ≤ m.length := by
    rw [Int.tmod_eq_emod_of_nonneg ha.1] at hk
    have := Int.emod_lt_of_pos a1 (b := (m.length : Int) + 1) (by omega)
    omega
  rw [conventiclelaw06_RankBest.l0]
  rw [if_neg (by omega)]
  simp only [hw, hw1, hk, Int.toNat_natCast, Option.bind_some, List.nil_append, List.length_nil]
  have hb : bestS (m.drop k ++ m.take k) = bestS m := best_turn k m h3
  rw [show rank_Best.f m = some ((bestS m).1.f0, (bestS m).1.f1, (bestS m).1.f2, (bestS m).2) from rfl]
  simp only [Option.bind_some]
  rw [if_neg (by omega), if_pos (by omega), if_pos (by omega), if_pos (by rw [List.length_drop]; omega), if_pos (by rw [List.length_drop, List.length_take]; omega)]
  rw [show rank_Best.f (m.drop k ++ m.take k) = some ((bestS m).1.f0, (bestS m).1.f1, (bestS m).1.f2, (bestS m).2) from by unfold rank_Best.f; rw [hb]]
  simp only [Option.bind_some]
  have := loop1 m (by omega) (bestS m).1 (bestS m).2 (best_any m h3) (best_no m h3) m.length 0 (by omega)
  rw [← hml]
  simpa using this
theorem loop0 (l0 : List S24) (hl : l0.length ≤ 100) (a1 : Int) (ha : 0 ≤ a1 ∧ a1 ≤ 255) :
    ∀ n j : Nat, j + n = l0.length → conventiclelaw06_RankBest.l0 (2 * l0.length + 1 + 1 + n) l0 a1 ((l0.take j).map to3) j = some true := by
  intro n
  induction n with
  | zero =>
    intro j hj
    obtain rfl : j = l0.length := by omega
    rw [List.take_length]
    exact at_end l0 hl a1 ha
  | succ n ih =>
    intro j hj
    have hlt : j < l0.length := by omega
    have hw : wrap64 ((j : Int) + 1) = ((j + 1 : Nat) : Int) := by unfold wrap64; omega
    rw [show 2 * l0.length + 1 + 1 + (n + 1) = (2 * l0.length + 1 + 1 + n) + 1 from by omega, conventiclelaw06_RankBest.l0]
    rw [if_pos (by omega), if_pos (by omega), if_pos (by rw [List.length_map, List.length_take]; omega), hw, rd24 l0 j hlt]
    have := ih (j + 1) (by omega)
    rw [List.take_succ_eq_append_getElem hlt, List.map_append] at this
    exact this
theorem RankBest : conventiclelaw06_RankBest.Pure := by
  intro l0 a1 _ w1
  have ha := wf_u8 w1
  by_cases hl : (l0.length : Int) > 100
  · refine ⟨4, ?_⟩
    unfold conventiclelaw06_RankBest.f
    rw [if_pos hl, conventiclelaw06_RankBest.j0, if_pos rfl, shown_run 0]
    rfl
  · refine ⟨(2 * l0.length + 1 + 1 + l0.length) + 3 + 1, ?_⟩
    unfold conventiclelaw06_RankBest.f
    rw [if_neg hl, shown_run ((2 * l0.length + 1 + 1 + l0.length) + 1)]
    simp only [Option.bind_some]
    rw [conventiclelaw06_RankBest.j0, if_neg (by decide)]
    have h := loop0 l0 (by omega) a1 ha l0.length 0 (by omega)
    have mono : ∀ k r, conventiclelaw06_RankBest.l0 k l0 a1 [] 0 = some r → conventiclelaw06_RankBest.l0 (k + 1) l0 a1 [] 0 = some r := fun k r h => (conventiclelaw06_RankBest.mono_l k).2.1 _ _ _ _ _ h
    exact mono _ _ (mono _ _ (mono _ _ (by simpa using h)))
end Go.Proofs.Ytdpeeanfloahhaa.Pure
