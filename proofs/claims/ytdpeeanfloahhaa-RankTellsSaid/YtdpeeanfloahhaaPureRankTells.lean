/- What may be, counts more, is refuted, and is the best of what is told of any node, is the document's, or its error: for all updates, numbers and lists that can be read. -/
import Derived.Test.YtdpeeanfloahhaaB6
import Derived.Test.YtdpeeanfloahhaaPlain
namespace Go.Proofs.Ytdpeeanfloahhaa.Pure
open Go.RowKit Go.Proofs.Ytdpeeanfloahhaa.B Go.Proofs.YtdpeeanfloahhaaW.PrintWords Go.Proofs.YtdpeeanfloahhaaW.PrintLast

theorem tmay_run (n i s : Int) : conventicleref06_May.f n i s = some (may n s) := by
  have h := may_run n i s
  unfold rank_May.f rank_told_may.f at h
  unfold conventicleref06_May.f
  rw [← h]
  split <;> (try split) <;> (try split) <;> rfl
theorem tnewer_run (n0 i0 s0 n1 i1 s1 : Int) : conventicleref06_Newer.f n0 i0 s0 n1 i1 s1 = some (newer i0 s0 i1 s1) := by
  unfold conventicleref06_Newer.f newer
  by_cases h : i0 > i1
  · rw [if_pos h]; simp; omega
  · rw [if_neg h]
    by_cases h1 : i0 = i1
    · subst h1; simp [h]
    · rw [if_neg h1]; simp; omega
theorem tup_run (i : Int) (h0 : 0 ≤ i) (h1 : i ≤ 18446744073709551615) : conventicleref06_Up.f i = some (if i = 18446744073709551615 then (0, 60) else (i + 1, 0)) := by
  unfold conventicleref06_Up.f
  by_cases h : i = 18446744073709551615
  · rw [if_pos h, if_pos h]
  · rw [if_neg h, if_neg h]
    have : IntKind.u64.wrap (i + 1) = i + 1 := by rw [IntKind.wrap_u64]; omega
    rw [this]
theorem trefute_run (k : Nat) (me inc n i s : Int) (h0 : 0 ≤ i) (h1 : i ≤ 18446744073709551615) : conventicleref06_Refute.f (k + 1) me inc n i s = some (refute me inc n i s) := by
  unfold conventicleref06_Refute.f refute
  rw [tmay_run]
  simp only [Option.bind_some, conventicleref06_Refute.j0, if_true]
  by_cases hm : may n s = true
  · have hs := may_iff.1 hm
    rw [if_pos hm]
    by_cases hn : n = me
    · rw [if_pos hn]
      by_cases hl : i < inc
      · rw [if_pos hl, if_neg (fun h => by have := newer_iff.1 h.2.2; omega)]
      · rw [if_neg hl]
        have hup : ((conventicleref06_Up.f i).bind fun bt217 => (if bt217.2 = 0 then (some (bt217.1, true, (0 : Int))) else (some (inc, false, bt217.2)))) = some (if i = 18446744073709551615 then (inc, false, 60) else (i + 1, true, 0)) := by
          rw [tup_run i h0 h1]
          by_cases hi : i = 18446744073709551615 <;> simp [hi]
        by_cases he : i = inc
        · rw [if_pos he]
          by_cases hz : s = 0
          · rw [if_pos (by simp [hz]), if_neg (fun h => by have := newer_iff.1 h.2.2; omega)]
          · rw [if_neg (by simp [hz]), hup, if_pos (show may n s = true ∧ n = me ∧ newer i s inc 0 = true from ⟨hm, hn, newer_iff.2 (by omega)⟩)]
        · rw [if_neg he, if_neg (by simp), hup, if_pos (show may n s = true ∧ n = me ∧ newer i s inc 0 = true from ⟨hm, hn, newer_iff.2 (by omega)⟩)]
    · rw [if_neg hn, if_neg (fun h => hn h.2.1)]
  · rw [if_neg hm, if_neg (fun h => hm h.1)]
theorem live_same (n i s : Int) : rank_Live.f n i s = conventicleref06_Live.f n i s := by
  unfold rank_Live.f conventicleref06_Live.f
  by_cases h : s = 0
  · simp [h]
  · rw [if_neg h]
    by_cases h1 : s ≥ 0
    · rw [if_pos h1]; congr 1; rw [Bool.eq_iff_iff]; simp; omega
    · rw [if_neg h1]; congr 1; symm; simp; omega
theorem live_some (n i s : Int) : ∃ b, conventicleref06_Live.f n i s = some b := by
  unfold conventicleref06_Live.f
  by_cases h : s = 0
  · exact ⟨_, if_pos h⟩
  · exact ⟨_, if_neg h⟩
theorem tbest_run (l : List S24) (hl : l.length ≤ 200) : ∀ (d k i : Nat), i + d = l.length →
    conventicleref06_Best.l0 (k + d + 1) l ((l.take i).foldl bstep (z24, false)).2 i ((l.take i).foldl bstep (z24, false)).1.f0 ((l.take i).foldl bstep (z24, false)).1.f1 ((l.take i).foldl bstep (z24, false)).1.f2 = some ((bestS l).1.f0, (bestS l).1.f1, (bestS l).1.f2, (bestS l).2) := by
  intro d
  induction d with
  | zero =>
    intro k i hi
    simp only [conventicleref06_Best.l0]
    rw [if_neg (by omega), show i = l.length by omega, List.take_length]
    rfl
  | succ d ih =>
    intro k i hi
    show conventicleref06_Best.l0 ((k + d + 1) + 1) l _ i _ _ _ = _
    have hlt : i < l.length := by omega
    have e : rd_T24 l (i : Int) = l[i] := by simp [rd_T24, List.getD, List.getElem?_eq_getElem hlt]
    have hw : wrap64 ((i : Int) + 1) = ((i + 1 : Nat) : Int) := by unfold wrap64; omega
    have hs : (l.take (i + 1)).foldl bstep (z24, false) = bstep ((l.take i).foldl bstep (z24, false)) l[i] := by
      rw [List.take_succ_eq_append_getElem hlt, List.foldl_append]; rfl
    have hn := ih k (i + 1) (by omega)
    rw [hs] at hn
    obtain ⟨b, hb⟩ : ∃ b, b = (l.take i).foldl bstep (z24, false) := ⟨_, rfl⟩
    rw [← hb] at hn ⊢
    obtain ⟨kk, hkk⟩ : ∃ kk, kk = k + d + 1 := ⟨_, rfl⟩
    rw [← hkk] at hn ⊢
    simp only [conventicleref06_Best.l0]
    rw [if_pos (by omega), if_pos (by omega), e, tmay_run, hw]
    simp only [Option.bind_some, tnewer_run]
    have hm : mayS l[i] = may l[i].f0 l[i].f2 := rfl
    have hnw : newerS l[i] b.1 = newer l[i].f1 l[i].f2 b.1.f1 b.1.f2 := rfl
    by_cases h1 : may l[i].f0 l[i].f2 = true
    · rw [if_pos h1]
      by_cases h2 : b.2 = true
      · rw [if_pos h2]
        by_cases h3 : l[i].f0 = b.1.f0
        · rw [if_pos h3]
          by_cases h4 : newer l[i].f1 l[i].f2 b.1.f1 b.1.f2 = true
          · rw [if_pos h4]
            have : bstep b l[i] = (l[i], true) := by unfold bstep; rw [if_pos ⟨by rw [hm]; exact h1, .inr ⟨h3, by rw [hnw]; exact h4⟩⟩]
            rw [this] at hn
            exact hn
          · rw [if_neg h4]
            have : bstep b l[i] = b := by unfold bstep; rw [if_neg (fun h => h.2.elim (fun h => by rw [h2] at h; cases h) (fun h => h4 (by rw [← hnw]; exact h.2)))]
            rw [this] at hn
            exact hn
        · rw [if_neg h3]
          have : bstep b l[i] = b := by unfold bstep; rw [if_neg (fun h => h.2.elim (fun h => by rw [h2] at h; cases h) (fun h => h3 h.1))]
          rw [this] at hn
          exact hn
      · rw [if_neg h2]
        have : bstep b l[i] = (l[i], true) := by unfold bstep; rw [if_pos ⟨by rw [hm]; exact h1, .inl (by simpa using h2)⟩]
        rw [this] at hn
        exact hn
    · rw [if_neg h1]
      have : bstep b l[i] = b := by unfold bstep; rw [if_neg (fun h => h1 (by rw [← hm]; exact h.1))]
      rw [this] at hn
      exact hn
theorem RankTells : conventiclelaw06_RankTells.Pure := by
  intro an ai st bn bi bs me inc l _ hai _ _ hbi _ _ hinc _
  have i0 := wf_u64 hai
  have j0 := wf_u64 hinc
  refine ⟨l.length + 10, ?_⟩
  unfold conventiclelaw06_RankTells.f
  by_cases hl : (l.length : Int) > 200
  · rw [if_pos hl]
    rw [show l.length + 10 = (l.length + 9) + 1 from rfl]
    obtain ⟨kk, hkk⟩ : ∃ kk, kk = l.length + 9 := ⟨_, rfl⟩
    rw [← hkk]
    simp only [conventiclelaw06_RankTells.j0, if_true]
    rw [hkk]
    rw [show l.length + 9 = (l.length + 6) + 3 from rfl, shown_run]
    rfl
  · rw [if_neg hl, show l.length + 10 = (l.length + 7) + 3 from rfl, shown_run]
    rw [Option.bind_some, show l.length + 7 + 3 = (l.length + 9) + 1 from rfl]
    obtain ⟨kk, hkk⟩ : ∃ kk, kk = l.length + 9 := ⟨_, rfl⟩
    rw [← hkk]
    simp only [conventiclelaw06_RankTells.j0, Bool.not_true, Bool.false_eq_true, if_false]
    rw [hkk]
    have hb : conventicleref06_Best.f (l.length + 9) l = some ((bestS l).1.f0, (bestS l).1.f1, (bestS l).1.f2, (bestS l).2) := by
      have := tbest_run l (by omega) l.length 8 0 (by omega)
      rw [show 8 + l.length + 1 = l.length + 9 by omega] at this
      simpa [conventicleref06_Best.f, z24] using this
    rw [hb]
    obtain ⟨lv, hlv⟩ := live_some an ai st
    rw [show rank_Best.f l = some ((bestS l).1.f0, (bestS l).1.f1, (bestS l).1.f2, (bestS l).2) from rfl, show l.length + 9 = (l.length + 5) + 4 from rfl, refute_run _ _ _ _ _ _ i0.1 i0.2,
      show l.length + 5 + 4 = (l.length + 8) + 1 from rfl, trefute_run _ _ _ _ _ _ i0.1 i0.2, up_run _ j0.1 j0.2, tup_run _ j0.1 j0.2, may_run, tmay_run, live_same, hlv, show l.length + 8 + 1 = (l.length + 6) + 3 from rfl, newer_run, tnewer_run]
    simp
end Go.Proofs.Ytdpeeanfloahhaa.Pure
