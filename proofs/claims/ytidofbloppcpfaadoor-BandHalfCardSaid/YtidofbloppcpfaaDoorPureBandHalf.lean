/- Just half of a band is no majority of it; one more is: for all numbers. -/
import Derived.Test.YtidofbloppcpfaaDoorLists
namespace Go.Proofs.YtidofbloppcpfaaDoor.Pure
open Go Go.RowKit Go.Proofs.YtidofbloppcpfaaDoor.B Go.Proofs.YtidofbloppcpfaaDoor.Band Go.Proofs.YtidofbloppcpfaaDoorW.PrintWords Go.Proofs.YtidofbloppcpfaaDoorW.PrintLast Go.Proofs.YtidofbloppcpfaaDoorW.PrintMore

theorem rd_at (l : List Int) (i : Nat) (hi : i < l.length) : rd l (i : Int) = l[i] := by
  unfold rd
  rw [Int.toNat_natCast, List.getD_eq_getElem?_getD, List.getElem?_eq_getElem hi]; rfl
theorem major_h (c : Nat) (hc : c < 18446744073709551616) (j : Nat) (hj : j ≤ (bandL c).length) : band_Major.f (hset (bandL c) j : Nat) c = some (decide (j > (bandL c).length - j)) := by
  rw [major_run _ _ (hset_lt _ _ hj) hc, hset_and c j hj, hset_clr c j hj]
theorem j1_of (c x4 x6 : Int) (l : List Int) (k : Nat) (b1 b2 : Bool) (h1 : band_Major.f x4 c = some false) (h2 : band_Major.f x6 c = some b1) (h3 : band_Major.f c c = some b2) (e1 : b1 = decide ((l.length : Int) > 0)) (e2 : b2 = decide ((l.length : Int) > 0))
    (hs : conventiclelaw05_shown.f k = some true) : conventiclelaw05_BandHalf.j1 (k + 1) c l x4 x6 = some true := by
  rw [conventiclelaw05_BandHalf.j1, h1, Option.bind_some, if_neg (by decide), h2, Option.bind_some, if_pos (by rw [e1]; exact beq_self_eq_true _), h3, Option.bind_some, if_pos (by rw [e2]; exact beq_self_eq_true _), hs, Option.bind_some]
theorem l0_end (c x4 y : Int) (l : List Int) (h : Nat) (k : Nat) (hl : l.length ≤ 64) (hh : h = l.length / 2) (hw : 0 < l.length → conventicleref05_With.f x4 (rd l h) = some y) (hz : ¬ 0 < l.length → y = x4) (hj : conventiclelaw05_BandHalf.j1 k c l x4 y = some true) :
    conventiclelaw05_BandHalf.l0 (k + 1) c l x4 h = some true := by
  have he : wrap64 ((l.length : Int) / 2) = (h : Int) := by unfold wrap64; omega
  rw [conventiclelaw05_BandHalf.l0, he, if_neg (by omega)]
  by_cases hp : 0 < l.length
  · rw [if_pos (by omega), if_pos (by omega), if_pos (by omega), hw hp, Option.bind_some]
    exact hj
  · rw [if_neg (by omega)]
    rw [hz hp] at hj
    exact hj
theorem l0_step (c x4 y : Int) (l : List Int) (j : Nat) (k : Nat) (hl : l.length ≤ 64) (hj : j < l.length / 2) (hw : conventicleref05_With.f x4 (rd l j) = some y) (h : conventiclelaw05_BandHalf.l0 k c l y ((j + 1 : Nat) : Int) = some true) :
    conventiclelaw05_BandHalf.l0 (k + 1) c l x4 j = some true := by
  have he : wrap64 ((l.length : Int) / 2) = ((l.length / 2 : Nat) : Int) := by unfold wrap64; omega
  rw [conventiclelaw05_BandHalf.l0, he, if_pos (by omega), if_pos (by omega), if_pos (by omega), hw, Option.bind_some, show wrap64 ((j : Int) + 1) = ((j + 1 : Nat) : Int) from by unfold wrap64; omega]
  exact h
theorem with_h (c : Nat) (j : Nat) (hj : j < (bandL c).length) : conventicleref05_With.f (hset (bandL c) j : Nat) (rd (bandL c) j) = some ((hset (bandL c) (j + 1) : Nat) : Int) := by
  rw [rd_at _ _ hj, hset_succ _ _ hj]
  exact rwith_run _ (hset_lt _ _ (Nat.le_of_lt hj)) _
theorem self_h (c : Nat) (hc : c < 18446744073709551616) : band_Major.f c c = some (decide ((bandL c).length > 0)) := by
  have h := major_h c hc (bandL c).length (Nat.le_refl _)
  rw [hset_all c hc, Nat.sub_self] at h
  exact h
theorem last (c : Nat) (hc : c < 18446744073709551616) (m : Nat) (hm : m = if 0 < (bandL c).length then (bandL c).length / 2 + 1 else (bandL c).length / 2) (k : Nat) :
    conventiclelaw05_BandHalf.j1 (k + 4 + 1) c (bandL c) (hset (bandL c) ((bandL c).length / 2) : Nat) (hset (bandL c) m : Nat) = some true := by
  have e : decide (((bandL c).length : Int) > 0) = decide ((bandL c).length > 0) := by rw [decide_eq_decide]; omega
  have hf : decide ((bandL c).length / 2 > (bandL c).length - (bandL c).length / 2) = false := decide_eq_false (by omega)
  exact j1_of c _ _ (bandL c) _ _ _ ((major_h c hc _ (by omega)).trans (congrArg some hf)) (major_h c hc m (by split at hm <;> omega)) (self_h c hc)
    (by rw [e, decide_eq_decide]; split at hm <;> omega) e.symm (Band.shown_run k)
theorem loop (c : Nat) (hc : c < 18446744073709551616) (k : Nat) : ∀ n j : Nat, j + n = (bandL c).length / 2 → conventiclelaw05_BandHalf.l0 (n + (k + 4 + 1 + 1)) c (bandL c) (hset (bandL c) j : Nat) j = some true := by
  have h64 := bandL_length c
  intro n
  induction n with
  | zero =>
    intro j hj
    obtain rfl : j = (bandL c).length / 2 := by omega
    rw [Nat.zero_add]
    refine l0_end c _ _ (bandL c) _ _ h64 rfl (fun hp => ?_) (fun hp => ?_) (last c hc _ rfl k)
    · rw [if_pos hp]
      exact with_h c _ (by omega)
    · rw [if_neg hp]
  | succ n ih =>
    intro j hj
    rw [Nat.succ_add]
    exact l0_step c _ _ (bandL c) j _ h64 (by omega) (with_h c j (by omega)) (ih (j + 1) (by omega))
theorem BandHalf : conventiclelaw05_BandHalf.Pure := by
  intro a0 w0
  obtain ⟨c, rfl, hc⟩ := wf_u64 w0
  refine ⟨65 + ((bandL c).length / 2 + (60 + 4 + 1 + 1)), ?_⟩
  have h := loop c hc (60 + 65) ((bandL c).length / 2) 0 (by omega)
  rw [hset_zero] at h
  unfold conventiclelaw05_BandHalf.f
  rw [rlist_run c hc, Option.bind_some]
  rw [show 65 + ((bandL c).length / 2 + (60 + 4 + 1 + 1)) = (bandL c).length / 2 + (60 + 65 + 4 + 1 + 1) from by omega]
  exact h
end Go.Proofs.YtidofbloppcpfaaDoor.Pure
