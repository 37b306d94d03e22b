/- Whatever an acceptor is asked, its top never falls; what it accepted stands at its top, or below; what is below its top is refused, and changes nothing: for all lists that can be read. -/
import Derived.Test.YtnlppniejeemlaaB9
namespace Go.Proofs.Ytnlppniejeemlaa.Pure
open Go.RowKit Go.Proofs.Ytnlppniejeemlaa.B Go.Proofs.YtnlppniejeemlaaW.PrintWords Go.Proofs.YtnlppniejeemlaaW.PrintLast

theorem top_up {i : Nat} (h : i ≤ 200) : wrap64 ((i : Int) + 1) = ((i + 1 : Nat) : Int) := by unfold wrap64; omega
theorem j2_bad (k : Nat) (x0 : List S36) (i : Nat) (hi : i < x0.length) (e s0 s1 s2 s3 : Int) (he : ¬ e = 0) (hb : (rd_T36 x0 i).f1 = 0 ∨ (rd_T36 x0 i).f1 < s0) (ho : s1 ≤ s0) :
    conventiclelaw16_BallotTop.j2 (k + 1) x0 i s0 e s0 s1 s2 s3 s1 s2 s3 = conventiclelaw16_BallotTop.j3 k x0 i e false s0 s1 s2 s3 := by
  have he' : (e == 0) = false := by simpa using he
  have h1 : ¬ s0 < s0 := by omega
  have h2 : ¬ s1 > s0 := by omega
  simp only [conventiclelaw16_BallotTop.j2, ballot_Acceptor_Top.f, ballot_Acceptor_Last.f, Option.bind_some]
  rw [if_pos (by omega), if_pos (by omega)]
  by_cases hz : (rd_T36 x0 i).f1 = 0
  · rw [if_pos hz, he', if_neg (by decide), if_neg he, if_pos trivial, if_neg (by simp), if_neg h1, if_neg h2]
  · have hlt : decide ((rd_T36 x0 i).f1 ≥ s0) = false := decide_eq_false (by rcases hb with h | h <;> omega)
    rw [if_neg hz, he', hlt, if_neg (by decide), if_neg he, if_pos trivial, if_neg (by simp), if_neg h1, if_neg h2]
theorem j2_ok (k : Nat) (x0 : List S36) (i : Nat) (hi : i < x0.length) (top o v0 v1 q0 q1 q2 : Int) (hz : ¬ (rd_T36 x0 i).f1 = 0) (hb : top ≤ (rd_T36 x0 i).f1) (ho : o ≤ (rd_T36 x0 i).f1) :
    conventiclelaw16_BallotTop.j2 (k + 1) x0 i top 0 (rd_T36 x0 i).f1 o v0 v1 q0 q1 q2 = conventiclelaw16_BallotTop.j3 k x0 i 0 false (rd_T36 x0 i).f1 o v0 v1 := by
  have h1 : ¬ (rd_T36 x0 i).f1 < top := by omega
  have h2 : ¬ o > (rd_T36 x0 i).f1 := by omega
  have hge : decide ((rd_T36 x0 i).f1 ≥ top) = true := decide_eq_true (by omega)
  simp only [conventiclelaw16_BallotTop.j2, ballot_Acceptor_Top.f, ballot_Acceptor_Last.f, Option.bind_some]
  rw [if_pos (by omega), if_pos (by omega), if_neg hz, hge, if_neg (by decide), if_pos trivial, if_neg h1, if_neg h2]
theorem j3_bad (k : Nat) (x0 : List S36) (i : Nat) (e s0 s1 s2 s3 : Int) (he : ¬ e = 0) :
    conventiclelaw16_BallotTop.j3 (k + 1) x0 i e false s0 s1 s2 s3 = conventiclelaw16_BallotTop.l0 k x0 (wrap64 ((i : Int) + 1)) s0 s1 s2 s3 := by
  simp only [conventiclelaw16_BallotTop.j3]
  rw [if_neg (by decide), if_neg he]
theorem j3_ok (k : Nat) (x0 : List S36) (i : Nat) (hi : i < x0.length) (o v0 v1 : Int) (hv : (rd_T36 x0 i).f0 = true → v0 = (rd_T36 x0 i).f2.f0 ∧ v1 = (rd_T36 x0 i).f2.f1) :
    conventiclelaw16_BallotTop.j3 (k + 1) x0 i 0 false (rd_T36 x0 i).f1 o v0 v1 = conventiclelaw16_BallotTop.l0 k x0 (wrap64 ((i : Int) + 1)) (rd_T36 x0 i).f1 o v0 v1 := by
  simp only [conventiclelaw16_BallotTop.j3, ballot_Acceptor_Top.f, ballot_Acceptor_Last.f, Option.bind_some]
  rw [if_neg (by decide), if_pos trivial, if_pos (by omega), if_pos (by omega), if_pos trivial]
  by_cases ha : (rd_T36 x0 i).f0 = true
  · obtain ⟨e0, e1⟩ := hv ha
    rw [if_pos ha, if_neg (by simp [e0, e1])]
  · rw [if_neg ha]
theorem l0_top (x0 : List S36) (hx : x0.length ≤ 200) : ∀ (d k i : Nat) (s0 s1 s2 s3 : Int), i + d = x0.length → s1 ≤ s0 →
    conventiclelaw16_BallotTop.l0 (k + 3 * d + 1) x0 i s0 s1 s2 s3 = some true := by
  intro d
  induction d with
  | zero =>
    intro k i s0 s1 s2 s3 hi _
    simp only [conventiclelaw16_BallotTop.l0]
    rw [if_neg (by omega)]
  | succ d ih =>
    intro k i s0 s1 s2 s3 hi ho
    have hlt : i < x0.length := by omega
    rw [show k + 3 * (d + 1) + 1 = (((k + 3 * d + 1) + 1) + 1) + 1 by omega]
    obtain ⟨kk, hkk⟩ : ∃ kk, kk = k + 3 * d + 1 := ⟨_, rfl⟩
    rw [← hkk]
    obtain ⟨k2, hk2⟩ : ∃ k2, k2 = kk + 1 + 1 := ⟨_, rfl⟩
    rw [← hk2]
    simp only [conventiclelaw16_BallotTop.l0, ballot_Acceptor_Top.f, ballot_Acceptor_Last.f, Option.bind_some]
    rw [if_pos (by omega), if_pos (by omega), hk2]
    have up := top_up (i := i) (by omega)
    by_cases ha : (rd_T36 x0 i).f0 = true
    · rw [if_pos ha]
      unfold ballot_Acceptor_Accept.f ballot_Acceptor_raise.f
      by_cases hz : (rd_T36 x0 i).f1 = 0
      · rw [if_pos hz]
        simp only [Option.bind_some]
        rw [if_neg (by decide), Option.bind_some, j2_bad _ _ _ hlt _ _ _ _ _ (by simp) (.inl hz) ho, j3_bad _ _ _ _ _ _ _ _ (by simp), up, hkk]
        exact ih k (i + 1) _ _ _ _ (by omega) ho
      · rw [if_neg hz]
        by_cases hb : (rd_T36 x0 i).f1 < s0
        · rw [if_pos hb]
          simp only [Option.bind_some]
          rw [if_neg (by decide), Option.bind_some, j2_bad _ _ _ hlt _ _ _ _ _ (by simp) (.inr hb) ho, j3_bad _ _ _ _ _ _ _ _ (by simp), up, hkk]
          exact ih k (i + 1) _ _ _ _ (by omega) ho
        · rw [if_neg hb]
          simp only [Option.bind_some, if_true]
          rw [j2_ok _ _ _ hlt _ _ _ _ _ _ _ hz (by omega) (by omega), j3_ok _ _ _ hlt _ _ _ (fun _ => ⟨rfl, rfl⟩), up, hkk]
          exact ih k (i + 1) _ _ _ _ (by omega) (by omega)
    · rw [if_neg ha]
      unfold ballot_Acceptor_Prepare.f ballot_Acceptor_raise.f
      by_cases hz : (rd_T36 x0 i).f1 = 0
      · rw [if_pos hz]
        simp only [Option.bind_some]
        rw [if_neg (by decide), Option.bind_some, j2_bad _ _ _ hlt _ _ _ _ _ (by simp) (.inl hz) ho, j3_bad _ _ _ _ _ _ _ _ (by simp), up, hkk]
        exact ih k (i + 1) _ _ _ _ (by omega) ho
      · rw [if_neg hz]
        by_cases hb : (rd_T36 x0 i).f1 < s0
        · rw [if_pos hb]
          simp only [Option.bind_some]
          rw [if_neg (by decide), Option.bind_some, j2_bad _ _ _ hlt _ _ _ _ _ (by simp) (.inr hb) ho, j3_bad _ _ _ _ _ _ _ _ (by simp), up, hkk]
          exact ih k (i + 1) _ _ _ _ (by omega) ho
        · rw [if_neg hb]
          simp only [Option.bind_some, if_true]
          rw [j2_ok _ _ _ hlt _ _ _ _ _ _ _ hz (by omega) (by omega), j3_ok _ _ _ hlt _ _ _ (fun h => absurd h ha), up, hkk]
          exact ih k (i + 1) _ _ _ _ (by omega) (by omega)
theorem BallotTop : conventiclelaw16_BallotTop.Pure := by
  intro x0 _
  refine ⟨(0 + 3 * x0.length + 1) + 1, ?_⟩
  unfold conventiclelaw16_BallotTop.f
  obtain ⟨kk, hkk⟩ : ∃ kk, kk = 0 + 3 * x0.length + 1 := ⟨_, rfl⟩
  rw [← hkk]
  by_cases hl : (x0.length : Int) > 200
  · rw [if_pos hl]
    rfl
  · rw [if_neg hl]
    simp only [conventiclelaw16_shown.f, Option.bind_some, conventiclelaw16_BallotTop.j0, Bool.not_true, Bool.false_eq_true, if_false]
    rw [hkk]
    exact l0_top x0 (by omega) x0.length 0 0 0 0 0 0 (by omega) (by omega)
end Go.Proofs.Ytnlppniejeemlaa.Pure
