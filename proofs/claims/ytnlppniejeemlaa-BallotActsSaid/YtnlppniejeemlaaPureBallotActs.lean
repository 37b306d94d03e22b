/- Whatever an acceptor is asked, what it answers, and has, is the document's, or its error; so is what is picked, and ballots' numbers: for all lists and numbers that can be read. -/
import Derived.Test.YtnlppniejeemlaaB6
import Derived.Test.YtnlppniejeemlaaPureBallotPicks
namespace Go.Proofs.Ytnlppniejeemlaa.Pure
open Go.RowKit Go.Proofs.Ytnlppniejeemlaa.B Go.Proofs.YtnlppniejeemlaaW.PrintWords Go.Proofs.YtnlppniejeemlaaW.PrintLast

theorem accept_same (s0 s1 s2 s3 b m c : Int) : ∃ e t o x y, ballot_Acceptor_Accept.f s0 s1 s2 s3 b m c = some (e, t, o, x, y) ∧ conventicleref16_Acceptor_Accept.f s0 s1 s2 s3 b m c = some (e, t, o, x, y) := by
  unfold ballot_Acceptor_Accept.f conventicleref16_Acceptor_Accept.f ballot_Acceptor_raise.f conventicleref16_Acceptor_check.f
  by_cases h : b = 0
  · simp [h]
  · by_cases h1 : b < s0
    · simp [h, h1]
    · simp [h, h1]
theorem prepare_same (s0 s1 s2 s3 b : Int) : ∃ p q r e t o x y, ballot_Acceptor_Prepare.f s0 s1 s2 s3 b = some (p, q, r, e, t, o, x, y) ∧ conventicleref16_Acceptor_Prepare.f s0 s1 s2 s3 b = some (p, q, r, e, t, o, x, y) := by
  unfold ballot_Acceptor_Prepare.f conventicleref16_Acceptor_Prepare.f ballot_Acceptor_raise.f conventicleref16_Acceptor_check.f
  by_cases h : b = 0
  · simp [h]
  · by_cases h1 : b < s0
    · simp [h, h1]
    · simp [h, h1]
theorem j2_run (x0 : List S36) (x1 : List S29) (x2 x3 : Int) (i k : Nat) (s0 s1 s2 s3 : Int) (hi : i ≤ 200) :
    conventiclelaw16_BallotActs.j2 (k + 1) x0 x1 x2 x3 i s0 s1 s2 s3 s0 s1 s2 s3 = conventiclelaw16_BallotActs.l0 k x0 x1 x2 x3 ((i + 1 : Nat) : Int) s0 s1 s2 s3 s0 s1 s2 s3 := by
  simp only [conventiclelaw16_BallotActs.j2, ballot_Acceptor_Top.f, conventicleref16_Acceptor_Top.f, ballot_Acceptor_Last.f, conventicleref16_Acceptor_Last.f, conventiclelaw16_theirs.f, Option.bind_some, if_true]
  rw [if_neg (by simp), wrap_up (by omega) (by omega)]
  rfl
theorem l0_acts (x0 : List S36) (hx : x0.length ≤ 200) (x1 : List S29) (x2 x3 : Int) : ∀ (d k i : Nat) (s0 s1 s2 s3 : Int), i + d = x0.length →
    conventiclelaw16_BallotActs.l0 (k + 2 * d + 1) x0 x1 x2 x3 i s0 s1 s2 s3 s0 s1 s2 s3 = conventiclelaw16_BallotActs.l1 k x1 x2 x3 [] 0 := by
  intro d
  induction d with
  | zero =>
    intro k i s0 s1 s2 s3 hi
    simp only [conventiclelaw16_BallotActs.l0]
    rw [if_neg (by omega)]
  | succ d ih =>
    intro k i s0 s1 s2 s3 hi
    show conventiclelaw16_BallotActs.l0 ((k + 2 * d + 1 + 1) + 1) x0 x1 x2 x3 i s0 s1 s2 s3 s0 s1 s2 s3 = _
    simp only [conventiclelaw16_BallotActs.l0]
    rw [if_pos (by omega), if_pos (by omega)]
    by_cases ha : (rd_T36 x0 i).f0 = true
    · rw [if_pos ha]
      obtain ⟨e, t, o, x, y, h1, h2⟩ := accept_same s0 s1 s2 s3 (rd_T36 x0 i).f1 (rd_T36 x0 i).f2.f0 (rd_T36 x0 i).f2.f1
      rw [h1, h2]
      simp only [Option.bind_some, if_true]
      rw [j2_run _ _ _ _ _ _ _ _ _ _ (by omega)]
      exact ih k (i + 1) _ _ _ _ (by omega)
    · rw [if_neg ha]
      obtain ⟨p, q, r, e, t, o, x, y, h1, h2⟩ := prepare_same s0 s1 s2 s3 (rd_T36 x0 i).f1
      rw [h1, h2]
      simp only [Option.bind_some, conventiclelaw16_theirs.f, if_true]
      rw [if_neg (by simp), j2_run _ _ _ _ _ _ _ _ _ _ (by omega)]
      exact ih k (i + 1) _ _ _ _ (by omega)

/-- the document's promise -/
def conv (p : S29) : S65 := ⟨p.f0, ⟨p.f1.f0, p.f1.f1⟩⟩
theorem rd_conv (l : List S29) (i : Nat) (h : i < l.length) : rd_T65 (l.map conv) i = conv (rd_T29 l i) := by
  simp [rd_T65, rd_T29, List.getD, List.getElem?_eq_getElem h]
theorem pick_run (l : List S29) (hl : l.length ≤ 100) : ∀ (d k i : Nat), i + d = l.length →
    conventicleref16_Pick.l0 (k + d + 1) (l.map conv) i (bestOf (l.take i)).f0 (bestOf (l.take i)).f1.f0 (bestOf (l.take i)).f1.f1 = some ((bestOf l).f1.f0, (bestOf l).f1.f1, decide ((bestOf l).f0 > 0)) := by
  intro d
  induction d with
  | zero =>
    intro k i hi
    obtain rfl : i = l.length := by omega
    simp only [conventicleref16_Pick.l0]
    rw [if_neg (by simp), List.take_length]
  | succ d ih =>
    intro k i hi
    show conventicleref16_Pick.l0 ((k + d + 1) + 1) (l.map conv) i (bestOf (l.take i)).f0 (bestOf (l.take i)).f1.f0 (bestOf (l.take i)).f1.f1 = _
    simp only [conventicleref16_Pick.l0]
    rw [if_pos (by simp; omega), if_pos (by omega), rd_conv l i (by omega), wrap_up (by omega) (by omega)]
    have h := ih k (i + 1) (by omega)
    rw [bestOf_take l i (by omega)] at h
    unfold better at h
    by_cases hc : (bestOf (l.take i)).f0 < (rd_T29 l i).f0
    · rw [if_pos hc] at h
      rw [if_pos (show (conv (rd_T29 l i)).f0 > _ from hc)]
      exact h
    · rw [if_neg hc] at h
      rw [if_neg (show ¬ (conv (rd_T29 l i)).f0 > _ from hc)]
      exact h
theorem is_same (l : List S29) : (!((bestOf l).f0 == 0) || ((!((bestOf l).f1.f0 == 0) || (!((bestOf l).f1.f1 == 0))))) = decide ((bestOf l).f0 > 0) := by
  have hb := best_is l l.length (Nat.le_refl _)
  have hf := best_f0 l l.length (Nat.le_refl _)
  rw [List.take_length] at hb hf
  rcases hb with ⟨h, _⟩ | ⟨_, _, _, h, _⟩
  · rw [h]; rfl
  · have h1 : ¬ (bestOf l).f0 = 0 := by omega
    have h2 : (bestOf l).f0 > 0 := by omega
    simp [h1, h2]
theorem number_same (k : Nat) (a n : Int) (h0 : 0 ≤ a) (h1 : a < 18446744073709551616) (h2 : -9223372036854775808 ≤ n) (h3 : n < 9223372036854775808) :
    ∃ x y, ballot_Number.f a n = some (x, y) ∧ conventicleref16_Number.f (k + 2) a n = some (x, y) := by
  unfold ballot_Number.f conventicleref16_Number.f
  rw [if_pos ⟨h0, h1, h2, h3⟩]
  by_cases c0 : n < 0
  · rw [if_pos (.inl c0), if_pos c0]
    simp only [conventicleref16_Number.j0, if_true]
    exact ⟨0, 1, rfl, rfl⟩
  · rw [if_neg c0]
    by_cases c1 : 64 ≤ n
    · rw [if_pos (.inr c1)]
      simp only [conventicleref16_Number.j0]
      rw [if_pos (decide_eq_true c1)]
      exact ⟨0, 1, rfl, rfl⟩
    · rw [if_neg (by omega)]
      have hw : a * 64 + n + 1 < 18446744073709551616 → IntKind.u64.wrap ((IntKind.u64.wrap ((IntKind.u64.wrap (64 * a)) + (IntKind.u64.wrap (n)))) + 1) = a * 64 + n + 1 := by
        intro h4
        simp only [IntKind.wrap_u64]
        omega
      simp only [conventicleref16_Number.j0]
      rw [if_neg (show ¬ decide (n ≥ 64) = true from fun h => c1 (of_decide_eq_true h))]
      by_cases c2 : a > 288230376151711743
      · rw [if_neg (show ¬ a * 64 + n + 1 < 18446744073709551616 by omega), if_pos c2]
        exact ⟨0, 60, rfl, rfl⟩
      · rw [if_neg c2]
        by_cases c3 : a = 288230376151711743
        · rw [if_pos c3]
          by_cases c4 : n = 63
          · rw [if_neg (show ¬ a * 64 + n + 1 < 18446744073709551616 by omega), if_pos c4]
            exact ⟨0, 60, rfl, rfl⟩
          · rw [if_pos (show a * 64 + n + 1 < 18446744073709551616 by omega), if_neg c4, hw (by omega)]
            exact ⟨_, _, rfl, rfl⟩
        · rw [if_neg c3, if_pos (show a * 64 + n + 1 < 18446744073709551616 by omega), hw (by omega)]
          exact ⟨_, _, rfl, rfl⟩
theorem owner_same (a : Int) : ∃ x y z, ballot_Owner.f a = some (x, y, z) ∧ conventicleref16_Owner.f a = some (x, y, z) := by
  unfold ballot_Owner.f conventicleref16_Owner.f
  split <;> exact ⟨_, _, _, rfl, rfl⟩
theorem take_conv (l : List S29) (i : Nat) (h : i < l.length) : (l.take i).map conv ++ [conv (rd_T29 l i)] = (l.take (i + 1)).map conv := by
  rw [List.take_succ_eq_append_getElem h, List.map_append]
  simp [rd_T29, List.getD, List.getElem?_eq_getElem h]
theorem l1_acts (l : List S29) (hl : l.length ≤ 100) (a n : Int) (h0 : 0 ≤ a) (h1 : a < 18446744073709551616) (h2 : -9223372036854775808 ≤ n) (h3 : n < 9223372036854775808) : ∀ (d k i : Nat), i + d = l.length →
    conventiclelaw16_BallotActs.l1 ((k + 2 + l.length + 1) + d + 1) l a n ((l.take i).map conv) i = some true := by
  intro d
  induction d with
  | zero =>
    intro k i hi
    obtain rfl : i = l.length := by omega
    have hp := pick_run l hl l.length (k + 2) 0 (by omega)
    obtain ⟨x, y, g1, g2⟩ := number_same (k + l.length + 1) a n h0 h1 h2 h3
    obtain ⟨u, v, z, e1, e2⟩ := owner_same a
    simp only [conventiclelaw16_BallotActs.l1]
    rw [if_neg (by omega), List.take_length]
    simp only [ballot_Pick.f, Option.bind_some, conventicleref16_Pick.f]
    rw [show conventicleref16_Pick.l0 (k + 2 + l.length + 1 + 0) (l.map conv) 0 0 0 0 = _ from hp, g1, show k + 2 + l.length + 1 + 0 = k + l.length + 1 + 2 by omega, g2, e1, e2, is_same]
    simp
  | succ d ih =>
    intro k i hi
    show conventiclelaw16_BallotActs.l1 (((k + 2 + l.length + 1) + d + 1) + 1) l a n ((l.take i).map conv) i = some true
    simp only [conventiclelaw16_BallotActs.l1]
    rw [if_pos (by omega), if_pos (by omega)]
    simp only [conventiclelaw16_theirs.f, Option.bind_some]
    rw [if_pos (by simp; omega), wrap_up (by omega) (by omega)]
    have h := ih k (i + 1) (by omega)
    rw [← take_conv l i (by omega)] at h
    exact h

theorem BallotActs : conventiclelaw16_BallotActs.Pure := by
  intro x0 x1 a n _ _ ha hn
  have hab : 0 ≤ a ∧ a < 18446744073709551616 := by
    simp [Lit.wf, IntKind.min, IntKind.max, IntKind.signed, IntKind.bits] at ha; omega
  have hnb : -9223372036854775808 ≤ n ∧ n < 9223372036854775808 := by
    simp [Lit.wf, IntKind.min, IntKind.max, IntKind.signed, IntKind.bits] at hn; omega
  by_cases hl : (x0.length : Int) > 200
  · refine ⟨1, ?_⟩
    unfold conventiclelaw16_BallotActs.f
    rw [if_pos hl]
    rfl
  · by_cases hl1 : (x1.length : Int) > 100
    · refine ⟨1, ?_⟩
      unfold conventiclelaw16_BallotActs.f
      rw [if_neg hl, if_pos hl1]
      rfl
    · refine ⟨((0 + 2 + x1.length + 1) + x1.length + 1) + 2 * x0.length + 1 + 1, ?_⟩
      unfold conventiclelaw16_BallotActs.f
      rw [if_neg hl, if_neg hl1]
      simp only [conventiclelaw16_shown.f, Option.bind_some, conventiclelaw16_BallotActs.j0, Bool.not_true]
      rw [if_neg (by decide)]
      exact (l0_acts x0 (by omega) x1 a n x0.length ((0 + 2 + x1.length + 1) + x1.length + 1) 0 0 0 0 0 (by omega)).trans (l1_acts x1 (by omega) a n hab.1 hab.2 hnb.1 hnb.2 x1.length 0 0 (by omega))
end Go.Proofs.Ytnlppniejeemlaa.Pure
