/- What is picked is of a promise that has something, and none has it at a greater ballot: for every list of promises that can be read. -/
import Derived.Test.YtnlppniejeemlaaB7
namespace Go.Proofs.Ytnlppniejeemlaa.Pure
open Go.RowKit Go.Proofs.Ytnlppniejeemlaa.B Go.Proofs.YtnlppniejeemlaaW.PrintWords Go.Proofs.YtnlppniejeemlaaW.PrintLast

theorem wrap_up {i : Int} (h0 : 0 ≤ i) (h : i ≤ 9223372036854775806) : wrap64 (i + 1) = i + 1 := by
  unfold wrap64; omega
/-- the greatest ballot of the first i -/
def top (l : List S29) (i : Nat) : Int := (l.take i).foldl (fun m p => mx m p.f0) 0
theorem top_succ (l : List S29) (i : Nat) (h : i < l.length) : top l (i + 1) = mx (top l i) (rd_T29 l i).f0 := by
  unfold top
  rw [List.take_succ_eq_append_getElem h, List.foldl_append]
  simp [rd_T29, List.getD, List.getElem?_eq_getElem h]
theorem best_f0 (l : List S29) (i : Nat) (h : i ≤ l.length) : (bestOf (l.take i)).f0 = top l i := by
  induction i with
  | zero => rfl
  | succ i ih =>
    rw [bestOf_take l i h, top_succ l i h, ← ih (by omega)]
    unfold better mx
    split <;> first | rfl | (split <;> omega) | omega
/-- the best of the first i is none, or the first one that has the greatest ballot -/
theorem best_is (l : List S29) (i : Nat) (h : i ≤ l.length) : (bestOf (l.take i) = z29 ∧ top l i = 0) ∨ ∃ p : Nat, p < i ∧ bestOf (l.take i) = rd_T29 l p ∧ 0 < top l i ∧ ∀ q : Nat, q < p → (rd_T29 l q).f0 < top l i := by
  induction i with
  | zero => exact .inl ⟨rfl, rfl⟩
  | succ i ih =>
    have hb := best_f0 l i (by omega)
    have hs := best_f0 l (i + 1) h
    rw [bestOf_take l i h] at hs ⊢
    unfold better at hs ⊢
    by_cases hc : (bestOf (l.take i)).f0 < (rd_T29 l i).f0
    · rw [if_pos hc] at hs ⊢
      have h0 : 0 ≤ top l i := by
        rcases ih (by omega) with ⟨_, h⟩ | ⟨_, _, _, h, _⟩ <;> omega
      refine .inr ⟨i, by omega, rfl, by omega, fun q hq => ?_⟩
      have hq' : (rd_T29 l q).f0 ≤ top l i := by
        have : ∀ j : Nat, q < j → j ≤ i → (rd_T29 l q).f0 ≤ top l j := by
          intro j hj hji
          induction j with
          | zero => omega
          | succ j ihj =>
            rw [top_succ l j (by omega)]
            rcases Nat.lt_or_ge q j with hqj | hqj
            · have := ihj hqj (by omega)
              unfold mx; split <;> omega
            · obtain rfl : q = j := by omega
              unfold mx; split <;> omega
        exact this i hq (Nat.le_refl _)
      omega
    · rw [if_neg hc] at hs ⊢
      rw [← hs, hb]
      rcases ih (by omega) with ⟨h1, h2⟩ | ⟨p, h1, h2, h3, h4⟩
      · exact .inl ⟨h1, h2⟩
      · exact .inr ⟨p, by omega, h2, h3, h4⟩
theorem top_ge (l : List S29) (q : Nat) (n : Nat) (hq : q < n) (hn : n ≤ l.length) : (rd_T29 l q).f0 ≤ top l n := by
  induction n with
  | zero => omega
  | succ n ih =>
    rw [top_succ l n (by omega)]
    rcases Nat.lt_or_ge q n with h | h
    · have := ih h (by omega)
      unfold mx; split <;> omega
    · obtain rfl : q = n := by omega
      unfold mx; split <;> omega

theorem l0_run (l : List S29) (hl : l.length ≤ 100) (x : Bool) (a b : Int) : ∀ (d k i : Nat), i + d = l.length →
    conventiclelaw16_BallotPicks.l0 (k + d + 1) l x (top l i) i a b = (if top l l.length = 0 then (if x = true then none else some (a == 0 && (b == 0))) else conventiclelaw16_BallotPicks.l1 k l x (top l l.length) 0 a b) := by
  intro d
  induction d with
  | zero =>
    intro k i hi
    obtain rfl : i = l.length := by omega
    simp only [conventiclelaw16_BallotPicks.l0]
    rw [if_neg (by omega)]
  | succ d ih =>
    intro k i hi
    show conventiclelaw16_BallotPicks.l0 ((k + d + 1) + 1) l x (top l i) i a b = _
    simp only [conventiclelaw16_BallotPicks.l0]
    rw [if_pos (by omega), if_pos (by omega), wrap_up (by omega) (by omega), ← top_succ l i (by omega)]
    exact ih k (i + 1) (by omega)
theorem l1_run (l : List S29) (hl : l.length ≤ 100) (x : Bool) (M a b : Int) (p : Nat) (hp : p < l.length) (hM : (rd_T29 l p).f0 = M) (hne : ∀ q : Nat, q < p → (rd_T29 l q).f0 ≠ M) : ∀ (d k i : Nat), i + d = p →
    conventiclelaw16_BallotPicks.l1 (k + d + 1) l x M i a b = (if x = true then some (a == (rd_T29 l p).f1.f0 && (b == (rd_T29 l p).f1.f1)) else none) := by
  intro d
  induction d with
  | zero =>
    intro k i hi
    obtain rfl : i = p := by omega
    simp only [conventiclelaw16_BallotPicks.l1]
    rw [if_pos (by omega), if_pos (by omega), if_pos hM]
  | succ d ih =>
    intro k i hi
    show conventiclelaw16_BallotPicks.l1 ((k + d + 1) + 1) l x M i a b = _
    simp only [conventiclelaw16_BallotPicks.l1]
    rw [if_pos (by omega), if_pos (by omega), if_neg (hne i (by omega)), wrap_up (by omega) (by omega)]
    exact ih k (i + 1) (by omega)

theorem BallotPicks : conventiclelaw16_BallotPicks.Pure := by
  intro l _
  by_cases hl : (l.length : Int) > 100
  · refine ⟨1, ?_⟩
    unfold conventiclelaw16_BallotPicks.f
    rw [if_pos hl]
    simp only [conventiclelaw16_BallotPicks.j0]
    rfl
  · have hl' : l.length ≤ 100 := by omega
    have hb := best_is l l.length (Nat.le_refl _)
    rw [List.take_length] at hb
    rcases hb with ⟨hb, ht⟩ | ⟨p, hp, hb, ht, hq⟩
    · refine ⟨0 + l.length + 1 + 1, ?_⟩
      unfold conventiclelaw16_BallotPicks.f
      rw [if_neg hl]
      simp only [conventiclelaw16_shown.f, Option.bind_some, conventiclelaw16_BallotPicks.j0, ballot_Pick.f, Bool.not_true]
      rw [if_neg (by decide)]
      have := l0_run l hl' (!((bestOf l).f0 == 0) || ((!((bestOf l).f1.f0 == 0) || (!((bestOf l).f1.f1 == 0))))) ((bestOf l).f1.f0) ((bestOf l).f1.f1) l.length 0 0 (by omega)
      rw [show top l 0 = 0 from rfl] at this
      rw [show ((0 : Nat) : Int) = 0 from rfl] at this
      rw [this, if_pos ht, hb]
      rfl
    · have hf := best_f0 l l.length (Nat.le_refl _)
      rw [List.take_length] at hf
      have hM : (rd_T29 l p).f0 = top l l.length := by rw [← hb, hf]
      refine ⟨(0 + p + 1) + l.length + 1 + 1, ?_⟩
      unfold conventiclelaw16_BallotPicks.f
      rw [if_neg hl]
      simp only [conventiclelaw16_shown.f, Option.bind_some, conventiclelaw16_BallotPicks.j0, ballot_Pick.f, Bool.not_true]
      rw [if_neg (by decide)]
      have := l0_run l hl' (!((bestOf l).f0 == 0) || ((!((bestOf l).f1.f0 == 0) || (!((bestOf l).f1.f1 == 0))))) ((bestOf l).f1.f0) ((bestOf l).f1.f1) l.length (0 + p + 1) 0 (by omega)
      rw [show top l 0 = 0 from rfl] at this
      rw [show ((0 : Nat) : Int) = 0 from rfl] at this
      rw [this, if_neg (by omega)]
      have h1 := l1_run l hl' (!((bestOf l).f0 == 0) || ((!((bestOf l).f1.f0 == 0) || (!((bestOf l).f1.f1 == 0))))) (top l l.length) ((bestOf l).f1.f0) ((bestOf l).f1.f1) p hp hM (fun q hqp => by have := hq q hqp; omega) p 0 0 (by omega)
      rw [show ((0 : Nat) : Int) = 0 from rfl] at h1
      have hx : (!((bestOf l).f0 == 0) || ((!((bestOf l).f1.f0 == 0) || (!((bestOf l).f1.f1 == 0))))) = true := by
        have : ¬ (bestOf l).f0 = 0 := by omega
        simp [this]
      rw [h1, if_pos hx, hb]
      simp
end Go.Proofs.Ytnlppniejeemlaa.Pure
