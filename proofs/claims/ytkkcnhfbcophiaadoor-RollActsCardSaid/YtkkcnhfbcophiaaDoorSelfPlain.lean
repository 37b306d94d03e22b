/- What a roll knows of itself, and another one of it: plain Lean. -/
import Derived.Test.YtkkcnhfbcophiaaDoorHearR
set_option linter.unusedVariables false
namespace Go.Proofs.YtkkcnhfbcophiaaDoor.Pure
open Go.RowKit Go.Proofs.YtkkcnhfbcophiaaDoor.B Go.Proofs.YtkkcnhfbcophiaaDoor.Band Go.Proofs.YtkkcnhfbcophiaaDoorW.PrintWords Go.Proofs.YtkkcnhfbcophiaaDoorW.PrintLast

/-- a roll of k that says of itself: Alive, with incarnation i -/
structure RInv (R : RollS) (k : Nat) (i : Int) : Prop where
  ok : OkR R
  me : R.me = k
  mine : R.K k = ⟨k, i, 0⟩
/-- a roll of o that knows of k no more than k says -/
structure SInv (S : RollS) (o k : Nat) (i : Int) : Prop where
  ok : OkR S
  me : S.me = o
  old : hasN S.has k = true → (S.K k).f0 = k ∧ newer (S.K k).f1 (S.K k).f2 i 0 = false
theorem newer_le {a s i j : Int} (h : newer a s i 0 = false) (hij : i ≤ j) : newer a s j 0 = false := by
  have := newer_not.1 h
  exact newer_not.2 (by omega)
theorem put_K (R : RollS) (u : S31) (n : Nat) : (R.put u).K n = if n = u.f0.toNat then u else R.K n := rfl
theorem hasN_put (R : RollS) (u : S31) (n : Nat) (hn : n < 64) : hasN (R.put u).has n = (hasN R.has n || decide (u.f0 = n)) := by
  unfold hasN RollS.put
  dsimp only
  rw [Int.toNat_natCast, Nat.testBit_or, bitN_bit, decide_eq_true (show (0 : Int) ≤ (n : Int) ∧ (n : Int) ≤ 63 by omega), Bool.true_and, Bool.true_and]
  congr 1
  rw [decide_eq_decide]
  omega
/-- k hears of anything -/
theorem self_hears {R : RollS} {k : Nat} {i : Int} (h : RInv R k i) (hk : k < 64) (u : S31) (hu : OkU u) {R1 : RollS} {b : Bool} {e : Int} (he : hearR R u = (R1, b, e)) :
    ∃ i1, i ≤ i1 ∧ RInv R1 k i1 ∧ (e = 60 ∨ (mayS u = true → u.f0 = k → newer u.f1 u.f2 i1 0 = false)) := by
  have hok := h.ok.hear u hu
  rw [he] at hok
  unfold hearR at he
  rw [h.me, Int.toNat_natCast, h.mine] at he
  dsimp only at he
  by_cases hm : mayS u = true
  · rw [if_pos hm] at he
    by_cases hf : u.f0 = (k : Int)
    · rw [if_pos hf] at he
      by_cases hn : newer u.f1 u.f2 i 0 = true
      · by_cases hx : u.f1 = 18446744073709551615
        · have hr : refute (k : Int) i u.f0 u.f1 u.f2 = (i, false, 60) := by unfold refute; rw [if_pos ⟨hm, hf, hn⟩, if_pos hx]
          rw [hr] at he
          dsimp only at he
          rw [if_neg (by decide)] at he
          simp only [Prod.mk.injEq] at he
          obtain ⟨rfl, -, rfl⟩ := he
          exact ⟨i, Int.le_refl _, h, .inl rfl⟩
        · have hr : refute (k : Int) i u.f0 u.f1 u.f2 = (u.f1 + 1, true, 0) := by unfold refute; rw [if_pos ⟨hm, hf, hn⟩, if_neg hx]
          rw [hr] at he
          dsimp only at he
          rw [if_pos rfl, if_pos rfl] at he
          simp only [Prod.mk.injEq] at he
          obtain ⟨rfl, -, rfl⟩ := he
          have h1 := newer_iff.1 hn
          refine ⟨u.f1 + 1, by omega, ⟨hok, h.me, ?_⟩, .inr (fun _ _ => newer_not.2 (by omega))⟩
          rw [put_K, if_pos (by simp)]
      · have hr : refute (k : Int) i u.f0 u.f1 u.f2 = (i, false, 0) := by unfold refute; rw [if_neg (fun hc => hn hc.2.2)]
        rw [hr] at he
        dsimp only at he
        rw [if_pos rfl, if_neg (by decide)] at he
        simp only [Prod.mk.injEq] at he
        obtain ⟨rfl, -, rfl⟩ := he
        exact ⟨i, Int.le_refl _, h, .inr (fun _ _ => by simpa using hn)⟩
    · rw [if_neg hf] at he
      have hno : ∀ j : Int, mayS u = true → u.f0 = (k : Int) → newer u.f1 u.f2 j 0 = false := fun _ _ h2 => absurd h2 hf
      split at he
      · simp only [Prod.mk.injEq] at he
        obtain ⟨rfl, -, rfl⟩ := he
        exact ⟨i, Int.le_refl _, h, .inr (hno _)⟩
      · simp only [Prod.mk.injEq] at he
        obtain ⟨rfl, -, rfl⟩ := he
        obtain ⟨n, hn, _⟩ := may_node hm
        refine ⟨i, Int.le_refl _, ⟨hok, h.me, ?_⟩, .inr (hno _)⟩
        rw [put_K, if_neg (by rw [hn, Int.toNat_natCast]; omega)]
        exact h.mine
  · rw [if_neg hm] at he
    simp only [Prod.mk.injEq] at he
    obtain ⟨rfl, -, rfl⟩ := he
    exact ⟨i, Int.le_refl _, h, .inr (fun h2 => absurd h2 hm)⟩
/-- another one hears of anything -/
theorem other_hears {S : RollS} {o k : Nat} {i i1 : Int} (h : SInv S o k i) (hok0 : o ≠ k) (ho : o < 64) (hk : k < 64) (u : S31) (hu : OkU u) (hi : i ≤ i1) (hq : mayS u = true → u.f0 = k → newer u.f1 u.f2 i1 0 = false) {S1 : RollS} {b : Bool} {e : Int} (he : hearR S u = (S1, b, e)) :
    SInv S1 o k i1 := by
  have hok := h.ok.hear u hu
  rw [he] at hok
  have hold : hasN S.has k = true → (S.K k).f0 = k ∧ newer (S.K k).f1 (S.K k).f2 i1 0 = false := fun h2 => ⟨(h.old h2).1, newer_le (h.old h2).2 hi⟩
  have same : SInv S o k i1 := ⟨h.ok, h.me, hold⟩
  have far : ∀ v : S31, OkR (S.put v) → v.f0 ≠ k → (∃ n : Nat, v.f0 = n) → SInv (S.put v) o k i1 := by
    intro v hv hvk ⟨n, hn⟩
    refine ⟨hv, h.me, fun h2 => ?_⟩
    rw [hasN_put S v k hk, decide_eq_false hvk, Bool.or_false] at h2
    rw [put_K, if_neg (by rw [hn, Int.toNat_natCast]; omega)]
    exact hold h2
  unfold hearR at he
  by_cases hm : mayS u = true
  · rw [if_pos hm] at he
    obtain ⟨n, hn, _⟩ := may_node hm
    by_cases hf : u.f0 = S.me
    · rw [if_pos hf] at he
      dsimp only at he
      split at he
      · split at he
        · simp only [Prod.mk.injEq] at he
          obtain ⟨rfl, -, rfl⟩ := he
          exact far _ hok (by show S.me ≠ (k : Int); rw [h.me]; omega) ⟨o, h.me⟩
        · simp only [Prod.mk.injEq] at he
          obtain ⟨rfl, -, rfl⟩ := he
          exact same
      · simp only [Prod.mk.injEq] at he
        obtain ⟨rfl, -, rfl⟩ := he
        exact same
    · rw [if_neg hf] at he
      split at he
      · simp only [Prod.mk.injEq] at he
        obtain ⟨rfl, -, rfl⟩ := he
        exact same
      · simp only [Prod.mk.injEq] at he
        obtain ⟨rfl, -, rfl⟩ := he
        by_cases hk2 : u.f0 = (k : Int)
        · refine ⟨hok, h.me, fun _ => ?_⟩
          rw [put_K, if_pos (by rw [hk2, Int.toNat_natCast])]
          exact ⟨hk2, hq hm hk2⟩
        · exact far u hok hk2 ⟨n, hn⟩
  · rw [if_neg hm] at he
    simp only [Prod.mk.injEq] at he
    obtain ⟨rfl, -, rfl⟩ := he
    exact same
/-- another one hears what k says of itself -/
theorem other_hears_it {S : RollS} {o k : Nat} {i : Int} (h : SInv S o k i) (hok0 : o ≠ k) (hk : k < 64) (hi : 0 ≤ i ∧ i ≤ 18446744073709551615) {S1 : RollS} {b : Bool} {e : Int} (he : hearR S ⟨k, i, 0⟩ = (S1, b, e)) :
    SInv S1 o k i ∧ getR S1 k = (⟨k, i, 0⟩, true) := by
  have hok := h.ok.hear ⟨k, i, 0⟩ hi
  rw [he] at hok
  unfold hearR at he
  have hm : mayS ⟨k, i, 0⟩ = true := may_iff.2 (show 0 ≤ (k : Int) ∧ (k : Int) < 64 ∧ (0 : Int) ≤ 0 ∧ (0 : Int) ≤ 3 from by omega)
  rw [if_pos hm, if_neg (by rw [h.me]; show ¬ (k : Int) = o; omega)] at he
  dsimp only at he
  rw [Int.toNat_natCast] at he
  by_cases hc : hasN S.has k = true ∧ newerS ⟨k, i, 0⟩ (S.K k) = false
  · rw [if_pos hc] at he
    simp only [Prod.mk.injEq] at he
    obtain ⟨rfl, -, rfl⟩ := he
    refine ⟨h, ?_⟩
    obtain ⟨h1, h2⟩ := h.old hc.1
    have h3 := newer_not.1 h2
    have h4 := newer_not.1 hc.2
    unfold getR
    rw [if_pos hc.1, Int.toNat_natCast]
    congr 1
    generalize S.K k = x at *
    obtain ⟨x0, x1, x2⟩ := x
    dsimp only at *
    have e1 : x1 = i := by omega
    have e2 : x2 = 0 := by omega
    rw [h1, e1, e2]
  · rw [if_neg hc] at he
    simp only [Prod.mk.injEq] at he
    obtain ⟨rfl, -, rfl⟩ := he
    have hp : hasN (S.put ⟨k, i, 0⟩).has k = true := by rw [hasN_put S _ k hk]; simp
    have hK : (S.put ⟨k, i, 0⟩).K k = ⟨k, i, 0⟩ := by rw [put_K, if_pos (by simp)]
    refine ⟨⟨hok, h.me, fun _ => ?_⟩, ?_⟩
    · rw [hK]
      exact ⟨rfl, newer_not.2 (show ¬ (i < i ∨ i = i ∧ (0 : Int) < 0) from by omega)⟩
    · unfold getR
      rw [if_pos hp, Int.toNat_natCast, hK]
theorem RInv.new (k : Nat) (hk : k < 64) : RInv (newR k) k 0 := ⟨OkR.new k (by omega) (by omega), rfl, by unfold newR; rw [put_K, if_pos (by simp)]⟩
theorem SInv.new (o k : Nat) (ho : o < 64) (hk : k < 64) (hok : o ≠ k) (i : Int) : SInv (newR o) o k i := ⟨OkR.new o (by omega) (by omega), rfl, fun h => by
  unfold newR at h
  rw [hasN_put _ _ k hk] at h
  have h0 : hasN (roll0 (o : Int)).has k = false := by unfold hasN roll0; simp
  rw [h0, decide_eq_false (show ¬ (o : Int) = (k : Int) by omega)] at h
  cases h⟩
theorem RInv.inc {R : RollS} {k : Nat} {i : Int} (h : RInv R k i) : 0 ≤ i ∧ i ≤ 18446744073709551615 := by
  have := h.ok.inc k
  rw [h.mine] at this
  exact this
end Go.Proofs.YtkkcnhfbcophiaaDoor.Pure
