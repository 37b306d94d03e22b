/- The nodes of a band: the places of its set bits, rising: plain arithmetic. -/
import Derived.Lib.TrailingZeros
namespace Go.Proofs.YtkjjegakfceibaaDoor.Band
open Go

def bandL (c : Nat) : List Int := ((List.range 64).filter (fun i => c.testBit i)).map Int.ofNat
theorem filter_first (p : Nat → Bool) (k : Nat) (hp : p k = true) (hb : ∀ i < k, p i = false) : ∀ n, k < n → (List.range n).filter p = k :: (List.range n).filter (fun i => p i && decide (i ≠ k)) := by
  have h0 : ∀ n, n ≤ k → (List.range n).filter p = [] := by
    intro n hn
    rw [List.filter_eq_nil_iff]
    intro i hi
    rw [List.mem_range] at hi
    rw [hb i (by omega)]
    decide
  have h1 : ∀ n, n ≤ k → (List.range n).filter (fun i => p i && decide (i ≠ k)) = [] := by
    intro n hn
    rw [List.filter_eq_nil_iff]
    intro i hi
    rw [List.mem_range] at hi
    rw [hb i (by omega)]
    simp
  intro n
  induction n with
  | zero => intro h; omega
  | succ n ih =>
    intro hk
    rw [List.range_succ, List.filter_append, List.filter_append]
    by_cases e : k = n
    · subst e
      rw [h0 k (Nat.le_refl _), h1 k (Nat.le_refl _)]
      simp [hp]
    · rw [ih (by omega)]
      have : (p n && decide (n ≠ k)) = p n := by
        rw [decide_eq_true (show n ≠ k from fun h => e h.symm), Bool.and_true]
      rw [List.cons_append]
      congr 2
      rw [List.filter_cons, List.filter_cons, this]
      rfl
/-- what is left with the lowest bit off -/
theorem low_off (c k m : Nat) (hc : c = 2 ^ k * (2 * m + 1)) (i : Nat) : (c &&& (c - 1)).testBit i = (c.testBit i && decide (i ≠ k)) := by
  have e1 : c - 1 = 2 ^ k * (2 * m) + (2 ^ k - 1) := by
    have := Nat.two_pow_pos k
    rw [hc, Nat.mul_add, Nat.mul_one]; omega
  have e2 : c = 2 ^ k * (2 * m + 1) + 0 := by rw [Nat.add_zero]; exact hc
  have hlt : 2 ^ k - 1 < 2 ^ k := by have := Nat.two_pow_pos k; omega
  rw [Nat.testBit_and, e1]
  conv => lhs; rw [e2]
  conv => rhs; rw [e2]
  rw [Nat.testBit_two_pow_mul_add _ (Nat.two_pow_pos k), Nat.testBit_two_pow_mul_add _ hlt]
  by_cases h : i < k
  · rw [if_pos h, if_pos h]
    simp
  · rw [if_neg h, if_neg h]
    by_cases e : i = k
    · subst e
      simp
    · obtain ⟨j, rfl⟩ : ∃ j, i = k + (j + 1) := ⟨i - k - 1, by omega⟩
      have e3 : k + (j + 1) - k = j + 1 := by omega
      rw [e3, Nat.testBit_succ, Nat.testBit_succ]
      have d1 : (2 * m + 1) / 2 = m := by omega
      have d2 : (2 * m) / 2 = m := by omega
      rw [d1, d2]
      have : decide (k + (j + 1) ≠ k) = true := by simp
      rw [this]
      simp
theorem ctz_spec (c : Nat) (h0 : c ≠ 0) (hc : c < 18446744073709551616) : ∃ m, c = 2 ^ Lib.ctz 64 c * (2 * m + 1) ∧ Lib.ctz 64 c < 64 := by
  unfold Lib.ctz
  rw [if_neg h0]
  exact Lib.ctzFrom_spec 64 c (by omega) hc
theorem ctz_bit (c : Nat) (h0 : c ≠ 0) (hc : c < 18446744073709551616) : c.testBit (Lib.ctz 64 c) = true ∧ ∀ i < Lib.ctz 64 c, c.testBit i = false := by
  obtain ⟨m, hm, hk⟩ := ctz_spec c h0 hc
  obtain ⟨k, hk'⟩ : ∃ k, k = Lib.ctz 64 c := ⟨_, rfl⟩
  rw [← hk'] at hm hk ⊢
  have e2 : c = 2 ^ k * (2 * m + 1) + 0 := by rw [Nat.add_zero]; exact hm
  rw [e2]
  refine ⟨?_, fun i hi => ?_⟩
  · rw [Nat.testBit_two_pow_mul_add _ (Nat.two_pow_pos k), if_neg (Nat.lt_irrefl _)]
    simp
  · rw [Nat.testBit_two_pow_mul_add _ (Nat.two_pow_pos k), if_pos hi]
    simp
theorem bandL_zero : bandL 0 = [] := by
  unfold bandL
  simp
theorem bandL_step (c : Nat) (h0 : c ≠ 0) (hc : c < 18446744073709551616) : bandL c = (Lib.ctz 64 c : Int) :: bandL (c &&& (c - 1)) := by
  obtain ⟨m, hm, hk⟩ := ctz_spec c h0 hc
  obtain ⟨hb, hl⟩ := ctz_bit c h0 hc
  unfold bandL
  rw [filter_first (fun i => c.testBit i) (Lib.ctz 64 c) hb hl 64 hk]
  simp only [List.map_cons]
  congr 1
  congr 1
  apply List.filter_congr
  intro i _
  rw [low_off c _ m hm i]
theorem low_lt (c : Nat) (h0 : c ≠ 0) : c &&& (c - 1) < c := by
  have := Nat.and_le_right (n := c) (m := c - 1)
  omega
theorem bandL_length (c : Nat) : (bandL c).length ≤ 64 := by
  unfold bandL
  rw [List.length_map]
  have := List.length_filter_le (fun i => c.testBit i) (List.range 64)
  rwa [List.length_range] at this
end Go.Proofs.YtkjjegakfceibaaDoor.Band
