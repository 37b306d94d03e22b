/- RealBits, by hand: a number has so many bits that it is below that power of two, and not below the one ahead. -/
import Derived.Test.YtbgpdofbnifapaaShown
import Derived.Laws.MathBits
namespace Go.Proofs.Ytbgpdofbnifapaa.R
open Go.RowKit Go.Proofs.YtbgpdofbnifapaaW.PrintWords Go.Proofs.YtbgpdofbnifapaaW.PrintLast Go.Proofs.YtbgpdofbnifapaaW.PrintMore

theorem len_spec : ∀ (f n : Nat), n < 2 ^ f → f ≤ 64 → n < 2 ^ Lib.bitLen n ∧ (n ≠ 0 → 2 ^ (Lib.bitLen n - 1) ≤ n)
  | 0, n, h, _ => by
    have : n = 0 := by simpa using h
    subst this
    exact ⟨by decide, fun h => absurd rfl h⟩
  | f + 1, n, h, hf => by
    by_cases h0 : n = 0
    · subst h0
      exact ⟨by decide, fun h => absurd rfl h⟩
    · have h64 : n < 2 ^ 64 := Nat.lt_of_lt_of_le h (Nat.pow_le_pow_right (by decide) hf)
      have hh := Lib.bitLen_half n h0 h64
      have h2 : n / 2 < 2 ^ f := by rw [Nat.pow_succ] at h; omega
      obtain ⟨i1, i2⟩ := len_spec f (n / 2) h2 (by omega)
      rw [hh]
      obtain ⟨b, hb⟩ : ∃ b, b = Lib.bitLen (n / 2) := ⟨_, rfl⟩
      rw [← hb] at i1 i2 ⊢
      refine ⟨by rw [Nat.add_comm, Nat.pow_succ]; omega, fun _ => ?_⟩
      rw [show 1 + b - 1 = b by omega]
      by_cases hz : n / 2 = 0
      · have hb0 : b = 0 := by rw [hb, hz]; decide
        rw [hb0]
        simp
        omega
      · have h3 := i2 hz
        have hb1 : b ≠ 0 := by
          intro e
          rw [e] at i1
          simp at i1
          omega
        obtain ⟨c, rfl⟩ : ∃ c, b = c + 1 := ⟨b - 1, by omega⟩
        rw [Nat.add_sub_cancel] at h3
        rw [Nat.pow_succ]
        omega
set_option maxHeartbeats 1000000 in
theorem bits_walk (n : Nat) (hn : n < 4294967296) (w : World) : Calls Try.prog 4 #[.int .u32 n] w fun e w' => e = .returned (.bool true) ∧ w = w' := by
  have sp := len_spec 32 n (by omega) (by omega)
  obtain ⟨k, hk⟩ : ∃ k, k = Lib.bitLen n := ⟨_, rfl⟩
  have hb : blen (n : Int) = (k : Int) := by unfold blen; rw [if_neg (by omega), hk, Int.toNat_natCast]
  have hneg : blen (-(n : Int) - 1) = 0 := by unfold blen; rw [if_pos (by omega)]; rfl
  have H1 := Aside0.mk (fun w => hb ▸ bits_at (n : Int) (by omega) (by omega) w)
  have H2 := Aside0.mk (fun w => hneg ▸ bits_at (-(n : Int) - 1) (by omega) (by omega) w)
  have HS := Aside0.mk shown_at
  rw [← hk] at sp
  have hk32 : k ≤ 32 := by
    rcases Nat.lt_or_ge 32 k with h | h
    · have h0 : n ≠ 0 := by
        intro h0
        subst h0
        have : k = 0 := by rw [hk]; rfl
        omega
      have h2 := sp.2 h0
      have : 2 ^ 32 ≤ 2 ^ (k - 1) := Nat.pow_le_pow_right (by decide) (by omega)
      omega
    · exact h
  have HZ0 := Aside0.mk (show n = 0 → k = 0 from fun h => by rw [hk, h]; rfl)
  clear hb hneg hk
  have hp : (2 : Int) ^ k = ((2 ^ k : Nat) : Int) := by simp
  have hpl : 2 ^ k ≤ 2 ^ 32 := Nat.pow_le_pow_right (by decide) hk32
  have hlt : (n : Int) < (2 : Int) ^ k := by rw [hp]; omega
  have hmod : (2 : Int) ^ k % 18446744073709551616 = (2 : Int) ^ k := by rw [hp]; omega
  have HP := Aside0.mk hp
  by_cases h0 : k = 0
  · subst h0
    have hn0 : n = 0 := by have := sp.1; omega
    subst hn0
    clear sp hpl hp H1 H2 HP HZ0 hlt hmod
    have z1 : blen 0 = 0 := by decide
    have z2 : blen (-1) = 0 := by decide
    have H1 := Aside0.mk (fun w => z1 ▸ bits_at 0 (by omega) (by omega) w)
    have H2 := Aside0.mk (fun w => z2 ▸ bits_at (-1) (by omega) (by omega) w)
    clear z1 z2
    show Calls Try.prog 4 #[.int .u32 0] w _
    go_enter Try.func4, Try.ntmps4
    go_wp2_with (first
      | (go_at_call 16; (with_reducible refine (H1.out _).mono ?_); rintro e w' ⟨rfl, rfl⟩)
      | (go_at_call 16; (with_reducible refine (H2.out _).mono ?_); rintro e w' ⟨rfl, rfl⟩)
      | (go_at_call 14; (with_reducible refine (HS.out _).mono ?_); rintro e w' ⟨rfl, rfl⟩))
    go_ret
    exact ⟨rfl, rfl⟩
  · have hk1 : (1 : Int) ≤ (k : Int) := by omega
    have hn0 : n ≠ 0 := by
      intro hz
      have := HZ0.out hz
      omega
    have h2 := sp.2 hn0
    obtain ⟨j, rfl⟩ : ∃ j, k = j + 1 := ⟨k - 1, by omega⟩
    simp only [Nat.add_sub_cancel] at h2
    have hq : (2 : Int) ^ j = ((2 ^ j : Nat) : Int) := by simp
    have hql : 2 ^ j ≤ 2 ^ 32 := Nat.pow_le_pow_right (by decide) (by omega)
    have hge : (2 : Int) ^ j ≤ (n : Int) := by rw [hq]; omega
    have hqm : (2 : Int) ^ j % 18446744073709551616 = (2 : Int) ^ j := by rw [hq]; omega
    clear sp hpl hp hql h2 hn0 hq
    go_enter Try.func4, Try.ntmps4
    go_wp2_with (first
      | (go_at_call 16; (with_reducible refine (H1.out _).mono ?_); rintro e w' ⟨rfl, rfl⟩)
      | (go_at_call 16; (with_reducible refine (H2.out _).mono ?_); rintro e w' ⟨rfl, rfl⟩)
      | (go_at_call 14; (with_reducible refine (HS.out _).mono ?_); rintro e w' ⟨rfl, rfl⟩))
    go_ret
    exact ⟨rfl, rfl⟩
theorem bits_law (n : Int) (w : World) (hn : (Lit.int .u32 n).wf = true) : Calls Try.prog 4 #[.int .u32 n] w fun e w' => e = .returned (.bool true) ∧ Below w.heap.size w w' := by
  have n0 : 0 ≤ n ∧ n < 4294967296 := by
    simp [Lit.wf, IntKind.min, IntKind.max, IntKind.signed, IntKind.bits] at hn; omega
  obtain ⟨N, rfl⟩ := Int.eq_ofNat_of_zero_le n0.1
  refine (bits_walk N (by omega) w).mono ?_
  rintro e w' ⟨rfl, rfl⟩
  exact ⟨rfl, Below.refl _ _⟩
end Go.Proofs.Ytbgpdofbnifapaa.R
