/- By hand: how long is waited, by the document. -/
import Derived.Test.YtbgpdofbnifapaaHeld
import Derived.Test.YtbgpdofbnifapaaRefClean
import Derived.Test.YtbgpdofbnifapaaBitsWalk
namespace Go.Proofs.Ytbgpdofbnifapaa.R
open Go.RowKit Go.Proofs.YtbgpdofbnifapaaW.PrintWords Go.Proofs.YtbgpdofbnifapaaW.PrintLast Go.Proofs.YtbgpdofbnifapaaW.PrintMore

/-- how many bits a number has, as a natural number -/
def bn (n : Int) : Nat := Lib.bitLen (if n < 0 then 0 else n.toNat)
theorem blen_bn (n : Int) : blen n = (bn n : Int) := rfl
theorem bn_le (n : Int) (h : n < 9223372036854775808) : bn n ≤ 63 := by
  unfold bn
  obtain ⟨m, hm⟩ : ∃ m, m = (if n < 0 then 0 else n.toNat) := ⟨_, rfl⟩
  rw [← hm]
  have hmb : m < 2 ^ 63 := by rw [hm]; split <;> omega
  have h1 := len_spec 63 m hmb (by omega)
  rcases Nat.lt_or_ge 63 (Lib.bitLen m) with h2 | h2
  · by_cases h0 : m = 0
    · rw [h0] at h2; exact absurd h2 (by decide)
    · have h3 := h1.2 h0
      have : 2 ^ 63 ≤ 2 ^ (Lib.bitLen m - 1) := Nat.pow_le_pow_right (by decide) (by omega)
      omega
  · exact h2
theorem refbits_at (n : Int) (h1 : n < 9223372036854775808) (w : World) : Calls Try.prog 21 #[.int .i64 n] w fun e w' => e = .returned (.int .i64 (bn n)) ∧ w = w' := by
  have H63 := Aside0.mk (bn_le n h1)
  go_enter Try.func21, Try.ntmps21
  go_wp2
  go_loopw [0, 3] (fun m k wr => ∃ (a : Int) (j : Nat), m = .int .i64 a ∧ k = .int .i64 j ∧ Aside0 (a < 9223372036854775808) ∧ Aside0 (bn a + j = bn n) ∧ w = wr) (fun m _ _ => (intOf m).toNat)
  case atStart => exact ⟨n, 0, rfl, rfl, ⟨h1⟩, ⟨rfl⟩, rfl⟩
  case round =>
    obtain ⟨a, j, rfl, rfl, ha, hs, rfl⟩ := hrel
    by_cases hp : 0 < a
    · have hh : bn a = 1 + bn (a / 2) := by
        obtain ⟨m, rfl⟩ := Int.eq_ofNat_of_zero_le (Int.le_of_lt hp)
        have e := Lib.bitLen_half m (by omega) (by have := ha.out; omega)
        unfold bn
        rw [if_neg (by omega), if_neg (by omega), Int.toNat_natCast, show ((m : Int) / 2).toNat = m / 2 by omega]
        exact e
      have hq : Int.tdiv a 2 = a / 2 := Int.tdiv_eq_ediv_of_nonneg (Int.le_of_lt hp)
      have hj : (j : Int) < 9223372036854775807 := by have := hs.out; have := H63.out; omega
      have hw : wrap64 (a / 2) = a / 2 := by have := ha.out; unfold wrap64; omega
      have hH := Aside0.mk hh
      clear hh h1
      go_wp2
      refine ⟨⟨a / 2, j + 1, by go_num, by go_num, ⟨by have := ha.out; omega⟩, ⟨by have := hs.out; have := hH.out; omega⟩, trivial⟩, by simp [intOf]; omega⟩
    · have hz : bn a = 0 := by
        unfold bn
        have : (if a < 0 then 0 else a.toNat) = 0 := by split <;> omega
        rw [this]; decide
      have hv : j = bn n := by have := hs.out; omega
      have hV := Aside0.mk hv
      clear hv hz hs h1
      go_wp2
      go_ret
      exact ⟨by rw [← hV.out]; rfl, rfl⟩
end Go.Proofs.Ytbgpdofbnifapaa.R
