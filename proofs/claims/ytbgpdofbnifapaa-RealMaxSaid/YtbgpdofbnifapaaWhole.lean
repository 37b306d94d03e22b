/- Doubles made whole, as whole numbers. -/
import Derived.Test.YtbgpdofbnifapaaHeld
namespace Go.Proofs.Ytbgpdofbnifapaa.R
open Ieee
open Flt (val RR RE RR_mono RR_val val_le val_zero B rung low nan num)

theorem cut_zero (neg : Bool) (n drop : Nat) : Toward.zero.cut neg n drop = n / 2 ^ drop := by
  unfold Toward.cut
  simp only [Nat.one_shiftLeft, Bool.toNat_false, Nat.add_zero]
  rcases Nat.lt_or_ge (n.log2 + 2) drop with h | h
  · rw [Nat.min_eq_right (by omega)]
    have hn : n < 2 ^ (n.log2 + 1) := Nat.lt_log2_self
    have h1 : 2 ^ (n.log2 + 1) ≤ 2 ^ (n.log2 + 2) := Nat.pow_le_pow_right (by decide) (by omega)
    have h2 : 2 ^ (n.log2 + 2) ≤ 2 ^ drop := Nat.pow_le_pow_right (by decide) (by omega)
    rw [Nat.div_eq_of_lt (by omega), Nat.div_eq_of_lt (by omega)]
  · rw [Nat.min_eq_left h]
theorem cut_up (n drop : Nat) : Toward.up.cut false n drop = n / 2 ^ drop + (n % 2 ^ drop != 0).toNat := by
  unfold Toward.cut
  simp only [Nat.one_shiftLeft, Bool.not_false, Bool.true_and]
  rcases Nat.lt_or_ge (n.log2 + 2) drop with h | h
  · rw [Nat.min_eq_right (by omega)]
    have hn : n < 2 ^ (n.log2 + 1) := Nat.lt_log2_self
    have h1 : 2 ^ (n.log2 + 1) ≤ 2 ^ (n.log2 + 2) := Nat.pow_le_pow_right (by decide) (by omega)
    have h2 : 2 ^ (n.log2 + 2) ≤ 2 ^ drop := Nat.pow_le_pow_right (by decide) (by omega)
    rw [Nat.div_eq_of_lt (by omega), Nat.div_eq_of_lt (by omega), Nat.mod_eq_of_lt (by omega), Nat.mod_eq_of_lt (by omega)]
  · rw [Nat.min_eq_left h]
/-- the whole number at or above -/
def up (v u : Nat) : Nat := v / u + (v % u != 0).toNat
theorem up_scale (v u c : Nat) (hc : 0 < c) : up (v * c) (u * c) = up v u := by
  unfold up
  rw [Nat.mul_div_mul_right _ _ hc, Nat.mul_mod_mul_right]
  have : (v % u * c != 0) = (v % u != 0) := by
    by_cases z : v % u = 0
    · rw [z, Nat.zero_mul]
    · have h1 : v % u * c ≠ 0 := Nat.mul_ne_zero z (by omega)
      rw [bne_iff_ne.2 h1, bne_iff_ne.2 z]
  rw [this]
theorem up_one (v : Nat) : up v 1 = v := by unfold up; rw [Nat.div_one, Nat.mod_one]; rfl
theorem up_le {v u a : Nat} (h : v ≤ a * u) : up v u ≤ a := by
  unfold up
  have d := Nat.div_add_mod v u
  have q : v / u ≤ a := Nat.div_le_of_le_mul (by rw [Nat.mul_comm]; exact h)
  rcases Nat.lt_or_ge (v / u) a with l | l
  · have := Bool.toNat_le (v % u != 0); omega
  · have e : v / u = a := by omega
    rw [e, Nat.mul_comm] at d
    have z : v % u = 0 := by omega
    rw [z, e]
    exact Nat.le_refl _
theorem le_up {v u : Nat} (hu : 0 < u) : v ≤ up v u * u := by
  unfold up
  have d := Nat.div_add_mod v u
  rw [Nat.add_mul, Nat.mul_comm (v / u)]
  by_cases z : v % u = 0
  · rw [z] at d; omega
  · have e : (v % u != 0).toNat = 1 := by simp [z]
    have := Nat.mod_lt v hu
    rw [e]
    omega
theorem up_mono {v w u : Nat} (hu : 0 < u) (h : v ≤ w) : up v u ≤ up w u := up_le (Nat.le_trans h (le_up hu))
theorem up_pos {v u : Nat} (hu : 0 < u) (h : 0 < v) : 1 ≤ up v u := by
  rcases Nat.eq_zero_or_pos (up v u) with e | e
  · have := le_up (v := v) hu
    rw [e, Nat.zero_mul] at this
    omega
  · exact e
theorem up_pred {v u : Nat} (hu : 0 < u) (h : 0 < v) : (up v u - 1) * u < v := by
  rcases Nat.lt_or_ge ((up v u - 1) * u) v with l | l
  · exact l
  · have := up_le l
    have := up_pos hu h
    omega
theorem U_pos : 0 < U := by rw [U_is]; exact Nat.pow_pos (by decide)
/-- a whole number that is not too great is just that, as a double -/
theorem val_fl (c : Nat) (h : c < 9007199254740992) : val (fl c) = c * U := by
  by_cases h0 : c = 0
  · subst h0; rw [fl_zero, Nat.zero_mul]; rfl
  · have hp : ∀ k, 0 < 2 ^ k := fun k => Nat.pow_pos (by decide)
    have hl : Nat.log2 c ≤ 52 := by
      have : Nat.log2 c < 53 := (Nat.log2_lt h0).2 (by omega)
      omega
    have l1 := Nat.log2_self_le h0
    have l2 : c < 2 ^ (Nat.log2 c + 1) := Nat.lt_log2_self
    obtain ⟨z, hz⟩ : ∃ z, z = Nat.log2 c := ⟨_, rfl⟩
    rw [← hz] at hl l1 l2
    obtain ⟨e, he⟩ : ∃ e, e = z + K1 - 52 := ⟨_, rfl⟩
    have hK := K1_is
    have ht : Flt.top (c * U) 1 0 = e := by
      unfold Flt.top
      rw [Nat.div_one, U_is, Flt.log2_two_pow_mul c K1 h0, ← hz]
      omega
    have hU : c * U = c * 2 ^ (52 - z) * 2 ^ e := by rw [U_is, Nat.mul_assoc, ← Nat.pow_add]; congr 2; omega
    have hr : fl c = e * B + c * 2 ^ (52 - z) := by
      unfold fl RR
      rw [ht, hU, Nat.one_mul, Flt.RE_mul _ _ (hp e), Nat.sub_zero]
    have b1 : B ≤ c * 2 ^ (52 - z) := by
      have h1 : 2 ^ z * 2 ^ (52 - z) ≤ c * 2 ^ (52 - z) := Nat.mul_le_mul_right _ l1
      rw [← Nat.pow_add, show z + (52 - z) = 52 by omega] at h1
      exact h1
    have b2 : c * 2 ^ (52 - z) < 2 * B := by
      have h1 : c * 2 ^ (52 - z) < 2 ^ (z + 1) * 2 ^ (52 - z) := Nat.mul_lt_mul_of_pos_right l2 (hp _)
      rw [← Nat.pow_add, show z + 1 + (52 - z) = 53 by omega] at h1
      exact h1
    obtain ⟨y, hy⟩ : ∃ y, y = c * 2 ^ (52 - z) := ⟨_, rfl⟩
    rw [← hy] at b1 b2 hr hU
    have e1 : fl c = (e + 1) * B + (y - B) := by rw [hr, Nat.add_mul, Nat.one_mul]; omega
    have hs := Flt.val_step (e + 1) (fl c) (by omega) (by rw [e1]; omega) (by rw [e1, Nat.add_mul (e + 1)]; omega)
    rw [hs, e1, Nat.add_sub_cancel_left, Nat.add_sub_cancel, show B + (y - B) = y by omega, hU]
theorem integral_up (r : Nat) (h : r < Flt.inf) : (double.read r).integral .up = .number false (up (val r) U) 0 := by
  have pr := Flt.rung_low r (by omega)
  obtain ⟨m, e, ex, vx⟩ := Flt.read_fin r (by rw [pr.1]; exact h)
  rw [pr.1] at vx
  rw [pr.2] at ex
  rw [ex]
  have hK := K1_is
  show Datum.number false (Toward.up.cut false (m <<< (double.leastPlace + (e : Int)).toNat) (-(double.leastPlace + (e : Int))).toNat) 0 = _
  congr 1
  rw [cut_up, Flt.L_is, Nat.shiftLeft_eq, ← vx, U_is]
  have hp : ∀ k, 0 < 2 ^ k := fun k => Nat.pow_pos (by decide)
  rcases Nat.lt_or_ge e 1074 with c | c
  · rw [show (-1074 + (e : Int)).toNat = 0 by omega, show (-(-1074 + (e : Int))).toNat = K1 - e by omega, Nat.pow_zero, Nat.mul_one,
      show 2 ^ K1 = 2 ^ (K1 - e) * 2 ^ e by rw [← Nat.pow_add]; congr 1; omega, up_scale _ _ _ (hp e)]
    rfl
  · rw [show (-1074 + (e : Int)).toNat = e - K1 by omega, show (-(-1074 + (e : Int))).toNat = 0 by omega]
    have e1 : m * 2 ^ e = m * 2 ^ (e - K1) * 2 ^ K1 := by rw [Nat.mul_assoc, ← Nat.pow_add]; congr 2; omega
    have e2 := up_scale (m * 2 ^ (e - K1)) 1 (2 ^ K1) (hp K1)
    rw [Nat.one_mul] at e2
    rw [e1, e2]
    rfl
theorem integral_zero (r : Nat) (h : r < Flt.inf) : (double.read r).integral .zero = .number false (val r / U) 0 := by
  have pr := Flt.rung_low r (by omega)
  obtain ⟨m, e, ex, vx⟩ := Flt.read_fin r (by rw [pr.1]; exact h)
  rw [pr.1] at vx
  rw [pr.2] at ex
  rw [ex]
  have hK := K1_is
  show Datum.number false (Toward.zero.cut false (m <<< (double.leastPlace + (e : Int)).toNat) (-(double.leastPlace + (e : Int))).toNat) 0 = _
  congr 1
  rw [cut_zero, Flt.L_is, Nat.shiftLeft_eq, ← vx, U_is]
  have hp : ∀ k, 0 < 2 ^ k := fun k => Nat.pow_pos (by decide)
  rcases Nat.lt_or_ge e 1074 with c | c
  · rw [show (-1074 + (e : Int)).toNat = 0 by omega, show (-(-1074 + (e : Int))).toNat = K1 - e by omega, Nat.pow_zero, Nat.mul_one,
      show 2 ^ K1 = 2 ^ (K1 - e) * 2 ^ e by rw [← Nat.pow_add]; congr 1; omega, Nat.mul_div_mul_right _ _ (hp e)]
  · rw [show (-1074 + (e : Int)).toNat = e - K1 by omega, show (-(-1074 + (e : Int))).toNat = 0 by omega]
    have e1 : m * 2 ^ e = m * 2 ^ (e - K1) * 2 ^ K1 := by rw [Nat.mul_assoc, ← Nat.pow_add]; congr 2; omega
    rw [e1, Nat.mul_div_cancel _ (hp K1), Nat.pow_zero, Nat.div_one]
theorem write_whole (c : Nat) (h : c < 9223372036854775808) : FloatKind.f64.encode (.number false c 0) = fl c := by
  have h1 := Flt.nearest_is false c K1 0 0 (by rw [Flt.L_is, K1_is]; omega)
  rw [← U_is] at h1
  show double.nearest false c 0 = _
  rw [h1, Flt.word_false]
  have := fl_lt c h
  exact Nat.min_eq_left (by show fl c ≤ _; unfold Flt.inf; omega)
/-- the number made whole, downwards, as an integer -/
theorem toint_is (r : Nat) (h : r < Flt.inf) (hn : val r / U < 18446744073709551616) : floatToIntVal .f64 r .u64 = some ((val r / U : Nat) : Int) := by
  unfold floatToIntVal
  have e : (FloatKind.f64.decode r).toInt .zero = some ((val r / U : Nat) : Int) := by
    show (match (double.read r).integral .zero with | .number s m _ => some (signed s m 0) | _ => none) = _
    rw [integral_zero r h]
    show some (signed false (val r / U) 0) = _
    rw [Flt.signed_is, Nat.pow_zero, Nat.mul_one]
    rfl
  rw [e]
  clear e
  obtain ⟨n, hn'⟩ : ∃ n, n = val r / U := ⟨_, rfl⟩
  rw [← hn'] at hn ⊢
  have h1 : IntKind.u64.min ≤ ((n : Nat) : Int) ∧ ((n : Nat) : Int) ≤ IntKind.u64.max := by
    have e1 : IntKind.u64.min = 0 := rfl
    have e2 : IntKind.u64.max = 18446744073709551615 := rfl
    rw [e1, e2]
    omega
  show (if IntKind.u64.min ≤ ((n : Nat) : Int) ∧ ((n : Nat) : Int) ≤ IntKind.u64.max then some ((n : Nat) : Int) else none) = _
  rw [if_pos h1]
end Go.Proofs.Ytbgpdofbnifapaa.R
