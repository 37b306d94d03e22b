/- Doubles: how long is waited, as whole numbers. -/
import Derived.Test.YtbgpdofbnifapaaArith
import Derived.Test.YtbgpdofbnifapaaBlend
namespace Go.Proofs.Ytbgpdofbnifapaa.R
open Flt (val RR RR_mono RR_val val_le val_zero)

@[irreducible] def K1 : Nat := 1074
@[irreducible] def U : Nat := 2 ^ K1
@[irreducible] def K0 : Nat := 4096
theorem K1_is : K1 = 1074 := by unfold K1; rfl
theorem U_is : U = 2 ^ K1 := by unfold U; rfl
theorem K0_is : K0 = 4096 := by unfold K0; rfl
def T0 : Nat := K0 + K1
def K1000 : Nat := 4652007308841189376
/-- the double of a whole number -/
def fl (n : Nat) : Nat := RR (n * U) 1 0
theorem fl_mono {n m : Nat} (h : n ≤ m) : fl n ≤ fl m := RR_mono (by decide) (Nat.mul_le_mul_right _ h)
theorem val_one : val one = U := by decide +kernel
theorem val_1000 : val K1000 = 1000 * U := by decide +kernel
theorem val_63 : val 4890909195324358656 = 2 ^ 63 * U := by decide +kernel
theorem fl_one : fl 1 = one := by
  unfold fl
  have := RR_val one 0
  rwa [val_one, Nat.pow_zero, Nat.mul_one, ← Nat.one_mul U] at this
theorem fl_zero : fl 0 = 0 := by unfold fl; rw [Nat.zero_mul]; exact Flt.RR_zero _ _
theorem fl_lt (n : Nat) (h : n < 9223372036854775808) : fl n ≤ 4890909195324358656 := by
  have h1 : fl n ≤ RR (val 4890909195324358656 * 2 ^ 0) 1 0 := RR_mono (by decide) (by rw [val_63, Nat.pow_zero, Nat.mul_one]; exact Nat.mul_le_mul_right _ (by omega))
  rwa [RR_val] at h1
theorem fl_is (n : Nat) (h : n < 9223372036854775808) : floatOfInt .f64 (n : Int) = fl n := by
  have h1 := Flt.nearest_is false n K1 0 0 (by rw [Flt.L_is, K1_is]; omega)
  rw [← U_is] at h1
  show Ieee.double.nearest (decide ((n : Int) < 0)) (n : Int).natAbs 0 = _
  rw [decide_eq_false (by omega), Int.natAbs_natCast, h1, Flt.word_false]
  have := fl_lt n h
  exact Nat.min_eq_left (by show fl n ≤ _; unfold Flt.inf; omega)
theorem fl_pos {n : Nat} (h : 0 < n) : one ≤ fl n := by rw [← fl_one]; exact fl_mono h
/-- a number held, by a whole number -/
def mulR (b k : Nat) : Nat := RR (val b * val (fl k)) 1 K1
def M64 : Nat := mulR K1000 64
theorem M64_lt : M64 < 9218868437227405312 := by decide +kernel
theorem mulR_mono {b k j : Nat} (h : k ≤ j) : mulR b k ≤ mulR b j := RR_mono (by decide) (Nat.mul_le_mul_left _ (val_le (fl_mono h)))
theorem mulR_le {b k : Nat} (hb : b ≤ K1000) (hk : k ≤ 64) : mulR b k ≤ M64 := RR_mono (by decide) (Nat.mul_le_mul (val_le hb) (val_le (fl_mono hk)))
theorem mulR_is {b k : Nat} (hb : b ≤ K1000) (hk : k ≤ 64) : Ieee.double.mul b (fl k) = some (mulR b k) := by
  have h1 := fl_lt k (by omega)
  have rb := Flt.rung_low b (by unfold K1000 at hb; unfold Flt.inf; omega)
  have rk := Flt.rung_low (fl k) (by unfold Flt.inf; omega)
  have h := Flt.mul_is b (fl k) (by rw [rb.1]; unfold K1000 at hb; unfold Flt.inf; omega) (by rw [rk.1]; unfold Flt.inf; omega)
  rw [rb.1, rk.1, rb.2, rk.2, ← K1_is] at h
  rw [h]
  have := mulR_le hb hk
  have := M64_lt
  have e : RR (val b * val (fl k)) 1 K1 = mulR b k := rfl
  rw [Bool.xor_false, Flt.word_false, e, Nat.min_eq_left (by unfold Flt.inf; omega)]
def great (b k : Nat) : Nat := max (mulR b k) b
theorem great_lt {b k : Nat} (hb : b ≤ K1000) (hk : k ≤ 64) : great b k < 9218868437227405312 := by
  have := mulR_le hb hk
  have := M64_lt
  unfold great K1000 at *
  omega
theorem great_mono {b k j : Nat} (h : k ≤ j) : great b k ≤ great b j := by
  have := mulR_mono (b := b) h
  unfold great
  omega
/-- the part that has told it -/
def fr (t m : Nat) : Nat := RR (val (fl t) * 2 ^ T0) (val (fl m)) K0
theorem val_pos' {r : Nat} (h : 0 < r) : 0 < val r := Flt.val_pos.2 h
theorem fl_pos' {n : Nat} (h : 0 < n) : 0 < fl n := by have := fl_pos h; unfold one at this; omega
theorem fr_mono {t s m : Nat} (hm : 0 < m) (h : t ≤ s) : fr t m ≤ fr s m := RR_mono (val_pos' (fl_pos' hm)) (Nat.mul_le_mul_right _ (val_le (fl_mono h)))
theorem fr_self (m : Nat) (hm : 0 < m) : fr m m = one := by
  unfold fr
  have h1 : RR (2 ^ T0 * val (fl m)) (1 * val (fl m)) K0 = RR (2 ^ T0) 1 K0 := Flt.RR_scale _ _ _ _ (val_pos' (fl_pos' hm))
  rw [Nat.one_mul] at h1
  rw [Nat.mul_comm, h1]
  have h2 := RR_val one K0
  rw [val_one] at h2
  have h3 : (2 : Nat) ^ T0 = U * 2 ^ K0 := by
    unfold T0
    rw [Nat.pow_add, U_is, Nat.mul_comm]
  rw [h3]
  exact h2
theorem fr_le {t m : Nat} (hm : 0 < m) (h : t ≤ m) : fr t m ≤ one := by rw [← fr_self m hm]; exact fr_mono hm h
theorem fr_is {t m : Nat} (ht : 0 < t) (htm : t ≤ m) (hm : m < 9223372036854775808) : Ieee.double.div (fl t) (fl m) = some (fr t m) := by
  have h1 := fl_lt t (by omega)
  have h2 := fl_lt m hm
  rw [Flt.div_is (fl t) (fl m) T0 K0 (by unfold T0; rw [K1_is]) (by rw [K0_is]; omega) (by unfold Flt.inf; omega) (fl_pos' ht) (by unfold Flt.inf; omega) (fl_pos' (by omega))]
  have := fr_le (t := t) (m := m) (by omega) htm
  have e : RR (val (fl t) * 2 ^ T0) (val (fl m)) K0 = fr t m := rfl
  rw [e, Nat.min_eq_left (by unfold one at this; unfold Flt.inf; omega)]
def minus (g b : Nat) : Nat := RR (val g - val b) 1 0
theorem minus_le (g b : Nat) : minus g b ≤ g := Flt.sub_le g b
theorem minus_mono {g a b : Nat} (h : a ≤ b) : minus g b ≤ minus g a := RR_mono (by decide) (by have := val_le h; omega)
theorem minus_is {g b : Nat} (hg : g < 9218868437227405312) (h : b ≤ g) : Ieee.double.sub g b = some (minus g b) := Flt.sub_is g b hg h
def part (q d : Nat) : Nat := RR (val q * val d) 1 K1
theorem part_mono {q p d : Nat} (h : q ≤ p) : part q d ≤ part p d := RR_mono (by decide) (Nat.mul_le_mul_right _ (val_le h))
theorem part_le {q d : Nat} (h : q ≤ one) : part q d ≤ d := by
  have h1 : part q d ≤ RR (val d * 2 ^ K1) 1 K1 := RR_mono (by decide) (by
    have := Nat.mul_le_mul_right (val d) (val_le h)
    rw [val_one, Nat.mul_comm U, U_is] at this
    exact this)
  rwa [RR_val] at h1
theorem part_is {q d : Nat} (hq : q ≤ one) (hd : d < 9218868437227405312) : Ieee.double.mul q d = some (part q d) := by
  have rq := Flt.rung_low q (by unfold one at hq; unfold Flt.inf; omega)
  have rd := Flt.rung_low d (by unfold Flt.inf; omega)
  have h := Flt.mul_is q d (by rw [rq.1]; unfold one at hq; unfold Flt.inf; omega) (by rw [rd.1]; exact hd)
  rw [rq.1, rd.1, rq.2, rd.2, ← K1_is] at h
  rw [h]
  have := part_le (d := d) hq
  have e : RR (val q * val d) 1 K1 = part q d := rfl
  rw [Bool.xor_false, Flt.word_false, e, Nat.min_eq_left (by unfold Flt.inf; omega)]
/-- what is waited of the greatest wait, for so great a part -/
def less (q g b : Nat) : Nat := max (minus g (part q (minus g b))) b
theorem less_le {q g b : Nat} (h : b ≤ g) : less q g b ≤ g := by
  have := minus_le g (part q (minus g b))
  unfold less
  omega
theorem less_mono {q p g b : Nat} (h : q ≤ p) : less p g b ≤ less q g b := by
  have := minus_mono (g := g) (part_mono (d := minus g b) h)
  unfold less
  omega
def wait (b k : Nat) (told most : Int) : Nat := if told ≤ 0 then great b k else if most < 1 ∨ most ≤ told then b else less (fr told.toNat most.toNat) (great b k) b
theorem wait_ge (b k : Nat) (told most : Int) : b ≤ wait b k told most := by
  have : b ≤ great b k := Nat.le_max_right _ _
  unfold wait
  split
  · exact this
  · split
    · exact Nat.le_refl _
    · exact Nat.le_max_right _ _
theorem wait_le (b k : Nat) (told most : Int) : wait b k told most ≤ great b k := by
  have : b ≤ great b k := Nat.le_max_right _ _
  unfold wait
  split
  · exact Nat.le_refl _
  · split
    · exact this
    · exact less_le this
theorem wait_mono (b k : Nat) (told more most : Int) (h : told ≤ more) : wait b k more most ≤ wait b k told most := by
  by_cases h1 : told ≤ 0
  · have e : wait b k told most = great b k := by unfold wait; rw [if_pos h1]
    rw [e]
    exact wait_le _ _ _ _
  · by_cases h2 : most < 1 ∨ most ≤ more
    · have e : wait b k more most = b := by unfold wait; rw [if_neg (by omega), if_pos h2]
      rw [e]
      exact wait_ge _ _ _ _
    · have e1 : wait b k more most = less (fr more.toNat most.toNat) (great b k) b := by unfold wait; rw [if_neg (by omega), if_neg h2]
      have e2 : wait b k told most = less (fr told.toNat most.toNat) (great b k) b := by unfold wait; rw [if_neg h1, if_neg (by omega)]
      rw [e1, e2]
      exact less_mono (fr_mono (by omega) (by omega))
theorem wait_lt {b k : Nat} (hb : b ≤ K1000) (hk : k ≤ 64) (told most : Int) : wait b k told most < 9218868437227405312 :=
  Nat.lt_of_le_of_lt (wait_le _ _ _ _) (great_lt hb hk)
/-- how two doubles that are not below nought stand -/
theorem ord_nat (x y : Nat) (hx : x ≤ 9218868437227405312) (hy : y ≤ 9218868437227405312) : FloatKind.f64.format.order x y = some (compare (x : Int) (y : Int)) := by
  have rx := Flt.rung_low x hx
  have ry := Flt.rung_low y hy
  rw [ord, nan_nat x hx, nan_nat y hy]
  have ex : Flt.num x = (x : Int) := by unfold Flt.num; rw [rx.1, rx.2]; rfl
  have ey : Flt.num y = (y : Int) := by unfold Flt.num; rw [ry.1, ry.2]; rfl
  rw [ex, ey]
  simp
theorem ge_nat {x y : Nat} (hx : x ≤ 9218868437227405312) (h : y ≤ x) : (FloatKind.f64.format.order x y == some .gt || FloatKind.f64.format.order x y == some .eq) = true := by
  rw [ord_nat x y hx (by omega)]
  rcases cmp_cases (x : Int) (y : Int) with ⟨e, k⟩ | ⟨e, k⟩ | ⟨e, k⟩ <;> rw [e]
  · omega
  · rfl
  · rfl
theorem le_nat {x y : Nat} (hy : y ≤ 9218868437227405312) (h : x ≤ y) : (FloatKind.f64.format.order x y == some .lt || FloatKind.f64.format.order x y == some .eq) = true := by
  rw [ord_nat x y (by omega) hy]
  rcases cmp_cases (x : Int) (y : Int) with ⟨e, k⟩ | ⟨e, k⟩ | ⟨e, k⟩ <;> rw [e]
  · rfl
  · rfl
  · omega
theorem lt_nat {x y : Nat} (hx : x ≤ 9218868437227405312) (hy : y ≤ 9218868437227405312) : (FloatKind.f64.format.order x y == some .lt) = decide (x < y) := by
  rw [ord_nat x y hx hy]
  rcases cmp_cases (x : Int) (y : Int) with ⟨e, k⟩ | ⟨e, k⟩ | ⟨e, k⟩ <;> rw [e]
  · rw [decide_eq_true (by omega)]; rfl
  · rw [decide_eq_false (by omega)]; rfl
  · rw [decide_eq_false (by omega)]; rfl
theorem eq_nat {x : Nat} (hx : x ≤ 9218868437227405312) : (FloatKind.f64.format.order x x == some .eq) = true := by
  rw [ord_nat x x hx hx]
  rcases cmp_cases (x : Int) (x : Int) with ⟨_, k⟩ | ⟨e, _⟩ | ⟨_, k⟩
  · omega
  · rw [e]; rfl
  · omega
theorem max2_nat {x y : Nat} (hx : x ≤ 9218868437227405312) (hy : y ≤ 9218868437227405312) : Builtin.max2 (.float .f64 x) (.float .f64 y) = pure (.float .f64 (max x y)) := by
  simp only [Builtin.max2]
  rw [ord_nat x y hx hy]
  rcases cmp_cases (x : Int) (y : Int) with ⟨e, k⟩ | ⟨e, k⟩ | ⟨e, k⟩ <;> rw [e]
  · rw [Nat.max_eq_right (by omega)]
  · have : x = y := by omega
    subst this
    rw [Nat.max_self, ite_self]
  · rw [Nat.max_eq_left (by omega)]
end Go.Proofs.Ytbgpdofbnifapaa.R
