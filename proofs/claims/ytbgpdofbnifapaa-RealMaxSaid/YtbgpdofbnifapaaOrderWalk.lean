/- RealOrder, by hand: doubles stand in one row. -/
import Derived.Test.YtbgpdofbnifapaaShown
namespace Go.Proofs.Ytbgpdofbnifapaa.R
open Go.RowKit Go.Proofs.YtbgpdofbnifapaaW.PrintWords Go.Proofs.YtbgpdofbnifapaaW.PrintLast Go.Proofs.YtbgpdofbnifapaaW.PrintMore
open Flt (nan num rung low sgn)

/-- the same doubles, bit by bit, or both no number -/
def alike (x y : Nat) : Bool := (nan x && nan y) || decide (x = y)
theorem alike_at (x y : Nat) (w : World) : Calls Try.prog 15 #[.float .f64 x, .float .f64 y] w fun e w' => e = .returned (.bool (alike x y)) ∧ w = w' := by
  have hx := ord_self x
  have hy := ord_self y
  have HX := bits_run x
  have HY := bits_run y
  cases nx : nan x
  · rw [nx] at hx
    have hv : alike x y = ((x : Int) == (y : Int)) := by
      unfold alike
      rw [nx]
      by_cases e : x = y
      · simp [e]
      · have : ¬ (x : Int) = (y : Int) := by omega
        simp [e, this]
    rw [hv]
    clear hv nx
    go_enter Try.func15, Try.ntmps15
    go_wp2
    go_ret
    exact ⟨rfl, rfl⟩
  · rw [nx] at hx
    cases ny : nan y
    · rw [ny] at hy
      have hv : alike x y = ((x : Int) == (y : Int)) := by
        unfold alike
        rw [nx, ny]
        by_cases e : x = y
        · simp [e]
        · have : ¬ (x : Int) = (y : Int) := by omega
          simp [e, this]
      rw [hv]
      clear hv nx ny
      go_enter Try.func15, Try.ntmps15
      go_wp2
      go_ret
      exact ⟨rfl, rfl⟩
    · rw [ny] at hy
      have hv : alike x y = true := by unfold alike; rw [nx, ny]; rfl
      rw [hv]
      clear hv nx ny
      go_enter Try.func15, Try.ntmps15
      go_wp2
      go_ret
      exact ⟨rfl, rfl⟩
theorem key_low (x : Nat) (hx : x < 18446744073709551616) (h : nan x = false) : key x = if low x then -1 - (rung x : Int) else (rung x : Int) := by
  unfold key
  rw [if_neg (by simp [h])]
  unfold Flt.rung Flt.low
  by_cases h1 : x < 9223372036854775808
  · have e : (x / 9223372036854775808 % 2 == 1) = false := by
      have : x / 9223372036854775808 = 0 := by omega
      rw [this]; rfl
    rw [if_pos h1, e]
    simp
    omega
  · have e : (x / 9223372036854775808 % 2 == 1) = true := by
      have : x / 9223372036854775808 = 1 := by omega
      rw [this]; rfl
    rw [if_neg h1, e]
    simp
    omega
theorem rung_lt (x : Nat) : rung x < 9223372036854775808 := Nat.mod_lt _ (by decide)
theorem key_same (x y : Nat) (hx : x < 18446744073709551616) (hy : y < 18446744073709551616) : (key x = key y) ↔ alike x y = true := by
  have rx := rung_lt x
  have ry := rung_lt y
  have bx : x = rung x + (if low x then 9223372036854775808 else 0) := by
    unfold Flt.rung Flt.low
    by_cases h1 : x < 9223372036854775808
    · have : x / 9223372036854775808 = 0 := by omega
      rw [this]; simp; omega
    · have : x / 9223372036854775808 = 1 := by omega
      rw [this]; simp; omega
  have by' : y = rung y + (if low y then 9223372036854775808 else 0) := by
    unfold Flt.rung Flt.low
    by_cases h1 : y < 9223372036854775808
    · have : y / 9223372036854775808 = 0 := by omega
      rw [this]; simp; omega
    · have : y / 9223372036854775808 = 1 := by omega
      rw [this]; simp; omega
  have nanrung : ∀ z, nan z = false → rung z ≤ 9218868437227405312 := by
    intro z hz
    unfold Flt.nan Flt.inf at hz
    simpa using hz
  unfold alike
  cases nx : nan x <;> cases ny : nan y
  · have qx := nanrung x nx
    have qy := nanrung y ny
    rw [key_low x hx nx, key_low y hy ny]
    simp only [Bool.false_and, Bool.false_or, decide_eq_true_eq]
    cases lx : low x <;> cases ly : low y <;> rw [lx] at bx <;> rw [ly] at by' <;> simp only [if_true, if_false, Bool.false_eq_true] at * <;> omega
  · have qx := nanrung x nx
    rw [key_low x hx nx]
    have ky : key y = -9223372036854775808 := by unfold key; rw [if_pos ny]
    rw [ky]
    simp only [Bool.and_true, Bool.false_or, decide_eq_true_eq]
    constructor
    · intro h; cases lx : low x <;> rw [lx] at h <;> simp only [if_true, if_false, Bool.false_eq_true] at h <;> omega
    · intro h; rw [h, ny] at nx; cases nx
  · have qy := nanrung y ny
    rw [key_low y hy ny]
    have kx : key x = -9223372036854775808 := by unfold key; rw [if_pos nx]
    rw [kx]
    simp only [Bool.and_false, Bool.false_or, decide_eq_true_eq]
    constructor
    · intro h; cases ly : low y <;> rw [ly] at h <;> simp only [if_true, if_false, Bool.false_eq_true] at h <;> omega
    · intro h; rw [← h, nx] at ny; cases ny
  · have kx : key x = -9223372036854775808 := by unfold key; rw [if_pos nx]
    have ky : key y = -9223372036854775808 := by unfold key; rw [if_pos ny]
    rw [kx, ky]
    simp
end Go.Proofs.Ytbgpdofbnifapaa.R
