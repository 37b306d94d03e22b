/- Texts of this claim, one behind the other (joined by pack.py): OFlt. -/
import Ieee.Arith
section
/- Doubles as whole numbers: how two of them stand to each other is how their signed rungs do. -/
namespace Go.Proofs.YtondgoabnmgcaaaO.Flt
open Ieee

def B : Nat := 4503599627370496
def inf : Nat := 9218868437227405312
/-- a word's rung, and whether it is below nought -/
def rung (x : Nat) : Nat := x % 9223372036854775808
def low (x : Nat) : Bool := x / 9223372036854775808 % 2 == 1
/-- a rung's number, in units of the least place -/
def val (r : Nat) : Nat := if r < B then r else (B + r % B) * 2 ^ (r / B - 1)
def sgn (s : Bool) (r : Nat) : Int := if s then -(r : Int) else r

theorem val_step (k r : Nat) (hk : 1 ≤ k) (h0 : k * B ≤ r) (h1 : r < (k + 1) * B) : val r = (B + (r - k * B)) * 2 ^ (k - 1) := by
  have hB : 0 < B := by decide
  have e : r / B = k := by
    apply Nat.div_eq_of_lt_le
    · exact h0
    · exact h1
  have em : r % B = r - k * B := by
    have := Nat.div_add_mod r B
    rw [e, Nat.mul_comm] at this
    omega
  have hge : ¬ r < B := by
    have : 1 * B ≤ k * B := Nat.mul_le_mul_right B hk
    omega
  unfold val
  rw [if_neg hge, e, em]
theorem val_mono {r q : Nat} (h : r < q) : val r < val q := by
  have hB : 0 < B := by decide
  have step : ∀ n, val n < val (n + 1) := by
    intro n
    by_cases h0 : n + 1 < B
    · unfold val; rw [if_pos (by omega), if_pos h0]; omega
    · by_cases h1 : n < B
      · have e : n + 1 = B := by omega
        have := val_step 1 (n + 1) (Nat.le_refl _) (by omega) (by omega)
        rw [this]
        unfold val
        rw [if_pos h1]
        simp
        omega
      · have hk : 1 ≤ n / B := (Nat.one_le_div_iff hB).2 (by omega)
        have d := Nat.div_add_mod n B
        have m := Nat.mod_lt n hB
        have a := val_step (n / B) n hk (by rw [Nat.mul_comm]; omega) (by rw [Nat.add_mul, Nat.mul_comm]; omega)
        by_cases h2 : n + 1 < (n / B + 1) * B
        · have b := val_step (n / B) (n + 1) hk (by rw [Nat.mul_comm]; omega) h2
          rw [a, b]
          apply Nat.mul_lt_mul_of_pos_right
          · have : n / B * B ≤ n := Nat.div_mul_le_self n B
            omega
          · exact Nat.pow_pos (by decide)
        · have e : n + 1 = (n / B + 1) * B := by
            rw [Nat.add_mul, Nat.mul_comm] at h2 ⊢
            omega
          have b := val_step (n / B + 1) (n + 1) (by omega) (by omega) (by rw [e, Nat.add_mul (n / B + 1)]; omega)
          have hp : 2 ^ (n / B + 1 - 1) = 2 * 2 ^ (n / B - 1) := by rw [show n / B + 1 - 1 = (n / B - 1) + 1 by omega, Nat.pow_succ, Nat.mul_comm]
          have hlt : B + (n - n / B * B) < B * 2 := by
            have : n / B * B ≤ n := Nat.div_mul_le_self n B
            rw [Nat.mul_comm] at d
            omega
          rw [a, b, e, Nat.sub_self, Nat.add_zero, hp, ← Nat.mul_assoc]
          exact Nat.mul_lt_mul_of_pos_right hlt (Nat.pow_pos (by decide))
  induction q with
  | zero => omega
  | succ q ih =>
    by_cases e : r = q
    · rw [e]; exact step q
    · exact Nat.lt_trans (ih (by omega)) (step q)

theorem read_is (x : Nat) : double.read x = if rung x < B then .number (low x) (rung x) double.leastPlace
    else if rung x < inf then .number (low x) (B + rung x % B) (double.leastPlace + (rung x / B - 1 : Nat))
    else if rung x = inf then .infinity (low x) else .nan (low x) (rung x - inf) := rfl
theorem val_pos {r : Nat} : 0 < val r ↔ 0 < r := by
  have h0 : val 0 = 0 := rfl
  constructor
  · intro h
    rcases Nat.eq_zero_or_pos r with e | e
    · rw [e, h0] at h; omega
    · exact e
  · intro h
    have := val_mono h
    omega
theorem sgn_cmp (s t : Bool) (r q : Nat) : compare (sgn s (val r)) (sgn t (val q)) = compare (sgn s r) (sgn t q) := by
  have key : ∀ {a b c d : Int}, (a < b ↔ c < d) → (a = b ↔ c = d) → compare a b = compare c d := by
    intro a b c d h1 h2
    simp only [compare, compareOfLessAndEq]
    by_cases x : a < b
    · rw [if_pos x, if_pos (h1.1 x)]
    · rw [if_neg x, if_neg (fun h => x (h1.2 h))]
      by_cases y : a = b
      · rw [if_pos y, if_pos (h2.1 y)]
      · rw [if_neg y, if_neg (fun h => y (h2.2 h))]
  have mono : ∀ {r q : Nat}, val r < val q ↔ r < q := by
    intro r q
    constructor
    · intro h
      rcases Nat.lt_or_ge r q with e | e
      · exact e
      · rcases Nat.lt_or_ge q r with e1 | e1
        · have := val_mono e1; omega
        · have : r = q := by omega
          rw [this] at h; omega
    · exact val_mono
  have inj : ∀ {r q : Nat}, val r = val q ↔ r = q := by
    intro r q
    constructor
    · intro h
      rcases Nat.lt_trichotomy r q with e | e | e
      · have := val_mono e; omega
      · exact e
      · have := val_mono e; omega
    · intro h; rw [h]
  have m1 := @mono r q
  have m2 := @mono q r
  have i1 := @inj r q
  have p1 := @val_pos r
  have p2 := @val_pos q
  apply key
  · cases s <;> cases t <;> simp only [sgn, if_true, if_false, Bool.false_eq_true] <;> omega
  · cases s <;> cases t <;> simp only [sgn, if_true, if_false, Bool.false_eq_true] <;> omega
/-- a number that is no number -/
def nan (x : Nat) : Bool := decide (inf < rung x)
def num (x : Nat) : Int := sgn (low x) (rung x)
theorem inf_lt_inf (x y : Nat) (hx : rung x = inf) (hy : rung y < inf) : compare (sgn (low x) (rung x)) (sgn (low y) (rung y)) = if low x then .lt else .gt := by
  cases hs : low x <;> cases ht : low y <;> simp only [sgn, if_true, if_false, Bool.false_eq_true, compare, compareOfLessAndEq]
  · rw [if_neg (by omega), if_neg (by omega)]
  · rw [if_neg (by omega), if_neg (by unfold inf at *; omega)]
  · rw [if_pos (by unfold inf at *; omega)]
  · rw [if_pos (by omega)]
theorem cmp_scale (a b : Int) (t : Nat) : compare (a * (2 ^ t : Nat)) (b * (2 ^ t : Nat)) = compare a b := by
  have hp : (0 : Int) < ((2 ^ t : Nat) : Int) := by have := Nat.pow_pos (n := t) (show 0 < 2 by decide); omega
  simp only [compare, compareOfLessAndEq]
  by_cases x : a < b
  · rw [if_pos x, if_pos (Int.mul_lt_mul_of_pos_right x hp)]
  · rw [if_neg x, if_neg (fun h => x (Int.lt_of_mul_lt_mul_right h (Int.le_of_lt hp)))]
    by_cases y : a = b
    · rw [if_pos y, if_pos (by rw [y])]
    · rw [if_neg y, if_neg (fun h => y (Int.eq_of_mul_eq_mul_right (by omega) h))]
theorem sgn_scale (s : Bool) (m e c : Nat) (h : c ≤ e) : sgn s (m * 2 ^ e) = sgn s (m * 2 ^ (e - c)) * ((2 ^ c : Nat) : Int) := by
  have hm : m * 2 ^ e = m * 2 ^ (e - c) * 2 ^ c := by rw [Nat.mul_assoc, ← Nat.pow_add, show e - c + c = e by omega]
  unfold sgn
  split
  · rw [hm, Int.neg_mul, Int.natCast_mul]
  · rw [hm, Int.natCast_mul]
theorem signed_is (s : Bool) (m k : Nat) : signed s m k = sgn s (m * 2 ^ k) := by
  unfold signed sgn
  rw [Nat.shiftLeft_eq]
theorem fin_order (L : Int) (s t : Bool) (m n e d : Nat) : Datum.order (.number s m (L + (e : Nat))) (.number t n (L + (d : Nat))) = some (compare (sgn s (m * 2 ^ e)) (sgn t (n * 2 ^ d))) := by
  have hc1 : min e d ≤ e := Nat.min_le_left _ _
  have hc2 : min e d ≤ d := Nat.min_le_right _ _
  have hb : min (L + (e : Int)) (L + (d : Int)) = L + ((min e d : Nat) : Int) := by omega
  show some (compare (signed s m (L + (e : Int) - min (L + (e : Int)) (L + (d : Int))).toNat) (signed t n (L + (d : Int) - min (L + (e : Int)) (L + (d : Int))).toNat)) = _
  rw [hb, show (L + (e : Int) - (L + ((min e d : Nat) : Int))).toNat = e - min e d by omega, show (L + (d : Int) - (L + ((min e d : Nat) : Int))).toNat = d - min e d by omega,
    signed_is, signed_is, sgn_scale s m e _ hc1, sgn_scale t n d _ hc2, cmp_scale]
/-- a finite word, read -/
theorem read_fin (x : Nat) (h : rung x < inf) : ∃ m e : Nat, double.read x = .number (low x) m (double.leastPlace + (e : Nat)) ∧ m * 2 ^ e = val (rung x) := by
  rw [read_is]
  by_cases h0 : rung x < B
  · rw [if_pos h0]
    refine ⟨rung x, 0, by simp, ?_⟩
    unfold val
    rw [if_pos h0]
    simp
  · rw [if_neg h0, if_pos h]
    refine ⟨B + rung x % B, rung x / B - 1, rfl, ?_⟩
    unfold val
    rw [if_neg h0]
theorem order_is (x y : Nat) : double.order x y = if nan x = true ∨ nan y = true then none else some (compare (num x) (num y)) := by
  unfold Format.order num nan
  have hB : B < inf := by decide
  by_cases nx : inf < rung x
  · rw [if_pos (.inl (decide_eq_true nx)), read_is x, if_neg (by omega), if_neg (by omega), if_neg (by omega)]
    rfl
  · by_cases ny : inf < rung y
    · rw [if_pos (.inr (decide_eq_true ny)), read_is y, if_neg (by omega), if_neg (by omega), if_neg (by omega)]
      cases double.read x <;> rfl
    · rw [if_neg (by simp [nx, ny])]
      by_cases ix : rung x = inf
      · have hx : double.read x = .infinity (low x) := by rw [read_is, if_neg (by omega), if_neg (by omega), if_pos ix]
        by_cases iy : rung y = inf
        · have hy : double.read y = .infinity (low y) := by rw [read_is, if_neg (by omega), if_neg (by omega), if_pos iy]
          rw [hx, hy, ix, iy]
          show some (compare (low y).toNat (low x).toNat) = _
          cases low x <;> cases low y <;> decide
        · obtain ⟨m, e, hy, _⟩ := read_fin y (by omega)
          rw [hx, hy, inf_lt_inf x y ix (by omega)]
          rfl
      · obtain ⟨m, e, hx, hv⟩ := read_fin x (by omega)
        by_cases iy : rung y = inf
        · have hy : double.read y = .infinity (low y) := by rw [read_is, if_neg (by omega), if_neg (by omega), if_pos iy]
          rw [hx, hy]
          show some (if low y then Ordering.gt else Ordering.lt) = _
          congr 1
          cases hs : low x <;> cases ht : low y <;> simp only [sgn, if_true, if_false, Bool.false_eq_true, compare, compareOfLessAndEq]
          · rw [if_pos (by omega)]
          · rw [if_neg (by unfold inf at *; omega), if_neg (by unfold inf at *; omega)]
          · rw [if_pos (by unfold inf at *; omega)]
          · rw [if_neg (by omega), if_neg (by omega)]
        · obtain ⟨n, d, hy, hw⟩ := read_fin y (by omega)
          rw [hx, hy, fin_order, hv, hw, sgn_cmp]
end Go.Proofs.YtondgoabnmgcaaaO.Flt
end
