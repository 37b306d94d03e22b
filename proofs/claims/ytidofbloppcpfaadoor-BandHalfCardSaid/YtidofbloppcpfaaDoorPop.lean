/- math/bits.OnesCount64 counts the set bits: plain arithmetic, byte by byte. -/
import Derived.Test.YtidofbloppcpfaaDoorBits
import Derived.Test.YtidofbloppcpfaaDoorB2
import Derived.Laws.Bits64b
namespace Go.Proofs.YtidofbloppcpfaaDoor.Band
open Go Go.RowKit Go.Proofs.YtidofbloppcpfaaDoor.B Go.Proofs.YtidofbloppcpfaaDoorW.PrintWords

/-- how many of the first n bits are set -/
def cnt : Nat → Nat → Nat
  | 0, _ => 0
  | n + 1, x => x % 2 + cnt n (x / 2)
theorem cnt_filter : ∀ n x, ((List.range n).filter (fun i => x.testBit i)).length = cnt n x := by
  intro n
  induction n with
  | zero => intro x; rfl
  | succ n ih =>
    intro x
    rw [List.range_succ_eq_map, List.filter_cons, cnt, ← ih]
    have e : (List.filter (fun i => x.testBit i) (List.map Nat.succ (List.range n))).length = (List.filter (fun i => (x / 2).testBit i) (List.range n)).length := by
      rw [List.filter_map, List.length_map]
      congr 1
      apply List.filter_congr
      intro i _
      simp [Nat.testBit_succ]
    by_cases h : x.testBit 0 = true
    · rw [if_pos h, List.length_cons, e]
      rw [Nat.testBit_zero] at h
      have := of_decide_eq_true h
      omega
    · rw [if_neg h, e]
      rw [Nat.testBit_zero] at h
      have : ¬ x % 2 = 1 := fun h' => h (decide_eq_true h')
      omega
def pb (b : Nat) : Nat := b % 2 + b / 2 % 2 + b / 4 % 2 + b / 8 % 2 + b / 16 % 2 + b / 32 % 2 + b / 64 % 2 + b / 128 % 2
theorem cnt_byte (n x : Nat) : cnt (n + 8) x = pb (x % 256) + cnt n (x / 256) := by
  simp only [cnt, Nat.div_div_eq_div_mul, Nat.reduceMul]
  unfold pb
  omega
theorem pb_le (b : Nat) : pb b ≤ 8 := by unfold pb; omega

/-! the three masks, k bytes wide -/
def m1 : Nat → Nat | 0 => 0 | k + 1 => 256 * m1 k + 85
def m2 : Nat → Nat | 0 => 0 | k + 1 => 256 * m2 k + 51
def m3 : Nat → Nat | 0 => 0 | k + 1 => 256 * m3 k + 15
def s1 (k x : Nat) : Nat := ((x / 2) &&& m1 k) + (x &&& m1 k)
def s2 (k x : Nat) : Nat := ((s1 k x / 4) &&& m2 k) + (s1 k x &&& m2 k)
def s3 (k x : Nat) : Nat := (s2 k x / 16 + s2 k x) &&& m3 k
theorem and_byte (p q r s : Nat) (hq : q < 256) (hs : s < 256) : (256 * p + q) &&& (256 * r + s) = 256 * (p &&& r) + (q &&& s) := by
  have hqs : q &&& s < 2 ^ 8 := Nat.and_lt_two_pow _ hs
  apply Nat.eq_of_testBit_eq
  intro i
  rw [Nat.testBit_and, show 256 = 2 ^ 8 from rfl, Nat.testBit_two_pow_mul_add _ hq, Nat.testBit_two_pow_mul_add _ hs, Nat.testBit_two_pow_mul_add _ hqs]
  by_cases h : i < 8
  · simp [h, Nat.testBit_and]
  · simp [h, Nat.testBit_and]
theorem byte_1 : ∀ e < 2, ∀ b < 256, (128 * e + b / 2) &&& 85 = (b / 2) &&& 85 := by decide +kernel
theorem byte_2 : ∀ e < 4, ∀ b < 256, (64 * e + b / 4) &&& 51 = (b / 4) &&& 51 := by decide +kernel
def g1 (b : Nat) : Nat := ((b / 2) &&& 85) + (b &&& 85)
def g2 (b : Nat) : Nat := ((g1 b / 4) &&& 51) + (g1 b &&& 51)
theorem g1_lt : ∀ b < 256, g1 b < 256 := by decide +kernel
theorem g2_lt : ∀ b < 256, g2 b < 69 ∧ g2 b % 16 ≤ 4 ∧ (g2 b / 16 + g2 b) % 16 = pb b := by decide +kernel
theorem s1_byte (k h b : Nat) (hb : b < 256) : s1 (k + 1) (256 * h + b) = 256 * s1 k h + g1 b := by
  unfold s1 g1
  rw [show m1 (k + 1) = 256 * m1 k + 85 from rfl]
  have e : (256 * h + b) / 2 = 256 * (h / 2) + (128 * (h % 2) + b / 2) := by omega
  rw [e, and_byte _ _ _ _ (by omega) (by omega), and_byte _ _ _ _ hb (by omega), byte_1 _ (by omega) _ hb]
  omega
theorem s2_byte (k h b : Nat) (hb : b < 256) : s2 (k + 1) (256 * h + b) = 256 * s2 k h + g2 b := by
  have hg := g1_lt b hb
  unfold s2
  rw [s1_byte k h b hb]
  unfold g2
  rw [show m2 (k + 1) = 256 * m2 k + 51 from rfl]
  generalize s1 k h = H
  generalize g1 b = c at *
  have e : (256 * H + c) / 4 = 256 * (H / 4) + (64 * (H % 4) + c / 4) := by omega
  rw [e, and_byte _ _ _ _ (by omega) (by omega), and_byte _ _ _ _ hg (by omega), byte_2 _ (by omega) _ hg]
  omega
theorem s2_low (k x : Nat) : s2 k x % 16 ≤ 4 := by
  cases k with
  | zero => simp [s2, s1, m1, m2]
  | succ k =>
    have e : x = 256 * (x / 256) + x % 256 := by omega
    rw [e, s2_byte k _ _ (by omega)]
    have := g2_lt (x % 256) (by omega)
    omega
theorem s3_byte (k x : Nat) : s3 (k + 1) x = 256 * s3 k (x / 256) + pb (x % 256) := by
  have e : x = 256 * (x / 256) + x % 256 := by omega
  conv => lhs; rw [e]
  unfold s3
  rw [s2_byte k _ _ (by omega)]
  have h2 := g2_lt (x % 256) (by omega)
  have hl := s2_low k (x / 256)
  rw [show m3 (k + 1) = 256 * m3 k + 15 from rfl]
  generalize s2 k (x / 256) = H at *
  generalize g2 (x % 256) = c at *
  have e : (256 * H + c) / 16 + (256 * H + c) = 256 * (H / 16 + H) + (16 * (H % 16) + c / 16 + c) := by omega
  rw [e, and_byte _ _ _ _ (by omega) (by omega)]
  have e2 : (16 * (H % 16) + c / 16 + c) &&& 15 = (16 * (H % 16) + c / 16 + c) % 16 := Nat.and_two_pow_sub_one_eq_mod _ 4
  rw [e2, ← h2.2.2]
  omega
theorem s1_lt (k x : Nat) : s1 k x < 256 ^ k := by
  induction k generalizing x with
  | zero => simp [s1, m1]
  | succ k ih =>
    have e : x = 256 * (x / 256) + x % 256 := by omega
    rw [e, s1_byte k _ _ (by omega), Nat.pow_succ]
    have := ih (x / 256)
    have := g1_lt (x % 256) (by omega)
    omega
theorem s2_lt (k x : Nat) : s2 k x < 256 ^ k := by
  induction k generalizing x with
  | zero => simp [s2, s1, m1, m2]
  | succ k ih =>
    have e : x = 256 * (x / 256) + x % 256 := by omega
    rw [e, s2_byte k _ _ (by omega), Nat.pow_succ]
    have := ih (x / 256)
    have := g2_lt (x % 256) (by omega)
    omega
/-- twice as much of it does not run over: its top byte is at most 68 -/
theorem s2_top (x : Nat) : s2 8 x / 16 + s2 8 x < 18446744073709551616 := by
  have h : ∀ k y, s2 (k + 1) y < 69 * 256 ^ k := by
    intro k
    induction k with
    | zero =>
      intro y
      have e : y = 256 * (y / 256) + y % 256 := by omega
      rw [e, s2_byte 0 _ _ (by omega)]
      have := g2_lt (y % 256) (by omega)
      have : s2 0 (y / 256) = 0 := by simp [s2, s1, m1, m2]
      omega
    | succ k ih =>
      intro y
      have e : y = 256 * (y / 256) + y % 256 := by omega
      rw [e, s2_byte (k + 1) _ _ (by omega), Nat.pow_succ]
      have := ih (y / 256)
      have := g2_lt (y % 256) (by omega)
      omega
  have := h 7 x
  rw [show (69 : Nat) * 256 ^ 7 = 4971973988617027584 from by decide +kernel] at this
  have e8 : s2 (7 + 1) x = s2 8 x := rfl
  omega
end Go.Proofs.YtidofbloppcpfaaDoor.Band
