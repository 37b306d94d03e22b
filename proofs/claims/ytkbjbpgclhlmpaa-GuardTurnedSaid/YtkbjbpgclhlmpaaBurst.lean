/- Some bits turned, that are within 32 of one another: the sum's last state is another one. In plain numbers. -/
import Derived.Test.YtkbjbpgclhlmpaaCrc
namespace Go.Proofs.Ytkbjbpgclhlmpaa.Crc

theorem step_ne {n : Nat} (h : n < 4294967296) (hz : step n = 0) : n = 0 := by
  unfold step at hz
  by_cases h1 : n % 2 = 1
  · rw [if_pos h1] at hz
    have e : n / 2 = poly := by
      have := congrArg (· ^^^ poly) hz
      simp only [Nat.xor_assoc, Nat.xor_self, Nat.xor_zero, Nat.zero_xor] at this
      exact this
    unfold poly at e
    omega
  · rw [if_neg h1] at hz
    omega
theorem steps_ne : ∀ (k : Nat) {n : Nat}, n < 4294967296 → steps k n = 0 → n = 0
  | 0, _, _, h => h
  | k + 1, n, hn, h => step_ne hn (steps_ne k (step_lt n hn) h)
theorem steps_pow (n i : Nat) (h : i ≤ n) : steps n (2 ^ i) = steps (n - i) 1 := by
  rw [show n = i + (n - i) by omega, steps_add, show i + (n - i) - i = n - i by omega]
  have := steps_two i 1
  rw [Nat.mul_one] at this
  rw [this]
/-- the bit k of the bytes l, turned -/
def flip (l : List UInt8) (k : Nat) : List UInt8 := l.set (k / 8) (l.getD (k / 8) 0 ^^^ UInt8.ofNat (2 ^ (k % 8)))
theorem flip_len (l : List UInt8) (k : Nat) : (flip l k).length = l.length := by unfold flip; rw [List.length_set]
theorem pow8 (k : Nat) : (UInt8.ofNat (2 ^ (k % 8))).toNat = 2 ^ (k % 8) := by
  have h : 2 ^ (k % 8) < 2 ^ 8 := Nat.pow_lt_pow_right (by decide) (by omega)
  simp [UInt8.toNat_ofNat']
  exact h
theorem flip_run : ∀ (l : List UInt8) (k x : Nat), k < 8 * l.length → run (flip l k) x = run l x ^^^ steps (8 * l.length - k) 1
  | [], k, x, h => by simp at h
  | c :: l, k, x, h => by
    by_cases hk : k < 8
    · have e : k / 8 = 0 := by omega
      have em : k % 8 = k := by omega
      have hf : flip (c :: l) k = (c ^^^ UInt8.ofNat (2 ^ (k % 8))) :: l := by unfold flip; rw [e]; rfl
      rw [hf]
      show run l (feed x (c ^^^ UInt8.ofNat (2 ^ (k % 8))).toNat) = run l (feed x c.toNat) ^^^ _
      have e1 : feed x (c ^^^ UInt8.ofNat (2 ^ (k % 8))).toNat = feed x c.toNat ^^^ steps 8 (2 ^ k) := by
        unfold feed
        rw [UInt8.toNat_xor, pow8, em, ← Nat.xor_assoc, steps_xor]
      rw [e1, run_xor, ← steps_add, steps_pow _ _ (by omega), List.length_cons, show 8 + 8 * l.length - k = 8 * (l.length + 1) - k by omega]
    · have hf : flip (c :: l) k = c :: flip l (k - 8) := by
        unfold flip
        rw [show k / 8 = (k - 8) / 8 + 1 by omega, show (k - 8) % 8 = k % 8 by omega]
        rfl
      rw [hf]
      show run (flip l (k - 8)) (feed x c.toNat) = run l (feed x c.toNat) ^^^ _
      rw [flip_run l (k - 8) _ (by simp at h; omega), List.length_cons, show 8 * l.length - (k - 8) = 8 * (l.length + 1) - k by omega]
/-- the last state of what was sealed is one and the same -/
theorem four_run (r n : Nat) (hn : n < 4294967296) (c0 c1 c2 c3 : UInt8) (h0 : c0.toNat = n % 256) (h1 : c1.toNat = n / 256 % 256) (h2 : c2.toNat = n / 65536 % 256) (h3 : c3.toNat = n / 16777216 % 256) :
    run [c0, c1, c2, c3] r = steps 32 (r ^^^ n) := by
  have hb : ∀ (m c : Nat), c < 256 → 256 * m + c = 256 * m ^^^ c := by
    intro m c hc
    have := Nat.two_pow_add_eq_or_of_lt (i := 8) (b := c) (by omega) m
    apply Nat.eq_of_testBit_eq
    intro i
    rw [show 256 * m + c = 2 ^ 8 * m + c by rfl, Nat.testBit_two_pow_mul_add _ (show c < 2 ^ 8 by omega), Nat.testBit_xor, show 256 * m = 2 ^ 8 * m by rfl, Nat.testBit_two_pow_mul]
    by_cases hi : i < 8
    · simp [hi, show ¬ 8 ≤ i by omega]
    · have : c.testBit i = false := Nat.testBit_lt_two_pow (Nat.lt_of_lt_of_le (show c < 2 ^ 8 by omega) (Nat.pow_le_pow_right (by decide) (by omega)))
      simp [hi, this]
      omega
  have s8 : ∀ m, steps 8 (256 * m) = m := fun m => steps_two 8 m
  have e3 : n / 16777216 < 256 := by omega
  have a0 : n = 256 * (n / 256) ^^^ n % 256 := by rw [← hb _ _ (by omega)]; omega
  have a1 : n / 256 = 256 * (n / 65536) ^^^ n / 256 % 256 := by rw [← hb _ _ (by omega)]; omega
  have a2 : n / 65536 = 256 * (n / 16777216) ^^^ n / 65536 % 256 := by rw [← hb _ _ (by omega)]; omega
  show feed (feed (feed (feed r c0.toNat) c1.toNat) c2.toNat) c3.toNat = _
  unfold feed
  rw [h0, h1, h2, h3, show n / 16777216 % 256 = n / 16777216 by omega]
  have f0 : steps 8 (r ^^^ n) = steps 8 (r ^^^ n % 256) ^^^ n / 256 := by
    conv => lhs; rw [a0, Nat.xor_comm (256 * _), ← Nat.xor_assoc, steps_xor, s8]
  have f1 : ∀ z, steps 8 (z ^^^ n / 256) = steps 8 (z ^^^ n / 256 % 256) ^^^ n / 65536 := by
    intro z
    conv => lhs; rw [a1, Nat.xor_comm (256 * _), ← Nat.xor_assoc, steps_xor, s8]
  have f2 : ∀ z, steps 8 (z ^^^ n / 65536) = steps 8 (z ^^^ n / 65536 % 256) ^^^ n / 16777216 := by
    intro z
    conv => lhs; rw [a2, Nat.xor_comm (256 * _), ← Nat.xor_assoc, steps_xor, s8]
  rw [show (32 : Nat) = 8 + (8 + (8 + 8)) by rfl, steps_add, f0, steps_add, f1, steps_add, f2]
end Go.Proofs.Ytkbjbpgclhlmpaa.Crc
