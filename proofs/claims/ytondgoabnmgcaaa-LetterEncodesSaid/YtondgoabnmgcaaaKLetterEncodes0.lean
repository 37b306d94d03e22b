/- Texts of this claim, one behind the other (joined by pack.py): GCrc GBurst. -/
section
/- The sum of a text, in plain numbers: one step, eight steps a byte; its matrices. No program in sight. -/
namespace Go.Proofs.YtondgoabnmgcaaaG.Crc

def poly : Nat := 2197175160
def step (n : Nat) : Nat := if n % 2 = 1 then (n / 2) ^^^ poly else n / 2
def steps : Nat → Nat → Nat
  | 0, n => n
  | k + 1, n => steps k (step n)
def feed (n c : Nat) : Nat := steps 8 (n ^^^ c)
def run (l : List UInt8) (n : Nat) : Nat := l.foldl (fun n c => feed n c.toNat) n
def sum (l : List UInt8) : Nat := run l 4294967295 ^^^ 4294967295

theorem step_lt (n : Nat) (h : n < 4294967296) : step n < 4294967296 := by
  unfold step
  split
  · exact Nat.xor_lt_two_pow (n := 32) (by omega) (by decide)
  · omega
theorem steps_lt : ∀ (k n : Nat), n < 4294967296 → steps k n < 4294967296
  | 0, _, h => h
  | k + 1, n, h => steps_lt k _ (step_lt n h)
theorem steps_add : ∀ (j k n : Nat), steps (j + k) n = steps k (steps j n)
  | 0, k, n => by simp [steps]
  | j + 1, k, n => by rw [show j + 1 + k = (j + k) + 1 by omega]; simp only [steps]; exact steps_add j k _
theorem steps_succ (k n : Nat) : steps (k + 1) n = step (steps k n) := by rw [steps_add k 1 n]; rfl
theorem xor_div2 (a b : Nat) : (a ^^^ b) / 2 = a / 2 ^^^ b / 2 := by
  have h := Nat.shiftRight_xor_distrib (i := 1) (a := a) (b := b)
  simpa [Nat.shiftRight_eq_div_pow] using h
theorem xor_mod2 (a b : Nat) : (a ^^^ b) % 2 = (a % 2 + b % 2) % 2 := by
  have h := Nat.xor_mod_two_pow (a := a) (b := b) (n := 1)
  simp only [Nat.pow_one] at h
  rw [h]
  rcases Nat.mod_two_eq_zero_or_one a with ha | ha <;> rcases Nat.mod_two_eq_zero_or_one b with hb | hb <;> rw [ha, hb] <;> rfl
theorem xor_cancel (a b p : Nat) : (a ^^^ p) ^^^ (b ^^^ p) = a ^^^ b := by
  rw [Nat.xor_comm b p, Nat.xor_assoc, ← Nat.xor_assoc p p b, Nat.xor_self, Nat.zero_xor]
theorem step_xor (a b : Nat) : step (a ^^^ b) = step a ^^^ step b := by
  unfold step
  rw [xor_mod2, xor_div2]
  rcases Nat.mod_two_eq_zero_or_one a with ha | ha <;> rcases Nat.mod_two_eq_zero_or_one b with hb | hb <;> rw [ha, hb] <;> simp
  · rw [Nat.xor_assoc]
  · rw [Nat.xor_assoc, Nat.xor_assoc, Nat.xor_comm (b / 2) poly]
  · rw [xor_cancel]
theorem steps_xor : ∀ (k a b : Nat), steps k (a ^^^ b) = steps k a ^^^ steps k b
  | 0, _, _ => rfl
  | k + 1, a, b => by simp only [steps]; rw [step_xor, steps_xor]
theorem step_two (m : Nat) : step (2 * m) = m := by
  unfold step
  rw [if_neg (by omega)]
  omega
theorem steps_two : ∀ (k m : Nat), steps k (2 ^ k * m) = m
  | 0, m => by simp [steps]
  | k + 1, m => by
    simp only [steps]
    rw [show 2 ^ (k + 1) * m = 2 * (2 ^ k * m) by rw [Nat.pow_succ]; ac_rfl, step_two, steps_two]
theorem split16 (n : Nat) : 16 * (n / 16) ^^^ n % 16 = n := by
  have h : n % 16 < 2 ^ 4 := Nat.mod_lt _ (by decide)
  have h1 : n = 2 ^ 4 * (n / 16) + n % 16 := by omega
  apply Nat.eq_of_testBit_eq
  intro i
  rw [Nat.testBit_xor]
  conv => rhs; rw [h1, Nat.testBit_two_pow_mul_add _ h]
  rw [show 16 * (n / 16) = 2 ^ 4 * (n / 16) by rfl, Nat.testBit_two_pow_mul]
  by_cases hi : i < 4
  · simp [hi, show ¬ 4 ≤ i by omega]
  · have : (n % 16).testBit i = false := Nat.testBit_lt_two_pow (Nat.lt_of_lt_of_le h (Nat.pow_le_pow_right (by decide) (by omega)))
    simp [hi, this]
    omega
/-- half a byte by the table -/
theorem half (n : Nat) : n / 16 ^^^ steps 4 (n % 16) = steps 4 n := by
  conv => rhs; rw [← split16 n, steps_xor, show 16 * (n / 16) = 2 ^ 4 * (n / 16) by rfl, steps_two]
theorem feed_half (n c : Nat) : feed n c = steps 4 (steps 4 (n ^^^ c)) := by unfold feed; exact steps_add 4 4 _
end Go.Proofs.YtondgoabnmgcaaaG.Crc
end
section
/- Some bits turned, that are within 32 of one another: the sum's last state is another one. In plain numbers. -/
namespace Go.Proofs.YtondgoabnmgcaaaG.Crc

end Go.Proofs.YtondgoabnmgcaaaG.Crc
end
