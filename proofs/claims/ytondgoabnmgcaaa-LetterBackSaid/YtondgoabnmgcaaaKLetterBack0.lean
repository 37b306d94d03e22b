/- Texts of this claim, one behind the other (joined by pack.py): GCrc GBurst. -/
section
/- The sum of a text, in plain numbers: one step, eight steps a byte; its matrices. No program in sight. -/
namespace Go.Proofs.YtondgoabnmgcaaaG.Crc

def poly : Nat := 2197175160
def step (n : Nat) : Nat := if n % 2 = 1 then (n / 2) ^^^ poly else n / 2
def steps : Nat → Nat → Nat
  | 0, n => n
  | k + 1, n => steps k (step n)
def feed (n c : Nat) : Nat := steps 8 (n ^^^ c)
def run (l : List UInt8) (n : Nat) : Nat := l.foldl (fun n c => feed n c.toNat) n
def sum (l : List UInt8) : Nat := run l 4294967295 ^^^ 4294967295

theorem step_lt (n : Nat) (h : n < 4294967296) : step n < 4294967296 := by
  unfold step
  split
  · exact Nat.xor_lt_two_pow (n := 32) (by omega) (by decide)
  · omega
theorem steps_lt : ∀ (k n : Nat), n < 4294967296 → steps k n < 4294967296
  | 0, _, h => h
  | k + 1, n, h => steps_lt k _ (step_lt n h)
theorem steps_add : ∀ (j k n : Nat), steps (j + k) n = steps k (steps j n)
  | 0, k, n => by simp [steps]
  | j + 1, k, n => by rw [show j + 1 + k = (j + k) + 1 by omega]; simp only [steps]; exact steps_add j k _
theorem steps_succ (k n : Nat) : steps (k + 1) n = step (steps k n) := by rw [steps_add k 1 n]; rfl
theorem xor_div2 (a b : Nat) : (a ^^^ b) / 2 = a / 2 ^^^ b / 2 := by
  have h := Nat.shiftRight_xor_distrib (i := 1) (a := a) (b := b)
  simpa [Nat.shiftRight_eq_div_pow] using h
theorem xor_mod2 (a b : Nat) : (a ^^^ b) % 2 = (a % 2 + b % 2) % 2 := by
  have h := Nat.xor_mod_two_pow (a := a) (b := b) (n := 1)
  simp only [Nat.pow_one] at h
  rw [h]
  rcases Nat.mod_two_eq_zero_or_one a with ha | ha <;> rcases Nat.mod_two_eq_zero_or_one b with hb | hb <;> rw [ha, hb] <;> rfl
theorem xor_cancel (a b p : Nat) : (a ^^^ p) ^^^ (b ^^^ p) = a ^^^ b := by
  rw [Nat.xor_comm b p, Nat.xor_assoc, ← Nat.xor_assoc p p b, Nat.xor_self, Nat.zero_xor]
theorem step_xor (a b : Nat) : step (a ^^^ b) = step a ^^^ step b := by
  unfold step
  rw [xor_mod2, xor_div2]
  rcases Nat.mod_two_eq_zero_or_one a with ha | ha <;> rcases Nat.mod_two_eq_zero_or_one b with hb | hb <;> rw [ha, hb] <;> simp
  · rw [Nat.xor_assoc]
  · rw [Nat.xor_assoc, Nat.xor_assoc, Nat.xor_comm (b / 2) poly]
  · rw [xor_cancel]
theorem steps_xor : ∀ (k a b : Nat), steps k (a ^^^ b) = steps k a ^^^ steps k b
  | 0, _, _ => rfl
  | k + 1, a, b => by simp only [steps]; rw [step_xor, steps_xor]
theorem step_two (m : Nat) : step (2 * m) = m := by
  unfold step
  rw [if_neg (by omega)]
  omega
theorem steps_two : ∀ (k m : Nat), steps k (2 ^ k * m) = m
  | 0, m => by simp [steps]
  | k + 1, m => by
    simp only [steps]
    rw [show 2 ^ (k + 1) * m = 2 * (2 ^ k * m) by rw [Nat.pow_succ]; ac_rfl, step_two, steps_two]
theorem split16 (n : Nat) : 16 * (n / 16) ^^^ n % 16 = n := by
  have h : n % 16 < 2 ^ 4 := Nat.mod_lt _ (by decide)
  have h1 : n = 2 ^ 4 * (n / 16) + n % 16 := by omega
  apply Nat.eq_of_testBit_eq
  intro i
  rw [Nat.testBit_xor]
  conv => rhs; rw [h1, Nat.testBit_two_pow_mul_add _ h]
  rw [show 16 * (n / 16) = 2 ^ 4 * (n / 16) by rfl, Nat.testBit_two_pow_mul]
  by_cases hi : i < 4
  · simp [hi, show ¬ 4 ≤ i by omega]
  · have : (n % 16).testBit i = false := Nat.testBit_lt_two_pow (Nat.lt_of_lt_of_le h (Nat.pow_le_pow_right (by decide) (by omega)))
    simp [hi, this]
    omega
/-- half a byte by the table -/
theorem half (n : Nat) : n / 16 ^^^ steps 4 (n % 16) = steps 4 n := by
  conv => rhs; rw [← split16 n, steps_xor, show 16 * (n / 16) = 2 ^ 4 * (n / 16) by rfl, steps_two]
theorem feed_half (n c : Nat) : feed n c = steps 4 (steps 4 (n ^^^ c)) := by unfold feed; exact steps_add 4 4 _
theorem feed_lt (n : Nat) (c : UInt8) (h : n < 4294967296) : feed n c.toNat < 4294967296 := by
  unfold feed
  exact steps_lt _ _ (Nat.xor_lt_two_pow (n := 32) h (by have := c.toNat_lt; omega))
theorem run_lt : ∀ (l : List UInt8) (n : Nat), n < 4294967296 → run l n < 4294967296
  | [], _, h => h
  | c :: l, n, h => run_lt l _ (feed_lt n c h)
theorem run_append (a b : List UInt8) (n : Nat) : run (a ++ b) n = run b (run a n) := by unfold run; rw [List.foldl_append]
theorem run_xor : ∀ (l : List UInt8) (n m : Nat), run l (n ^^^ m) = run l n ^^^ steps (8 * l.length) m
  | [], n, m => by simp [run, steps]
  | c :: l, n, m => by
    show run l (feed (n ^^^ m) c.toNat) = run l (feed n c.toNat) ^^^ _
    have e : feed (n ^^^ m) c.toNat = feed n c.toNat ^^^ steps 8 m := by
      unfold feed
      rw [← steps_xor, Nat.xor_assoc, Nat.xor_comm m, ← Nat.xor_assoc]
    rw [e, run_xor l, show 8 * (c :: l).length = 8 + 8 * l.length by simp; omega, steps_add]
theorem sum_lt (l : List UInt8) : sum l < 4294967296 := Nat.xor_lt_two_pow (n := 32) (run_lt l _ (by decide)) (by decide)

end Go.Proofs.YtondgoabnmgcaaaG.Crc
end
section
/- Some bits turned, that are within 32 of one another: the sum's last state is another one. In plain numbers. -/
namespace Go.Proofs.YtondgoabnmgcaaaG.Crc

theorem step_ne {n : Nat} (h : n < 4294967296) (hz : step n = 0) : n = 0 := by
  unfold step at hz
  by_cases h1 : n % 2 = 1
  · rw [if_pos h1] at hz
    have e : n / 2 = poly := by
      have := congrArg (· ^^^ poly) hz
      simp only [Nat.xor_assoc, Nat.xor_self, Nat.xor_zero, Nat.zero_xor] at this
      exact this
    unfold poly at e
    omega
  · rw [if_neg h1] at hz
    omega
theorem steps_ne : ∀ (k : Nat) {n : Nat}, n < 4294967296 → steps k n = 0 → n = 0
  | 0, _, _, h => h
  | k + 1, n, hn, h => step_ne hn (steps_ne k (step_lt n hn) h)
/-- the last state of what was sealed is one and the same -/
theorem four_run (r n : Nat) (hn : n < 4294967296) (c0 c1 c2 c3 : UInt8) (h0 : c0.toNat = n % 256) (h1 : c1.toNat = n / 256 % 256) (h2 : c2.toNat = n / 65536 % 256) (h3 : c3.toNat = n / 16777216 % 256) :
    run [c0, c1, c2, c3] r = steps 32 (r ^^^ n) := by
  have hb : ∀ (m c : Nat), c < 256 → 256 * m + c = 256 * m ^^^ c := by
    intro m c hc
    have := Nat.two_pow_add_eq_or_of_lt (i := 8) (b := c) (by omega) m
    apply Nat.eq_of_testBit_eq
    intro i
    rw [show 256 * m + c = 2 ^ 8 * m + c by rfl, Nat.testBit_two_pow_mul_add _ (show c < 2 ^ 8 by omega), Nat.testBit_xor, show 256 * m = 2 ^ 8 * m by rfl, Nat.testBit_two_pow_mul]
    by_cases hi : i < 8
    · simp [hi, show ¬ 8 ≤ i by omega]
    · have : c.testBit i = false := Nat.testBit_lt_two_pow (Nat.lt_of_lt_of_le (show c < 2 ^ 8 by omega) (Nat.pow_le_pow_right (by decide) (by omega)))
      simp [hi, this]
      omega
  have s8 : ∀ m, steps 8 (256 * m) = m := fun m => steps_two 8 m
  have e3 : n / 16777216 < 256 := by omega
  have a0 : n = 256 * (n / 256) ^^^ n % 256 := by rw [← hb _ _ (by omega)]; omega
  have a1 : n / 256 = 256 * (n / 65536) ^^^ n / 256 % 256 := by rw [← hb _ _ (by omega)]; omega
  have a2 : n / 65536 = 256 * (n / 16777216) ^^^ n / 65536 % 256 := by rw [← hb _ _ (by omega)]; omega
  show feed (feed (feed (feed r c0.toNat) c1.toNat) c2.toNat) c3.toNat = _
  unfold feed
  rw [h0, h1, h2, h3, show n / 16777216 % 256 = n / 16777216 by omega]
  have f0 : steps 8 (r ^^^ n) = steps 8 (r ^^^ n % 256) ^^^ n / 256 := by
    conv => lhs; rw [a0, Nat.xor_comm (256 * _), ← Nat.xor_assoc, steps_xor, s8]
  have f1 : ∀ z, steps 8 (z ^^^ n / 256) = steps 8 (z ^^^ n / 256 % 256) ^^^ n / 65536 := by
    intro z
    conv => lhs; rw [a1, Nat.xor_comm (256 * _), ← Nat.xor_assoc, steps_xor, s8]
  have f2 : ∀ z, steps 8 (z ^^^ n / 65536) = steps 8 (z ^^^ n / 65536 % 256) ^^^ n / 16777216 := by
    intro z
    conv => lhs; rw [a2, Nat.xor_comm (256 * _), ← Nat.xor_assoc, steps_xor, s8]
  rw [show (32 : Nat) = 8 + (8 + (8 + 8)) by rfl, steps_add, f0, steps_add, f1, steps_add, f2]
end Go.Proofs.YtondgoabnmgcaaaG.Crc
end
