/- The sum of a text, in plain numbers: one step, eight steps a byte; its matrices. No program in sight. -/
namespace Go.Proofs.Ytkbjbpgclhlmpaa.Crc

def poly : Nat := 2197175160
def step (n : Nat) : Nat := if n % 2 = 1 then (n / 2) ^^^ poly else n / 2
def steps : Nat → Nat → Nat
  | 0, n => n
  | k + 1, n => steps k (step n)
def feed (n c : Nat) : Nat := steps 8 (n ^^^ c)
def run (l : List UInt8) (n : Nat) : Nat := l.foldl (fun n c => feed n c.toNat) n
def sum (l : List UInt8) : Nat := run l 4294967295 ^^^ 4294967295

theorem step_lt (n : Nat) (h : n < 4294967296) : step n < 4294967296 := by
  unfold step
  split
  · exact Nat.xor_lt_two_pow (n := 32) (by omega) (by decide)
  · omega
theorem steps_lt : ∀ (k n : Nat), n < 4294967296 → steps k n < 4294967296
  | 0, _, h => h
  | k + 1, n, h => steps_lt k _ (step_lt n h)
theorem steps_add : ∀ (j k n : Nat), steps (j + k) n = steps k (steps j n)
  | 0, k, n => by simp [steps]
  | j + 1, k, n => by rw [show j + 1 + k = (j + k) + 1 by omega]; simp only [steps]; exact steps_add j k _
theorem steps_succ (k n : Nat) : steps (k + 1) n = step (steps k n) := by rw [steps_add k 1 n]; rfl
theorem xor_div2 (a b : Nat) : (a ^^^ b) / 2 = a / 2 ^^^ b / 2 := by
  have h := Nat.shiftRight_xor_distrib (i := 1) (a := a) (b := b)
  simpa [Nat.shiftRight_eq_div_pow] using h
theorem xor_mod2 (a b : Nat) : (a ^^^ b) % 2 = (a % 2 + b % 2) % 2 := by
  have h := Nat.xor_mod_two_pow (a := a) (b := b) (n := 1)
  simp only [Nat.pow_one] at h
  rw [h]
  rcases Nat.mod_two_eq_zero_or_one a with ha | ha <;> rcases Nat.mod_two_eq_zero_or_one b with hb | hb <;> rw [ha, hb] <;> rfl
theorem xor_cancel (a b p : Nat) : (a ^^^ p) ^^^ (b ^^^ p) = a ^^^ b := by
  rw [Nat.xor_comm b p, Nat.xor_assoc, ← Nat.xor_assoc p p b, Nat.xor_self, Nat.zero_xor]
theorem step_xor (a b : Nat) : step (a ^^^ b) = step a ^^^ step b := by
  unfold step
  rw [xor_mod2, xor_div2]
  rcases Nat.mod_two_eq_zero_or_one a with ha | ha <;> rcases Nat.mod_two_eq_zero_or_one b with hb | hb <;> rw [ha, hb] <;> simp
  · rw [Nat.xor_assoc]
  · rw [Nat.xor_assoc, Nat.xor_assoc, Nat.xor_comm (b / 2) poly]
  · rw [xor_cancel]
theorem steps_xor : ∀ (k a b : Nat), steps k (a ^^^ b) = steps k a ^^^ steps k b
  | 0, _, _ => rfl
  | k + 1, a, b => by simp only [steps]; rw [step_xor, steps_xor]
theorem step_two (m : Nat) : step (2 * m) = m := by
  unfold step
  rw [if_neg (by omega)]
  omega
theorem steps_two : ∀ (k m : Nat), steps k (2 ^ k * m) = m
  | 0, m => by simp [steps]
  | k + 1, m => by
    simp only [steps]
    rw [show 2 ^ (k + 1) * m = 2 * (2 ^ k * m) by rw [Nat.pow_succ]; ac_rfl, step_two, steps_two]
theorem step_zero : step 0 = 0 := rfl
theorem steps_zero : ∀ k, steps k 0 = 0
  | 0 => rfl
  | k + 1 => by simp only [steps]; rw [step_zero, steps_zero]
theorem split16 (n : Nat) : 16 * (n / 16) ^^^ n % 16 = n := by
  have h : n % 16 < 2 ^ 4 := Nat.mod_lt _ (by decide)
  have h1 : n = 2 ^ 4 * (n / 16) + n % 16 := by omega
  apply Nat.eq_of_testBit_eq
  intro i
  rw [Nat.testBit_xor]
  conv => rhs; rw [h1, Nat.testBit_two_pow_mul_add _ h]
  rw [show 16 * (n / 16) = 2 ^ 4 * (n / 16) by rfl, Nat.testBit_two_pow_mul]
  by_cases hi : i < 4
  · simp [hi, show ¬ 4 ≤ i by omega]
  · have : (n % 16).testBit i = false := Nat.testBit_lt_two_pow (Nat.lt_of_lt_of_le h (Nat.pow_le_pow_right (by decide) (by omega)))
    simp [hi, this]
    omega
/-- half a byte by the table -/
theorem half (n : Nat) : n / 16 ^^^ steps 4 (n % 16) = steps 4 n := by
  conv => rhs; rw [← split16 n, steps_xor, show 16 * (n / 16) = 2 ^ 4 * (n / 16) by rfl, steps_two]
theorem feed_half (n c : Nat) : feed n c = steps 4 (steps 4 (n ^^^ c)) := by unfold feed; exact steps_add 4 4 _
theorem feed_lt (n : Nat) (c : UInt8) (h : n < 4294967296) : feed n c.toNat < 4294967296 := by
  unfold feed
  exact steps_lt _ _ (Nat.xor_lt_two_pow (n := 32) h (by have := c.toNat_lt; omega))
theorem run_lt : ∀ (l : List UInt8) (n : Nat), n < 4294967296 → run l n < 4294967296
  | [], _, h => h
  | c :: l, n, h => run_lt l _ (feed_lt n c h)
theorem run_append (a b : List UInt8) (n : Nat) : run (a ++ b) n = run b (run a n) := by unfold run; rw [List.foldl_append]
theorem run_xor : ∀ (l : List UInt8) (n m : Nat), run l (n ^^^ m) = run l n ^^^ steps (8 * l.length) m
  | [], n, m => by simp [run, steps]
  | c :: l, n, m => by
    show run l (feed (n ^^^ m) c.toNat) = run l (feed n c.toNat) ^^^ _
    have e : feed (n ^^^ m) c.toNat = feed n c.toNat ^^^ steps 8 m := by
      unfold feed
      rw [← steps_xor, Nat.xor_assoc, Nat.xor_comm m, ← Nat.xor_assoc]
    rw [e, run_xor l, show 8 * (c :: l).length = 8 + 8 * l.length by simp; omega, steps_add]
theorem sum_lt (l : List UInt8) : sum l < 4294967296 := Nat.xor_lt_two_pow (n := 32) (run_lt l _ (by decide)) (by decide)

/-! ### matrices: what each bit becomes -/
/-- the sum of those of l (the first is of bit 0) whose bit is in n -/
def times : List Nat → Nat → Nat
  | [], _ => 0
  | m :: l, n => (if n % 2 = 1 then m else 0) ^^^ times l (n / 2)
def lin (F : Nat → Nat) : Prop := ∀ a b, F (a ^^^ b) = F a ^^^ F b
def mat (F : Nat → Nat) (i : Nat) : Nat → List Nat
  | 0 => []
  | k + 1 => F (2 ^ i) :: mat F (i + 1) k
theorem lin_zero {F : Nat → Nat} (h : lin F) : F 0 = 0 := by
  have := h 0 0
  rw [Nat.xor_self] at this
  rw [this, Nat.xor_self]
theorem split2 (i n : Nat) : (if n % 2 = 1 then 2 ^ i else 0) ^^^ 2 ^ (i + 1) * (n / 2) = 2 ^ i * n := by
  have hn : n = 2 * (n / 2) + n % 2 := by omega
  have h1 : 2 ^ i * n = 2 ^ (i + 1) * (n / 2) + (if n % 2 = 1 then 2 ^ i else 0) := by
    conv => lhs; rw [hn]
    rw [Nat.pow_succ, Nat.mul_add, Nat.mul_assoc]
    rcases Nat.mod_two_eq_zero_or_one n with h | h <;> simp [h]
  have hlt : (if n % 2 = 1 then 2 ^ i else 0) < 2 ^ (i + 1) := by
    have : 2 ^ i < 2 ^ (i + 1) := Nat.pow_lt_pow_right (by decide) (by omega)
    split
    · exact this
    · exact Nat.lt_of_le_of_lt (Nat.zero_le _) this
  apply Nat.eq_of_testBit_eq
  intro j
  rw [h1, Nat.testBit_two_pow_mul_add _ hlt, Nat.testBit_xor, Nat.testBit_two_pow_mul]
  by_cases hj : j < i + 1
  · simp [hj, show ¬ i + 1 ≤ j by omega]
  · have : (if n % 2 = 1 then 2 ^ i else 0).testBit j = false := Nat.testBit_lt_two_pow (Nat.lt_of_lt_of_le hlt (Nat.pow_le_pow_right (by decide) (by omega)))
    simp [hj, this]
    omega
theorem times_mat (F : Nat → Nat) (h : lin F) : ∀ (k i n : Nat), n < 2 ^ k → times (mat F i k) n = F (2 ^ i * n)
  | 0, i, n, hn => by
    have : n = 0 := by simpa using hn
    subst this
    simp [mat, times, lin_zero h]
  | k + 1, i, n, hn => by
    simp only [mat, times]
    rw [times_mat F h k (i + 1) (n / 2) (by rw [Nat.pow_succ] at hn; omega)]
    conv => rhs; rw [← split2 i n, h]
    congr 1
    split
    · rfl
    · exact (lin_zero h).symm
theorem steps_lin (k : Nat) : lin (steps k) := steps_xor k
end Go.Proofs.Ytkbjbpgclhlmpaa.Crc
