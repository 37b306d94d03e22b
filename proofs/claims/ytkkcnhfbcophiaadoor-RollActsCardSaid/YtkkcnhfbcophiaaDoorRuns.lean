/- What band's functions come to at layer 7's seat: plain Lean. -/
import Derived.Test.YtkkcnhfbcophiaaDoorLess
import Derived.Test.YtkkcnhfbcophiaaDoorBits
namespace Go.Proofs.YtkkcnhfbcophiaaDoor.Band
open Go Go.RowKit Go.Proofs.YtkkcnhfbcophiaaDoor.B Go.Proofs.YtkkcnhfbcophiaaDoorW.PrintWords Go.Proofs.YtkkcnhfbcophiaaDoorW.PrintLast Go.Proofs.YtkkcnhfbcophiaaDoorW.PrintMore

theorem u64_cast (n : Nat) (h : n < 18446744073709551616) : IntKind.u64.wrap (n : Int) = (n : Int) := by rw [IntKind.wrap_u64]; omega
theorem testBit_hi (c : Nat) (hc : c < 18446744073709551616) (i : Nat) (hi : 64 ≤ i) : c.testBit i = false := Nat.testBit_lt_two_pow (Nat.lt_of_lt_of_le hc (Nat.le_trans (by decide +kernel : 18446744073709551616 ≤ 2 ^ 64) (Nat.pow_le_pow_right (by decide) hi)))
theorem eq_of_bits {a b : Nat} (ha : a < 18446744073709551616) (hb : b < 18446744073709551616) (h : ∀ i < 64, a.testBit i = b.testBit i) : a = b := by
  apply Nat.eq_of_testBit_eq
  intro i
  by_cases hi : i < 64
  · exact h i hi
  · rw [testBit_hi a ha i (by omega), testBit_hi b hb i (by omega)]
/-- a with b's bits off -/
def clr (a b : Nat) : Nat := a &&& (18446744073709551616 - 1 - b)
theorem clr_lt (a b : Nat) (ha : a < 18446744073709551616) : clr a b < 18446744073709551616 := Nat.lt_of_le_of_lt Nat.and_le_left ha
theorem clr_bit (a b : Nat) (hb : b < 18446744073709551616) (i : Nat) (hi : i < 64) : (clr a b).testBit i = (a.testBit i && !b.testBit i) := by
  have h64 : (2 : Nat) ^ 64 = 18446744073709551616 := by decide +kernel
  have e : 18446744073709551616 - 1 - b = 2 ^ 64 - (b + 1) := by omega
  unfold clr
  rw [Nat.testBit_and, e, Nat.testBit_two_pow_sub_succ (by omega)]
  simp [hi]
theorem andNot_nat (a b : Nat) (ha : a < 18446744073709551616) (hb : b < 18446744073709551616) : bits .andNot .u64 (a : Int) (b : Int) = ((clr a b : Nat) : Int) := by
  have h1 : (BitVec.ofInt 64 (a : Int)).toNat = a := by
    rw [BitVec.ofInt_natCast, BitVec.toNat_ofNat]; exact Nat.mod_eq_of_lt (by omega)
  have h2 : (BitVec.ofInt 64 (b : Int)).toNat = b := by
    rw [BitVec.ofInt_natCast, BitVec.toNat_ofNat]; exact Nat.mod_eq_of_lt (by omega)
  show IntKind.u64.wrap ((BitVec.ofInt 64 (a : Int) &&& ~~~BitVec.ofInt 64 (b : Int)).toNat : Int) = _
  rw [BitVec.toNat_and, BitVec.toNat_not, h1, h2]
  have e : (2 : Nat) ^ 64 - 1 - b = 18446744073709551616 - 1 - b := by rw [show (2 : Nat) ^ 64 = 18446744073709551616 from by decide +kernel]
  rw [e]
  exact u64_cast _ (clr_lt a b ha)
theorem or_lt (a b : Nat) (ha : a < 18446744073709551616) (hb : b < 18446744073709551616) : a ||| b < 18446744073709551616 := by
  have h := Nat.or_lt_two_pow (n := 64) (show a < 2 ^ 64 from by rw [show (2 : Nat) ^ 64 = 18446744073709551616 from by decide +kernel]; exact ha) (show b < 2 ^ 64 from by rw [show (2 : Nat) ^ 64 = 18446744073709551616 from by decide +kernel]; exact hb)
  rwa [show (2 : Nat) ^ 64 = 18446744073709551616 from by decide +kernel] at h
theorem and_lt (a b : Nat) (ha : a < 18446744073709551616) : a &&& b < 18446744073709551616 := Nat.lt_of_le_of_lt Nat.and_le_left ha

def bitN (n : Int) : Nat := if 0 ≤ n ∧ n ≤ 63 then 2 ^ n.toNat else 0
theorem two_pow_lt (k : Nat) (hk : k ≤ 63) : 2 ^ k < 18446744073709551616 := by
  have := Nat.pow_le_pow_right (n := 2) (by decide) hk
  have e : (2 : Nat) ^ 63 = 9223372036854775808 := by decide +kernel
  omega
theorem bitN_lt (n : Int) : bitN n < 18446744073709551616 := by
  unfold bitN
  split
  · exact two_pow_lt _ (by omega)
  · decide
theorem shl_one (n : Int) (h0 : 0 ≤ n) (h1 : n ≤ 63) : shl .u64 1 n = ((2 ^ n.toNat : Nat) : Int) := by
  unfold shl
  rw [show IntKind.u64.bits = 64 from rfl, Nat.min_eq_left (by omega), Int.one_mul]
  have := u64_cast _ (two_pow_lt n.toNat (by omega))
  rw [← this]
  congr 1
theorem bit_run (n : Int) : band_bit.f n = some ((bitN n : Nat) : Int) := by
  unfold band_bit.f bitN
  by_cases h0 : n < 0
  · rw [if_pos h0, if_neg (by omega)]; rfl
  · rw [if_neg h0]
    by_cases h1 : n > 63
    · rw [if_pos h1, if_neg (by omega)]; rfl
    · rw [if_neg h1, if_pos (by omega), if_pos (by omega), shl_one n (by omega) (by omega)]
theorem and_pow (c k : Nat) : c &&& 2 ^ k = if c.testBit k = true then 2 ^ k else 0 := by
  apply Nat.eq_of_testBit_eq
  intro i
  rw [Nat.testBit_and, Nat.testBit_two_pow]
  by_cases h : c.testBit k = true
  · rw [if_pos h, Nat.testBit_two_pow]
    by_cases e : k = i
    · subst e; simp [h]
    · simp [e]
  · rw [if_neg h, Nat.zero_testBit]
    by_cases e : k = i
    · subst e; simp [h]
    · simp [e]
def hasN (c : Nat) (n : Int) : Bool := decide (0 ≤ n ∧ n ≤ 63) && c.testBit n.toNat
theorem has_run (c : Nat) (hc : c < 18446744073709551616) (n : Int) : band_Has.f c n = some (hasN c n) := by
  unfold band_Has.f
  rw [bit_run]
  simp only [Option.bind_some]
  rw [bits_and_u64_nat c _ hc (bitN_lt n)]
  unfold hasN bitN
  by_cases h : 0 ≤ n ∧ n ≤ 63
  · rw [if_pos h, and_pow, decide_eq_true h, Bool.true_and]
    have h3 := Nat.two_pow_pos n.toNat
    by_cases hb : c.testBit n.toNat = true
    · rw [if_pos hb, hb]
      congr 1
      rw [bne_iff_ne]
      omega
    · rw [if_neg hb]
      rw [Bool.not_eq_true] at hb
      rw [hb]
      rfl
  · rw [if_neg h, decide_eq_false h]
    simp
theorem with_run (c : Nat) (hc : c < 18446744073709551616) (n : Int) : band_With.f c n = some ((c ||| bitN n : Nat) : Int) := by
  unfold band_With.f
  rw [bit_run]
  simp only [Option.bind_some]
  rw [bits_or_u64_nat c _ hc (bitN_lt n)]
theorem less_run (c : Nat) (hc : c < 18446744073709551616) (n : Int) : band_Less.f c n = some ((clr c (bitN n) : Nat) : Int) := by
  unfold band_Less.f
  rw [bit_run]
  simp only [Option.bind_some]
  rw [andNot_nat c _ hc (bitN_lt n)]
theorem bitN_bit (n : Int) (i : Nat) : (bitN n).testBit i = decide (0 ≤ n ∧ n ≤ 63 ∧ n = i) := by
  unfold bitN
  by_cases h : 0 ≤ n ∧ n ≤ 63
  · rw [if_pos h, Nat.testBit_two_pow, decide_eq_decide]; omega
  · rw [if_neg h, Nat.zero_testBit]; symm; rw [decide_eq_false_iff_not]; omega
theorem mem_bandL (c : Nat) (x : Int) : x ∈ bandL c ↔ ∃ i : Nat, i < 64 ∧ c.testBit i = true ∧ x = i := by
  unfold bandL
  simp only [List.mem_map, List.mem_filter, List.mem_range]
  constructor
  · rintro ⟨i, ⟨hi, hb⟩, rfl⟩
    exact ⟨i, hi, hb, rfl⟩
  · rintro ⟨i, hi, hb, rfl⟩
    exact ⟨i, ⟨hi, hb⟩, rfl⟩
theorem bandL_filter (a c : Nat) (q : Nat → Bool) (h : ∀ i < 64, a.testBit i = (c.testBit i && q i)) : bandL a = (bandL c).filter (fun x => q x.toNat) := by
  unfold bandL
  rw [List.filter_map, List.filter_filter]
  congr 1
  apply List.filter_congr
  intro i hi
  rw [h i (List.mem_range.1 hi), Bool.and_comm]
  rfl
theorem bandL_sorted (c : Nat) : (bandL c).Pairwise (· < ·) := by
  unfold bandL
  rw [List.pairwise_map]
  refine ((List.pairwise_lt_range (n := 64)).filter _).imp ?_
  intro a b h
  exact Int.ofNat_lt.2 h
theorem bits_mem (c : Nat) (i : Nat) (hi : i < 64) : c.testBit i = decide ((i : Int) ∈ bandL c) := by
  by_cases h : c.testBit i = true
  · rw [h, decide_eq_true ((mem_bandL c _).2 ⟨i, hi, h, rfl⟩)]
  · rw [Bool.not_eq_true] at h
    rw [h]
    symm
    rw [decide_eq_false_iff_not]
    intro hm
    obtain ⟨k, _, hb, e⟩ := (mem_bandL c _).1 hm
    obtain rfl : i = k := by omega
    rw [h] at hb
    cases hb
theorem wf_u64 {a : Int} (h : (Lit.int .u64 a).wf = true) : ∃ c : Nat, a = c ∧ c < 18446744073709551616 := by
  simp [Lit.wf, IntKind.min, IntKind.max, IntKind.signed, IntKind.bits] at h
  exact ⟨a.toNat, by omega, by omega⟩
theorem wf_i64 {a : Int} (h : (Lit.int .i64 a).wf = true) : -9223372036854775808 ≤ a ∧ a ≤ 9223372036854775807 := by
  simp [Lit.wf, IntKind.min, IntKind.max, IntKind.signed, IntKind.bits] at h; omega
theorem wf_u8 {a : Int} (h : (Lit.int .u8 a).wf = true) : 0 ≤ a ∧ a ≤ 255 := by
  simp [Lit.wf, IntKind.min, IntKind.max, IntKind.signed, IntKind.bits] at h; omega
theorem mod64 {a : Int} (h : 0 ≤ a ∧ a ≤ 255) : ∃ k : Nat, Int.tmod (wrap64 a) 64 = k ∧ k ≤ 63 := by
  rw [show wrap64 a = a by unfold wrap64; omega, Int.tmod_eq_emod_of_nonneg h.1]
  exact ⟨(a % 64).toNat, by omega, by omega⟩
end Go.Proofs.YtkkcnhfbcophiaaDoor.Band
