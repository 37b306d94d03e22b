/- What the functions of band, and the document's, come to, on numbers below 2^64: plain Lean. -/
import Derived.Test.YtidofbloppcpfaaDoorOnes
import Derived.Test.YtidofbloppcpfaaDoorB4
namespace Go.Proofs.YtidofbloppcpfaaDoor.Band
open Go Go.RowKit Go.Proofs.YtidofbloppcpfaaDoor.B Go.Proofs.YtidofbloppcpfaaDoorW.PrintWords Go.Proofs.YtidofbloppcpfaaDoorW.PrintLast Go.Proofs.YtidofbloppcpfaaDoorW.PrintMore

theorem testBit_hi (c : Nat) (hc : c < 18446744073709551616) (i : Nat) (hi : 64 ≤ i) : c.testBit i = false := Nat.testBit_lt_two_pow (Nat.lt_of_lt_of_le hc (Nat.le_trans (by decide +kernel : 18446744073709551616 ≤ 2 ^ 64) (Nat.pow_le_pow_right (by decide) hi)))
theorem eq_of_bits {a b : Nat} (ha : a < 18446744073709551616) (hb : b < 18446744073709551616) (h : ∀ i < 64, a.testBit i = b.testBit i) : a = b := by
  apply Nat.eq_of_testBit_eq
  intro i
  by_cases hi : i < 64
  · exact h i hi
  · rw [testBit_hi a ha i (by omega), testBit_hi b hb i (by omega)]
/-- a with b's bits off -/
def clr (a b : Nat) : Nat := a &&& (18446744073709551616 - 1 - b)
theorem clr_lt (a b : Nat) (ha : a < 18446744073709551616) : clr a b < 18446744073709551616 := Nat.lt_of_le_of_lt Nat.and_le_left ha
theorem clr_bit (a b : Nat) (hb : b < 18446744073709551616) (i : Nat) (hi : i < 64) : (clr a b).testBit i = (a.testBit i && !b.testBit i) := by
  have h64 : (2 : Nat) ^ 64 = 18446744073709551616 := by decide +kernel
  have e : 18446744073709551616 - 1 - b = 2 ^ 64 - (b + 1) := by omega
  unfold clr
  rw [Nat.testBit_and, e, Nat.testBit_two_pow_sub_succ (by omega)]
  simp [hi]
theorem andNot_nat (a b : Nat) (ha : a < 18446744073709551616) (hb : b < 18446744073709551616) : bits .andNot .u64 (a : Int) (b : Int) = ((clr a b : Nat) : Int) := by
  have h1 : (BitVec.ofInt 64 (a : Int)).toNat = a := by
    rw [BitVec.ofInt_natCast, BitVec.toNat_ofNat]; exact Nat.mod_eq_of_lt (by omega)
  have h2 : (BitVec.ofInt 64 (b : Int)).toNat = b := by
    rw [BitVec.ofInt_natCast, BitVec.toNat_ofNat]; exact Nat.mod_eq_of_lt (by omega)
  show IntKind.u64.wrap ((BitVec.ofInt 64 (a : Int) &&& ~~~BitVec.ofInt 64 (b : Int)).toNat : Int) = _
  rw [BitVec.toNat_and, BitVec.toNat_not, h1, h2]
  have e : (2 : Nat) ^ 64 - 1 - b = 18446744073709551616 - 1 - b := by rw [show (2 : Nat) ^ 64 = 18446744073709551616 from by decide +kernel]
  rw [e]
  exact u64_cast _ (clr_lt a b ha)
theorem or_lt (a b : Nat) (ha : a < 18446744073709551616) (hb : b < 18446744073709551616) : a ||| b < 18446744073709551616 := by
  have h := Nat.or_lt_two_pow (n := 64) (show a < 2 ^ 64 from by rw [show (2 : Nat) ^ 64 = 18446744073709551616 from by decide +kernel]; exact ha) (show b < 2 ^ 64 from by rw [show (2 : Nat) ^ 64 = 18446744073709551616 from by decide +kernel]; exact hb)
  rwa [show (2 : Nat) ^ 64 = 18446744073709551616 from by decide +kernel] at h
theorem and_lt (a b : Nat) (ha : a < 18446744073709551616) : a &&& b < 18446744073709551616 := Nat.lt_of_le_of_lt Nat.and_le_left ha

/-! ### single bits -/
def bitN (n : Int) : Nat := if 0 ≤ n ∧ n ≤ 63 then 2 ^ n.toNat else 0
theorem two_pow_lt (k : Nat) (hk : k ≤ 63) : 2 ^ k < 18446744073709551616 := by
  have := Nat.pow_le_pow_right (n := 2) (by decide) hk
  have e : (2 : Nat) ^ 63 = 9223372036854775808 := by decide +kernel
  omega
theorem bitN_lt (n : Int) : bitN n < 18446744073709551616 := by
  unfold bitN
  split
  · exact two_pow_lt _ (by omega)
  · decide
theorem shl_one (n : Int) (h0 : 0 ≤ n) (h1 : n ≤ 63) : shl .u64 1 n = ((2 ^ n.toNat : Nat) : Int) := by
  unfold shl
  rw [show IntKind.u64.bits = 64 from rfl, Nat.min_eq_left (by omega), Int.one_mul]
  have := u64_cast _ (two_pow_lt n.toNat (by omega))
  rw [← this]
  congr 1
theorem bit_run (n : Int) : band_bit.f n = some ((bitN n : Nat) : Int) := by
  unfold band_bit.f bitN
  by_cases h0 : n < 0
  · rw [if_pos h0, if_neg (by omega)]; rfl
  · rw [if_neg h0]
    by_cases h1 : n > 63
    · rw [if_pos h1, if_neg (by omega)]; rfl
    · rw [if_neg h1, if_pos (by omega), if_pos (by omega), shl_one n (by omega) (by omega)]
def belN (n : Int) : Nat := 2 ^ min n.toNat 64 - 1
theorem belN_lt (n : Int) : belN n < 18446744073709551616 := by
  unfold belN
  have := Nat.pow_le_pow_right (n := 2) (by decide) (Nat.min_le_right n.toNat 64)
  have e : (2 : Nat) ^ 64 = 18446744073709551616 := by decide +kernel
  have := Nat.two_pow_pos (min n.toNat 64)
  omega
theorem belN_bit (n : Int) (i : Nat) (hi : i < 64) : (belN n).testBit i = decide ((i : Int) < n) := by
  unfold belN
  rw [Nat.testBit_two_pow_sub_one]
  simp only [decide_eq_decide]
  omega
theorem below_run (n : Int) : band_below.f n = some ((belN n : Nat) : Int) := by
  unfold band_below.f belN
  by_cases h0 : n ≤ 0
  · rw [if_pos h0, show n.toNat = 0 from by omega]; rfl
  · rw [if_neg h0]
    by_cases h1 : n > 63
    · rw [if_pos h1, Nat.min_eq_right (by omega)]; rfl
    · rw [if_neg h1, if_pos (by omega), shl_one n (by omega) (by omega), Nat.min_eq_left (by omega)]
      have h2 := two_pow_lt n.toNat (by omega)
      have h3 := Nat.two_pow_pos n.toNat
      generalize 2 ^ n.toNat = t at *
      rw [show (t : Int) - 1 = ((t - 1 : Nat) : Int) from by omega, u64_cast _ (by omega)]
theorem and_pow (c k : Nat) : c &&& 2 ^ k = if c.testBit k = true then 2 ^ k else 0 := by
  apply Nat.eq_of_testBit_eq
  intro i
  rw [Nat.testBit_and, Nat.testBit_two_pow]
  by_cases h : c.testBit k = true
  · rw [if_pos h, Nat.testBit_two_pow]
    by_cases e : k = i
    · subst e; simp [h]
    · simp [e]
  · rw [if_neg h, Nat.zero_testBit]
    by_cases e : k = i
    · subst e; simp [h]
    · simp [e]
def hasN (c : Nat) (n : Int) : Bool := decide (0 ≤ n ∧ n ≤ 63) && c.testBit n.toNat
theorem has_run (c : Nat) (hc : c < 18446744073709551616) (n : Int) : band_Has.f c n = some (hasN c n) := by
  unfold band_Has.f
  rw [bit_run]
  simp only [Option.bind_some]
  rw [bits_and_u64_nat c _ hc (bitN_lt n)]
  unfold hasN bitN
  by_cases h : 0 ≤ n ∧ n ≤ 63
  · rw [if_pos h, and_pow, decide_eq_true h, Bool.true_and]
    have h3 := Nat.two_pow_pos n.toNat
    by_cases hb : c.testBit n.toNat = true
    · rw [if_pos hb, hb]
      congr 1
      rw [bne_iff_ne]
      omega
    · rw [if_neg hb]
      rw [Bool.not_eq_true] at hb
      rw [hb]
      rfl
  · rw [if_neg h, decide_eq_false h]
    simp
theorem node_run (n : Int) : conventicleref05_node.f n = some (decide (0 ≤ n ∧ n ≤ 63)) := by
  unfold conventicleref05_node.f
  by_cases h : n ≥ 0
  · rw [if_pos h]; congr 1; rw [decide_eq_decide]; omega
  · rw [if_neg h]; congr 1; symm; rw [decide_eq_false_iff_not]; omega
theorem rhas_run (c : Nat) (hc : c < 18446744073709551616) (n : Int) : conventicleref05_Has.f c n = some (hasN c n) := by
  unfold conventicleref05_Has.f
  rw [node_run]
  simp only [Option.bind_some]
  unfold hasN
  by_cases h : 0 ≤ n ∧ n ≤ 63
  · rw [decide_eq_true h, if_pos rfl, if_pos h.1]
    unfold shr
    rw [show IntKind.u64.bits = 64 from rfl, Nat.min_eq_left (by omega)]
    have e : (c : Int) / 2 ^ n.toNat = ((c / 2 ^ n.toNat : Nat) : Int) := by simp
    have hl : c / 2 ^ n.toNat < 18446744073709551616 := Nat.lt_of_le_of_lt (Nat.div_le_self _ _) hc
    have e1 := bits_and_u64_nat (c / 2 ^ n.toNat) 1 hl (by decide)
    rw [e, show (1 : Int) = ((1 : Nat) : Int) from rfl, e1, Nat.and_one_is_mod, Nat.testBit_eq_decide_div_mod_eq, Bool.true_and]
    congr 1
    generalize c / 2 ^ n.toNat % 2 = t
    by_cases ht : t = 1
    · subst ht; rfl
    · rw [decide_eq_false ht, beq_eq_false_iff_ne]; omega
  · rw [decide_eq_false h, if_neg (by decide), Bool.false_and]
theorem with_run (c : Nat) (hc : c < 18446744073709551616) (n : Int) : band_With.f c n = some ((c ||| bitN n : Nat) : Int) := by
  unfold band_With.f
  rw [bit_run]
  simp only [Option.bind_some]
  rw [bits_or_u64_nat c _ hc (bitN_lt n)]
theorem rwith_run (c : Nat) (hc : c < 18446744073709551616) (n : Int) : conventicleref05_With.f c n = some ((c ||| bitN n : Nat) : Int) := by
  unfold conventicleref05_With.f
  rw [node_run]
  simp only [Option.bind_some]
  by_cases h : 0 ≤ n ∧ n ≤ 63
  · rw [decide_eq_true h, if_pos rfl, if_pos h.1, shl_one n h.1 h.2]
    have := bitN_lt n
    unfold bitN at this ⊢
    rw [if_pos h] at this ⊢
    rw [bits_or_u64_nat c _ hc this]
  · rw [decide_eq_false h, if_neg (by decide)]
    unfold bitN
    rw [if_neg h, Nat.or_zero]
theorem less_run (c : Nat) (hc : c < 18446744073709551616) (n : Int) : band_Less.f c n = some ((clr c (bitN n) : Nat) : Int) := by
  unfold band_Less.f
  rw [bit_run]
  simp only [Option.bind_some]
  rw [andNot_nat c _ hc (bitN_lt n)]
theorem bitN_bit (n : Int) (i : Nat) : (bitN n).testBit i = decide (0 ≤ n ∧ n ≤ 63 ∧ n = i) := by
  unfold bitN
  by_cases h : 0 ≤ n ∧ n ≤ 63
  · rw [if_pos h, Nat.testBit_two_pow, decide_eq_decide]; omega
  · rw [if_neg h, Nat.zero_testBit]; symm; rw [decide_eq_false_iff_not]; omega
theorem many_run (c : Nat) (hc : c < 18446744073709551616) : band_Many.f c = some ((cnt 64 c : Nat) : Int) := by
  unfold band_Many.f
  rw [ones_run c hc, Option.bind_some]
theorem bandL_cnt (c : Nat) : (bandL c).length = cnt 64 c := by
  unfold bandL
  rw [List.length_map, cnt_filter]
theorem place_of (a n b r : Int) (h1 : band_below.f n = some b) (h2 : band_Many.f (bits .and .u64 a b) = some r) : band_Place.f a n = some r := by
  unfold band_Place.f
  rw [h1, Option.bind_some, h2, Option.bind_some]
theorem place_run (c : Nat) (hc : c < 18446744073709551616) (n : Int) : band_Place.f c n = some ((cnt 64 (c &&& belN n) : Nat) : Int) :=
  place_of c n _ _ (below_run n) ((congrArg band_Many.f (bits_and_u64_nat c _ hc (belN_lt n))).trans (many_run _ (and_lt _ _ hc)))
theorem major_of (a o : Int) (x y : Nat) (h1 : band_Many.f (bits .and .u64 a o) = some (x : Int)) (h2 : band_Many.f (bits .andNot .u64 o a) = some (y : Int)) : band_Major.f a o = some (decide (x > y)) := by
  unfold band_Major.f
  rw [h1, h2, Option.bind_some, Option.bind_some]
  congr 1
  rw [decide_eq_decide]
  omega
theorem major_run (a o : Nat) (ha : a < 18446744073709551616) (ho : o < 18446744073709551616) : band_Major.f a o = some (decide (cnt 64 (a &&& o) > cnt 64 (clr o a))) :=
  major_of a o _ _ ((congrArg band_Many.f (bits_and_u64_nat a o ha ho)).trans (many_run _ (and_lt _ _ ha))) ((congrArg band_Many.f (andNot_nat o a ho ha)).trans (many_run _ (clr_lt _ _ ho)))
def firstN (c : Nat) : Int × Bool := if c = 0 then (0, false) else ((Lib.ctz 64 c : Nat), true)
theorem first_run (c : Nat) (hc : c < 18446744073709551616) : band_First.f c = some (firstN c) := by
  unfold band_First.f firstN
  by_cases h : c = 0
  · rw [if_pos (by omega), if_pos h]
  · rw [if_neg (by omega), if_neg h]
    unfold bits_TrailingZeros64.f
    rw [if_pos (by omega), Option.bind_some, Int.toNat_natCast]
def nextN (c : Nat) (n : Int) : Int × Bool := if n < 63 then (if clr c (belN (n + 1)) = 0 then firstN c else firstN (clr c (belN (n + 1)))) else firstN c
theorem next_run (c : Nat) (hc : c < 18446744073709551616) (n : Int) (hn : -9223372036854775808 ≤ n) (hn2 : n ≤ 9223372036854775807) : band_Next.f c n = some (nextN c n) := by
  unfold band_Next.f nextN
  by_cases h : n < 63
  · rw [if_pos h, if_pos h, show wrap64 (n + 1) = n + 1 from by unfold wrap64; omega, below_run]
    simp only [Option.bind_some]
    rw [andNot_nat c _ hc (belN_lt _)]
    by_cases h1 : clr c (belN (n + 1)) = 0
    · rw [if_pos (by omega), if_pos h1, first_run c hc, Option.bind_some]
    · rw [if_neg (by omega), if_neg h1, first_run _ (clr_lt _ _ hc), Option.bind_some]
  · rw [if_neg h, if_neg h, first_run c hc, Option.bind_some]
/-! ### lists -/
theorem rlist_run (c : Nat) (hc : c < 18446744073709551616) : ∀ k, conventicleref05_List.f (65 + k) c = some (bandL c) := by
  intro k
  unfold conventicleref05_List.f
  have loop : ∀ n j : Nat, j + n = 64 → conventicleref05_List.l0 (n + 1 + k) c (((List.range j).filter (fun i => c.testBit i)).map Int.ofNat) j = some (bandL c) := by
    intro n
    induction n with
    | zero =>
      intro j hj
      obtain rfl : j = 64 := by omega
      rw [show 0 + 1 + k = k + 1 from by omega, conventicleref05_List.l0, if_neg (by decide)]
      rfl
    | succ n ih =>
      intro j hj
      have hl : (((List.range j).filter (fun i => c.testBit i)).map Int.ofNat).length ≤ 64 := by
        rw [List.length_map]
        have := List.length_filter_le (fun i => c.testBit i) (List.range j)
        rw [List.length_range] at this
        omega
      rw [show n + 1 + 1 + k = (n + 1 + k) + 1 from by omega, conventicleref05_List.l0, if_pos (by omega), rhas_run c hc]
      simp only [Option.bind_some]
      rw [show wrap64 ((j : Int) + 1) = ((j + 1 : Nat) : Int) from by unfold wrap64; omega]
      have h := ih (j + 1) (by omega)
      rw [List.range_succ, List.filter_append, List.map_append] at h
      have e : hasN c j = c.testBit j := by unfold hasN; rw [decide_eq_true (by omega), Bool.true_and]; rfl
      rw [e]
      by_cases hb : c.testBit j = true
      · rw [if_pos hb, if_pos (by omega)]
        rw [List.filter_cons, if_pos hb] at h
        exact h
      · rw [if_neg hb]
        rw [List.filter_cons, if_neg hb] at h
        simpa using h
  have := loop 64 0 rfl
  rw [show 65 + k = 64 + 1 + k from rfl]
  exact this
theorem list_run (c : Nat) (hc : c < 18446744073709551616) : band_List.f c = some (bandL c) := by
  unfold band_List.f
  rw [if_pos (by omega), Int.toNat_natCast]
theorem shown_run (k : Nat) : conventiclelaw05_shown.f (k + 4) = some true := by
  induction k with
  | zero => decide +kernel
  | succ k ih => exact conventiclelaw05_shown.mono _ _ ih
end Go.Proofs.YtidofbloppcpfaaDoor.Band
