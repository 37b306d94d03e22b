/- By hand: acceptors in a row; bits; majorities. -/
import Derived.Test.YtnlppniejeemlaaAgreeP
import Derived.Test.YtnlppniejeemlaaB1
namespace Go.Proofs.Ytnlppniejeemlaa.Band
open Go Go.RowKit Go.Proofs.Ytnlppniejeemlaa.B Go.Proofs.YtnlppniejeemlaaW.PrintWords Go.Proofs.YtnlppniejeemlaaW.PrintLast Go.Proofs.YtnlppniejeemlaaW.PrintMore
def bandL (c : Nat) : List Int := ((List.range 64).filter (fun i => c.testBit i)).map Int.ofNat
theorem u64_cast (n : Nat) (h : n < 18446744073709551616) : IntKind.u64.wrap (n : Int) = (n : Int) := by rw [IntKind.wrap_u64]; omega
theorem testBit_hi (c : Nat) (hc : c < 18446744073709551616) (i : Nat) (hi : 64 ≤ i) : c.testBit i = false := Nat.testBit_lt_two_pow (Nat.lt_of_lt_of_le hc (Nat.le_trans (by decide +kernel : 18446744073709551616 ≤ 2 ^ 64) (Nat.pow_le_pow_right (by decide) hi)))
theorem eq_of_bits {a b : Nat} (ha : a < 18446744073709551616) (hb : b < 18446744073709551616) (h : ∀ i < 64, a.testBit i = b.testBit i) : a = b := by
  apply Nat.eq_of_testBit_eq
  intro i
  by_cases hi : i < 64
  · exact h i hi
  · rw [testBit_hi a ha i (by omega), testBit_hi b hb i (by omega)]
theorem or_lt (a b : Nat) (ha : a < 18446744073709551616) (hb : b < 18446744073709551616) : a ||| b < 18446744073709551616 := by
  have h := Nat.or_lt_two_pow (n := 64) (show a < 2 ^ 64 from by rw [show (2 : Nat) ^ 64 = 18446744073709551616 from by decide +kernel]; exact ha) (show b < 2 ^ 64 from by rw [show (2 : Nat) ^ 64 = 18446744073709551616 from by decide +kernel]; exact hb)
  rwa [show (2 : Nat) ^ 64 = 18446744073709551616 from by decide +kernel] at h
theorem and_lt (a b : Nat) (ha : a < 18446744073709551616) : a &&& b < 18446744073709551616 := Nat.lt_of_le_of_lt Nat.and_le_left ha

def bitN (n : Int) : Nat := if 0 ≤ n ∧ n ≤ 63 then 2 ^ n.toNat else 0
theorem two_pow_lt (k : Nat) (hk : k ≤ 63) : 2 ^ k < 18446744073709551616 := by
  have := Nat.pow_le_pow_right (n := 2) (by decide) hk
  have e : (2 : Nat) ^ 63 = 9223372036854775808 := by decide +kernel
  omega
theorem bitN_lt (n : Int) : bitN n < 18446744073709551616 := by
  unfold bitN
  split
  · exact two_pow_lt _ (by omega)
  · decide
theorem shl_one (n : Int) (h0 : 0 ≤ n) (h1 : n ≤ 63) : shl .u64 1 n = ((2 ^ n.toNat : Nat) : Int) := by
  unfold shl
  rw [show IntKind.u64.bits = 64 from rfl, Nat.min_eq_left (by omega), Int.one_mul]
  have := u64_cast _ (two_pow_lt n.toNat (by omega))
  rw [← this]
  congr 1
theorem and_pow (c k : Nat) : c &&& 2 ^ k = if c.testBit k = true then 2 ^ k else 0 := by
  apply Nat.eq_of_testBit_eq
  intro i
  rw [Nat.testBit_and, Nat.testBit_two_pow]
  by_cases h : c.testBit k = true
  · rw [if_pos h, Nat.testBit_two_pow]
    by_cases e : k = i
    · subst e; simp [h]
    · simp [e]
  · rw [if_neg h, Nat.zero_testBit]
    by_cases e : k = i
    · subst e; simp [h]
    · simp [e]
def hasN (c : Nat) (n : Int) : Bool := decide (0 ≤ n ∧ n ≤ 63) && c.testBit n.toNat
theorem node_run (n : Int) : conventicleref05_node.f n = some (decide (0 ≤ n ∧ n ≤ 63)) := by
  unfold conventicleref05_node.f
  by_cases h : n ≥ 0
  · rw [if_pos h]; congr 1; rw [decide_eq_decide]; omega
  · rw [if_neg h]; congr 1; symm; rw [decide_eq_false_iff_not]; omega
theorem rhas_run (c : Nat) (hc : c < 18446744073709551616) (n : Int) : conventicleref05_Has.f c n = some (hasN c n) := by
  unfold conventicleref05_Has.f
  rw [node_run]
  simp only [Option.bind_some]
  unfold hasN
  by_cases h : 0 ≤ n ∧ n ≤ 63
  · rw [decide_eq_true h, if_pos rfl, if_pos h.1]
    unfold shr
    rw [show IntKind.u64.bits = 64 from rfl, Nat.min_eq_left (by omega)]
    have e : (c : Int) / 2 ^ n.toNat = ((c / 2 ^ n.toNat : Nat) : Int) := by simp
    have hl : c / 2 ^ n.toNat < 18446744073709551616 := Nat.lt_of_le_of_lt (Nat.div_le_self _ _) hc
    have e1 := bits_and_u64_nat (c / 2 ^ n.toNat) 1 hl (by decide)
    rw [e, show (1 : Int) = ((1 : Nat) : Int) from rfl, e1, Nat.and_one_is_mod, Nat.testBit_eq_decide_div_mod_eq, Bool.true_and]
    congr 1
    generalize c / 2 ^ n.toNat % 2 = t
    by_cases ht : t = 1
    · subst ht; rfl
    · rw [decide_eq_false ht, beq_eq_false_iff_ne]; omega
  · rw [decide_eq_false h, if_neg (by decide), Bool.false_and]
theorem rwith_run (c : Nat) (hc : c < 18446744073709551616) (n : Int) : conventicleref05_With.f c n = some ((c ||| bitN n : Nat) : Int) := by
  unfold conventicleref05_With.f
  rw [node_run]
  simp only [Option.bind_some]
  by_cases h : 0 ≤ n ∧ n ≤ 63
  · rw [decide_eq_true h, if_pos rfl, if_pos h.1, shl_one n h.1 h.2]
    have := bitN_lt n
    unfold bitN at this ⊢
    rw [if_pos h] at this ⊢
    rw [bits_or_u64_nat c _ hc this]
  · rw [decide_eq_false h, if_neg (by decide)]
    unfold bitN
    rw [if_neg h, Nat.or_zero]
theorem bitN_bit (n : Int) (i : Nat) : (bitN n).testBit i = decide (0 ≤ n ∧ n ≤ 63 ∧ n = i) := by
  unfold bitN
  by_cases h : 0 ≤ n ∧ n ≤ 63
  · rw [if_pos h, Nat.testBit_two_pow, decide_eq_decide]; omega
  · rw [if_neg h, Nat.zero_testBit]; symm; rw [decide_eq_false_iff_not]; omega
theorem rlist_run (c : Nat) (hc : c < 18446744073709551616) : ∀ k, conventicleref05_List.f (65 + k) c = some (bandL c) := by
  intro k
  unfold conventicleref05_List.f
  have loop : ∀ n j : Nat, j + n = 64 → conventicleref05_List.l0 (n + 1 + k) c (((List.range j).filter (fun i => c.testBit i)).map Int.ofNat) j = some (bandL c) := by
    intro n
    induction n with
    | zero =>
      intro j hj
      obtain rfl : j = 64 := by omega
      rw [show 0 + 1 + k = k + 1 from by omega, conventicleref05_List.l0, if_neg (by decide)]
      rfl
    | succ n ih =>
      intro j hj
      have hl : (((List.range j).filter (fun i => c.testBit i)).map Int.ofNat).length ≤ 64 := by
        rw [List.length_map]
        have := List.length_filter_le (fun i => c.testBit i) (List.range j)
        rw [List.length_range] at this
        omega
      rw [show n + 1 + 1 + k = (n + 1 + k) + 1 from by omega, conventicleref05_List.l0, if_pos (by omega), rhas_run c hc]
      simp only [Option.bind_some]
      rw [show wrap64 ((j : Int) + 1) = ((j + 1 : Nat) : Int) from by unfold wrap64; omega]
      have h := ih (j + 1) (by omega)
      rw [List.range_succ, List.filter_append, List.map_append] at h
      have e : hasN c j = c.testBit j := by unfold hasN; rw [decide_eq_true (by omega), Bool.true_and]; rfl
      rw [e]
      by_cases hb : c.testBit j = true
      · rw [if_pos hb, if_pos (by omega)]
        rw [List.filter_cons, if_pos hb] at h
        exact h
      · rw [if_neg hb]
        rw [List.filter_cons, if_neg hb] at h
        simpa using h
  have := loop 64 0 rfl
  rw [show 65 + k = 64 + 1 + k from rfl]
  exact this
theorem wf_u8 {a : Int} (h : (Lit.int .u8 a).wf = true) : 0 ≤ a ∧ a ≤ 255 := by
  simp [Lit.wf, IntKind.min, IntKind.max, IntKind.signed, IntKind.bits] at h; omega
end Go.Proofs.Ytnlppniejeemlaa.Band
namespace Go.Proofs.Ytnlppniejeemlaa.Pure
open Go Go.RowKit Go.Proofs.Ytnlppniejeemlaa.B Go.Proofs.Ytnlppniejeemlaa.Band Go.Proofs.YtnlppniejeemlaaW.PrintWords Go.Proofs.YtnlppniejeemlaaW.PrintLast
set_option linter.unusedVariables false

/-- the bits of those below m that P lets in -/
def bitsUp (P : Nat → Bool) : Nat → Nat
  | 0 => 0
  | m + 1 => if P m = true then bitsUp P m ||| 2 ^ m else bitsUp P m
theorem bitsUp_bit (P : Nat → Bool) (i : Nat) : ∀ m, (bitsUp P m).testBit i = (decide (i < m) && P i)
  | 0 => by simp [bitsUp]
  | m + 1 => by
    have ih := bitsUp_bit P i m
    unfold bitsUp
    by_cases h : P m = true
    · rw [if_pos h, Nat.testBit_or, ih, Nat.testBit_two_pow]
      by_cases e : m = i
      · subst e; simp [h]
      · rw [decide_eq_false e, Bool.or_false]
        congr 1
        rw [decide_eq_decide]; omega
    · rw [if_neg h, ih]
      by_cases e : m = i
      · subst e; simp [Bool.eq_false_iff.2 h]
      · congr 1
        rw [decide_eq_decide]; omega
theorem bitsUp_lt (P : Nat → Bool) (m : Nat) (hm : m ≤ 64) : bitsUp P m < 18446744073709551616 := by
  induction m with
  | zero => exact (by decide : (0 : Nat) < 18446744073709551616)
  | succ m ih =>
    unfold bitsUp
    split
    · exact or_lt _ _ (ih (by omega)) (two_pow_lt m (by omega))
    · exact ih (by omega)
theorem with_up (P : Nat → Bool) (m : Nat) (hm : m < 64) (h : P m = true) : conventicleref05_With.f (bitsUp P m : Nat) (m : Int) = some ((bitsUp P (m + 1) : Nat) : Int) := by
  rw [rwith_run _ (bitsUp_lt P m (by omega))]
  have e : bitN (m : Int) = 2 ^ m := by unfold bitN; rw [if_pos (by omega), Int.toNat_natCast]
  rw [e]
  conv => rhs; rw [bitsUp, if_pos h]
theorem up_same (P : Nat → Bool) (m : Nat) (h : P m = false) : bitsUp P (m + 1) = bitsUp P m := by
  conv => lhs; rw [bitsUp, if_neg (by rw [h]; decide)]
theorem cntB_range (P : Nat → Bool) : ∀ m, ((List.range m).filter P).length = cntB P m
  | 0 => rfl
  | m + 1 => by
    rw [List.range_succ, List.filter_append, List.length_append, cntB_range P m]
    conv => rhs; rw [cntB]
    by_cases h : P m = true
    · rw [List.filter_cons_of_pos h, if_pos h]; rfl
    · rw [List.filter_cons_of_neg h, if_neg h]; rfl
theorem cntB_ext (P Q : Nat → Bool) : ∀ m, (∀ i < m, P i = Q i) → cntB P m = cntB Q m
  | 0, _ => rfl
  | m + 1, h => by
    conv => lhs; rw [cntB]
    conv => rhs; rw [cntB]
    rw [cntB_ext P Q m (fun i hi => h i (by omega)), h m (by omega)]
theorem cntB_cut (P : Nat → Bool) (n : Nat) : ∀ d, cntB (fun i => decide (i < n) && P i) (n + d) = cntB P n
  | 0 => cntB_ext _ _ n (fun i hi => by rw [decide_eq_true hi, Bool.true_and])
  | d + 1 => by
    rw [show n + (d + 1) = (n + d) + 1 by omega]
    conv => lhs; rw [cntB]
    rw [cntB_cut P n d, if_neg (by rw [decide_eq_false (show ¬ n + d < n by omega)]; simp), Nat.add_zero]
theorem cntB_all (n : Nat) : cntB (fun _ => true) n = n := by
  induction n with
  | zero => rfl
  | succ n ih => rw [cntB, ih, if_pos rfl]
theorem bandL_up (P : Nat → Bool) (n : Nat) (hn : n ≤ 64) : (bandL (bitsUp P n)).length = cntB P n := by
  unfold bandL
  rw [List.length_map, cntB_range, cntB_ext _ _ 64 (fun i _ => bitsUp_bit P i n)]
  have := cntB_cut P n (64 - n)
  rw [show n + (64 - n) = 64 by omega] at this
  exact this
theorem up_all (n : Nat) (hn : n ≤ 64) : 2 ^ n - 1 = bitsUp (fun _ => true) n := by
  have h64 : 2 ^ n ≤ 18446744073709551616 := by
    have := Nat.pow_le_pow_right (n := 2) (by decide) hn
    exact this
  have hp : 0 < 2 ^ n := Nat.two_pow_pos n
  refine eq_of_bits (by omega) (bitsUp_lt _ n hn) (fun i hi => ?_)
  rw [Nat.testBit_two_pow_sub_one, bitsUp_bit, Bool.and_true]
theorem both_run (a b : Nat) (ha : a < 18446744073709551616) (hb : b < 18446744073709551616) : ∀ k, conventicleref05_Both.f (65 + k) a b = some ((a &&& b : Nat) : Int) := by
  intro k
  unfold conventicleref05_Both.f
  have loop : ∀ n j : Nat, j + n = 64 → conventicleref05_Both.l0 (n + 1 + k) a b (bitsUp (fun i => (a &&& b).testBit i) j : Nat) j = some ((a &&& b : Nat) : Int) := by
    intro n
    induction n with
    | zero =>
      intro j hj
      obtain rfl : j = 64 := by omega
      rw [show 0 + 1 + k = k + 1 from by omega, conventicleref05_Both.l0, if_neg (by decide)]
      congr 2
      exact eq_of_bits (bitsUp_lt _ 64 (by decide)) (and_lt _ _ ha) (fun i hi => by rw [bitsUp_bit, decide_eq_true hi, Bool.true_and])
    | succ n ih =>
      intro j hj
      have e1 : hasN a j = a.testBit j := by unfold hasN; rw [decide_eq_true (by omega), Bool.true_and]; rfl
      have e2 : hasN b j = b.testBit j := by unfold hasN; rw [decide_eq_true (by omega), Bool.true_and]; rfl
      have hw : wrap64 ((j : Int) + 1) = ((j + 1 : Nat) : Int) := by unfold wrap64; omega
      rw [show n + 1 + 1 + k = (n + 1 + k) + 1 from by omega, conventicleref05_Both.l0, if_pos (by omega), rhas_run a ha, e1]
      simp only [Option.bind_some]
      have hand : (a &&& b).testBit j = (a.testBit j && b.testBit j) := Nat.testBit_and a b j
      by_cases h1 : a.testBit j = true
      · rw [if_pos h1, rhas_run b hb, e2]
        simp only [Option.bind_some]
        by_cases h2 : b.testBit j = true
        · have h3 : (fun i => (a &&& b).testBit i) j = true := by show (a &&& b).testBit j = true; rw [hand, h1, h2]; rfl
          rw [if_pos h2, with_up _ j (by omega) h3]
          simp only [Option.bind_some]
          rw [hw]
          exact ih (j + 1) (by omega)
        · have h3 : (fun i => (a &&& b).testBit i) j = false := by show (a &&& b).testBit j = false; rw [hand, Bool.eq_false_iff.2 h2, Bool.and_false]
          rw [if_neg h2, hw, ← up_same _ j h3]
          exact ih (j + 1) (by omega)
      · have h3 : (fun i => (a &&& b).testBit i) j = false := by show (a &&& b).testBit j = false; rw [hand, Bool.eq_false_iff.2 h1, Bool.false_and]
        rw [if_neg h1, hw, ← up_same _ j h3]
        exact ih (j + 1) (by omega)
  have := loop 64 0 rfl
  rw [show 65 + k = 64 + 1 + k from rfl]
  exact this
theorem major_up (P : Nat → Bool) (n : Nat) (hn : n ≤ 64) : conventicleref05_Major.f 65 (bitsUp P n : Nat) ((2 ^ n - 1 : Nat) : Int) = some (decide (n < 2 * cntB P n)) := by
  have h1 := bitsUp_lt P n hn
  have h2 := bitsUp_lt (fun _ => true) n hn
  rw [up_all n hn]
  unfold conventicleref05_Major.f conventicleref05_Many.f
  rw [both_run _ _ h1 h2 0]
  simp only [Option.bind_some]
  have e : bitsUp P n &&& bitsUp (fun _ => true) n = bitsUp P n := eq_of_bits (and_lt _ _ h1) h1 (fun i hi => by rw [Nat.testBit_and, bitsUp_bit, bitsUp_bit]; cases decide (i < n) <;> simp)
  rw [e, rlist_run _ h1 0, rlist_run _ h2 0]
  simp only [Option.bind_some]
  rw [bandL_up P n hn, bandL_up _ n hn, cntB_all, Option.some.injEq, decide_eq_decide]
  have hle : cntB P n ≤ n := by
    have := cntB_range P n
    rw [← this]
    exact Nat.le_trans (List.length_filter_le _ _) (by rw [List.length_range]; exact Nat.le_refl _)
  rw [show wrap64 (2 * (cntB P n : Int)) = ((2 * cntB P n : Nat) : Int) by unfold wrap64; omega]
  omega
end Go.Proofs.Ytnlppniejeemlaa.Pure
