/- Two majorities of one band have a node that both have, and that it has: for all numbers. -/
import Derived.Test.YtidofbloppcpfaaDoorLists
namespace Go.Proofs.YtidofbloppcpfaaDoor.Pure
open Go Go.RowKit Go.Proofs.YtidofbloppcpfaaDoor.B Go.Proofs.YtidofbloppcpfaaDoor.Band Go.Proofs.YtidofbloppcpfaaDoorW.PrintWords Go.Proofs.YtidofbloppcpfaaDoorW.PrintLast Go.Proofs.YtidofbloppcpfaaDoorW.PrintMore

/-- both, up to place j -/
def upto (a b j : Nat) : Nat := (a &&& b) &&& belN j
theorem upto_lt (a b j : Nat) (ha : a < 18446744073709551616) : upto a b j < 18446744073709551616 := and_lt _ _ (and_lt _ _ ha)
theorem upto_bit (a b j i : Nat) (hi : i < 64) : (upto a b j).testBit i = (a.testBit i && b.testBit i && decide (i < j)) := by
  unfold upto
  rw [Nat.testBit_and, Nat.testBit_and, belN_bit _ i hi]
  congr 1
  rw [decide_eq_decide]
  omega
theorem both_run (a b : Nat) (ha : a < 18446744073709551616) (hb : b < 18446744073709551616) (k : Nat) : conventicleref05_Both.f (65 + k) a b = some ((a &&& b : Nat) : Int) := by
  have step : ∀ j, j < 64 → (a.testBit j && b.testBit j) = true → upto a b j ||| bitN j = upto a b (j + 1) := by
    intro j hj h
    refine eq_of_bits (or_lt _ _ (upto_lt a b j ha) (bitN_lt _)) (upto_lt a b _ ha) (fun i hi => ?_)
    rw [Nat.testBit_or, upto_bit a b j i hi, upto_bit a b (j + 1) i hi, bitN_bit]
    by_cases e : i = j
    · subst e
      rw [decide_eq_true (p := (0 : Int) ≤ (i : Int) ∧ (i : Int) ≤ 63 ∧ (i : Int) = (i : Int)) (by omega), decide_eq_true (p := i < i + 1) (by omega), h]
      simp
    · rw [decide_eq_false (p := (0 : Int) ≤ (j : Int) ∧ (j : Int) ≤ 63 ∧ (j : Int) = (i : Int)) (by omega), Bool.or_false]
      congr 1
      rw [decide_eq_decide]
      omega
  have skip : ∀ j, j < 64 → (a.testBit j && b.testBit j) = false → upto a b j = upto a b (j + 1) := by
    intro j hj h
    refine eq_of_bits (upto_lt a b j ha) (upto_lt a b _ ha) (fun i hi => ?_)
    rw [upto_bit a b j i hi, upto_bit a b (j + 1) i hi]
    by_cases e : i = j
    · subst e
      rw [h]
      simp
    · congr 1
      rw [decide_eq_decide]
      omega
  have loop : ∀ n j : Nat, j + n = 64 → conventicleref05_Both.l0 (n + 1 + k) a b (upto a b j : Nat) j = some ((a &&& b : Nat) : Int) := by
    intro n
    induction n with
    | zero =>
      intro j hj
      obtain rfl : j = 64 := by omega
      rw [show 0 + 1 + k = k + 1 from by omega, conventicleref05_Both.l0, if_neg (by decide)]
      congr 2
      refine eq_of_bits (upto_lt a b _ ha) (and_lt _ _ ha) (fun i hi => ?_)
      rw [upto_bit a b _ i hi, Nat.testBit_and, decide_eq_true hi, Bool.and_true]
    | succ n ih =>
      intro j hj
      have e : ∀ c : Nat, hasN c j = c.testBit j := fun c => by unfold hasN; rw [decide_eq_true (by omega), Bool.true_and]; rfl
      rw [show n + 1 + 1 + k = (n + 1 + k) + 1 from by omega, conventicleref05_Both.l0, if_pos (by omega), rhas_run a ha, rhas_run b hb]
      simp only [Option.bind_some, e]
      rw [show wrap64 ((j : Int) + 1) = ((j + 1 : Nat) : Int) from by unfold wrap64; omega]
      have h := ih (j + 1) (by omega)
      by_cases h1 : a.testBit j = true
      · rw [if_pos h1]
        by_cases h2 : b.testBit j = true
        · rw [if_pos h2, rwith_run _ (upto_lt a b j ha)]
          simp only [Option.bind_some]
          rw [step j (by omega) (by rw [h1, h2]; rfl)]
          exact h
        · rw [if_neg h2, skip j (by omega) (by rw [h1]; simpa using h2)]
          exact h
      · rw [if_neg h1, skip j (by omega) (by rw [Bool.not_eq_true] at h1; rw [h1]; rfl)]
        exact h
  unfold conventicleref05_Both.f
  have h0 : upto a b 0 = 0 := by
    refine eq_of_bits (upto_lt a b 0 ha) (by decide) (fun i hi => ?_)
    rw [upto_bit a b 0 i hi, Nat.zero_testBit]
    simp
  have := loop 64 0 rfl
  rw [h0] at this
  exact this
theorem not_run (a : Nat) (ha : a < 18446744073709551616) : Go.bits .xor .u64 IntKind.u64.max (a : Int) = ((18446744073709551615 ^^^ a : Nat) : Int) ∧ 18446744073709551615 ^^^ a < 18446744073709551616 := by
  refine ⟨bits_xor_u64_nat 18446744073709551615 a (by decide) ha, ?_⟩
  have := Nat.xor_lt_two_pow (n := 64) (show 18446744073709551615 < 2 ^ 64 from by decide +kernel) (show a < 2 ^ 64 from by rw [show (2 : Nat) ^ 64 = 18446744073709551616 from by decide +kernel]; exact ha)
  rwa [show (2 : Nat) ^ 64 = 18446744073709551616 from by decide +kernel] at this
theorem not_bit (a : Nat) (i : Nat) (hi : i < 64) : (18446744073709551615 ^^^ a).testBit i = !a.testBit i := by
  rw [Nat.testBit_xor, show 18446744073709551615 = 2 ^ 64 - 1 from by decide +kernel, Nat.testBit_two_pow_sub_one, decide_eq_true hi]
  simp
theorem major_says (a o : Nat) (ha : a < 18446744073709551616) (ho : o < 18446744073709551616) : ∃ m : Bool, band_Major.f a o = some m ∧ (m = true → cnt 64 (a &&& o) > cnt 64 (clr o a)) :=
  ⟨_, major_run a o ha ho, of_decide_eq_true⟩
theorem major_not (a o : Nat) (ha : a < 18446744073709551616) (ho : o < 18446744073709551616) : ∃ m : Bool, band_Major.f (Go.bits .xor .u64 IntKind.u64.max (a : Int)) o = some m ∧ (m = true → cnt 64 (clr o a) > cnt 64 (a &&& o)) := by
  obtain ⟨e1, e2⟩ := not_run a ha
  obtain ⟨m, h1, h2⟩ := major_says _ o e2 ho
  refine ⟨m, by rw [e1]; exact h1, fun h => ?_⟩
  have x1 : (18446744073709551615 ^^^ a) &&& o = clr o a := eq_of_bits (and_lt _ _ e2) (clr_lt _ _ ho) (fun i hi => by
    rw [Nat.testBit_and, not_bit a i hi, clr_bit o a ha i hi, Bool.and_comm])
  have x2 : clr o (18446744073709551615 ^^^ a) = a &&& o := eq_of_bits (clr_lt _ _ ho) (and_lt _ _ ha) (fun i hi => by
    rw [clr_bit o _ e2 i hi, not_bit a i hi, Nat.testBit_and, Bool.not_not, Bool.and_comm])
  have := h2 h
  rwa [x1, x2] at this
theorem meets (a b o : Nat) (ha : a < 18446744073709551616) (hb : b < 18446744073709551616) (h1 : cnt 64 (a &&& o) > cnt 64 (clr o a)) (h2 : cnt 64 (b &&& o) > cnt 64 (clr o b)) : a &&& b &&& o ≠ 0 := by
  intro hz'
  have hno : ∀ i < 64, b.testBit i = true → o.testBit i = true → a.testBit i = false := by
    intro i _ hbi hoi
    have := congrArg (fun x => Nat.testBit x i) hz'
    simp only [Nat.testBit_and, Nat.zero_testBit, hbi, hoi, Bool.and_true] at this
    exact this
  have m1 : cnt 64 (b &&& o) ≤ cnt 64 (clr o a) := cnt_mono _ _ (fun i hi h => by
    rw [Nat.testBit_and, Bool.and_eq_true] at h
    rw [clr_bit o a ha i hi, h.2, hno i hi h.1 h.2]
    rfl)
  have m2 : cnt 64 (a &&& o) ≤ cnt 64 (clr o b) := cnt_mono _ _ (fun i hi h => by
    rw [Nat.testBit_and, Bool.and_eq_true] at h
    rw [clr_bit o b hb i hi, h.2]
    by_cases hbi : b.testBit i = true
    · rw [hno i hi hbi h.2] at h; cases h.1
    · rw [Bool.not_eq_true] at hbi; rw [hbi]; rfl)
  omega
theorem side (a o : Nat) (b : Int) (ma mn : Bool) (ea : band_Major.f a o = some ma) (en : band_Major.f (Go.bits .xor .u64 IntKind.u64.max (a : Int)) o = some mn) (h : ma = true → mn = true → False) (k : Nat) :
    conventiclelaw05_BandMeets.j0 (k + 1) a b o true = some true := by
  rw [conventiclelaw05_BandMeets.j0, if_pos rfl, ea, Option.bind_some]
  cases ma with
  | false => rfl
  | true =>
    rw [if_pos rfl, en, Option.bind_some]
    cases mn with
    | false => rfl
    | true => exact (h rfl rfl).elim
theorem both_way (a b o x : Int) (k : Nat) (y : Int) (h1 : conventicleref05_Both.f k a b = some x) (h2 : conventicleref05_Both.f k x o = some y) (hy : y ≠ 0) : conventiclelaw05_BandMeets.j0 (k + 1) a b o false = some true := by
  rw [conventiclelaw05_BandMeets.j0, if_neg (by decide), h1, Option.bind_some, h2, Option.bind_some]
  congr 1
  rw [bne_iff_ne]
  exact hy
theorem way_in (a b o : Int) (k : Nat) (ma mb : Bool) (hs : conventiclelaw05_shown.f k = some true) (ea : band_Major.f a o = some ma) (eb : band_Major.f b o = some mb)
    (h1 : conventiclelaw05_BandMeets.j0 k a b o true = some true) (h2 : ma = true → mb = true → conventiclelaw05_BandMeets.j0 k a b o false = some true) : conventiclelaw05_BandMeets.f k a b o = some true := by
  unfold conventiclelaw05_BandMeets.f
  rw [hs, Option.bind_some, if_pos rfl, ea, Option.bind_some]
  cases ma with
  | false => exact h1
  | true =>
    rw [if_pos rfl, eb, Option.bind_some]
    cases mb with
    | false => exact h1
    | true => exact h2 rfl rfl
theorem cast_ne (x : Nat) (h : x ≠ 0) : (x : Int) ≠ 0 := by omega
theorem BandMeets : conventiclelaw05_BandMeets.Pure := by
  intro a0 a1 a2 w0 w1 w2
  obtain ⟨a, rfl, ha⟩ := wf_u64 w0
  obtain ⟨b, rfl, hb⟩ := wf_u64 w1
  obtain ⟨o, rfl, ho⟩ := wf_u64 w2
  obtain ⟨ma, ea, pa⟩ := major_says a o ha ho
  obtain ⟨mb, eb, pb⟩ := major_says b o hb ho
  obtain ⟨mn, en, pn⟩ := major_not a o ha ho
  exact ⟨65 + 0 + 1, way_in a b o _ ma mb (Band.shown_run 62) ea eb (side a o b ma mn ea en (fun h1 h2 => absurd (pa h1) (Nat.lt_asymm (pn h2))) _)
    (fun h1 h2 => both_way a b o _ _ _ (both_run a b ha hb 0) (both_run (a &&& b) o (and_lt _ _ ha) ho 0) (cast_ne _ (meets a b o ha hb (pa h1) (pb h2))))⟩
end Go.Proofs.YtidofbloppcpfaaDoor.Pure
