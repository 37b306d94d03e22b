/- By hand: the contracts of Wait, by the program and by the document. -/
import Derived.Test.YtbgpdofbnifapaaWaitProg
namespace Go.Proofs.Ytbgpdofbnifapaa.R
open Go.RowKit Go.Proofs.YtbgpdofbnifapaaW.PrintWords Go.Proofs.YtbgpdofbnifapaaW.PrintLast Go.Proofs.YtbgpdofbnifapaaW.PrintMore

section
variable (b k : Nat) (hb : b ≤ K1000) (hk : k ≤ 64)
include hb
theorem b_fin : b ≤ 9218868437227405312 := by unfold K1000 at hb; omega
include hk
theorem m_fin : mulR b k ≤ 9218868437227405312 := by have := mulR_le hb hk; have := M64_lt; omega
theorem mul_run (t : TypeId) (w : World) : (binOp .mul t (.float .f64 b) (.float .f64 (fl k))).run Try.prog w = .ok (.float .f64 (mulR b k)) w :=
  run_float_arith w .mul t .f64 b (fl k) (mulR b k) (mulR_is hb hk)
end
theorem great_eq (b k : Nat) : great b k = if mulR b k < b then b else mulR b k := by
  unfold great
  split <;> omega
theorem quo_run {t m : Nat} (ht : 0 < t) (htm : t ≤ m) (hm : m < 9223372036854775808) (ty : TypeId) (w : World) : (binOp .quo ty (.float .f64 (fl t)) (.float .f64 (fl m))).run Try.prog w = .ok (.float .f64 (fr t m)) w :=
  run_float_arith w .quo ty .f64 (fl t) (fl m) (fr t m) (fr_is ht htm hm)
theorem minus_run {g b : Nat} (hg : g < 9218868437227405312) (h : b ≤ g) (ty : TypeId) (w : World) : (binOp .sub ty (.float .f64 g) (.float .f64 b)).run Try.prog w = .ok (.float .f64 (minus g b)) w :=
  run_float_arith w .sub ty .f64 g b (minus g b) (minus_is hg h)
theorem part_run {q d : Nat} (hq : q ≤ one) (hd : d < 9218868437227405312) (ty : TypeId) (w : World) : (binOp .mul ty (.float .f64 q) (.float .f64 d)).run Try.prog w = .ok (.float .f64 (part q d)) w :=
  run_float_arith w .mul ty .f64 q d (part q d) (part_is hq hd)
theorem fl_int {n : Int} (h0 : 0 ≤ n) (h1 : n < 9223372036854775808) : floatOfInt .f64 n = fl n.toNat := by
  obtain ⟨m, rfl⟩ := Int.eq_ofNat_of_zero_le h0
  rw [Int.toNat_natCast]
  exact fl_is m (by omega)
theorem clean_1000 (base : Nat) (hb : base < 18446744073709551616) : clean base 0 4652007308841189376 ≤ K1000 := clean_nat base K1000 hb (by unfold K1000; omega)
theorem refwait_at (base : Nat) (nodes told most : Int) (hb : base < 18446744073709551616) (hn1 : nodes < 9223372036854775808) (ht1 : told < 9223372036854775808) (hm1 : most < 9223372036854775808) (w : World) :
    Calls Try.prog 20 #[.float .f64 base, .int .i64 nodes, .int .i64 told, .int .i64 most] w fun e w' => e = .returned (.float .f64 (wait (clean base 0 4652007308841189376) (bn nodes) told most)) ∧ w = w' := by
  have HC : Aside0 (∀ w, Calls Try.prog 22 #[.float .f64 base, .float .f64 0, .float .f64 4652007308841189376] w fun e w' => e = .returned (.float .f64 (clean base 0 4652007308841189376)) ∧ w = w') := ⟨fun w => refclean_at base 0 _ w⟩
  have HB : Aside0 (∀ w, Calls Try.prog 21 #[.int .i64 nodes] w fun e w' => e = .returned (.int .i64 (bn nodes)) ∧ w = w') := ⟨fun w => refbits_at nodes hn1 w⟩
  have hk := bn_le nodes hn1
  have hc := clean_1000 base hb
  generalize clean base 0 4652007308841189376 = b at HC hc ⊢
  generalize bn nodes = k at HB hk ⊢
  have hF : floatOfInt .f64 (k : Int) = fl k := fl_is k (by omega)
  have hm := mul_run b k hc (by omega)
  have h1 : (FloatKind.f64.format.order (mulR b k) b == some .lt) = decide (mulR b k < b) := lt_nat (m_fin b k hc (by omega)) (b_fin b hc)
  have hg := great_eq b k
  have hgl := great_lt hc (show k ≤ 64 by omega)
  have hbg : b ≤ great b k := Nat.le_max_right _ _
  unfold wait
  by_cases c1 : mulR b k < b
  · rw [decide_eq_true c1] at h1
    rw [if_pos c1] at hg
    rw [hg] at hgl hbg ⊢
    by_cases ht : told ≤ 0
    · rw [if_pos ht]
      exact refwait_bnone base b (fl k) (mulR b k) nodes told most k w HC HB hF hm h1 ht
    · rw [if_neg ht]
      by_cases hmo : most < 1
      · rw [if_pos (.inl hmo)]
        exact refwait_bleast base b (fl k) (mulR b k) nodes told most k w HC HB hF hm h1 ht hmo
      · by_cases hle : most ≤ told
        · rw [if_pos (.inr hle)]
          exact refwait_benough base b (fl k) (mulR b k) nodes told most k w HC HB hF hm h1 ht hmo hle
        · rw [if_neg (by omega)]
          have hq := quo_run (t := told.toNat) (m := most.toNat) (by omega) (by omega) (by omega)
          have hfr := fr_le (t := told.toNat) (m := most.toNat) (by omega) (by omega)
          have hd := minus_run (g := b) (b := b) hgl (Nat.le_refl _)
          have hml := minus_le b b
          have hp := part_run (q := fr told.toNat most.toNat) (d := minus b b) hfr (by omega)
          have hpl := part_le (q := fr told.toNat most.toNat) (d := minus b b) hfr
          have hx := minus_run (g := b) (b := part (fr told.toNat most.toNat) (minus b b)) hgl (by omega)
          have hxl := minus_le b (part (fr told.toNat most.toNat) (minus b b))
          have h2 := lt_nat (x := minus b (part (fr told.toNat most.toNat) (minus b b))) (y := b) (by omega) (by omega)
          unfold less
          by_cases c2 : minus b (part (fr told.toNat most.toNat) (minus b b)) < b
          · rw [decide_eq_true c2] at h2
            rw [Nat.max_eq_right (by omega)]
            exact refwait_bunder base b (fl k) (mulR b k) _ _ _ _ _ _ nodes told most k w HC HB hF hm h1 ht hmo hle (fl_int (by omega) ht1) (fl_int (by omega) hm1) hq hd hp hx h2
          · rw [decide_eq_false c2] at h2
            rw [Nat.max_eq_left (by omega)]
            exact refwait_bover base b (fl k) (mulR b k) _ _ _ _ _ _ nodes told most k w HC HB hF hm h1 ht hmo hle (fl_int (by omega) ht1) (fl_int (by omega) hm1) hq hd hp hx h2
  · rw [decide_eq_false c1] at h1
    rw [if_neg c1] at hg
    rw [hg] at hgl hbg ⊢
    by_cases ht : told ≤ 0
    · rw [if_pos ht]
      exact refwait_mnone base b (fl k) (mulR b k) nodes told most k w HC HB hF hm h1 ht
    · rw [if_neg ht]
      by_cases hmo : most < 1
      · rw [if_pos (.inl hmo)]
        exact refwait_mleast base b (fl k) (mulR b k) nodes told most k w HC HB hF hm h1 ht hmo
      · by_cases hle : most ≤ told
        · rw [if_pos (.inr hle)]
          exact refwait_menough base b (fl k) (mulR b k) nodes told most k w HC HB hF hm h1 ht hmo hle
        · rw [if_neg (by omega)]
          obtain ⟨G, hG⟩ : ∃ G, G = mulR b k := ⟨_, rfl⟩
          rw [← hG] at hgl hbg hm h1 ⊢
          have hq := quo_run (t := told.toNat) (m := most.toNat) (by omega) (by omega) (by omega)
          have hfr := fr_le (t := told.toNat) (m := most.toNat) (by omega) (by omega)
          have hd := minus_run (g := G) (b := b) hgl hbg
          have hml := minus_le G b
          have hp := part_run (q := fr told.toNat most.toNat) (d := minus G b) hfr (by omega)
          have hpl := part_le (q := fr told.toNat most.toNat) (d := minus G b) hfr
          have hx := minus_run (g := G) (b := part (fr told.toNat most.toNat) (minus G b)) hgl (by omega)
          have hxl := minus_le G (part (fr told.toNat most.toNat) (minus G b))
          have h2 := lt_nat (x := minus G (part (fr told.toNat most.toNat) (minus G b))) (y := b) (by omega) (by omega)
          unfold less
          by_cases c2 : minus G (part (fr told.toNat most.toNat) (minus G b)) < b
          · rw [decide_eq_true c2] at h2
            rw [Nat.max_eq_right (by omega)]
            exact refwait_munder base b (fl k) G _ _ _ _ _ _ nodes told most k w HC HB hF hm h1 ht hmo hle (fl_int (by omega) ht1) (fl_int (by omega) hm1) hq hd hp hx h2
          · rw [decide_eq_false c2] at h2
            rw [Nat.max_eq_left (by omega)]
            exact refwait_mover base b (fl k) G _ _ _ _ _ _ nodes told most k w HC HB hF hm h1 ht hmo hle (fl_int (by omega) ht1) (fl_int (by omega) hm1) hq hd hp hx h2
theorem wait_at (base : Nat) (nodes told most : Int) (hb : base < 18446744073709551616) (hn0 : -9223372036854775808 ≤ nodes) (hn1 : nodes < 9223372036854775808) (ht1 : told < 9223372036854775808) (hm1 : most < 9223372036854775808) (w : World) :
    Calls Try.prog 19 #[.float .f64 base, .int .i64 nodes, .int .i64 told, .int .i64 most] w fun e w' => e = .returned (.float .f64 (wait (clean base 0 4652007308841189376) (bn nodes) told most)) ∧ Below w.heap.size w w' := by
  have HC : Aside0 (∀ w, Calls Try.prog 18 #[.float .f64 base, .float .f64 0, .float .f64 4652007308841189376] w fun e w' => e = .returned (.float .f64 (clean base 0 4652007308841189376)) ∧ w = w') := ⟨fun w => clean_at base 0 _ w⟩
  have HB : Aside0 (∀ w, Calls Try.prog 16 #[.int .i64 nodes] w fun e w' => e = .returned (.int .i64 (bn nodes)) ∧ w = w') := ⟨fun w => bits_at nodes hn0 hn1 w⟩
  have hk := bn_le nodes hn1
  have hc := clean_1000 base hb
  generalize clean base 0 4652007308841189376 = b at HC hc ⊢
  generalize bn nodes = k at HB hk ⊢
  have hF : floatOfInt .f64 (k : Int) = fl k := fl_is k (by omega)
  have hm := mul_run b k hc (by omega)
  have hgl := great_lt hc (show k ≤ 64 by omega)
  have hbg : b ≤ great b k := Nat.le_max_right _ _
  have hmax : Builtin.max2 (.float .f64 (mulR b k)) (.float .f64 b) = pure (.float .f64 (great b k)) := max2_nat (m_fin b k hc (by omega)) (b_fin b hc)
  refine wait_at' base b (fl k) (mulR b k) (great b k) _ nodes told most k w HC HB hF hm hmax ⟨fun h => by unfold wait; rw [if_pos h]⟩ ⟨fun h h1 => by unfold wait; rw [if_neg h, if_pos h1]⟩ ⟨fun h h1 h2 => ?_⟩
  have hw : wait b k told most = less (fr told.toNat most.toNat) (great b k) b := by unfold wait; rw [if_neg h, if_neg (by omega)]
  rw [hw]
  clear hw
  have hq := quo_run (t := told.toNat) (m := most.toNat) (by omega) (by omega) (by omega)
  have hfr := fr_le (t := told.toNat) (m := most.toNat) (by omega) (by omega)
  have hd := minus_run (g := great b k) (b := b) hgl hbg
  have hml := minus_le (great b k) b
  have hp := part_run (q := fr told.toNat most.toNat) (d := minus (great b k) b) hfr (by omega)
  have hpl := part_le (q := fr told.toNat most.toNat) (d := minus (great b k) b) hfr
  have hx := minus_run (g := great b k) (b := part (fr told.toNat most.toNat) (minus (great b k) b)) hgl (by omega)
  have hxl := minus_le (great b k) (part (fr told.toNat most.toNat) (minus (great b k) b))
  have hmax2 : Builtin.max2 (.float .f64 (minus (great b k) (part (fr told.toNat most.toNat) (minus (great b k) b)))) (.float .f64 b) = pure (.float .f64 (less (fr told.toNat most.toNat) (great b k) b)) := max2_nat (by omega) (b_fin b hc)
  exact ⟨_, _, _, fl_int (by omega) ht1, fl_int (by omega) hm1, hq, fun g1 g2 w h1 h2 => less_at g1 g2 _ (great b k) b _ _ _ _ w h1 h2 hd hp hx hmax2⟩
end Go.Proofs.Ytbgpdofbnifapaa.R
