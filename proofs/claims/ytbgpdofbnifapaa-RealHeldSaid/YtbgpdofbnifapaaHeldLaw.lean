/- RealHeld, by hand: the law's own walk. -/
import Derived.Test.YtbgpdofbnifapaaToldLaw
namespace Go.Proofs.Ytbgpdofbnifapaa.R
open Go.RowKit Go.Proofs.YtbgpdofbnifapaaW.PrintWords Go.Proofs.YtbgpdofbnifapaaW.PrintLast Go.Proofs.YtbgpdofbnifapaaW.PrintMore
attribute [local go_sem] max2_int min2_int max_two min_two
set_option maxHeartbeats 2000000 in
theorem held_walk (base b v x g d f m k : Nat) (n t o s : Nat) (w : World)
    (HC : Aside0 (∀ w, Calls Try.prog 22 #[.float .f64 base, .float .f64 0, .float .f64 4652007308841189376] w fun e w' => e = .returned (.float .f64 b) ∧ w = w'))
    (H1 : Aside0 (∀ w, Calls Try.prog 19 #[.float .f64 base, .int .i64 n, .int .i64 t, .int .i64 s] w fun e w' => e = .returned (.float .f64 v) ∧ Below w.heap.size w w'))
    (H2 : Aside0 (∀ w, Calls Try.prog 19 #[.float .f64 base, .int .i64 n, .int .i64 ((t : Int) + (o : Int)), .int .i64 s] w fun e w' => e = .returned (.float .f64 x) ∧ Below w.heap.size w w'))
    (H3 : Aside0 (∀ w, Calls Try.prog 19 #[.float .f64 base, .int .i64 n, .int .i64 0, .int .i64 s] w fun e w' => e = .returned (.float .f64 g) ∧ Below w.heap.size w w'))
    (H4 : Aside0 (∀ w, Calls Try.prog 19 #[.float .f64 base, .int .i64 ((n : Int) + (o : Int)), .int .i64 0, .int .i64 s] w fun e w' => e = .returned (.float .f64 d) ∧ Below w.heap.size w w'))
    (HR : Aside0 (∀ w, Calls Try.prog 21 #[.int .i64 n] w fun e w' => e = .returned (.int .i64 k) ∧ w = w'))
    (hn : (n : Int) < 65536) (ht : (t : Int) < 65536) (ho : (o : Int) < 65536) (hs : (s : Int) < 65536)
    (c1 : (FloatKind.f64.format.order v b == some .gt || FloatKind.f64.format.order v b == some .eq) = true)
    (c2 : (FloatKind.f64.format.order v g == some .lt || FloatKind.f64.format.order v g == some .eq) = true)
    (c3 : (FloatKind.f64.format.order x v == some .lt || FloatKind.f64.format.order x v == some .eq) = true)
    (c4 : (FloatKind.f64.format.order x b == some .gt || FloatKind.f64.format.order x b == some .eq) = true)
    (c5 : (FloatKind.f64.format.order d g == some .gt || FloatKind.f64.format.order d g == some .eq) = true)
    (hF : floatOfInt .f64 k = f) (hm : ∀ t w, (binOp .mul t (.float .f64 b) (.float .f64 f)).run Try.prog w = .ok (.float .f64 m) w)
    (hmax : Builtin.max2 (.float .f64 b) (.float .f64 m) = pure (.float .f64 g))
    (c6 : (FloatKind.f64.format.order g g == some .eq) = true) :
    Calls Try.prog 8 #[.float .f64 base, .int .u16 n, .int .u16 t, .int .u16 o, .int .u16 s] w fun e w' => e = .returned (.bool true) ∧ Below w.heap.size w w' := by
  have HS := Aside0.mk shown_at
  have hB := Aside0.mk (Below.refl w.heap.size w)
  have hw1 : wrap64 ((t : Int) + (o : Int)) = (t : Int) + (o : Int) := by unfold wrap64; omega
  have hw2 : wrap64 ((n : Int) + (o : Int)) = (n : Int) + (o : Int) := by unfold wrap64; omega
  go_enter Try.func8, Try.ntmps8
  go_wp2_with (first
    | (go_at_call 22; (with_reducible refine (HC.out _).mono ?_); rintro e w' ⟨rfl, rfl⟩)
    | (go_at_call 19; (with_reducible refine (H1.out _).mono ?_); rintro e w' ⟨rfl, hb⟩; replace hB := Aside0.mk (below_step hB.out hb); clear hb)
    | (go_at_call 19; (with_reducible refine (H2.out _).mono ?_); rintro e w' ⟨rfl, hb⟩; replace hB := Aside0.mk (below_step hB.out hb); clear hb)
    | (go_at_call 19; (with_reducible refine (H3.out _).mono ?_); rintro e w' ⟨rfl, hb⟩; replace hB := Aside0.mk (below_step hB.out hb); clear hb)
    | (go_at_call 19; (with_reducible refine (H4.out _).mono ?_); rintro e w' ⟨rfl, hb⟩; replace hB := Aside0.mk (below_step hB.out hb); clear hb)
    | (go_at_call 21; (with_reducible refine (HR.out _).mono ?_); rintro e w' ⟨rfl, rfl⟩)
    | (go_at_call 14; (with_reducible refine (HS.out _).mono ?_); rintro e w' ⟨rfl, rfl⟩))
  go_ret
  exact ⟨rfl, hB.out⟩
theorem bn_mono {a c : Nat} (h : a ≤ c) (hc : c < 9223372036854775808) : bn (a : Int) ≤ bn (c : Int) := by
  have e1 : bn (a : Int) = Lib.bitLen a := by unfold bn; rw [if_neg (by omega), Int.toNat_natCast]
  have e2 : bn (c : Int) = Lib.bitLen c := by unfold bn; rw [if_neg (by omega), Int.toNat_natCast]
  rw [e1, e2]
  have s1 := len_spec 63 a (by omega) (by omega)
  have s2 := len_spec 63 c (by omega) (by omega)
  rcases Nat.lt_or_ge (Lib.bitLen c) (Lib.bitLen a) with l | l
  · by_cases h0 : a = 0
    · rw [h0] at l; exact absurd l (by rw [show Lib.bitLen 0 = 0 from by decide]; omega)
    · have := s1.2 h0
      have : 2 ^ Lib.bitLen c ≤ 2 ^ (Lib.bitLen a - 1) := Nat.pow_le_pow_right (by decide) (by omega)
      omega
  · exact l
theorem held_law (base : Nat) (nodes told more most : Int) (hb : base < 18446744073709551616) (h1 : (Lit.int .u16 nodes).wf = true) (h2 : (Lit.int .u16 told).wf = true) (h3 : (Lit.int .u16 more).wf = true) (h4 : (Lit.int .u16 most).wf = true) (w : World) :
    Calls Try.prog 8 #[.float .f64 base, .int .u16 nodes, .int .u16 told, .int .u16 more, .int .u16 most] w fun e w' => e = .returned (.bool true) ∧ Below w.heap.size w w' := by
  have b1 := u16_bounds h1
  have b2 := u16_bounds h2
  have b3 := u16_bounds h3
  have b4 := u16_bounds h4
  obtain ⟨n, rfl⟩ := Int.eq_ofNat_of_zero_le b1.1
  obtain ⟨t, rfl⟩ := Int.eq_ofNat_of_zero_le b2.1
  obtain ⟨o, rfl⟩ := Int.eq_ofNat_of_zero_le b3.1
  obtain ⟨s, rfl⟩ := Int.eq_ofNat_of_zero_le b4.1
  have hk := bn_le (n : Int) (by omega)
  have hk2 := bn_le ((n : Int) + (o : Int)) (by omega)
  have hkm : bn (n : Int) ≤ bn ((n : Int) + (o : Int)) := by
    have := bn_mono (a := n) (c := n + o) (by omega) (by omega)
    rwa [Int.natCast_add] at this
  have hc := clean_1000 base hb
  have HC : Aside0 (∀ w, Calls Try.prog 22 #[.float .f64 base, .float .f64 0, .float .f64 4652007308841189376] w fun e w' => e = .returned (.float .f64 (clean base 0 4652007308841189376)) ∧ w = w') := ⟨fun w => refclean_at base 0 _ w⟩
  have W : ∀ (nn told mo : Int), -9223372036854775808 ≤ nn → nn < 9223372036854775808 → told < 9223372036854775808 → mo < 9223372036854775808 →
      Aside0 (∀ w, Calls Try.prog 19 #[.float .f64 base, .int .i64 nn, .int .i64 told, .int .i64 mo] w fun e w' => e = .returned (.float .f64 (wait (clean base 0 4652007308841189376) (bn nn) told mo)) ∧ Below w.heap.size w w') :=
    fun nn told mo h0 h1 h2 h3 => ⟨fun w => wait_at base nn told mo hb h0 h1 h2 h3 w⟩
  generalize clean base 0 4652007308841189376 = b at hc HC W
  have z1 : wait b (bn n) 0 s = great b (bn n) := by unfold wait; rw [if_pos (by omega)]
  have z2 : wait b (bn ((n : Int) + (o : Int))) 0 s = great b (bn ((n : Int) + (o : Int))) := by unfold wait; rw [if_pos (by omega)]
  have H3 := W n 0 s (by omega) (by omega) (by omega) (by omega)
  have H4 := W ((n : Int) + (o : Int)) 0 s (by omega) (by omega) (by omega) (by omega)
  rw [z1] at H3
  rw [z2] at H4
  have bf := b_fin b hc
  have gl1 := great_lt hc (show bn n ≤ 64 by omega)
  have gl2 := great_lt hc (show bn ((n : Int) + (o : Int)) ≤ 64 by omega)
  have wl : ∀ told mo, wait b (bn n) told mo ≤ 9218868437227405312 := fun told mo => Nat.le_of_lt (wait_lt hc (by omega) told mo)
  exact held_walk base b _ _ _ _ (fl (bn n)) (mulR b (bn n)) (bn n) n t o s w HC (W n t s (by omega) (by omega) (by omega) (by omega)) (W n ((t : Int) + (o : Int)) s (by omega) (by omega) (by omega) (by omega)) H3 H4
    ⟨fun w => refbits_at n (by omega) w⟩ (by omega) (by omega) (by omega) (by omega)
    (ge_nat (wl _ _) (wait_ge _ _ _ _)) (le_nat (Nat.le_of_lt gl1) (wait_le _ _ _ _)) (le_nat (wl _ _) (wait_mono _ _ _ _ _ (by omega))) (ge_nat (wl _ _) (wait_ge _ _ _ _))
    (ge_nat (Nat.le_of_lt gl2) (great_mono hkm)) (fl_is _ (by omega)) (mul_run b (bn n) hc (by omega))
    (by rw [max2_nat bf (m_fin b (bn n) hc (by omega)), Nat.max_comm]; rfl) (eq_nat (Nat.le_of_lt gl1))
end Go.Proofs.Ytbgpdofbnifapaa.R
