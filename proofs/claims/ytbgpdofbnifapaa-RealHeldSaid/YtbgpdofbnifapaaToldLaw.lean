/- RealTold, by hand: the law's own walk. -/
import Derived.Test.YtbgpdofbnifapaaHeldLaws
namespace Go.Proofs.Ytbgpdofbnifapaa.R
open Go.RowKit Go.Proofs.YtbgpdofbnifapaaW.PrintWords Go.Proofs.YtbgpdofbnifapaaW.PrintLast Go.Proofs.YtbgpdofbnifapaaW.PrintMore

set_option maxHeartbeats 2000000 in
theorem told_walk (base b g : Nat) (n z : Nat) (w : World) (p : Bool)
    (HC : Aside0 (∀ w, Calls Try.prog 22 #[.float .f64 base, .float .f64 0, .float .f64 4652007308841189376] w fun e w' => e = .returned (.float .f64 b) ∧ w = w'))
    (H0 : Aside0 (∀ w, Calls Try.prog 19 #[.float .f64 base, .int .i64 n, .int .i64 0, .int .i64 (1 + (z : Int))] w fun e w' => e = .returned (.float .f64 g) ∧ Below w.heap.size w w'))
    (H1 : Aside0 (∀ w, Calls Try.prog 19 #[.float .f64 base, .int .i64 n, .int .i64 (1 + (z : Int)), .int .i64 (1 + (z : Int))] w fun e w' => e = .returned (.float .f64 b) ∧ Below w.heap.size w w'))
    (H2 : Aside0 (∀ w, Calls Try.prog 19 #[.float .f64 base, .int .i64 n, .int .i64 (1 + (z : Int) + 9), .int .i64 (1 + (z : Int))] w fun e w' => e = .returned (.float .f64 b) ∧ Below w.heap.size w w'))
    (H3 : Aside0 (∀ w, Calls Try.prog 19 #[.float .f64 base, .int .i64 n, .int .i64 3, .int .i64 0] w fun e w' => e = .returned (.float .f64 b) ∧ Below w.heap.size w w'))
    (H4 : Aside0 (∀ w, Calls Try.prog 19 #[.float .f64 base, .int .i64 n, .int .i64 (-1), .int .i64 (1 + (z : Int))] w fun e w' => e = .returned (.float .f64 g) ∧ Below w.heap.size w w'))
    (hn : (n : Int) < 65536) (hz : (z : Int) < 256)
    (hp : (FloatKind.f64.format.order base 0 == some .gt) = p) (hg : p = false → (FloatKind.f64.format.order g 0 != some .eq) = false)
    (hb : (FloatKind.f64.format.order b b == some .eq) = true) (hgg : (FloatKind.f64.format.order g g == some .eq) = true) :
    Calls Try.prog 9 #[.float .f64 base, .int .u16 n, .int .u8 z] w fun e w' => e = .returned (.bool true) ∧ Below w.heap.size w w' := by
  have HS := Aside0.mk shown_at
  have hB := Aside0.mk (Below.refl w.heap.size w)
  have hw1 : wrap64 (1 + (z : Int)) = 1 + (z : Int) := by unfold wrap64; omega
  have hw2 : wrap64 (1 + (z : Int) + 9) = 1 + (z : Int) + 9 := by unfold wrap64; omega
  cases p
  · have hg' := hg rfl
    clear hg
    go_enter Try.func9, Try.ntmps9
    go_wp2_with (first
      | (go_at_call 22; (with_reducible refine (HC.out _).mono ?_); rintro e w' ⟨rfl, rfl⟩)
      | (go_at_call 19; (with_reducible refine (H0.out _).mono ?_); rintro e w' ⟨rfl, hb⟩; replace hB := Aside0.mk (below_step hB.out hb); clear hb)
      | (go_at_call 19; (with_reducible refine (H1.out _).mono ?_); rintro e w' ⟨rfl, hb⟩; replace hB := Aside0.mk (below_step hB.out hb); clear hb)
      | (go_at_call 19; (with_reducible refine (H2.out _).mono ?_); rintro e w' ⟨rfl, hb⟩; replace hB := Aside0.mk (below_step hB.out hb); clear hb)
      | (go_at_call 19; (with_reducible refine (H3.out _).mono ?_); rintro e w' ⟨rfl, hb⟩; replace hB := Aside0.mk (below_step hB.out hb); clear hb)
      | (go_at_call 19; (with_reducible refine (H4.out _).mono ?_); rintro e w' ⟨rfl, hb⟩; replace hB := Aside0.mk (below_step hB.out hb); clear hb)
      | (go_at_call 14; (with_reducible refine (HS.out _).mono ?_); rintro e w' ⟨rfl, rfl⟩))
    go_ret
    exact ⟨rfl, hB.out⟩
  · clear hg
    go_enter Try.func9, Try.ntmps9
    go_wp2_with (first
      | (go_at_call 22; (with_reducible refine (HC.out _).mono ?_); rintro e w' ⟨rfl, rfl⟩)
      | (go_at_call 19; (with_reducible refine (H0.out _).mono ?_); rintro e w' ⟨rfl, hb⟩; replace hB := Aside0.mk (below_step hB.out hb); clear hb)
      | (go_at_call 19; (with_reducible refine (H1.out _).mono ?_); rintro e w' ⟨rfl, hb⟩; replace hB := Aside0.mk (below_step hB.out hb); clear hb)
      | (go_at_call 19; (with_reducible refine (H2.out _).mono ?_); rintro e w' ⟨rfl, hb⟩; replace hB := Aside0.mk (below_step hB.out hb); clear hb)
      | (go_at_call 19; (with_reducible refine (H3.out _).mono ?_); rintro e w' ⟨rfl, hb⟩; replace hB := Aside0.mk (below_step hB.out hb); clear hb)
      | (go_at_call 19; (with_reducible refine (H4.out _).mono ?_); rintro e w' ⟨rfl, hb⟩; replace hB := Aside0.mk (below_step hB.out hb); clear hb)
      | (go_at_call 14; (with_reducible refine (HS.out _).mono ?_); rintro e w' ⟨rfl, rfl⟩))
    go_ret
    exact ⟨rfl, hB.out⟩
theorem clean_not (base : Nat) (h : gt base 0 = false) : clean base 0 4652007308841189376 = 0 := by
  have o := ord_cases base 0
  have o2 := ord_cases base 4652007308841189376
  rw [num_zero, nan_zero] at o
  have k : Flt.num 4652007308841189376 = 4652007308841189376 := by decide
  rw [k] at o2
  unfold clean
  by_cases h1 : (Flt.nan base || !le 0 4652007308841189376 || lt base 0) = true
  · rw [if_pos h1]
  · rw [if_neg h1]
    simp only [Bool.or_eq_true, not_or, Bool.not_eq_true] at h1
    have hz : Flt.num base = 0 ∧ eq base 0 = true := by
      rcases o with ⟨e, _⟩ | ⟨_, _, ⟨e, _⟩ | ⟨_, e, _, e2⟩ | ⟨_, _, e, _⟩⟩
      · rw [h1.1.1] at e; simp at e
      · rw [h1.2] at e; cases e
      · exact ⟨e2, e⟩
      · rw [h] at e; cases e
    have hg : gt base 4652007308841189376 = false := by
      rcases o2 with ⟨_, _, _, e⟩ | ⟨_, _, ⟨_, _, e, _⟩ | ⟨_, _, e, _⟩ | ⟨_, _, _, e⟩⟩
      · exact e
      · exact e
      · exact e
      · omega
    rw [hg, hz.2]
    simp
theorem great_zero (k : Nat) : great 0 k = 0 := by
  unfold great mulR
  rw [show Flt.val 0 = 0 from rfl, Nat.zero_mul, Flt.RR_zero]
  rfl
theorem told_law (base : Nat) (nodes most : Int) (hb : base < 18446744073709551616) (hn : (Lit.int .u16 nodes).wf = true) (hm : (Lit.int .u8 most).wf = true) (w : World) :
    Calls Try.prog 9 #[.float .f64 base, .int .u16 nodes, .int .u8 most] w fun e w' => e = .returned (.bool true) ∧ Below w.heap.size w w' := by
  have b1 := u16_bounds hn
  have b2 := u8_bounds hm
  obtain ⟨n, rfl⟩ := Int.eq_ofNat_of_zero_le b1.1
  obtain ⟨z, rfl⟩ := Int.eq_ofNat_of_zero_le b2.1
  have hk := bn_le (n : Int) (by omega)
  have hc := clean_1000 base hb
  have W : ∀ (told mo : Int) (v : Nat), told < 9223372036854775808 → mo < 9223372036854775808 → wait (clean base 0 4652007308841189376) (bn n) told mo = v →
      Aside0 (∀ w, Calls Try.prog 19 #[.float .f64 base, .int .i64 n, .int .i64 told, .int .i64 mo] w fun e w' => e = .returned (.float .f64 v) ∧ Below w.heap.size w w') :=
    fun told mo v h1 h2 h3 => ⟨fun w => h3 ▸ wait_at base n told mo hb (by omega) (by omega) h1 h2 w⟩
  have hbf := b_fin _ hc
  have hgf := Nat.le_of_lt (great_lt hc (show bn n ≤ 64 by omega))
  refine told_walk base (clean base 0 4652007308841189376) (great (clean base 0 4652007308841189376) (bn n)) n z w _ ⟨fun w => refclean_at base 0 _ w⟩
    (W 0 _ _ (by omega) (by omega) ?_) (W _ _ _ (by omega) (by omega) ?_) (W _ _ _ (by omega) (by omega) ?_) (W 3 0 _ (by omega) (by omega) ?_) (W (-1) _ _ (by omega) (by omega) ?_) (by omega) (by omega) rfl ?_ (eq_nat hbf) (eq_nat hgf)
  · unfold wait; rw [if_pos (by omega)]
  · unfold wait; rw [if_neg (by omega), if_pos (by omega)]
  · unfold wait; rw [if_neg (by omega), if_pos (by omega)]
  · unfold wait; rw [if_neg (by omega), if_pos (by omega)]
  · unfold wait; rw [if_pos (by omega)]
  · intro hp
    rw [clean_not base hp, great_zero]
    rfl
end Go.Proofs.Ytbgpdofbnifapaa.R
