/- RealOrder, by hand: the law's own walk. -/
import Derived.Test.YtbgpdofbnifapaaOrderCases
namespace Go.Proofs.Ytbgpdofbnifapaa.R
open Go.RowKit Go.Proofs.YtbgpdofbnifapaaW.PrintWords Go.Proofs.YtbgpdofbnifapaaW.PrintLast Go.Proofs.YtbgpdofbnifapaaW.PrintMore
open Flt (nan num rung low sgn)

theorem num_key (x y : Nat) (hx : x < 18446744073709551616) (hy : y < 18446744073709551616) (nx : nan x = false) (ny : nan y = false) (h : num x < num y) : key x < key y := by
  rw [key_low x hx nx, key_low y hy ny]
  unfold Flt.num Flt.sgn at h
  cases lx : low x <;> cases ly : low y <;> rw [lx, ly] at h <;> simp only [if_true, if_false, Bool.false_eq_true] at * <;> omega
theorem lt_key (x y : Nat) (hx : x < 18446744073709551616) (hy : y < 18446744073709551616) (h : (FloatKind.f64.format.order x y == some .lt) = true) : key x < key y := by
  rw [ord] at h
  by_cases hn : nan x = true ∨ nan y = true
  · rw [if_pos hn] at h; cases h
  · rw [if_neg hn] at h
    refine num_key x y hx hy (by simpa using fun h => hn (.inl h)) (by simpa using fun h => hn (.inr h)) ?_
    by_cases hl : num x < num y
    · exact hl
    · simp only [compare, compareOfLessAndEq] at h
      rw [if_neg hl] at h
      split at h <;> cases h
theorem gt_key (x y : Nat) (hx : x < 18446744073709551616) (hy : y < 18446744073709551616) (h : (FloatKind.f64.format.order x y == some .gt) = true) : key y < key x := by
  rw [ord] at h
  by_cases hn : nan x = true ∨ nan y = true
  · rw [if_pos hn] at h; cases h
  · rw [if_neg hn] at h
    refine num_key y x hy hx (by simpa using fun h => hn (.inr h)) (by simpa using fun h => hn (.inl h)) ?_
    simp only [compare, compareOfLessAndEq] at h
    by_cases hl : num x < num y
    · rw [if_pos hl] at h; cases h
    · rw [if_neg hl] at h
      by_cases he : num x = num y
      · rw [if_pos he] at h; cases h
      · omega
theorem order_law (x y z : Nat) (hx : x < 18446744073709551616) (hy : y < 18446744073709551616) (hz : z < 18446744073709551616) (w : World) :
    Calls Try.prog 3 #[.float .f64 x, .float .f64 y, .float .f64 z] w fun e w' => e = .returned (.bool true) ∧ w = w' := by
  have ks := key_same x y hx hy
  have kl := lt_key x y hx hy
  have kg := gt_key x y hx hy
  have e5 : cmp x x = 0 := by unfold cmp; rw [if_neg (by omega), if_neg (by omega)]
  have H5 : Aside0 (∀ w, Calls Try.prog 13 #[.float .f64 x, .float .f64 x] w fun e w' => e = .returned (.int .i64 0) ∧ w = w') := ⟨fun w => e5 ▸ order_at x x hx hx w⟩
  have O : ∀ (p q : Nat) (hp : p < 18446744073709551616) (hq : q < 18446744073709551616) (v : Int), cmp p q = v → Aside0 (∀ w, Calls Try.prog 13 #[.float .f64 p, .float .f64 q] w fun e w' => e = .returned (.int .i64 v) ∧ w = w') :=
    fun p q hp hq v hv => ⟨fun w => hv ▸ order_at p q hp hq w⟩
  have A : ∀ v, alike x y = v → Aside0 (∀ w, Calls Try.prog 15 #[.float .f64 x, .float .f64 y] w fun e w' => e = .returned (.bool v) ∧ w = w') :=
    fun v hv => ⟨fun w => hv ▸ alike_at x y w⟩
  have lo : ∀ p q, key p < key q → cmp p q = -1 := fun p q h => by unfold cmp; rw [if_pos h]
  have hi : ∀ p q, key q < key p → cmp p q = 1 := fun p q h => by unfold cmp; rw [if_neg (by omega), if_pos h]
  have eq : ∀ p q, key p = key q → cmp p q = 0 := fun p q h => by unfold cmp; rw [if_neg (by omega), if_neg (by omega)]
  rcases Int.lt_trichotomy (key x) (key y) with h | h | h
  · have ha : alike x y = false := by
      cases al : alike x y
      · rfl
      · exact absurd (ks.2 al) (by omega)
    have hg : (FloatKind.f64.format.order x y == some .gt) = false := by
      cases g : (FloatKind.f64.format.order x y == some .gt)
      · rfl
      · exact absurd (kg g) (by omega)
    have h1 := O x y hx hy _ (lo x y h)
    have h2 := O y x hy hx _ (hi y x h)
    rcases Int.lt_trichotomy (key y) (key z) with k | k | k
    · have h3 := O y z hy hz _ (lo y z k)
      have h4 := O x z hx hz _ (lo x z (by omega))
      cases hl : (FloatKind.f64.format.order x y == some .lt)
      · exact order_case4 x y z w h1 h2 H5 h3 h4 (A _ ha) hl hg
      · exact order_case1 x y z w h1 h2 H5 h3 h4 (A _ ha) hl hg
    · have h3 := O y z hy hz _ (eq y z k)
      have h4 := O x z hx hz _ (lo x z (by omega))
      cases hl : (FloatKind.f64.format.order x y == some .lt)
      · exact order_case5 x y z w h1 h2 H5 h3 h4 (A _ ha) hl hg
      · exact order_case2 x y z w h1 h2 H5 h3 h4 (A _ ha) hl hg
    · have h3 := O y z hy hz _ (hi y z k)
      cases hl : (FloatKind.f64.format.order x y == some .lt)
      · exact order_case3 x y z w h1 h2 H5 h3 (A _ ha) hl hg
      · exact order_case0 x y z w h1 h2 H5 h3 (A _ ha) hl hg
  · have ha : alike x y = true := ks.1 h
    have hg : (FloatKind.f64.format.order x y == some .gt) = false := by
      cases g : (FloatKind.f64.format.order x y == some .gt)
      · rfl
      · exact absurd (kg g) (by omega)
    have hl : (FloatKind.f64.format.order x y == some .lt) = false := by
      cases g : (FloatKind.f64.format.order x y == some .lt)
      · rfl
      · exact absurd (kl g) (by omega)
    have h1 := O x y hx hy _ (eq x y h)
    have h2 := O y x hy hx _ (eq y x h.symm)
    rcases Int.lt_trichotomy (key y) (key z) with k | k | k
    · exact order_case7 x y z w h1 h2 H5 (O y z hy hz _ (lo y z k)) (O x z hx hz _ (lo x z (by omega))) (A _ ha) hl hg
    · exact order_case8 x y z w h1 h2 H5 (O y z hy hz _ (eq y z k)) (O x z hx hz _ (eq x z (by omega))) (A _ ha) hl hg
    · exact order_case6 x y z w h1 h2 H5 (O y z hy hz _ (hi y z k)) (A _ ha) hl hg
  · have ha : alike x y = false := by
      cases al : alike x y
      · rfl
      · exact absurd (ks.2 al) (by omega)
    have hl : (FloatKind.f64.format.order x y == some .lt) = false := by
      cases g : (FloatKind.f64.format.order x y == some .lt)
      · rfl
      · exact absurd (kl g) (by omega)
    have h1 := O x y hx hy _ (hi x y h)
    have h2 := O y x hy hx _ (lo y x h)
    cases hg : (FloatKind.f64.format.order x y == some .gt)
    · exact order_case10 x y z w h1 h2 H5 (A _ ha) hl hg
    · exact order_case9 x y z w h1 h2 H5 (A _ ha) hl hg
end Go.Proofs.Ytbgpdofbnifapaa.R
