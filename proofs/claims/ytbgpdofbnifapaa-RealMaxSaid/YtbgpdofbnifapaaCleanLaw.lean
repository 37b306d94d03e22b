/- RealClean, by hand: the law's own walk. -/
import Derived.Test.YtbgpdofbnifapaaClean
namespace Go.Proofs.Ytbgpdofbnifapaa.R
open Go.RowKit Go.Proofs.YtbgpdofbnifapaaW.PrintWords Go.Proofs.YtbgpdofbnifapaaW.PrintLast Go.Proofs.YtbgpdofbnifapaaW.PrintMore
open Flt (nan num rung low sgn)

theorem alike_self (x : Nat) : alike x x = true := by unfold alike; simp
set_option maxHeartbeats 4000000 in
theorem clean_law (x l h : Nat) (_ : x < 18446744073709551616) (_ : l < 18446744073709551616) (_ : h < 18446744073709551616) (w : World) :
    Calls Try.prog 6 #[.float .f64 x, .float .f64 l, .float .f64 h] w fun e w' => e = .returned (.bool true) ∧ w = w' := by
  have HS := Aside0.mk shown_at
  cases hl : le l h
  · have e : clean x l h = l := by unfold clean; rw [hl]; simp
    have H1 := Aside0.mk (fun w => e ▸ clean_at x l h w)
    have HA := Aside0.mk (fun w => alike_self l ▸ alike_at l l w)
    clear e
    have hl' : (FloatKind.f64.format.order l h == some .lt || FloatKind.f64.format.order l h == some .eq) = false := hl
    clear hl
    go_enter Try.func6, Try.ntmps6
    go_wp2_with (first
      | (go_at_call 18; (with_reducible refine (H1.out _).mono ?_); rintro e w' ⟨rfl, rfl⟩)
      | (go_at_call 14; (with_reducible refine (HS.out _).mono ?_); rintro e w' ⟨rfl, rfl⟩)
      | (go_at_call 15; (with_reducible refine (HA.out _).mono ?_); rintro e w' ⟨rfl, rfl⟩))
    go_ret
    exact ⟨rfl, rfl⟩
  · have sp := clean_spec x l h hl
    have H1 := fun w => clean_at x l h w
    have H2 := fun w => clean_at (clean x l h) l h w
    obtain ⟨y, hy⟩ : ∃ y, y = clean x l h := ⟨_, rfl⟩
    rw [← hy] at H1 H2 sp
    clear hy
    obtain ⟨z, hz⟩ : ∃ z, z = clean y l h := ⟨_, rfl⟩
    rw [← hz] at H2 sp
    clear hz
    have H1 := Aside0.mk H1
    have H2 := Aside0.mk H2
    have hl' : (FloatKind.f64.format.order l h == some .lt || FloatKind.f64.format.order l h == some .eq) = true := hl
    have s1 : (FloatKind.f64.format.order y l == some .gt || FloatKind.f64.format.order y l == some .eq) = true := sp.1
    have s2 : (FloatKind.f64.format.order y h == some .lt || FloatKind.f64.format.order y h == some .eq) = true := sp.2.1
    have s3 : (FloatKind.f64.format.order z y == some .eq) = true := sp.2.2
    clear hl sp
    go_enter Try.func6, Try.ntmps6
    go_wp2_with (first
      | (go_at_call 18; (with_reducible refine (H1.out _).mono ?_); rintro e w' ⟨rfl, rfl⟩)
      | (go_at_call 18; (with_reducible refine (H2.out _).mono ?_); rintro e w' ⟨rfl, rfl⟩)
      | (go_at_call 14; (with_reducible refine (HS.out _).mono ?_); rintro e w' ⟨rfl, rfl⟩))
    go_ret
    exact ⟨rfl, rfl⟩
end Go.Proofs.Ytbgpdofbnifapaa.R
