/- RealBlends, by hand: the law's own walk. -/
import Derived.Test.YtbgpdofbnifapaaBlendAt
import Derived.Test.YtbgpdofbnifapaaCleanLaw
namespace Go.Proofs.Ytbgpdofbnifapaa.R
open Go.RowKit Go.Proofs.YtbgpdofbnifapaaW.PrintWords Go.Proofs.YtbgpdofbnifapaaW.PrintLast Go.Proofs.YtbgpdofbnifapaaW.PrintMore
open Flt (nan num rung low sgn)

theorem clean_one : clean 4607182418800017408 0 one = one := by decide
theorem clean_zero : clean 0 0 one = 0 := by decide
theorem blend_one (old x : Nat) (w : World) : Calls Try.prog 23 #[.float .f64 old, .float .f64 x, .float .f64 4607182418800017408] w fun e w' => e = .returned (.float .f64 (if nan x then old else x)) ∧ w = w' := by
  have HC : Aside0 (∀ w, Calls Try.prog 18 #[.float .f64 4607182418800017408, .float .f64 0, .float .f64 4607182418800017408] w fun e w' => e = .returned (.float .f64 one) ∧ w = w') := ⟨fun w => clean_one ▸ clean_at 4607182418800017408 0 one w⟩
  have N : ∀ y b, nan y = b → Aside0 (∀ w, Calls Try.prog 36 #[.float .f64 y] w fun e w' => e = .returned (.bool b) ∧ w = w') := fun y b h => ⟨fun w => h ▸ isnan_at y w⟩
  cases nx : nan x
  · cases no : nan old
    · exact (blend_p3 old x 4607182418800017408 one w w HC (N _ _ nx) (N _ _ no) (by decide)).mono fun e w' h => ⟨h.1, h.2.symm⟩
    · exact (blend_p2 old x 4607182418800017408 one w w HC (N _ _ nx) (N _ _ no)).mono fun e w' h => ⟨h.1, h.2.symm⟩
  · exact (blend_p1 old x 4607182418800017408 one w w HC (N _ _ nx)).mono fun e w' h => ⟨h.1, h.2.symm⟩
theorem blend_nought (old x : Nat) (w : World) : Calls Try.prog 23 #[.float .f64 old, .float .f64 x, .float .f64 0] w fun e w' => e = .returned (.float .f64 (if nan x then old else if nan old then x else old)) ∧ w = w' := by
  have HC : Aside0 (∀ w, Calls Try.prog 18 #[.float .f64 0, .float .f64 0, .float .f64 4607182418800017408] w fun e w' => e = .returned (.float .f64 0) ∧ w = w') := ⟨fun w => clean_zero ▸ clean_at 0 0 one w⟩
  have N : ∀ y b, nan y = b → Aside0 (∀ w, Calls Try.prog 36 #[.float .f64 y] w fun e w' => e = .returned (.bool b) ∧ w = w') := fun y b h => ⟨fun w => h ▸ isnan_at y w⟩
  cases nx : nan x
  · cases no : nan old
    · exact (blend_p4 old x 0 0 w w HC (N _ _ nx) (N _ _ no) (by decide) (by decide)).mono fun e w' h => ⟨h.1, h.2.symm⟩
    · exact (blend_p2 old x 0 0 w w HC (N _ _ nx) (N _ _ no)).mono fun e w' h => ⟨h.1, h.2.symm⟩
  · exact (blend_p1 old x 0 0 w w HC (N _ _ nx)).mono fun e w' h => ⟨h.1, h.2.symm⟩
theorem blend_num (old x part : Nat) (hp : part < 18446744073709551616) (nx : nan x = false) (no : nan old = false) : nan (blend old x part) = false := by
  cases p1 : eq (clean part 0 one) one
  · cases p0 : eq (clean part 0 one) 0
    · obtain ⟨u, q, v, _, _, _, _, ⟨_, hb⟩ | ⟨s, _, ns, hb⟩⟩ := blend_parts old x part hp nx no p1 p0
      · rw [hb]; exact nan_zero
      · rw [hb]; exact ns
    · rw [blend_zero _ _ _ nx no p1 p0]; exact no
  · rw [blend_old _ _ _ nx (by rw [p1]; simp)]; exact nx
theorem eq_self (x : Nat) : (FloatKind.f64.format.order x x == some .eq) = !nan x := by
  rw [← ord_self x]
  cases h : (FloatKind.f64.format.order x x == some .eq) <;> simp only [bne, h] <;> rfl
theorem alike_nan (x y : Nat) (hx : nan x = true) (hy : nan y = false) : alike x y = false := by
  unfold alike
  rw [hx, hy]
  have : x ≠ y := by rintro rfl; rw [hx] at hy; cases hy
  simp [this]
theorem alike_nan' (x y : Nat) (hx : nan x = false) (hy : nan y = true) : alike x y = false := by
  unfold alike
  rw [hx, hy]
  have : x ≠ y := by rintro rfl; rw [hx] at hy; cases hy
  simp [this]
set_option maxHeartbeats 1000000 in
theorem blends_walk (old x part y y1 y0 : Nat) (w : World) (a1 a0 no nx : Bool)
    (H1 : Aside0 (Calls Try.prog 23 #[.float .f64 old, .float .f64 x, .float .f64 part] w fun e w' => e = .returned (.float .f64 y) ∧ Below w.heap.size w w'))
    (H2 : Aside0 (∀ w, Calls Try.prog 23 #[.float .f64 old, .float .f64 x, .float .f64 4607182418800017408] w fun e w' => e = .returned (.float .f64 y1) ∧ w = w'))
    (H3 : Aside0 (∀ w, Calls Try.prog 23 #[.float .f64 old, .float .f64 x, .float .f64 0] w fun e w' => e = .returned (.float .f64 y0) ∧ w = w'))
    (A1 : Aside0 (∀ w, Calls Try.prog 15 #[.float .f64 y1, .float .f64 x] w fun e w' => e = .returned (.bool a1) ∧ w = w'))
    (A0 : Aside0 (∀ w, Calls Try.prog 15 #[.float .f64 y0, .float .f64 old] w fun e w' => e = .returned (.bool a0) ∧ w = w'))
    (eo : (FloatKind.f64.format.order old old == some .eq) = !no) (no' : (FloatKind.f64.format.order old old != some .eq) = no)
    (ex : (FloatKind.f64.format.order x x == some .eq) = !nx) (nx' : (FloatKind.f64.format.order x x != some .eq) = nx)
    (ey : nx = false → no = false → (FloatKind.f64.format.order y y != some .eq) = false)
    (h1 : a1 = (!nx || no)) (h0 : a0 = (!no || nx)) :
    Calls Try.prog 10 #[.float .f64 old, .float .f64 x, .float .f64 part] w fun e w' => e = .returned (.bool true) ∧ Below w.heap.size w w' := by
  have HS := Aside0.mk shown_at
  subst h1
  subst h0
  cases no <;> cases nx <;> simp only [Bool.not_true, Bool.not_false, Bool.or_true, Bool.or_false, forall_const, reduceCtorEq, false_implies, implies_true] at eo no' ex nx' ey A1 A0
  all_goals
    go_enter Try.func10, Try.ntmps10
    go_wp2_with (first
      | (go_at_call 23; (with_reducible refine H1.out.mono ?_); rintro e w' ⟨rfl, hb⟩; replace hb := Aside0.mk hb)
      | (go_at_call 23; (with_reducible refine (H2.out _).mono ?_); rintro e w' ⟨rfl, rfl⟩)
      | (go_at_call 23; (with_reducible refine (H3.out _).mono ?_); rintro e w' ⟨rfl, rfl⟩)
      | (go_at_call 15; (with_reducible refine (A1.out _).mono ?_); rintro e w' ⟨rfl, rfl⟩)
      | (go_at_call 15; (with_reducible refine (A0.out _).mono ?_); rintro e w' ⟨rfl, rfl⟩)
      | (go_at_call 14; (with_reducible refine (HS.out _).mono ?_); rintro e w' ⟨rfl, rfl⟩))
    go_ret
    exact ⟨rfl, hb.out⟩
theorem blends_law (old x part : Nat) (_ : old < 18446744073709551616) (_ : x < 18446744073709551616) (hp : part < 18446744073709551616) (w : World) :
    Calls Try.prog 10 #[.float .f64 old, .float .f64 x, .float .f64 part] w fun e w' => e = .returned (.bool true) ∧ Below w.heap.size w w' := by
  refine blends_walk old x part (blend old x part) _ _ w _ _ (nan old) (nan x) ⟨blend_at old x part hp w⟩ ⟨fun w => blend_one old x w⟩ ⟨fun w => blend_nought old x w⟩ ⟨fun w => alike_at _ _ w⟩ ⟨fun w => alike_at _ _ w⟩
    (eq_self old) (ord_self old) (eq_self x) (ord_self x) (fun nx no => by rw [ord_self, blend_num old x part hp nx no]) ?_ ?_
  · cases nx : nan x <;> cases no : nan old <;> simp only [if_true, if_false, Bool.false_eq_true]
    · rw [alike_self]; rfl
    · rw [alike_self]; rfl
    · rw [alike_nan' old x no nx]; rfl
    · unfold alike; rw [nx, no]; rfl
  · cases nx : nan x <;> cases no : nan old <;> simp only [if_true, if_false, Bool.false_eq_true]
    · rw [alike_self]; rfl
    · rw [alike_nan' x old nx no]; rfl
    · rw [alike_self]; rfl
    · rw [alike_self]; rfl
end Go.Proofs.Ytbgpdofbnifapaa.R
