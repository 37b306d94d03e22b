/- By hand: what is held between two ends, by the program and by the document. -/
import Derived.Test.YtbgpdofbnifapaaShown
import Derived.Test.YtbgpdofbnifapaaOrderWalk
namespace Go.Proofs.Ytbgpdofbnifapaa.R
open Go.RowKit Go.Proofs.YtbgpdofbnifapaaW.PrintWords Go.Proofs.YtbgpdofbnifapaaW.PrintLast Go.Proofs.YtbgpdofbnifapaaW.PrintMore
open Flt (nan num rung low sgn)

def lt (x y : Nat) : Bool := FloatKind.f64.format.order x y == some .lt
def eq (x y : Nat) : Bool := FloatKind.f64.format.order x y == some .eq
def gt (x y : Nat) : Bool := FloatKind.f64.format.order x y == some .gt
def le (x y : Nat) : Bool := lt x y || eq x y
def ge (x y : Nat) : Bool := gt x y || eq x y
theorem cmp_cases (a b : Int) : (compare a b = .lt ∧ a < b) ∨ (compare a b = .eq ∧ a = b) ∨ (compare a b = .gt ∧ b < a) := by
  simp only [compare, compareOfLessAndEq]
  rcases Int.lt_trichotomy a b with h | h | h
  · rw [if_pos h]; exact .inl ⟨rfl, h⟩
  · rw [if_neg (by omega), if_pos h]; exact .inr (.inl ⟨rfl, h⟩)
  · rw [if_neg (by omega), if_neg (by omega)]; exact .inr (.inr ⟨rfl, h⟩)
/-- how two doubles stand -/
theorem ord_cases (x y : Nat) : ((nan x = true ∨ nan y = true) ∧ lt x y = false ∧ eq x y = false ∧ gt x y = false)
    ∨ (nan x = false ∧ nan y = false ∧ ((lt x y = true ∧ eq x y = false ∧ gt x y = false ∧ num x < num y) ∨ (lt x y = false ∧ eq x y = true ∧ gt x y = false ∧ num x = num y) ∨ (lt x y = false ∧ eq x y = false ∧ gt x y = true ∧ num y < num x))) := by
  unfold lt eq gt
  rw [ord]
  by_cases h : nan x = true ∨ nan y = true
  · rw [if_pos h]; exact .inl ⟨h, rfl, rfl, rfl⟩
  · rw [if_neg h]
    refine .inr ⟨by simpa using fun e => h (.inl e), by simpa using fun e => h (.inr e), ?_⟩
    rcases cmp_cases (num x) (num y) with ⟨e, k⟩ | ⟨e, k⟩ | ⟨e, k⟩ <;> rw [e]
    · exact .inl ⟨rfl, rfl, rfl, k⟩
    · exact .inr (.inl ⟨rfl, rfl, rfl, k⟩)
    · exact .inr (.inr ⟨rfl, rfl, rfl, k⟩)
/-- what is held between two ends -/
def clean (x l h : Nat) : Nat := if nan x || !le l h || lt x l then l else if gt x h then h else if eq x 0 then 0 else x
theorem nan_zero : nan 0 = false := by decide
theorem num_zero : num 0 = 0 := by decide
/-- what is held lies between both ends; held again it stays -/
theorem clean_spec (x l h : Nat) (hl : le l h = true) : ge (clean x l h) l = true ∧ le (clean x l h) h = true ∧ eq (clean (clean x l h) l h) (clean x l h) = true := by
  have facts : ∀ y, nan y = false → num l ≤ num y → num y ≤ num h → nan l = false → nan h = false → ge y l = true ∧ le y h = true ∧ eq (clean y l h) y = true := by
    intro y ny k1 k2 nl nh
    have o1 := ord_cases y l
    have o2 := ord_cases y h
    have o3 := ord_cases y 0
    rw [num_zero, nan_zero] at o3
    have g1 : (gt y l || eq y l) = true := by
      rcases o1 with ⟨e, _⟩ | ⟨_, _, ⟨_, _, _, e⟩ | ⟨_, e, _⟩ | ⟨_, _, e, _⟩⟩
      · simp [ny, nl] at e
      · omega
      · simp [e]
      · simp [e]
    have g1' : lt y l = false := by
      rcases o1 with ⟨e, _⟩ | ⟨_, _, ⟨_, _, _, e⟩ | ⟨e, _⟩ | ⟨e, _⟩⟩
      · simp [ny, nl] at e
      · omega
      · exact e
      · exact e
    have g2 : (lt y h || eq y h) = true := by
      rcases o2 with ⟨e, _⟩ | ⟨_, _, ⟨e, _⟩ | ⟨_, e, _⟩ | ⟨_, _, _, e⟩⟩
      · simp [ny, nh] at e
      · simp [e]
      · simp [e]
      · omega
    have g2' : gt y h = false := by
      rcases o2 with ⟨e, _⟩ | ⟨_, _, ⟨_, _, e, _⟩ | ⟨_, _, e, _⟩ | ⟨_, _, _, e⟩⟩
      · simp [ny, nh] at e
      · exact e
      · exact e
      · omega
    refine ⟨g1, g2, ?_⟩
    unfold clean
    rw [ny, hl, g1', g2']
    simp only [Bool.not_true, Bool.or_self, Bool.false_eq_true, if_false]
    by_cases hz : eq y 0 = true
    · rw [if_pos hz]
      have o4 := ord_cases 0 y
      rw [num_zero, nan_zero] at o4
      have z : num y = 0 := by
        rcases o3 with ⟨_, _, e, _⟩ | ⟨_, _, ⟨_, e, _⟩ | ⟨_, _, _, e⟩ | ⟨_, e, _⟩⟩
        · rw [e] at hz; cases hz
        · rw [e] at hz; cases hz
        · exact e
        · rw [e] at hz; cases hz
      rcases o4 with ⟨e, _⟩ | ⟨_, _, ⟨_, _, _, e⟩ | ⟨_, e, _⟩ | ⟨_, _, _, e⟩⟩
      · simp [ny] at e
      · omega
      · exact e
      · omega
    · rw [if_neg hz]
      have o4 := ord_cases y y
      rcases o4 with ⟨e, _⟩ | ⟨_, _, ⟨_, _, _, e⟩ | ⟨_, e, _⟩ | ⟨_, _, _, e⟩⟩
      · simp [ny] at e
      · omega
      · exact e
      · omega
  have ol := ord_cases l h
  have hlh : nan l = false ∧ nan h = false ∧ num l ≤ num h := by
    unfold le at hl
    rcases ol with ⟨_, e1, e2, _⟩ | ⟨n1, n2, ⟨_, _, _, e⟩ | ⟨_, _, _, e⟩ | ⟨e1, e2, _⟩⟩
    · rw [e1, e2] at hl; cases hl
    · exact ⟨n1, n2, by omega⟩
    · exact ⟨n1, n2, by omega⟩
    · rw [e1, e2] at hl; cases hl
  obtain ⟨nl, nh, klh⟩ := hlh
  by_cases h1 : (nan x || !le l h || lt x l) = true
  · have e : clean x l h = l := by unfold clean; rw [if_pos h1]
    rw [e]
    exact facts l nl (Int.le_refl _) klh nl nh
  · have h1' := h1
    rw [hl] at h1'
    simp only [Bool.not_true, Bool.or_false, Bool.or_eq_true, not_or, Bool.not_eq_true] at h1'
    have ox := ord_cases x l
    have kx : num l ≤ num x := by
      rcases ox with ⟨e, _⟩ | ⟨_, _, ⟨e, _⟩ | ⟨_, _, _, e⟩ | ⟨_, _, _, e⟩⟩
      · rw [h1'.1, nl] at e; simp at e
      · rw [h1'.2] at e; cases e
      · omega
      · omega
    by_cases h2 : gt x h = true
    · have e : clean x l h = h := by unfold clean; rw [if_neg h1, if_pos h2]
      rw [e]
      exact facts h nh klh (Int.le_refl _) nl nh
    · have ox2 := ord_cases x h
      have kh : num x ≤ num h := by
        rcases ox2 with ⟨e, _⟩ | ⟨_, _, ⟨_, _, _, e⟩ | ⟨_, _, _, e⟩ | ⟨_, _, e, _⟩⟩
        · rw [h1'.1, nh] at e; simp at e
        · omega
        · omega
        · exact absurd e h2
      by_cases h3 : eq x 0 = true
      · have e : clean x l h = 0 := by unfold clean; rw [if_neg h1, if_neg h2, if_pos h3]
        have ox3 := ord_cases x 0
        rw [num_zero, nan_zero] at ox3
        have z : num x = 0 := by
          rcases ox3 with ⟨_, _, e, _⟩ | ⟨_, _, ⟨_, e, _⟩ | ⟨_, _, _, e⟩ | ⟨_, e, _⟩⟩
          · rw [e] at h3; cases h3
          · rw [e] at h3; cases h3
          · exact e
          · rw [e] at h3; cases h3
        rw [e]
        exact facts 0 nan_zero (by rw [num_zero]; omega) (by rw [num_zero]; omega) nl nh
      · have e : clean x l h = x := by unfold clean; rw [if_neg h1, if_neg h2, if_neg h3]
        rw [e]
        exact facts x h1'.1 kx kh nl nh
theorem clean_lt (x l h : Nat) (hx : x < 18446744073709551616) (hl : l < 18446744073709551616) (hh : h < 18446744073709551616) : clean x l h < 18446744073709551616 := by
  unfold clean
  split
  · exact hl
  · split
    · exact hh
    · split
      · decide
      · exact hx
set_option maxHeartbeats 2000000 in
theorem clean_at (x l h : Nat) (w : World) : Calls Try.prog 18 #[.float .f64 x, .float .f64 l, .float .f64 h] w fun e w' => e = .returned (.float .f64 (clean x l h)) ∧ w = w' := by
  have HN := Aside0.mk (isnan_at x)
  unfold clean le lt gt eq
  cases hn : nan x
  · rw [hn] at HN
    cases ha : (FloatKind.f64.format.order l h == some .lt || FloatKind.f64.format.order l h == some .eq)
    · go_enter Try.func18, Try.ntmps18
      go_wp2_with (go_at_call 36; (with_reducible refine (HN.out _).mono ?_); rintro e w' ⟨rfl, rfl⟩)
      go_ret
      exact ⟨rfl, rfl⟩
    · cases hb : (FloatKind.f64.format.order x l == some .lt)
      · cases hc : (FloatKind.f64.format.order x h == some .gt)
        · cases hd : (FloatKind.f64.format.order x 0 == some .eq)
          · go_enter Try.func18, Try.ntmps18
            go_wp2_with (go_at_call 36; (with_reducible refine (HN.out _).mono ?_); rintro e w' ⟨rfl, rfl⟩)
            go_ret
            exact ⟨rfl, rfl⟩
          · go_enter Try.func18, Try.ntmps18
            go_wp2_with (go_at_call 36; (with_reducible refine (HN.out _).mono ?_); rintro e w' ⟨rfl, rfl⟩)
            go_ret
            exact ⟨rfl, rfl⟩
        · go_enter Try.func18, Try.ntmps18
          go_wp2_with (go_at_call 36; (with_reducible refine (HN.out _).mono ?_); rintro e w' ⟨rfl, rfl⟩)
          go_ret
          exact ⟨rfl, rfl⟩
      · go_enter Try.func18, Try.ntmps18
        go_wp2_with (go_at_call 36; (with_reducible refine (HN.out _).mono ?_); rintro e w' ⟨rfl, rfl⟩)
        go_ret
        exact ⟨rfl, rfl⟩
  · rw [hn] at HN
    go_enter Try.func18, Try.ntmps18
    go_wp2_with (go_at_call 36; (with_reducible refine (HN.out _).mono ?_); rintro e w' ⟨rfl, rfl⟩)
    go_ret
    exact ⟨rfl, rfl⟩
end Go.Proofs.Ytbgpdofbnifapaa.R
