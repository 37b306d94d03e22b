-- printed by this session's own copy of the print program (wip/patch), for seat YtidofbloppcpfaaDoor
import Derived.Test.YtidofbloppcpfaaDoorB0
import Derived.Test.YtidofbloppcpfaaDoorB1
import Derived.Test.YtidofbloppcpfaaDoorB3
namespace Go.Proofs.YtidofbloppcpfaaDoor.B
open Go.RowKit Go.Proofs.YtidofbloppcpfaaDoorW.PrintWords Go.Proofs.YtidofbloppcpfaaDoorW.PrintLast Go.Proofs.YtidofbloppcpfaaDoorW.PrintMore
attribute [local go_sem] max2_int min2_int max_two min_two max_three min_three max_four min_four   -- for this text's walks alone
set_option linter.unusedVariables false
set_option linter.unusedSimpArgs false

/-! ### conventiclelaw05_BandPlaces: function 8 -/
mutual
def conventiclelaw05_BandPlaces.j0 : Nat → Int → Int → Int → Option (Bool)
  | 0, _, _, _ => none
  | k + 1, x0, x1, x2 => if x2 < 0 then (conventiclelaw05_BandPlaces.j1 k x0 x1 x2 true) else (conventiclelaw05_BandPlaces.j1 k x0 x1 x2 (decide (x2 > 63)))
def conventiclelaw05_BandPlaces.j1 : Nat → Int → Int → Int → Bool → Option (Bool)
  | 0, _, _, _, _ => none
  | k + 1, x0, x1, x2, x7 => (band_Place.f x0 x1).bind fun t200 => ((band_Place.f x0 x2).bind fun t201 => (if t200 ≤ t201 then (if x7 = true then ((band_With.f x0 x2).bind fun t202 => (if t202 = x0 then ((band_Less.f x0 x2).bind fun t203 => (if t203 = x0 then ((band_Has.f x0 x2).bind fun t204 => (if t204 = true then (none) else ((band_Place.f x0 64).bind fun t205 => ((conventicleref05_Many.f k x0).bind fun t206 => (if t205 = t206 then ((band_Place.f x0 0).bind fun t207 => (if t207 = 0 then ((conventiclelaw05_shown.f k).bind fun t208 => (some t208)) else (none))) else (none)))))) else (none))) else (none))) else ((band_Place.f x0 64).bind fun t209 => ((conventicleref05_Many.f k x0).bind fun t210 => (if t209 = t210 then ((band_Place.f x0 0).bind fun t211 => (if t211 = 0 then ((conventiclelaw05_shown.f k).bind fun t212 => (some t212)) else (none))) else (none))))) else (none)))
end
def conventiclelaw05_BandPlaces.f (k : Nat) (a0 : Int) (a1 : Int) (a2 : Int) : Option (Bool) := if a1 > a2 then (conventiclelaw05_BandPlaces.j0 k a0 a2 a1) else (conventiclelaw05_BandPlaces.j0 k a0 a1 a2)
theorem conventiclelaw05_BandPlaces.mono_l : ∀ k, (∀ y0 y1 y2, LeO (conventiclelaw05_BandPlaces.j0 k y0 y1 y2) (conventiclelaw05_BandPlaces.j0 (k + 1) y0 y1 y2)) ∧ (∀ y0 y1 y2 y3, LeO (conventiclelaw05_BandPlaces.j1 k y0 y1 y2 y3) (conventiclelaw05_BandPlaces.j1 (k + 1) y0 y1 y2 y3))
  | 0 => ⟨fun _ _ _ r h => by simp [conventiclelaw05_BandPlaces.j0] at h, fun _ _ _ _ r h => by simp [conventiclelaw05_BandPlaces.j1] at h⟩
  | k + 1 => by
    obtain ⟨ih0, ih1⟩ := conventiclelaw05_BandPlaces.mono_l k
    refine ⟨?_, ?_⟩
    · intro y0 y1 y2
      unfold conventiclelaw05_BandPlaces.j0
      repeat' first
      | (with_reducible exact ih0 _ _ _)
      | (with_reducible exact ih1 _ _ _ _)
      | (with_reducible exact conventiclelaw05_shown.mono _)
      | (with_reducible exact conventicleref05_Many.mono _ _)
      | (with_reducible exact LeO.refl _)
      | (with_reducible exact LeO.none _)
      | (with_reducible refine LeO.ite ?_ ?_)
      | (with_reducible refine LeO.bind ?_ (fun _ => ?_))
      | exact ih0 _ _ _
      | exact ih1 _ _ _ _
      | exact conventiclelaw05_shown.mono _
      | exact conventicleref05_Many.mono _ _
      | exact LeO.none _
      | refine LeO.ite ?_ ?_
      | refine LeO.bind ?_ (fun _ => ?_)
    · intro y0 y1 y2 y3
      unfold conventiclelaw05_BandPlaces.j1
      repeat' first
      | (with_reducible exact ih0 _ _ _)
      | (with_reducible exact ih1 _ _ _ _)
      | (with_reducible exact conventiclelaw05_shown.mono _)
      | (with_reducible exact conventicleref05_Many.mono _ _)
      | (with_reducible exact LeO.refl _)
      | (with_reducible exact LeO.none _)
      | (with_reducible refine LeO.ite ?_ ?_)
      | (with_reducible refine LeO.bind ?_ (fun _ => ?_))
      | exact ih0 _ _ _
      | exact ih1 _ _ _ _
      | exact conventiclelaw05_shown.mono _
      | exact conventicleref05_Many.mono _ _
      | exact LeO.none _
      | refine LeO.ite ?_ ?_
      | refine LeO.bind ?_ (fun _ => ?_)
theorem conventiclelaw05_BandPlaces.mono : ∀ a0 a1 a2 k, LeO (conventiclelaw05_BandPlaces.f k a0 a1 a2) (conventiclelaw05_BandPlaces.f (k + 1) a0 a1 a2) := by
  intro a0 a1 a2 k
  obtain ⟨ih0, ih1⟩ := conventiclelaw05_BandPlaces.mono_l k
  unfold conventiclelaw05_BandPlaces.f
  repeat' first
      | (with_reducible exact ih0 _ _ _)
      | (with_reducible exact ih1 _ _ _ _)
      | (with_reducible exact conventiclelaw05_shown.mono _)
      | (with_reducible exact conventicleref05_Many.mono _ _)
      | (with_reducible exact LeO.refl _)
      | (with_reducible exact LeO.none _)
      | (with_reducible refine LeO.ite ?_ ?_)
      | (with_reducible refine LeO.bind ?_ (fun _ => ?_))
      | exact ih0 _ _ _
      | exact ih1 _ _ _ _
      | exact conventiclelaw05_shown.mono _
      | exact conventicleref05_Many.mono _ _
      | exact LeO.none _
      | refine LeO.ite ?_ ?_
      | refine LeO.bind ?_ (fun _ => ?_)
set_option maxHeartbeats 8000000 in
set_option maxRecDepth 100000 in
theorem conventiclelaw05_BandPlaces.calls (k : Nat) (a0 : Int) (a1 : Int) (a2 : Int) (r : Bool) (w : World) (h : conventiclelaw05_BandPlaces.f k a0 a1 a2 = some r) (hT : Aside0 (TabT w)) :
    Calls Tryd.prog 8 #[.int .u64 a0, .int .i64 a1, .int .i64 a2] w fun e w' => e = .returned (.bool r) ∧ Below w.heap.size w w' := by
  have HB := Aside0.mk (Below.refl w.heap.size w)
  have H : (if a1 > a2 then (conventiclelaw05_BandPlaces.j0 k a0 a2 a1) else (conventiclelaw05_BandPlaces.j0 k a0 a1 a2)) = some r := h
  clear h
  have HC4 := Aside0.mk H
  clear H
  go_enter Tryd.func8, Tryd.ntmps8
  go_upto_if 10 with (fail)
  go_cut [1, 2] (fun v1 v2 wc => ∃ (kq : Nat) (x1_3 : Int) (x2_3 : Int), v1 = .int .i64 x1_3 ∧ v2 = .int .i64 x2_3 ∧ Aside0 (conventiclelaw05_BandPlaces.j0 kq a0 x1_3 x2_3 = some r) ∧ Aside0 (kq ≤ k) ∧ Aside0 (Below w.heap.size w wc))
  case first =>
    have H := HC4.out
    clear HC4
    by_cases c5 : a1 > a2
    · rw [if_pos c5] at H
      have c5b0 : decide (a2 < a1) = true := decide_eq_true c5
      clear c5
      (first | rw [c5b0] | (simp only [i64_w, i32_w]; rw [c5b0]) | rw [c5b1] | skip)
      have H' := Aside0.mk H
      clear H
      go_wp2
      go_meet
      case rel => exact ⟨_, (a2), (a1), (by first | rfl | (simp; done) | (simp [*]; done)), (by first | rfl | (simp; done) | (simp [*]; done)), H', ⟨by first | omega | exact Nat.le_refl _⟩, ⟨by repeat (first | (with_reducible first | exact HB.out | apply below_alloc | apply pw_below_drewN | apply below_drew1) | exact HB.out)⟩⟩
    · rw [if_neg c5] at H
      have c5b0 : decide (a2 < a1) = false := decide_eq_false c5
      clear c5
      (first | rw [c5b0] | (simp only [i64_w, i32_w]; rw [c5b0]) | rw [c5b1] | skip)
      have H' := Aside0.mk H
      clear H
      go_wp2
      go_meet
      case rel => exact ⟨_, (a1), (a2), (by first | rfl | (simp; done) | (simp [*]; done)), (by first | rfl | (simp; done) | (simp [*]; done)), H', ⟨by first | omega | exact Nat.le_refl _⟩, ⟨by repeat (first | (with_reducible first | exact HB.out | apply below_alloc | apply pw_below_drewN | apply below_drew1) | exact HB.out)⟩⟩
  case rest =>
    clear HC4
    try clear p2
    try clear c5
    try clear c5b0
    obtain ⟨kq, x1_3, x2_3, rfl, rfl, HA, HJ3, HB⟩ := hcut
    cases kq with
    | zero => exact absurd HA.out (by simp [conventiclelaw05_BandPlaces.j0])
    | succ kj3 =>
      have H := HA.out
      clear HA
      simp only [conventiclelaw05_BandPlaces.j0] at H
      have HC6 := Aside0.mk H
      clear H
      go_upto_region 3 with (fail)
      go_cut [7] (fun v7 wc => ∃ (kq : Nat) (x7_5 : Bool), v7 = .bool x7_5 ∧ Aside0 (conventiclelaw05_BandPlaces.j1 kq a0 x1_3 x2_3 x7_5 = some r) ∧ Aside0 (kq ≤ kj3) ∧ Aside0 (Below w.heap.size w wc))
      case first =>
        have H := HC6.out
        clear HC6
        by_cases c7 : x2_3 < 0
        · rw [if_pos c7] at H
          have c7b0 : decide (x2_3 < 0) = true := decide_eq_true c7
          clear c7
          (first | rw [c7b0] | (simp only [i64_w, i32_w]; rw [c7b0]) | rw [c7b1] | skip)
          have H' := Aside0.mk H
          clear H
          go_wp2
          go_meet
          case rel => exact ⟨_, (true), (by first | rfl | (simp; done) | (simp [*]; done)), H', ⟨by have := HJ3.out; first | omega | exact Nat.le_refl _⟩, ⟨by repeat (first | (with_reducible first | exact HB.out | apply below_alloc | apply pw_below_drewN | apply below_drew1) | exact HB.out)⟩⟩
        · rw [if_neg c7] at H
          have c7b0 : decide (x2_3 < 0) = false := decide_eq_false c7
          clear c7
          (first | rw [c7b0] | (simp only [i64_w, i32_w]; rw [c7b0]) | rw [c7b1] | skip)
          have H' := Aside0.mk H
          clear H
          go_wp2
          go_meet
          case rel => exact ⟨_, (decide (x2_3 > 63)), (by first | rfl | (simp; done) | (simp [*]; done)), H', ⟨by have := HJ3.out; first | omega | exact Nat.le_refl _⟩, ⟨by repeat (first | (with_reducible first | exact HB.out | apply below_alloc | apply pw_below_drewN | apply below_drew1) | exact HB.out)⟩⟩
      case rest =>
        clear HC6
        try clear p2
        try clear c5
        try clear c5b0
        try clear c7
        try clear c7b0
        try clear p2
        obtain ⟨kq, x7_5, rfl, HA, HJ5, HB⟩ := hcut
        cases kq with
        | zero => exact absurd HA.out (by simp [conventiclelaw05_BandPlaces.j1])
        | succ kj5 =>
          have H := HA.out
          clear HA
          simp only [conventiclelaw05_BandPlaces.j1] at H
          replace H := Option.bind_eq_some_iff.mp H
          obtain ⟨t200, A80, H⟩ := H
          replace H : ((band_Place.f a0 x2_3).bind fun t201 => (if t200 ≤ t201 then (if x7_5 = true then ((band_With.f a0 x2_3).bind fun t202 => (if t202 = a0 then ((band_Less.f a0 x2_3).bind fun t203 => (if t203 = a0 then ((band_Has.f a0 x2_3).bind fun t204 => (if t204 = true then (none) else ((band_Place.f a0 64).bind fun t205 => ((conventicleref05_Many.f kj5 a0).bind fun t206 => (if t205 = t206 then ((band_Place.f a0 0).bind fun t207 => (if t207 = 0 then ((conventiclelaw05_shown.f kj5).bind fun t208 => (some t208)) else (none))) else (none)))))) else (none))) else (none))) else ((band_Place.f a0 64).bind fun t209 => ((conventicleref05_Many.f kj5 a0).bind fun t210 => (if t209 = t210 then ((band_Place.f a0 0).bind fun t211 => (if t211 = 0 then ((conventiclelaw05_shown.f kj5).bind fun t212 => (some t212)) else (none))) else (none))))) else (none))) = some r := H
          have A8 := Aside0.mk A80
          clear A80
          replace H := Option.bind_eq_some_iff.mp H
          obtain ⟨t201, A90, H⟩ := H
          replace H : (if t200 ≤ t201 then (if x7_5 = true then ((band_With.f a0 x2_3).bind fun t202 => (if t202 = a0 then ((band_Less.f a0 x2_3).bind fun t203 => (if t203 = a0 then ((band_Has.f a0 x2_3).bind fun t204 => (if t204 = true then (none) else ((band_Place.f a0 64).bind fun t205 => ((conventicleref05_Many.f kj5 a0).bind fun t206 => (if t205 = t206 then ((band_Place.f a0 0).bind fun t207 => (if t207 = 0 then ((conventiclelaw05_shown.f kj5).bind fun t208 => (some t208)) else (none))) else (none)))))) else (none))) else (none))) else ((band_Place.f a0 64).bind fun t209 => ((conventicleref05_Many.f kj5 a0).bind fun t210 => (if t209 = t210 then ((band_Place.f a0 0).bind fun t211 => (if t211 = 0 then ((conventiclelaw05_shown.f kj5).bind fun t212 => (some t212)) else (none))) else (none))))) else (none)) = some r := H
          have A9 := Aside0.mk A90
          clear A90
          by_cases c10 : t200 ≤ t201
          · rw [if_pos c10] at H
            have c10b0 : decide (t200 ≤ t201) = true := decide_eq_true c10
            clear c10
            by_cases c11 : x7_5 = true
            · subst c11
              have H1 : ((band_With.f a0 x2_3).bind fun t202 => (if t202 = a0 then ((band_Less.f a0 x2_3).bind fun t203 => (if t203 = a0 then ((band_Has.f a0 x2_3).bind fun t204 => (if t204 = true then (none) else ((band_Place.f a0 64).bind fun t205 => ((conventicleref05_Many.f kj5 a0).bind fun t206 => (if t205 = t206 then ((band_Place.f a0 0).bind fun t207 => (if t207 = 0 then ((conventiclelaw05_shown.f kj5).bind fun t208 => (some t208)) else (none))) else (none)))))) else (none))) else (none))) = some r := by rw [if_pos rfl] at H; exact H
              clear H
              have H := H1
              clear H1
              replace H := Option.bind_eq_some_iff.mp H
              obtain ⟨t202, A120, H⟩ := H
              replace H : (if t202 = a0 then ((band_Less.f a0 x2_3).bind fun t203 => (if t203 = a0 then ((band_Has.f a0 x2_3).bind fun t204 => (if t204 = true then (none) else ((band_Place.f a0 64).bind fun t205 => ((conventicleref05_Many.f kj5 a0).bind fun t206 => (if t205 = t206 then ((band_Place.f a0 0).bind fun t207 => (if t207 = 0 then ((conventiclelaw05_shown.f kj5).bind fun t208 => (some t208)) else (none))) else (none)))))) else (none))) else (none)) = some r := H
              have A12 := Aside0.mk A120
              clear A120
              by_cases c13 : t202 = a0
              · rw [if_pos c13] at H
                have c13b0 : (t202 == a0) = true := beq_iff_eq.mpr c13
                have c13b1 : (t202 != a0) = false := bne_eq_false_iff_eq.mpr c13
                clear c13
                replace H := Option.bind_eq_some_iff.mp H
                obtain ⟨t203, A140, H⟩ := H
                replace H : (if t203 = a0 then ((band_Has.f a0 x2_3).bind fun t204 => (if t204 = true then (none) else ((band_Place.f a0 64).bind fun t205 => ((conventicleref05_Many.f kj5 a0).bind fun t206 => (if t205 = t206 then ((band_Place.f a0 0).bind fun t207 => (if t207 = 0 then ((conventiclelaw05_shown.f kj5).bind fun t208 => (some t208)) else (none))) else (none)))))) else (none)) = some r := H
                have A14 := Aside0.mk A140
                clear A140
                by_cases c15 : t203 = a0
                · rw [if_pos c15] at H
                  have c15b0 : (t203 == a0) = true := beq_iff_eq.mpr c15
                  have c15b1 : (t203 != a0) = false := bne_eq_false_iff_eq.mpr c15
                  clear c15
                  replace H := Option.bind_eq_some_iff.mp H
                  obtain ⟨t204, A160, H⟩ := H
                  replace H : (if t204 = true then (none) else ((band_Place.f a0 64).bind fun t205 => ((conventicleref05_Many.f kj5 a0).bind fun t206 => (if t205 = t206 then ((band_Place.f a0 0).bind fun t207 => (if t207 = 0 then ((conventiclelaw05_shown.f kj5).bind fun t208 => (some t208)) else (none))) else (none))))) = some r := H
                  have A16 := Aside0.mk A160
                  clear A160
                  by_cases c17 : t204 = true
                  · subst c17
                    have H1 : (none) = some r := by rw [if_pos rfl] at H; exact H
                    clear H
                    have H := H1
                    clear H1
                    exact absurd H (by simp)
                  · replace c17 := Bool.eq_false_iff.mpr c17
                    subst c17
                    have H1 : ((band_Place.f a0 64).bind fun t205 => ((conventicleref05_Many.f kj5 a0).bind fun t206 => (if t205 = t206 then ((band_Place.f a0 0).bind fun t207 => (if t207 = 0 then ((conventiclelaw05_shown.f kj5).bind fun t208 => (some t208)) else (none))) else (none)))) = some r := by rw [if_neg (show ¬ (false = true) by decide)] at H; exact H
                    clear H
                    have H := H1
                    clear H1
                    replace H := Option.bind_eq_some_iff.mp H
                    obtain ⟨t205, A180, H⟩ := H
                    replace H : ((conventicleref05_Many.f kj5 a0).bind fun t206 => (if t205 = t206 then ((band_Place.f a0 0).bind fun t207 => (if t207 = 0 then ((conventiclelaw05_shown.f kj5).bind fun t208 => (some t208)) else (none))) else (none))) = some r := H
                    have A18 := Aside0.mk A180
                    clear A180
                    replace H := Option.bind_eq_some_iff.mp H
                    obtain ⟨t206, A190, H⟩ := H
                    replace H : (if t205 = t206 then ((band_Place.f a0 0).bind fun t207 => (if t207 = 0 then ((conventiclelaw05_shown.f kj5).bind fun t208 => (some t208)) else (none))) else (none)) = some r := H
                    have A19 := Aside0.mk A190
                    clear A190
                    by_cases c20 : t205 = t206
                    · rw [if_pos c20] at H
                      have c20b0 : (t205 == t206) = true := beq_iff_eq.mpr c20
                      have c20b1 : (t205 != t206) = false := bne_eq_false_iff_eq.mpr c20
                      clear c20
                      replace H := Option.bind_eq_some_iff.mp H
                      obtain ⟨t207, A210, H⟩ := H
                      replace H : (if t207 = 0 then ((conventiclelaw05_shown.f kj5).bind fun t208 => (some t208)) else (none)) = some r := H
                      have A21 := Aside0.mk A210
                      clear A210
                      by_cases c22 : t207 = 0
                      · rw [if_pos c22] at H
                        have c22b0 : (t207 == 0) = true := beq_iff_eq.mpr c22
                        have c22b1 : (t207 != 0) = false := bne_eq_false_iff_eq.mpr c22
                        clear c22
                        replace H := Option.bind_eq_some_iff.mp H
                        obtain ⟨t208, A230, H⟩ := H
                        replace H : (some t208) = some r := H
                        have A23 := Aside0.mk A230
                        clear A230
                        obtain rfl := Option.some.inj H
                        go_wp2_with (first | ((with_reducible refine gate_callee (f := 18) rfl ?_); refine goesL_ (some 21) rfl rfl Tryd.func18 (by kernel_rfl) rfl #[.int .u64 a0, .int .i64 x1_3] rfl (by (try simp only [List.map_toArray, List.map_cons, List.map_nil]); first | done | rfl | (simp only [List.length_drop, List.length_take]; rfl)) ?_; (with_reducible refine (band_Place.calls a0 x1_3 t200 _ A8.out).mono ?_); rintro e w' ⟨rfl, ⟨nd, rfl⟩⟩; refine ⟨_, rfl, ?_⟩) | ((with_reducible refine gate_callee (f := 18) rfl ?_); refine goesL_ (some 24) rfl rfl Tryd.func18 (by kernel_rfl) rfl #[.int .u64 a0, .int .i64 x2_3] rfl (by (try simp only [List.map_toArray, List.map_cons, List.map_nil]); first | done | rfl | (simp only [List.length_drop, List.length_take]; rfl)) ?_; (with_reducible refine (band_Place.calls a0 x2_3 t201 _ A9.out).mono ?_); rintro e w' ⟨rfl, ⟨nd, rfl⟩⟩; refine ⟨_, rfl, ?_⟩) | (go_at_call 20; (with_reducible refine (band_With.calls a0 x2_3 t202 _ A12.out).mono ?_); rintro e w' ⟨rfl, ⟨nd, rfl⟩⟩) | (go_at_call 21; (with_reducible refine (band_Less.calls a0 x2_3 t203 _ A14.out).mono ?_); rintro e w' ⟨rfl, ⟨nd, rfl⟩⟩) | (go_at_call 19; (with_reducible refine (band_Has.calls a0 x2_3 false _ A16.out).mono ?_); rintro e w' ⟨rfl, ⟨nd, rfl⟩⟩) | (go_at_call 18; (with_reducible refine (band_Place.calls a0 64 t205 _ A18.out).mono ?_); rintro e w' ⟨rfl, ⟨nd, rfl⟩⟩) | (go_at_call 24; (with_reducible refine (conventicleref05_Many.calls kj5 a0 t206 _ A19.out).mono ?_); rintro e w24 ⟨rfl, hb⟩; have n0_ := Aside0.mk (below_step (by repeat (first | (with_reducible first | exact HB.out | apply below_alloc | apply pw_below_drewN | apply below_drew1) | exact HB.out)) hb); clear HB; have HB := n0_; clear n0_; (try clear hb); (try clear hb2); (try clear hk); (try clear hi)) | (go_at_call 18; (with_reducible refine (band_Place.calls a0 0 t207 _ A21.out).mono ?_); rintro e w' ⟨rfl, ⟨nd, rfl⟩⟩) | (go_at_call 11; (with_reducible refine (conventiclelaw05_shown.calls kj5  t208 _ A23.out (hT := by first | exact hT | (with_reducible exact hT) | ((repeat (first | exact hT | apply tab_drewN | apply tab_drew)); done) | exact tab_below hT (by repeat (first | (with_reducible first | exact HB.out | apply below_alloc | apply pw_below_drewN | apply below_drew1) | exact HB.out)))).mono ?_); rintro e w25 ⟨rfl, hb⟩; have n0_ := Aside0.mk (below_step (by repeat (first | (with_reducible first | exact HB.out | apply below_alloc | apply pw_below_drewN | apply below_drew1) | exact HB.out)) hb); clear HB; have HB := n0_; clear n0_; (try clear hb); (try clear hb2); (try clear hk); (try clear hi)))
                        go_ret
                        exact ⟨by first | rfl | (simp [errW_none, errW_some] <;> rfl) | (simp [*, errW_none, errW_some] <;> rfl), by repeat (first | (with_reducible first | exact HB.out | apply below_alloc | apply pw_below_drewN | apply below_drew1) | exact HB.out)⟩
                      · rw [if_neg c22] at H
                        exact absurd H (by simp)
                    · rw [if_neg c20] at H
                      exact absurd H (by simp)
                · rw [if_neg c15] at H
                  exact absurd H (by simp)
              · rw [if_neg c13] at H
                exact absurd H (by simp)
            · replace c11 := Bool.eq_false_iff.mpr c11
              subst c11
              have H1 : ((band_Place.f a0 64).bind fun t209 => ((conventicleref05_Many.f kj5 a0).bind fun t210 => (if t209 = t210 then ((band_Place.f a0 0).bind fun t211 => (if t211 = 0 then ((conventiclelaw05_shown.f kj5).bind fun t212 => (some t212)) else (none))) else (none)))) = some r := by rw [if_neg (show ¬ (false = true) by decide)] at H; exact H
              clear H
              have H := H1
              clear H1
              replace H := Option.bind_eq_some_iff.mp H
              obtain ⟨t209, A260, H⟩ := H
              replace H : ((conventicleref05_Many.f kj5 a0).bind fun t210 => (if t209 = t210 then ((band_Place.f a0 0).bind fun t211 => (if t211 = 0 then ((conventiclelaw05_shown.f kj5).bind fun t212 => (some t212)) else (none))) else (none))) = some r := H
              have A26 := Aside0.mk A260
              clear A260
              replace H := Option.bind_eq_some_iff.mp H
              obtain ⟨t210, A270, H⟩ := H
              replace H : (if t209 = t210 then ((band_Place.f a0 0).bind fun t211 => (if t211 = 0 then ((conventiclelaw05_shown.f kj5).bind fun t212 => (some t212)) else (none))) else (none)) = some r := H
              have A27 := Aside0.mk A270
              clear A270
              by_cases c28 : t209 = t210
              · rw [if_pos c28] at H
                have c28b0 : (t209 == t210) = true := beq_iff_eq.mpr c28
                have c28b1 : (t209 != t210) = false := bne_eq_false_iff_eq.mpr c28
                clear c28
                replace H := Option.bind_eq_some_iff.mp H
                obtain ⟨t211, A290, H⟩ := H
                replace H : (if t211 = 0 then ((conventiclelaw05_shown.f kj5).bind fun t212 => (some t212)) else (none)) = some r := H
                have A29 := Aside0.mk A290
                clear A290
                by_cases c30 : t211 = 0
                · rw [if_pos c30] at H
                  have c30b0 : (t211 == 0) = true := beq_iff_eq.mpr c30
                  have c30b1 : (t211 != 0) = false := bne_eq_false_iff_eq.mpr c30
                  clear c30
                  replace H := Option.bind_eq_some_iff.mp H
                  obtain ⟨t212, A310, H⟩ := H
                  replace H : (some t212) = some r := H
                  have A31 := Aside0.mk A310
                  clear A310
                  obtain rfl := Option.some.inj H
                  go_wp2_with (first | ((with_reducible refine gate_callee (f := 18) rfl ?_); refine goesL_ (some 21) rfl rfl Tryd.func18 (by kernel_rfl) rfl #[.int .u64 a0, .int .i64 x1_3] rfl (by (try simp only [List.map_toArray, List.map_cons, List.map_nil]); first | done | rfl | (simp only [List.length_drop, List.length_take]; rfl)) ?_; (with_reducible refine (band_Place.calls a0 x1_3 t200 _ A8.out).mono ?_); rintro e w' ⟨rfl, ⟨nd, rfl⟩⟩; refine ⟨_, rfl, ?_⟩) | ((with_reducible refine gate_callee (f := 18) rfl ?_); refine goesL_ (some 24) rfl rfl Tryd.func18 (by kernel_rfl) rfl #[.int .u64 a0, .int .i64 x2_3] rfl (by (try simp only [List.map_toArray, List.map_cons, List.map_nil]); first | done | rfl | (simp only [List.length_drop, List.length_take]; rfl)) ?_; (with_reducible refine (band_Place.calls a0 x2_3 t201 _ A9.out).mono ?_); rintro e w' ⟨rfl, ⟨nd, rfl⟩⟩; refine ⟨_, rfl, ?_⟩) | (go_at_call 18; (with_reducible refine (band_Place.calls a0 64 t209 _ A26.out).mono ?_); rintro e w' ⟨rfl, ⟨nd, rfl⟩⟩) | (go_at_call 24; (with_reducible refine (conventicleref05_Many.calls kj5 a0 t210 _ A27.out).mono ?_); rintro e w32 ⟨rfl, hb⟩; have n0_ := Aside0.mk (below_step (by repeat (first | (with_reducible first | exact HB.out | apply below_alloc | apply pw_below_drewN | apply below_drew1) | exact HB.out)) hb); clear HB; have HB := n0_; clear n0_; (try clear hb); (try clear hb2); (try clear hk); (try clear hi)) | (go_at_call 18; (with_reducible refine (band_Place.calls a0 0 t211 _ A29.out).mono ?_); rintro e w' ⟨rfl, ⟨nd, rfl⟩⟩) | (go_at_call 11; (with_reducible refine (conventiclelaw05_shown.calls kj5  t212 _ A31.out (hT := by first | exact hT | (with_reducible exact hT) | ((repeat (first | exact hT | apply tab_drewN | apply tab_drew)); done) | exact tab_below hT (by repeat (first | (with_reducible first | exact HB.out | apply below_alloc | apply pw_below_drewN | apply below_drew1) | exact HB.out)))).mono ?_); rintro e w33 ⟨rfl, hb⟩; have n0_ := Aside0.mk (below_step (by repeat (first | (with_reducible first | exact HB.out | apply below_alloc | apply pw_below_drewN | apply below_drew1) | exact HB.out)) hb); clear HB; have HB := n0_; clear n0_; (try clear hb); (try clear hb2); (try clear hk); (try clear hi)))
                  go_ret
                  exact ⟨by first | rfl | (simp [errW_none, errW_some] <;> rfl) | (simp [*, errW_none, errW_some] <;> rfl), by repeat (first | (with_reducible first | exact HB.out | apply below_alloc | apply pw_below_drewN | apply below_drew1) | exact HB.out)⟩
                · rw [if_neg c30] at H
                  exact absurd H (by simp)
              · rw [if_neg c28] at H
                exact absurd H (by simp)
          · rw [if_neg c10] at H
            exact absurd H (by simp)

/-- THE ONE PURE STATEMENT of conventiclelaw05_BandPlaces: yours. -/
def conventiclelaw05_BandPlaces.Pure : Prop := ∀ (a0 : Int) (a1 : Int) (a2 : Int), (Lit.int .u64 a0).wf = true → (Lit.int .i64 a1).wf = true → (Lit.int .i64 a2).wf = true → ∃ k, conventiclelaw05_BandPlaces.f k a0 a1 a2 = some true
theorem conventiclelaw05_BandPlaces.walk (P : conventiclelaw05_BandPlaces.Pure) (a0 : Int) (a1 : Int) (a2 : Int) (w : World) (w0 : (Lit.int .u64 a0).wf = true) (w1 : (Lit.int .i64 a1).wf = true) (w2 : (Lit.int .i64 a2).wf = true) (hT : Aside0 (TabT w)) :
    Calls Tryd.prog 8 #[.int .u64 a0, .int .i64 a1, .int .i64 a2] w fun e w' => e = .returned (.bool true) ∧ Below w.heap.size w w' := by
  obtain ⟨k, h⟩ := P a0 a1 a2 w0 w1 w2
  refine (conventiclelaw05_BandPlaces.calls k a0 a1 a2 true w h (hT := by first | exact hT | (with_reducible exact hT) | ((repeat (first | exact hT | apply tab_drewN | apply tab_drew)); done) | exact tab_below hT (by repeat (first | (with_reducible first | exact HB.out | apply below_alloc | apply pw_below_drewN | apply below_drew1) | exact HB.out)))).mono ?_
  rintro e w' ⟨rfl, hd⟩
  exact ⟨rfl, hd⟩

end Go.Proofs.YtidofbloppcpfaaDoor.B
