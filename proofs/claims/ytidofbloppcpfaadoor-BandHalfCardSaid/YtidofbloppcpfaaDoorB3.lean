-- printed by this session's own copy of the print program (wip/patch), for seat YtidofbloppcpfaaDoor
import Derived.Test.YtidofbloppcpfaaDoorB0
import Derived.Test.YtidofbloppcpfaaDoorB1
import Derived.Test.YtidofbloppcpfaaDoorB2
import Derived.Test.YtidofbloppcpfaaDoorList
namespace Go.Proofs.YtidofbloppcpfaaDoor.B
open Go.RowKit Go.Proofs.YtidofbloppcpfaaDoorW.PrintWords Go.Proofs.YtidofbloppcpfaaDoorW.PrintLast Go.Proofs.YtidofbloppcpfaaDoorW.PrintMore
attribute [local go_sem] max2_int min2_int max_two min_two max_three min_three max_four min_four   -- for this text's walks alone
set_option linter.unusedVariables false
set_option linter.unusedSimpArgs false

/-! ### conventiclelaw05_BandHalf: function 6 -/
mutual
def conventiclelaw05_BandHalf.l0 : Nat → Int → List Int → Int → Int → Option (Bool)
  | 0, _, _, _, _ => none
  | k + 1, x0, x3, x4, x5 => if x5 < (wrap64 ((x3.length : Int) / 2)) then (if 0 ≤ x5 then (if x5 < (x3.length : Int) then ((conventicleref05_With.f x4 (rd x3 x5)).bind fun t171 => (conventiclelaw05_BandHalf.l0 k x0 x3 t171 (wrap64 (x5 + 1)))) else (none)) else (none)) else (if (x3.length : Int) > 0 then (if 0 ≤ (wrap64 ((x3.length : Int) / 2)) then (if (wrap64 ((x3.length : Int) / 2)) < (x3.length : Int) then ((conventicleref05_With.f x4 (rd x3 (wrap64 ((x3.length : Int) / 2)))).bind fun t173 => (conventiclelaw05_BandHalf.j1 k x0 x3 x4 t173)) else (none)) else (none)) else (conventiclelaw05_BandHalf.j1 k x0 x3 x4 x4))
def conventiclelaw05_BandHalf.j1 : Nat → Int → List Int → Int → Int → Option (Bool)
  | 0, _, _, _, _ => none
  | k + 1, x0, x3, x4, x6 => (band_Major.f x4 x0).bind fun t174 => (if t174 = true then (none) else ((band_Major.f x6 x0).bind fun t175 => (if (t175 == (decide ((x3.length : Int) > 0))) = true then ((band_Major.f x0 x0).bind fun t176 => (if (t176 == (decide ((x3.length : Int) > 0))) = true then ((conventiclelaw05_shown.f k).bind fun t177 => (some t177)) else (none))) else (none))))
end
def conventiclelaw05_BandHalf.f (k : Nat) (a0 : Int) : Option (Bool) := (conventicleref05_List.f k a0).bind fun t167 => (conventiclelaw05_BandHalf.l0 k a0 t167 0 0)
theorem conventiclelaw05_BandHalf.mono_l : ∀ k, (∀ y0 y1 y2 y3, LeO (conventiclelaw05_BandHalf.l0 k y0 y1 y2 y3) (conventiclelaw05_BandHalf.l0 (k + 1) y0 y1 y2 y3)) ∧ (∀ y0 y1 y2 y3, LeO (conventiclelaw05_BandHalf.j1 k y0 y1 y2 y3) (conventiclelaw05_BandHalf.j1 (k + 1) y0 y1 y2 y3))
  | 0 => ⟨fun _ _ _ _ r h => by simp [conventiclelaw05_BandHalf.l0] at h, fun _ _ _ _ r h => by simp [conventiclelaw05_BandHalf.j1] at h⟩
  | k + 1 => by
    obtain ⟨ih0, ih1⟩ := conventiclelaw05_BandHalf.mono_l k
    refine ⟨?_, ?_⟩
    · intro y0 y1 y2 y3
      unfold conventiclelaw05_BandHalf.l0
      repeat' first
      | (with_reducible exact ih0 _ _ _ _)
      | (with_reducible exact ih1 _ _ _ _)
      | (with_reducible exact conventiclelaw05_shown.mono _)
      | (with_reducible exact conventicleref05_List.mono _ _)
      | (with_reducible exact LeO.refl _)
      | (with_reducible exact LeO.none _)
      | (with_reducible refine LeO.ite ?_ ?_)
      | (with_reducible refine LeO.bind ?_ (fun _ => ?_))
      | exact ih0 _ _ _ _
      | exact ih1 _ _ _ _
      | exact conventiclelaw05_shown.mono _
      | exact conventicleref05_List.mono _ _
      | exact LeO.none _
      | refine LeO.ite ?_ ?_
      | refine LeO.bind ?_ (fun _ => ?_)
    · intro y0 y1 y2 y3
      unfold conventiclelaw05_BandHalf.j1
      repeat' first
      | (with_reducible exact ih0 _ _ _ _)
      | (with_reducible exact ih1 _ _ _ _)
      | (with_reducible exact conventiclelaw05_shown.mono _)
      | (with_reducible exact conventicleref05_List.mono _ _)
      | (with_reducible exact LeO.refl _)
      | (with_reducible exact LeO.none _)
      | (with_reducible refine LeO.ite ?_ ?_)
      | (with_reducible refine LeO.bind ?_ (fun _ => ?_))
      | exact ih0 _ _ _ _
      | exact ih1 _ _ _ _
      | exact conventiclelaw05_shown.mono _
      | exact conventicleref05_List.mono _ _
      | exact LeO.none _
      | refine LeO.ite ?_ ?_
      | refine LeO.bind ?_ (fun _ => ?_)
theorem conventiclelaw05_BandHalf.mono : ∀ a0 k, LeO (conventiclelaw05_BandHalf.f k a0) (conventiclelaw05_BandHalf.f (k + 1) a0) := by
  intro a0 k
  obtain ⟨ih0, ih1⟩ := conventiclelaw05_BandHalf.mono_l k
  unfold conventiclelaw05_BandHalf.f
  repeat' first
      | (with_reducible exact ih0 _ _ _ _)
      | (with_reducible exact ih1 _ _ _ _)
      | (with_reducible exact conventiclelaw05_shown.mono _)
      | (with_reducible exact conventicleref05_List.mono _ _)
      | (with_reducible exact LeO.refl _)
      | (with_reducible exact LeO.none _)
      | (with_reducible refine LeO.ite ?_ ?_)
      | (with_reducible refine LeO.bind ?_ (fun _ => ?_))
      | exact ih0 _ _ _ _
      | exact ih1 _ _ _ _
      | exact conventiclelaw05_shown.mono _
      | exact conventicleref05_List.mono _ _
      | exact LeO.none _
      | refine LeO.ite ?_ ?_
      | refine LeO.bind ?_ (fun _ => ?_)
set_option maxHeartbeats 8000000 in
set_option maxRecDepth 100000 in
theorem conventiclelaw05_BandHalf.calls (k : Nat) (a0 : Int) (r : Bool) (w : World) (h : conventiclelaw05_BandHalf.f k a0 = some r) (hT : Aside0 (TabT w)) :
    Calls Tryd.prog 6 #[.int .u64 a0] w fun e w' => e = .returned (.bool r) ∧ Below w.heap.size w w' := by
  have HB := Aside0.mk (Below.refl w.heap.size w)
  have H : ((conventicleref05_List.f k a0).bind fun t167 => (conventiclelaw05_BandHalf.l0 k a0 t167 0 0)) = some r := h
  clear h
  replace H := Option.bind_eq_some_iff.mp H
  obtain ⟨t167, A20, H⟩ := H
  replace H : (conventiclelaw05_BandHalf.l0 k a0 t167 0 0) = some r := H
  have A2 := Aside0.mk A20
  clear A20
  have H' := Aside0.mk H
  clear H
  go_enter Tryd.func6, Tryd.ntmps6
  go_wp2_with (first | ((with_reducible refine gate_callee (f := 9) rfl ?_); refine goesL_ (some 8) rfl rfl Tryd.func9 (by kernel_rfl) rfl #[.int .u64 a0] rfl (by (try simp only [List.map_toArray, List.map_cons, List.map_nil]); first | done | rfl | (simp only [List.length_drop, List.length_take]; rfl)) ?_; (with_reducible refine (conventicleref05_List.calls k a0 t167 _ A2.out).mono ?_); rintro e w3 ⟨v168, rfl, ho0, hb⟩; refine ⟨_, rfl, ?_⟩; have n0_ := Aside0.mk (Kd.R_lower ho0 (below_size (by repeat (first | (with_reducible first | exact HB.out | apply below_alloc | apply pw_below_drewN | apply below_drew1) | exact HB.out)))); have n1_ := Aside0.mk (below_step (by repeat (first | (with_reducible first | exact HB.out | apply below_alloc | apply pw_below_drewN | apply below_drew1) | exact HB.out)) hb); clear HB; have HO169 := n0_; have HB := n1_; clear n0_ n1_; (try clear hb); (try clear hb2); (try clear hk); (try clear hi); (try clear ho0)))
  go_loopg [4, 5] k (fun kq v4 v5 w' => ∃ (x4_1 : Int) (x5_1 : Int), v4 = .int .u64 x4_1 ∧ v5 = .int .i64 x5_1 ∧ Aside0 (conventiclelaw05_BandHalf.l0 kq a0 t167 x4_1 x5_1 = some r) ∧ Aside0 (kq ≤ k) ∧ Aside0 (Kd.R (Kd.int .i64) 3 w' w.heap.size (fun _ => True) v168 t167) ∧ Aside0 (Below w.heap.size w w'))
  case atStart => exact ⟨(0), (0), (by first | rfl | (simp; done) | (simp [*]; done)), (by first | rfl | (simp; done) | (simp [*]; done)), H', ⟨Nat.le_refl _⟩, ⟨by (with_reducible repeat (first | apply Kd.R_alloc | apply Kd.R_drewN | apply Kd.R_drew)); exact HO169.out⟩, ⟨by repeat (first | (with_reducible first | exact HB.out | apply below_alloc | apply pw_below_drewN | apply below_drew1) | exact HB.out)⟩⟩
  case round =>
    clear H'
    try clear p2
    obtain ⟨x4_1, x5_1, rfl, rfl, HA, HK1, HO_3, HB⟩ := hrel
    cases gk with
    | zero => exact absurd HA.out (by simp [conventiclelaw05_BandHalf.l0])
    | succ k1 =>
      have H := HA.out
      clear HA
      simp only [conventiclelaw05_BandHalf.l0] at H
      by_cases c4 : x5_1 < (wrap64 ((t167.length : Int) / 2))
      · rw [if_pos c4] at H
        have c4b0 : decide (x5_1 < (wrap64 ((t167.length : Int) / 2))) = true := decide_eq_true c4
        clear c4
        by_cases c5 : 0 ≤ x5_1
        · rw [if_pos c5] at H
          have c5b0 : decide (0 ≤ x5_1) = true := decide_eq_true c5
          clear c5
          by_cases c6 : x5_1 < (t167.length : Int)
          · rw [if_pos c6] at H
            have c6b0 : decide (x5_1 < (t167.length : Int)) = true := decide_eq_true c6
            clear c6
            replace H := Option.bind_eq_some_iff.mp H
            obtain ⟨t171, A70, H⟩ := H
            replace H : (conventiclelaw05_BandHalf.l0 k1 a0 t167 t171 (wrap64 (x5_1 + 1))) = some r := H
            have A7 := Aside0.mk A70
            clear A70
            have H' := Aside0.mk H
            clear H
            obtain ⟨Ao8, co8, eo8⟩ := Kd.R_slice HO_3.out
            subst eo8
            have p170 : 0 ≤ (x5_1 : Int) := of_decide_eq_true (by first | (with_reducible assumption) | assumption)
            have q170 : x5_1 < (t167.length : Int) := of_decide_eq_true (by first | (with_reducible assumption) | assumption)
            obtain ⟨ad170, e170, hx170_0⟩ := Kd.at_int (Kd.R_reads' HO_3.out).2.2 x5_1 p170 q170
            cases e170
            replace p170 := eq_true p170
            replace q170 := eq_true q170
            go_wp2_with (first | ((with_reducible refine gate_callee (f := 16) rfl ?_); refine goesL_ (some 21) rfl rfl Tryd.func16 (by kernel_rfl) rfl #[.int .u64 x4_1, .int .i64 (rd t167 x5_1)] rfl (by (try simp only [List.map_toArray, List.map_cons, List.map_nil]); first | done | rfl | (simp only [List.length_drop, List.length_take]; rfl)) ?_; (with_reducible refine (conventicleref05_With.calls x4_1 (rd t167 x5_1) t171 _ A7.out).mono ?_); rintro e w' ⟨rfl, ⟨nd, rfl⟩⟩; refine ⟨_, rfl, ?_⟩))
            go_roundg k1
            case measure => have := HK1.out; omega
            case rel => exact ⟨(t171), (wrap64 (x5_1 + 1)), (by first | rfl | (simp; done) | (simp [*]; done)), (by first | rfl | (simp; done) | (simp [*]; done)), H', ⟨by have := HK1.out; omega⟩, ⟨by (with_reducible repeat (first | apply Kd.R_alloc | apply Kd.R_drewN | apply Kd.R_drew)); exact HO_3.out⟩, ⟨by repeat (first | (with_reducible first | exact HB.out | apply below_alloc | apply pw_below_drewN | apply below_drew1) | exact HB.out)⟩⟩
          · rw [if_neg c6] at H
            exact absurd H (by simp)
        · rw [if_neg c5] at H
          exact absurd H (by simp)
      · rw [if_neg c4] at H
        have c4b0 : decide (x5_1 < (wrap64 ((t167.length : Int) / 2))) = false := decide_eq_false c4
        clear c4
        have HC9 := Aside0.mk H
        clear H
        obtain ⟨Ao10, co10, eo10⟩ := Kd.R_slice HO_3.out
        subst eo10
        go_upto_if 25 with (fail)
        go_cut [6] (fun v6 wc => ∃ (kq : Nat) (x6_8 : Int), v6 = .int .u64 x6_8 ∧ Aside0 (conventiclelaw05_BandHalf.j1 kq a0 t167 x4_1 x6_8 = some r) ∧ Aside0 (kq ≤ k1) ∧ Aside0 (Kd.R (Kd.int .i64) 3 wc w.heap.size (fun _ => True) (.slice Ao10 t167.length co10) t167) ∧ Aside0 (Below w.heap.size w wc))
        case first =>
          have H := HC9.out
          clear HC9
          by_cases c11 : (t167.length : Int) > 0
          · rw [if_pos c11] at H
            have c11b0 : decide (0 < (t167.length : Int)) = true := decide_eq_true c11
            have c11b1 : decide (0 < t167.length) = true := decide_eq_true (by omega)
            clear c11
            (first | rw [c11b0] | (simp only [i64_w, i32_w]; rw [c11b0]) | rw [c11b1] | skip)
            obtain ⟨ji12, hji12⟩ : ∃ j_ : Int, (wrap64 ((t167.length : Int) / 2)) = j_ := ⟨_, rfl⟩
            replace H : (if 0 ≤ (ji12) then (if (ji12) < (t167.length : Int) then ((conventicleref05_With.f x4_1 (rd t167 (ji12))).bind fun t173 => (conventiclelaw05_BandHalf.j1 k1 a0 t167 x4_1 t173)) else (none)) else (none)) = some r := by first | (rw [hji12] at H; exact H) | (simp only [hji12] at H ⊢; exact H)
            (try rw [hji12] at c4b0)
            have hji12w : (IntKind.i64.wrap ((t167.length : Int) / 2)) = ji12 := (i64_w _).trans hji12
            by_cases c13 : 0 ≤ (ji12)
            · rw [if_pos c13] at H
              have c13b0 : decide (0 ≤ (ji12)) = true := decide_eq_true c13
              clear c13
              by_cases c14 : (ji12) < (t167.length : Int)
              · rw [if_pos c14] at H
                have c14b0 : decide ((ji12) < (t167.length : Int)) = true := decide_eq_true c14
                clear c14
                replace H := Option.bind_eq_some_iff.mp H
                obtain ⟨t173, A150, H⟩ := H
                replace H : (conventiclelaw05_BandHalf.j1 k1 a0 t167 x4_1 t173) = some r := H
                have A15 := Aside0.mk A150
                clear A150
                have H' := Aside0.mk H
                clear H
                have p172 : 0 ≤ ((ji12) : Int) := of_decide_eq_true (by first | (with_reducible assumption) | assumption)
                have q172 : (ji12) < (t167.length : Int) := of_decide_eq_true (by first | (with_reducible assumption) | assumption)
                obtain ⟨ad172, e172, hx172_0⟩ := Kd.at_int (Kd.R_reads' HO_3.out).2.2 (ji12) p172 q172
                cases e172
                replace p172 := eq_true p172
                replace q172 := eq_true q172
                go_wp2_with (first | ((with_reducible refine gate_callee (f := 16) rfl ?_); refine goesL_ (some 33) rfl rfl Tryd.func16 (by kernel_rfl) rfl #[.int .u64 x4_1, .int .i64 (rd t167 (ji12))] rfl (by (try simp only [List.map_toArray, List.map_cons, List.map_nil]); first | done | (simp only [hji12]; rfl) | rfl | (simp only [List.length_drop, List.length_take]; rfl)) ?_; (with_reducible refine (conventicleref05_With.calls x4_1 (rd t167 (ji12)) t173 _ A15.out).mono ?_); rintro e w' ⟨rfl, ⟨nd, rfl⟩⟩; refine ⟨_, rfl, ?_⟩))
                go_meet
                case rel => exact ⟨_, (t173), (by first | rfl | (simp; done) | (simp [*]; done)), H', ⟨by have := HK1.out; first | omega | exact Nat.le_refl _⟩, ⟨by (with_reducible repeat (first | apply Kd.R_alloc | apply Kd.R_drewN | apply Kd.R_drew)); exact HO_3.out⟩, ⟨by repeat (first | (with_reducible first | exact HB.out | apply below_alloc | apply pw_below_drewN | apply below_drew1) | exact HB.out)⟩⟩
              · rw [if_neg c14] at H
                exact absurd H (by simp)
            · rw [if_neg c13] at H
              exact absurd H (by simp)
          · rw [if_neg c11] at H
            have c11b0 : decide (0 < (t167.length : Int)) = false := decide_eq_false c11
            have c11b1 : decide (0 < t167.length) = false := decide_eq_false (by omega)
            clear c11
            (first | rw [c11b0] | (simp only [i64_w, i32_w]; rw [c11b0]) | rw [c11b1] | skip)
            have H' := Aside0.mk H
            clear H
            go_wp2
            go_meet
            case rel => exact ⟨_, (x4_1), (by first | rfl | (simp; done) | (simp [*]; done)), H', ⟨by have := HK1.out; first | omega | exact Nat.le_refl _⟩, ⟨by (with_reducible repeat (first | apply Kd.R_alloc | apply Kd.R_drewN | apply Kd.R_drew)); exact HO_3.out⟩, ⟨by repeat (first | (with_reducible first | exact HB.out | apply below_alloc | apply pw_below_drewN | apply below_drew1) | exact HB.out)⟩⟩
        case rest =>
          clear HC9
          try clear c1
          try clear p1
          try clear q1
          try clear hx1
          try clear p2
          try clear c4
          try clear c4b0
          try clear c5
          try clear c5b0
          try clear c6
          try clear c6b0
          try clear p6
          try clear c9
          try clear c11
          try clear c11b0
          try clear c11b1
          try clear c13
          try clear c13b0
          try clear c14
          try clear c14b0
          try clear hx170_0
          try clear hx172_0
          try clear p170
          try clear p172
          try clear p2
          try clear q170
          try clear q172
          obtain ⟨kq, x6_8, rfl, HA, HJ8, HO_3, HB⟩ := hcut
          cases kq with
          | zero => exact absurd HA.out (by simp [conventiclelaw05_BandHalf.j1])
          | succ kj8 =>
            have H := HA.out
            clear HA
            simp only [conventiclelaw05_BandHalf.j1] at H
            replace H := Option.bind_eq_some_iff.mp H
            obtain ⟨t174, A160, H⟩ := H
            replace H : (if t174 = true then (none) else ((band_Major.f x6_8 a0).bind fun t175 => (if (t175 == (decide ((t167.length : Int) > 0))) = true then ((band_Major.f a0 a0).bind fun t176 => (if (t176 == (decide ((t167.length : Int) > 0))) = true then ((conventiclelaw05_shown.f kj8).bind fun t177 => (some t177)) else (none))) else (none)))) = some r := H
            have A16 := Aside0.mk A160
            clear A160
            by_cases c17 : t174 = true
            · subst c17
              have H1 : (none) = some r := by rw [if_pos rfl] at H; exact H
              clear H
              have H := H1
              clear H1
              exact absurd H (by simp)
            · replace c17 := Bool.eq_false_iff.mpr c17
              subst c17
              have H1 : ((band_Major.f x6_8 a0).bind fun t175 => (if (t175 == (decide ((t167.length : Int) > 0))) = true then ((band_Major.f a0 a0).bind fun t176 => (if (t176 == (decide ((t167.length : Int) > 0))) = true then ((conventiclelaw05_shown.f kj8).bind fun t177 => (some t177)) else (none))) else (none))) = some r := by rw [if_neg (show ¬ (false = true) by decide)] at H; exact H
              clear H
              have H := H1
              clear H1
              replace H := Option.bind_eq_some_iff.mp H
              obtain ⟨t175, A180, H⟩ := H
              replace H : (if (t175 == (decide ((t167.length : Int) > 0))) = true then ((band_Major.f a0 a0).bind fun t176 => (if (t176 == (decide ((t167.length : Int) > 0))) = true then ((conventiclelaw05_shown.f kj8).bind fun t177 => (some t177)) else (none))) else (none)) = some r := H
              have A18 := Aside0.mk A180
              clear A180
              by_cases c19 : (t175 == (decide ((t167.length : Int) > 0))) = true
              · rw [if_pos c19] at H
                have c19b0 : (t175 == (decide ((t167.length : Int) > 0))) = true := c19
                (try (have c19b1 : decide (t175 = (decide ((t167.length : Int) > 0))) = true := by simpa using c19))
                (try (have c19b2 : (t175 == (decide ((t167.length : Int) > 0))) = true := by simpa using c19))
                have c19b3 : (t175 == (decide (0 < t167.length))) = true := by simpa using c19
                clear c19
                replace H := Option.bind_eq_some_iff.mp H
                obtain ⟨t176, A200, H⟩ := H
                replace H : (if (t176 == (decide ((t167.length : Int) > 0))) = true then ((conventiclelaw05_shown.f kj8).bind fun t177 => (some t177)) else (none)) = some r := H
                have A20 := Aside0.mk A200
                clear A200
                by_cases c21 : (t176 == (decide ((t167.length : Int) > 0))) = true
                · rw [if_pos c21] at H
                  have c21b0 : (t176 == (decide ((t167.length : Int) > 0))) = true := c21
                  (try (have c21b1 : decide (t176 = (decide ((t167.length : Int) > 0))) = true := by simpa using c21))
                  (try (have c21b2 : (t176 == (decide ((t167.length : Int) > 0))) = true := by simpa using c21))
                  have c21b3 : (t176 == (decide (0 < t167.length))) = true := by simpa using c21
                  clear c21
                  replace H := Option.bind_eq_some_iff.mp H
                  obtain ⟨t177, A220, H⟩ := H
                  replace H : (some t177) = some r := H
                  have A22 := Aside0.mk A220
                  clear A220
                  obtain rfl := Option.some.inj H
                  go_wp2_with (first | ((with_reducible refine gate_callee (f := 14) rfl ?_); refine goesL_ (some 36) rfl rfl Tryd.func14 (by kernel_rfl) rfl #[.int .u64 x4_1, .int .u64 a0] rfl (by (try simp only [List.map_toArray, List.map_cons, List.map_nil]); first | done | rfl | (simp only [List.length_drop, List.length_take]; rfl)) ?_; (with_reducible refine (band_Major.calls x4_1 a0 false _ A16.out).mono ?_); rintro e w' ⟨rfl, ⟨nd, rfl⟩⟩; refine ⟨_, rfl, ?_⟩) | (go_at_call 14; (with_reducible refine (band_Major.calls x6_8 a0 t175 _ A18.out).mono ?_); rintro e w' ⟨rfl, ⟨nd, rfl⟩⟩) | (go_at_call 14; (with_reducible refine (band_Major.calls a0 a0 t176 _ A20.out).mono ?_); rintro e w' ⟨rfl, ⟨nd, rfl⟩⟩) | (go_at_call 11; (with_reducible refine (conventiclelaw05_shown.calls kj8  t177 _ A22.out (hT := by first | exact hT | (with_reducible exact hT) | ((repeat (first | exact hT | apply tab_drewN | apply tab_drew)); done) | exact tab_below hT (by repeat (first | (with_reducible first | exact HB.out | apply below_alloc | apply pw_below_drewN | apply below_drew1) | exact HB.out)))).mono ?_); rintro e w23 ⟨rfl, hb⟩; have n0_ := Aside0.mk (Kd.R_below (by (with_reducible repeat (first | apply Kd.R_alloc | apply Kd.R_drewN | apply Kd.R_drew)); exact HO_3.out) hb); have n1_ := Aside0.mk (below_step (by repeat (first | (with_reducible first | exact HB.out | apply below_alloc | apply pw_below_drewN | apply below_drew1) | exact HB.out)) hb); clear HO_3; clear HB; have HO_3 := n0_; have HB := n1_; clear n0_ n1_; (try clear hb); (try clear hb2); (try clear hk); (try clear hi)))
                  go_ret
                  exact ⟨by first | rfl | (simp [errW_none, errW_some] <;> rfl) | (simp [*, errW_none, errW_some] <;> rfl), by repeat (first | (with_reducible first | exact HB.out | apply below_alloc | apply pw_below_drewN | apply below_drew1) | exact HB.out)⟩
                · rw [if_neg c21] at H
                  exact absurd H (by simp)
              · rw [if_neg c19] at H
                exact absurd H (by simp)

/-- THE ONE PURE STATEMENT of conventiclelaw05_BandHalf: yours. -/
def conventiclelaw05_BandHalf.Pure : Prop := ∀ (a0 : Int), (Lit.int .u64 a0).wf = true → ∃ k, conventiclelaw05_BandHalf.f k a0 = some true
theorem conventiclelaw05_BandHalf.walk (P : conventiclelaw05_BandHalf.Pure) (a0 : Int) (w : World) (w0 : (Lit.int .u64 a0).wf = true) (hT : Aside0 (TabT w)) :
    Calls Tryd.prog 6 #[.int .u64 a0] w fun e w' => e = .returned (.bool true) ∧ Below w.heap.size w w' := by
  obtain ⟨k, h⟩ := P a0 w0
  refine (conventiclelaw05_BandHalf.calls k a0 true w h (hT := by first | exact hT | (with_reducible exact hT) | ((repeat (first | exact hT | apply tab_drewN | apply tab_drew)); done) | exact tab_below hT (by repeat (first | (with_reducible first | exact HB.out | apply below_alloc | apply pw_below_drewN | apply below_drew1) | exact HB.out)))).mono ?_
  rintro e w' ⟨rfl, hd⟩
  exact ⟨rfl, hd⟩

/-! ### band_Place: function 18 -/
def band_Place.f (a0 : Int) (a1 : Int) : Option (Int) := (band_below.f a1).bind fun t178 => ((band_Many.f (Go.bits .and .u64 a0 t178)).bind fun t179 => (some t179))
set_option maxHeartbeats 8000000 in
set_option maxRecDepth 100000 in
theorem band_Place.calls (a0 : Int) (a1 : Int) (r : Int) (w : World) (h : band_Place.f a0 a1 = some r) :
    Calls Tryd.prog 18 #[.int .u64 a0, .int .i64 a1] w fun e w' => e = .returned (.int .i64 r) ∧ Drawn0 w w' := by
  have H : ((band_below.f a1).bind fun t178 => ((band_Many.f (Go.bits .and .u64 a0 t178)).bind fun t179 => (some t179))) = some r := h
  clear h
  replace H := Option.bind_eq_some_iff.mp H
  obtain ⟨t178, A30, H⟩ := H
  replace H : ((band_Many.f (Go.bits .and .u64 a0 t178)).bind fun t179 => (some t179)) = some r := H
  have A3 := Aside0.mk A30
  clear A30
  replace H := Option.bind_eq_some_iff.mp H
  obtain ⟨t179, A40, H⟩ := H
  replace H : (some t179) = some r := H
  have A4 := Aside0.mk A40
  clear A40
  obtain rfl := Option.some.inj H
  go_enter Tryd.func18, Tryd.ntmps18
  go_wp2_with (first | ((with_reducible refine gate_callee (f := 25) rfl ?_); refine goesL_ (some 7) rfl rfl Tryd.func25 (by kernel_rfl) rfl #[.int .i64 a1] rfl (by (try simp only [List.map_toArray, List.map_cons, List.map_nil]); first | done | rfl | (simp only [List.length_drop, List.length_take]; rfl)) ?_; (with_reducible refine (band_below.calls a1 t178 _ A3.out).mono ?_); rintro e w' ⟨rfl, ⟨nd, rfl⟩⟩; refine ⟨_, rfl, ?_⟩) | ((with_reducible refine gate_callee (f := 23) rfl ?_); refine goesL_ (some 9) rfl rfl Tryd.func23 (by kernel_rfl) rfl #[.int .u64 (Go.bits .and .u64 a0 t178)] rfl (by (try simp only [List.map_toArray, List.map_cons, List.map_nil]); first | done | rfl | (simp only [List.length_drop, List.length_take]; rfl)) ?_; (with_reducible refine (band_Many.calls (Go.bits .and .u64 a0 t178) t179 _ A4.out).mono ?_); rintro e w' ⟨rfl, ⟨nd, rfl⟩⟩; refine ⟨_, rfl, ?_⟩))
  go_ret
  exact ⟨by first | rfl | (simp; done) | (simp [*]; done), by repeat (first | exact Drawn0.refl _ | apply Drawn0.step)⟩

/-! ### band_With: function 20 -/
def band_With.f (a0 : Int) (a1 : Int) : Option (Int) := (band_bit.f a1).bind fun t180 => (some (Go.bits .or .u64 a0 t180))
set_option maxHeartbeats 8000000 in
set_option maxRecDepth 100000 in
theorem band_With.calls (a0 : Int) (a1 : Int) (r : Int) (w : World) (h : band_With.f a0 a1 = some r) :
    Calls Tryd.prog 20 #[.int .u64 a0, .int .i64 a1] w fun e w' => e = .returned (.int .u64 r) ∧ Drawn0 w w' := by
  have H : ((band_bit.f a1).bind fun t180 => (some (Go.bits .or .u64 a0 t180))) = some r := h
  clear h
  replace H := Option.bind_eq_some_iff.mp H
  obtain ⟨t180, A30, H⟩ := H
  replace H : (some (Go.bits .or .u64 a0 t180)) = some r := H
  have A3 := Aside0.mk A30
  clear A30
  obtain rfl := Option.some.inj H
  go_enter Tryd.func20, Tryd.ntmps20
  go_wp2_with (first | ((with_reducible refine gate_callee (f := 30) rfl ?_); refine goesL_ (some 7) rfl rfl Tryd.func30 (by kernel_rfl) rfl #[.int .i64 a1] rfl (by (try simp only [List.map_toArray, List.map_cons, List.map_nil]); first | done | rfl | (simp only [List.length_drop, List.length_take]; rfl)) ?_; (with_reducible refine (band_bit.calls a1 t180 _ A3.out).mono ?_); rintro e w' ⟨rfl, ⟨nd, rfl⟩⟩; refine ⟨_, rfl, ?_⟩))
  go_ret
  exact ⟨by first | rfl | (simp; done) | (simp [*]; done), by repeat (first | exact Drawn0.refl _ | apply Drawn0.step)⟩

/-! ### band_Less: function 21 -/
def band_Less.f (a0 : Int) (a1 : Int) : Option (Int) := (band_bit.f a1).bind fun t181 => (some (Go.bits .andNot .u64 a0 t181))
set_option maxHeartbeats 8000000 in
set_option maxRecDepth 100000 in
theorem band_Less.calls (a0 : Int) (a1 : Int) (r : Int) (w : World) (h : band_Less.f a0 a1 = some r) :
    Calls Tryd.prog 21 #[.int .u64 a0, .int .i64 a1] w fun e w' => e = .returned (.int .u64 r) ∧ Drawn0 w w' := by
  have H : ((band_bit.f a1).bind fun t181 => (some (Go.bits .andNot .u64 a0 t181))) = some r := h
  clear h
  replace H := Option.bind_eq_some_iff.mp H
  obtain ⟨t181, A30, H⟩ := H
  replace H : (some (Go.bits .andNot .u64 a0 t181)) = some r := H
  have A3 := Aside0.mk A30
  clear A30
  obtain rfl := Option.some.inj H
  go_enter Tryd.func21, Tryd.ntmps21
  go_wp2_with (first | ((with_reducible refine gate_callee (f := 30) rfl ?_); refine goesL_ (some 7) rfl rfl Tryd.func30 (by kernel_rfl) rfl #[.int .i64 a1] rfl (by (try simp only [List.map_toArray, List.map_cons, List.map_nil]); first | done | rfl | (simp only [List.length_drop, List.length_take]; rfl)) ?_; (with_reducible refine (band_bit.calls a1 t181 _ A3.out).mono ?_); rintro e w' ⟨rfl, ⟨nd, rfl⟩⟩; refine ⟨_, rfl, ?_⟩))
  go_ret
  exact ⟨by first | rfl | (simp; done) | (simp [*]; done), by repeat (first | exact Drawn0.refl _ | apply Drawn0.step)⟩

/-! ### conventiclelaw05_BandBack: function 7 -/
def conventiclelaw05_BandBack.l0 : Nat → Int → Int → List Int → Int → Option (Bool)
  | 0, _, _, _, _ => none
  | k + 1, x0, x1, x5, x6 => if x6 < (x5.length : Int) then (if 0 ≤ x6 then ((band_Place.f x0 (rd x5 x6)).bind fun t186 => (if t186 = x6 then ((band_Has.f x0 (rd x5 x6)).bind fun t188 => (if t188 = true then (conventiclelaw05_BandBack.l0 k x0 x1 x5 (wrap64 (x6 + 1))) else (none))) else (none))) else (none)) else ((band_Less.f x0 (Int.tmod (wrap64 (x1)) 64)).bind fun t189 => ((band_With.f t189 (Int.tmod (wrap64 (x1)) 64)).bind fun t190 => ((band_Of.f k x5).bind fun t191 => (if t191 = x0 then ((band_Many.f x0).bind fun t192 => (if (x5.length : Int) = t192 then ((band_With.f x0 (Int.tmod (wrap64 (x1)) 64)).bind fun t193 => (if t190 = t193 then ((band_Less.f x0 (Int.tmod (wrap64 (x1)) 64)).bind fun t194 => ((band_Has.f t194 (Int.tmod (wrap64 (x1)) 64)).bind fun t195 => (if t195 = true then (none) else ((conventiclelaw05_shown.f k).bind fun t196 => (some t196))))) else (none))) else (none))) else (none)))))
def conventiclelaw05_BandBack.f (k : Nat) (a0 : Int) (a1 : Int) : Option (Bool) := (band_List.f a0).bind fun t182 => (conventiclelaw05_BandBack.l0 k a0 a1 t182 0)
theorem conventiclelaw05_BandBack.mono_l : ∀ k, (∀ y0 y1 y2 y3, LeO (conventiclelaw05_BandBack.l0 k y0 y1 y2 y3) (conventiclelaw05_BandBack.l0 (k + 1) y0 y1 y2 y3))
  | 0 => fun _ _ _ _ r h => by simp [conventiclelaw05_BandBack.l0] at h
  | k + 1 => by
    have ih0 := conventiclelaw05_BandBack.mono_l k
    · intro y0 y1 y2 y3
      unfold conventiclelaw05_BandBack.l0
      repeat' first
      | (with_reducible exact ih0 _ _ _ _)
      | (with_reducible exact band_Of.mono _ _)
      | (with_reducible exact conventiclelaw05_shown.mono _)
      | (with_reducible exact LeO.refl _)
      | (with_reducible exact LeO.none _)
      | (with_reducible refine LeO.ite ?_ ?_)
      | (with_reducible refine LeO.bind ?_ (fun _ => ?_))
      | exact ih0 _ _ _ _
      | exact band_Of.mono _ _
      | exact conventiclelaw05_shown.mono _
      | exact LeO.none _
      | refine LeO.ite ?_ ?_
      | refine LeO.bind ?_ (fun _ => ?_)
theorem conventiclelaw05_BandBack.mono : ∀ a0 a1 k, LeO (conventiclelaw05_BandBack.f k a0 a1) (conventiclelaw05_BandBack.f (k + 1) a0 a1) := by
  intro a0 a1 k
  have ih0 := conventiclelaw05_BandBack.mono_l k
  unfold conventiclelaw05_BandBack.f
  repeat' first
      | (with_reducible exact ih0 _ _ _ _)
      | (with_reducible exact band_Of.mono _ _)
      | (with_reducible exact conventiclelaw05_shown.mono _)
      | (with_reducible exact LeO.refl _)
      | (with_reducible exact LeO.none _)
      | (with_reducible refine LeO.ite ?_ ?_)
      | (with_reducible refine LeO.bind ?_ (fun _ => ?_))
      | exact ih0 _ _ _ _
      | exact band_Of.mono _ _
      | exact conventiclelaw05_shown.mono _
      | exact LeO.none _
      | refine LeO.ite ?_ ?_
      | refine LeO.bind ?_ (fun _ => ?_)
set_option maxHeartbeats 8000000 in
set_option maxRecDepth 100000 in
theorem conventiclelaw05_BandBack.calls (k : Nat) (a0 : Int) (a1 : Int) (r : Bool) (w : World) (h : conventiclelaw05_BandBack.f k a0 a1 = some r) (hT : Aside0 (TabT w)) :
    Calls Tryd.prog 7 #[.int .u64 a0, .int .u8 a1] w fun e w' => e = .returned (.bool r) ∧ Below w.heap.size w w' := by
  have HB := Aside0.mk (Below.refl w.heap.size w)
  have H : ((band_List.f a0).bind fun t182 => (conventiclelaw05_BandBack.l0 k a0 a1 t182 0)) = some r := h
  clear h
  replace H := Option.bind_eq_some_iff.mp H
  obtain ⟨t182, A30, H⟩ := H
  replace H : (conventiclelaw05_BandBack.l0 k a0 a1 t182 0) = some r := H
  have A3 := Aside0.mk A30
  clear A30
  have H' := Aside0.mk H
  clear H
  go_enter Tryd.func7, Tryd.ntmps7
  go_wp2_with (first | ((with_reducible refine gate_callee (f := 17) rfl ?_); refine goesL_ (some 10) rfl rfl Tryd.func17 (by kernel_rfl) rfl #[.int .u64 a0] rfl (by (try simp only [List.map_toArray, List.map_cons, List.map_nil]); first | done | rfl | (simp only [List.length_drop, List.length_take]; rfl)) ?_; (with_reducible refine (band_List.calls a0 t182 _ A3.out (hT := by first | exact hT | (with_reducible exact hT) | ((repeat (first | exact hT | apply tab_drewN | apply tab_drew)); done) | exact tab_below hT (by repeat (first | (with_reducible first | exact HB.out | apply below_alloc | apply pw_below_drewN | apply below_drew1) | exact HB.out)))).mono ?_); rintro e w4 ⟨v183, rfl, ho0, hb⟩; refine ⟨_, rfl, ?_⟩; have n0_ := Aside0.mk (Kd.R_lower ho0 (below_size (by repeat (first | (with_reducible first | exact HB.out | apply below_alloc | apply pw_below_drewN | apply below_drew1) | exact HB.out)))); have n1_ := Aside0.mk (below_step (by repeat (first | (with_reducible first | exact HB.out | apply below_alloc | apply pw_below_drewN | apply below_drew1) | exact HB.out)) hb); clear HB; have HO184 := n0_; have HB := n1_; clear n0_ n1_; (try clear hb); (try clear hb2); (try clear hk); (try clear hi); (try clear ho0)))
  go_loopg [6] k (fun kq v6 w' => ∃ (x6_1 : Int), v6 = .int .i64 x6_1 ∧ Aside0 (conventiclelaw05_BandBack.l0 kq a0 a1 t182 x6_1 = some r) ∧ Aside0 (kq ≤ k) ∧ Aside0 (Kd.R (Kd.int .i64) 3 w' w.heap.size (fun _ => True) v183 t182) ∧ Aside0 (Below w.heap.size w w'))
  case atStart => exact ⟨(0), (by first | rfl | (simp; done) | (simp [*]; done)), H', ⟨Nat.le_refl _⟩, ⟨by (with_reducible repeat (first | apply Kd.R_alloc | apply Kd.R_drewN | apply Kd.R_drew)); exact HO184.out⟩, ⟨by repeat (first | (with_reducible first | exact HB.out | apply below_alloc | apply pw_below_drewN | apply below_drew1) | exact HB.out)⟩⟩
  case round =>
    clear H'
    try clear c1
    try clear p2
    obtain ⟨x6_1, rfl, HA, HK1, HO_5, HB⟩ := hrel
    cases gk with
    | zero => exact absurd HA.out (by simp [conventiclelaw05_BandBack.l0])
    | succ k1 =>
      have H := HA.out
      clear HA
      simp only [conventiclelaw05_BandBack.l0] at H
      by_cases c5 : x6_1 < (t182.length : Int)
      · rw [if_pos c5] at H
        have c5b0 : decide (x6_1 < (t182.length : Int)) = true := decide_eq_true c5
        clear c5
        by_cases c6 : 0 ≤ x6_1
        · rw [if_pos c6] at H
          have c6b0 : decide (0 ≤ x6_1) = true := decide_eq_true c6
          clear c6
          replace H := Option.bind_eq_some_iff.mp H
          obtain ⟨t186, A70, H⟩ := H
          replace H : (if t186 = x6_1 then ((band_Has.f a0 (rd t182 x6_1)).bind fun t188 => (if t188 = true then (conventiclelaw05_BandBack.l0 k1 a0 a1 t182 (wrap64 (x6_1 + 1))) else (none))) else (none)) = some r := H
          have A7 := Aside0.mk A70
          clear A70
          by_cases c8 : t186 = x6_1
          · rw [if_pos c8] at H
            have c8b0 : (t186 == x6_1) = true := beq_iff_eq.mpr c8
            have c8b1 : (t186 != x6_1) = false := bne_eq_false_iff_eq.mpr c8
            clear c8
            replace H := Option.bind_eq_some_iff.mp H
            obtain ⟨t188, A90, H⟩ := H
            replace H : (if t188 = true then (conventiclelaw05_BandBack.l0 k1 a0 a1 t182 (wrap64 (x6_1 + 1))) else (none)) = some r := H
            have A9 := Aside0.mk A90
            clear A90
            by_cases c10 : t188 = true
            · subst c10
              have H1 : (conventiclelaw05_BandBack.l0 k1 a0 a1 t182 (wrap64 (x6_1 + 1))) = some r := by rw [if_pos rfl] at H; exact H
              clear H
              have H := H1
              clear H1
              have H' := Aside0.mk H
              clear H
              obtain ⟨Ao11, co11, eo11⟩ := Kd.R_slice HO_5.out
              subst eo11
              have p185 : 0 ≤ (x6_1 : Int) := of_decide_eq_true (by first | (with_reducible assumption) | assumption)
              have q185 : x6_1 < (t182.length : Int) := of_decide_eq_true (by first | (with_reducible assumption) | assumption)
              obtain ⟨ad185, e185, hx185_0⟩ := Kd.at_int (Kd.R_reads' HO_5.out).2.2 x6_1 p185 q185
              cases e185
              replace p185 := eq_true p185
              replace q185 := eq_true q185
              go_wp2_with (first | ((with_reducible refine gate_callee (f := 18) rfl ?_); refine goesL_ (some 22) rfl rfl Tryd.func18 (by kernel_rfl) rfl #[.int .u64 a0, .int .i64 (rd t182 x6_1)] rfl (by (try simp only [List.map_toArray, List.map_cons, List.map_nil]); first | done | rfl | (simp only [List.length_drop, List.length_take]; rfl)) ?_; (with_reducible refine (band_Place.calls a0 (rd t182 x6_1) t186 _ A7.out).mono ?_); rintro e w' ⟨rfl, ⟨nd, rfl⟩⟩; refine ⟨_, rfl, ?_⟩; have p187 : 0 ≤ (x6_1 : Int) := of_decide_eq_true (by first | (with_reducible assumption) | assumption); have q187 : x6_1 < (t182.length : Int) := of_decide_eq_true (by first | (with_reducible assumption) | assumption); obtain ⟨ad187, e187, hx187_0⟩ := Kd.at_int (Kd.R_reads' HO_5.out).2.2 x6_1 p187 q187; obtain rfl : ad185 = ad187 := (by injection e187); replace p187 := eq_true p187; replace q187 := eq_true q187) | (go_at_call 19; (with_reducible refine (band_Has.calls a0 (rd t182 x6_1) true _ A9.out).mono ?_); rintro e w' ⟨rfl, ⟨nd, rfl⟩⟩))
              go_roundg k1
              case measure => have := HK1.out; omega
              case rel => exact ⟨(wrap64 (x6_1 + 1)), (by first | rfl | (simp; done) | (simp [*]; done)), H', ⟨by have := HK1.out; omega⟩, ⟨by (with_reducible repeat (first | apply Kd.R_alloc | apply Kd.R_drewN | apply Kd.R_drew)); exact HO_5.out⟩, ⟨by repeat (first | (with_reducible first | exact HB.out | apply below_alloc | apply pw_below_drewN | apply below_drew1) | exact HB.out)⟩⟩
            · replace c10 := Bool.eq_false_iff.mpr c10
              subst c10
              have H1 : (none) = some r := by rw [if_neg (show ¬ (false = true) by decide)] at H; exact H
              clear H
              have H := H1
              clear H1
              exact absurd H (by simp)
          · rw [if_neg c8] at H
            exact absurd H (by simp)
        · rw [if_neg c6] at H
          exact absurd H (by simp)
      · rw [if_neg c5] at H
        have c5b0 : decide (x6_1 < (t182.length : Int)) = false := decide_eq_false c5
        clear c5
        replace H := Option.bind_eq_some_iff.mp H
        obtain ⟨t189, A120, H⟩ := H
        replace H : ((band_With.f t189 (Int.tmod (wrap64 (a1)) 64)).bind fun t190 => ((band_Of.f k1 t182).bind fun t191 => (if t191 = a0 then ((band_Many.f a0).bind fun t192 => (if (t182.length : Int) = t192 then ((band_With.f a0 (Int.tmod (wrap64 (a1)) 64)).bind fun t193 => (if t190 = t193 then ((band_Less.f a0 (Int.tmod (wrap64 (a1)) 64)).bind fun t194 => ((band_Has.f t194 (Int.tmod (wrap64 (a1)) 64)).bind fun t195 => (if t195 = true then (none) else ((conventiclelaw05_shown.f k1).bind fun t196 => (some t196))))) else (none))) else (none))) else (none)))) = some r := H
        have A12 := Aside0.mk A120
        clear A120
        replace H := Option.bind_eq_some_iff.mp H
        obtain ⟨t190, A130, H⟩ := H
        replace H : ((band_Of.f k1 t182).bind fun t191 => (if t191 = a0 then ((band_Many.f a0).bind fun t192 => (if (t182.length : Int) = t192 then ((band_With.f a0 (Int.tmod (wrap64 (a1)) 64)).bind fun t193 => (if t190 = t193 then ((band_Less.f a0 (Int.tmod (wrap64 (a1)) 64)).bind fun t194 => ((band_Has.f t194 (Int.tmod (wrap64 (a1)) 64)).bind fun t195 => (if t195 = true then (none) else ((conventiclelaw05_shown.f k1).bind fun t196 => (some t196))))) else (none))) else (none))) else (none))) = some r := H
        have A13 := Aside0.mk A130
        clear A130
        replace H := Option.bind_eq_some_iff.mp H
        obtain ⟨t191, A140, H⟩ := H
        replace H : (if t191 = a0 then ((band_Many.f a0).bind fun t192 => (if (t182.length : Int) = t192 then ((band_With.f a0 (Int.tmod (wrap64 (a1)) 64)).bind fun t193 => (if t190 = t193 then ((band_Less.f a0 (Int.tmod (wrap64 (a1)) 64)).bind fun t194 => ((band_Has.f t194 (Int.tmod (wrap64 (a1)) 64)).bind fun t195 => (if t195 = true then (none) else ((conventiclelaw05_shown.f k1).bind fun t196 => (some t196))))) else (none))) else (none))) else (none)) = some r := H
        have A14 := Aside0.mk A140
        clear A140
        by_cases c15 : t191 = a0
        · rw [if_pos c15] at H
          have c15b0 : (t191 == a0) = true := beq_iff_eq.mpr c15
          have c15b1 : (t191 != a0) = false := bne_eq_false_iff_eq.mpr c15
          clear c15
          replace H := Option.bind_eq_some_iff.mp H
          obtain ⟨t192, A160, H⟩ := H
          replace H : (if (t182.length : Int) = t192 then ((band_With.f a0 (Int.tmod (wrap64 (a1)) 64)).bind fun t193 => (if t190 = t193 then ((band_Less.f a0 (Int.tmod (wrap64 (a1)) 64)).bind fun t194 => ((band_Has.f t194 (Int.tmod (wrap64 (a1)) 64)).bind fun t195 => (if t195 = true then (none) else ((conventiclelaw05_shown.f k1).bind fun t196 => (some t196))))) else (none))) else (none)) = some r := H
          have A16 := Aside0.mk A160
          clear A160
          by_cases c17 : (t182.length : Int) = t192
          · rw [if_pos c17] at H
            have c17b0 : ((t182.length : Int) == t192) = true := beq_iff_eq.mpr c17
            have c17b1 : ((t182.length : Int) != t192) = false := bne_eq_false_iff_eq.mpr c17
            clear c17
            replace H := Option.bind_eq_some_iff.mp H
            obtain ⟨t193, A180, H⟩ := H
            replace H : (if t190 = t193 then ((band_Less.f a0 (Int.tmod (wrap64 (a1)) 64)).bind fun t194 => ((band_Has.f t194 (Int.tmod (wrap64 (a1)) 64)).bind fun t195 => (if t195 = true then (none) else ((conventiclelaw05_shown.f k1).bind fun t196 => (some t196))))) else (none)) = some r := H
            have A18 := Aside0.mk A180
            clear A180
            by_cases c19 : t190 = t193
            · rw [if_pos c19] at H
              have c19b0 : (t190 == t193) = true := beq_iff_eq.mpr c19
              have c19b1 : (t190 != t193) = false := bne_eq_false_iff_eq.mpr c19
              clear c19
              replace H := Option.bind_eq_some_iff.mp H
              obtain ⟨t194, A200, H⟩ := H
              replace H : ((band_Has.f t194 (Int.tmod (wrap64 (a1)) 64)).bind fun t195 => (if t195 = true then (none) else ((conventiclelaw05_shown.f k1).bind fun t196 => (some t196)))) = some r := H
              have A20 := Aside0.mk A200
              clear A200
              replace H := Option.bind_eq_some_iff.mp H
              obtain ⟨t195, A210, H⟩ := H
              replace H : (if t195 = true then (none) else ((conventiclelaw05_shown.f k1).bind fun t196 => (some t196))) = some r := H
              have A21 := Aside0.mk A210
              clear A210
              by_cases c22 : t195 = true
              · subst c22
                have H1 : (none) = some r := by rw [if_pos rfl] at H; exact H
                clear H
                have H := H1
                clear H1
                exact absurd H (by simp)
              · replace c22 := Bool.eq_false_iff.mpr c22
                subst c22
                have H1 : ((conventiclelaw05_shown.f k1).bind fun t196 => (some t196)) = some r := by rw [if_neg (show ¬ (false = true) by decide)] at H; exact H
                clear H
                have H := H1
                clear H1
                replace H := Option.bind_eq_some_iff.mp H
                obtain ⟨t196, A230, H⟩ := H
                replace H : (some t196) = some r := H
                have A23 := Aside0.mk A230
                clear A230
                obtain rfl := Option.some.inj H
                obtain ⟨Ao24, co24, eo24⟩ := Kd.R_slice HO_5.out
                subst eo24
                go_wp2_with (first | ((with_reducible refine gate_callee (f := 21) rfl ?_); refine goesL_ (some 39) rfl rfl Tryd.func21 (by kernel_rfl) rfl #[.int .u64 a0, .int .i64 (Int.tmod (wrap64 (a1)) 64)] rfl (by (try simp only [List.map_toArray, List.map_cons, List.map_nil]); first | done | rfl | (simp only [List.length_drop, List.length_take]; rfl)) ?_; (with_reducible refine (band_Less.calls a0 (Int.tmod (wrap64 (a1)) 64) t189 _ A12.out).mono ?_); rintro e w' ⟨rfl, ⟨nd, rfl⟩⟩; refine ⟨_, rfl, ?_⟩) | ((with_reducible refine gate_callee (f := 20) rfl ?_); refine goesL_ (some 41) rfl rfl Tryd.func20 (by kernel_rfl) rfl #[.int .u64 t189, .int .i64 (Int.tmod (wrap64 (a1)) 64)] rfl (by (try simp only [List.map_toArray, List.map_cons, List.map_nil]); first | done | rfl | (simp only [List.length_drop, List.length_take]; rfl)) ?_; (with_reducible refine (band_With.calls t189 (Int.tmod (wrap64 (a1)) 64) t190 _ A13.out).mono ?_); rintro e w' ⟨rfl, ⟨nd, rfl⟩⟩; refine ⟨_, rfl, ?_⟩) | ((with_reducible refine gate_callee (f := 22) rfl ?_); refine goesL_ (some 43) rfl rfl Tryd.func22 (by kernel_rfl) rfl #[.slice Ao24 t182.length co24] rfl (by (try simp only [List.map_toArray, List.map_cons, List.map_nil]); first | done | rfl | (simp only [List.length_drop, List.length_take]; rfl)) ?_; (with_reducible refine (band_Of.calls k1 _ _ t182 t191 _ ?side1 ?side2 A14.out).mono ?_); (case side1 => repeat (first | exact (Kd.R_reads' HO_5.out).2.2 | (with_reducible refine Kd.C_alloc ?_ _) | (with_reducible refine Kd.C_drewN ?_ _) | (with_reducible refine Kd.C_drew ?_))); (case side2 => exact (Kd.R_reads' HO_5.out).2.1); rintro e w' ⟨rfl, ⟨nd, rfl⟩⟩; refine ⟨_, rfl, ?_⟩) | (go_at_call 23; (with_reducible refine (band_Many.calls a0 t192 _ A16.out).mono ?_); rintro e w' ⟨rfl, ⟨nd, rfl⟩⟩) | (go_at_call 20; (with_reducible refine (band_With.calls a0 (Int.tmod (wrap64 (a1)) 64) t193 _ A18.out).mono ?_); rintro e w' ⟨rfl, ⟨nd, rfl⟩⟩) | (go_at_call 21; (with_reducible refine (band_Less.calls a0 (Int.tmod (wrap64 (a1)) 64) t194 _ A20.out).mono ?_); rintro e w' ⟨rfl, ⟨nd, rfl⟩⟩) | (go_at_call 19; (with_reducible refine (band_Has.calls t194 (Int.tmod (wrap64 (a1)) 64) false _ A21.out).mono ?_); rintro e w' ⟨rfl, ⟨nd, rfl⟩⟩) | (go_at_call 11; (with_reducible refine (conventiclelaw05_shown.calls k1  t196 _ A23.out (hT := by first | exact hT | (with_reducible exact hT) | ((repeat (first | exact hT | apply tab_drewN | apply tab_drew)); done) | exact tab_below hT (by repeat (first | (with_reducible first | exact HB.out | apply below_alloc | apply pw_below_drewN | apply below_drew1) | exact HB.out)))).mono ?_); rintro e w25 ⟨rfl, hb⟩; have n0_ := Aside0.mk (Kd.R_below (by (with_reducible repeat (first | apply Kd.R_alloc | apply Kd.R_drewN | apply Kd.R_drew)); exact HO_5.out) hb); have n1_ := Aside0.mk (below_step (by repeat (first | (with_reducible first | exact HB.out | apply below_alloc | apply pw_below_drewN | apply below_drew1) | exact HB.out)) hb); clear HO_5; clear HB; have HO_5 := n0_; have HB := n1_; clear n0_ n1_; (try clear hb); (try clear hb2); (try clear hk); (try clear hi)))
                go_ret
                exact ⟨by first | rfl | (simp [errW_none, errW_some] <;> rfl) | (simp [*, errW_none, errW_some] <;> rfl), by repeat (first | (with_reducible first | exact HB.out | apply below_alloc | apply pw_below_drewN | apply below_drew1) | exact HB.out)⟩
            · rw [if_neg c19] at H
              exact absurd H (by simp)
          · rw [if_neg c17] at H
            exact absurd H (by simp)
        · rw [if_neg c15] at H
          exact absurd H (by simp)

/-- THE ONE PURE STATEMENT of conventiclelaw05_BandBack: yours. -/
def conventiclelaw05_BandBack.Pure : Prop := ∀ (a0 : Int) (a1 : Int), (Lit.int .u64 a0).wf = true → (Lit.int .u8 a1).wf = true → ∃ k, conventiclelaw05_BandBack.f k a0 a1 = some true
theorem conventiclelaw05_BandBack.walk (P : conventiclelaw05_BandBack.Pure) (a0 : Int) (a1 : Int) (w : World) (w0 : (Lit.int .u64 a0).wf = true) (w1 : (Lit.int .u8 a1).wf = true) (hT : Aside0 (TabT w)) :
    Calls Tryd.prog 7 #[.int .u64 a0, .int .u8 a1] w fun e w' => e = .returned (.bool true) ∧ Below w.heap.size w w' := by
  obtain ⟨k, h⟩ := P a0 a1 w0 w1
  refine (conventiclelaw05_BandBack.calls k a0 a1 true w h (hT := by first | exact hT | (with_reducible exact hT) | ((repeat (first | exact hT | apply tab_drewN | apply tab_drew)); done) | exact tab_below hT (by repeat (first | (with_reducible first | exact HB.out | apply below_alloc | apply pw_below_drewN | apply below_drew1) | exact HB.out)))).mono ?_
  rintro e w' ⟨rfl, hd⟩
  exact ⟨rfl, hd⟩

/-! ### conventicleref05_Many: function 24 -/
def conventicleref05_Many.f (k : Nat) (a0 : Int) : Option (Int) := (conventicleref05_List.f k a0).bind fun t197 => (some (t197.length : Int))
theorem conventicleref05_Many.mono : ∀ a0 k, LeO (conventicleref05_Many.f k a0) (conventicleref05_Many.f (k + 1) a0) := by
  intro a0 k
  unfold conventicleref05_Many.f
  repeat' first
      | (with_reducible exact conventicleref05_List.mono _ _)
      | (with_reducible exact LeO.refl _)
      | (with_reducible exact LeO.none _)
      | (with_reducible refine LeO.ite ?_ ?_)
      | (with_reducible refine LeO.bind ?_ (fun _ => ?_))
      | exact conventicleref05_List.mono _ _
      | exact LeO.none _
      | refine LeO.ite ?_ ?_
      | refine LeO.bind ?_ (fun _ => ?_)
set_option maxHeartbeats 8000000 in
set_option maxRecDepth 100000 in
theorem conventicleref05_Many.calls (k : Nat) (a0 : Int) (r : Int) (w : World) (h : conventicleref05_Many.f k a0 = some r) :
    Calls Tryd.prog 24 #[.int .u64 a0] w fun e w' => e = .returned (.int .i64 r) ∧ Below w.heap.size w w' := by
  have HB := Aside0.mk (Below.refl w.heap.size w)
  have H : ((conventicleref05_List.f k a0).bind fun t197 => (some (t197.length : Int))) = some r := h
  clear h
  replace H := Option.bind_eq_some_iff.mp H
  obtain ⟨t197, A20, H⟩ := H
  replace H : (some (t197.length : Int)) = some r := H
  have A2 := Aside0.mk A20
  clear A20
  obtain rfl := Option.some.inj H
  go_enter Tryd.func24, Tryd.ntmps24
  go_wp2_with (first | ((with_reducible refine gate_callee (f := 9) rfl ?_); refine goesL_ (some 4) rfl rfl Tryd.func9 (by kernel_rfl) rfl #[.int .u64 a0] rfl (by (try simp only [List.map_toArray, List.map_cons, List.map_nil]); first | done | rfl | (simp only [List.length_drop, List.length_take]; rfl)) ?_; (with_reducible refine (conventicleref05_List.calls k a0 t197 _ A2.out).mono ?_); rintro e w3 ⟨v198, rfl, ho0, hb⟩; refine ⟨_, rfl, ?_⟩; have n0_ := Aside0.mk (Kd.R_lower ho0 (below_size (by repeat (first | (with_reducible first | exact HB.out | apply below_alloc | apply pw_below_drewN | apply below_drew1) | exact HB.out)))); have n1_ := Aside0.mk (below_step (by repeat (first | (with_reducible first | exact HB.out | apply below_alloc | apply pw_below_drewN | apply below_drew1) | exact HB.out)) hb); clear HB; have HO199 := n0_; have HB := n1_; clear n0_ n1_; (try clear hb); (try clear hb2); (try clear hk); (try clear hi); (try clear ho0); obtain ⟨Ao4, co4, eo4⟩ := Kd.R_slice HO199.out; subst eo4))
  go_ret
  exact ⟨by first | rfl | (simp [errW_none, errW_some] <;> rfl) | (simp [*, errW_none, errW_some] <;> rfl), by repeat (first | (with_reducible first | exact HB.out | apply below_alloc | apply pw_below_drewN | apply below_drew1) | exact HB.out)⟩

end Go.Proofs.YtidofbloppcpfaaDoor.B
