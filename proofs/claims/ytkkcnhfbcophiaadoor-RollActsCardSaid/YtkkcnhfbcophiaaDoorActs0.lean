/- The document's plain functions (printed), what they come to, and what rolls know: of RollActs. -/
import Derived.Test.YtkkcnhfbcophiaaDoorKnows
import Derived.Test.YtkkcnhfbcophiaaDoorMergeIs
section
namespace Go.Proofs.YtkkcnhfbcophiaaDoor.B
open Go.RowKit Go.Proofs.YtkkcnhfbcophiaaDoorW.PrintWords Go.Proofs.YtkkcnhfbcophiaaDoorW.PrintLast Go.Proofs.YtkkcnhfbcophiaaDoorW.PrintMore
attribute [local go_sem] max2_int min2_int max_two min_two max_three min_three max_four min_four   -- for this text's walks alone
set_option linter.unusedVariables false
set_option linter.unusedSimpArgs false

/-! ### conventicleref06_Refute: function 38 -/
def conventicleref06_Refute.j0 : Nat → Int → Bool → Int → Int → Int → Option (Int × Bool × Int)
  | 0, _, _, _, _, _ => none
  | k + 1, x1, x36, x137000, x137001, x137002 => if x36 = true then (some (x1, false, 0)) else ((conventicleref06_Up.f x137001).bind fun bt138 => (if bt138.2 = 0 then (some (bt138.1, true, 0)) else (some (x1, false, bt138.2))))
def conventicleref06_Refute.f (k : Nat) (a0 : Int) (a1 : Int) (a2_0 : Int) (a2_1 : Int) (a2_2 : Int) : Option (Int × Bool × Int) := (conventicleref06_May.f a2_0 a2_1 a2_2).bind fun t137 => (if t137 = true then (if a2_0 = a0 then (if a2_1 < a1 then (conventicleref06_Refute.j0 k a1 true a2_0 a2_1 a2_2) else (if a2_1 = a1 then (conventicleref06_Refute.j0 k a1 (a2_2 == 0) a2_0 a2_1 a2_2) else (conventicleref06_Refute.j0 k a1 false a2_0 a2_1 a2_2))) else (conventicleref06_Refute.j0 k a1 true a2_0 a2_1 a2_2)) else (conventicleref06_Refute.j0 k a1 true a2_0 a2_1 a2_2))
theorem conventicleref06_Refute.mono_l : ∀ k, (∀ y0 y1 y2 y3 y4, LeO (conventicleref06_Refute.j0 k y0 y1 y2 y3 y4) (conventicleref06_Refute.j0 (k + 1) y0 y1 y2 y3 y4))
  | 0 => fun _ _ _ _ _ r h => by simp [conventicleref06_Refute.j0] at h
  | k + 1 => by
    have ih0 := conventicleref06_Refute.mono_l k
    · intro y0 y1 y2 y3 y4
      unfold conventicleref06_Refute.j0
      repeat' first
      | (with_reducible exact ih0 _ _ _ _ _)
      | (with_reducible exact LeO.refl _)
      | (with_reducible exact LeO.none _)
      | (with_reducible refine LeO.ite ?_ ?_)
      | (with_reducible refine LeO.bind ?_ (fun _ => ?_))
      | exact ih0 _ _ _ _ _
      | exact LeO.none _
      | refine LeO.ite ?_ ?_
      | refine LeO.bind ?_ (fun _ => ?_)
theorem conventicleref06_Refute.mono : ∀ a0 a1 a2 a3 a4 k, LeO (conventicleref06_Refute.f k a0 a1 a2 a3 a4) (conventicleref06_Refute.f (k + 1) a0 a1 a2 a3 a4) := by
  intro a0 a1 a2 a3 a4 k
  have ih0 := conventicleref06_Refute.mono_l k
  unfold conventicleref06_Refute.f
  repeat' first
      | (with_reducible exact ih0 _ _ _ _ _)
      | (with_reducible exact LeO.refl _)
      | (with_reducible exact LeO.none _)
      | (with_reducible refine LeO.ite ?_ ?_)
      | (with_reducible refine LeO.bind ?_ (fun _ => ?_))
      | exact ih0 _ _ _ _ _
      | exact LeO.none _
      | refine LeO.ite ?_ ?_
      | refine LeO.bind ?_ (fun _ => ?_)
set_option maxHeartbeats 8000000 in
set_option maxRecDepth 100000 in
theorem conventicleref06_Refute.calls (k : Nat) (a0 : Int) (a1 : Int) (a2_0 : Int) (a2_1 : Int) (a2_2 : Int) (r1 : Int) (r2 : Bool) (r3 : Int) (w : World) (h : conventicleref06_Refute.f k a0 a1 a2_0 a2_1 a2_2 = some (r1, r2, r3)) :
    Calls Tryd.prog 38 #[.int .i64 a0, .int .u64 a1, .agg #[.int .i64 a2_0, .int .u64 a2_1, .int .i64 a2_2]] w fun e w' => e = .returned (.tuple #[.int .u64 r1, .bool r2, .int .i64 r3]) ∧ Below w.heap.size w w' := by
  have hu31 := Tryd.underlying31
  have HB := Aside0.mk (Below.refl w.heap.size w)
  have H : ((conventicleref06_May.f a2_0 a2_1 a2_2).bind fun t137 => (if t137 = true then (if a2_0 = a0 then (if a2_1 < a1 then (conventicleref06_Refute.j0 k a1 true a2_0 a2_1 a2_2) else (if a2_1 = a1 then (conventicleref06_Refute.j0 k a1 (a2_2 == 0) a2_0 a2_1 a2_2) else (conventicleref06_Refute.j0 k a1 false a2_0 a2_1 a2_2))) else (conventicleref06_Refute.j0 k a1 true a2_0 a2_1 a2_2)) else (conventicleref06_Refute.j0 k a1 true a2_0 a2_1 a2_2))) = some (r1, r2, r3) := h
  clear h
  have HC4 := Aside0.mk H
  clear H
  go_enter Tryd.func38, Tryd.ntmps38
  go_upto_region 1 with (first | ((with_reducible refine gate_dst (N := 5) rfl ?_); refine box_event ?hg (N := 5) ?hd (cs := #[.int .i64 a2_0, .int .u64 a2_1, .int .i64 a2_2]) (t := 31) ?hr ?_; (case hd => rfl); (case hg => rfl); (case hr => first | (go_simp; done) | (go_simp; rfl)); intro gb136 hg w5 hbox hb; have n0_ := Aside0.mk (below_step (by repeat (first | (with_reducible first | exact HB.out | apply below_alloc | apply pw_below_drewN | apply below_drew1) | exact HB.out)) hb); have n1_ := Aside0.mk (hbox); have n2_ := Aside0.mk ((by rw [hg]; exact (below_size (by repeat (first | (with_reducible first | exact HB.out | apply below_alloc | apply pw_below_drewN | apply below_drew1) | exact HB.out))) : w.heap.size ≤ gb136)); have n3_ := Aside0.mk ((by rw [hg]; exact (below_size (by repeat (first | (with_reducible first | exact HB.out | apply below_alloc | apply pw_below_drewN | apply below_drew1) | exact HB.out))) : w.heap.size ≤ gb136)); clear HB; have HB := n0_; have BK136 := n1_; have GW136 := n2_; have GE136 := n3_; clear n0_ n1_ n2_ n3_; clear hb hbox hg))
  (try simp only [Act.put, List.setIfInBounds_toArray, List.set_cons_zero, List.set_cons_succ])
  go_cut [36] (fun v36 wc => ∃ (kq : Nat) (x36_3 : Bool), v36 = .bool x36_3 ∧ Aside0 (conventicleref06_Refute.j0 kq a1 x36_3 a2_0 a2_1 a2_2 = some (r1, r2, r3)) ∧ Aside0 (kq ≤ k) ∧ Aside0 (wc.heap[gb136]? = some (.cells #[.int .i64 a2_0, .int .u64 a2_1, .int .i64 a2_2] 31 (0, 0))) ∧ Aside0 (Below w.heap.size w wc))
  case first =>
    have H := HC4.out
    clear HC4
    replace H := Option.bind_eq_some_iff.mp H
    obtain ⟨t137, A60, H⟩ := H
    replace H : (if t137 = true then (if a2_0 = a0 then (if a2_1 < a1 then (conventicleref06_Refute.j0 k a1 true a2_0 a2_1 a2_2) else (if a2_1 = a1 then (conventicleref06_Refute.j0 k a1 (a2_2 == 0) a2_0 a2_1 a2_2) else (conventicleref06_Refute.j0 k a1 false a2_0 a2_1 a2_2))) else (conventicleref06_Refute.j0 k a1 true a2_0 a2_1 a2_2)) else (conventicleref06_Refute.j0 k a1 true a2_0 a2_1 a2_2)) = some (r1, r2, r3) := H
    have A6 := Aside0.mk A60
    clear A60
    by_cases c7 : t137 = true
    · subst c7
      have H1 : (if a2_0 = a0 then (if a2_1 < a1 then (conventicleref06_Refute.j0 k a1 true a2_0 a2_1 a2_2) else (if a2_1 = a1 then (conventicleref06_Refute.j0 k a1 (a2_2 == 0) a2_0 a2_1 a2_2) else (conventicleref06_Refute.j0 k a1 false a2_0 a2_1 a2_2))) else (conventicleref06_Refute.j0 k a1 true a2_0 a2_1 a2_2)) = some (r1, r2, r3) := by rw [if_pos rfl] at H; exact H
      clear H
      have H := H1
      clear H1
      by_cases c8 : a2_0 = a0
      · rw [if_pos c8] at H
        have c8b0 : (a2_0 == a0) = true := beq_iff_eq.mpr c8
        have c8b1 : (a2_0 != a0) = false := bne_eq_false_iff_eq.mpr c8
        clear c8
        (first | rw [c8b0] | (simp only [i64_w, i32_w]; rw [c8b0]) | skip)
        by_cases c9 : a2_1 < a1
        · rw [if_pos c9] at H
          have c9b0 : decide (a2_1 < a1) = true := decide_eq_true c9
          clear c9
          have H' := Aside0.mk H
          clear H
          have hcz10_0 : w5.cell? ⟨gb136, 0, none⟩ = some (.int .i64 a2_0) := (blk_cell BK136.out 0).trans rfl
          have hcz10_1 : w5.cell? ⟨gb136, 1, none⟩ = some (.int .u64 a2_1) := (blk_cell BK136.out 1).trans rfl
          have hcz10_2 : w5.cell? ⟨gb136, 2, none⟩ = some (.int .i64 a2_2) := (blk_cell BK136.out 2).trans rfl
          have hfz10_0 := blk_frozen BK136.out 0
          have hfz10_1 := blk_frozen BK136.out 1
          have hfz10_2 := blk_frozen BK136.out 2
          go_wp2_with (first | ((with_reducible refine gate_callee (f := 19) rfl ?_); refine goesL_ (some 12) rfl rfl Tryd.func19 (by kernel_rfl) rfl #[.agg #[.int .i64 a2_0, .int .u64 a2_1, .int .i64 a2_2]] rfl (by (try simp only [List.map_toArray, List.map_cons, List.map_nil]); first | done | rfl | (simp only [List.length_drop, List.length_take]; rfl)) ?_; (with_reducible refine (conventicleref06_May.calls a2_0 a2_1 a2_2 true _ A6.out).mono ?_); rintro e w11 ⟨rfl, hb⟩; refine ⟨_, rfl, ?_⟩; have n0_ := Aside0.mk (blk_below (g := gb136) (o := .cells #[.int .i64 a2_0, .int .u64 a2_1, .int .i64 a2_2] 31 (0, 0)) (by (with_reducible repeat (first | refine blk_drewN ?_ _ | refine blk_drew ?_ | refine blk_alloc ?_ _)); exact BK136.out) hb); have n1_ := Aside0.mk (below_step (by repeat (first | (with_reducible first | exact HB.out | apply below_alloc | apply pw_below_drewN | apply below_drew1 | refine below_set ?_ GE136.out) | exact HB.out)) hb); clear BK136; clear HB; have BK136 := n0_; have HB := n1_; clear n0_ n1_; (try clear hb); (try clear hb2); (try clear hk); (try clear hi); have hcz12_0 : w11.cell? ⟨gb136, 0, none⟩ = some (.int .i64 a2_0) := (blk_cell BK136.out 0).trans rfl; have hcz12_1 : w11.cell? ⟨gb136, 1, none⟩ = some (.int .u64 a2_1) := (blk_cell BK136.out 1).trans rfl; have hcz12_2 : w11.cell? ⟨gb136, 2, none⟩ = some (.int .i64 a2_2) := (blk_cell BK136.out 2).trans rfl; have hfz12_0 := blk_frozen BK136.out 0; have hfz12_1 := blk_frozen BK136.out 1; have hfz12_2 := blk_frozen BK136.out 2))
          go_meet
          case rel => exact ⟨_, (true), (by first | rfl | (simp; done) | (simp [*]; done)), H', ⟨by first | omega | exact Nat.le_refl _⟩, ⟨by (with_reducible repeat (first | refine blk_drewN ?_ _ | refine blk_drew ?_ | refine blk_alloc ?_ _)); exact BK136.out⟩, ⟨by repeat (first | (with_reducible first | exact HB.out | apply below_alloc | apply pw_below_drewN | apply below_drew1 | refine below_set ?_ GE136.out) | exact HB.out)⟩⟩
        · rw [if_neg c9] at H
          have c9b0 : decide (a2_1 < a1) = false := decide_eq_false c9
          clear c9
          by_cases c13 : a2_1 = a1
          · rw [if_pos c13] at H
            have c13b0 : (a2_1 == a1) = true := beq_iff_eq.mpr c13
            have c13b1 : (a2_1 != a1) = false := bne_eq_false_iff_eq.mpr c13
            clear c13
            have H' := Aside0.mk H
            clear H
            have hcz14_0 : w5.cell? ⟨gb136, 0, none⟩ = some (.int .i64 a2_0) := (blk_cell BK136.out 0).trans rfl
            have hcz14_1 : w5.cell? ⟨gb136, 1, none⟩ = some (.int .u64 a2_1) := (blk_cell BK136.out 1).trans rfl
            have hcz14_2 : w5.cell? ⟨gb136, 2, none⟩ = some (.int .i64 a2_2) := (blk_cell BK136.out 2).trans rfl
            have hfz14_0 := blk_frozen BK136.out 0
            have hfz14_1 := blk_frozen BK136.out 1
            have hfz14_2 := blk_frozen BK136.out 2
            go_wp2_with (first | ((with_reducible refine gate_callee (f := 19) rfl ?_); refine goesL_ (some 12) rfl rfl Tryd.func19 (by kernel_rfl) rfl #[.agg #[.int .i64 a2_0, .int .u64 a2_1, .int .i64 a2_2]] rfl (by (try simp only [List.map_toArray, List.map_cons, List.map_nil]); first | done | rfl | (simp only [List.length_drop, List.length_take]; rfl)) ?_; (with_reducible refine (conventicleref06_May.calls a2_0 a2_1 a2_2 true _ A6.out).mono ?_); rintro e w15 ⟨rfl, hb⟩; refine ⟨_, rfl, ?_⟩; have n0_ := Aside0.mk (blk_below (g := gb136) (o := .cells #[.int .i64 a2_0, .int .u64 a2_1, .int .i64 a2_2] 31 (0, 0)) (by (with_reducible repeat (first | refine blk_drewN ?_ _ | refine blk_drew ?_ | refine blk_alloc ?_ _)); exact BK136.out) hb); have n1_ := Aside0.mk (below_step (by repeat (first | (with_reducible first | exact HB.out | apply below_alloc | apply pw_below_drewN | apply below_drew1 | refine below_set ?_ GE136.out) | exact HB.out)) hb); clear BK136; clear HB; have BK136 := n0_; have HB := n1_; clear n0_ n1_; (try clear hb); (try clear hb2); (try clear hk); (try clear hi); have hcz16_0 : w15.cell? ⟨gb136, 0, none⟩ = some (.int .i64 a2_0) := (blk_cell BK136.out 0).trans rfl; have hcz16_1 : w15.cell? ⟨gb136, 1, none⟩ = some (.int .u64 a2_1) := (blk_cell BK136.out 1).trans rfl; have hcz16_2 : w15.cell? ⟨gb136, 2, none⟩ = some (.int .i64 a2_2) := (blk_cell BK136.out 2).trans rfl; have hfz16_0 := blk_frozen BK136.out 0; have hfz16_1 := blk_frozen BK136.out 1; have hfz16_2 := blk_frozen BK136.out 2))
            go_meet
            case rel => exact ⟨_, ((a2_2 == 0)), (by first | rfl | (simp; done) | (simp [*]; done)), H', ⟨by first | omega | exact Nat.le_refl _⟩, ⟨by (with_reducible repeat (first | refine blk_drewN ?_ _ | refine blk_drew ?_ | refine blk_alloc ?_ _)); exact BK136.out⟩, ⟨by repeat (first | (with_reducible first | exact HB.out | apply below_alloc | apply pw_below_drewN | apply below_drew1 | refine below_set ?_ GE136.out) | exact HB.out)⟩⟩
          · rw [if_neg c13] at H
            have c13b0 : (a2_1 == a1) = false := beq_eq_false_iff_ne.mpr c13
            have c13b1 : (a2_1 != a1) = true := bne_iff_ne.mpr c13
            have H' := Aside0.mk H
            clear H
            have hcz17_0 : w5.cell? ⟨gb136, 0, none⟩ = some (.int .i64 a2_0) := (blk_cell BK136.out 0).trans rfl
            have hcz17_1 : w5.cell? ⟨gb136, 1, none⟩ = some (.int .u64 a2_1) := (blk_cell BK136.out 1).trans rfl
            have hcz17_2 : w5.cell? ⟨gb136, 2, none⟩ = some (.int .i64 a2_2) := (blk_cell BK136.out 2).trans rfl
            have hfz17_0 := blk_frozen BK136.out 0
            have hfz17_1 := blk_frozen BK136.out 1
            have hfz17_2 := blk_frozen BK136.out 2
            go_wp2_with (first | ((with_reducible refine gate_callee (f := 19) rfl ?_); refine goesL_ (some 12) rfl rfl Tryd.func19 (by kernel_rfl) rfl #[.agg #[.int .i64 a2_0, .int .u64 a2_1, .int .i64 a2_2]] rfl (by (try simp only [List.map_toArray, List.map_cons, List.map_nil]); first | done | rfl | (simp only [List.length_drop, List.length_take]; rfl)) ?_; (with_reducible refine (conventicleref06_May.calls a2_0 a2_1 a2_2 true _ A6.out).mono ?_); rintro e w18 ⟨rfl, hb⟩; refine ⟨_, rfl, ?_⟩; have n0_ := Aside0.mk (blk_below (g := gb136) (o := .cells #[.int .i64 a2_0, .int .u64 a2_1, .int .i64 a2_2] 31 (0, 0)) (by (with_reducible repeat (first | refine blk_drewN ?_ _ | refine blk_drew ?_ | refine blk_alloc ?_ _)); exact BK136.out) hb); have n1_ := Aside0.mk (below_step (by repeat (first | (with_reducible first | exact HB.out | apply below_alloc | apply pw_below_drewN | apply below_drew1 | refine below_set ?_ GE136.out) | exact HB.out)) hb); clear BK136; clear HB; have BK136 := n0_; have HB := n1_; clear n0_ n1_; (try clear hb); (try clear hb2); (try clear hk); (try clear hi); have hcz19_0 : w18.cell? ⟨gb136, 0, none⟩ = some (.int .i64 a2_0) := (blk_cell BK136.out 0).trans rfl; have hcz19_1 : w18.cell? ⟨gb136, 1, none⟩ = some (.int .u64 a2_1) := (blk_cell BK136.out 1).trans rfl; have hcz19_2 : w18.cell? ⟨gb136, 2, none⟩ = some (.int .i64 a2_2) := (blk_cell BK136.out 2).trans rfl; have hfz19_0 := blk_frozen BK136.out 0; have hfz19_1 := blk_frozen BK136.out 1; have hfz19_2 := blk_frozen BK136.out 2))
            go_meet
            case rel => exact ⟨_, (false), (by first | rfl | (simp; done) | (simp [*]; done)), H', ⟨by first | omega | exact Nat.le_refl _⟩, ⟨by (with_reducible repeat (first | refine blk_drewN ?_ _ | refine blk_drew ?_ | refine blk_alloc ?_ _)); exact BK136.out⟩, ⟨by repeat (first | (with_reducible first | exact HB.out | apply below_alloc | apply pw_below_drewN | apply below_drew1 | refine below_set ?_ GE136.out) | exact HB.out)⟩⟩
      · rw [if_neg c8] at H
        have c8b0 : (a2_0 == a0) = false := beq_eq_false_iff_ne.mpr c8
        have c8b1 : (a2_0 != a0) = true := bne_iff_ne.mpr c8
        (first | rw [c8b0] | (simp only [i64_w, i32_w]; rw [c8b0]) | skip)
        have H' := Aside0.mk H
        clear H
        have hcz20_0 : w5.cell? ⟨gb136, 0, none⟩ = some (.int .i64 a2_0) := (blk_cell BK136.out 0).trans rfl
        have hcz20_1 : w5.cell? ⟨gb136, 1, none⟩ = some (.int .u64 a2_1) := (blk_cell BK136.out 1).trans rfl
        have hcz20_2 : w5.cell? ⟨gb136, 2, none⟩ = some (.int .i64 a2_2) := (blk_cell BK136.out 2).trans rfl
        have hfz20_0 := blk_frozen BK136.out 0
        have hfz20_1 := blk_frozen BK136.out 1
        have hfz20_2 := blk_frozen BK136.out 2
        go_wp2_with (first | ((with_reducible refine gate_callee (f := 19) rfl ?_); refine goesL_ (some 12) rfl rfl Tryd.func19 (by kernel_rfl) rfl #[.agg #[.int .i64 a2_0, .int .u64 a2_1, .int .i64 a2_2]] rfl (by (try simp only [List.map_toArray, List.map_cons, List.map_nil]); first | done | rfl | (simp only [List.length_drop, List.length_take]; rfl)) ?_; (with_reducible refine (conventicleref06_May.calls a2_0 a2_1 a2_2 true _ A6.out).mono ?_); rintro e w21 ⟨rfl, hb⟩; refine ⟨_, rfl, ?_⟩; have n0_ := Aside0.mk (blk_below (g := gb136) (o := .cells #[.int .i64 a2_0, .int .u64 a2_1, .int .i64 a2_2] 31 (0, 0)) (by (with_reducible repeat (first | refine blk_drewN ?_ _ | refine blk_drew ?_ | refine blk_alloc ?_ _)); exact BK136.out) hb); have n1_ := Aside0.mk (below_step (by repeat (first | (with_reducible first | exact HB.out | apply below_alloc | apply pw_below_drewN | apply below_drew1 | refine below_set ?_ GE136.out) | exact HB.out)) hb); clear BK136; clear HB; have BK136 := n0_; have HB := n1_; clear n0_ n1_; (try clear hb); (try clear hb2); (try clear hk); (try clear hi); have hcz22_0 : w21.cell? ⟨gb136, 0, none⟩ = some (.int .i64 a2_0) := (blk_cell BK136.out 0).trans rfl; have hcz22_1 : w21.cell? ⟨gb136, 1, none⟩ = some (.int .u64 a2_1) := (blk_cell BK136.out 1).trans rfl; have hcz22_2 : w21.cell? ⟨gb136, 2, none⟩ = some (.int .i64 a2_2) := (blk_cell BK136.out 2).trans rfl; have hfz22_0 := blk_frozen BK136.out 0; have hfz22_1 := blk_frozen BK136.out 1; have hfz22_2 := blk_frozen BK136.out 2))
        go_meet
        case rel => exact ⟨_, (true), (by first | rfl | (simp; done) | (simp [*]; done)), H', ⟨by first | omega | exact Nat.le_refl _⟩, ⟨by (with_reducible repeat (first | refine blk_drewN ?_ _ | refine blk_drew ?_ | refine blk_alloc ?_ _)); exact BK136.out⟩, ⟨by repeat (first | (with_reducible first | exact HB.out | apply below_alloc | apply pw_below_drewN | apply below_drew1 | refine below_set ?_ GE136.out) | exact HB.out)⟩⟩
    · replace c7 := Bool.eq_false_iff.mpr c7
      subst c7
      have H1 : (conventicleref06_Refute.j0 k a1 true a2_0 a2_1 a2_2) = some (r1, r2, r3) := by rw [if_neg (show ¬ (false = true) by decide)] at H; exact H
      clear H
      have H := H1
      clear H1
      have H' := Aside0.mk H
      clear H
      have hcz23_0 : w5.cell? ⟨gb136, 0, none⟩ = some (.int .i64 a2_0) := (blk_cell BK136.out 0).trans rfl
      have hcz23_1 : w5.cell? ⟨gb136, 1, none⟩ = some (.int .u64 a2_1) := (blk_cell BK136.out 1).trans rfl
      have hcz23_2 : w5.cell? ⟨gb136, 2, none⟩ = some (.int .i64 a2_2) := (blk_cell BK136.out 2).trans rfl
      have hfz23_0 := blk_frozen BK136.out 0
      have hfz23_1 := blk_frozen BK136.out 1
      have hfz23_2 := blk_frozen BK136.out 2
      go_wp2_with (first | ((with_reducible refine gate_callee (f := 19) rfl ?_); refine goesL_ (some 12) rfl rfl Tryd.func19 (by kernel_rfl) rfl #[.agg #[.int .i64 a2_0, .int .u64 a2_1, .int .i64 a2_2]] rfl (by (try simp only [List.map_toArray, List.map_cons, List.map_nil]); first | done | rfl | (simp only [List.length_drop, List.length_take]; rfl)) ?_; (with_reducible refine (conventicleref06_May.calls a2_0 a2_1 a2_2 false _ A6.out).mono ?_); rintro e w24 ⟨rfl, hb⟩; refine ⟨_, rfl, ?_⟩; have n0_ := Aside0.mk (blk_below (g := gb136) (o := .cells #[.int .i64 a2_0, .int .u64 a2_1, .int .i64 a2_2] 31 (0, 0)) (by (with_reducible repeat (first | refine blk_drewN ?_ _ | refine blk_drew ?_ | refine blk_alloc ?_ _)); exact BK136.out) hb); have n1_ := Aside0.mk (below_step (by repeat (first | (with_reducible first | exact HB.out | apply below_alloc | apply pw_below_drewN | apply below_drew1 | refine below_set ?_ GE136.out) | exact HB.out)) hb); clear BK136; clear HB; have BK136 := n0_; have HB := n1_; clear n0_ n1_; (try clear hb); (try clear hb2); (try clear hk); (try clear hi)))
      go_meet
      case rel => exact ⟨_, (true), (by first | rfl | (simp; done) | (simp [*]; done)), H', ⟨by first | omega | exact Nat.le_refl _⟩, ⟨by (with_reducible repeat (first | refine blk_drewN ?_ _ | refine blk_drew ?_ | refine blk_alloc ?_ _)); exact BK136.out⟩, ⟨by repeat (first | (with_reducible first | exact HB.out | apply below_alloc | apply pw_below_drewN | apply below_drew1 | refine below_set ?_ GE136.out) | exact HB.out)⟩⟩
  case rest =>
    clear HC4
    try clear c1
    try clear p2
    try clear c3
    try clear c7
    try clear c8
    try clear c8b0
    try clear c8b1
    try clear c9
    try clear c9b0
    try clear c13
    try clear c13b0
    try clear c13b1
    try clear c19
    try clear hcz10_0
    try clear hcz10_1
    try clear hcz10_2
    try clear hcz12_0
    try clear hcz12_1
    try clear hcz12_2
    try clear hcz14_0
    try clear hcz14_1
    try clear hcz14_2
    try clear hcz16_0
    try clear hcz16_1
    try clear hcz16_2
    try clear hcz17_0
    try clear hcz17_1
    try clear hcz17_2
    try clear hcz19_0
    try clear hcz19_1
    try clear hcz19_2
    try clear hcz20_0
    try clear hcz20_1
    try clear hcz20_2
    try clear hcz22_0
    try clear hcz22_1
    try clear hcz22_2
    try clear hcz23_0
    try clear hcz23_1
    try clear hcz23_2
    try clear hfz10_0
    try clear hfz10_1
    try clear hfz10_2
    try clear hfz12_0
    try clear hfz12_1
    try clear hfz12_2
    try clear hfz14_0
    try clear hfz14_1
    try clear hfz14_2
    try clear hfz16_0
    try clear hfz16_1
    try clear hfz16_2
    try clear hfz17_0
    try clear hfz17_1
    try clear hfz17_2
    try clear hfz19_0
    try clear hfz19_1
    try clear hfz19_2
    try clear hfz20_0
    try clear hfz20_1
    try clear hfz20_2
    try clear hfz22_0
    try clear hfz22_1
    try clear hfz22_2
    try clear hfz23_0
    try clear hfz23_1
    try clear hfz23_2
    obtain ⟨kq, x36_3, rfl, HA, HJ3, BK136, HB⟩ := hcut
    cases kq with
    | zero => exact absurd HA.out (by simp [conventicleref06_Refute.j0])
    | succ kj3 =>
      have H := HA.out
      clear HA
      simp only [conventicleref06_Refute.j0] at H
      by_cases c25 : x36_3 = true
      · subst c25
        have H1 : (some (a1, false, 0)) = some (r1, r2, r3) := by rw [if_pos rfl] at H; exact H
        clear H
        have H := H1
        clear H1
        simp only [Option.some.injEq, Prod.mk.injEq] at H
        obtain ⟨rfl, rfl, rfl⟩ := H
        go_wp2
        go_ret3
        exact ⟨by first | rfl | (simp [errW_none, errW_some] <;> rfl) | (simp [*, errW_none, errW_some] <;> rfl), by repeat (first | (with_reducible first | exact HB.out | apply below_alloc | apply pw_below_drewN | apply below_drew1 | refine below_set ?_ GE136.out) | exact HB.out)⟩
      · replace c25 := Bool.eq_false_iff.mpr c25
        subst c25
        have H1 : ((conventicleref06_Up.f a2_1).bind fun bt138 => (if bt138.2 = 0 then (some (bt138.1, true, 0)) else (some (a1, false, bt138.2)))) = some (r1, r2, r3) := by rw [if_neg (show ¬ (false = true) by decide)] at H; exact H
        clear H
        have H := H1
        clear H1
        replace H := Option.bind_eq_some_iff.mp H
        obtain ⟨⟨t138, t139⟩, A260, H⟩ := H
        replace H : (if t139 = 0 then (some (t138, true, 0)) else (some (a1, false, t139))) = some (r1, r2, r3) := H
        have A26 := Aside0.mk A260
        clear A260
        by_cases c27 : t139 = 0
        · rw [if_pos c27] at H
          have c27b0 : (t139 == 0) = true := beq_iff_eq.mpr c27
          have c27b1 : (t139 != 0) = false := bne_eq_false_iff_eq.mpr c27
          clear c27
          simp only [Option.some.injEq, Prod.mk.injEq] at H
          obtain ⟨rfl, rfl, rfl⟩ := H
          have hcz28_0 : wc.cell? ⟨gb136, 0, none⟩ = some (.int .i64 a2_0) := (blk_cell BK136.out 0).trans rfl
          have hcz28_1 : wc.cell? ⟨gb136, 1, none⟩ = some (.int .u64 a2_1) := (blk_cell BK136.out 1).trans rfl
          have hcz28_2 : wc.cell? ⟨gb136, 2, none⟩ = some (.int .i64 a2_2) := (blk_cell BK136.out 2).trans rfl
          have hfz28_0 := blk_frozen BK136.out 0
          have hfz28_1 := blk_frozen BK136.out 1
          have hfz28_2 := blk_frozen BK136.out 2
          go_wp2_with (first | ((with_reducible refine gate_callee (f := 51) rfl ?_); refine goesL_ (some 41) rfl rfl Tryd.func51 (by kernel_rfl) rfl #[.int .u64 a2_1] rfl (by (try simp only [List.map_toArray, List.map_cons, List.map_nil]); first | done | rfl | (simp only [List.length_drop, List.length_take]; rfl)) ?_; (with_reducible refine (conventicleref06_Up.calls a2_1 t138 t139 _ A26.out).mono ?_); rintro e w' ⟨rfl, ⟨nd, rfl⟩⟩; refine ⟨_, rfl, ?_⟩))
          go_ret3
          exact ⟨by first | rfl | (simp [errW_none, errW_some] <;> rfl) | (simp [*, errW_none, errW_some] <;> rfl), by repeat (first | (with_reducible first | exact HB.out | apply below_alloc | apply pw_below_drewN | apply below_drew1 | refine below_set ?_ GE136.out) | exact HB.out)⟩
        · rw [if_neg c27] at H
          have c27b0 : (t139 == 0) = false := beq_eq_false_iff_ne.mpr c27
          have c27b1 : (t139 != 0) = true := bne_iff_ne.mpr c27
          simp only [Option.some.injEq, Prod.mk.injEq] at H
          obtain ⟨rfl, rfl, rfl⟩ := H
          have hcz29_0 : wc.cell? ⟨gb136, 0, none⟩ = some (.int .i64 a2_0) := (blk_cell BK136.out 0).trans rfl
          have hcz29_1 : wc.cell? ⟨gb136, 1, none⟩ = some (.int .u64 a2_1) := (blk_cell BK136.out 1).trans rfl
          have hcz29_2 : wc.cell? ⟨gb136, 2, none⟩ = some (.int .i64 a2_2) := (blk_cell BK136.out 2).trans rfl
          have hfz29_0 := blk_frozen BK136.out 0
          have hfz29_1 := blk_frozen BK136.out 1
          have hfz29_2 := blk_frozen BK136.out 2
          go_wp2_with (first | ((with_reducible refine gate_callee (f := 51) rfl ?_); refine goesL_ (some 41) rfl rfl Tryd.func51 (by kernel_rfl) rfl #[.int .u64 a2_1] rfl (by (try simp only [List.map_toArray, List.map_cons, List.map_nil]); first | done | rfl | (simp only [List.length_drop, List.length_take]; rfl)) ?_; (with_reducible refine (conventicleref06_Up.calls a2_1 t138 t139 _ A26.out).mono ?_); rintro e w' ⟨rfl, ⟨nd, rfl⟩⟩; refine ⟨_, rfl, ?_⟩))
          go_ret3
          exact ⟨by first | rfl | (simp [errW_none, errW_some] <;> rfl) | (simp [*, errW_none, errW_some] <;> rfl), by repeat (first | (with_reducible first | exact HB.out | apply below_alloc | apply pw_below_drewN | apply below_drew1 | refine below_set ?_ GE136.out) | exact HB.out)⟩


/-! ### conventicleref06_Live: function 52 -/
def conventicleref06_Live.f (a0_0 : Int) (a0_1 : Int) (a0_2 : Int) : Option (Bool) := if a0_2 = 0 then (some true) else (some (a0_2 == 1))
set_option maxHeartbeats 8000000 in
set_option maxRecDepth 100000 in
theorem conventicleref06_Live.calls (a0_0 : Int) (a0_1 : Int) (a0_2 : Int) (r : Bool) (w : World) (h : conventicleref06_Live.f a0_0 a0_1 a0_2 = some r) :
    Calls Tryd.prog 52 #[.agg #[.int .i64 a0_0, .int .u64 a0_1, .int .i64 a0_2]] w fun e w' => e = .returned (.bool r) ∧ Below w.heap.size w w' := by
  have hu31 := Tryd.underlying31
  have HB := Aside0.mk (Below.refl w.heap.size w)
  have H : (if a0_2 = 0 then (some true) else (some (a0_2 == 1))) = some r := h
  clear h
  by_cases c2 : a0_2 = 0
  · rw [if_pos c2] at H
    have c2b0 : (a0_2 == 0) = true := beq_iff_eq.mpr c2
    have c2b1 : (a0_2 != 0) = false := bne_eq_false_iff_eq.mpr c2
    clear c2
    obtain rfl := Option.some.inj H
    go_enter Tryd.func52, Tryd.ntmps52
    go_wp2_with (first | ((with_reducible refine gate_dst (N := 1) rfl ?_); refine box_event ?hg (N := 1) ?hd (cs := #[.int .i64 a0_0, .int .u64 a0_1, .int .i64 a0_2]) (t := 31) ?hr ?_; (case hd => rfl); (case hg => rfl); (case hr => first | (go_simp; done) | (go_simp; rfl)); intro gb166 hg w3 hbox hb; have n0_ := Aside0.mk (below_step (by repeat (first | (with_reducible first | exact HB.out | apply below_alloc | apply pw_below_drewN | apply below_drew1) | exact HB.out)) hb); have n1_ := Aside0.mk (hbox); have n2_ := Aside0.mk ((by rw [hg]; exact (below_size (by repeat (first | (with_reducible first | exact HB.out | apply below_alloc | apply pw_below_drewN | apply below_drew1) | exact HB.out))) : w.heap.size ≤ gb166)); have n3_ := Aside0.mk ((by rw [hg]; exact (below_size (by repeat (first | (with_reducible first | exact HB.out | apply below_alloc | apply pw_below_drewN | apply below_drew1) | exact HB.out))) : w.heap.size ≤ gb166)); clear HB; have HB := n0_; have BK166 := n1_; have GW166 := n2_; have GE166 := n3_; clear n0_ n1_ n2_ n3_; clear hb hbox hg; have hcz4_0 : w3.cell? ⟨gb166, 0, none⟩ = some (.int .i64 a0_0) := (blk_cell BK166.out 0).trans rfl; have hcz4_1 : w3.cell? ⟨gb166, 1, none⟩ = some (.int .u64 a0_1) := (blk_cell BK166.out 1).trans rfl; have hcz4_2 : w3.cell? ⟨gb166, 2, none⟩ = some (.int .i64 a0_2) := (blk_cell BK166.out 2).trans rfl; have hfz4_0 := blk_frozen BK166.out 0; have hfz4_1 := blk_frozen BK166.out 1; have hfz4_2 := blk_frozen BK166.out 2))
    go_ret
    exact ⟨by first | rfl | (simp [errW_none, errW_some] <;> rfl) | (simp [*, errW_none, errW_some] <;> rfl), by repeat (first | (with_reducible first | exact HB.out | apply below_alloc | apply pw_below_drewN | apply below_drew1 | refine below_set ?_ GE166.out) | exact HB.out)⟩
  · rw [if_neg c2] at H
    have c2b0 : (a0_2 == 0) = false := beq_eq_false_iff_ne.mpr c2
    have c2b1 : (a0_2 != 0) = true := bne_iff_ne.mpr c2
    obtain rfl := Option.some.inj H
    go_enter Tryd.func52, Tryd.ntmps52
    go_wp2_with (first | ((with_reducible refine gate_dst (N := 1) rfl ?_); refine box_event ?hg (N := 1) ?hd (cs := #[.int .i64 a0_0, .int .u64 a0_1, .int .i64 a0_2]) (t := 31) ?hr ?_; (case hd => rfl); (case hg => rfl); (case hr => first | (go_simp; done) | (go_simp; rfl)); intro gb166 hg w5 hbox hb; have n0_ := Aside0.mk (below_step (by repeat (first | (with_reducible first | exact HB.out | apply below_alloc | apply pw_below_drewN | apply below_drew1) | exact HB.out)) hb); have n1_ := Aside0.mk (hbox); have n2_ := Aside0.mk ((by rw [hg]; exact (below_size (by repeat (first | (with_reducible first | exact HB.out | apply below_alloc | apply pw_below_drewN | apply below_drew1) | exact HB.out))) : w.heap.size ≤ gb166)); have n3_ := Aside0.mk ((by rw [hg]; exact (below_size (by repeat (first | (with_reducible first | exact HB.out | apply below_alloc | apply pw_below_drewN | apply below_drew1) | exact HB.out))) : w.heap.size ≤ gb166)); clear HB; have HB := n0_; have BK166 := n1_; have GW166 := n2_; have GE166 := n3_; clear n0_ n1_ n2_ n3_; clear hb hbox hg; have hcz6_0 : w5.cell? ⟨gb166, 0, none⟩ = some (.int .i64 a0_0) := (blk_cell BK166.out 0).trans rfl; have hcz6_1 : w5.cell? ⟨gb166, 1, none⟩ = some (.int .u64 a0_1) := (blk_cell BK166.out 1).trans rfl; have hcz6_2 : w5.cell? ⟨gb166, 2, none⟩ = some (.int .i64 a0_2) := (blk_cell BK166.out 2).trans rfl; have hfz6_0 := blk_frozen BK166.out 0; have hfz6_1 := blk_frozen BK166.out 1; have hfz6_2 := blk_frozen BK166.out 2))
    go_ret
    exact ⟨by first | rfl | (simp [errW_none, errW_some] <;> rfl) | (simp [*, errW_none, errW_some] <;> rfl), by repeat (first | (with_reducible first | exact HB.out | apply below_alloc | apply pw_below_drewN | apply below_drew1 | refine below_set ?_ GE166.out) | exact HB.out)⟩


/-! ### conventicleref05_node: function 61 -/
def conventicleref05_node.f (a0 : Int) : Option (Bool) := if a0 ≥ 0 then (some (decide (a0 < 64))) else (some false)
set_option maxHeartbeats 8000000 in
set_option maxRecDepth 100000 in
theorem conventicleref05_node.calls (a0 : Int) (r : Bool) (w : World) (h : conventicleref05_node.f a0 = some r) :
    Calls Tryd.prog 61 #[.int .i64 a0] w fun e w' => e = .returned (.bool r) ∧ Drawn0 w w' := by
  have H : (if a0 ≥ 0 then (some (decide (a0 < 64))) else (some false)) = some r := h
  clear h
  by_cases c2 : a0 ≥ 0
  · rw [if_pos c2] at H
    have c2b0 : decide (0 ≤ a0) = true := decide_eq_true c2
    clear c2
    obtain rfl := Option.some.inj H
    go_enter Tryd.func61, Tryd.ntmps61
    go_wp2
    go_ret
    exact ⟨by first | rfl | (simp; done) | (simp [*]; done), by repeat (first | exact Drawn0.refl _ | apply Drawn0.step)⟩
  · rw [if_neg c2] at H
    have c2b0 : decide (0 ≤ a0) = false := decide_eq_false c2
    clear c2
    obtain rfl := Option.some.inj H
    go_enter Tryd.func61, Tryd.ntmps61
    go_wp2
    go_ret
    exact ⟨by first | rfl | (simp; done) | (simp [*]; done), by repeat (first | exact Drawn0.refl _ | apply Drawn0.step)⟩


/-! ### conventicleref05_With: function 53 -/
def conventicleref05_With.f (a0 : Int) (a1 : Int) : Option (Int) := (conventicleref05_node.f a1).bind fun t167 => (if t167 = true then (if 0 ≤ a1 then (some (Go.bits .or .u64 a0 (shl .u64 1 a1))) else (none)) else (some a0))
set_option maxHeartbeats 8000000 in
set_option maxRecDepth 100000 in
theorem conventicleref05_With.calls (a0 : Int) (a1 : Int) (r : Int) (w : World) (h : conventicleref05_With.f a0 a1 = some r) :
    Calls Tryd.prog 53 #[.int .u64 a0, .int .i64 a1] w fun e w' => e = .returned (.int .u64 r) ∧ Drawn0 w w' := by
  have H : ((conventicleref05_node.f a1).bind fun t167 => (if t167 = true then (if 0 ≤ a1 then (some (Go.bits .or .u64 a0 (shl .u64 1 a1))) else (none)) else (some a0))) = some r := h
  clear h
  replace H := Option.bind_eq_some_iff.mp H
  obtain ⟨t167, A30, H⟩ := H
  replace H : (if t167 = true then (if 0 ≤ a1 then (some (Go.bits .or .u64 a0 (shl .u64 1 a1))) else (none)) else (some a0)) = some r := H
  have A3 := Aside0.mk A30
  clear A30
  by_cases c4 : t167 = true
  · subst c4
    have H1 : (if 0 ≤ a1 then (some (Go.bits .or .u64 a0 (shl .u64 1 a1))) else (none)) = some r := by rw [if_pos rfl] at H; exact H
    clear H
    have H := H1
    clear H1
    by_cases c5 : 0 ≤ a1
    · rw [if_pos c5] at H
      have c5b0 := eq_true c5
      have c5b1 : decide (0 ≤ a1) = true := decide_eq_true c5
      clear c5
      obtain ⟨ji6, hji6⟩ : ∃ j_ : Int, (shl .u64 1 a1) = j_ := ⟨_, rfl⟩
      replace H : (some (Go.bits .or .u64 a0 (ji6))) = some r := by first | (rw [hji6] at H; exact H) | (simp only [hji6] at H ⊢; exact H)
      (try rw [hji6] at A3)
      have hji6_ : (IntKind.u64.wrap (1 * 2 ^ min a1.toNat 64)) = ji6 := hji6
      have hji6z : a1 ≤ 64 → (IntKind.u64.wrap (1 * 2 ^ a1.toNat)) = ji6 := shl_small hji6
      have hji6u : (IntKind.u64.wrap (2 ^ min a1.toNat 64)) = ji6 := by have h_ := hji6_; rw [Int.one_mul] at h_; exact h_
      have hji6v : a1 ≤ 64 → (IntKind.u64.wrap (2 ^ a1.toNat)) = ji6 := fun hle_ => by have h_ := hji6z hle_; rw [Int.one_mul] at h_; exact h_
      obtain rfl := Option.some.inj H
      go_enter Tryd.func53, Tryd.ntmps53
      go_wp2_with (first | ((with_reducible refine gate_callee (f := 61) rfl ?_); refine goesL_ (some 6) rfl rfl Tryd.func61 (by kernel_rfl) rfl #[.int .i64 a1] rfl (by (try simp only [List.map_toArray, List.map_cons, List.map_nil]); first | done | rfl | (simp only [List.length_drop, List.length_take]; rfl)) ?_; (with_reducible refine (conventicleref05_node.calls a1 true _ A3.out).mono ?_); rintro e w' ⟨rfl, ⟨nd, rfl⟩⟩; refine ⟨_, rfl, ?_⟩))
      go_ret
      exact ⟨by first | rfl | (simp; done) | (simp only [← hji6] <;> (first | rfl | simp)) | (simp [*]; done), by repeat (first | exact Drawn0.refl _ | apply Drawn0.step)⟩
    · rw [if_neg c5] at H
      exact absurd H (by simp)
  · replace c4 := Bool.eq_false_iff.mpr c4
    subst c4
    have H1 : (some a0) = some r := by rw [if_neg (show ¬ (false = true) by decide)] at H; exact H
    clear H
    have H := H1
    clear H1
    obtain rfl := Option.some.inj H
    go_enter Tryd.func53, Tryd.ntmps53
    go_wp2_with (first | ((with_reducible refine gate_callee (f := 61) rfl ?_); refine goesL_ (some 6) rfl rfl Tryd.func61 (by kernel_rfl) rfl #[.int .i64 a1] rfl (by (try simp only [List.map_toArray, List.map_cons, List.map_nil]); first | done | rfl | (simp only [List.length_drop, List.length_take]; rfl)) ?_; (with_reducible refine (conventicleref05_node.calls a1 false _ A3.out).mono ?_); rintro e w' ⟨rfl, ⟨nd, rfl⟩⟩; refine ⟨_, rfl, ?_⟩))
    go_ret
    exact ⟨by first | rfl | (simp; done) | (simp [*]; done), by repeat (first | exact Drawn0.refl _ | apply Drawn0.step)⟩


/-! ### conventicleref03_Same: function 42 -/
def conventicleref03_Same.l0 : Nat → List Int → List Int → Int → Option (Bool)
  | 0, _, _, _ => none
  | k + 1, x0, x1, x5 => if x5 < (x0.length : Int) then (if 0 ≤ x5 then (if x5 < (x1.length : Int) then (if (rd x0 x5) = (rd x1 x5) then (conventicleref03_Same.l0 k x0 x1 (wrap64 (x5 + 1))) else (some false)) else (none)) else (none)) else (some true)
def conventicleref03_Same.f (k : Nat) (l0 : List Int) (l1 : List Int) : Option (Bool) := if (l0.length : Int) = (l1.length : Int) then (conventicleref03_Same.l0 k l0 l1 0) else (some false)
theorem conventicleref03_Same.mono_l : ∀ k, (∀ y0 y1 y2, LeO (conventicleref03_Same.l0 k y0 y1 y2) (conventicleref03_Same.l0 (k + 1) y0 y1 y2))
  | 0 => fun _ _ _ r h => by simp [conventicleref03_Same.l0] at h
  | k + 1 => by
    have ih0 := conventicleref03_Same.mono_l k
    · intro y0 y1 y2
      unfold conventicleref03_Same.l0
      repeat' first
      | (with_reducible exact ih0 _ _ _)
      | (with_reducible exact LeO.refl _)
      | (with_reducible exact LeO.none _)
      | (with_reducible refine LeO.ite ?_ ?_)
      | (with_reducible refine LeO.bind ?_ (fun _ => ?_))
      | exact ih0 _ _ _
      | exact LeO.none _
      | refine LeO.ite ?_ ?_
      | refine LeO.bind ?_ (fun _ => ?_)
theorem conventicleref03_Same.mono : ∀ a0 a1 k, LeO (conventicleref03_Same.f k a0 a1) (conventicleref03_Same.f (k + 1) a0 a1) := by
  intro a0 a1 k
  have ih0 := conventicleref03_Same.mono_l k
  unfold conventicleref03_Same.f
  repeat' first
      | (with_reducible exact ih0 _ _ _)
      | (with_reducible exact LeO.refl _)
      | (with_reducible exact LeO.none _)
      | (with_reducible refine LeO.ite ?_ ?_)
      | (with_reducible refine LeO.bind ?_ (fun _ => ?_))
      | exact ih0 _ _ _
      | exact LeO.none _
      | refine LeO.ite ?_ ?_
      | refine LeO.bind ?_ (fun _ => ?_)
set_option maxHeartbeats 8000000 in
set_option maxRecDepth 100000 in
theorem conventicleref03_Same.calls (k : Nat) (A0 : Option Addr) (c0 : Nat) (l0 : List Int) (A1 : Option Addr) (c1 : Nat) (l1 : List Int) (r : Bool) (w : World) (hr0 : Kd.C (Kd.int .i64) w A0 l0.length l0) (hc0 : l0.length ≤ c0) (hr1 : Kd.C (Kd.int .i64) w A1 l1.length l1) (hc1 : l1.length ≤ c1) (h : conventicleref03_Same.f k l0 l1 = some r) :
    Calls Tryd.prog 42 #[.slice A0 l0.length c0, .slice A1 l1.length c1] w fun e w' => e = .returned (.bool r) ∧ Drawn0 w w' := by
  have HR0 := Aside0.mk hr0
  have HC0 := Aside0.mk hc0
  clear hr0 hc0
  have HR1 := Aside0.mk hr1
  have HC1 := Aside0.mk hc1
  clear hr1 hc1
  have H : (if (l0.length : Int) = (l1.length : Int) then (conventicleref03_Same.l0 k l0 l1 0) else (some false)) = some r := h
  clear h
  by_cases c3 : (l0.length : Int) = (l1.length : Int)
  · rw [if_pos c3] at H
    have c3b0 : ((l0.length : Int) == (l1.length : Int)) = true := beq_iff_eq.mpr c3
    have c3b1 : ((l0.length : Int) != (l1.length : Int)) = false := bne_eq_false_iff_eq.mpr c3
    have c3b2 : (l0.length == l1.length) = true := by first | simpa using c3 | (simp at c3 ⊢; omega)
    clear c3
    have H' := Aside0.mk H
    clear H
    go_enter Tryd.func42, Tryd.ntmps42
    go_wp2
    repeat (go_quiet (fail); try go_wp2)
    go_loopg [5] k (fun kq v5 w' => ∃ (x5_1 : Int), v5 = .int .i64 x5_1 ∧ Aside0 (conventicleref03_Same.l0 kq l0 l1 x5_1 = some r) ∧ Aside0 (kq ≤ k) ∧ Drawn0 w w')
    case atStart => exact ⟨(0), (by first | rfl | (simp; done) | (simp [*]; done)), H', ⟨Nat.le_refl _⟩, by repeat (first | exact Drawn0.refl _ | apply Drawn0.step)⟩
    case round =>
      clear H'
      try clear c1
      try clear p2
      try clear c3
      try clear c3b0
      try clear c3b1
      try clear c3b2
      obtain ⟨x5_1, rfl, HA, HK1, ⟨m1, rfl⟩⟩ := hrel
      cases gk with
      | zero => exact absurd HA.out (by simp [conventicleref03_Same.l0])
      | succ k1 =>
        have H := HA.out
        clear HA
        simp only [conventicleref03_Same.l0] at H
        by_cases c4 : x5_1 < (l0.length : Int)
        · rw [if_pos c4] at H
          have c4b0 : decide (x5_1 < (l0.length : Int)) = true := decide_eq_true c4
          clear c4
          by_cases c5 : 0 ≤ x5_1
          · rw [if_pos c5] at H
            have c5b0 : decide (0 ≤ x5_1) = true := decide_eq_true c5
            clear c5
            by_cases c6 : x5_1 < (l1.length : Int)
            · rw [if_pos c6] at H
              have c6b0 : decide (x5_1 < (l1.length : Int)) = true := decide_eq_true c6
              clear c6
              by_cases c7 : (rd l0 x5_1) = (rd l1 x5_1)
              · rw [if_pos c7] at H
                have c7b0 : ((rd l0 x5_1) == (rd l1 x5_1)) = true := beq_iff_eq.mpr c7
                have c7b1 : ((rd l0 x5_1) != (rd l1 x5_1)) = false := bne_eq_false_iff_eq.mpr c7
                clear c7
                have H' := Aside0.mk H
                clear H
                have p172 : 0 ≤ (x5_1 : Int) := of_decide_eq_true (by first | (with_reducible assumption) | assumption)
                have q172 : x5_1 < (l0.length : Int) := of_decide_eq_true (by first | (with_reducible assumption) | assumption)
                obtain ⟨ad172, e172, hx172_0⟩ := Kd.at_int HR0.out x5_1 p172 q172
                cases e172
                replace p172 := eq_true p172
                replace q172 := eq_true q172
                have p173 : 0 ≤ (x5_1 : Int) := of_decide_eq_true (by first | (with_reducible assumption) | assumption)
                have q173 : x5_1 < (l1.length : Int) := of_decide_eq_true (by first | (with_reducible assumption) | assumption)
                obtain ⟨ad173, e173, hx173_0⟩ := Kd.at_int HR1.out x5_1 p173 q173
                cases e173
                replace p173 := eq_true p173
                replace q173 := eq_true q173
                go_wp2
                repeat (go_quiet (fail); try go_wp2)
                go_roundg k1
                case measure => have := HK1.out; omega
                case rel => exact ⟨(wrap64 (x5_1 + 1)), (by first | rfl | (simp; done) | (simp [*]; done)), H', ⟨by have := HK1.out; omega⟩, by repeat (first | exact Drawn0.refl _ | apply Drawn0.step)⟩
              · rw [if_neg c7] at H
                have c7b0 : ((rd l0 x5_1) == (rd l1 x5_1)) = false := beq_eq_false_iff_ne.mpr c7
                have c7b1 : ((rd l0 x5_1) != (rd l1 x5_1)) = true := bne_iff_ne.mpr c7
                obtain rfl := Option.some.inj H
                have p172 : 0 ≤ (x5_1 : Int) := of_decide_eq_true (by first | (with_reducible assumption) | assumption)
                have q172 : x5_1 < (l0.length : Int) := of_decide_eq_true (by first | (with_reducible assumption) | assumption)
                obtain ⟨ad172, e172, hx172_0⟩ := Kd.at_int HR0.out x5_1 p172 q172
                cases e172
                replace p172 := eq_true p172
                replace q172 := eq_true q172
                have p173 : 0 ≤ (x5_1 : Int) := of_decide_eq_true (by first | (with_reducible assumption) | assumption)
                have q173 : x5_1 < (l1.length : Int) := of_decide_eq_true (by first | (with_reducible assumption) | assumption)
                obtain ⟨ad173, e173, hx173_0⟩ := Kd.at_int HR1.out x5_1 p173 q173
                cases e173
                replace p173 := eq_true p173
                replace q173 := eq_true q173
                go_wp2
                repeat (go_quiet (fail); try go_wp2)
                go_ret
                exact ⟨by first | rfl | (simp; done) | (simp [*]; done), by repeat (first | exact Drawn0.refl _ | apply Drawn0.step)⟩
            · rw [if_neg c6] at H
              exact absurd H (by simp)
          · rw [if_neg c5] at H
            exact absurd H (by simp)
        · rw [if_neg c4] at H
          have c4b0 : decide (x5_1 < (l0.length : Int)) = false := decide_eq_false c4
          clear c4
          obtain rfl := Option.some.inj H
          go_wp2
          repeat (go_quiet (fail); try go_wp2)
          go_ret
          exact ⟨by first | rfl | (simp; done) | (simp [*]; done), by repeat (first | exact Drawn0.refl _ | apply Drawn0.step)⟩
  · rw [if_neg c3] at H
    have c3b0 : ((l0.length : Int) == (l1.length : Int)) = false := beq_eq_false_iff_ne.mpr c3
    have c3b1 : ((l0.length : Int) != (l1.length : Int)) = true := bne_iff_ne.mpr c3
    have c3b2 : (l0.length == l1.length) = false := by first | simpa using c3 | (simp at c3 ⊢; omega)
    obtain rfl := Option.some.inj H
    go_enter Tryd.func42, Tryd.ntmps42
    go_wp2
    repeat (go_quiet (fail); try go_wp2)
    go_ret
    exact ⟨by first | rfl | (simp; done) | (simp [*]; done), by repeat (first | exact Drawn0.refl _ | apply Drawn0.step)⟩


/-! ### conventicleref05_Has: function 62 -/
def conventicleref05_Has.f (a0 : Int) (a1 : Int) : Option (Bool) := (conventicleref05_node.f a1).bind fun t174 => (if t174 = true then (if 0 ≤ a1 then (some ((Go.bits .and .u64 (shr .u64 a0 a1) 1) == 1)) else (none)) else (some false))
set_option maxHeartbeats 8000000 in
set_option maxRecDepth 100000 in
theorem conventicleref05_Has.calls (a0 : Int) (a1 : Int) (r : Bool) (w : World) (h : conventicleref05_Has.f a0 a1 = some r) :
    Calls Tryd.prog 62 #[.int .u64 a0, .int .i64 a1] w fun e w' => e = .returned (.bool r) ∧ Drawn0 w w' := by
  have H : ((conventicleref05_node.f a1).bind fun t174 => (if t174 = true then (if 0 ≤ a1 then (some ((Go.bits .and .u64 (shr .u64 a0 a1) 1) == 1)) else (none)) else (some false))) = some r := h
  clear h
  replace H := Option.bind_eq_some_iff.mp H
  obtain ⟨t174, A30, H⟩ := H
  replace H : (if t174 = true then (if 0 ≤ a1 then (some ((Go.bits .and .u64 (shr .u64 a0 a1) 1) == 1)) else (none)) else (some false)) = some r := H
  have A3 := Aside0.mk A30
  clear A30
  by_cases c4 : t174 = true
  · subst c4
    have H1 : (if 0 ≤ a1 then (some ((Go.bits .and .u64 (shr .u64 a0 a1) 1) == 1)) else (none)) = some r := by rw [if_pos rfl] at H; exact H
    clear H
    have H := H1
    clear H1
    by_cases c5 : 0 ≤ a1
    · rw [if_pos c5] at H
      have c5b0 := eq_true c5
      have c5b1 : decide (0 ≤ a1) = true := decide_eq_true c5
      clear c5
      obtain ⟨ji6, hji6⟩ : ∃ j_ : Int, (shr .u64 a0 a1) = j_ := ⟨_, rfl⟩
      replace H : (some ((Go.bits .and .u64 (ji6) 1) == 1)) = some r := by first | (rw [hji6] at H; exact H) | (simp only [hji6] at H ⊢; exact H)
      (try rw [hji6] at A3)
      have hji6_ : (a0 / 2 ^ min a1.toNat 64) = ji6 := hji6
      have hji6z : a1 ≤ 64 → (a0 / 2 ^ a1.toNat) = ji6 := shr_small hji6
      obtain rfl := Option.some.inj H
      go_enter Tryd.func62, Tryd.ntmps62
      go_wp2_with (first | ((with_reducible refine gate_callee (f := 61) rfl ?_); refine goesL_ (some 6) rfl rfl Tryd.func61 (by kernel_rfl) rfl #[.int .i64 a1] rfl (by (try simp only [List.map_toArray, List.map_cons, List.map_nil]); first | done | rfl | (simp only [List.length_drop, List.length_take]; rfl)) ?_; (with_reducible refine (conventicleref05_node.calls a1 true _ A3.out).mono ?_); rintro e w' ⟨rfl, ⟨nd, rfl⟩⟩; refine ⟨_, rfl, ?_⟩))
      go_ret
      exact ⟨by first | rfl | (simp; done) | (simp only [← hji6] <;> (first | rfl | simp)) | (simp [*]; done), by repeat (first | exact Drawn0.refl _ | apply Drawn0.step)⟩
    · rw [if_neg c5] at H
      exact absurd H (by simp)
  · replace c4 := Bool.eq_false_iff.mpr c4
    subst c4
    have H1 : (some false) = some r := by rw [if_neg (show ¬ (false = true) by decide)] at H; exact H
    clear H
    have H := H1
    clear H1
    obtain rfl := Option.some.inj H
    go_enter Tryd.func62, Tryd.ntmps62
    go_wp2_with (first | ((with_reducible refine gate_callee (f := 61) rfl ?_); refine goesL_ (some 6) rfl rfl Tryd.func61 (by kernel_rfl) rfl #[.int .i64 a1] rfl (by (try simp only [List.map_toArray, List.map_cons, List.map_nil]); first | done | rfl | (simp only [List.length_drop, List.length_take]; rfl)) ?_; (with_reducible refine (conventicleref05_node.calls a1 false _ A3.out).mono ?_); rintro e w' ⟨rfl, ⟨nd, rfl⟩⟩; refine ⟨_, rfl, ?_⟩))
    go_ret
    exact ⟨by first | rfl | (simp; done) | (simp [*]; done), by repeat (first | exact Drawn0.refl _ | apply Drawn0.step)⟩


/-! ### conventicleref05_List: function 54 -/
def conventicleref05_List.l0 : Nat → Int → List Int → Int → Option (List Int)
  | 0, _, _, _ => none
  | k + 1, x0, x3, x4 => if x4 < 64 then ((conventicleref05_Has.f x0 x4).bind fun t178 => (if t178 = true then (if x3.length < 17592186044416 then (conventicleref05_List.l0 k x0 (x3 ++ [x4]) (wrap64 (x4 + 1))) else (none)) else (conventicleref05_List.l0 k x0 x3 (wrap64 (x4 + 1))))) else (some x3)
def conventicleref05_List.f (k : Nat) (a0 : Int) : Option (List Int) := conventicleref05_List.l0 k a0 (([] : List Int)) 0
theorem conventicleref05_List.mono_l : ∀ k, (∀ y0 y1 y2, LeO (conventicleref05_List.l0 k y0 y1 y2) (conventicleref05_List.l0 (k + 1) y0 y1 y2))
  | 0 => fun _ _ _ r h => by simp [conventicleref05_List.l0] at h
  | k + 1 => by
    have ih0 := conventicleref05_List.mono_l k
    · intro y0 y1 y2
      unfold conventicleref05_List.l0
      repeat' first
      | (with_reducible exact ih0 _ _ _)
      | (with_reducible exact LeO.refl _)
      | (with_reducible exact LeO.none _)
      | (with_reducible refine LeO.ite ?_ ?_)
      | (with_reducible refine LeO.bind ?_ (fun _ => ?_))
      | exact ih0 _ _ _
      | exact LeO.none _
      | refine LeO.ite ?_ ?_
      | refine LeO.bind ?_ (fun _ => ?_)
theorem conventicleref05_List.mono : ∀ a0 k, LeO (conventicleref05_List.f k a0) (conventicleref05_List.f (k + 1) a0) := by
  intro a0 k
  have ih0 := conventicleref05_List.mono_l k
  unfold conventicleref05_List.f
  repeat' first
      | (with_reducible exact ih0 _ _ _)
      | (with_reducible exact LeO.refl _)
      | (with_reducible exact LeO.none _)
      | (with_reducible refine LeO.ite ?_ ?_)
      | (with_reducible refine LeO.bind ?_ (fun _ => ?_))
      | exact ih0 _ _ _
      | exact LeO.none _
      | refine LeO.ite ?_ ?_
      | refine LeO.bind ?_ (fun _ => ?_)
set_option maxHeartbeats 8000000 in
set_option maxRecDepth 100000 in
theorem conventicleref05_List.calls (k : Nat) (a0 : Int) (r : List Int) (w : World) (h : conventicleref05_List.f k a0 = some r) :
    Calls Tryd.prog 54 #[.int .u64 a0] w fun e w' => ∃ v0_ : Value, e = .returned (v0_) ∧ Kd.R (Kd.int .i64) 3 w' w.heap.size (fun _ => True) v0_ r ∧ Below w.heap.size w w' := by
  have HB := Aside0.mk (Below.refl w.heap.size w)
  have H : (conventicleref05_List.l0 k a0 (([] : List Int)) 0) = some r := h
  clear h
  obtain ⟨y175, hy175⟩ : ∃ y_ : List Int, y_ = (([] : List Int)) := ⟨_, rfl⟩
  replace H : (conventicleref05_List.l0 k a0 y175 0) = some r := by first | (rw [hy175]; with_reducible exact H) | (have H2_ := (Option.bind_some _ _).symm.trans H; rw [hy175]; with_reducible exact H2_) | (have H2_ := (Option.bind_some _ _).symm.trans H; with_reducible exact H2_) | with_reducible exact H | (rw [hy175]; exact H) | exact H
  have Ny175 := Aside0.mk hy175
  clear hy175
  have H' := Aside0.mk H
  clear H
  go_enter Tryd.func54, Tryd.ntmps54
  go_wp2_with (first | ((with_reducible refine gate_dst (N := 5) rfl ?_); refine Kd.R_lit (Kd.int .i64) _ 3 ?hg (N := 5) ?hd (xs := ([] : List Int)) (inner := []) (ok := fun _ => True) (okp := fun _ => True) ?hr ?hp (fun _ hk => hk) trivial (Below.refl _ _) (Nat.le_refl _) (by simp) ?_; (case hd => rfl); (case hg => rfl); (case hr => first | (go_simp; done) | (go_simp; rfl)); (case hp => exact (Reps.none _ _)); intro v176 w2 ho3 hb hg_ hnew_; clear hg_ hnew_; (first | rw [← Ny175.out] at ho3 | (simp only [Int.reduceToNat] at ho3; rw [← Ny175.out] at ho3)); have n0_ := Aside0.mk (Kd.R_lower ho3 (below_size (by repeat (first | (with_reducible first | exact HB.out | apply below_alloc | apply pw_below_drewN | apply below_drew1) | exact HB.out)))); have n1_ := Aside0.mk (below_step (by repeat (first | (with_reducible first | exact HB.out | apply below_alloc | apply pw_below_drewN | apply below_drew1) | exact HB.out)) hb); clear HB; have HO177 := n0_; have HB := n1_; clear n0_ n1_; clear hb ho3))
  go_loopg [3, 4] k (fun kq v3 v4 w' => ∃ (x3_1 : List Int) (x4_1 : Int), v4 = .int .i64 x4_1 ∧ Aside0 (conventicleref05_List.l0 kq a0 x3_1 x4_1 = some r) ∧ Aside0 (kq ≤ k) ∧ Aside0 (Kd.R (Kd.int .i64) 3 w' w.heap.size (fun _ => True) v3 x3_1) ∧ Aside0 (Below w.heap.size w w'))
  case atStart => exact ⟨(y175), (0), (by first | rfl | (simp; done) | (simp [*]; done)), H', ⟨Nat.le_refl _⟩, ⟨by (with_reducible repeat (first | apply Kd.R_alloc | apply Kd.R_drewN | apply Kd.R_drew)); exact HO177.out⟩, ⟨by repeat (first | (with_reducible first | exact HB.out | apply below_alloc | apply pw_below_drewN | apply below_drew1) | exact HB.out)⟩⟩
  case round =>
    clear H'
    try clear p2
    obtain ⟨x3_1, x4_1, rfl, HA, HK1, HO_3, HB⟩ := hrel
    cases gk with
    | zero => exact absurd HA.out (by simp [conventicleref05_List.l0])
    | succ k1 =>
      have H := HA.out
      clear HA
      simp only [conventicleref05_List.l0] at H
      by_cases c4 : x4_1 < 64
      · rw [if_pos c4] at H
        have c4b0 : decide (x4_1 < 64) = true := decide_eq_true c4
        clear c4
        replace H := Option.bind_eq_some_iff.mp H
        obtain ⟨t178, A50, H⟩ := H
        replace H : (if t178 = true then (if x3_1.length < 17592186044416 then (conventicleref05_List.l0 k1 a0 (x3_1 ++ [x4_1]) (wrap64 (x4_1 + 1))) else (none)) else (conventicleref05_List.l0 k1 a0 x3_1 (wrap64 (x4_1 + 1)))) = some r := H
        have A5 := Aside0.mk A50
        clear A50
        by_cases c6 : t178 = true
        · subst c6
          have H1 : (if x3_1.length < 17592186044416 then (conventicleref05_List.l0 k1 a0 (x3_1 ++ [x4_1]) (wrap64 (x4_1 + 1))) else (none)) = some r := by rw [if_pos rfl] at H; exact H
          clear H
          have H := H1
          clear H1
          by_cases c7 : x3_1.length < 17592186044416
          · rw [if_pos c7] at H
            have LMc7 := Aside0.mk c7
            clear c7
            obtain ⟨y179, hy179⟩ : ∃ y_ : List Int, y_ = (x3_1 ++ [x4_1]) := ⟨_, rfl⟩
            replace H : (conventicleref05_List.l0 k1 a0 y179 (wrap64 (x4_1 + 1))) = some r := by first | (rw [hy179]; with_reducible exact H) | (have H2_ := (Option.bind_some _ _).symm.trans H; rw [hy179]; with_reducible exact H2_) | (have H2_ := (Option.bind_some _ _).symm.trans H; with_reducible exact H2_) | with_reducible exact H | (rw [hy179]; exact H) | exact H
            have Ny179 := Aside0.mk hy179
            clear hy179
            have H' := Aside0.mk H
            clear H
            go_wp2_with (first | ((with_reducible refine gate_callee (f := 62) rfl ?_); refine goesL_ (some 12) rfl rfl Tryd.func62 (by kernel_rfl) rfl #[.int .u64 a0, .int .i64 x4_1] rfl (by (try simp only [List.map_toArray, List.map_cons, List.map_nil]); first | done | rfl | (simp only [List.length_drop, List.length_take]; rfl)) ?_; (with_reducible refine (conventicleref05_Has.calls a0 x4_1 true _ A5.out).mono ?_); rintro e w' ⟨rfl, ⟨nd, rfl⟩⟩; refine ⟨_, rfl, ?_⟩) | ((with_reducible refine gate_builtin (b := .append) (xs := #[.tmp 13, .tmp 15]) rfl ?_); at_builtin; refine Kd.R_append (Kd.int .i64) (w0 := w) w.heap.size rfl (.tmp 13) (.tmp 15) 52 3 (.int .i64 0) 8 rfl Tryd.underlying52 info3 rfl (by decide) (by omega) u3 x3_1 x4_1 [.int .i64 x4_1] (fun _ => True) (fun _ => False) rfl rfl ?aP (fun _ hk => hk.elim) ?aF ?aO ?aB ?aS ?aL ?_; (case aP => exact rfl); (case aB => exact (by repeat (first | (with_reducible first | exact HB.out | apply below_alloc | apply pw_below_drewN | apply below_drew1) | exact HB.out))); (case aF => exact (fun _ _ => trivial)); (case aO => exact (by (with_reducible repeat (first | apply Kd.R_alloc | apply Kd.R_drewN | apply Kd.R_drew)); exact HO_3.out)); (case aS => exact (below_size (by repeat (first | (with_reducible first | exact HB.out | apply below_alloc | apply pw_below_drewN | apply below_drew1) | exact HB.out)))); (case aL => have := LMc7.out; omega); intro v180 w8 ho hb hg hat; rw [← Ny179.out] at ho; have n0_ := Aside0.mk (hb); have n1_ := Aside0.mk (ho); clear HB; clear HO_3; have HB := n0_; have HO181 := n1_; clear n0_ n1_; clear ho hb hg hat))
            go_roundg k1
            case measure => have := HK1.out; omega
            case rel => exact ⟨(y179), (wrap64 (x4_1 + 1)), (by first | rfl | (simp; done) | (simp [*]; done)), H', ⟨by have := HK1.out; omega⟩, ⟨by (with_reducible repeat (first | apply Kd.R_alloc | apply Kd.R_drewN | apply Kd.R_drew)); exact HO181.out⟩, ⟨by repeat (first | (with_reducible first | exact HB.out | apply below_alloc | apply pw_below_drewN | apply below_drew1) | exact HB.out)⟩⟩
          · rw [if_neg c7] at H
            exact absurd H (by simp)
        · replace c6 := Bool.eq_false_iff.mpr c6
          subst c6
          have H1 : (conventicleref05_List.l0 k1 a0 x3_1 (wrap64 (x4_1 + 1))) = some r := by rw [if_neg (show ¬ (false = true) by decide)] at H; exact H
          clear H
          have H := H1
          clear H1
          have H' := Aside0.mk H
          clear H
          go_wp2_with (first | ((with_reducible refine gate_callee (f := 62) rfl ?_); refine goesL_ (some 12) rfl rfl Tryd.func62 (by kernel_rfl) rfl #[.int .u64 a0, .int .i64 x4_1] rfl (by (try simp only [List.map_toArray, List.map_cons, List.map_nil]); first | done | rfl | (simp only [List.length_drop, List.length_take]; rfl)) ?_; (with_reducible refine (conventicleref05_Has.calls a0 x4_1 false _ A5.out).mono ?_); rintro e w' ⟨rfl, ⟨nd, rfl⟩⟩; refine ⟨_, rfl, ?_⟩))
          go_roundg k1
          case measure => have := HK1.out; omega
          case rel => exact ⟨(x3_1), (wrap64 (x4_1 + 1)), (by first | rfl | (simp; done) | (simp [*]; done)), H', ⟨by have := HK1.out; omega⟩, ⟨by (with_reducible repeat (first | apply Kd.R_alloc | apply Kd.R_drewN | apply Kd.R_drew)); exact HO_3.out⟩, ⟨by repeat (first | (with_reducible first | exact HB.out | apply below_alloc | apply pw_below_drewN | apply below_drew1) | exact HB.out)⟩⟩
      · rw [if_neg c4] at H
        have c4b0 : decide (x4_1 < 64) = false := decide_eq_false c4
        clear c4
        obtain rfl := Option.some.inj H
        go_wp2
        go_ret
        exact ⟨_, by first | rfl | (simp [errW_none, errW_some] <;> rfl) | (simp [*, errW_none, errW_some] <;> rfl), by (with_reducible repeat (first | apply Kd.R_alloc | apply Kd.R_drewN | apply Kd.R_drew)); exact HO_3.out, by repeat (first | (with_reducible first | exact HB.out | apply below_alloc | apply pw_below_drewN | apply below_drew1) | exact HB.out)⟩


/-! ### conventicleref05_Less: function 55 -/
def conventicleref05_Less.f (a0 : Int) (a1 : Int) : Option (Int) := (conventicleref05_Has.f a0 a1).bind fun t182 => (if t182 = true then (if 0 ≤ a1 then (some (IntKind.u64.wrap (a0 - (shl .u64 1 a1)))) else (none)) else (some a0))
set_option maxHeartbeats 8000000 in
set_option maxRecDepth 100000 in
theorem conventicleref05_Less.calls (a0 : Int) (a1 : Int) (r : Int) (w : World) (h : conventicleref05_Less.f a0 a1 = some r) :
    Calls Tryd.prog 55 #[.int .u64 a0, .int .i64 a1] w fun e w' => e = .returned (.int .u64 r) ∧ Drawn0 w w' := by
  have H : ((conventicleref05_Has.f a0 a1).bind fun t182 => (if t182 = true then (if 0 ≤ a1 then (some (IntKind.u64.wrap (a0 - (shl .u64 1 a1)))) else (none)) else (some a0))) = some r := h
  clear h
  replace H := Option.bind_eq_some_iff.mp H
  obtain ⟨t182, A30, H⟩ := H
  replace H : (if t182 = true then (if 0 ≤ a1 then (some (IntKind.u64.wrap (a0 - (shl .u64 1 a1)))) else (none)) else (some a0)) = some r := H
  have A3 := Aside0.mk A30
  clear A30
  by_cases c4 : t182 = true
  · subst c4
    have H1 : (if 0 ≤ a1 then (some (IntKind.u64.wrap (a0 - (shl .u64 1 a1)))) else (none)) = some r := by rw [if_pos rfl] at H; exact H
    clear H
    have H := H1
    clear H1
    by_cases c5 : 0 ≤ a1
    · rw [if_pos c5] at H
      have c5b0 := eq_true c5
      have c5b1 : decide (0 ≤ a1) = true := decide_eq_true c5
      clear c5
      obtain ⟨ji6, hji6⟩ : ∃ j_ : Int, (shl .u64 1 a1) = j_ := ⟨_, rfl⟩
      replace H : (some (IntKind.u64.wrap (a0 - (ji6)))) = some r := by first | (rw [hji6] at H; exact H) | (simp only [hji6] at H ⊢; exact H)
      (try rw [hji6] at A3)
      have hji6_ : (IntKind.u64.wrap (1 * 2 ^ min a1.toNat 64)) = ji6 := hji6
      have hji6z : a1 ≤ 64 → (IntKind.u64.wrap (1 * 2 ^ a1.toNat)) = ji6 := shl_small hji6
      have hji6u : (IntKind.u64.wrap (2 ^ min a1.toNat 64)) = ji6 := by have h_ := hji6_; rw [Int.one_mul] at h_; exact h_
      have hji6v : a1 ≤ 64 → (IntKind.u64.wrap (2 ^ a1.toNat)) = ji6 := fun hle_ => by have h_ := hji6z hle_; rw [Int.one_mul] at h_; exact h_
      obtain rfl := Option.some.inj H
      go_enter Tryd.func55, Tryd.ntmps55
      go_wp2_with (first | ((with_reducible refine gate_callee (f := 62) rfl ?_); refine goesL_ (some 7) rfl rfl Tryd.func62 (by kernel_rfl) rfl #[.int .u64 a0, .int .i64 a1] rfl (by (try simp only [List.map_toArray, List.map_cons, List.map_nil]); first | done | rfl | (simp only [List.length_drop, List.length_take]; rfl)) ?_; (with_reducible refine (conventicleref05_Has.calls a0 a1 true _ A3.out).mono ?_); rintro e w' ⟨rfl, ⟨nd, rfl⟩⟩; refine ⟨_, rfl, ?_⟩))
      go_ret
      exact ⟨by first | rfl | (simp; done) | (simp only [← hji6] <;> (first | rfl | simp)) | (simp [*]; done), by repeat (first | exact Drawn0.refl _ | apply Drawn0.step)⟩
    · rw [if_neg c5] at H
      exact absurd H (by simp)
  · replace c4 := Bool.eq_false_iff.mpr c4
    subst c4
    have H1 : (some a0) = some r := by rw [if_neg (show ¬ (false = true) by decide)] at H; exact H
    clear H
    have H := H1
    clear H1
    obtain rfl := Option.some.inj H
    go_enter Tryd.func55, Tryd.ntmps55
    go_wp2_with (first | ((with_reducible refine gate_callee (f := 62) rfl ?_); refine goesL_ (some 7) rfl rfl Tryd.func62 (by kernel_rfl) rfl #[.int .u64 a0, .int .i64 a1] rfl (by (try simp only [List.map_toArray, List.map_cons, List.map_nil]); first | done | rfl | (simp only [List.length_drop, List.length_take]; rfl)) ?_; (with_reducible refine (conventicleref05_Has.calls a0 a1 false _ A3.out).mono ?_); rintro e w' ⟨rfl, ⟨nd, rfl⟩⟩; refine ⟨_, rfl, ?_⟩))
    go_ret
    exact ⟨by first | rfl | (simp; done) | (simp [*]; done), by repeat (first | exact Drawn0.refl _ | apply Drawn0.step)⟩

end Go.Proofs.YtkkcnhfbcophiaaDoor.B
namespace Go.Proofs.YtkkcnhfbcophiaaDoor.Band
open Go Go.RowKit Go.Proofs.YtkkcnhfbcophiaaDoor.B Go.Proofs.YtkkcnhfbcophiaaDoorW.PrintWords Go.Proofs.YtkkcnhfbcophiaaDoorW.PrintLast Go.Proofs.YtkkcnhfbcophiaaDoorW.PrintMore
theorem node_run (n : Int) : conventicleref05_node.f n = some (decide (0 ≤ n ∧ n ≤ 63)) := by
  unfold conventicleref05_node.f
  by_cases h : n ≥ 0
  · rw [if_pos h]; congr 1; rw [decide_eq_decide]; omega
  · rw [if_neg h]; congr 1; symm; rw [decide_eq_false_iff_not]; omega
theorem rhas_run (c : Nat) (hc : c < 18446744073709551616) (n : Int) : conventicleref05_Has.f c n = some (hasN c n) := by
  unfold conventicleref05_Has.f
  rw [node_run]
  simp only [Option.bind_some]
  unfold hasN
  by_cases h : 0 ≤ n ∧ n ≤ 63
  · rw [decide_eq_true h, if_pos rfl, if_pos h.1]
    unfold shr
    rw [show IntKind.u64.bits = 64 from rfl, Nat.min_eq_left (by omega)]
    have e : (c : Int) / 2 ^ n.toNat = ((c / 2 ^ n.toNat : Nat) : Int) := by simp
    have hl : c / 2 ^ n.toNat < 18446744073709551616 := Nat.lt_of_le_of_lt (Nat.div_le_self _ _) hc
    have e1 := bits_and_u64_nat (c / 2 ^ n.toNat) 1 hl (by decide)
    rw [e, show (1 : Int) = ((1 : Nat) : Int) from rfl, e1, Nat.and_one_is_mod, Nat.testBit_eq_decide_div_mod_eq, Bool.true_and]
    congr 1
    generalize c / 2 ^ n.toNat % 2 = t
    by_cases ht : t = 1
    · subst ht; rfl
    · rw [decide_eq_false ht, beq_eq_false_iff_ne]; omega
  · rw [decide_eq_false h, if_neg (by decide), Bool.false_and]
theorem rwith_run (c : Nat) (hc : c < 18446744073709551616) (n : Int) : conventicleref05_With.f c n = some ((c ||| bitN n : Nat) : Int) := by
  unfold conventicleref05_With.f
  rw [node_run]
  simp only [Option.bind_some]
  by_cases h : 0 ≤ n ∧ n ≤ 63
  · rw [decide_eq_true h, if_pos rfl, if_pos h.1, shl_one n h.1 h.2]
    have := bitN_lt n
    unfold bitN at this ⊢
    rw [if_pos h] at this ⊢
    rw [bits_or_u64_nat c _ hc this]
  · rw [decide_eq_false h, if_neg (by decide)]
    unfold bitN
    rw [if_neg h, Nat.or_zero]
theorem rlist_run (c : Nat) (hc : c < 18446744073709551616) : ∀ k, conventicleref05_List.f (65 + k) c = some (bandL c) := by
  intro k
  unfold conventicleref05_List.f
  have loop : ∀ n j : Nat, j + n = 64 → conventicleref05_List.l0 (n + 1 + k) c (((List.range j).filter (fun i => c.testBit i)).map Int.ofNat) j = some (bandL c) := by
    intro n
    induction n with
    | zero =>
      intro j hj
      obtain rfl : j = 64 := by omega
      rw [show 0 + 1 + k = k + 1 from by omega, conventicleref05_List.l0, if_neg (by decide)]
      rfl
    | succ n ih =>
      intro j hj
      have hl : (((List.range j).filter (fun i => c.testBit i)).map Int.ofNat).length ≤ 64 := by
        rw [List.length_map]
        have := List.length_filter_le (fun i => c.testBit i) (List.range j)
        rw [List.length_range] at this
        omega
      rw [show n + 1 + 1 + k = (n + 1 + k) + 1 from by omega, conventicleref05_List.l0, if_pos (by omega), rhas_run c hc]
      simp only [Option.bind_some]
      rw [show wrap64 ((j : Int) + 1) = ((j + 1 : Nat) : Int) from by unfold wrap64; omega]
      have h := ih (j + 1) (by omega)
      rw [List.range_succ, List.filter_append, List.map_append] at h
      have e : hasN c j = c.testBit j := by unfold hasN; rw [decide_eq_true (by omega), Bool.true_and]; rfl
      rw [e]
      by_cases hb : c.testBit j = true
      · rw [if_pos hb, if_pos (by omega)]
        rw [List.filter_cons, if_pos hb] at h
        exact h
      · rw [if_neg hb]
        rw [List.filter_cons, if_neg hb] at h
        simpa using h
  have := loop 64 0 rfl
  rw [show 65 + k = 64 + 1 + k from rfl]
  exact this
theorem clr_pow (c k : Nat) (hc : c < 18446744073709551616) (hk : k ≤ 63) (h : c.testBit k = true) : c - 2 ^ k = clr c (2 ^ k) := by
  have hp : 0 < 2 ^ k := Nat.two_pow_pos k
  have h1 : c / 2 ^ k % 2 = 1 := by
    rw [Nat.testBit_eq_decide_div_mod_eq, decide_eq_true_iff] at h
    exact h
  obtain ⟨q, hq⟩ : ∃ q, c / 2 ^ k = 2 * q + 1 := ⟨c / 2 ^ k / 2, by omega⟩
  have hr : c % 2 ^ k < 2 ^ k := Nat.mod_lt _ hp
  have e : c = 2 ^ k * (2 * q + 1) + c % 2 ^ k := by rw [← hq]; exact (Nat.div_add_mod c (2 ^ k)).symm
  generalize c % 2 ^ k = r at hr e
  have e2 : c - 2 ^ k = 2 ^ k * (2 * q) + r := by rw [e, Nat.mul_add, Nat.mul_one]; omega
  refine eq_of_bits (Nat.lt_of_le_of_lt (Nat.sub_le _ _) hc) (clr_lt _ _ hc) (fun i hi => ?_)
  rw [clr_bit c (2 ^ k) (two_pow_lt k hk) i hi, e2, e, Nat.testBit_two_pow_mul_add _ hr, Nat.testBit_two_pow_mul_add _ hr, Nat.testBit_two_pow]
  by_cases hik : i < k
  · rw [if_pos hik, if_pos hik, decide_eq_false (by omega)]; simp
  · rw [if_neg hik, if_neg hik]
    by_cases h0 : i = k
    · subst h0
      rw [Nat.sub_self, decide_eq_true rfl]
      simp
    · obtain ⟨m, hm⟩ : ∃ m, i - k = m + 1 := ⟨i - k - 1, by omega⟩
      rw [hm, Nat.testBit_succ, Nat.testBit_succ, decide_eq_false (by omega), show 2 * q / 2 = q by omega, show (2 * q + 1) / 2 = q by omega]
      simp
theorem rless_run (c : Nat) (hc : c < 18446744073709551616) (n : Int) : conventicleref05_Less.f c n = some ((clr c (bitN n) : Nat) : Int) := by
  unfold conventicleref05_Less.f
  rw [rhas_run c hc]
  simp only [Option.bind_some]
  by_cases h : 0 ≤ n ∧ n ≤ 63
  · by_cases hb : c.testBit n.toNat = true
    · have hh : hasN c n = true := by unfold hasN; rw [decide_eq_true h, Bool.true_and]; exact hb
      rw [hh, if_pos rfl, if_pos h.1, shl_one n h.1 h.2]
      have e := clr_pow c n.toNat hc (by omega) hb
      have hle : 2 ^ n.toNat ≤ c := Nat.ge_two_pow_of_testBit hb
      have e2 : (c : Int) - ((2 ^ n.toNat : Nat) : Int) = ((c - 2 ^ n.toNat : Nat) : Int) := by omega
      have e3 : bitN n = 2 ^ n.toNat := by unfold bitN; rw [if_pos h]
      rw [e2, u64_cast _ (Nat.lt_of_le_of_lt (Nat.sub_le _ _) hc), e, e3]
    · have hh : hasN c n = false := by unfold hasN; rw [decide_eq_true h, Bool.true_and]; simpa using hb
      rw [hh, if_neg (by decide)]
      have : clr c (bitN n) = c := eq_of_bits (clr_lt _ _ hc) hc (fun i hi => by
        rw [clr_bit _ _ (bitN_lt n) i hi, bitN_bit]
        by_cases e : n = i
        · have : i = n.toNat := by omega
          subst this
          rw [Bool.eq_false_iff.2 hb]; rfl
        · rw [decide_eq_false (by omega)]; simp)
      rw [this]
  · have hh : hasN c n = false := by unfold hasN; rw [decide_eq_false h, Bool.false_and]
    rw [hh, if_neg (by decide)]
    have e3 : bitN n = 0 := by unfold bitN; rw [if_neg h]
    have : clr c 0 = c := eq_of_bits (clr_lt _ _ hc) hc (fun i hi => by rw [clr_bit _ _ (by decide) i hi]; simp)
    rw [e3, this]
end Go.Proofs.YtkkcnhfbcophiaaDoor.Band
end
section
set_option linter.unusedVariables false
namespace Go.Proofs.YtkkcnhfbcophiaaDoor.Pure
open Go.RowKit Go.Proofs.YtkkcnhfbcophiaaDoor.B Go.Proofs.YtkkcnhfbcophiaaDoor.Band Go.Proofs.YtkkcnhfbcophiaaDoorW.PrintWords Go.Proofs.YtkkcnhfbcophiaaDoorW.PrintLast

theorem allL_okU {R : RollS} {k : Nat} {i : Int} (h : RV R k i) : ∀ u ∈ allL R, OkU u := fun u hu => by
  obtain ⟨n, hn, hb, rfl⟩ := mem_allL.1 hu
  exact h.okU n
theorem allL_heard {R S : RollS} {k o : Nat} {i j : Int} (hR : RV R k i) (hS : RV S o j) (h : ∀ u ∈ allL R, mayS u = false ∨ knows S u) (n : Nat) (hn : n < 64) (hb : hasN R.has n = true) : knows S (R.K n) := by
  rcases h _ (mem_allL.2 ⟨n, hn, hb, rfl⟩) with h1 | h1
  · rw [hR.may n hn hb] at h1; cases h1
  · exact h1
theorem hasN_bit {c i : Nat} (hi : i < 64) : hasN c i = c.testBit i := by
  unfold hasN
  rw [Int.toNat_natCast, decide_eq_true (show (0 : Int) ≤ (i : Int) ∧ (i : Int) ≤ 63 by omega), Bool.true_and]
theorem allL_length (R : RollS) : (allL R).length = (bandL R.has).length := by unfold allL; rw [List.length_map]
theorem rd31_get (l : List S31) (j : Nat) (h : j < l.length) : rd_T31 l (j : Int) = l[j] := by
  unfold rd_T31
  rw [Int.toNat_natCast, List.getD_eq_getElem?_getD, List.getElem?_eq_getElem h]; rfl
theorem allL_at {R : RollS} {k : Nat} {i : Int} (h : RV R k i) (j : Nat) (hj : j < (allL R).length) : ∃ n : Nat, n < 64 ∧ hasN R.has n = true ∧ (bandL R.has)[j]'(by rw [← allL_length]; exact hj) = n ∧ rd_T31 (allL R) j = R.K n ∧ (rd_T31 (allL R) j).f0 = n ∧ 0 ≤ (rd_T31 (allL R) j).f2 ∧ getR R (rd_T31 (allL R) j).f0 = (rd_T31 (allL R) j, true) := by
  have hj' : j < (bandL R.has).length := by rw [← allL_length]; exact hj
  obtain ⟨n, hn, hb, e⟩ := (mem_bandL _ _).1 (List.getElem_mem hj')
  have hh : hasN R.has n = true := by rw [hasN_bit hn]; exact hb
  have e1 : rd_T31 (allL R) j = R.K n := by
    rw [rd31_get _ _ hj]
    have := List.getElem_map (fun n : Int => R.K n.toNat) (l := bandL R.has) (i := j) (h := by rw [List.length_map]; exact hj')
    rw [e, Int.toNat_natCast] at this
    exact this
  have o := h.own n hn hh
  refine ⟨n, hn, hh, e, e1, by rw [e1]; exact o.1, by rw [e1]; exact o.2.1, ?_⟩
  rw [e1, o.1]
  unfold getR
  rw [if_pos hh, Int.toNat_natCast]
theorem allL_sorted {R : RollS} {k : Nat} {i : Int} (h : RV R k i) (j : Nat) (hj : j + 1 < (allL R).length) : (rd_T31 (allL R) j).f0 < (rd_T31 (allL R) (j + 1 : Nat)).f0 := by
  obtain ⟨n, _, _, e, _, e1, _⟩ := allL_at h j (by omega)
  obtain ⟨m, _, _, f, _, f1, _⟩ := allL_at h (j + 1) hj
  rw [e1, f1, ← e, ← f]
  exact List.pairwise_iff_getElem.1 (bandL_sorted R.has) _ _ _ _ (by omega)
theorem live_bits (l : List S31) (i : Nat) (hi : i < 64) : ∀ b : Nat, (l.foldl (fun b u => if isLive u = true then b ||| bitN u.f0 else b) b).testBit i = (b.testBit i || l.any (fun u => isLive u && decide (u.f0 = i))) := by
  induction l with
  | nil => intro b; simp
  | cons u l ih =>
    intro b
    rw [List.foldl_cons, ih, List.any_cons]
    cases hu : isLive u
    · rw [if_neg (by decide), Bool.false_and, Bool.false_or]
    · rw [if_pos rfl, Nat.testBit_or, bitN_bit, Bool.true_and, Bool.or_assoc]
      congr 2
      rw [decide_eq_decide]
      omega
theorem liveN_bit {R : RollS} {k : Nat} {i : Int} (h : RV R k i) (n : Nat) (hn : n < 64) : (liveN (allL R)).testBit n = (R.has.testBit n && isLive (R.K n)) := by
  unfold liveN
  rw [live_bits _ n hn, Nat.zero_testBit, Bool.false_or, ← hasN_bit hn, Bool.eq_iff_iff, List.any_eq_true, Bool.and_eq_true]
  constructor
  · rintro ⟨u, hu, hq⟩
    rw [Bool.and_eq_true, decide_eq_true_iff] at hq
    obtain ⟨m, hm, hb, rfl⟩ := mem_allL.1 hu
    have := (h.own m hm hb).1
    obtain rfl : m = n := by omega
    exact ⟨hb, hq.1⟩
  · rintro ⟨hb, hq⟩
    exact ⟨R.K n, mem_allL.2 ⟨n, hn, hb, rfl⟩, by rw [hq, (h.own n hn hb).1]; simp⟩
theorem liveN_own {R : RollS} {k : Nat} {i : Int} (h : RV R k i) : (liveN (allL R)).testBit k = true := by
  rw [liveN_bit h k h.k64, ← hasN_bit h.k64, h.has, h.inv.mine]
  rfl
def deadN (l : List S31) : Nat := l.countP (fun u => decide (1 < u.f2))
theorem deadN_take (l : List S31) (k : Nat) (hk : k < l.length) : deadN (l.take (k + 1)) = if 1 < (rd_T31 l (k : Int)).f2 then deadN (l.take k) + 1 else deadN (l.take k) := by
  rw [rd31_get l k hk]
  unfold deadN
  rw [List.take_succ_eq_append_getElem hk, List.countP_append, List.countP_singleton]
  by_cases h : 1 < l[k].f2
  · rw [if_pos h, if_pos (decide_eq_true h)]
  · rw [if_neg h, if_neg (by rw [decide_eq_false h]; decide)]; rfl
theorem deadN_le (l : List S31) : deadN l ≤ l.length := List.countP_le_length
theorem part_count (p : Int → Bool) (k : Int) (hk : p k = true) : ∀ l : List Int, (l.filter (fun x => p x && !decide (x = k))).length + l.countP (fun x => !p x) + l.countP (fun x => decide (x = k)) = l.length
  | [] => rfl
  | x :: l => by
    have ih := part_count p k hk l
    rw [List.filter_cons, List.countP_cons, List.countP_cons, List.length_cons]
    by_cases e : x = k
    · subst e
      rw [hk]
      simp only [decide_true, Bool.not_true, Bool.and_false, if_true]
      simp only [Bool.false_eq_true, if_false]
      omega
    · rw [decide_eq_false e]
      cases hp : p x
      · simp only [Bool.not_false, Bool.false_and, if_true, Bool.false_eq_true, if_false]; omega
      · simp only [Bool.not_true, Bool.not_false, Bool.true_and, if_true, Bool.false_eq_true, if_false, List.length_cons]; omega
theorem count_zero (k : Int) : ∀ l : List Int, (∀ x ∈ l, k < x) → l.countP (fun x => decide (x = k)) = 0 := by
  intro l h
  rw [List.countP_eq_zero]
  intro x hx
  have := h x hx
  simp only [decide_eq_true_eq]
  omega
theorem count_one (k : Int) : ∀ l : List Int, l.Pairwise (· < ·) → k ∈ l → l.countP (fun x => decide (x = k)) = 1
  | [], _, h => by simp at h
  | x :: l, hs, h => by
    rw [List.pairwise_cons] at hs
    rw [List.countP_cons]
    by_cases e : x = k
    · subst e
      rw [if_pos (by simp), count_zero x l hs.1]
    · rw [if_neg (by simp [e]), count_one k l hs.2 ((List.mem_cons.1 h).resolve_left (Ne.symm e))]
theorem others_len {R : RollS} {k : Nat} {i : Int} (h : RV R k i) : (othersL R).length + deadN (allL R) + 1 = (allL R).length := by
  have hk := h.k64
  have e1 : othersL R = (bandL R.has).filter (fun x => isLive (R.K x.toNat) && !decide (x = (k : Int))) := by
    unfold othersL
    rw [bandL_filter _ R.has (fun n => isLive (R.K n) && !decide (n = k))]
    · apply List.filter_congr
      intro x hx
      obtain ⟨n, hn, _, rfl⟩ := (mem_bandL _ _).1 hx
      rw [Int.toNat_natCast]
      congr 2
      rw [decide_eq_decide]
      omega
    · intro n hn
      rw [clr_bit _ _ (bitN_lt _) n hn, liveN_bit h n hn, h.inv.me, bitN_bit, Bool.and_assoc]
      congr 3
      rw [decide_eq_decide]
      omega
  have e2 : deadN (allL R) = (bandL R.has).countP (fun x => !isLive (R.K x.toNat)) := by
    unfold deadN allL
    rw [List.countP_map]
    apply List.countP_congr
    intro x hx
    obtain ⟨n, hn, hb, rfl⟩ := (mem_bandL _ _).1 hx
    have o := h.own n hn (by rw [hasN_bit hn]; exact hb)
    simp only [Function.comp, Int.toNat_natCast, decide_eq_true_eq, isLive, Bool.not_eq_true', decide_eq_false_iff_not]
    omega
  have hm : (k : Int) ∈ bandL R.has := (mem_bandL _ _).2 ⟨k, hk, by rw [← hasN_bit hk]; exact h.has, rfl⟩
  have e3 := count_one (k : Int) (bandL R.has) (bandL_sorted _) hm
  have e4 := part_count (fun x => isLive (R.K x.toNat)) (k : Int) (by show isLive (R.K (Int.toNat (k : Int))) = true; rw [Int.toNat_natCast, h.inv.mine]; rfl) (bandL R.has)
  rw [e1, e2, allL_length]
  omega
end Go.Proofs.YtkkcnhfbcophiaaDoor.Pure
end
section
set_option linter.unusedVariables false
namespace Go.Proofs.YtkkcnhfbcophiaaDoor.Pure
open Go.RowKit Go.Proofs.YtkkcnhfbcophiaaDoor.B Go.Proofs.YtkkcnhfbcophiaaDoor.Band Go.Proofs.YtkkcnhfbcophiaaDoorW.PrintWords Go.Proofs.YtkkcnhfbcophiaaDoorW.PrintLast

def nodesL (l : List S31) : List Int := l.map (·.f0)
/-- where it stands -/
def dIdx (l : List S31) (n : Int) : Option Nat := (nodesL l).findIdx? (fun x => x == n)
def dGet (l : List S31) (n : Int) : S31 × Bool := match dIdx l n with
  | some j => (l.getD j z31, true)
  | none => (z31, false)
def dPut (l : List S31) (u : S31) : List S31 := match dIdx l u.f0 with
  | some j => l.set j u
  | none => l ++ [u]
theorem dIdx_at (l : List S31) (n : Int) (j : Nat) (hj : j < l.length) (he : l[j].f0 = n) (hno : ∀ i (h : i < l.length), i < j → l[i].f0 ≠ n) : dIdx l n = some j := by
  unfold dIdx nodesL
  rw [List.findIdx?_eq_some_iff_getElem]
  refine ⟨by rw [List.length_map]; exact hj, by rw [List.getElem_map]; simp [he], fun i hi => ?_⟩
  rw [List.getElem_map]
  simp [hno i (by omega) hi]
theorem dIdx_no (l : List S31) (n : Int) (hno : ∀ i (h : i < l.length), l[i].f0 ≠ n) : dIdx l n = none := by
  unfold dIdx nodesL
  rw [List.findIdx?_eq_none_iff]
  intro x hx
  obtain ⟨u, hu, rfl⟩ := List.mem_map.1 hx
  obtain ⟨i, hi, rfl⟩ := List.getElem_of_mem hu
  simp [hno i hi]
theorem dIdx_some {l : List S31} {n : Int} {j : Nat} (h : dIdx l n = some j) : ∃ hj : j < l.length, l[j].f0 = n := by
  unfold dIdx nodesL at h
  rw [List.findIdx?_eq_some_iff_getElem] at h
  obtain ⟨hj, he, -⟩ := h
  rw [List.length_map] at hj
  refine ⟨hj, ?_⟩
  rw [List.getElem_map] at he
  simpa using he
theorem dGet_at (l : List S31) (n : Int) (j : Nat) (hj : j < l.length) (he : l[j].f0 = n) (hno : ∀ i (h : i < l.length), i < j → l[i].f0 ≠ n) : dGet l n = (l[j], true) := by
  unfold dGet
  rw [dIdx_at l n j hj he hno]
  simp [hj]
theorem dGet_no (l : List S31) (n : Int) (hno : ∀ i (h : i < l.length), l[i].f0 ≠ n) : dGet l n = (z31, false) := by
  unfold dGet
  rw [dIdx_no l n hno]
theorem dPut_at (l : List S31) (u : S31) (j : Nat) (hj : j < l.length) (he : l[j].f0 = u.f0) (hno : ∀ i (h : i < l.length), i < j → l[i].f0 ≠ u.f0) : dPut l u = l.set j u := by
  unfold dPut
  rw [dIdx_at l _ j hj he hno]
theorem dPut_no (l : List S31) (u : S31) (hno : ∀ i (h : i < l.length), l[i].f0 ≠ u.f0) : dPut l u = l ++ [u] := by
  unfold dPut
  rw [dIdx_no l _ hno]
theorem dPut_len (l : List S31) (u : S31) : (dPut l u).length ≤ l.length + 1 := by
  unfold dPut
  split
  · rw [List.length_set]; omega
  · simp
theorem nodes_set (l : List S31) (j : Nat) (u : S31) (hj : j < l.length) (he : l[j].f0 = u.f0) : nodesL (l.set j u) = nodesL l := by
  unfold nodesL
  rw [List.map_set]
  apply List.ext_getElem?
  intro i
  rw [List.getElem?_set]
  by_cases e : j = i
  · subst e
    rw [if_pos rfl, if_pos (by rw [List.length_map]; exact hj), List.getElem?_map, List.getElem?_eq_getElem hj]
    simp [he]
  · rw [if_neg e]
/-- what the put list gives -/
theorem dGet_put (l : List S31) (u : S31) (n : Int) : dGet (dPut l u) n = if n = u.f0 then (u, true) else dGet l n := by
  cases h : dIdx l u.f0 with
  | some j =>
    obtain ⟨hj, he⟩ := dIdx_some h
    have e1 : dPut l u = l.set j u := by unfold dPut; rw [h]
    have e2 : ∀ m, dIdx (l.set j u) m = dIdx l m := fun m => by unfold dIdx; rw [nodes_set l j u hj he]
    rw [e1]
    unfold dGet
    rw [e2]
    by_cases e : n = u.f0
    · rw [if_pos e, e, h]
      simp [hj]
    · rw [if_neg e]
      cases h2 : dIdx l n with
      | none => rfl
      | some i =>
        obtain ⟨hi, he2⟩ := dIdx_some h2
        have : j ≠ i := by
          rintro rfl
          exact e (he2.symm.trans he)
        dsimp only
        rw [List.getD_eq_getElem?_getD, List.getD_eq_getElem?_getD, List.getElem?_set_ne this]
  | none =>
    have e1 : dPut l u = l ++ [u] := by unfold dPut; rw [h]
    rw [e1]
    unfold dGet
    have e2 : dIdx (l ++ [u]) n = (dIdx l n).or (if u.f0 == n then some l.length else none) := by
      unfold dIdx nodesL
      rw [List.map_append, List.findIdx?_append]
      congr 1
      simp only [List.map_cons, List.map_nil, List.findIdx?_cons, List.findIdx?_nil, List.length_map]
      split <;> simp
    rw [e2]
    by_cases e : n = u.f0
    · rw [if_pos e, e, h]
      simp
    · rw [if_neg e]
      have : (u.f0 == n) = false := beq_eq_false_iff_ne.2 (Ne.symm e)
      rw [this]
      cases h2 : dIdx l n with
      | none => rfl
      | some i =>
        obtain ⟨hi, -⟩ := dIdx_some h2
        simp [hi, List.getElem?_append_left hi]
theorem dIdx_append (l : List S31) (u : S31) (n : Int) : dIdx (l ++ [u]) n = (dIdx l n).or (if u.f0 == n then some l.length else none) := by
  unfold dIdx nodesL
  rw [List.map_append, List.findIdx?_append]
  congr 1
  simp only [List.map_cons, List.map_nil, List.findIdx?_cons, List.findIdx?_nil, List.length_map]
  split <;> simp
/-- the document's roll knows what the roll knows -/
structure DRel (R : RollS) (l : List S31) : Prop where
  get : ∀ n, dGet l n = getR R n
  uniq : ∀ i (h : i < l.length), dIdx l l[i].f0 = some i
theorem DRel.mem_get {R : RollS} {l : List S31} (h : DRel R l) {u : S31} (hu : u ∈ l) : getR R u.f0 = (u, true) := by
  obtain ⟨i, hi, rfl⟩ := List.getElem_of_mem hu
  rw [← h.get]
  unfold dGet
  rw [h.uniq i hi]
  simp [hi]
theorem DRel.put {R : RollS} {l : List S31} (h : DRel R l) (u : S31) (hm : mayS u = true) : DRel (R.put u) (dPut l u) := by
  have hx := may_iff.1 hm
  obtain ⟨m, hm0, hm64⟩ := may_node hm
  refine ⟨fun n => ?_, ?_⟩
  · rw [dGet_put, h.get]
    by_cases e : n = u.f0
    · rw [if_pos e, e]
      have hh : hasN (R.put u).has u.f0 = true := by rw [hm0, hasN_put _ _ m hm64, decide_eq_true hm0, Bool.or_true]
      unfold getR
      rw [if_pos hh, put_K, if_pos rfl]
    · rw [if_neg e]
      by_cases hr : 0 ≤ n ∧ n ≤ 63
      · obtain ⟨i, rfl⟩ : ∃ i : Nat, n = i := ⟨n.toNat, by omega⟩
        have hne : ¬ i = u.f0.toNat := by omega
        unfold getR
        rw [hasN_put _ _ i (by omega), decide_eq_false (fun e2 => e e2.symm), Bool.or_false, Int.toNat_natCast, put_K, if_neg hne]
      · unfold getR hasN
        rw [decide_eq_false hr, Bool.false_and, if_neg (by decide), Bool.false_and, if_neg (by decide)]
  · cases hi : dIdx l u.f0 with
    | some j =>
      obtain ⟨hj, he⟩ := dIdx_some hi
      have e1 : dPut l u = l.set j u := by unfold dPut; rw [hi]
      rw [e1]
      intro i hil
      rw [List.length_set] at hil
      have e2 : (l.set j u)[i].f0 = l[i].f0 := by
        rw [List.getElem_set]
        by_cases hji : j = i
        · subst hji; rw [if_pos rfl, he]
        · rw [if_neg hji]
      have e3 := h.uniq i hil
      unfold dIdx at e3 ⊢
      rw [nodes_set l j u hj he, e2]
      exact e3
    | none =>
      have e1 : dPut l u = l ++ [u] := by unfold dPut; rw [hi]
      rw [e1]
      intro i hil
      rw [dIdx_append]
      by_cases hlt : i < l.length
      · rw [List.getElem_append_left hlt, h.uniq i hlt]; rfl
      · have : i = l.length := by rw [List.length_append, List.length_singleton] at hil; omega
        subst this
        rw [List.getElem_append_right (Nat.le_refl _)]
        simp [hi]
theorem DRel.new (k : Nat) (hk : k < 64) : DRel (newR k) [⟨k, 0, 0⟩] := by
  have h0 : DRel (roll0 (k : Int)) [] := ⟨fun n => by
    unfold dGet getR hasN roll0
    simp [dIdx, nodesL], fun i h => by simp at h⟩
  have := h0.put ⟨k, 0, 0⟩ (may_iff.2 (show 0 ≤ (k : Int) ∧ (k : Int) < 64 ∧ (0 : Int) ≤ 0 ∧ (0 : Int) ≤ 3 from by omega))
  exact this
/-- what is heard -/
def dHear (me : Int) (l : List S31) (u : S31) : List S31 × Bool × Int :=
  if mayS u = true then
    if u.f0 = me then
      let q := refute me (dGet l u.f0).1.f1 u.f0 u.f1 u.f2
      if q.2.2 = 0 then (if q.2.1 = true then (dPut l ⟨me, q.1, 0⟩, false, 0) else (l, false, 70)) else (l, false, q.2.2)
    else if (dGet l u.f0).2 = true ∧ newerS u (dGet l u.f0).1 = false then (l, false, 70)
    else (dPut l u, true, 0)
  else (l, false, 1)
theorem hear_rel {R : RollS} {k : Nat} {i : Int} (hV : RV R k i) {l : List S31} (h : DRel R l) (u : S31) :
    (dHear k l u).2 = (hearR R u).2 ∧ DRel (hearR R u).1 (dHear k l u).1 := by
  unfold dHear hearR
  by_cases hm : mayS u = true
  · rw [if_pos hm, if_pos hm, hV.inv.me]
    by_cases hf : u.f0 = (k : Int)
    · rw [if_pos hf, if_pos hf]
      have e1 : dGet l u.f0 = (R.K k, true) := by
        rw [h.get, hf]
        unfold getR
        rw [if_pos hV.has, Int.toNat_natCast]
      rw [e1, Int.toNat_natCast]
      dsimp only
      generalize refute (k : Int) (R.K k).f1 u.f0 u.f1 u.f2 = q
      split
      · split
        · refine ⟨rfl, h.put _ (may_iff.2 (show 0 ≤ (k : Int) ∧ (k : Int) < 64 ∧ (0 : Int) ≤ 0 ∧ (0 : Int) ≤ 3 from by have := hV.k64; omega))⟩
        · exact ⟨rfl, h⟩
      · exact ⟨rfl, h⟩
    · rw [if_neg hf, if_neg hf]
      by_cases hc : hasN R.has u.f0 = true ∧ newerS u (R.K u.f0.toNat) = false
      · have e1 : dGet l u.f0 = (R.K u.f0.toNat, true) := by rw [h.get]; unfold getR; rw [if_pos hc.1]
        rw [if_pos hc, e1, if_pos ⟨rfl, hc.2⟩]
        exact ⟨rfl, h⟩
      · have hc2 : ¬ ((dGet l u.f0).2 = true ∧ newerS u (dGet l u.f0).1 = false) := by
          rintro ⟨a, b⟩
          rw [h.get] at a b
          unfold getR at a b
          by_cases hh : hasN R.has u.f0 = true
          · rw [if_pos hh] at b
            exact hc ⟨hh, b⟩
          · rw [if_neg hh] at a; cases a
        rw [if_neg hc, if_neg hc2]
        exact ⟨rfl, h.put u hm⟩
  · rw [if_neg hm, if_neg hm]
    exact ⟨rfl, h⟩
theorem dHear_len (me : Int) (l : List S31) (u : S31) : (dHear me l u).1.length ≤ l.length + 1 := by
  unfold dHear
  split
  · split
    · dsimp only
      split
      · split
        · exact dPut_len _ _
        · show l.length ≤ _; omega
      · show l.length ≤ _; omega
    · split
      · show l.length ≤ _; omega
      · exact dPut_len _ _
  · show l.length ≤ _; omega
/-- a list is heard: till the last error -/
def dHearL (me : Int) : List S31 → List S31 → List S31 × Bool
  | l, [] => (l, true)
  | l, u :: us => if (dHear me l u).2.2 = 60 then ((dHear me l u).1, false) else dHearL me (dHear me l u).1 us
theorem hearL_rel {k : Nat} : ∀ (us : List S31) {R : RollS} {i : Int} {l : List S31}, RV R k i → DRel R l → (∀ u ∈ us, OkU u) → (dHearL k l us).2 = (B.hearL R us).2 ∧ DRel (B.hearL R us).1 (dHearL k l us).1 ∧ (dHearL k l us).1.length ≤ l.length + us.length
  | [], R, i, l, hV, h, _ => ⟨rfl, h, Nat.le_refl _⟩
  | u :: us, R, i, l, hV, h, hu => by
    obtain ⟨e1, h1⟩ := hear_rel hV h u
    obtain ⟨i1, -, hV1, -⟩ := hV.hear u (hu u (List.mem_cons_self ..))
    have hl := dHear_len k l u
    rw [dHearL, B.hearL, e1]
    split
    · refine ⟨rfl, h1, ?_⟩
      rw [List.length_cons]; dsimp only; omega
    · obtain ⟨a, b, c⟩ := hearL_rel us hV1 h1 (fun v hv => hu v (List.mem_cons_of_mem _ hv))
      refine ⟨a, b, ?_⟩
      rw [List.length_cons]; omega
/-- all that is known, up to node n -/
def dAll (l : List S31) (n : Nat) : List S31 := ((List.range n).filter (fun (i : Nat) => (dGet l (i : Int)).2)).map (fun (i : Nat) => (dGet l (i : Int)).1)
theorem dAll_succ (l : List S31) (n : Nat) : dAll l (n + 1) = if (dGet l (n : Int)).2 = true then dAll l n ++ [(dGet l (n : Int)).1] else dAll l n := by
  unfold dAll
  rw [List.range_succ, List.filter_append, List.map_append]
  by_cases h : (dGet l (n : Int)).2 = true
  · rw [if_pos h, List.filter_cons_of_pos (p := fun (i : Nat) => (dGet l (i : Int)).2) h]; rfl
  · rw [if_neg h, List.filter_cons_of_neg (p := fun (i : Nat) => (dGet l (i : Int)).2) h]; simp
theorem dAll_len (l : List S31) (n : Nat) : (dAll l n).length ≤ n := by
  unfold dAll
  rw [List.length_map]
  exact Nat.le_trans (List.length_filter_le _ _) (by rw [List.length_range]; exact Nat.le_refl _)
theorem DRel.all {R : RollS} {l : List S31} (h : DRel R l) : dAll l 64 = allL R := by
  unfold dAll allL bandL
  rw [List.map_map]
  have e : ∀ i ∈ List.range 64, (dGet l ((i : Nat) : Int)).2 = R.has.testBit i := fun i hi => by
    rw [List.mem_range] at hi
    rw [h.get]
    unfold getR
    have := hasN_bit (c := R.has) hi
    cases hb : R.has.testBit i
    · rw [if_neg (by rw [this, hb]; decide)]
    · rw [if_pos (by rw [this, hb])]
  rw [List.filter_congr e]
  apply List.map_congr_left
  intro i hi
  obtain ⟨hi, hb⟩ := List.mem_filter.1 hi
  rw [List.mem_range] at hi
  show (dGet l (i : Int)).1 = R.K (Int.toNat (Int.ofNat i))
  rw [h.get]
  unfold getR
  rw [if_pos (by rw [hasN_bit hi]; exact hb)]
  rfl
theorem DRel.mem {R : RollS} {k : Nat} {i : Int} (hV : RV R k i) {l : List S31} (h : DRel R l) (u : S31) : u ∈ l ↔ u ∈ allL R := by
  constructor
  · intro hu
    have := h.mem_get hu
    unfold getR at this
    by_cases hh : hasN R.has u.f0 = true
    · rw [if_pos hh] at this
      obtain ⟨n, hn, hn64⟩ := has_range hh
      refine mem_allL.2 ⟨n, hn64, by rw [← hn]; exact hh, ?_⟩
      have := congrArg Prod.fst this
      rw [hn, Int.toNat_natCast] at this
      exact this.symm
    · rw [if_neg hh] at this
      have := congrArg Prod.snd this
      cases this
  · intro hu
    obtain ⟨n, hn, hb, rfl⟩ := mem_allL.1 hu
    have h1 := h.get (n : Int)
    unfold getR at h1
    rw [if_pos hb, Int.toNat_natCast] at h1
    unfold dGet at h1
    cases hi : dIdx l (n : Int) with
    | none => rw [hi] at h1; have := congrArg Prod.snd h1; cases this
    | some j =>
      obtain ⟨hj, -⟩ := dIdx_some hi
      rw [hi] at h1
      have : l.getD j z31 = R.K n := congrArg Prod.fst h1
      rw [← this]
      rw [List.getD_eq_getElem?_getD, List.getElem?_eq_getElem hj]
      exact List.getElem_mem hj
theorem DRel.live {R : RollS} {k : Nat} {i : Int} (hV : RV R k i) {l : List S31} (h : DRel R l) : liveN l = liveN (allL R) := by
  refine eq_of_bits (liveN_lt _) (liveN_lt _) (fun n hn => ?_)
  unfold liveN
  rw [live_bits _ n hn, live_bits _ n hn]
  congr 1
  rw [Bool.eq_iff_iff, List.any_eq_true, List.any_eq_true]
  constructor
  · rintro ⟨u, hu, hq⟩; exact ⟨u, (h.mem hV u).1 hu, hq⟩
  · rintro ⟨u, hu, hq⟩; exact ⟨u, (h.mem hV u).2 hu, hq⟩
/-- the document's news -/
def dNews (old now : List S31) (n : Nat) : List S31 := (now.take n).filter (fun u => !old.any (fun v => !neS v u))
theorem dNews_succ (old now : List S31) (n : Nat) (hn : n < now.length) : dNews old now (n + 1) = if (old.any (fun v => !neS v (rd_T31 now (n : Int)))) = true then dNews old now n else dNews old now n ++ [rd_T31 now (n : Int)] := by
  unfold dNews
  rw [rd31_get now n hn, List.take_succ_eq_append_getElem hn, List.filter_append]
  cases h : old.any (fun v => !neS v now[n])
  · rw [if_neg (by decide), List.filter_cons_of_pos (by rw [h]; rfl)]; rfl
  · rw [if_pos rfl, List.filter_cons_of_neg (by rw [h]; decide), List.filter_nil, List.append_nil]
theorem news_eq {R0 R : RollS} {k : Nat} {i0 i : Int} (h0 : RV R0 k i0) (h : RV R k i) : dNews (allL R0) (allL R) (allL R).length = newsL R0 R := by
  unfold dNews newsL
  rw [List.take_length]
  unfold allL
  rw [List.filter_map]
  congr 1
  apply List.filter_congr
  intro x hx
  obtain ⟨n, hn, hb, rfl⟩ := (mem_bandL _ _).1 hx
  have hb' : hasN R.has n = true := by rw [hasN_bit hn]; exact hb
  show (!(allL R0).any (fun v => !neS v (R.K (Int.toNat (n : Int))))) = newsP R0 R n
  unfold newsP
  rw [Int.toNat_natCast]
  have key : (allL R0).any (fun v => !neS v (R.K n)) = (hasN R0.has n && !neS (R0.K n) (R.K n)) := by
    rw [Bool.eq_iff_iff, List.any_eq_true, Bool.and_eq_true]
    constructor
    · rintro ⟨u, hu, hq⟩
      obtain ⟨m, hm, hb2, rfl⟩ := mem_allL.1 hu
      have e := neS_false (by simpa using hq)
      have f1 := (h0.own m hm hb2).1
      have f2 := (h.own n hn hb').1
      rw [e, f2] at f1
      obtain rfl : n = m := by omega
      exact ⟨hb2, hq⟩
    · rintro ⟨hb2, hq⟩
      exact ⟨R0.K n, mem_allL.2 ⟨n, hn, hb2, rfl⟩, hq⟩
  rw [key]
  cases hasN R0.has n <;> cases neS (R0.K n) (R.K n) <;> rfl
theorem rref_run (k : Nat) (me inc n i s : Int) (h0 : 0 ≤ i) (h1 : i ≤ 18446744073709551615) (hs : mayS ⟨n, i, s⟩ = true → 0 ≤ s) : conventicleref06_Refute.f (k + 2) me inc n i s = some (refute me inc n i s) := by
  have hup : conventicleref06_Up.f i = some (if i = 18446744073709551615 then (0, 60) else (i + 1, 0)) := by
    unfold conventicleref06_Up.f
    by_cases h : i = 18446744073709551615
    · rw [if_pos h, if_pos h]
    · rw [if_neg h, if_neg h]
      have : IntKind.u64.wrap (i + 1) = i + 1 := by rw [IntKind.wrap_u64]; omega
      rw [this]
  have hmay : conventicleref06_May.f n i s = some (may n s) := by
    unfold conventicleref06_May.f may
    by_cases h0 : n ≥ 0
    · by_cases h1 : n < 64
      · by_cases h2 : s ≥ 0
        · simp [h0, h1, h2]
        · simp [h0, h1, h2]
      · simp [h0, h1]
    · simp [h0]
  unfold conventicleref06_Refute.f
  rw [hmay]
  simp only [Option.bind_some]
  unfold refute
  by_cases hm : may n s = true
  · have hs0 := hs hm
    rw [if_pos hm]
    by_cases hn : n = me
    · rw [if_pos hn]
      by_cases hlt : i < inc
      · rw [if_pos hlt]
        simp only [conventicleref06_Refute.j0, if_true]
        rw [if_neg (show ¬ (may n s = true ∧ n = me ∧ newer i s inc 0 = true) from fun h => by have := newer_iff.1 h.2.2; omega)]
      · rw [if_neg hlt]
        by_cases he : i = inc
        · rw [if_pos he]
          by_cases hz : s = 0
          · simp only [conventicleref06_Refute.j0, hz, beq_self_eq_true, if_true]
            rw [if_neg (show ¬ (may n 0 = true ∧ n = me ∧ newer i 0 inc 0 = true) from fun h => by have := newer_iff.1 h.2.2; omega)]
          · have : (s == 0) = false := beq_eq_false_iff_ne.2 hz
            simp only [conventicleref06_Refute.j0, this]
            rw [if_pos (show may n s = true ∧ n = me ∧ newer i s inc 0 = true from ⟨hm, hn, newer_iff.2 (by omega)⟩), hup]
            by_cases hi : i = 18446744073709551615
            · simp [hi]
            · simp [hi]
        · rw [if_neg he]
          simp only [conventicleref06_Refute.j0]
          rw [if_pos (show may n s = true ∧ n = me ∧ newer i s inc 0 = true from ⟨hm, hn, newer_iff.2 (by omega)⟩), hup]
          by_cases hi : i = 18446744073709551615
          · simp [hi]
          · simp [hi]
    · rw [if_neg hn]
      simp only [conventicleref06_Refute.j0, if_true]
      rw [if_neg (show ¬ (may n s = true ∧ n = me ∧ newer i s inc 0 = true) from fun h => hn h.2.1)]
  · rw [if_neg hm]
    simp only [conventicleref06_Refute.j0, if_true]
    rw [if_neg (show ¬ (may n s = true ∧ n = me ∧ newer i s inc 0 = true) from fun h => hm h.1)]
end Go.Proofs.YtkkcnhfbcophiaaDoor.Pure
end
