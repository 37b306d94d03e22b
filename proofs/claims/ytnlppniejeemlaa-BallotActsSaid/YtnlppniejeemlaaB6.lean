-- printed by this session's own copy of the print program (wip/patch), for seat Ytnlppniejeemlaa
import Derived.Test.YtnlppniejeemlaaB0
import Derived.Test.YtnlppniejeemlaaB1
import Derived.Test.YtnlppniejeemlaaB2
import Derived.Test.YtnlppniejeemlaaB3
import Derived.Test.YtnlppniejeemlaaB4
import Derived.Test.YtnlppniejeemlaaB5
import Derived.Test.YtnlppniejeemlaaHand
import Derived.Test.YtnlppniejeemlaaShown
namespace Go.Proofs.Ytnlppniejeemlaa.B
open Go.RowKit Go.Proofs.YtnlppniejeemlaaW.PrintWords Go.Proofs.YtnlppniejeemlaaW.PrintLast Go.Proofs.YtnlppniejeemlaaW.PrintMore
attribute [local go_sem] max2_int min2_int max_two min_two max_three min_three max_four min_four   -- for this text's walks alone
set_option linter.unusedVariables false
set_option linter.unusedSimpArgs false

attribute [local go_sem high] eqA27 eqA63 eqA65
/-! ### conventiclelaw16_BallotActs: function 7 -/
mutual
def conventiclelaw16_BallotActs.j0 : Nat → List (S36) → List (S29) → Int → Int → Bool → Option (Bool)
  | 0, _, _, _, _, _ => none
  | k + 1, x0, x1, x2, x3, x43 => if x43 = true then ((conventiclelaw16_shown.f).bind fun t134 => (some t134)) else (conventiclelaw16_BallotActs.l0 k x0 x1 x2 x3 0 0 0 0 0 0 0 0 0)
def conventiclelaw16_BallotActs.l0 : Nat → List (S36) → List (S29) → Int → Int → Int → Int → Int → Int → Int → Int → Int → Int → Int → Option (Bool)
  | 0, _, _, _, _, _, _, _, _, _, _, _, _, _ => none
  | k + 1, x0, x1, x2, x3, x11, x136000, x136001, x136002, x136003, x137000, x137001, x137002, x137003 => if x11 < (x0.length : Int) then (if 0 ≤ x11 then (if (rd_T36 x0 x11).f0 = true then ((ballot_Acceptor_Accept.f x136000 x136001 x136002 x136003 ((rd_T36 x0 x11).f1) ((rd_T36 x0 x11).f2.f0) ((rd_T36 x0 x11).f2.f1)).bind fun bt140 => ((conventicleref16_Acceptor_Accept.f x137000 x137001 x137002 x137003 ((rd_T36 x0 x11).f1) ((rd_T36 x0 x11).f2.f0) ((rd_T36 x0 x11).f2.f1)).bind fun bt147 => (if bt140.1 = bt147.1 then (conventiclelaw16_BallotActs.j2 k x0 x1 x2 x3 x11 bt140.2.1 bt140.2.2.1 bt140.2.2.2.1 bt140.2.2.2.2 bt147.2.1 bt147.2.2.1 bt147.2.2.2.1 bt147.2.2.2.2) else (none)))) else ((ballot_Acceptor_Prepare.f x136000 x136001 x136002 x136003 ((rd_T36 x0 x11).f1)).bind fun bt153 => ((conventicleref16_Acceptor_Prepare.f x137000 x137001 x137002 x137003 ((rd_T36 x0 x11).f1)).bind fun bt163 => ((conventiclelaw16_theirs.f bt153.1 bt153.2.1 bt153.2.2.1).bind fun bt172 => (if (!(bt172.1 == bt163.1) || ((!(bt172.2.1 == bt163.2.1) || (!(bt172.2.2 == bt163.2.2.1))))) = true then (none) else (if bt153.2.2.2.1 = bt163.2.2.2.1 then (conventiclelaw16_BallotActs.j2 k x0 x1 x2 x3 x11 bt153.2.2.2.2.1 bt153.2.2.2.2.2.1 bt153.2.2.2.2.2.2.1 bt153.2.2.2.2.2.2.2 bt163.2.2.2.2.1 bt163.2.2.2.2.2.1 bt163.2.2.2.2.2.2.1 bt163.2.2.2.2.2.2.2) else (none))))))) else (none)) else (conventiclelaw16_BallotActs.l1 k x1 x2 x3 (([] : List (S65))) 0)
def conventiclelaw16_BallotActs.j2 : Nat → List (S36) → List (S29) → Int → Int → Int → Int → Int → Int → Int → Int → Int → Int → Int → Option (Bool)
  | 0, _, _, _, _, _, _, _, _, _, _, _, _, _ => none
  | k + 1, x0, x1, x2, x3, x11, x136000, x136001, x136002, x136003, x137000, x137001, x137002, x137003 => (ballot_Acceptor_Top.f x136000 x136001 x136002 x136003).bind fun bt175 => ((conventicleref16_Acceptor_Top.f x137000 x137001 x137002 x137003).bind fun bt180 => (if bt175.1 = bt180.1 then ((ballot_Acceptor_Last.f bt175.2.1 bt175.2.2.1 bt175.2.2.2.1 bt175.2.2.2.2).bind fun bt185 => ((conventiclelaw16_theirs.f bt185.1 bt185.2.1 bt185.2.2.1).bind fun bt192 => ((conventicleref16_Acceptor_Last.f bt180.2.1 bt180.2.2.1 bt180.2.2.2.1 bt180.2.2.2.2).bind fun bt195 => (if (!(bt192.1 == bt195.1) || ((!(bt192.2.1 == bt195.2.1) || (!(bt192.2.2 == bt195.2.2.1))))) = true then (none) else (conventiclelaw16_BallotActs.l0 k x0 x1 x2 x3 (wrap64 (x11 + 1)) bt185.2.2.2.1 bt185.2.2.2.2.1 bt185.2.2.2.2.2.1 bt185.2.2.2.2.2.2 bt195.2.2.2.1 bt195.2.2.2.2.1 bt195.2.2.2.2.2.1 bt195.2.2.2.2.2.2))))) else (none)))
def conventiclelaw16_BallotActs.l1 : Nat → List (S29) → Int → Int → List (S65) → Int → Option (Bool)
  | 0, _, _, _, _, _ => none
  | k + 1, x1, x2, x3, x16, x17 => if x17 < (x1.length : Int) then (if 0 ≤ x17 then ((conventiclelaw16_theirs.f ((rd_T29 x1 x17).f0) ((rd_T29 x1 x17).f1.f0) ((rd_T29 x1 x17).f1.f1)).bind fun bt206 => (if x16.length < 5864062014805 then (conventiclelaw16_BallotActs.l1 k x1 x2 x3 (x16 ++ [(⟨bt206.1, (⟨bt206.2.1, bt206.2.2⟩ : S63)⟩ : S65)]) (wrap64 (x17 + 1))) else (none))) else (none)) else ((ballot_Pick.f x1).bind fun bt212 => ((conventicleref16_Pick.f k x16).bind fun bt216 => ((ballot_Number.f x2 x3).bind fun bt220 => ((conventicleref16_Number.f k x2 x3).bind fun bt222 => ((ballot_Owner.f x2).bind fun bt224 => ((conventicleref16_Owner.f x2).bind fun bt227 => (if (bt212.1 == bt216.1 && (bt212.2.1 == bt216.2.1)) = true then (if (bt212.2.2 == bt216.2.2) = true then (if bt220.1 = bt222.1 then (if bt220.2 = bt222.2 then (if bt224.1 = bt227.1 then (if bt224.2.1 = bt227.2.1 then (some (bt224.2.2 == bt227.2.2)) else (none)) else (none)) else (none)) else (none)) else (none)) else (none))))))))
end
def conventiclelaw16_BallotActs.f (k : Nat) (l0 : List (S36)) (l1 : List (S29)) (a2 : Int) (a3 : Int) : Option (Bool) := if (l0.length : Int) > 200 then (conventiclelaw16_BallotActs.j0 k l0 l1 a2 a3 true) else (if (l1.length : Int) > 100 then (conventiclelaw16_BallotActs.j0 k l0 l1 a2 a3 true) else ((conventiclelaw16_shown.f).bind fun t133 => (conventiclelaw16_BallotActs.j0 k l0 l1 a2 a3 (!t133))))
theorem conventiclelaw16_BallotActs.mono_l : ∀ k, (∀ y0 y1 y2 y3 y4, LeO (conventiclelaw16_BallotActs.j0 k y0 y1 y2 y3 y4) (conventiclelaw16_BallotActs.j0 (k + 1) y0 y1 y2 y3 y4)) ∧ (∀ y0 y1 y2 y3 y4 y5 y6 y7 y8 y9 y10 y11 y12, LeO (conventiclelaw16_BallotActs.l0 k y0 y1 y2 y3 y4 y5 y6 y7 y8 y9 y10 y11 y12) (conventiclelaw16_BallotActs.l0 (k + 1) y0 y1 y2 y3 y4 y5 y6 y7 y8 y9 y10 y11 y12)) ∧ (∀ y0 y1 y2 y3 y4 y5 y6 y7 y8 y9 y10 y11 y12, LeO (conventiclelaw16_BallotActs.j2 k y0 y1 y2 y3 y4 y5 y6 y7 y8 y9 y10 y11 y12) (conventiclelaw16_BallotActs.j2 (k + 1) y0 y1 y2 y3 y4 y5 y6 y7 y8 y9 y10 y11 y12)) ∧ (∀ y0 y1 y2 y3 y4, LeO (conventiclelaw16_BallotActs.l1 k y0 y1 y2 y3 y4) (conventiclelaw16_BallotActs.l1 (k + 1) y0 y1 y2 y3 y4))
  | 0 => ⟨fun _ _ _ _ _ r h => by simp [conventiclelaw16_BallotActs.j0] at h, fun _ _ _ _ _ _ _ _ _ _ _ _ _ r h => by simp [conventiclelaw16_BallotActs.l0] at h, fun _ _ _ _ _ _ _ _ _ _ _ _ _ r h => by simp [conventiclelaw16_BallotActs.j2] at h, fun _ _ _ _ _ r h => by simp [conventiclelaw16_BallotActs.l1] at h⟩
  | k + 1 => by
    obtain ⟨ih0, ih1, ih2, ih3⟩ := conventiclelaw16_BallotActs.mono_l k
    refine ⟨?_, ?_, ?_, ?_⟩
    · intro y0 y1 y2 y3 y4
      unfold conventiclelaw16_BallotActs.j0
      repeat' first
      | (with_reducible exact ih0 _ _ _ _ _)
      | (with_reducible exact ih1 _ _ _ _ _ _ _ _ _ _ _ _ _)
      | (with_reducible exact ih2 _ _ _ _ _ _ _ _ _ _ _ _ _)
      | (with_reducible exact ih3 _ _ _ _ _)
      | (with_reducible exact conventicleref16_Number.mono _ _ _)
      | (with_reducible exact conventicleref16_Pick.mono _ _)
      | (with_reducible exact LeO.refl _)
      | (with_reducible exact LeO.none _)
      | (with_reducible refine LeO.ite ?_ ?_)
      | (with_reducible refine LeO.bind ?_ (fun _ => ?_))
      | exact ih0 _ _ _ _ _
      | exact ih1 _ _ _ _ _ _ _ _ _ _ _ _ _
      | exact ih2 _ _ _ _ _ _ _ _ _ _ _ _ _
      | exact ih3 _ _ _ _ _
      | exact conventicleref16_Number.mono _ _ _
      | exact conventicleref16_Pick.mono _ _
      | exact LeO.none _
      | refine LeO.ite ?_ ?_
      | refine LeO.bind ?_ (fun _ => ?_)
    · intro y0 y1 y2 y3 y4 y5 y6 y7 y8 y9 y10 y11 y12
      unfold conventiclelaw16_BallotActs.l0
      repeat' first
      | (with_reducible exact ih0 _ _ _ _ _)
      | (with_reducible exact ih1 _ _ _ _ _ _ _ _ _ _ _ _ _)
      | (with_reducible exact ih2 _ _ _ _ _ _ _ _ _ _ _ _ _)
      | (with_reducible exact ih3 _ _ _ _ _)
      | (with_reducible exact conventicleref16_Number.mono _ _ _)
      | (with_reducible exact conventicleref16_Pick.mono _ _)
      | (with_reducible exact LeO.refl _)
      | (with_reducible exact LeO.none _)
      | (with_reducible refine LeO.ite ?_ ?_)
      | (with_reducible refine LeO.bind ?_ (fun _ => ?_))
      | exact ih0 _ _ _ _ _
      | exact ih1 _ _ _ _ _ _ _ _ _ _ _ _ _
      | exact ih2 _ _ _ _ _ _ _ _ _ _ _ _ _
      | exact ih3 _ _ _ _ _
      | exact conventicleref16_Number.mono _ _ _
      | exact conventicleref16_Pick.mono _ _
      | exact LeO.none _
      | refine LeO.ite ?_ ?_
      | refine LeO.bind ?_ (fun _ => ?_)
    · intro y0 y1 y2 y3 y4 y5 y6 y7 y8 y9 y10 y11 y12
      unfold conventiclelaw16_BallotActs.j2
      repeat' first
      | (with_reducible exact ih0 _ _ _ _ _)
      | (with_reducible exact ih1 _ _ _ _ _ _ _ _ _ _ _ _ _)
      | (with_reducible exact ih2 _ _ _ _ _ _ _ _ _ _ _ _ _)
      | (with_reducible exact ih3 _ _ _ _ _)
      | (with_reducible exact conventicleref16_Number.mono _ _ _)
      | (with_reducible exact conventicleref16_Pick.mono _ _)
      | (with_reducible exact LeO.refl _)
      | (with_reducible exact LeO.none _)
      | (with_reducible refine LeO.ite ?_ ?_)
      | (with_reducible refine LeO.bind ?_ (fun _ => ?_))
      | exact ih0 _ _ _ _ _
      | exact ih1 _ _ _ _ _ _ _ _ _ _ _ _ _
      | exact ih2 _ _ _ _ _ _ _ _ _ _ _ _ _
      | exact ih3 _ _ _ _ _
      | exact conventicleref16_Number.mono _ _ _
      | exact conventicleref16_Pick.mono _ _
      | exact LeO.none _
      | refine LeO.ite ?_ ?_
      | refine LeO.bind ?_ (fun _ => ?_)
    · intro y0 y1 y2 y3 y4
      unfold conventiclelaw16_BallotActs.l1
      repeat' first
      | (with_reducible exact ih0 _ _ _ _ _)
      | (with_reducible exact ih1 _ _ _ _ _ _ _ _ _ _ _ _ _)
      | (with_reducible exact ih2 _ _ _ _ _ _ _ _ _ _ _ _ _)
      | (with_reducible exact ih3 _ _ _ _ _)
      | (with_reducible exact conventicleref16_Number.mono _ _ _)
      | (with_reducible exact conventicleref16_Pick.mono _ _)
      | (with_reducible exact LeO.refl _)
      | (with_reducible exact LeO.none _)
      | (with_reducible refine LeO.ite ?_ ?_)
      | (with_reducible refine LeO.bind ?_ (fun _ => ?_))
      | exact ih0 _ _ _ _ _
      | exact ih1 _ _ _ _ _ _ _ _ _ _ _ _ _
      | exact ih2 _ _ _ _ _ _ _ _ _ _ _ _ _
      | exact ih3 _ _ _ _ _
      | exact conventicleref16_Number.mono _ _ _
      | exact conventicleref16_Pick.mono _ _
      | exact LeO.none _
      | refine LeO.ite ?_ ?_
      | refine LeO.bind ?_ (fun _ => ?_)
theorem conventiclelaw16_BallotActs.mono : ∀ a0 a1 a2 a3 k, LeO (conventiclelaw16_BallotActs.f k a0 a1 a2 a3) (conventiclelaw16_BallotActs.f (k + 1) a0 a1 a2 a3) := by
  intro a0 a1 a2 a3 k
  obtain ⟨ih0, ih1, ih2, ih3⟩ := conventiclelaw16_BallotActs.mono_l k
  unfold conventiclelaw16_BallotActs.f
  repeat' first
      | (with_reducible exact ih0 _ _ _ _ _)
      | (with_reducible exact ih1 _ _ _ _ _ _ _ _ _ _ _ _ _)
      | (with_reducible exact ih2 _ _ _ _ _ _ _ _ _ _ _ _ _)
      | (with_reducible exact ih3 _ _ _ _ _)
      | (with_reducible exact conventicleref16_Number.mono _ _ _)
      | (with_reducible exact conventicleref16_Pick.mono _ _)
      | (with_reducible exact LeO.refl _)
      | (with_reducible exact LeO.none _)
      | (with_reducible refine LeO.ite ?_ ?_)
      | (with_reducible refine LeO.bind ?_ (fun _ => ?_))
      | exact ih0 _ _ _ _ _
      | exact ih1 _ _ _ _ _ _ _ _ _ _ _ _ _
      | exact ih2 _ _ _ _ _ _ _ _ _ _ _ _ _
      | exact ih3 _ _ _ _ _
      | exact conventicleref16_Number.mono _ _ _
      | exact conventicleref16_Pick.mono _ _
      | exact LeO.none _
      | refine LeO.ite ?_ ?_
      | refine LeO.bind ?_ (fun _ => ?_)
def conventiclelaw16_BallotActs.T9 : Bool × List (List Nat × List Nat) := (true, [([], []), ([], []), ([], []), ([1, 2], [1, 2]), ([3], [3]), ([4], [4]), ([], []), ([], []), ([6, 7], [6, 7]), ([8], [8]), ([9], [9]), ([0, 5, 10], [0, 5, 10]), ([], []), ([], []), ([], []), ([13, 14], [13, 14]), ([15], [15]), ([16], [16]), ([], []), ([], []), ([18, 19], [18, 19]), ([20], [20]), ([21], [21]), ([12, 17, 22, 11], [12, 17, 22]), ([11, 23], [11, 23])])
def conventiclelaw16_BallotActs.B9 : List Nat := [0, 0, 0, 6, 14, 30, 0, 0, 192, 448, 960, 2047, 0, 0, 0, 24576, 57344, 122880, 0, 0, 786432, 1835008, 3932160, 8388607, 16777215]
theorem conventiclelaw16_BallotActs.tab9 : rtab .any (opsOf Try.f7 9) = conventiclelaw16_BallotActs.T9 := by kernel_rfl
theorem conventiclelaw16_BallotActs.bits9 : waitsOk conventiclelaw16_BallotActs.T9.2 conventiclelaw16_BallotActs.B9 = true := by kernel_rfl
def conventiclelaw16_BallotActs.T13 : Bool × List (List Nat × List Nat) := (true, [([], []), ([0], [0]), ([], []), ([1, 2], [1, 2]), ([3, 1], [3]), ([4], [4]), ([4], [4]), ([5, 6, 4], [4, 5, 6]), ([4, 7], [4, 7])])
def conventiclelaw16_BallotActs.B13 : List Nat := [0, 1, 0, 7, 15, 31, 31, 127, 255]
theorem conventiclelaw16_BallotActs.tab13 : rtab .any (opsOf Try.f7 13) = conventiclelaw16_BallotActs.T13 := by kernel_rfl
theorem conventiclelaw16_BallotActs.bits13 : waitsOk conventiclelaw16_BallotActs.T13.2 conventiclelaw16_BallotActs.B13 = true := by kernel_rfl
set_option maxHeartbeats 8000000 in
set_option maxRecDepth 100000 in
theorem conventiclelaw16_BallotActs.calls (k : Nat) (A0 : Option Addr) (c0 : Nat) (l0 : List (S36)) (A1 : Option Addr) (c1 : Nat) (l1 : List (S29)) (a2 : Int) (a3 : Int) (r : Bool) (w : World) (hr0 : Kd.C k36 w A0 l0.length l0) (hc0 : l0.length ≤ c0) (hr1 : Kd.C k29 w A1 l1.length l1) (hc1 : l1.length ≤ c1) (h : conventiclelaw16_BallotActs.f k l0 l1 a2 a3 = some r) :
    Calls Try.prog 7 #[.slice A0 l0.length c0, .slice A1 l1.length c1, .int .u64 a2, .int .i64 a3] w fun e w' => e = .returned (.bool r) ∧ Below w.heap.size w w' := by
  have hu31 := Try.underlying31
  have hu67 := Try.underlying67
  have hu27 := Try.underlying27
  have hu29 := Try.underlying29
  have hu65 := Try.underlying65
  have hu63 := Try.underlying63
  have HR0 := Aside0.mk hr0
  have HC0 := Aside0.mk hc0
  clear hr0 hc0
  have HR1 := Aside0.mk hr1
  have HC1 := Aside0.mk hc1
  clear hr1 hc1
  have HB := Aside0.mk (Below.refl w.heap.size w)
  have H : (if (l0.length : Int) > 200 then (conventiclelaw16_BallotActs.j0 k l0 l1 a2 a3 true) else (if (l1.length : Int) > 100 then (conventiclelaw16_BallotActs.j0 k l0 l1 a2 a3 true) else ((conventiclelaw16_shown.f).bind fun t133 => (conventiclelaw16_BallotActs.j0 k l0 l1 a2 a3 (!t133))))) = some r := h
  clear h
  have HC5 := Aside0.mk H
  clear H
  go_enter Try.func7, Try.ntmps7
  go_upto_region 1 with (fail)
  go_cut [43] (fun v43 wc => ∃ (kq : Nat) (x43_4 : Bool), v43 = .bool x43_4 ∧ Aside0 (conventiclelaw16_BallotActs.j0 kq l0 l1 a2 a3 x43_4 = some r) ∧ Aside0 (kq ≤ k) ∧ Aside0 (Below w.heap.size w wc))
  case first =>
    have H := HC5.out
    clear HC5
    by_cases c6 : (l0.length : Int) > 200
    · rw [if_pos c6] at H
      have c6b0 : decide (200 < (l0.length : Int)) = true := decide_eq_true c6
      have c6b1 : decide (200 < l0.length) = true := decide_eq_true (by omega)
      clear c6
      (first | rw [c6b0] | (simp only [i64_w, i32_w]; rw [c6b0]) | skip)
      have H' := Aside0.mk H
      clear H
      go_wp2
      go_meet
      case rel => exact ⟨_, (true), (by first | rfl | (simp; done) | (simp [*]; done)), H', ⟨by first | omega | exact Nat.le_refl _⟩, ⟨by repeat (first | (with_reducible first | exact HB.out | apply below_alloc | apply pw_below_drewN | apply below_drew1) | exact HB.out)⟩⟩
    · rw [if_neg c6] at H
      have c6b0 : decide (200 < (l0.length : Int)) = false := decide_eq_false c6
      have c6b1 : decide (200 < l0.length) = false := decide_eq_false (by omega)
      clear c6
      (first | rw [c6b0] | (simp only [i64_w, i32_w]; rw [c6b0]) | skip)
      by_cases c7 : (l1.length : Int) > 100
      · rw [if_pos c7] at H
        have c7b0 : decide (100 < (l1.length : Int)) = true := decide_eq_true c7
        have c7b1 : decide (100 < l1.length) = true := decide_eq_true (by omega)
        clear c7
        have H' := Aside0.mk H
        clear H
        go_wp2
        go_meet
        case rel => exact ⟨_, (true), (by first | rfl | (simp; done) | (simp [*]; done)), H', ⟨by first | omega | exact Nat.le_refl _⟩, ⟨by repeat (first | (with_reducible first | exact HB.out | apply below_alloc | apply pw_below_drewN | apply below_drew1) | exact HB.out)⟩⟩
      · rw [if_neg c7] at H
        have c7b0 : decide (100 < (l1.length : Int)) = false := decide_eq_false c7
        have c7b1 : decide (100 < l1.length) = false := decide_eq_false (by omega)
        clear c7
        replace H := Option.bind_eq_some_iff.mp H
        obtain ⟨t133, A80, H⟩ := H
        replace H : (conventiclelaw16_BallotActs.j0 k l0 l1 a2 a3 (!t133)) = some r := H
        have A8 := Aside0.mk A80
        clear A80
        have H' := Aside0.mk H
        clear H
        go_wp2_with (first | (go_at_call 8; (with_reducible refine (conventiclelaw16_shown.calls  t133 _ A8.out).mono ?_); rintro e w9 ⟨rfl, hb⟩; have n0_ := Aside0.mk (below_step (by repeat (first | (with_reducible first | exact HB.out | apply below_alloc | apply pw_below_drewN | apply below_drew1) | exact HB.out)) hb); clear HB; have HB := n0_; clear n0_; (try clear hb); (try clear hb2); (try clear hk); (try clear hi)))
        go_meet
        case rel => exact ⟨_, (!t133), (by first | rfl | (simp; done) | (simp [*]; done)), H', ⟨by first | omega | exact Nat.le_refl _⟩, ⟨by repeat (first | (with_reducible first | exact HB.out | apply below_alloc | apply pw_below_drewN | apply below_drew1) | exact HB.out)⟩⟩
  case rest =>
    clear HC5
    try clear c1
    try clear p2
    try clear c6
    try clear c6b0
    try clear c6b1
    try clear c7
    try clear c7b0
    try clear c7b1
    obtain ⟨kq, x43_4, rfl, HA, HJ4, HB⟩ := hcut
    cases kq with
    | zero => exact absurd HA.out (by simp [conventiclelaw16_BallotActs.j0])
    | succ kj4 =>
      have H := HA.out
      clear HA
      simp only [conventiclelaw16_BallotActs.j0] at H
      by_cases c10 : x43_4 = true
      · subst c10
        have H1 : ((conventiclelaw16_shown.f).bind fun t134 => (some t134)) = some r := by rw [if_pos rfl] at H; exact H
        clear H
        have H := H1
        clear H1
        replace H := Option.bind_eq_some_iff.mp H
        obtain ⟨t134, A110, H⟩ := H
        replace H : (some t134) = some r := H
        have A11 := Aside0.mk A110
        clear A110
        obtain rfl := Option.some.inj H
        go_wp2_with (first | ((with_reducible refine gate_callee (f := 8) rfl ?_); refine goesL_ (some 44) rfl rfl Try.func8 (by kernel_rfl) rfl #[] rfl (by (try simp only [List.map_toArray, List.map_cons, List.map_nil]); first | done | rfl | (simp only [List.length_drop, List.length_take]; rfl)) ?_; (with_reducible refine (conventiclelaw16_shown.calls  t134 _ A11.out).mono ?_); rintro e w12 ⟨rfl, hb⟩; refine ⟨_, rfl, ?_⟩; have n0_ := Aside0.mk (below_step (by repeat (first | (with_reducible first | exact HB.out | apply below_alloc | apply pw_below_drewN | apply below_drew1) | exact HB.out)) hb); clear HB; have HB := n0_; clear n0_; (try clear hb); (try clear hb2); (try clear hk); (try clear hi)))
        go_ret
        exact ⟨by first | rfl | (simp [errW_none, errW_some] <;> rfl) | (simp [*, errW_none, errW_some] <;> rfl), by repeat (first | (with_reducible first | exact HB.out | apply below_alloc | apply pw_below_drewN | apply below_drew1) | exact HB.out)⟩
      · replace c10 := Bool.eq_false_iff.mpr c10
        subst c10
        have H1 : (conventiclelaw16_BallotActs.l0 kj4 l0 l1 a2 a3 0 0 0 0 0 0 0 0 0) = some r := by rw [if_neg (show ¬ (false = true) by decide)] at H; exact H
        clear H
        have H := H1
        clear H1
        have H' := Aside0.mk H
        clear H
        go_wp2_with (first | ((with_reducible refine gate_dst (N := 46) rfl ?_); (try (refine gate_guard (by rfl) ?_; dsimp only)); refine box_event ?hg (N := 46) ?hd (cs := #[.int .u64 0, .int .u64 0, .int .u64 0, .int .u64 0]) (t := 31) ?hr ?_; (case hd => rfl); (case hg => rfl); (case hr => first | (go_simp; done) | (go_simp; rfl)); intro gb135 hg w13 hbox hb; have n0_ := Aside0.mk (below_step (by repeat (first | (with_reducible first | exact HB.out | apply below_alloc | apply pw_below_drewN | apply below_drew1) | exact HB.out)) hb); have n1_ := Aside0.mk ((show IsS31 w w13 gb135 0 0 0 0 from ⟨hbox, (by rw [hg]; exact (below_size (by repeat (first | (with_reducible first | exact HB.out | apply below_alloc | apply pw_below_drewN | apply below_drew1) | exact HB.out))) : w.heap.size ≤ gb135)⟩)); have n2_ := Aside0.mk ((by rw [hg]; exact (below_size (by repeat (first | (with_reducible first | exact HB.out | apply below_alloc | apply pw_below_drewN | apply below_drew1) | exact HB.out))) : w.heap.size ≤ gb135)); have n3_ := Aside0.mk ((by rw [hg]; exact (below_size (by repeat (first | (with_reducible first | exact HB.out | apply below_alloc | apply pw_below_drewN | apply below_drew1) | exact HB.out))) : w.heap.size ≤ gb135)); clear HB; have HB := n0_; have HI135 := n1_; have GW135 := n2_; have GE135 := n3_; clear n0_ n1_ n2_ n3_; clear hb hbox hg) | ((with_reducible refine gate_dst (N := 48) rfl ?_); (try (refine gate_guard (by rfl) ?_; dsimp only)); refine box_event ?hg (N := 48) ?hd (cs := #[.int .u64 0, .int .u64 0, .int .u64 0, .int .u64 0]) (t := 67) ?hr ?_; (case hd => rfl); (case hg => rfl); (case hr => first | (go_simp; done) | (go_simp; rfl)); intro gb136 hg w14 hbox hb; have n0_ := Aside0.mk (IsS31.below (by repeat (first | (with_reducible first | exact HI135.out | apply IsS31.alloc | apply IsS31.drewN | apply IsS31.drew | apply IsS31.set_0 | apply IsS31.set_1 | apply IsS31.set_2 | apply IsS31.set_3) | exact HI135.out)) hb); have n1_ := Aside0.mk (below_step (by repeat (first | (with_reducible first | exact HB.out | apply below_alloc | apply pw_below_drewN | apply below_drew1 | refine below_set ?_ (IsS31.ge HI135.out)) | exact HB.out)) hb); have n2_ := Aside0.mk ((show IsS67 w w14 gb136 0 0 0 0 from ⟨hbox, (by rw [hg]; exact (below_size (by repeat (first | (with_reducible first | exact HB.out | apply below_alloc | apply pw_below_drewN | apply below_drew1 | refine below_set ?_ (IsS31.ge HI135.out)) | exact HB.out))) : w.heap.size ≤ gb136)⟩)); have n3_ := Aside0.mk ((by rw [hg]; exact (below_size (by repeat (first | (with_reducible first | exact HB.out | apply below_alloc | apply pw_below_drewN | apply below_drew1 | refine below_set ?_ (IsS31.ge HI135.out)) | exact HB.out))) : w.heap.size ≤ gb136)); have n4_ := Aside0.mk ((by rw [hg]; exact (below_size (by repeat (first | (with_reducible first | exact HB.out | apply below_alloc | apply pw_below_drewN | apply below_drew1 | refine below_set ?_ (IsS31.ge HI135.out)) | exact HB.out))) : w.heap.size ≤ gb136)); have n5_ := Aside0.mk ((by rw [hg]; exact Nat.ne_of_lt (IsS31.lt (show IsS31 w _ gb135 0 0 0 0 from by repeat (first | (with_reducible first | exact HI135.out | apply IsS31.alloc | apply IsS31.drewN | apply IsS31.drew | apply IsS31.set_0 | apply IsS31.set_1 | apply IsS31.set_2 | apply IsS31.set_3) | exact HI135.out))) : gb135 ≠ gb136)); have n6_ := Aside0.mk ((by rw [hg]; exact Nat.ne_of_gt (IsS31.lt (show IsS31 w _ gb135 0 0 0 0 from by repeat (first | (with_reducible first | exact HI135.out | apply IsS31.alloc | apply IsS31.drewN | apply IsS31.drew | apply IsS31.set_0 | apply IsS31.set_1 | apply IsS31.set_2 | apply IsS31.set_3) | exact HI135.out))) : gb136 ≠ gb135)); clear HI135; clear HB; have HI135 := n0_; have HB := n1_; have HI136 := n2_; have GW136 := n3_; have GE136 := n4_; have NB135_136 := n5_; have NB136_135 := n6_; clear n0_ n1_ n2_ n3_ n4_ n5_ n6_; clear hb hbox hg))
        go_loopg [11] kj4 (fun kq v11 w' => ∃ (x11_2 : Int) (x136000_2 : Int) (x136001_2 : Int) (x136002_2 : Int) (x136003_2 : Int) (x137000_2 : Int) (x137001_2 : Int) (x137002_2 : Int) (x137003_2 : Int), v11 = .int .i64 x11_2 ∧ Aside0 (conventiclelaw16_BallotActs.l0 kq l0 l1 a2 a3 x11_2 x136000_2 x136001_2 x136002_2 x136003_2 x137000_2 x137001_2 x137002_2 x137003_2 = some r) ∧ Aside0 (kq ≤ kj4) ∧ Aside0 (IsS31 w w' gb135 x136000_2 x136001_2 x136002_2 x136003_2) ∧ Aside0 (IsS67 w w' gb136 x137000_2 x137001_2 x137002_2 x137003_2) ∧ Aside0 (Below w.heap.size w w'))
        case atStart => exact ⟨(0), (0), (0), (0), (0), (0), (0), (0), (0), (by first | rfl | (simp; done) | (simp [*]; done)), H', ⟨Nat.le_refl _⟩, ⟨by repeat (first | (with_reducible first | exact HI135.out | apply IsS31.alloc | apply IsS31.drewN | apply IsS31.drew | apply IsS31.set_0 | apply IsS31.set_1 | apply IsS31.set_2 | apply IsS31.set_3 | refine IsS31.far ?_ NB135_136.out _) | exact HI135.out)⟩, ⟨by repeat (first | (with_reducible first | exact HI136.out | apply IsS67.alloc | apply IsS67.drewN | apply IsS67.drew | apply IsS67.set_0 | apply IsS67.set_1 | apply IsS67.set_2 | apply IsS67.set_3 | refine IsS67.far ?_ NB136_135.out _) | exact HI136.out)⟩, ⟨by repeat (first | (with_reducible first | exact HB.out | apply below_alloc | apply pw_below_drewN | apply below_drew1 | refine below_set ?_ (IsS31.ge HI135.out) | refine below_set ?_ (IsS67.ge HI136.out)) | exact HB.out)⟩⟩
        case round =>
          clear H'
          try clear c1
          try clear p2
          try clear c6
          try clear c6b0
          try clear c6b1
          try clear c7
          try clear c7b0
          try clear c7b1
          try clear c8
          try clear c10
          try clear p2
          obtain ⟨x11_2, x136000_2, x136001_2, x136002_2, x136003_2, x137000_2, x137001_2, x137002_2, x137003_2, rfl, HA, HK2, HI135, HI136, HB⟩ := hrel
          cases gk with
          | zero => exact absurd HA.out (by simp [conventiclelaw16_BallotActs.l0])
          | succ k2 =>
            have H := HA.out
            clear HA
            simp only [conventiclelaw16_BallotActs.l0] at H
            by_cases c15 : x11_2 < (l0.length : Int)
            · rw [if_pos c15] at H
              have c15b0 : decide (x11_2 < (l0.length : Int)) = true := decide_eq_true c15
              clear c15
              by_cases c16 : 0 ≤ x11_2
              · rw [if_pos c16] at H
                have c16b0 : decide (0 ≤ x11_2) = true := decide_eq_true c16
                clear c16
                have HC17 := Aside0.mk H
                clear H
                have p137 : 0 ≤ (x11_2 : Int) := of_decide_eq_true (by first | (with_reducible assumption) | assumption)
                have q137 : x11_2 < (l0.length : Int) := of_decide_eq_true (by first | (with_reducible assumption) | assumption)
                obtain ⟨ad137, e137, hx137_0, hx137_1, hx137_2, hx137_3⟩ := at_T36 HR0.out x11_2 p137 q137
                cases e137
                replace hx137_0 := (HB.out.cell (World.block_lt_of_cell? w _ hx137_0)).trans hx137_0
                replace hx137_1 := (HB.out.cell (World.block_lt_of_cell? w _ hx137_1)).trans hx137_1
                replace hx137_2 := (HB.out.cell (World.block_lt_of_cell? w _ hx137_2)).trans hx137_2
                replace hx137_3 := (HB.out.cell (World.block_lt_of_cell? w _ hx137_3)).trans hx137_3
                replace p137 := eq_true p137
                replace q137 := eq_true q137
                go_upto_if 59 with (fail)
                go_cut [] (fun wc => ∃ (kq : Nat) (x136000_16 : Int) (x136001_16 : Int) (x136002_16 : Int) (x136003_16 : Int) (x137000_16 : Int) (x137001_16 : Int) (x137002_16 : Int) (x137003_16 : Int), Aside0 (conventiclelaw16_BallotActs.j2 kq l0 l1 a2 a3 x11_2 x136000_16 x136001_16 x136002_16 x136003_16 x137000_16 x137001_16 x137002_16 x137003_16 = some r) ∧ Aside0 (kq ≤ k2) ∧ Aside0 (IsS31 w wc gb135 x136000_16 x136001_16 x136002_16 x136003_16) ∧ Aside0 (IsS67 w wc gb136 x137000_16 x137001_16 x137002_16 x137003_16) ∧ Aside0 (Below w.heap.size w wc))
                case first =>
                  have H := HC17.out
                  clear HC17
                  obtain ⟨bq18, hbq18⟩ : ∃ b_ : Bool, b_ = ((rd_T36 l0 x11_2).f0) := ⟨_, rfl⟩
                  replace H : (if bq18 = true then ((ballot_Acceptor_Accept.f x136000_2 x136001_2 x136002_2 x136003_2 ((rd_T36 l0 x11_2).f1) ((rd_T36 l0 x11_2).f2.f0) ((rd_T36 l0 x11_2).f2.f1)).bind fun bt140 => ((conventicleref16_Acceptor_Accept.f x137000_2 x137001_2 x137002_2 x137003_2 ((rd_T36 l0 x11_2).f1) ((rd_T36 l0 x11_2).f2.f0) ((rd_T36 l0 x11_2).f2.f1)).bind fun bt147 => (if bt140.1 = bt147.1 then (conventiclelaw16_BallotActs.j2 k2 l0 l1 a2 a3 x11_2 bt140.2.1 bt140.2.2.1 bt140.2.2.2.1 bt140.2.2.2.2 bt147.2.1 bt147.2.2.1 bt147.2.2.2.1 bt147.2.2.2.2) else (none)))) else ((ballot_Acceptor_Prepare.f x136000_2 x136001_2 x136002_2 x136003_2 ((rd_T36 l0 x11_2).f1)).bind fun bt153 => ((conventicleref16_Acceptor_Prepare.f x137000_2 x137001_2 x137002_2 x137003_2 ((rd_T36 l0 x11_2).f1)).bind fun bt163 => ((conventiclelaw16_theirs.f bt153.1 bt153.2.1 bt153.2.2.1).bind fun bt172 => (if (!(bt172.1 == bt163.1) || ((!(bt172.2.1 == bt163.2.1) || (!(bt172.2.2 == bt163.2.2.1))))) = true then (none) else (if bt153.2.2.2.1 = bt163.2.2.2.1 then (conventiclelaw16_BallotActs.j2 k2 l0 l1 a2 a3 x11_2 bt153.2.2.2.2.1 bt153.2.2.2.2.2.1 bt153.2.2.2.2.2.2.1 bt153.2.2.2.2.2.2.2 bt163.2.2.2.2.1 bt163.2.2.2.2.2.1 bt163.2.2.2.2.2.2.1 bt163.2.2.2.2.2.2.2) else (none))))))) = some r := by rw [← hbq18] at H; exact H
                  have Nbq18 := Aside0.mk hbq18
                  clear hbq18
                  (try rw [← Nbq18.out])
                  by_cases c19 : bq18 = true
                  · subst c19
                    have H1 : ((ballot_Acceptor_Accept.f x136000_2 x136001_2 x136002_2 x136003_2 ((rd_T36 l0 x11_2).f1) ((rd_T36 l0 x11_2).f2.f0) ((rd_T36 l0 x11_2).f2.f1)).bind fun bt140 => ((conventicleref16_Acceptor_Accept.f x137000_2 x137001_2 x137002_2 x137003_2 ((rd_T36 l0 x11_2).f1) ((rd_T36 l0 x11_2).f2.f0) ((rd_T36 l0 x11_2).f2.f1)).bind fun bt147 => (if bt140.1 = bt147.1 then (conventiclelaw16_BallotActs.j2 k2 l0 l1 a2 a3 x11_2 bt140.2.1 bt140.2.2.1 bt140.2.2.2.1 bt140.2.2.2.2 bt147.2.1 bt147.2.2.1 bt147.2.2.2.1 bt147.2.2.2.2) else (none)))) = some r := by rw [if_pos rfl] at H; exact H
                    clear H
                    have H := H1
                    clear H1
                    replace H := Option.bind_eq_some_iff.mp H
                    obtain ⟨⟨t140, t141, t142, t143, t144⟩, A200, H⟩ := H
                    replace H : ((conventicleref16_Acceptor_Accept.f x137000_2 x137001_2 x137002_2 x137003_2 ((rd_T36 l0 x11_2).f1) ((rd_T36 l0 x11_2).f2.f0) ((rd_T36 l0 x11_2).f2.f1)).bind fun bt147 => (if t140 = bt147.1 then (conventiclelaw16_BallotActs.j2 k2 l0 l1 a2 a3 x11_2 t141 t142 t143 t144 bt147.2.1 bt147.2.2.1 bt147.2.2.2.1 bt147.2.2.2.2) else (none))) = some r := H
                    have A20 := Aside0.mk A200
                    clear A200
                    replace H := Option.bind_eq_some_iff.mp H
                    obtain ⟨⟨t147, t148, t149, t150, t151⟩, A210, H⟩ := H
                    replace H : (if t140 = t147 then (conventiclelaw16_BallotActs.j2 k2 l0 l1 a2 a3 x11_2 t141 t142 t143 t144 t148 t149 t150 t151) else (none)) = some r := H
                    have A21 := Aside0.mk A210
                    clear A210
                    by_cases c22 : t140 = t147
                    · rw [if_pos c22] at H
                      have c22b0 : (t140 == t147) = true := beq_iff_eq.mpr c22
                      have c22b1 : (t140 != t147) = false := bne_eq_false_iff_eq.mpr c22
                      clear c22
                      have H' := Aside0.mk H
                      clear H
                      try go_wp2
                      have n0_ := Aside0.mk (IsS31.drew HI135.out)
                      have n1_ := Aside0.mk (IsS67.drew HI136.out)
                      have n2_ := Aside0.mk (below_drew1 HB.out)
                      clear HI135
                      clear HI136
                      clear HB
                      have HI135 := n0_
                      have HI136 := n1_
                      have HB := n2_
                      clear n0_ n1_ n2_
                      have p138 : 0 ≤ (x11_2 : Int) := of_decide_eq_true (by first | (with_reducible assumption) | assumption)
                      have q138 : x11_2 < (l0.length : Int) := of_decide_eq_true (by first | (with_reducible assumption) | assumption)
                      obtain ⟨ad138, e138, hx138_0, hx138_1, hx138_2, hx138_3⟩ := at_T36 HR0.out x11_2 p138 q138
                      have hw138_3 := hx138_3
                      have hw138_2 := hx138_2
                      have hw138_1 := hx138_1
                      have hw138_0 := hx138_0
                      (try rw [← Nbq18.out] at hw138_0)
                      (try rw [← Nbq18.out] at hx138_0)
                      obtain rfl : ad137 = ad138 := (by injection e138)
                      replace hx138_0 := (HB.out.cell (World.block_lt_of_cell? w _ hx138_0)).trans hx138_0
                      replace hx138_1 := (HB.out.cell (World.block_lt_of_cell? w _ hx138_1)).trans hx138_1
                      replace hx138_2 := (HB.out.cell (World.block_lt_of_cell? w _ hx138_2)).trans hx138_2
                      replace hx138_3 := (HB.out.cell (World.block_lt_of_cell? w _ hx138_3)).trans hx138_3
                      replace p138 := eq_true p138
                      replace q138 := eq_true q138
                      have p139 : 0 ≤ (x11_2 : Int) := of_decide_eq_true (by first | (with_reducible assumption) | assumption)
                      have q139 : x11_2 < (l0.length : Int) := of_decide_eq_true (by first | (with_reducible assumption) | assumption)
                      obtain ⟨ad139, e139, hx139_0, hx139_1, hx139_2, hx139_3⟩ := at_T36 HR0.out x11_2 p139 q139
                      have hw139_3 := hx139_3
                      have hw139_2 := hx139_2
                      have hw139_1 := hx139_1
                      have hw139_0 := hx139_0
                      (try rw [← Nbq18.out] at hw139_0)
                      (try rw [← Nbq18.out] at hx139_0)
                      obtain rfl : ad137 = ad139 := (by injection e139)
                      replace hx139_0 := (HB.out.cell (World.block_lt_of_cell? w _ hx139_0)).trans hx139_0
                      replace hx139_1 := (HB.out.cell (World.block_lt_of_cell? w _ hx139_1)).trans hx139_1
                      replace hx139_2 := (HB.out.cell (World.block_lt_of_cell? w _ hx139_2)).trans hx139_2
                      replace hx139_3 := (HB.out.cell (World.block_lt_of_cell? w _ hx139_3)).trans hx139_3
                      replace p139 := eq_true p139
                      replace q139 := eq_true q139
                      have p145 : 0 ≤ (x11_2 : Int) := of_decide_eq_true (by first | (with_reducible assumption) | assumption)
                      have q145 : x11_2 < (l0.length : Int) := of_decide_eq_true (by first | (with_reducible assumption) | assumption)
                      obtain ⟨ad145, e145, hx145_0, hx145_1, hx145_2, hx145_3⟩ := at_T36 HR0.out x11_2 p145 q145
                      have hw145_3 := hx145_3
                      have hw145_2 := hx145_2
                      have hw145_1 := hx145_1
                      have hw145_0 := hx145_0
                      (try rw [← Nbq18.out] at hw145_0)
                      (try rw [← Nbq18.out] at hx145_0)
                      obtain rfl : ad137 = ad145 := (by injection e145)
                      replace hx145_0 := (HB.out.cell (World.block_lt_of_cell? w _ hx145_0)).trans hx145_0
                      replace hx145_1 := (HB.out.cell (World.block_lt_of_cell? w _ hx145_1)).trans hx145_1
                      replace hx145_2 := (HB.out.cell (World.block_lt_of_cell? w _ hx145_2)).trans hx145_2
                      replace hx145_3 := (HB.out.cell (World.block_lt_of_cell? w _ hx145_3)).trans hx145_3
                      replace p145 := eq_true p145
                      replace q145 := eq_true q145
                      have p146 : 0 ≤ (x11_2 : Int) := of_decide_eq_true (by first | (with_reducible assumption) | assumption)
                      have q146 : x11_2 < (l0.length : Int) := of_decide_eq_true (by first | (with_reducible assumption) | assumption)
                      obtain ⟨ad146, e146, hx146_0, hx146_1, hx146_2, hx146_3⟩ := at_T36 HR0.out x11_2 p146 q146
                      have hw146_3 := hx146_3
                      have hw146_2 := hx146_2
                      have hw146_1 := hx146_1
                      have hw146_0 := hx146_0
                      (try rw [← Nbq18.out] at hw146_0)
                      (try rw [← Nbq18.out] at hx146_0)
                      obtain rfl : ad137 = ad146 := (by injection e146)
                      replace hx146_0 := (HB.out.cell (World.block_lt_of_cell? w _ hx146_0)).trans hx146_0
                      replace hx146_1 := (HB.out.cell (World.block_lt_of_cell? w _ hx146_1)).trans hx146_1
                      replace hx146_2 := (HB.out.cell (World.block_lt_of_cell? w _ hx146_2)).trans hx146_2
                      replace hx146_3 := (HB.out.cell (World.block_lt_of_cell? w _ hx146_3)).trans hx146_3
                      replace p146 := eq_true p146
                      replace q146 := eq_true q146
                      refine start_ (n := 25) (S := fun w' => w'.cell? (ad137.add ((x11_2).toNat * 4)) = some (.bool (true)) ∧ w'.cell? ⟨(ad137.add ((x11_2).toNat * 4)).block, (ad137.add ((x11_2).toNat * 4)).off + 1, none⟩ = some (.int .u64 ((rd_T36 l0 x11_2).f1)) ∧ w'.cell? ⟨(ad137.add ((x11_2).toNat * 4)).block, (ad137.add ((x11_2).toNat * 4)).off + 2, none⟩ = some (.int .u64 ((rd_T36 l0 x11_2).f2.f0)) ∧ w'.cell? ⟨(ad137.add ((x11_2).toNat * 4)).block, (ad137.add ((x11_2).toNat * 4)).off + 3, none⟩ = some (.int .u64 ((rd_T36 l0 x11_2).f2.f1)) ∧ w'.cell? (ad137.add ((x11_2).toNat * 4)) = some (.bool (true)) ∧ w'.cell? ⟨(ad137.add ((x11_2).toNat * 4)).block, (ad137.add ((x11_2).toNat * 4)).off + 1, none⟩ = some (.int .u64 ((rd_T36 l0 x11_2).f1)) ∧ w'.cell? ⟨(ad137.add ((x11_2).toNat * 4)).block, (ad137.add ((x11_2).toNat * 4)).off + 2, none⟩ = some (.int .u64 ((rd_T36 l0 x11_2).f2.f0)) ∧ w'.cell? ⟨(ad137.add ((x11_2).toNat * 4)).block, (ad137.add ((x11_2).toNat * 4)).off + 3, none⟩ = some (.int .u64 ((rd_T36 l0 x11_2).f2.f1)) ∧ w'.cell? (ad137.add ((x11_2).toNat * 4)) = some (.bool (true)) ∧ w'.cell? ⟨(ad137.add ((x11_2).toNat * 4)).block, (ad137.add ((x11_2).toNat * 4)).off + 1, none⟩ = some (.int .u64 ((rd_T36 l0 x11_2).f1)) ∧ w'.cell? ⟨(ad137.add ((x11_2).toNat * 4)).block, (ad137.add ((x11_2).toNat * 4)).off + 2, none⟩ = some (.int .u64 ((rd_T36 l0 x11_2).f2.f0)) ∧ w'.cell? ⟨(ad137.add ((x11_2).toNat * 4)).block, (ad137.add ((x11_2).toNat * 4)).off + 3, none⟩ = some (.int .u64 ((rd_T36 l0 x11_2).f2.f1)) ∧ w'.cell? (ad137.add ((x11_2).toNat * 4)) = some (.bool (true)) ∧ w'.cell? ⟨(ad137.add ((x11_2).toNat * 4)).block, (ad137.add ((x11_2).toNat * 4)).off + 1, none⟩ = some (.int .u64 ((rd_T36 l0 x11_2).f1)) ∧ w'.cell? ⟨(ad137.add ((x11_2).toNat * 4)).block, (ad137.add ((x11_2).toNat * 4)).off + 2, none⟩ = some (.int .u64 ((rd_T36 l0 x11_2).f2.f0)) ∧ w'.cell? ⟨(ad137.add ((x11_2).toNat * 4)).block, (ad137.add ((x11_2).toNat * 4)).off + 3, none⟩ = some (.int .u64 ((rd_T36 l0 x11_2).f2.f1))) (ds := []) #[false, false, false, false, false, false, false, false, false, false, false, false, false, false, false, false, false, false, false, false, false, false, false, false, false] (by kernel_rfl) rfl rfl ⟨((HB.out.cell (World.block_lt_of_cell? w _ hw138_0)).trans hw138_0), ((HB.out.cell (World.block_lt_of_cell? w _ hw138_1)).trans hw138_1), ((HB.out.cell (World.block_lt_of_cell? w _ hw138_2)).trans hw138_2), ((HB.out.cell (World.block_lt_of_cell? w _ hw138_3)).trans hw138_3), ((HB.out.cell (World.block_lt_of_cell? w _ hw139_0)).trans hw139_0), ((HB.out.cell (World.block_lt_of_cell? w _ hw139_1)).trans hw139_1), ((HB.out.cell (World.block_lt_of_cell? w _ hw139_2)).trans hw139_2), ((HB.out.cell (World.block_lt_of_cell? w _ hw139_3)).trans hw139_3), ((HB.out.cell (World.block_lt_of_cell? w _ hw145_0)).trans hw145_0), ((HB.out.cell (World.block_lt_of_cell? w _ hw145_1)).trans hw145_1), ((HB.out.cell (World.block_lt_of_cell? w _ hw145_2)).trans hw145_2), ((HB.out.cell (World.block_lt_of_cell? w _ hw145_3)).trans hw145_3), ((HB.out.cell (World.block_lt_of_cell? w _ hw146_0)).trans hw146_0), ((HB.out.cell (World.block_lt_of_cell? w _ hw146_1)).trans hw146_1), ((HB.out.cell (World.block_lt_of_cell? w _ hw146_2)).trans hw146_2), ((HB.out.cell (World.block_lt_of_cell? w _ hw146_3)).trans hw146_3)⟩ (fun hHeld => ?_); refine with_tabW conventiclelaw16_BallotActs.tab9 conventiclelaw16_BallotActs.bits9 (fun HT_ HW_ => ?_)
                      generalize wr.drew = w23 at HI135 HI136 HB hx138_0 hx138_1 hx138_2 hx138_3 hx139_0 hx139_1 hx139_2 hx139_3 hx145_0 hx145_1 hx145_2 hx145_3 hx146_0 hx146_1 hx146_2 hx146_3 hHeld ⊢
                      refine pure_ (i := 0) (N := some 60) (v := ?_) (a' := ?_) #[true, false, false, false, false, false, false, false, false, false, false, false, false, false, false, false, false, false, false, false, false, false, false, false, false] rfl rfl (any_of HT_.out (by kernel_rfl)) (fun _ _ _ h => h) (Or.inl ⟨by rfl, ?_⟩) ?_ ?_
                      rotate_left
                      · intro w'
                        go_simp
                        with_reducible rfl
                      rotate_left
                      · simp only [Act.put, List.setIfInBounds_toArray, List.set_cons_zero, List.set_cons_succ, i64_w, i32_w]
                        rfl
                      refine pure_ (i := 1) (N := some 61) (v := ?_) (a' := ?_) #[true, true, false, false, false, false, false, false, false, false, false, false, false, false, false, false, false, false, false, false, false, false, false, false, false] rfl rfl (any_of HT_.out (by kernel_rfl)) (fun _ _ _ h => h) (Or.inl ⟨by rfl, ?_⟩) ?_ ?_
                      rotate_left
                      · intro w'
                        go_simp
                        with_reducible rfl
                      rotate_left
                      · simp only [Act.put, List.setIfInBounds_toArray, List.set_cons_zero, List.set_cons_succ, i64_w, i32_w]
                        rfl
                      refine pure_ (i := 2) (N := some 62) (v := ?_) (a' := ?_) #[true, true, true, false, false, false, false, false, false, false, false, false, false, false, false, false, false, false, false, false, false, false, false, false, false] rfl rfl (any_of HT_.out (by kernel_rfl)) (fun _ _ _ h => h) (Or.inl ⟨by rfl, ?_⟩) ?_ ?_
                      rotate_left
                      · intro w'
                        go_simp
                        with_reducible rfl
                      rotate_left
                      · simp only [Act.put, List.setIfInBounds_toArray, List.set_cons_zero, List.set_cons_succ, i64_w, i32_w]
                        rfl
                      refine pure_ (i := 3) (N := some 63) (v := ?_) (a' := ?_) #[true, true, true, true, false, false, false, false, false, false, false, false, false, false, false, false, false, false, false, false, false, false, false, false, false] rfl rfl (any_of HT_.out (by kernel_rfl)) (fun _ _ _ h => h) (Or.inl ⟨by rfl, ?_⟩) ?_ ?_
                      rotate_left
                      · intro w'
                        go_simp
                        with_reducible rfl
                      rotate_left
                      · simp only [Act.put, List.setIfInBounds_toArray, List.set_cons_zero, List.set_cons_succ, i64_w, i32_w]
                        rfl
                      refine pure_ (i := 4) (N := some 64) (v := ?_) (a' := ?_) #[true, true, true, true, true, false, false, false, false, false, false, false, false, false, false, false, false, false, false, false, false, false, false, false, false] rfl rfl (any_of HT_.out (by kernel_rfl)) (fun _ _ _ h => h) (Or.inl ⟨by rfl, ?_⟩) ?_ ?_
                      rotate_left
                      · intro w'
                        go_simp
                        with_reducible rfl
                      rotate_left
                      · simp only [Act.put, List.setIfInBounds_toArray, List.set_cons_zero, List.set_cons_succ, i64_w, i32_w]
                        rfl
                      refine pure_ (i := 6) (N := some 66) (v := ?_) (a' := ?_) #[true, true, true, true, true, false, true, false, false, false, false, false, false, false, false, false, false, false, false, false, false, false, false, false, false] rfl rfl (any_of HT_.out (by kernel_rfl)) (fun _ _ _ h => h) (Or.inl ⟨by rfl, ?_⟩) ?_ ?_
                      rotate_left
                      · intro w'
                        go_simp
                        with_reducible rfl
                      rotate_left
                      · simp only [Act.put, List.setIfInBounds_toArray, List.set_cons_zero, List.set_cons_succ, i64_w, i32_w]
                        rfl
                      refine pure_ (i := 7) (N := some 67) (v := ?_) (a' := ?_) #[true, true, true, true, true, false, true, true, false, false, false, false, false, false, false, false, false, false, false, false, false, false, false, false, false] rfl rfl (any_of HT_.out (by kernel_rfl)) (fun _ _ _ h => h) (Or.inl ⟨by rfl, ?_⟩) ?_ ?_
                      rotate_left
                      · intro w'
                        go_simp
                        with_reducible rfl
                      rotate_left
                      · simp only [Act.put, List.setIfInBounds_toArray, List.set_cons_zero, List.set_cons_succ, i64_w, i32_w]
                        rfl
                      refine pure_ (i := 8) (N := some 68) (v := ?_) (a' := ?_) #[true, true, true, true, true, false, true, true, true, false, false, false, false, false, false, false, false, false, false, false, false, false, false, false, false] rfl rfl (any_of HT_.out (by kernel_rfl)) (fun _ _ _ h => h) (Or.inl ⟨by rfl, ?_⟩) ?_ ?_
                      rotate_left
                      · intro w'
                        go_simp
                        with_reducible rfl
                      rotate_left
                      · simp only [Act.put, List.setIfInBounds_toArray, List.set_cons_zero, List.set_cons_succ, i64_w, i32_w]
                        rfl
                      refine pure_ (i := 9) (N := some 69) (v := ?_) (a' := ?_) #[true, true, true, true, true, false, true, true, true, true, false, false, false, false, false, false, false, false, false, false, false, false, false, false, false] rfl rfl (any_of HT_.out (by kernel_rfl)) (fun _ _ _ h => h) (Or.inl ⟨by rfl, ?_⟩) ?_ ?_
                      rotate_left
                      · intro w'
                        go_simp
                        with_reducible rfl
                      rotate_left
                      · simp only [Act.put, List.setIfInBounds_toArray, List.set_cons_zero, List.set_cons_succ, i64_w, i32_w]
                        rfl
                      refine pure_ (i := 12) (N := some 72) (v := ?_) (a' := ?_) #[true, true, true, true, true, false, true, true, true, true, false, false, true, false, false, false, false, false, false, false, false, false, false, false, false] rfl rfl (any_of HT_.out (by kernel_rfl)) (fun _ _ _ h => h) (Or.inl ⟨by rfl, ?_⟩) ?_ ?_
                      rotate_left
                      · intro w'
                        go_simp
                        with_reducible rfl
                      rotate_left
                      · simp only [Act.put, List.setIfInBounds_toArray, List.set_cons_zero, List.set_cons_succ, i64_w, i32_w]
                        rfl
                      refine pure_ (i := 13) (N := some 73) (v := ?_) (a' := ?_) #[true, true, true, true, true, false, true, true, true, true, false, false, true, true, false, false, false, false, false, false, false, false, false, false, false] rfl rfl (any_of HT_.out (by kernel_rfl)) (fun _ _ _ h => h) (Or.inl ⟨by rfl, ?_⟩) ?_ ?_
                      rotate_left
                      · intro w'
                        go_simp
                        with_reducible rfl
                      rotate_left
                      · simp only [Act.put, List.setIfInBounds_toArray, List.set_cons_zero, List.set_cons_succ, i64_w, i32_w]
                        rfl
                      refine pure_ (i := 14) (N := some 74) (v := ?_) (a' := ?_) #[true, true, true, true, true, false, true, true, true, true, false, false, true, true, true, false, false, false, false, false, false, false, false, false, false] rfl rfl (any_of HT_.out (by kernel_rfl)) (fun _ _ _ h => h) (Or.inl ⟨by rfl, ?_⟩) ?_ ?_
                      rotate_left
                      · intro w'
                        go_simp
                        with_reducible rfl
                      rotate_left
                      · simp only [Act.put, List.setIfInBounds_toArray, List.set_cons_zero, List.set_cons_succ, i64_w, i32_w]
                        rfl
                      refine pure_ (i := 15) (N := some 75) (v := ?_) (a' := ?_) #[true, true, true, true, true, false, true, true, true, true, false, false, true, true, true, true, false, false, false, false, false, false, false, false, false] rfl rfl (any_of HT_.out (by kernel_rfl)) (fun _ _ _ h => h) (Or.inl ⟨by rfl, ?_⟩) ?_ ?_
                      rotate_left
                      · intro w'
                        go_simp
                        with_reducible rfl
                      rotate_left
                      · simp only [Act.put, List.setIfInBounds_toArray, List.set_cons_zero, List.set_cons_succ, i64_w, i32_w]
                        rfl
                      refine pure_ (i := 16) (N := some 76) (v := ?_) (a' := ?_) #[true, true, true, true, true, false, true, true, true, true, false, false, true, true, true, true, true, false, false, false, false, false, false, false, false] rfl rfl (any_of HT_.out (by kernel_rfl)) (fun _ _ _ h => h) (Or.inl ⟨by rfl, ?_⟩) ?_ ?_
                      rotate_left
                      · intro w'
                        go_simp
                        with_reducible rfl
                      rotate_left
                      · simp only [Act.put, List.setIfInBounds_toArray, List.set_cons_zero, List.set_cons_succ, i64_w, i32_w]
                        rfl
                      refine pure_ (i := 18) (N := some 78) (v := ?_) (a' := ?_) #[true, true, true, true, true, false, true, true, true, true, false, false, true, true, true, true, true, false, true, false, false, false, false, false, false] rfl rfl (any_of HT_.out (by kernel_rfl)) (fun _ _ _ h => h) (Or.inl ⟨by rfl, ?_⟩) ?_ ?_
                      rotate_left
                      · intro w'
                        go_simp
                        with_reducible rfl
                      rotate_left
                      · simp only [Act.put, List.setIfInBounds_toArray, List.set_cons_zero, List.set_cons_succ, i64_w, i32_w]
                        rfl
                      refine pure_ (i := 19) (N := some 79) (v := ?_) (a' := ?_) #[true, true, true, true, true, false, true, true, true, true, false, false, true, true, true, true, true, false, true, true, false, false, false, false, false] rfl rfl (any_of HT_.out (by kernel_rfl)) (fun _ _ _ h => h) (Or.inl ⟨by rfl, ?_⟩) ?_ ?_
                      rotate_left
                      · intro w'
                        go_simp
                        with_reducible rfl
                      rotate_left
                      · simp only [Act.put, List.setIfInBounds_toArray, List.set_cons_zero, List.set_cons_succ, i64_w, i32_w]
                        rfl
                      refine pure_ (i := 20) (N := some 80) (v := ?_) (a' := ?_) #[true, true, true, true, true, false, true, true, true, true, false, false, true, true, true, true, true, false, true, true, true, false, false, false, false] rfl rfl (any_of HT_.out (by kernel_rfl)) (fun _ _ _ h => h) (Or.inl ⟨by rfl, ?_⟩) ?_ ?_
                      rotate_left
                      · intro w'
                        go_simp
                        with_reducible rfl
                      rotate_left
                      · simp only [Act.put, List.setIfInBounds_toArray, List.set_cons_zero, List.set_cons_succ, i64_w, i32_w]
                        rfl
                      refine pure_ (i := 21) (N := some 81) (v := ?_) (a' := ?_) #[true, true, true, true, true, false, true, true, true, true, false, false, true, true, true, true, true, false, true, true, true, true, false, false, false] rfl rfl (any_of HT_.out (by kernel_rfl)) (fun _ _ _ h => h) (Or.inl ⟨by rfl, ?_⟩) ?_ ?_
                      rotate_left
                      · intro w'
                        go_simp
                        with_reducible rfl
                      rotate_left
                      · simp only [Act.put, List.setIfInBounds_toArray, List.set_cons_zero, List.set_cons_succ, i64_w, i32_w]
                        rfl
                      refine take_ (i := 5) (N := some 65) (v := ?_) (a' := ?_) #[true, true, true, true, true, true, true, true, true, true, false, false, true, true, true, true, true, false, true, true, true, true, false, false, false] rfl rfl (take_ofW HT_.out HW_.out (by kernel_rfl)) (fun _ _ _ h => h) (Or.inl ⟨by rfl, ?_⟩) hHeld ?_ ?_
                      rotate_left
                      · rintro w' ⟨s0, s1, s2, s3, s4, s5, s6, s7, s8, s9, s10, s11, s12, s13, s14, s15⟩
                        go_simp
                        with_reducible rfl
                      rotate_left
                      · simp only [Act.put, List.setIfInBounds_toArray, List.set_cons_zero, List.set_cons_succ, i64_w, i32_w]
                        rfl
                      refine take_ (i := 10) (N := some 70) (v := ?_) (a' := ?_) #[true, true, true, true, true, true, true, true, true, true, true, false, true, true, true, true, true, false, true, true, true, true, false, false, false] rfl rfl (take_ofW HT_.out HW_.out (by kernel_rfl)) (fun _ _ _ h => h) (Or.inl ⟨by rfl, ?_⟩) hHeld ?_ ?_
                      rotate_left
                      · rintro w' ⟨s0, s1, s2, s3, s4, s5, s6, s7, s8, s9, s10, s11, s12, s13, s14, s15⟩
                        go_simp
                        with_reducible rfl
                      rotate_left
                      · simp only [Act.put, List.setIfInBounds_toArray, List.set_cons_zero, List.set_cons_succ, i64_w, i32_w]
                        rfl
                      refine take_ (i := 17) (N := some 77) (v := ?_) (a' := ?_) #[true, true, true, true, true, true, true, true, true, true, true, false, true, true, true, true, true, true, true, true, true, true, false, false, false] rfl rfl (take_ofW HT_.out HW_.out (by kernel_rfl)) (fun _ _ _ h => h) (Or.inl ⟨by rfl, ?_⟩) hHeld ?_ ?_
                      rotate_left
                      · rintro w' ⟨s0, s1, s2, s3, s4, s5, s6, s7, s8, s9, s10, s11, s12, s13, s14, s15⟩
                        go_simp
                        with_reducible rfl
                      rotate_left
                      · simp only [Act.put, List.setIfInBounds_toArray, List.set_cons_zero, List.set_cons_succ, i64_w, i32_w]
                        rfl
                      refine take_ (i := 22) (N := some 82) (v := ?_) (a' := ?_) #[true, true, true, true, true, true, true, true, true, true, true, false, true, true, true, true, true, true, true, true, true, true, true, false, false] rfl rfl (take_ofW HT_.out HW_.out (by kernel_rfl)) (fun _ _ _ h => h) (Or.inl ⟨by rfl, ?_⟩) hHeld ?_ ?_
                      rotate_left
                      · rintro w' ⟨s0, s1, s2, s3, s4, s5, s6, s7, s8, s9, s10, s11, s12, s13, s14, s15⟩
                        go_simp
                        with_reducible rfl
                      rotate_left
                      · simp only [Act.put, List.setIfInBounds_toArray, List.set_cons_zero, List.set_cons_succ, i64_w, i32_w]
                        rfl
                      refine one_ (i := 11) (N := some 71) #[true, true, true, true, true, true, true, true, true, true, true, true, true, true, true, true, true, true, true, true, true, true, true, false, false] rfl rfl (one_of HT_.out (by kernel_rfl)) (by decide) (fun K hK => ?_)
                      refine goes_ Try.func11 (by kernel_rfl) rfl #[.pointer (some ⟨gb135, 0, none⟩), .int .u64 ((rd_T36 l0 x11_2).f1), .agg #[.int .u64 ((rd_T36 l0 x11_2).f2.f0), .int .u64 ((rd_T36 l0 x11_2).f2.f1)]] (by rfl) rfl rfl (by (try simp only [List.map_toArray, List.map_cons, List.map_nil]); first | done | rfl | (simp only [List.length_drop, List.length_take]; rfl)) ?_
                      with_reducible refine (ballot_Acceptor_Accept.calls gb135 x136000_2 x136001_2 x136002_2 x136003_2 ((rd_T36 l0 x11_2).f1) ((rd_T36 l0 x11_2).f2.f0) ((rd_T36 l0 x11_2).f2.f1) t140 t141 t142 t143 t144 w _ ?side1 ?side2 A20.out).mono ?_
                      (case side1 => repeat (first | (with_reducible first | exact HI135.out | apply IsS31.alloc | apply IsS31.drewN | apply IsS31.drew | apply IsS31.set_0 | apply IsS31.set_1 | apply IsS31.set_2 | apply IsS31.set_3 | refine IsS31.far ?_ NB135_136.out _) | exact HI135.out))
                      (case side2 => repeat (first | (with_reducible first | exact HB.out | apply below_alloc | apply pw_below_drewN | apply below_drew1 | refine below_set ?_ (IsS31.ge HI135.out) | refine below_set ?_ (IsS67.ge HI136.out)) | exact HB.out))
                      rintro e w24 ⟨rfl, hi, hb, hk⟩
                      refine ⟨_, rfl, ?_⟩
                      have n0_ := Aside0.mk (IsS67.keepO (show IsS67 w _ gb136 x137000_2 x137001_2 x137002_2 x137003_2 from by repeat (first | (with_reducible first | exact HI136.out | apply IsS67.alloc | apply IsS67.drewN | apply IsS67.drew | apply IsS67.set_0 | apply IsS67.set_1 | apply IsS67.set_2 | apply IsS67.set_3 | refine IsS67.far ?_ NB136_135.out _) | exact HI136.out)) hk NB136_135.out)
                      have n1_ := Aside0.mk (hb)
                      have n2_ := Aside0.mk (hi)
                      clear HI136
                      clear HB
                      clear HI135
                      have HI136 := n0_
                      have HB := n1_
                      have HI135 := n2_
                      clear n0_ n1_ n2_
                      (try clear hb)
                      (try clear hb2)
                      (try clear hk)
                      (try clear hi)
                      refine hK.out _ _ ⟨((HB.out.cell (World.block_lt_of_cell? w _ hw138_0)).trans hw138_0), ((HB.out.cell (World.block_lt_of_cell? w _ hw138_1)).trans hw138_1), ((HB.out.cell (World.block_lt_of_cell? w _ hw138_2)).trans hw138_2), ((HB.out.cell (World.block_lt_of_cell? w _ hw138_3)).trans hw138_3), ((HB.out.cell (World.block_lt_of_cell? w _ hw139_0)).trans hw139_0), ((HB.out.cell (World.block_lt_of_cell? w _ hw139_1)).trans hw139_1), ((HB.out.cell (World.block_lt_of_cell? w _ hw139_2)).trans hw139_2), ((HB.out.cell (World.block_lt_of_cell? w _ hw139_3)).trans hw139_3), ((HB.out.cell (World.block_lt_of_cell? w _ hw145_0)).trans hw145_0), ((HB.out.cell (World.block_lt_of_cell? w _ hw145_1)).trans hw145_1), ((HB.out.cell (World.block_lt_of_cell? w _ hw145_2)).trans hw145_2), ((HB.out.cell (World.block_lt_of_cell? w _ hw145_3)).trans hw145_3), ((HB.out.cell (World.block_lt_of_cell? w _ hw146_0)).trans hw146_0), ((HB.out.cell (World.block_lt_of_cell? w _ hw146_1)).trans hw146_1), ((HB.out.cell (World.block_lt_of_cell? w _ hw146_2)).trans hw146_2), ((HB.out.cell (World.block_lt_of_cell? w _ hw146_3)).trans hw146_3)⟩ (fun hHeld => ?_)
                      clear hK K
                      refine norm_ (a' := ?_) ?_ ?_
                      rotate_left
                      · show Act.put _ (some 71) _ = _
                        simp only [Act.put, List.setIfInBounds_toArray, List.set_cons_zero, List.set_cons_succ, i64_w, i32_w]
                        rfl
                      refine one_ (i := 23) (N := some 83) #[true, true, true, true, true, true, true, true, true, true, true, true, true, true, true, true, true, true, true, true, true, true, true, true, false] rfl rfl (one_of HT_.out (by kernel_rfl)) (by decide) (fun K hK => ?_)
                      refine goes_ Try.func19 (by kernel_rfl) rfl #[.pointer (some ⟨gb136, 0, none⟩), .int .u64 ((rd_T36 l0 x11_2).f1), .agg #[.int .u64 ((rd_T36 l0 x11_2).f2.f0), .int .u64 ((rd_T36 l0 x11_2).f2.f1)]] (by rfl) rfl rfl (by (try simp only [List.map_toArray, List.map_cons, List.map_nil]); first | done | rfl | (simp only [List.length_drop, List.length_take]; rfl)) ?_
                      with_reducible refine (conventicleref16_Acceptor_Accept.calls gb136 x137000_2 x137001_2 x137002_2 x137003_2 ((rd_T36 l0 x11_2).f1) ((rd_T36 l0 x11_2).f2.f0) ((rd_T36 l0 x11_2).f2.f1) t147 t148 t149 t150 t151 w _ ?side1 ?side2 A21.out).mono ?_
                      (case side1 => repeat (first | (with_reducible first | exact HI136.out | apply IsS67.alloc | apply IsS67.drewN | apply IsS67.drew | apply IsS67.set_0 | apply IsS67.set_1 | apply IsS67.set_2 | apply IsS67.set_3 | refine IsS67.far ?_ NB136_135.out _) | exact HI136.out))
                      (case side2 => repeat (first | (with_reducible first | exact HB.out | apply below_alloc | apply pw_below_drewN | apply below_drew1 | refine below_set ?_ (IsS31.ge HI135.out) | refine below_set ?_ (IsS67.ge HI136.out)) | exact HB.out))
                      rintro e w25 ⟨rfl, hi, hb, hk⟩
                      refine ⟨_, rfl, ?_⟩
                      have n0_ := Aside0.mk (IsS31.keepO (show IsS31 w _ gb135 t141 t142 t143 t144 from by repeat (first | (with_reducible first | exact HI135.out | apply IsS31.alloc | apply IsS31.drewN | apply IsS31.drew | apply IsS31.set_0 | apply IsS31.set_1 | apply IsS31.set_2 | apply IsS31.set_3 | refine IsS31.far ?_ NB135_136.out _) | exact HI135.out)) hk NB135_136.out)
                      have n1_ := Aside0.mk (hb)
                      have n2_ := Aside0.mk (hi)
                      clear HI135
                      clear HB
                      clear HI136
                      have HI135 := n0_
                      have HB := n1_
                      have HI136 := n2_
                      clear n0_ n1_ n2_
                      (try clear hb)
                      (try clear hb2)
                      (try clear hk)
                      (try clear hi)
                      refine hK.out _ _ ⟨((HB.out.cell (World.block_lt_of_cell? w _ hw138_0)).trans hw138_0), ((HB.out.cell (World.block_lt_of_cell? w _ hw138_1)).trans hw138_1), ((HB.out.cell (World.block_lt_of_cell? w _ hw138_2)).trans hw138_2), ((HB.out.cell (World.block_lt_of_cell? w _ hw138_3)).trans hw138_3), ((HB.out.cell (World.block_lt_of_cell? w _ hw139_0)).trans hw139_0), ((HB.out.cell (World.block_lt_of_cell? w _ hw139_1)).trans hw139_1), ((HB.out.cell (World.block_lt_of_cell? w _ hw139_2)).trans hw139_2), ((HB.out.cell (World.block_lt_of_cell? w _ hw139_3)).trans hw139_3), ((HB.out.cell (World.block_lt_of_cell? w _ hw145_0)).trans hw145_0), ((HB.out.cell (World.block_lt_of_cell? w _ hw145_1)).trans hw145_1), ((HB.out.cell (World.block_lt_of_cell? w _ hw145_2)).trans hw145_2), ((HB.out.cell (World.block_lt_of_cell? w _ hw145_3)).trans hw145_3), ((HB.out.cell (World.block_lt_of_cell? w _ hw146_0)).trans hw146_0), ((HB.out.cell (World.block_lt_of_cell? w _ hw146_1)).trans hw146_1), ((HB.out.cell (World.block_lt_of_cell? w _ hw146_2)).trans hw146_2), ((HB.out.cell (World.block_lt_of_cell? w _ hw146_3)).trans hw146_3)⟩ (fun hHeld => ?_)
                      clear hK K
                      refine norm_ (a' := ?_) ?_ ?_
                      rotate_left
                      · show Act.put _ (some 83) _ = _
                        simp only [Act.put, List.setIfInBounds_toArray, List.set_cons_zero, List.set_cons_succ, i64_w, i32_w]
                        rfl
                      refine pure_ (i := 24) (N := some 84) (v := ?_) (a' := ?_) #[true, true, true, true, true, true, true, true, true, true, true, true, true, true, true, true, true, true, true, true, true, true, true, true, true] rfl rfl (any_of HT_.out (by kernel_rfl)) (fun _ _ _ h => h) (Or.inl ⟨by rfl, ?_⟩) ?_ ?_
                      rotate_left
                      · intro w'
                        go_simp
                        with_reducible rfl
                      rotate_left
                      · simp only [Act.put, List.setIfInBounds_toArray, List.set_cons_zero, List.set_cons_succ, i64_w, i32_w]
                        rfl
                      refine done_ (done_of HT_.out (by kernel_rfl)) ?_
                      try go_wp2
                      go_meet
                      case rel => exact ⟨_, (t141), (t142), (t143), (t144), (t148), (t149), (t150), (t151), H', ⟨by have := HJ4.out; have := HK2.out; first | omega | exact Nat.le_refl _⟩, ⟨by repeat (first | (with_reducible first | exact HI135.out | apply IsS31.alloc | apply IsS31.drewN | apply IsS31.drew | apply IsS31.set_0 | apply IsS31.set_1 | apply IsS31.set_2 | apply IsS31.set_3 | refine IsS31.far ?_ NB135_136.out _) | exact HI135.out)⟩, ⟨by repeat (first | (with_reducible first | exact HI136.out | apply IsS67.alloc | apply IsS67.drewN | apply IsS67.drew | apply IsS67.set_0 | apply IsS67.set_1 | apply IsS67.set_2 | apply IsS67.set_3 | refine IsS67.far ?_ NB136_135.out _) | exact HI136.out)⟩, ⟨by repeat (first | (with_reducible first | exact HB.out | apply below_alloc | apply pw_below_drewN | apply below_drew1 | refine below_set ?_ (IsS31.ge HI135.out) | refine below_set ?_ (IsS67.ge HI136.out)) | exact HB.out)⟩⟩
                    · rw [if_neg c22] at H
                      exact absurd H (by simp)
                  · replace c19 := Bool.eq_false_iff.mpr c19
                    subst c19
                    have H1 : ((ballot_Acceptor_Prepare.f x136000_2 x136001_2 x136002_2 x136003_2 ((rd_T36 l0 x11_2).f1)).bind fun bt153 => ((conventicleref16_Acceptor_Prepare.f x137000_2 x137001_2 x137002_2 x137003_2 ((rd_T36 l0 x11_2).f1)).bind fun bt163 => ((conventiclelaw16_theirs.f bt153.1 bt153.2.1 bt153.2.2.1).bind fun bt172 => (if (!(bt172.1 == bt163.1) || ((!(bt172.2.1 == bt163.2.1) || (!(bt172.2.2 == bt163.2.2.1))))) = true then (none) else (if bt153.2.2.2.1 = bt163.2.2.2.1 then (conventiclelaw16_BallotActs.j2 k2 l0 l1 a2 a3 x11_2 bt153.2.2.2.2.1 bt153.2.2.2.2.2.1 bt153.2.2.2.2.2.2.1 bt153.2.2.2.2.2.2.2 bt163.2.2.2.2.1 bt163.2.2.2.2.2.1 bt163.2.2.2.2.2.2.1 bt163.2.2.2.2.2.2.2) else (none)))))) = some r := by rw [if_neg (show ¬ (false = true) by decide)] at H; exact H
                    clear H
                    have H := H1
                    clear H1
                    replace H := Option.bind_eq_some_iff.mp H
                    obtain ⟨⟨t153, t154, t155, t156, t157, t158, t159, t160⟩, A260, H⟩ := H
                    replace H : ((conventicleref16_Acceptor_Prepare.f x137000_2 x137001_2 x137002_2 x137003_2 ((rd_T36 l0 x11_2).f1)).bind fun bt163 => ((conventiclelaw16_theirs.f t153 t154 t155).bind fun bt172 => (if (!(bt172.1 == bt163.1) || ((!(bt172.2.1 == bt163.2.1) || (!(bt172.2.2 == bt163.2.2.1))))) = true then (none) else (if t156 = bt163.2.2.2.1 then (conventiclelaw16_BallotActs.j2 k2 l0 l1 a2 a3 x11_2 t157 t158 t159 t160 bt163.2.2.2.2.1 bt163.2.2.2.2.2.1 bt163.2.2.2.2.2.2.1 bt163.2.2.2.2.2.2.2) else (none))))) = some r := H
                    have A26 := Aside0.mk A260
                    clear A260
                    replace H := Option.bind_eq_some_iff.mp H
                    obtain ⟨⟨t163, t164, t165, t166, t167, t168, t169, t170⟩, A270, H⟩ := H
                    replace H : ((conventiclelaw16_theirs.f t153 t154 t155).bind fun bt172 => (if (!(bt172.1 == t163) || ((!(bt172.2.1 == t164) || (!(bt172.2.2 == t165))))) = true then (none) else (if t156 = t166 then (conventiclelaw16_BallotActs.j2 k2 l0 l1 a2 a3 x11_2 t157 t158 t159 t160 t167 t168 t169 t170) else (none)))) = some r := H
                    have A27 := Aside0.mk A270
                    clear A270
                    replace H := Option.bind_eq_some_iff.mp H
                    obtain ⟨⟨t172, t173, t174⟩, A280, H⟩ := H
                    replace H : (if (!(t172 == t163) || ((!(t173 == t164) || (!(t174 == t165))))) = true then (none) else (if t156 = t166 then (conventiclelaw16_BallotActs.j2 k2 l0 l1 a2 a3 x11_2 t157 t158 t159 t160 t167 t168 t169 t170) else (none))) = some r := H
                    have A28 := Aside0.mk A280
                    clear A280
                    by_cases c29 : (!(t172 == t163) || ((!(t173 == t164) || (!(t174 == t165))))) = true
                    · rw [if_pos c29] at H
                      exact absurd H (by simp)
                    · rw [if_neg c29] at H
                      have c29b0 : (!(t172 == t163) || ((!(t173 == t164) || (!(t174 == t165))))) = false := by simpa using c29
                      clear c29
                      by_cases c30 : t156 = t166
                      · rw [if_pos c30] at H
                        have c30b0 : (t156 == t166) = true := beq_iff_eq.mpr c30
                        have c30b1 : (t156 != t166) = false := bne_eq_false_iff_eq.mpr c30
                        clear c30
                        have H' := Aside0.mk H
                        clear H
                        have p152 : 0 ≤ (x11_2 : Int) := of_decide_eq_true (by first | (with_reducible assumption) | assumption)
                        have q152 : x11_2 < (l0.length : Int) := of_decide_eq_true (by first | (with_reducible assumption) | assumption)
                        obtain ⟨ad152, e152, hx152_0, hx152_1, hx152_2, hx152_3⟩ := at_T36 HR0.out x11_2 p152 q152
                        (try rw [← Nbq18.out] at hx152_0)
                        obtain rfl : ad137 = ad152 := (by injection e152)
                        replace hx152_0 := (HB.out.cell (World.block_lt_of_cell? w _ hx152_0)).trans hx152_0
                        replace hx152_1 := (HB.out.cell (World.block_lt_of_cell? w _ hx152_1)).trans hx152_1
                        replace hx152_2 := (HB.out.cell (World.block_lt_of_cell? w _ hx152_2)).trans hx152_2
                        replace hx152_3 := (HB.out.cell (World.block_lt_of_cell? w _ hx152_3)).trans hx152_3
                        replace p152 := eq_true p152
                        replace q152 := eq_true q152
                        try go_wp2_with (first | ((with_reducible refine gate_callee (f := 12) rfl ?_); refine goesL_ (some 92) rfl rfl Try.func12 (by kernel_rfl) rfl #[.pointer (some ⟨gb135, 0, none⟩), .int .u64 ((rd_T36 l0 x11_2).f1)] rfl (by (try simp only [List.map_toArray, List.map_cons, List.map_nil]); first | done | rfl | (simp only [List.length_drop, List.length_take]; rfl)) ?_; (with_reducible refine (ballot_Acceptor_Prepare.calls gb135 x136000_2 x136001_2 x136002_2 x136003_2 ((rd_T36 l0 x11_2).f1) t153 t154 t155 t156 t157 t158 t159 t160 w _ ?side1 ?side2 A26.out).mono ?_); (case side1 => repeat (first | (with_reducible first | exact HI135.out | apply IsS31.alloc | apply IsS31.drewN | apply IsS31.drew | apply IsS31.set_0 | apply IsS31.set_1 | apply IsS31.set_2 | apply IsS31.set_3 | refine IsS31.far ?_ NB135_136.out _) | exact HI135.out)); (case side2 => repeat (first | (with_reducible first | exact HB.out | apply below_alloc | apply pw_below_drewN | apply below_drew1 | refine below_set ?_ (IsS31.ge HI135.out) | refine below_set ?_ (IsS67.ge HI136.out)) | exact HB.out)); rintro e w31 ⟨rfl, hi, hb, hk⟩; refine ⟨_, rfl, ?_⟩; have n0_ := Aside0.mk (IsS67.keepO (show IsS67 w _ gb136 x137000_2 x137001_2 x137002_2 x137003_2 from by repeat (first | (with_reducible first | exact HI136.out | apply IsS67.alloc | apply IsS67.drewN | apply IsS67.drew | apply IsS67.set_0 | apply IsS67.set_1 | apply IsS67.set_2 | apply IsS67.set_3 | refine IsS67.far ?_ NB136_135.out _) | exact HI136.out)) hk NB136_135.out); have n1_ := Aside0.mk (hb); have n2_ := Aside0.mk (hi); clear HI136; clear HB; clear HI135; have HI136 := n0_; have HB := n1_; have HI135 := n2_; clear n0_ n1_ n2_; (try clear hb); (try clear hb2); (try clear hk); (try clear hi)) | ((with_reducible refine gate_dst (N := 12) rfl ?_); (try (refine gate_guard (by rfl) ?_; dsimp only)); refine box_event ?hg (N := 12) ?hd (cs := #[.int .u64 0, .int .u64 0, .int .u64 0]) (t := 29) ?hr ?_; (case hd => rfl); (case hg => rfl); (case hr => first | (go_simp; done) | (go_simp; rfl)); intro gb161 hg w32 hbox hb; have n0_ := Aside0.mk (IsS31.below (by repeat (first | (with_reducible first | exact HI135.out | apply IsS31.alloc | apply IsS31.drewN | apply IsS31.drew | apply IsS31.set_0 | apply IsS31.set_1 | apply IsS31.set_2 | apply IsS31.set_3 | refine IsS31.far ?_ NB135_136.out _) | exact HI135.out)) hb); have n1_ := Aside0.mk (IsS67.below (by repeat (first | (with_reducible first | exact HI136.out | apply IsS67.alloc | apply IsS67.drewN | apply IsS67.drew | apply IsS67.set_0 | apply IsS67.set_1 | apply IsS67.set_2 | apply IsS67.set_3 | refine IsS67.far ?_ NB136_135.out _) | exact HI136.out)) hb); have n2_ := Aside0.mk (below_step (by repeat (first | (with_reducible first | exact HB.out | apply below_alloc | apply pw_below_drewN | apply below_drew1 | refine below_set ?_ (IsS31.ge HI135.out) | refine below_set ?_ (IsS67.ge HI136.out)) | exact HB.out)) hb); have n3_ := Aside0.mk (hbox); have n4_ := Aside0.mk ((by rw [hg]; exact (below_size (by repeat (first | (with_reducible first | exact HB.out | apply below_alloc | apply pw_below_drewN | apply below_drew1 | refine below_set ?_ (IsS31.ge HI135.out) | refine below_set ?_ (IsS67.ge HI136.out)) | exact HB.out))) : w.heap.size ≤ gb161)); have n5_ := Aside0.mk ((by rw [hg]; exact (below_size (by repeat (first | (with_reducible first | exact HB.out | apply below_alloc | apply pw_below_drewN | apply below_drew1 | refine below_set ?_ (IsS31.ge HI135.out) | refine below_set ?_ (IsS67.ge HI136.out)) | exact HB.out))) : w.heap.size ≤ gb161)); have n6_ := Aside0.mk ((by rw [hg]; exact Nat.ne_of_lt (IsS31.lt (show IsS31 w _ gb135 t157 t158 t159 t160 from by repeat (first | (with_reducible first | exact HI135.out | apply IsS31.alloc | apply IsS31.drewN | apply IsS31.drew | apply IsS31.set_0 | apply IsS31.set_1 | apply IsS31.set_2 | apply IsS31.set_3 | refine IsS31.far ?_ NB135_136.out _) | exact HI135.out))) : gb135 ≠ gb161)); have n7_ := Aside0.mk ((by rw [hg]; exact Nat.ne_of_gt (IsS31.lt (show IsS31 w _ gb135 t157 t158 t159 t160 from by repeat (first | (with_reducible first | exact HI135.out | apply IsS31.alloc | apply IsS31.drewN | apply IsS31.drew | apply IsS31.set_0 | apply IsS31.set_1 | apply IsS31.set_2 | apply IsS31.set_3 | refine IsS31.far ?_ NB135_136.out _) | exact HI135.out))) : gb161 ≠ gb135)); have n8_ := Aside0.mk ((by rw [hg]; exact Nat.ne_of_lt (IsS67.lt (show IsS67 w _ gb136 x137000_2 x137001_2 x137002_2 x137003_2 from by repeat (first | (with_reducible first | exact HI136.out | apply IsS67.alloc | apply IsS67.drewN | apply IsS67.drew | apply IsS67.set_0 | apply IsS67.set_1 | apply IsS67.set_2 | apply IsS67.set_3 | refine IsS67.far ?_ NB136_135.out _) | exact HI136.out))) : gb136 ≠ gb161)); have n9_ := Aside0.mk ((by rw [hg]; exact Nat.ne_of_gt (IsS67.lt (show IsS67 w _ gb136 x137000_2 x137001_2 x137002_2 x137003_2 from by repeat (first | (with_reducible first | exact HI136.out | apply IsS67.alloc | apply IsS67.drewN | apply IsS67.drew | apply IsS67.set_0 | apply IsS67.set_1 | apply IsS67.set_2 | apply IsS67.set_3 | refine IsS67.far ?_ NB136_135.out _) | exact HI136.out))) : gb161 ≠ gb136)); clear HI135; clear HI136; clear HB; have HI135 := n0_; have HI136 := n1_; have HB := n2_; have BK161 := n3_; have GW161 := n4_; have GE161 := n5_; have NB135_161 := n6_; have NB161_135 := n7_; have NB136_161 := n8_; have NB161_136 := n9_; clear n0_ n1_ n2_ n3_ n4_ n5_ n6_ n7_ n8_ n9_; clear hb hbox hg; have hnb33 := NB161_135.out; have hnc33 := NB135_161.out; have hnb34 := NB161_136.out; have hnc34 := NB136_161.out; have hcz35_0 : w32.cell? ⟨gb161, 0, none⟩ = some (.int .u64 0) := (blk_cell BK161.out 0).trans rfl; have hcz35_1 : w32.cell? ⟨gb161, 1, none⟩ = some (.int .u64 0) := (blk_cell BK161.out 1).trans rfl; have hcz35_2 : w32.cell? ⟨gb161, 2, none⟩ = some (.int .u64 0) := (blk_cell BK161.out 2).trans rfl; have hfz35_0 := blk_frozen BK161.out 0; have hfz35_1 := blk_frozen BK161.out 1; have hfz35_2 := blk_frozen BK161.out 2; have p162 : 0 ≤ (x11_2 : Int) := of_decide_eq_true (by first | (with_reducible assumption) | assumption); have q162 : x11_2 < (l0.length : Int) := of_decide_eq_true (by first | (with_reducible assumption) | assumption); obtain ⟨ad162, e162, hx162_0, hx162_1, hx162_2, hx162_3⟩ := at_T36 HR0.out x11_2 p162 q162; (try rw [← Nbq18.out] at hx162_0); obtain rfl : ad137 = ad162 := (by injection e162); have hn162_0 : ad137.block ≠ gb161 := Nat.ne_of_lt (Nat.lt_of_lt_of_le (by have := World.block_lt_of_cell? _ _ hx162_0; first | rwa [add_block] at this | exact this) GW161.out); have hn162_1 : ad137.block ≠ gb161 := Nat.ne_of_lt (Nat.lt_of_lt_of_le (by have := World.block_lt_of_cell? _ _ hx162_0; first | rwa [add_block] at this | exact this) GW161.out); have hn162_2 : ad137.block ≠ gb161 := Nat.ne_of_lt (Nat.lt_of_lt_of_le (by have := World.block_lt_of_cell? _ _ hx162_0; first | rwa [add_block] at this | exact this) GW161.out); replace hx162_0 := (HB.out.cell (World.block_lt_of_cell? w _ hx162_0)).trans hx162_0; replace hx162_1 := (HB.out.cell (World.block_lt_of_cell? w _ hx162_1)).trans hx162_1; replace hx162_2 := (HB.out.cell (World.block_lt_of_cell? w _ hx162_2)).trans hx162_2; replace hx162_3 := (HB.out.cell (World.block_lt_of_cell? w _ hx162_3)).trans hx162_3; replace hx162_0 := (cell_far (p := ⟨gb161, 0, none⟩) (by first | (rw [add_block]; exact hn162_0) | (show (Addr.add _ _).block ≠ _; rw [add_block]; exact hn162_0) | exact hn162_0) (.int .u64 t153)).trans hx162_0; replace hx162_1 := (cell_far (p := ⟨gb161, 0, none⟩) (by first | (rw [add_block]; exact hn162_0) | (show (Addr.add _ _).block ≠ _; rw [add_block]; exact hn162_0) | exact hn162_0) (.int .u64 t153)).trans hx162_1; replace hx162_2 := (cell_far (p := ⟨gb161, 0, none⟩) (by first | (rw [add_block]; exact hn162_0) | (show (Addr.add _ _).block ≠ _; rw [add_block]; exact hn162_0) | exact hn162_0) (.int .u64 t153)).trans hx162_2; replace hx162_3 := (cell_far (p := ⟨gb161, 0, none⟩) (by first | (rw [add_block]; exact hn162_0) | (show (Addr.add _ _).block ≠ _; rw [add_block]; exact hn162_0) | exact hn162_0) (.int .u64 t153)).trans hx162_3; replace hx162_0 := (cell_far (p := ⟨gb161, 1, none⟩) (by first | (rw [add_block]; exact hn162_1) | (show (Addr.add _ _).block ≠ _; rw [add_block]; exact hn162_1) | exact hn162_1) (.int .u64 t154)).trans hx162_0; replace hx162_1 := (cell_far (p := ⟨gb161, 1, none⟩) (by first | (rw [add_block]; exact hn162_1) | (show (Addr.add _ _).block ≠ _; rw [add_block]; exact hn162_1) | exact hn162_1) (.int .u64 t154)).trans hx162_1; replace hx162_2 := (cell_far (p := ⟨gb161, 1, none⟩) (by first | (rw [add_block]; exact hn162_1) | (show (Addr.add _ _).block ≠ _; rw [add_block]; exact hn162_1) | exact hn162_1) (.int .u64 t154)).trans hx162_2; replace hx162_3 := (cell_far (p := ⟨gb161, 1, none⟩) (by first | (rw [add_block]; exact hn162_1) | (show (Addr.add _ _).block ≠ _; rw [add_block]; exact hn162_1) | exact hn162_1) (.int .u64 t154)).trans hx162_3; replace hx162_0 := (cell_far (p := ⟨gb161, 2, none⟩) (by first | (rw [add_block]; exact hn162_2) | (show (Addr.add _ _).block ≠ _; rw [add_block]; exact hn162_2) | exact hn162_2) (.int .u64 t155)).trans hx162_0; replace hx162_1 := (cell_far (p := ⟨gb161, 2, none⟩) (by first | (rw [add_block]; exact hn162_2) | (show (Addr.add _ _).block ≠ _; rw [add_block]; exact hn162_2) | exact hn162_2) (.int .u64 t155)).trans hx162_1; replace hx162_2 := (cell_far (p := ⟨gb161, 2, none⟩) (by first | (rw [add_block]; exact hn162_2) | (show (Addr.add _ _).block ≠ _; rw [add_block]; exact hn162_2) | exact hn162_2) (.int .u64 t155)).trans hx162_2; replace hx162_3 := (cell_far (p := ⟨gb161, 2, none⟩) (by first | (rw [add_block]; exact hn162_2) | (show (Addr.add _ _).block ≠ _; rw [add_block]; exact hn162_2) | exact hn162_2) (.int .u64 t155)).trans hx162_3; clear hn162_0; clear hn162_1; clear hn162_2; replace p162 := eq_true p162; replace q162 := eq_true q162) | ((with_reducible refine gate_callee (f := 20) rfl ?_); refine goesL_ (some 102) rfl rfl Try.func20 (by kernel_rfl) rfl #[.pointer (some ⟨gb136, 0, none⟩), .int .u64 ((rd_T36 l0 x11_2).f1)] rfl (by (try simp only [List.map_toArray, List.map_cons, List.map_nil]); first | done | rfl | (simp only [List.length_drop, List.length_take]; rfl)) ?_; (with_reducible refine (conventicleref16_Acceptor_Prepare.calls gb136 x137000_2 x137001_2 x137002_2 x137003_2 ((rd_T36 l0 x11_2).f1) t163 t164 t165 t166 t167 t168 t169 t170 w _ ?side1 ?side2 A27.out).mono ?_); (case side1 => repeat (first | (with_reducible first | exact HI136.out | apply IsS67.alloc | apply IsS67.drewN | apply IsS67.drew | apply IsS67.set_0 | apply IsS67.set_1 | apply IsS67.set_2 | apply IsS67.set_3 | refine IsS67.far ?_ NB136_161.out _ | refine IsS67.far ?_ NB136_135.out _) | exact HI136.out)); (case side2 => repeat (first | (with_reducible first | exact HB.out | apply below_alloc | apply pw_below_drewN | apply below_drew1 | refine below_set ?_ (IsS31.ge HI135.out) | refine below_set ?_ (IsS67.ge HI136.out) | refine below_set ?_ GE161.out) | exact HB.out)); rintro e w36 ⟨rfl, hi, hb, hk⟩; refine ⟨_, rfl, ?_⟩; have n0_ := Aside0.mk (IsS31.keepO (show IsS31 w _ gb135 t157 t158 t159 t160 from by repeat (first | (with_reducible first | exact HI135.out | apply IsS31.alloc | apply IsS31.drewN | apply IsS31.drew | apply IsS31.set_0 | apply IsS31.set_1 | apply IsS31.set_2 | apply IsS31.set_3 | refine IsS31.far ?_ NB135_161.out _ | refine IsS31.far ?_ NB135_136.out _) | exact HI135.out)) hk NB135_136.out); have n1_ := Aside0.mk (KeepBut.blk hk (g' := gb161) (o := .cells #[.int .u64 t153, .int .u64 t154, .int .u64 t155] 29 (0, 0)) (by (with_reducible repeat (first | refine blk_drewN ?_ _ | refine blk_drew ?_ | refine blk_alloc ?_ _)); refine blk_put (cs := #[.int .u64 t153, .int .u64 t154, .int .u64 0]) ?_ 2 _ rfl; (with_reducible repeat (first | refine blk_drewN ?_ _ | refine blk_drew ?_ | refine blk_alloc ?_ _)); refine blk_put (cs := #[.int .u64 t153, .int .u64 0, .int .u64 0]) ?_ 1 _ rfl; (with_reducible repeat (first | refine blk_drewN ?_ _ | refine blk_drew ?_ | refine blk_alloc ?_ _)); refine blk_put (cs := #[.int .u64 0, .int .u64 0, .int .u64 0]) ?_ 0 _ rfl; (with_reducible repeat (first | refine blk_drewN ?_ _ | refine blk_drew ?_ | refine blk_alloc ?_ _)); exact BK161.out) NB161_136.out (by simp)); have n2_ := Aside0.mk (hb); have n3_ := Aside0.mk (hi); clear HI135; clear BK161; clear HB; clear HI136; have HI135 := n0_; have BK161 := n1_; have HB := n2_; have HI136 := n3_; clear n0_ n1_ n2_ n3_; (try clear hb); (try clear hb2); (try clear hk); (try clear hi)) | ((with_reducible refine gate_dst (N := 14) rfl ?_); (try (refine gate_guard (by rfl) ?_; dsimp only)); refine box_event ?hg (N := 14) ?hd (cs := #[.int .u64 0, .int .u64 0, .int .u64 0]) (t := 65) ?hr ?_; (case hd => rfl); (case hg => rfl); (case hr => first | (go_simp; done) | (go_simp; rfl)); intro gb171 hg w37 hbox hb; have n0_ := Aside0.mk (IsS31.below (by repeat (first | (with_reducible first | exact HI135.out | apply IsS31.alloc | apply IsS31.drewN | apply IsS31.drew | apply IsS31.set_0 | apply IsS31.set_1 | apply IsS31.set_2 | apply IsS31.set_3 | refine IsS31.far ?_ NB135_161.out _ | refine IsS31.far ?_ NB135_136.out _) | exact HI135.out)) hb); have n1_ := Aside0.mk (IsS67.below (by repeat (first | (with_reducible first | exact HI136.out | apply IsS67.alloc | apply IsS67.drewN | apply IsS67.drew | apply IsS67.set_0 | apply IsS67.set_1 | apply IsS67.set_2 | apply IsS67.set_3 | refine IsS67.far ?_ NB136_161.out _ | refine IsS67.far ?_ NB136_135.out _) | exact HI136.out)) hb); have n2_ := Aside0.mk (blk_below (g := gb161) (o := .cells #[.int .u64 t153, .int .u64 t154, .int .u64 t155] 29 (0, 0)) (by (with_reducible repeat (first | refine blk_drewN ?_ _ | refine blk_drew ?_ | refine blk_alloc ?_ _)); exact BK161.out) hb); have n3_ := Aside0.mk (below_step (by repeat (first | (with_reducible first | exact HB.out | apply below_alloc | apply pw_below_drewN | apply below_drew1 | refine below_set ?_ (IsS31.ge HI135.out) | refine below_set ?_ (IsS67.ge HI136.out) | refine below_set ?_ GE161.out) | exact HB.out)) hb); have n4_ := Aside0.mk (hbox); have n5_ := Aside0.mk ((by rw [hg]; exact (below_size (by repeat (first | (with_reducible first | exact HB.out | apply below_alloc | apply pw_below_drewN | apply below_drew1 | refine below_set ?_ (IsS31.ge HI135.out) | refine below_set ?_ (IsS67.ge HI136.out) | refine below_set ?_ GE161.out) | exact HB.out))) : w.heap.size ≤ gb171)); have n6_ := Aside0.mk ((by rw [hg]; exact (below_size (by repeat (first | (with_reducible first | exact HB.out | apply below_alloc | apply pw_below_drewN | apply below_drew1 | refine below_set ?_ (IsS31.ge HI135.out) | refine below_set ?_ (IsS67.ge HI136.out) | refine below_set ?_ GE161.out) | exact HB.out))) : w.heap.size ≤ gb171)); have n7_ := Aside0.mk ((by rw [hg]; exact Nat.ne_of_lt (blk_lt (g := gb161) (o := .cells #[.int .u64 t153, .int .u64 t154, .int .u64 t155] 29 (0, 0)) (by (with_reducible repeat (first | refine blk_drewN ?_ _ | refine blk_drew ?_ | refine blk_alloc ?_ _)); exact BK161.out)) : gb161 ≠ gb171)); have n8_ := Aside0.mk ((by rw [hg]; exact Nat.ne_of_gt (blk_lt (g := gb161) (o := .cells #[.int .u64 t153, .int .u64 t154, .int .u64 t155] 29 (0, 0)) (by (with_reducible repeat (first | refine blk_drewN ?_ _ | refine blk_drew ?_ | refine blk_alloc ?_ _)); exact BK161.out)) : gb171 ≠ gb161)); have n9_ := Aside0.mk ((by rw [hg]; exact Nat.ne_of_lt (IsS31.lt (show IsS31 w _ gb135 t157 t158 t159 t160 from by repeat (first | (with_reducible first | exact HI135.out | apply IsS31.alloc | apply IsS31.drewN | apply IsS31.drew | apply IsS31.set_0 | apply IsS31.set_1 | apply IsS31.set_2 | apply IsS31.set_3 | refine IsS31.far ?_ NB135_161.out _ | refine IsS31.far ?_ NB135_136.out _) | exact HI135.out))) : gb135 ≠ gb171)); have n10_ := Aside0.mk ((by rw [hg]; exact Nat.ne_of_gt (IsS31.lt (show IsS31 w _ gb135 t157 t158 t159 t160 from by repeat (first | (with_reducible first | exact HI135.out | apply IsS31.alloc | apply IsS31.drewN | apply IsS31.drew | apply IsS31.set_0 | apply IsS31.set_1 | apply IsS31.set_2 | apply IsS31.set_3 | refine IsS31.far ?_ NB135_161.out _ | refine IsS31.far ?_ NB135_136.out _) | exact HI135.out))) : gb171 ≠ gb135)); have n11_ := Aside0.mk ((by rw [hg]; exact Nat.ne_of_lt (IsS67.lt (show IsS67 w _ gb136 t167 t168 t169 t170 from by repeat (first | (with_reducible first | exact HI136.out | apply IsS67.alloc | apply IsS67.drewN | apply IsS67.drew | apply IsS67.set_0 | apply IsS67.set_1 | apply IsS67.set_2 | apply IsS67.set_3 | refine IsS67.far ?_ NB136_161.out _ | refine IsS67.far ?_ NB136_135.out _) | exact HI136.out))) : gb136 ≠ gb171)); have n12_ := Aside0.mk ((by rw [hg]; exact Nat.ne_of_gt (IsS67.lt (show IsS67 w _ gb136 t167 t168 t169 t170 from by repeat (first | (with_reducible first | exact HI136.out | apply IsS67.alloc | apply IsS67.drewN | apply IsS67.drew | apply IsS67.set_0 | apply IsS67.set_1 | apply IsS67.set_2 | apply IsS67.set_3 | refine IsS67.far ?_ NB136_161.out _ | refine IsS67.far ?_ NB136_135.out _) | exact HI136.out))) : gb171 ≠ gb136)); clear HI135; clear HI136; clear BK161; clear HB; have HI135 := n0_; have HI136 := n1_; have BK161 := n2_; have HB := n3_; have BK171 := n4_; have GW171 := n5_; have GE171 := n6_; have NB161_171 := n7_; have NB171_161 := n8_; have NB135_171 := n9_; have NB171_135 := n10_; have NB136_171 := n11_; have NB171_136 := n12_; clear n0_ n1_ n2_ n3_ n4_ n5_ n6_ n7_ n8_ n9_ n10_ n11_ n12_; clear hb hbox hg; have hnb38 := NB171_161.out; have hnc38 := NB161_171.out; have hnb39 := NB171_135.out; have hnc39 := NB135_171.out; have hnb40 := NB171_136.out; have hnc40 := NB136_171.out; have hcz41_0 : w37.cell? ⟨gb171, 0, none⟩ = some (.int .u64 0) := (blk_cell BK171.out 0).trans rfl; have hcz41_1 : w37.cell? ⟨gb171, 1, none⟩ = some (.int .u64 0) := (blk_cell BK171.out 1).trans rfl; have hcz41_2 : w37.cell? ⟨gb171, 2, none⟩ = some (.int .u64 0) := (blk_cell BK171.out 2).trans rfl; have hfz41_0 := blk_frozen BK171.out 0; have hfz41_1 := blk_frozen BK171.out 1; have hfz41_2 := blk_frozen BK171.out 2))
                        have n0_ : Aside0 ((((w37.setCell ⟨gb171, 0, none⟩ (.int .u64 t163)).setCell ⟨gb171, 1, none⟩ (.int .u64 t164)).setCell ⟨gb171, 2, none⟩ (.int .u64 t165)).heap[gb161]? = some (.cells #[.int .u64 t153, .int .u64 t154, .int .u64 t155] 29 (0, 0))) := ⟨by (with_reducible repeat (first | refine blk_drewN ?_ _ | refine blk_drew ?_ | refine blk_alloc ?_ _)); refine blk_far ?_ NB161_171.out _; (with_reducible repeat (first | refine blk_drewN ?_ _ | refine blk_drew ?_ | refine blk_alloc ?_ _)); refine blk_far ?_ NB161_171.out _; (with_reducible repeat (first | refine blk_drewN ?_ _ | refine blk_drew ?_ | refine blk_alloc ?_ _)); refine blk_far ?_ NB161_171.out _; (with_reducible repeat (first | refine blk_drewN ?_ _ | refine blk_drew ?_ | refine blk_alloc ?_ _)); exact BK161.out⟩
                        have n1_ : Aside0 ((((w37.setCell ⟨gb171, 0, none⟩ (.int .u64 t163)).setCell ⟨gb171, 1, none⟩ (.int .u64 t164)).setCell ⟨gb171, 2, none⟩ (.int .u64 t165)).heap[gb171]? = some (.cells #[.int .u64 t163, .int .u64 t164, .int .u64 t165] 65 (0, 0))) := ⟨by (with_reducible repeat (first | refine blk_drewN ?_ _ | refine blk_drew ?_ | refine blk_alloc ?_ _)); refine blk_put (cs := #[.int .u64 t163, .int .u64 t164, .int .u64 0]) ?_ 2 _ rfl; (with_reducible repeat (first | refine blk_drewN ?_ _ | refine blk_drew ?_ | refine blk_alloc ?_ _)); refine blk_put (cs := #[.int .u64 t163, .int .u64 0, .int .u64 0]) ?_ 1 _ rfl; (with_reducible repeat (first | refine blk_drewN ?_ _ | refine blk_drew ?_ | refine blk_alloc ?_ _)); refine blk_put (cs := #[.int .u64 0, .int .u64 0, .int .u64 0]) ?_ 0 _ rfl; (with_reducible repeat (first | refine blk_drewN ?_ _ | refine blk_drew ?_ | refine blk_alloc ?_ _)); exact BK171.out⟩
                        have n2_ : Aside0 (IsS31 w (((w37.setCell ⟨gb171, 0, none⟩ (.int .u64 t163)).setCell ⟨gb171, 1, none⟩ (.int .u64 t164)).setCell ⟨gb171, 2, none⟩ (.int .u64 t165)) gb135 t157 t158 t159 t160) := ⟨by repeat (first | (with_reducible first | exact HI135.out | apply IsS31.alloc | apply IsS31.drewN | apply IsS31.drew | apply IsS31.set_0 | apply IsS31.set_1 | apply IsS31.set_2 | apply IsS31.set_3 | refine IsS31.far ?_ NB135_161.out _ | refine IsS31.far ?_ NB135_171.out _ | refine IsS31.far ?_ NB135_136.out _) | exact HI135.out)⟩
                        have n3_ : Aside0 (IsS67 w (((w37.setCell ⟨gb171, 0, none⟩ (.int .u64 t163)).setCell ⟨gb171, 1, none⟩ (.int .u64 t164)).setCell ⟨gb171, 2, none⟩ (.int .u64 t165)) gb136 t167 t168 t169 t170) := ⟨by repeat (first | (with_reducible first | exact HI136.out | apply IsS67.alloc | apply IsS67.drewN | apply IsS67.drew | apply IsS67.set_0 | apply IsS67.set_1 | apply IsS67.set_2 | apply IsS67.set_3 | refine IsS67.far ?_ NB136_161.out _ | refine IsS67.far ?_ NB136_171.out _ | refine IsS67.far ?_ NB136_135.out _) | exact HI136.out)⟩
                        have n4_ : Aside0 (Below w.heap.size w (((w37.setCell ⟨gb171, 0, none⟩ (.int .u64 t163)).setCell ⟨gb171, 1, none⟩ (.int .u64 t164)).setCell ⟨gb171, 2, none⟩ (.int .u64 t165))) := ⟨by repeat (first | (with_reducible first | exact HB.out | apply below_alloc | apply pw_below_drewN | apply below_drew1 | refine below_set ?_ (IsS31.ge HI135.out) | refine below_set ?_ (IsS67.ge HI136.out) | refine below_set ?_ GE161.out | refine below_set ?_ GE171.out) | exact HB.out)⟩
                        (try clear BK161)
                        (try clear BK171)
                        (try clear HI135)
                        (try clear HI136)
                        (try clear HB)
                        generalize (((w37.setCell ⟨gb171, 0, none⟩ (.int .u64 t163)).setCell ⟨gb171, 1, none⟩ (.int .u64 t164)).setCell ⟨gb171, 2, none⟩ (.int .u64 t165)) = w42 at n0_ n1_ n2_ n3_ n4_ ⊢
                        have BK161 := n0_
                        have BK171 := n1_
                        have HI135 := n2_
                        have HI136 := n3_
                        have HB := n4_
                        clear n0_ n1_ n2_ n3_ n4_
                        have n0_ := Aside0.mk (blk_drew BK161.out)
                        have n1_ := Aside0.mk (blk_drew BK171.out)
                        have n2_ := Aside0.mk (IsS31.drew HI135.out)
                        have n3_ := Aside0.mk (IsS67.drew HI136.out)
                        have n4_ := Aside0.mk (below_drew1 HB.out)
                        clear BK161
                        clear BK171
                        clear HI135
                        clear HI136
                        clear HB
                        have BK161 := n0_
                        have BK171 := n1_
                        have HI135 := n2_
                        have HI136 := n3_
                        have HB := n4_
                        clear n0_ n1_ n2_ n3_ n4_
                        refine start_ (n := 9) (S := fun w' => w'.cell? ⟨gb161, 0, none⟩ = some (.int .u64 t153) ∧ w'.cell? ⟨gb161, 1, none⟩ = some (.int .u64 t154) ∧ w'.cell? ⟨gb161, 2, none⟩ = some (.int .u64 t155) ∧ w'.cell? ⟨gb171, 0, none⟩ = some (.int .u64 t163) ∧ w'.cell? ⟨gb171, 1, none⟩ = some (.int .u64 t164) ∧ w'.cell? ⟨gb171, 2, none⟩ = some (.int .u64 t165)) (ds := []) #[false, false, false, false, false, false, false, false, false] (by kernel_rfl) rfl rfl ⟨(blk_cell BK161.out 0).trans rfl, (blk_cell BK161.out 1).trans rfl, (blk_cell BK161.out 2).trans rfl, (blk_cell BK171.out 0).trans rfl, (blk_cell BK171.out 1).trans rfl, (blk_cell BK171.out 2).trans rfl⟩ (fun hHeld => ?_); refine with_tabW conventiclelaw16_BallotActs.tab13 conventiclelaw16_BallotActs.bits13 (fun HT_ HW_ => ?_)
                        generalize w42.drew = w43 at BK161 BK171 HI135 HI136 HB hHeld ⊢
                        refine take_ (i := 0) (N := some 105) (v := ?_) (a' := ?_) #[true, false, false, false, false, false, false, false, false] rfl rfl (take_ofW HT_.out HW_.out (by kernel_rfl)) (fun _ _ _ h => h) (Or.inl ⟨by rfl, ?_⟩) hHeld ?_ ?_
                        rotate_left
                        · rintro w' ⟨s0, s1, s2, s3, s4, s5⟩
                          go_simp
                          with_reducible rfl
                        rotate_left
                        · simp only [Act.put, List.setIfInBounds_toArray, List.set_cons_zero, List.set_cons_succ, i64_w, i32_w]
                          rfl
                        refine take_ (i := 2) (N := some 107) (v := ?_) (a' := ?_) #[true, false, true, false, false, false, false, false, false] rfl rfl (take_ofW HT_.out HW_.out (by kernel_rfl)) (fun _ _ _ h => h) (Or.inl ⟨by rfl, ?_⟩) hHeld ?_ ?_
                        rotate_left
                        · rintro w' ⟨s0, s1, s2, s3, s4, s5⟩
                          go_simp
                          with_reducible rfl
                        rotate_left
                        · simp only [Act.put, List.setIfInBounds_toArray, List.set_cons_zero, List.set_cons_succ, i64_w, i32_w]
                          rfl
                        refine one_ (i := 1) (N := some 106) #[true, true, true, false, false, false, false, false, false] rfl rfl (one_of HT_.out (by kernel_rfl)) (by decide) (fun K hK => ?_)
                        refine goes_ Try.func21 (by kernel_rfl) rfl #[.agg #[.int .u64 t153, .int .u64 t154, .int .u64 t155]] (by rfl) rfl rfl (by (try simp only [List.map_toArray, List.map_cons, List.map_nil]); first | done | rfl | (simp only [List.length_drop, List.length_take]; rfl)) ?_
                        with_reducible refine (conventiclelaw16_theirs.calls t153 t154 t155 t172 t173 t174 _ A28.out).mono ?_
                        rintro e w44 ⟨rfl, hb⟩
                        refine ⟨_, rfl, ?_⟩
                        have n0_ := Aside0.mk (IsS31.below (by repeat (first | (with_reducible first | exact HI135.out | apply IsS31.alloc | apply IsS31.drewN | apply IsS31.drew | apply IsS31.set_0 | apply IsS31.set_1 | apply IsS31.set_2 | apply IsS31.set_3 | refine IsS31.far ?_ NB135_161.out _ | refine IsS31.far ?_ NB135_171.out _ | refine IsS31.far ?_ NB135_136.out _) | exact HI135.out)) hb)
                        have n1_ := Aside0.mk (IsS67.below (by repeat (first | (with_reducible first | exact HI136.out | apply IsS67.alloc | apply IsS67.drewN | apply IsS67.drew | apply IsS67.set_0 | apply IsS67.set_1 | apply IsS67.set_2 | apply IsS67.set_3 | refine IsS67.far ?_ NB136_161.out _ | refine IsS67.far ?_ NB136_171.out _ | refine IsS67.far ?_ NB136_135.out _) | exact HI136.out)) hb)
                        have n2_ := Aside0.mk (blk_below (g := gb161) (o := .cells #[.int .u64 t153, .int .u64 t154, .int .u64 t155] 29 (0, 0)) (by (with_reducible repeat (first | refine blk_drewN ?_ _ | refine blk_drew ?_ | refine blk_alloc ?_ _)); exact BK161.out) hb)
                        have n3_ := Aside0.mk (blk_below (g := gb171) (o := .cells #[.int .u64 t163, .int .u64 t164, .int .u64 t165] 65 (0, 0)) (by (with_reducible repeat (first | refine blk_drewN ?_ _ | refine blk_drew ?_ | refine blk_alloc ?_ _)); exact BK171.out) hb)
                        have n4_ := Aside0.mk (below_step (by repeat (first | (with_reducible first | exact HB.out | apply below_alloc | apply pw_below_drewN | apply below_drew1 | refine below_set ?_ (IsS31.ge HI135.out) | refine below_set ?_ (IsS67.ge HI136.out) | refine below_set ?_ GE161.out | refine below_set ?_ GE171.out) | exact HB.out)) hb)
                        clear HI135
                        clear HI136
                        clear BK161
                        clear BK171
                        clear HB
                        have HI135 := n0_
                        have HI136 := n1_
                        have BK161 := n2_
                        have BK171 := n3_
                        have HB := n4_
                        clear n0_ n1_ n2_ n3_ n4_
                        (try clear hb)
                        (try clear hb2)
                        (try clear hk)
                        (try clear hi)
                        refine hK.out _ _ ⟨(blk_cell BK161.out 0).trans rfl, (blk_cell BK161.out 1).trans rfl, (blk_cell BK161.out 2).trans rfl, (blk_cell BK171.out 0).trans rfl, (blk_cell BK171.out 1).trans rfl, (blk_cell BK171.out 2).trans rfl⟩ (fun hHeld => ?_)
                        clear hK K
                        refine norm_ (a' := ?_) ?_ ?_
                        rotate_left
                        · show Act.put _ (some 106) _ = _
                          simp only [Act.put, List.setIfInBounds_toArray, List.set_cons_zero, List.set_cons_succ, i64_w, i32_w]
                          rfl
                        refine pure_ (i := 3) (N := some 108) (v := ?_) (a' := ?_) #[true, true, true, true, false, false, false, false, false] rfl rfl (any_of HT_.out (by kernel_rfl)) (fun _ _ _ h => h) (Or.inl ⟨by rfl, ?_⟩) ?_ ?_
                        rotate_left
                        · intro w'
                          go_simp
                          with_reducible rfl
                        rotate_left
                        · simp only [Act.put, List.setIfInBounds_toArray, List.set_cons_zero, List.set_cons_succ, i64_w, i32_w]
                          rfl
                        refine pure_ (i := 4) (N := some 109) (v := ?_) (a' := ?_) #[true, true, true, true, true, false, false, false, false] rfl rfl (any_of HT_.out (by kernel_rfl)) (fun _ _ _ h => h) (Or.inl ⟨by rfl, ?_⟩) ?_ ?_
                        rotate_left
                        · intro w'
                          go_simp
                          with_reducible rfl
                        rotate_left
                        · simp only [Act.put, List.setIfInBounds_toArray, List.set_cons_zero, List.set_cons_succ, i64_w, i32_w]
                          rfl
                        refine pure_ (i := 5) (N := some 110) (v := ?_) (a' := ?_) #[true, true, true, true, true, true, false, false, false] rfl rfl (any_of HT_.out (by kernel_rfl)) (fun _ _ _ h => h) (Or.inl ⟨by rfl, ?_⟩) ?_ ?_
                        rotate_left
                        · intro w'
                          go_simp
                          with_reducible rfl
                        rotate_left
                        · simp only [Act.put, List.setIfInBounds_toArray, List.set_cons_zero, List.set_cons_succ, i64_w, i32_w]
                          rfl
                        refine pure_ (i := 6) (N := some 111) (v := ?_) (a' := ?_) #[true, true, true, true, true, true, true, false, false] rfl rfl (any_of HT_.out (by kernel_rfl)) (fun _ _ _ h => h) (Or.inl ⟨by rfl, ?_⟩) ?_ ?_
                        rotate_left
                        · intro w'
                          go_simp
                          with_reducible rfl
                        rotate_left
                        · simp only [Act.put, List.setIfInBounds_toArray, List.set_cons_zero, List.set_cons_succ, i64_w, i32_w]
                          rfl
                        refine pure_ (i := 7) (N := some 112) (v := ?_) (a' := ?_) #[true, true, true, true, true, true, true, true, false] rfl rfl (any_of HT_.out (by kernel_rfl)) (fun _ _ _ h => h) (Or.inl ⟨by rfl, ?_⟩) ?_ ?_
                        rotate_left
                        · intro w'
                          go_simp
                          with_reducible rfl
                        rotate_left
                        · simp only [Act.put, List.setIfInBounds_toArray, List.set_cons_zero, List.set_cons_succ, i64_w, i32_w]
                          rfl
                        refine pure_ (i := 8) (N := some 113) (v := ?_) (a' := ?_) #[true, true, true, true, true, true, true, true, true] rfl rfl (any_of HT_.out (by kernel_rfl)) (fun _ _ _ h => h) (Or.inl ⟨by rfl, ?_⟩) ?_ ?_
                        rotate_left
                        · intro w'
                          go_simp
                          with_reducible rfl
                        rotate_left
                        · simp only [Act.put, List.setIfInBounds_toArray, List.set_cons_zero, List.set_cons_succ, i64_w, i32_w]
                          rfl
                        refine done_ (done_of HT_.out (by kernel_rfl)) ?_
                        try go_wp2
                        go_meet
                        case rel => exact ⟨_, (t157), (t158), (t159), (t160), (t167), (t168), (t169), (t170), H', ⟨by have := HJ4.out; have := HK2.out; first | omega | exact Nat.le_refl _⟩, ⟨by repeat (first | (with_reducible first | exact HI135.out | apply IsS31.alloc | apply IsS31.drewN | apply IsS31.drew | apply IsS31.set_0 | apply IsS31.set_1 | apply IsS31.set_2 | apply IsS31.set_3 | refine IsS31.far ?_ NB135_161.out _ | refine IsS31.far ?_ NB135_171.out _ | refine IsS31.far ?_ NB135_136.out _) | exact HI135.out)⟩, ⟨by repeat (first | (with_reducible first | exact HI136.out | apply IsS67.alloc | apply IsS67.drewN | apply IsS67.drew | apply IsS67.set_0 | apply IsS67.set_1 | apply IsS67.set_2 | apply IsS67.set_3 | refine IsS67.far ?_ NB136_161.out _ | refine IsS67.far ?_ NB136_171.out _ | refine IsS67.far ?_ NB136_135.out _) | exact HI136.out)⟩, ⟨by repeat (first | (with_reducible first | exact HB.out | apply below_alloc | apply pw_below_drewN | apply below_drew1 | refine below_set ?_ (IsS31.ge HI135.out) | refine below_set ?_ (IsS67.ge HI136.out) | refine below_set ?_ GE161.out | refine below_set ?_ GE171.out) | exact HB.out)⟩⟩
                      · rw [if_neg c30] at H
                        exact absurd H (by simp)
                case rest =>
                  clear HC17
                  try clear c1
                  try clear p1
                  try clear q1
                  try clear hx1
                  try clear c2
                  try clear p2
                  try clear c3
                  try clear c4
                  try clear c6
                  try clear c6b0
                  try clear c6b1
                  try clear c7
                  try clear c7b0
                  try clear c7b1
                  try clear c8
                  try clear c10
                  try clear c11
                  try clear c12
                  try clear p13
                  try clear q13
                  try clear hx13
                  try clear p14
                  try clear q14
                  try clear hx14
                  try clear c15
                  try clear c15b0
                  try clear p15
                  try clear q15
                  try clear hx15
                  try clear c16
                  try clear c16b0
                  try clear p16
                  try clear q16
                  try clear hx16
                  try clear q18
                  try clear c19
                  try clear c20
                  try clear c21
                  try clear c22
                  try clear c22b0
                  try clear c22b1
                  try clear c29
                  try clear c29b0
                  try clear c30
                  try clear c30b0
                  try clear c30b1
                  try clear c33
                  try clear c34
                  try clear c38
                  try clear c39
                  try clear c40
                  try clear hcz35_0
                  try clear hcz35_1
                  try clear hcz35_2
                  try clear hcz41_0
                  try clear hcz41_1
                  try clear hcz41_2
                  try clear hfz35_0
                  try clear hfz35_1
                  try clear hfz35_2
                  try clear hfz41_0
                  try clear hfz41_1
                  try clear hfz41_2
                  try clear hx137_0
                  try clear hx137_1
                  try clear hx137_2
                  try clear hx137_3
                  try clear hx138_0
                  try clear hx138_1
                  try clear hx138_2
                  try clear hx138_3
                  try clear hx139_0
                  try clear hx139_1
                  try clear hx139_2
                  try clear hx139_3
                  try clear hx145_0
                  try clear hx145_1
                  try clear hx145_2
                  try clear hx145_3
                  try clear hx146_0
                  try clear hx146_1
                  try clear hx146_2
                  try clear hx146_3
                  try clear hx152_0
                  try clear hx152_1
                  try clear hx152_2
                  try clear hx152_3
                  try clear hx162_0
                  try clear hx162_1
                  try clear hx162_2
                  try clear hx162_3
                  try clear p137
                  try clear p138
                  try clear p139
                  try clear p145
                  try clear p146
                  try clear p152
                  try clear p162
                  try clear p2
                  try clear q137
                  try clear q138
                  try clear q139
                  try clear q145
                  try clear q146
                  try clear q152
                  try clear q162
                  obtain ⟨kq, x136000_16, x136001_16, x136002_16, x136003_16, x137000_16, x137001_16, x137002_16, x137003_16, HA, HJ16, HI135, HI136, HB⟩ := hcut
                  cases kq with
                  | zero => exact absurd HA.out (by simp [conventiclelaw16_BallotActs.j2])
                  | succ kj16 =>
                    have H := HA.out
                    clear HA
                    simp only [conventiclelaw16_BallotActs.j2] at H
                    replace H := Option.bind_eq_some_iff.mp H
                    obtain ⟨⟨t175, t176, t177, t178, t179⟩, A450, H⟩ := H
                    replace H : ((conventicleref16_Acceptor_Top.f x137000_16 x137001_16 x137002_16 x137003_16).bind fun bt180 => (if t175 = bt180.1 then ((ballot_Acceptor_Last.f t176 t177 t178 t179).bind fun bt185 => ((conventiclelaw16_theirs.f bt185.1 bt185.2.1 bt185.2.2.1).bind fun bt192 => ((conventicleref16_Acceptor_Last.f bt180.2.1 bt180.2.2.1 bt180.2.2.2.1 bt180.2.2.2.2).bind fun bt195 => (if (!(bt192.1 == bt195.1) || ((!(bt192.2.1 == bt195.2.1) || (!(bt192.2.2 == bt195.2.2.1))))) = true then (none) else (conventiclelaw16_BallotActs.l0 kj16 l0 l1 a2 a3 (wrap64 (x11_2 + 1)) bt185.2.2.2.1 bt185.2.2.2.2.1 bt185.2.2.2.2.2.1 bt185.2.2.2.2.2.2 bt195.2.2.2.1 bt195.2.2.2.2.1 bt195.2.2.2.2.2.1 bt195.2.2.2.2.2.2))))) else (none))) = some r := H
                    have A45 := Aside0.mk A450
                    clear A450
                    replace H := Option.bind_eq_some_iff.mp H
                    obtain ⟨⟨t180, t181, t182, t183, t184⟩, A460, H⟩ := H
                    replace H : (if t175 = t180 then ((ballot_Acceptor_Last.f t176 t177 t178 t179).bind fun bt185 => ((conventiclelaw16_theirs.f bt185.1 bt185.2.1 bt185.2.2.1).bind fun bt192 => ((conventicleref16_Acceptor_Last.f t181 t182 t183 t184).bind fun bt195 => (if (!(bt192.1 == bt195.1) || ((!(bt192.2.1 == bt195.2.1) || (!(bt192.2.2 == bt195.2.2.1))))) = true then (none) else (conventiclelaw16_BallotActs.l0 kj16 l0 l1 a2 a3 (wrap64 (x11_2 + 1)) bt185.2.2.2.1 bt185.2.2.2.2.1 bt185.2.2.2.2.2.1 bt185.2.2.2.2.2.2 bt195.2.2.2.1 bt195.2.2.2.2.1 bt195.2.2.2.2.2.1 bt195.2.2.2.2.2.2))))) else (none)) = some r := H
                    have A46 := Aside0.mk A460
                    clear A460
                    by_cases c47 : t175 = t180
                    · rw [if_pos c47] at H
                      have c47b0 : (t175 == t180) = true := beq_iff_eq.mpr c47
                      have c47b1 : (t175 != t180) = false := bne_eq_false_iff_eq.mpr c47
                      clear c47
                      replace H := Option.bind_eq_some_iff.mp H
                      obtain ⟨⟨t185, t186, t187, t188, t189, t190, t191⟩, A480, H⟩ := H
                      replace H : ((conventiclelaw16_theirs.f t185 t186 t187).bind fun bt192 => ((conventicleref16_Acceptor_Last.f t181 t182 t183 t184).bind fun bt195 => (if (!(bt192.1 == bt195.1) || ((!(bt192.2.1 == bt195.2.1) || (!(bt192.2.2 == bt195.2.2.1))))) = true then (none) else (conventiclelaw16_BallotActs.l0 kj16 l0 l1 a2 a3 (wrap64 (x11_2 + 1)) t188 t189 t190 t191 bt195.2.2.2.1 bt195.2.2.2.2.1 bt195.2.2.2.2.2.1 bt195.2.2.2.2.2.2)))) = some r := H
                      have A48 := Aside0.mk A480
                      clear A480
                      replace H := Option.bind_eq_some_iff.mp H
                      obtain ⟨⟨t192, t193, t194⟩, A490, H⟩ := H
                      replace H : ((conventicleref16_Acceptor_Last.f t181 t182 t183 t184).bind fun bt195 => (if (!(t192 == bt195.1) || ((!(t193 == bt195.2.1) || (!(t194 == bt195.2.2.1))))) = true then (none) else (conventiclelaw16_BallotActs.l0 kj16 l0 l1 a2 a3 (wrap64 (x11_2 + 1)) t188 t189 t190 t191 bt195.2.2.2.1 bt195.2.2.2.2.1 bt195.2.2.2.2.2.1 bt195.2.2.2.2.2.2))) = some r := H
                      have A49 := Aside0.mk A490
                      clear A490
                      replace H := Option.bind_eq_some_iff.mp H
                      obtain ⟨⟨t195, t196, t197, t198, t199, t200, t201⟩, A500, H⟩ := H
                      replace H : (if (!(t192 == t195) || ((!(t193 == t196) || (!(t194 == t197))))) = true then (none) else (conventiclelaw16_BallotActs.l0 kj16 l0 l1 a2 a3 (wrap64 (x11_2 + 1)) t188 t189 t190 t191 t198 t199 t200 t201)) = some r := H
                      have A50 := Aside0.mk A500
                      clear A500
                      by_cases c51 : (!(t192 == t195) || ((!(t193 == t196) || (!(t194 == t197))))) = true
                      · rw [if_pos c51] at H
                        exact absurd H (by simp)
                      · rw [if_neg c51] at H
                        have c51b0 : (!(t192 == t195) || ((!(t193 == t196) || (!(t194 == t197))))) = false := by simpa using c51
                        clear c51
                        have H' := Aside0.mk H
                        clear H
                        go_wp2_with (first | ((with_reducible refine gate_callee (f := 9) rfl ?_); refine goesL_ (some 115) rfl rfl Try.func9 (by kernel_rfl) rfl #[.pointer (some ⟨gb135, 0, none⟩)] rfl (by (try simp only [List.map_toArray, List.map_cons, List.map_nil]); first | done | rfl | (simp only [List.length_drop, List.length_take]; rfl)) ?_; (with_reducible refine (ballot_Acceptor_Top.calls gb135 x136000_16 x136001_16 x136002_16 x136003_16 t175 t176 t177 t178 t179 w _ ?side1 ?side2 A45.out).mono ?_); (case side1 => repeat (first | (with_reducible first | exact HI135.out | apply IsS31.alloc | apply IsS31.drewN | apply IsS31.drew | apply IsS31.set_0 | apply IsS31.set_1 | apply IsS31.set_2 | apply IsS31.set_3 | refine IsS31.far ?_ NB135_136.out _) | exact HI135.out)); (case side2 => repeat (first | (with_reducible first | exact HB.out | apply below_alloc | apply pw_below_drewN | apply below_drew1 | refine below_set ?_ (IsS31.ge HI135.out) | refine below_set ?_ (IsS67.ge HI136.out)) | exact HB.out)); rintro e w52 ⟨rfl, hi, hb, hk⟩; refine ⟨_, rfl, ?_⟩; have n0_ := Aside0.mk (IsS67.keepO (show IsS67 w _ gb136 x137000_16 x137001_16 x137002_16 x137003_16 from by repeat (first | (with_reducible first | exact HI136.out | apply IsS67.alloc | apply IsS67.drewN | apply IsS67.drew | apply IsS67.set_0 | apply IsS67.set_1 | apply IsS67.set_2 | apply IsS67.set_3 | refine IsS67.far ?_ NB136_135.out _) | exact HI136.out)) hk NB136_135.out); have n1_ := Aside0.mk (hb); have n2_ := Aside0.mk (hi); clear HI136; clear HB; clear HI135; have HI136 := n0_; have HB := n1_; have HI135 := n2_; clear n0_ n1_ n2_; (try clear hb); (try clear hb2); (try clear hk); (try clear hi)) | ((with_reducible refine gate_callee (f := 22) rfl ?_); refine goesL_ (some 117) rfl rfl Try.func22 (by kernel_rfl) rfl #[.pointer (some ⟨gb136, 0, none⟩)] rfl (by (try simp only [List.map_toArray, List.map_cons, List.map_nil]); first | done | rfl | (simp only [List.length_drop, List.length_take]; rfl)) ?_; (with_reducible refine (conventicleref16_Acceptor_Top.calls gb136 x137000_16 x137001_16 x137002_16 x137003_16 t180 t181 t182 t183 t184 w _ ?side1 ?side2 A46.out).mono ?_); (case side1 => repeat (first | (with_reducible first | exact HI136.out | apply IsS67.alloc | apply IsS67.drewN | apply IsS67.drew | apply IsS67.set_0 | apply IsS67.set_1 | apply IsS67.set_2 | apply IsS67.set_3 | refine IsS67.far ?_ NB136_135.out _) | exact HI136.out)); (case side2 => repeat (first | (with_reducible first | exact HB.out | apply below_alloc | apply pw_below_drewN | apply below_drew1 | refine below_set ?_ (IsS31.ge HI135.out) | refine below_set ?_ (IsS67.ge HI136.out)) | exact HB.out)); rintro e w53 ⟨rfl, hi, hb, hk⟩; refine ⟨_, rfl, ?_⟩; have n0_ := Aside0.mk (IsS31.keepO (show IsS31 w _ gb135 t176 t177 t178 t179 from by repeat (first | (with_reducible first | exact HI135.out | apply IsS31.alloc | apply IsS31.drewN | apply IsS31.drew | apply IsS31.set_0 | apply IsS31.set_1 | apply IsS31.set_2 | apply IsS31.set_3 | refine IsS31.far ?_ NB135_136.out _) | exact HI135.out)) hk NB135_136.out); have n1_ := Aside0.mk (hb); have n2_ := Aside0.mk (hi); clear HI135; clear HB; clear HI136; have HI135 := n0_; have HB := n1_; have HI136 := n2_; clear n0_ n1_ n2_; (try clear hb); (try clear hb2); (try clear hk); (try clear hi)) | (go_at_call 10; (with_reducible refine (ballot_Acceptor_Last.calls gb135 t176 t177 t178 t179 t185 t186 t187 t188 t189 t190 t191 w _ ?side1 ?side2 A48.out).mono ?_); (case side1 => repeat (first | (with_reducible first | exact HI135.out | apply IsS31.alloc | apply IsS31.drewN | apply IsS31.drew | apply IsS31.set_0 | apply IsS31.set_1 | apply IsS31.set_2 | apply IsS31.set_3 | refine IsS31.far ?_ NB135_136.out _) | exact HI135.out)); (case side2 => repeat (first | (with_reducible first | exact HB.out | apply below_alloc | apply pw_below_drewN | apply below_drew1 | refine below_set ?_ (IsS31.ge HI135.out) | refine below_set ?_ (IsS67.ge HI136.out)) | exact HB.out)); rintro e w54 ⟨rfl, hi, hb, hk⟩; have n0_ := Aside0.mk (IsS67.keepO (show IsS67 w _ gb136 t181 t182 t183 t184 from by repeat (first | (with_reducible first | exact HI136.out | apply IsS67.alloc | apply IsS67.drewN | apply IsS67.drew | apply IsS67.set_0 | apply IsS67.set_1 | apply IsS67.set_2 | apply IsS67.set_3 | refine IsS67.far ?_ NB136_135.out _) | exact HI136.out)) hk NB136_135.out); have n1_ := Aside0.mk (hb); have n2_ := Aside0.mk (hi); clear HI136; clear HB; clear HI135; have HI136 := n0_; have HB := n1_; have HI135 := n2_; clear n0_ n1_ n2_; (try clear hb); (try clear hb2); (try clear hk); (try clear hi)) | (go_at_call 21; (with_reducible refine (conventiclelaw16_theirs.calls t185 t186 t187 t192 t193 t194 _ A49.out).mono ?_); rintro e w55 ⟨rfl, hb⟩; have n0_ := Aside0.mk (IsS31.below (by repeat (first | (with_reducible first | exact HI135.out | apply IsS31.alloc | apply IsS31.drewN | apply IsS31.drew | apply IsS31.set_0 | apply IsS31.set_1 | apply IsS31.set_2 | apply IsS31.set_3 | refine IsS31.far ?_ NB135_136.out _) | exact HI135.out)) hb); have n1_ := Aside0.mk (IsS67.below (by repeat (first | (with_reducible first | exact HI136.out | apply IsS67.alloc | apply IsS67.drewN | apply IsS67.drew | apply IsS67.set_0 | apply IsS67.set_1 | apply IsS67.set_2 | apply IsS67.set_3 | refine IsS67.far ?_ NB136_135.out _) | exact HI136.out)) hb); have n2_ := Aside0.mk (below_step (by repeat (first | (with_reducible first | exact HB.out | apply below_alloc | apply pw_below_drewN | apply below_drew1 | refine below_set ?_ (IsS31.ge HI135.out) | refine below_set ?_ (IsS67.ge HI136.out)) | exact HB.out)) hb); clear HI135; clear HI136; clear HB; have HI135 := n0_; have HI136 := n1_; have HB := n2_; clear n0_ n1_ n2_; (try clear hb); (try clear hb2); (try clear hk); (try clear hi)) | (go_at_call 23; (with_reducible refine (conventicleref16_Acceptor_Last.calls gb136 t181 t182 t183 t184 t195 t196 t197 t198 t199 t200 t201 w _ ?side1 ?side2 A50.out).mono ?_); (case side1 => repeat (first | (with_reducible first | exact HI136.out | apply IsS67.alloc | apply IsS67.drewN | apply IsS67.drew | apply IsS67.set_0 | apply IsS67.set_1 | apply IsS67.set_2 | apply IsS67.set_3 | refine IsS67.far ?_ NB136_135.out _) | exact HI136.out)); (case side2 => repeat (first | (with_reducible first | exact HB.out | apply below_alloc | apply pw_below_drewN | apply below_drew1 | refine below_set ?_ (IsS31.ge HI135.out) | refine below_set ?_ (IsS67.ge HI136.out)) | exact HB.out)); rintro e w56 ⟨rfl, hi, hb, hk⟩; have n0_ := Aside0.mk (IsS31.keepO (show IsS31 w _ gb135 t188 t189 t190 t191 from by repeat (first | (with_reducible first | exact HI135.out | apply IsS31.alloc | apply IsS31.drewN | apply IsS31.drew | apply IsS31.set_0 | apply IsS31.set_1 | apply IsS31.set_2 | apply IsS31.set_3 | refine IsS31.far ?_ NB135_136.out _) | exact HI135.out)) hk NB135_136.out); have n1_ := Aside0.mk (hb); have n2_ := Aside0.mk (hi); clear HI135; clear HB; clear HI136; have HI135 := n0_; have HB := n1_; have HI136 := n2_; clear n0_ n1_ n2_; (try clear hb); (try clear hb2); (try clear hk); (try clear hi)))
                        go_roundg kj16
                        case measure => have := HJ4.out; have := HK2.out; have := HJ16.out; omega
                        case rel => exact ⟨(wrap64 (x11_2 + 1)), (t188), (t189), (t190), (t191), (t198), (t199), (t200), (t201), (by first | rfl | (simp; done) | (simp [*]; done)), H', ⟨by have := HJ4.out; have := HK2.out; have := HJ16.out; omega⟩, ⟨by repeat (first | (with_reducible first | exact HI135.out | apply IsS31.alloc | apply IsS31.drewN | apply IsS31.drew | apply IsS31.set_0 | apply IsS31.set_1 | apply IsS31.set_2 | apply IsS31.set_3 | refine IsS31.far ?_ NB135_136.out _) | exact HI135.out)⟩, ⟨by repeat (first | (with_reducible first | exact HI136.out | apply IsS67.alloc | apply IsS67.drewN | apply IsS67.drew | apply IsS67.set_0 | apply IsS67.set_1 | apply IsS67.set_2 | apply IsS67.set_3 | refine IsS67.far ?_ NB136_135.out _) | exact HI136.out)⟩, ⟨by repeat (first | (with_reducible first | exact HB.out | apply below_alloc | apply pw_below_drewN | apply below_drew1 | refine below_set ?_ (IsS31.ge HI135.out) | refine below_set ?_ (IsS67.ge HI136.out)) | exact HB.out)⟩⟩
                    · rw [if_neg c47] at H
                      exact absurd H (by simp)
              · rw [if_neg c16] at H
                exact absurd H (by simp)
            · rw [if_neg c15] at H
              have c15b0 : decide (x11_2 < (l0.length : Int)) = false := decide_eq_false c15
              clear c15
              obtain ⟨y202, hy202⟩ : ∃ y_ : List (S65), y_ = (([] : List (S65))) := ⟨_, rfl⟩
              replace H : (conventiclelaw16_BallotActs.l1 k2 l1 a2 a3 y202 0) = some r := by first | (rw [hy202]; with_reducible exact H) | (have H2_ := (Option.bind_some _ _).symm.trans H; rw [hy202]; with_reducible exact H2_) | (have H2_ := (Option.bind_some _ _).symm.trans H; with_reducible exact H2_) | with_reducible exact H | (rw [hy202]; exact H) | exact H
              have Ny202 := Aside0.mk hy202
              clear hy202
              have H' := Aside0.mk H
              clear H
              go_wp2_with (first | ((with_reducible refine gate_dst (N := 127) rfl ?_); (try (refine gate_guard (by rfl) ?_; dsimp only)); refine Kd.R_lit k65 _ 65 ?hg (N := 127) ?hd (xs := ([] : List (S65))) (inner := []) (ok := fun _ => True) (okp := fun _ => True) ?hr ?hp (fun _ hk => hk) trivial (Below.refl _ _) (Nat.le_refl _) (by simp) ?_; (case hd => rfl); (case hg => rfl); (case hr => first | (go_simp; done) | (go_simp; rfl)); (case hp => exact (Reps.none _ _)); intro v203 w57 ho58 hb hg_ hnew_; clear hg_ hnew_; (first | rw [← Ny202.out] at ho58 | (simp only [Int.reduceToNat] at ho58; rw [← Ny202.out] at ho58)); have n0_ := Aside0.mk (Kd.R_lower ho58 (below_size (by repeat (first | (with_reducible first | exact HB.out | apply below_alloc | apply pw_below_drewN | apply below_drew1 | refine below_set ?_ (IsS31.ge HI135.out) | refine below_set ?_ (IsS67.ge HI136.out)) | exact HB.out)))); have n1_ := Aside0.mk (IsS31.below (by repeat (first | (with_reducible first | exact HI135.out | apply IsS31.alloc | apply IsS31.drewN | apply IsS31.drew | apply IsS31.set_0 | apply IsS31.set_1 | apply IsS31.set_2 | apply IsS31.set_3 | refine IsS31.far ?_ NB135_136.out _) | exact HI135.out)) hb); have n2_ := Aside0.mk (IsS67.below (by repeat (first | (with_reducible first | exact HI136.out | apply IsS67.alloc | apply IsS67.drewN | apply IsS67.drew | apply IsS67.set_0 | apply IsS67.set_1 | apply IsS67.set_2 | apply IsS67.set_3 | refine IsS67.far ?_ NB136_135.out _) | exact HI136.out)) hb); have n3_ := Aside0.mk (below_step (by repeat (first | (with_reducible first | exact HB.out | apply below_alloc | apply pw_below_drewN | apply below_drew1 | refine below_set ?_ (IsS31.ge HI135.out) | refine below_set ?_ (IsS67.ge HI136.out)) | exact HB.out)) hb); clear HI135; clear HI136; clear HB; have HO204 := n0_; have HI135 := n1_; have HI136 := n2_; have HB := n3_; clear n0_ n1_ n2_ n3_; clear hb ho58))
              go_loopg [16, 17] k2 (fun kq v16 v17 w' => ∃ (x16_3 : List (S65)) (x17_3 : Int), v17 = .int .i64 x17_3 ∧ Aside0 (conventiclelaw16_BallotActs.l1 kq l1 a2 a3 x16_3 x17_3 = some r) ∧ Aside0 (kq ≤ k2) ∧ Aside0 (Kd.R k65 65 w' w.heap.size (fun _ => True) v16 x16_3) ∧ Aside0 (Below w.heap.size w w'))
              case atStart => exact ⟨(y202), (0), (by first | rfl | (simp; done) | (simp [*]; done)), H', ⟨Nat.le_refl _⟩, ⟨by (with_reducible repeat (first | apply Kd.R_alloc | apply Kd.R_drewN | apply Kd.R_drew)); exact HO204.out⟩, ⟨by repeat (first | (with_reducible first | exact HB.out | apply below_alloc | apply pw_below_drewN | apply below_drew1 | refine below_set ?_ (IsS31.ge HI135.out) | refine below_set ?_ (IsS67.ge HI136.out)) | exact HB.out)⟩⟩
              case round =>
                clear H'
                try clear c1
                try clear p1
                try clear q1
                try clear hx1
                try clear c2
                try clear p2
                try clear c3
                try clear c4
                try clear c5
                try clear c6
                try clear c6b0
                try clear c6b1
                try clear p6
                try clear c7
                try clear c7b0
                try clear c7b1
                try clear c8
                try clear c9
                try clear c10
                try clear c11
                try clear c12
                try clear p13
                try clear q13
                try clear hx13
                try clear p14
                try clear q14
                try clear hx14
                try clear c15
                try clear c15b0
                try clear p15
                try clear q15
                try clear hx15
                try clear c16
                try clear c16b0
                try clear p16
                try clear q16
                try clear hx16
                try clear q18
                try clear c19
                try clear c20
                try clear c21
                try clear c22
                try clear c22b0
                try clear c22b1
                try clear c29
                try clear c29b0
                try clear c30
                try clear c30b0
                try clear c30b1
                try clear c33
                try clear c34
                try clear c38
                try clear c39
                try clear c40
                try clear c47
                try clear c47b0
                try clear c47b1
                try clear c51
                try clear c51b0
                try clear hcz35_0
                try clear hcz35_1
                try clear hcz35_2
                try clear hcz41_0
                try clear hcz41_1
                try clear hcz41_2
                try clear hfz35_0
                try clear hfz35_1
                try clear hfz35_2
                try clear hfz41_0
                try clear hfz41_1
                try clear hfz41_2
                try clear hx137_0
                try clear hx137_1
                try clear hx137_2
                try clear hx137_3
                try clear hx138_0
                try clear hx138_1
                try clear hx138_2
                try clear hx138_3
                try clear hx139_0
                try clear hx139_1
                try clear hx139_2
                try clear hx139_3
                try clear hx145_0
                try clear hx145_1
                try clear hx145_2
                try clear hx145_3
                try clear hx146_0
                try clear hx146_1
                try clear hx146_2
                try clear hx146_3
                try clear hx152_0
                try clear hx152_1
                try clear hx152_2
                try clear hx152_3
                try clear hx162_0
                try clear hx162_1
                try clear hx162_2
                try clear hx162_3
                try clear p1
                try clear p13
                try clear p137
                try clear p138
                try clear p139
                try clear p14
                try clear p145
                try clear p146
                try clear p15
                try clear p152
                try clear p16
                try clear p162
                try clear p2
                try clear q1
                try clear q13
                try clear q137
                try clear q138
                try clear q139
                try clear q14
                try clear q145
                try clear q146
                try clear q15
                try clear q152
                try clear q16
                try clear q162
                try clear q18
                obtain ⟨x16_3, x17_3, rfl, HA, HK3, HO_16, HB⟩ := hrel
                cases gk with
                | zero => exact absurd HA.out (by simp [conventiclelaw16_BallotActs.l1])
                | succ k3 =>
                  have H := HA.out
                  clear HA
                  simp only [conventiclelaw16_BallotActs.l1] at H
                  by_cases c59 : x17_3 < (l1.length : Int)
                  · rw [if_pos c59] at H
                    have c59b0 : decide (x17_3 < (l1.length : Int)) = true := decide_eq_true c59
                    clear c59
                    by_cases c60 : 0 ≤ x17_3
                    · rw [if_pos c60] at H
                      have c60b0 : decide (0 ≤ x17_3) = true := decide_eq_true c60
                      clear c60
                      replace H := Option.bind_eq_some_iff.mp H
                      obtain ⟨⟨t206, t207, t208⟩, A610, H⟩ := H
                      replace H : (if x16_3.length < 5864062014805 then (conventiclelaw16_BallotActs.l1 k3 l1 a2 a3 (x16_3 ++ [(⟨t206, (⟨t207, t208⟩ : S63)⟩ : S65)]) (wrap64 (x17_3 + 1))) else (none)) = some r := H
                      have A61 := Aside0.mk A610
                      clear A610
                      by_cases c62 : x16_3.length < 5864062014805
                      · rw [if_pos c62] at H
                        have LMc62 := Aside0.mk c62
                        clear c62
                        obtain ⟨y209, hy209⟩ : ∃ y_ : List (S65), y_ = (x16_3 ++ [(⟨t206, (⟨t207, t208⟩ : S63)⟩ : S65)]) := ⟨_, rfl⟩
                        replace H : (conventiclelaw16_BallotActs.l1 k3 l1 a2 a3 y209 (wrap64 (x17_3 + 1))) = some r := by first | (rw [hy209]; with_reducible exact H) | (have H2_ := (Option.bind_some _ _).symm.trans H; rw [hy209]; with_reducible exact H2_) | (have H2_ := (Option.bind_some _ _).symm.trans H; with_reducible exact H2_) | with_reducible exact H | (rw [hy209]; exact H) | exact H
                        have Ny209 := Aside0.mk hy209
                        clear hy209
                        have H' := Aside0.mk H
                        clear H
                        have p205 : 0 ≤ (x17_3 : Int) := of_decide_eq_true (by first | (with_reducible assumption) | assumption)
                        have q205 : x17_3 < (l1.length : Int) := of_decide_eq_true (by first | (with_reducible assumption) | assumption)
                        obtain ⟨ad205, e205, hx205_0, hx205_1, hx205_2⟩ := at_T29 HR1.out x17_3 p205 q205
                        cases e205
                        replace hx205_0 := (HB.out.cell (World.block_lt_of_cell? w _ hx205_0)).trans hx205_0
                        replace hx205_1 := (HB.out.cell (World.block_lt_of_cell? w _ hx205_1)).trans hx205_1
                        replace hx205_2 := (HB.out.cell (World.block_lt_of_cell? w _ hx205_2)).trans hx205_2
                        replace p205 := eq_true p205
                        replace q205 := eq_true q205
                        go_wp2_with (first | ((with_reducible refine gate_callee (f := 21) rfl ?_); refine goesL_ (some 139) rfl rfl Try.func21 (by kernel_rfl) rfl #[.agg #[.int .u64 ((rd_T29 l1 x17_3).f0), .int .u64 ((rd_T29 l1 x17_3).f1.f0), .int .u64 ((rd_T29 l1 x17_3).f1.f1)]] rfl (by (try simp only [List.map_toArray, List.map_cons, List.map_nil]); first | done | rfl | (simp only [List.length_drop, List.length_take]; rfl)) ?_; (with_reducible refine (conventiclelaw16_theirs.calls ((rd_T29 l1 x17_3).f0) ((rd_T29 l1 x17_3).f1.f0) ((rd_T29 l1 x17_3).f1.f1) t206 t207 t208 _ A61.out).mono ?_); rintro e w63 ⟨rfl, hb⟩; refine ⟨_, rfl, ?_⟩; have n0_ := Aside0.mk (Kd.R_below (by (with_reducible repeat (first | apply Kd.R_alloc | apply Kd.R_drewN | apply Kd.R_drew)); exact HO_16.out) hb); have n1_ := Aside0.mk (below_step (by repeat (first | (with_reducible first | exact HB.out | apply below_alloc | apply pw_below_drewN | apply below_drew1) | exact HB.out)) hb); clear HO_16; clear HB; have HO_16 := n0_; have HB := n1_; clear n0_ n1_; (try clear hb); (try clear hb2); (try clear hk); (try clear hi)) | ((with_reducible refine gate_builtin (b := .append) (xs := #[.tmp 134, .tmp 140]) rfl ?_); (try (refine gate_guard (by rfl) ?_; dsimp only)); at_builtin; refine Kd.R_append k65 (w0 := w) w.heap.size rfl (.tmp 134) (.tmp 140) 73 65 (.agg #[(.int .u64 0), (.int .u64 0), (.int .u64 0)]) 24 rfl Try.underlying73 info65 rfl (by decide) (by omega) u16 x16_3 (⟨t206, (⟨t207, t208⟩ : S63)⟩ : S65) [.int .u64 t206, .int .u64 t207, .int .u64 t208] (fun _ => True) (fun _ => False) rfl rfl ?aP (fun _ hk => hk.elim) ?aF ?aO ?aB ?aS ?aL ?_; (case aP => exact k65_mkM _ _ _ (⟨t206, (⟨t207, t208⟩ : S63)⟩ : S65)); (case aB => exact (by repeat (first | (with_reducible first | exact HB.out | apply below_alloc | apply pw_below_drewN | apply below_drew1) | exact HB.out))); (case aF => exact (fun _ _ => trivial)); (case aO => exact (by (with_reducible repeat (first | apply Kd.R_alloc | apply Kd.R_drewN | apply Kd.R_drew)); exact HO_16.out)); (case aS => exact (below_size (by repeat (first | (with_reducible first | exact HB.out | apply below_alloc | apply pw_below_drewN | apply below_drew1) | exact HB.out)))); (case aL => have := LMc62.out; omega); intro v210 w64 ho hb hg hat; rw [← Ny209.out] at ho; have n0_ := Aside0.mk (hb); have n1_ := Aside0.mk (ho); clear HB; clear HO_16; have HB := n0_; have HO211 := n1_; clear n0_ n1_; clear ho hb hg hat))
                        go_roundg k3
                        case measure => have := HJ4.out; have := HK2.out; have := HK3.out; omega
                        case rel => exact ⟨(y209), (wrap64 (x17_3 + 1)), (by first | rfl | (simp; done) | (simp [*]; done)), H', ⟨by have := HJ4.out; have := HK2.out; have := HK3.out; omega⟩, ⟨by (with_reducible repeat (first | apply Kd.R_alloc | apply Kd.R_drewN | apply Kd.R_drew)); exact HO211.out⟩, ⟨by repeat (first | (with_reducible first | exact HB.out | apply below_alloc | apply pw_below_drewN | apply below_drew1) | exact HB.out)⟩⟩
                      · rw [if_neg c62] at H
                        exact absurd H (by simp)
                    · rw [if_neg c60] at H
                      exact absurd H (by simp)
                  · rw [if_neg c59] at H
                    have c59b0 : decide (x17_3 < (l1.length : Int)) = false := decide_eq_false c59
                    clear c59
                    replace H := Option.bind_eq_some_iff.mp H
                    obtain ⟨⟨t212, t213, t214⟩, A650, H⟩ := H
                    replace H : ((conventicleref16_Pick.f k3 x16_3).bind fun bt216 => ((ballot_Number.f a2 a3).bind fun bt220 => ((conventicleref16_Number.f k3 a2 a3).bind fun bt222 => ((ballot_Owner.f a2).bind fun bt224 => ((conventicleref16_Owner.f a2).bind fun bt227 => (if (t212 == bt216.1 && (t213 == bt216.2.1)) = true then (if (t214 == bt216.2.2) = true then (if bt220.1 = bt222.1 then (if bt220.2 = bt222.2 then (if bt224.1 = bt227.1 then (if bt224.2.1 = bt227.2.1 then (some (bt224.2.2 == bt227.2.2)) else (none)) else (none)) else (none)) else (none)) else (none)) else (none))))))) = some r := H
                    have A65 := Aside0.mk A650
                    clear A650
                    replace H := Option.bind_eq_some_iff.mp H
                    obtain ⟨⟨t216, t217, t218⟩, A660, H⟩ := H
                    replace H : ((ballot_Number.f a2 a3).bind fun bt220 => ((conventicleref16_Number.f k3 a2 a3).bind fun bt222 => ((ballot_Owner.f a2).bind fun bt224 => ((conventicleref16_Owner.f a2).bind fun bt227 => (if (t212 == t216 && (t213 == t217)) = true then (if (t214 == t218) = true then (if bt220.1 = bt222.1 then (if bt220.2 = bt222.2 then (if bt224.1 = bt227.1 then (if bt224.2.1 = bt227.2.1 then (some (bt224.2.2 == bt227.2.2)) else (none)) else (none)) else (none)) else (none)) else (none)) else (none)))))) = some r := H
                    have A66 := Aside0.mk A660
                    clear A660
                    replace H := Option.bind_eq_some_iff.mp H
                    obtain ⟨⟨t220, t221⟩, A670, H⟩ := H
                    replace H : ((conventicleref16_Number.f k3 a2 a3).bind fun bt222 => ((ballot_Owner.f a2).bind fun bt224 => ((conventicleref16_Owner.f a2).bind fun bt227 => (if (t212 == t216 && (t213 == t217)) = true then (if (t214 == t218) = true then (if t220 = bt222.1 then (if t221 = bt222.2 then (if bt224.1 = bt227.1 then (if bt224.2.1 = bt227.2.1 then (some (bt224.2.2 == bt227.2.2)) else (none)) else (none)) else (none)) else (none)) else (none)) else (none))))) = some r := H
                    have A67 := Aside0.mk A670
                    clear A670
                    replace H := Option.bind_eq_some_iff.mp H
                    obtain ⟨⟨t222, t223⟩, A680, H⟩ := H
                    replace H : ((ballot_Owner.f a2).bind fun bt224 => ((conventicleref16_Owner.f a2).bind fun bt227 => (if (t212 == t216 && (t213 == t217)) = true then (if (t214 == t218) = true then (if t220 = t222 then (if t221 = t223 then (if bt224.1 = bt227.1 then (if bt224.2.1 = bt227.2.1 then (some (bt224.2.2 == bt227.2.2)) else (none)) else (none)) else (none)) else (none)) else (none)) else (none)))) = some r := H
                    have A68 := Aside0.mk A680
                    clear A680
                    replace H := Option.bind_eq_some_iff.mp H
                    obtain ⟨⟨t224, t225, t226⟩, A690, H⟩ := H
                    replace H : ((conventicleref16_Owner.f a2).bind fun bt227 => (if (t212 == t216 && (t213 == t217)) = true then (if (t214 == t218) = true then (if t220 = t222 then (if t221 = t223 then (if t224 = bt227.1 then (if t225 = bt227.2.1 then (some (t226 == bt227.2.2)) else (none)) else (none)) else (none)) else (none)) else (none)) else (none))) = some r := H
                    have A69 := Aside0.mk A690
                    clear A690
                    replace H := Option.bind_eq_some_iff.mp H
                    obtain ⟨⟨t227, t228, t229⟩, A700, H⟩ := H
                    replace H : (if (t212 == t216 && (t213 == t217)) = true then (if (t214 == t218) = true then (if t220 = t222 then (if t221 = t223 then (if t224 = t227 then (if t225 = t228 then (some (t226 == t229)) else (none)) else (none)) else (none)) else (none)) else (none)) else (none)) = some r := H
                    have A70 := Aside0.mk A700
                    clear A700
                    by_cases c71 : (t212 == t216 && (t213 == t217)) = true
                    · rw [if_pos c71] at H
                      have c71b0 : (t212 == t216 && (t213 == t217)) = true := c71
                      (try (have c71b1 : decide (t212 = t216 && (t213 == t217)) = true := by simpa using c71))
                      (try (have c71b2 : (t212 == t216 && (t213 == t217)) = true := by simpa using c71))
                      clear c71
                      by_cases c72 : (t214 == t218) = true
                      · rw [if_pos c72] at H
                        have c72b0 : (t214 == t218) = true := c72
                        (try (have c72b1 : decide (t214 = t218) = true := by simpa using c72))
                        (try (have c72b2 : (t214 == t218) = true := by simpa using c72))
                        clear c72
                        by_cases c73 : t220 = t222
                        · rw [if_pos c73] at H
                          have c73b0 : (t220 == t222) = true := beq_iff_eq.mpr c73
                          have c73b1 : (t220 != t222) = false := bne_eq_false_iff_eq.mpr c73
                          clear c73
                          by_cases c74 : t221 = t223
                          · rw [if_pos c74] at H
                            have c74b0 : (t221 == t223) = true := beq_iff_eq.mpr c74
                            have c74b1 : (t221 != t223) = false := bne_eq_false_iff_eq.mpr c74
                            clear c74
                            by_cases c75 : t224 = t227
                            · rw [if_pos c75] at H
                              have c75b0 : (t224 == t227) = true := beq_iff_eq.mpr c75
                              have c75b1 : (t224 != t227) = false := bne_eq_false_iff_eq.mpr c75
                              clear c75
                              by_cases c76 : t225 = t228
                              · rw [if_pos c76] at H
                                have c76b0 : (t225 == t228) = true := beq_iff_eq.mpr c76
                                have c76b1 : (t225 != t228) = false := bne_eq_false_iff_eq.mpr c76
                                clear c76
                                obtain rfl := Option.some.inj H
                                go_wp2_with (first | ((with_reducible refine gate_callee (f := 13) rfl ?_); refine goesL_ (some 144) rfl rfl Try.func13 (by kernel_rfl) rfl #[.slice A1 l1.length c1] rfl (by (try simp only [List.map_toArray, List.map_cons, List.map_nil]); first | done | rfl | (simp only [List.length_drop, List.length_take]; rfl)) ?_; (with_reducible refine (ballot_Pick.calls _ _ l1 t212 t213 t214 _ ?side1 ?side2 A65.out).mono ?_); (case side1 => repeat (first | exact (Kd.C_below HR1.out HB.out) | (with_reducible refine Kd.C_alloc ?_ _) | (with_reducible refine Kd.C_drewN ?_ _) | (with_reducible refine Kd.C_drew ?_))); (case side2 => exact HC1.out); rintro e w77 ⟨rfl, hb⟩; refine ⟨_, rfl, ?_⟩; have n0_ := Aside0.mk (Kd.R_below (by (with_reducible repeat (first | apply Kd.R_alloc | apply Kd.R_drewN | apply Kd.R_drew)); exact HO_16.out) hb); have n1_ := Aside0.mk (below_step (by repeat (first | (with_reducible first | exact HB.out | apply below_alloc | apply pw_below_drewN | apply below_drew1) | exact HB.out)) hb); clear HO_16; clear HB; have HO_16 := n0_; have HB := n1_; clear n0_ n1_; (try clear hb); (try clear hb2); (try clear hk); (try clear hi)) | ((with_reducible refine gate_dst (N := 18) rfl ?_); (try (refine gate_guard (by rfl) ?_; dsimp only)); refine box_event ?hg (N := 18) ?hd (cs := #[.int .u64 0, .int .u64 0]) (t := 27) ?hr ?_; (case hd => rfl); (case hg => rfl); (case hr => first | (go_simp; done) | (go_simp; rfl)); intro gb215 hg w78 hbox hb; have n0_ := Aside0.mk (Kd.R_below (by (with_reducible repeat (first | apply Kd.R_alloc | apply Kd.R_drewN | apply Kd.R_drew)); exact HO_16.out) hb); have n1_ := Aside0.mk (below_step (by repeat (first | (with_reducible first | exact HB.out | apply below_alloc | apply pw_below_drewN | apply below_drew1) | exact HB.out)) hb); have n2_ := Aside0.mk (hbox); have n3_ := Aside0.mk ((by rw [hg]; exact (below_size (by repeat (first | (with_reducible first | exact HB.out | apply below_alloc | apply pw_below_drewN | apply below_drew1) | exact HB.out))) : w.heap.size ≤ gb215)); have n4_ := Aside0.mk ((by rw [hg]; exact (below_size (by repeat (first | (with_reducible first | exact HB.out | apply below_alloc | apply pw_below_drewN | apply below_drew1) | exact HB.out))) : w.heap.size ≤ gb215)); clear HO_16; clear HB; have HO_16 := n0_; have HB := n1_; have BK215 := n2_; have GW215 := n3_; have GE215 := n4_; clear n0_ n1_ n2_ n3_ n4_; clear hb hbox hg; have hcz79_0 : w78.cell? ⟨gb215, 0, none⟩ = some (.int .u64 0) := (blk_cell BK215.out 0).trans rfl; have hcz79_1 : w78.cell? ⟨gb215, 1, none⟩ = some (.int .u64 0) := (blk_cell BK215.out 1).trans rfl; have hfz79_0 := blk_frozen BK215.out 0; have hfz79_1 := blk_frozen BK215.out 1; obtain ⟨Ao80, co80, eo80⟩ := Kd.R_slice HO_16.out; subst eo80) | ((with_reducible refine gate_callee (f := 24) rfl ?_); refine goesL_ (some 149) rfl rfl Try.func24 (by kernel_rfl) rfl #[.slice Ao80 x16_3.length co80] rfl (by (try simp only [List.map_toArray, List.map_cons, List.map_nil]); first | done | rfl | (simp only [List.length_drop, List.length_take]; rfl)) ?_; (with_reducible refine (conventicleref16_Pick.calls k3 _ _ x16_3 t216 t217 t218 _ ?side1 ?side2 A66.out).mono ?_); (case side1 => refine (Kd.R_reads' (e := 65) (base := w.heap.size) (ok := fun k_ => True) (n := x16_3.length) (c := co80) ?_).2.2; exact (by (with_reducible repeat (first | apply Kd.R_alloc | apply Kd.R_drewN | apply Kd.R_drew)); exact (Kd.R_mono (Kd.R_far (p := ⟨gb215, 1, none⟩) (Kd.R_far (p := ⟨gb215, 0, none⟩) (Kd.R_types HO_16.out BK215.out (by decide)) (fun _ hk => hk.2) (.int .u64 t212)) (fun _ hk => hk.2) (.int .u64 t213)) (fun _ h_ => h_.1)))); (case side2 => exact (Kd.R_reads' HO_16.out).2.1); rintro e w81 ⟨rfl, hb⟩; refine ⟨_, rfl, ?_⟩; have n0_ := Aside0.mk (Kd.R_below (by (with_reducible repeat (first | apply Kd.R_alloc | apply Kd.R_drewN | apply Kd.R_drew)); exact (Kd.R_mono (Kd.R_far (p := ⟨gb215, 1, none⟩) (Kd.R_far (p := ⟨gb215, 0, none⟩) (Kd.R_types HO_16.out BK215.out (by decide)) (fun _ hk => hk.2) (.int .u64 t212)) (fun _ hk => hk.2) (.int .u64 t213)) (fun _ h_ => h_.1))) hb); have n1_ := Aside0.mk (blk_below (g := gb215) (o := .cells #[.int .u64 t212, .int .u64 t213] 27 (0, 0)) (by (with_reducible repeat (first | refine blk_drewN ?_ _ | refine blk_drew ?_ | refine blk_alloc ?_ _)); refine blk_put (cs := #[.int .u64 t212, .int .u64 0]) ?_ 1 _ rfl; (with_reducible repeat (first | refine blk_drewN ?_ _ | refine blk_drew ?_ | refine blk_alloc ?_ _)); refine blk_put (cs := #[.int .u64 0, .int .u64 0]) ?_ 0 _ rfl; (with_reducible repeat (first | refine blk_drewN ?_ _ | refine blk_drew ?_ | refine blk_alloc ?_ _)); exact BK215.out) hb); have n2_ := Aside0.mk (below_step (by repeat (first | (with_reducible first | exact HB.out | apply below_alloc | apply pw_below_drewN | apply below_drew1 | refine below_set ?_ GE215.out) | exact HB.out)) hb); clear HO_16; clear BK215; clear HB; have HO_16 := n0_; have BK215 := n1_; have HB := n2_; clear n0_ n1_ n2_; (try clear hb); (try clear hb2); (try clear hk); (try clear hi)) | ((with_reducible refine gate_dst (N := 20) rfl ?_); (try (refine gate_guard (by rfl) ?_; dsimp only)); refine box_event ?hg (N := 20) ?hd (cs := #[.int .u64 0, .int .u64 0]) (t := 63) ?hr ?_; (case hd => rfl); (case hg => rfl); (case hr => first | (go_simp; done) | (go_simp; rfl)); intro gb219 hg w82 hbox hb; have n0_ := Aside0.mk (Kd.R_below (by (with_reducible repeat (first | apply Kd.R_alloc | apply Kd.R_drewN | apply Kd.R_drew)); exact HO_16.out) hb); have n1_ := Aside0.mk (blk_below (g := gb215) (o := .cells #[.int .u64 t212, .int .u64 t213] 27 (0, 0)) (by (with_reducible repeat (first | refine blk_drewN ?_ _ | refine blk_drew ?_ | refine blk_alloc ?_ _)); exact BK215.out) hb); have n2_ := Aside0.mk (below_step (by repeat (first | (with_reducible first | exact HB.out | apply below_alloc | apply pw_below_drewN | apply below_drew1 | refine below_set ?_ GE215.out) | exact HB.out)) hb); have n3_ := Aside0.mk (hbox); have n4_ := Aside0.mk ((by rw [hg]; exact (below_size (by repeat (first | (with_reducible first | exact HB.out | apply below_alloc | apply pw_below_drewN | apply below_drew1 | refine below_set ?_ GE215.out) | exact HB.out))) : w.heap.size ≤ gb219)); have n5_ := Aside0.mk ((by rw [hg]; exact (below_size (by repeat (first | (with_reducible first | exact HB.out | apply below_alloc | apply pw_below_drewN | apply below_drew1 | refine below_set ?_ GE215.out) | exact HB.out))) : w.heap.size ≤ gb219)); have n6_ := Aside0.mk ((by rw [hg]; exact Nat.ne_of_lt (blk_lt (g := gb215) (o := .cells #[.int .u64 t212, .int .u64 t213] 27 (0, 0)) (by (with_reducible repeat (first | refine blk_drewN ?_ _ | refine blk_drew ?_ | refine blk_alloc ?_ _)); exact BK215.out)) : gb215 ≠ gb219)); have n7_ := Aside0.mk ((by rw [hg]; exact Nat.ne_of_gt (blk_lt (g := gb215) (o := .cells #[.int .u64 t212, .int .u64 t213] 27 (0, 0)) (by (with_reducible repeat (first | refine blk_drewN ?_ _ | refine blk_drew ?_ | refine blk_alloc ?_ _)); exact BK215.out)) : gb219 ≠ gb215)); clear HO_16; clear BK215; clear HB; have HO_16 := n0_; have BK215 := n1_; have HB := n2_; have BK219 := n3_; have GW219 := n4_; have GE219 := n5_; have NB215_219 := n6_; have NB219_215 := n7_; clear n0_ n1_ n2_ n3_ n4_ n5_ n6_ n7_; clear hb hbox hg; have hnb83 := NB219_215.out; have hnc83 := NB215_219.out; have hcz84_0 : w82.cell? ⟨gb219, 0, none⟩ = some (.int .u64 0) := (blk_cell BK219.out 0).trans rfl; have hcz84_1 : w82.cell? ⟨gb219, 1, none⟩ = some (.int .u64 0) := (blk_cell BK219.out 1).trans rfl; have hfz84_0 := blk_frozen BK219.out 0; have hfz84_1 := blk_frozen BK219.out 1) | ((with_reducible refine gate_callee (f := 14) rfl ?_); refine goesL_ (some 155) rfl rfl Try.func14 (by kernel_rfl) rfl #[.int .u64 a2, .int .i64 a3] rfl (by (try simp only [List.map_toArray, List.map_cons, List.map_nil]); first | done | rfl | (simp only [List.length_drop, List.length_take]; rfl)) ?_; (with_reducible refine (ballot_Number.calls a2 a3 t220 t221 _ A67.out).mono ?_); rintro e w' ⟨rfl, ⟨nd, rfl⟩⟩; refine ⟨_, rfl, ?_⟩) | ((with_reducible refine gate_callee (f := 25) rfl ?_); refine goesL_ (some 161) rfl rfl Try.func25 (by kernel_rfl) rfl #[.int .u64 a2, .int .i64 a3] rfl (by (try simp only [List.map_toArray, List.map_cons, List.map_nil]); first | done | rfl | (simp only [List.length_drop, List.length_take]; rfl)) ?_; (with_reducible refine (conventicleref16_Number.calls k3 a2 a3 t222 t223 _ A68.out).mono ?_); rintro e w' ⟨rfl, ⟨nd, rfl⟩⟩; refine ⟨_, rfl, ?_⟩) | ((with_reducible refine gate_callee (f := 15) rfl ?_); refine goesL_ (some 166) rfl rfl Try.func15 (by kernel_rfl) rfl #[.int .u64 a2] rfl (by (try simp only [List.map_toArray, List.map_cons, List.map_nil]); first | done | rfl | (simp only [List.length_drop, List.length_take]; rfl)) ?_; (with_reducible refine (ballot_Owner.calls a2 t224 t225 t226 _ A69.out).mono ?_); rintro e w' ⟨rfl, ⟨nd, rfl⟩⟩; refine ⟨_, rfl, ?_⟩) | ((with_reducible refine gate_callee (f := 26) rfl ?_); refine goesL_ (some 172) rfl rfl Try.func26 (by kernel_rfl) rfl #[.int .u64 a2] rfl (by (try simp only [List.map_toArray, List.map_cons, List.map_nil]); first | done | rfl | (simp only [List.length_drop, List.length_take]; rfl)) ?_; (with_reducible refine (conventicleref16_Owner.calls a2 t227 t228 t229 _ A70.out).mono ?_); rintro e w' ⟨rfl, ⟨nd, rfl⟩⟩; refine ⟨_, rfl, ?_⟩; have hcz85_0 : w82.cell? ⟨gb215, 0, none⟩ = some (.int .u64 t212) := (blk_cell BK215.out 0).trans rfl; have hcz85_1 : w82.cell? ⟨gb215, 1, none⟩ = some (.int .u64 t213) := (blk_cell BK215.out 1).trans rfl; have hfz85_0 := blk_frozen BK215.out 0; have hfz85_1 := blk_frozen BK215.out 1))
                                go_ret
                                exact ⟨by first | rfl | (simp [errW_none, errW_some] <;> rfl) | (simp [*, errW_none, errW_some] <;> rfl), by repeat (first | (with_reducible first | exact HB.out | apply below_alloc | apply pw_below_drewN | apply below_drew1 | refine below_set ?_ GE215.out | refine below_set ?_ GE219.out) | exact HB.out)⟩
                              · rw [if_neg c76] at H
                                exact absurd H (by simp)
                            · rw [if_neg c75] at H
                              exact absurd H (by simp)
                          · rw [if_neg c74] at H
                            exact absurd H (by simp)
                        · rw [if_neg c73] at H
                          exact absurd H (by simp)
                      · rw [if_neg c72] at H
                        exact absurd H (by simp)
                    · rw [if_neg c71] at H
                      exact absurd H (by simp)

/-- THE ONE PURE STATEMENT of conventiclelaw16_BallotActs: yours. -/
def conventiclelaw16_BallotActs.Pure : Prop := ∀ (l0 : List (S36)) (l1 : List (S29)) (a2 : Int) (a3 : Int), (l0.length ≤ maxLen ∧ ∀ a ∈ l0, wf36 a) → (l1.length ≤ maxLen ∧ ∀ a ∈ l1, wf29 a) → (Lit.int .u64 a2).wf = true → (Lit.int .i64 a3).wf = true → ∃ k, conventiclelaw16_BallotActs.f k l0 l1 a2 a3 = some true
theorem conventiclelaw16_BallotActs.walk (P : conventiclelaw16_BallotActs.Pure) (A0 : Option Addr) (c0 : Nat) (l0 : List (S36)) (A1 : Option Addr) (c1 : Nat) (l1 : List (S29)) (a2 : Int) (a3 : Int) (w : World) (hr0 : Kd.C k36 w A0 l0.length l0) (hc0 : l0.length ≤ c0) (hr1 : Kd.C k29 w A1 l1.length l1) (hc1 : l1.length ≤ c1) (w0 : (l0.length ≤ maxLen ∧ ∀ a ∈ l0, wf36 a)) (w1 : (l1.length ≤ maxLen ∧ ∀ a ∈ l1, wf29 a)) (w2 : (Lit.int .u64 a2).wf = true) (w3 : (Lit.int .i64 a3).wf = true) :
    Calls Try.prog 7 #[.slice A0 l0.length c0, .slice A1 l1.length c1, .int .u64 a2, .int .i64 a3] w fun e w' => e = .returned (.bool true) ∧ Below w.heap.size w w' := by
  obtain ⟨k, h⟩ := P l0 l1 a2 a3 w0 w1 w2 w3
  refine (conventiclelaw16_BallotActs.calls k _ _ l0 _ _ l1 a2 a3 true w hr0 hc0 hr1 hc1 h).mono ?_
  rintro e w' ⟨rfl, hd⟩
  exact ⟨rfl, hd⟩

end Go.Proofs.Ytnlppniejeemlaa.B
