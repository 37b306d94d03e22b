/- By hand: conventiclelaw07.shown: it is true. -/
import Derived.Test.YtkkcnhfbcophiaaDoorHearR
namespace Go.Proofs.YtkkcnhfbcophiaaDoor.B
open Go.RowKit Go.Proofs.YtkkcnhfbcophiaaDoorW.PrintWords Go.Proofs.YtkkcnhfbcophiaaDoorW.PrintLast Go.Proofs.YtkkcnhfbcophiaaDoorW.PrintMore Go.Proofs.YtkkcnhfbcophiaaDoor.Band Go.Proofs.YtkkcnhfbcophiaaDoor.Pure
set_option linter.unusedVariables false

theorem shown_R : ∃ R : RollS, hearR (newR 2) ⟨5, 1, 0⟩ = (R, true, 0) ∧ liveN (allL R) = 36 ∧ (allL R).length = 2 :=
  ⟨(hearR (newR 2) ⟨5, 1, 0⟩).1, by rfl, by decide +kernel, by decide +kernel⟩
set_option maxRecDepth 100000 in
set_option maxHeartbeats 1000000 in
theorem shown_walk (w : World) (hT : Aside0 (TabT w)) : Calls Tryd.prog 10 #[] w fun e w' => e = .returned (.bool true) ∧ Below w.heap.size w w' := by
  obtain ⟨R, hr, hl, ha⟩ := shown_R
  have ok0 := Aside0.mk (OkR.new 2 (by decide) (by decide))
  have ok1 : Aside0 (OkR R) := ⟨by
    have := ok0.out.hear ⟨5, 1, 0⟩ ⟨(by decide : (0 : Int) ≤ 1), (by decide : (1 : Int) ≤ 18446744073709551615)⟩
    rw [hr] at this
    exact this⟩
  have hR := Aside0.mk hr
  have hL := Aside0.mk hl
  have hA := Aside0.mk ha
  clear hr hl ha
  go_enter Tryd.func10, Tryd.ntmps10
  go_wp2_with (go_at_call 11; refine (new_any w 2 (by decide)).mono ?_; rintro e w1 ⟨g, rfl, hR1, hg, hB1⟩; have HR1 := Aside0.mk hR1; have HG := Aside0.mk hg; have HB1 := Aside0.mk hB1; clear hR1 hg hB1)
  go_wp2_with (go_at_call 12; refine (hear_any w _ g (newR 2) ⟨5, 1, 0⟩ ok0.out ⟨(by decide : (0 : Int) ≤ 1), (by decide : (1 : Int) ≤ 18446744073709551615)⟩ HR1.out HG.out HB1.out).mono ?_; rw [hR.out]; rintro e w2 ⟨rfl, hR2, hB2, -⟩; have HR2 := Aside0.mk hR2; have HB2 := Aside0.mk hB2; clear hR2 hB2)
  go_wp2_with (first
    | (go_at_call 18; refine (live_walk _ g R ok1.out.has (tab_below hT HB2.out) HR2.out).mono ?_; rintro e w3 ⟨rfl, hb⟩; rw [hL.out]; have HB3 := Aside0.mk (below_step HB2.out hb); have HR3 := Aside0.mk (HR2.out.below hb); clear hb)
    | (go_at_call 16; refine (all_walk _ g R ok1.out.has (tab_below hT HB3.out) HR3.out).mono ?_; rintro e w4 ⟨v, rfl, ho, hb⟩; obtain ⟨A, c, rfl⟩ := Kd.R_slice ho; rw [hA.out]; have HB4 := Aside0.mk (below_step HB3.out hb); clear ho hb))
  go_ret
  exact ⟨rfl, HB4.out⟩
end Go.Proofs.YtkkcnhfbcophiaaDoor.B
