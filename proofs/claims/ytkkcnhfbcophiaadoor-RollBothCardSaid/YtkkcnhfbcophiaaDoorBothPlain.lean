/- Two rolls that merge each other's: plain Lean. -/
import Derived.Test.YtkkcnhfbcophiaaDoorKnows
set_option linter.unusedVariables false
namespace Go.Proofs.YtkkcnhfbcophiaaDoor.Pure
open Go.RowKit Go.Proofs.YtkkcnhfbcophiaaDoor.B Go.Proofs.YtkkcnhfbcophiaaDoor.Band Go.Proofs.YtkkcnhfbcophiaaDoorW.PrintWords Go.Proofs.YtkkcnhfbcophiaaDoorW.PrintLast

structure Inv2 (R S : RollS) : Prop where
  r : RV R 0 0
  s : RV S 1 0
  fr : From R 0 (fun v => v.f0 = 1 → v = ⟨1, 0, 0⟩)
  fs : From S 1 (fun v => v.f0 = 0 → v = ⟨0, 0, 0⟩)
theorem allL_okU {R : RollS} {k : Nat} {i : Int} (h : RV R k i) : ∀ u ∈ allL R, OkU u := fun u hu => by
  obtain ⟨n, hn, hb, rfl⟩ := mem_allL.1 hu
  exact h.okU n
theorem allL_heard {R S : RollS} {k o : Nat} {i j : Int} (hR : RV R k i) (hS : RV S o j) (h : ∀ u ∈ allL R, mayS u = false ∨ knows S u) (n : Nat) (hn : n < 64) (hb : hasN R.has n = true) : knows S (R.K n) := by
  rcases h _ (mem_allL.2 ⟨n, hn, hb, rfl⟩) with h1 | h1
  · rw [hR.may n hn hb] at h1; cases h1
  · exact h1
theorem both_round {R S : RollS} (h : Inv2 R S) : ∃ R1 S1, hearL R (allL S) = (R1, true) ∧ hearL S (allL R1) = (S1, true) ∧ Inv2 R1 S1 ∧ allL R1 = allL S1 := by
  obtain ⟨i1, -, hV1, -, hq1, hF1, hS1⟩ := RV.hearL (allL S) R 0 h.r (allL_okU h.s)
  obtain ⟨hf1, rfl⟩ := hS1 (fun u hu _ h0 => by
    obtain ⟨n, hn, hb, rfl⟩ := mem_allL.1 hu
    have e := (h.s.own n hn hb).1
    rw [h.fs n hn (by omega) hb h0]
    decide)
  have hq1 := hq1 hf1
  have hR1 : hearL R (allL S) = ((hearL R (allL S)).1, true) := by rw [← hf1]
  generalize (hearL R (allL S)).1 = R1 at hV1 hq1 hF1 hR1
  have hfr1 : From R1 0 (fun v => v.f0 = 1 → v = ⟨1, 0, 0⟩) := by
    intro n hn hne hb h1
    rcases hF1 _ h.fr n hn hne hb with h2 | h2
    · exact h2 h1
    · obtain ⟨m, hm, hb2, e⟩ := mem_allL.1 h2
      rw [e] at h1 ⊢
      have e2 := (h.s.own m hm hb2).1
      obtain rfl : m = 1 := by omega
      exact h.s.inv.mine
  obtain ⟨i2, -, hV2, -, hq2, hF2, hS2⟩ := RV.hearL (allL R1) S 0 h.s (allL_okU hV1)
  obtain ⟨hf2, rfl⟩ := hS2 (fun u hu _ h0 => by
    obtain ⟨n, hn, hb, rfl⟩ := mem_allL.1 hu
    have e := (hV1.own n hn hb).1
    rw [hfr1 n hn (by omega) hb h0]
    decide)
  have hq2 := hq2 hf2
  have hS2e : hearL S (allL R1) = ((hearL S (allL R1)).1, true) := by rw [← hf2]
  generalize (hearL S (allL R1)).1 = S1 at hV2 hq2 hF2 hS2e
  refine ⟨R1, S1, hR1, hS2e, ⟨hV1, hV2, hfr1, ?_⟩, ?_⟩
  · intro n hn hne hb h1
    rcases hF2 _ h.fs n hn hne hb with h2 | h2
    · exact h2 h1
    · obtain ⟨m, hm, hb2, e⟩ := mem_allL.1 h2
      rw [e] at h1 ⊢
      have e2 := (hV1.own m hm hb2).1
      obtain rfl : m = 0 := by omega
      exact hV1.inv.mine
  · refine allL_same hV1.inv.ok.has hV2.inv.ok.has (fun n hn => same_at hV1 hV2 n hn (allL_heard hV1 hV2 hq2 n hn) (fun hb => ?_))
    have hk := allL_heard h.s hV1 hq1
    by_cases e : n = 1
    · subst e
      have := hk 1 (by decide) h.s.has
      rw [h.s.inv.mine] at this
      rw [hV2.inv.mine]
      exact this
    · rcases hF2 (fun v => knows R1 v) (fun m hm hne hb2 => hk m hm hb2) n hn e hb with h2 | h2
      · exact h2
      · obtain ⟨m, hm, hb2, e⟩ := mem_allL.1 h2
        rw [e]
        exact hV1.knowsK m hm hb2
end Go.Proofs.YtkkcnhfbcophiaaDoor.Pure
