/- The next one above is the first one that there is, and none lies between: for all numbers. -/
import Derived.Test.YtidofbloppcpfaaDoorLists
namespace Go.Proofs.YtidofbloppcpfaaDoor.Pure
open Go Go.RowKit Go.Proofs.YtidofbloppcpfaaDoor.B Go.Proofs.YtidofbloppcpfaaDoor.Band Go.Proofs.YtidofbloppcpfaaDoorW.PrintWords Go.Proofs.YtidofbloppcpfaaDoorW.PrintLast Go.Proofs.YtidofbloppcpfaaDoorW.PrintMore

theorem BandNext : conventiclelaw05_BandNext.Pure := by
  intro a0 a1 w0 w1
  obtain ⟨c, rfl, hc⟩ := wf_u64 w0
  obtain ⟨k, hk, hk63⟩ := mod64 (wf_u8 w1)
  refine ⟨65 + 65, ?_⟩
  unfold conventiclelaw05_BandNext.f
  rw [hk, next_run c hc k (by omega) (by omega)]
  simp only [Option.bind_some]
  by_cases h0 : c = 0
  · subst h0
    rw [if_pos (show ((0 : Nat) : Int) = 0 from rfl), next_list 0 (by decide), bandL_zero]
    simp only [List.filter_nil, if_true, headP]
    rw [if_neg (by decide), show 65 + 65 = 126 + 4 from rfl, shown_run]
    rfl
  · rw [if_neg (by omega), show wrap64 ((k : Int) + 1) = ((k + 1 : Nat) : Int) from by unfold wrap64; omega]
    have loop : ∀ n j : Nat, j + n = 64 → k < j → (∀ i, k < i → i < j → c.testBit i = false) → conventiclelaw05_BandNext.l0 (n + 1 + 65) c (nextN c k).1 (nextN c k).2 j = some true := by
      intro n
      induction n with
      | zero =>
        intro j hj hkj hb
        obtain rfl : j = 64 := by omega
        have e : nextN c k = firstN c := by
          rw [next_list c hc, if_pos (filter_no _ _ (fun x hx => by
            obtain ⟨i, hi, hbi, rfl⟩ := (mem_bandL c x).1 hx
            refine decide_eq_false (fun hlt => ?_)
            rw [hb i (by omega) hi] at hbi
            cases hbi)), first_head c hc]
        have ef : firstN c = (((Lib.ctz 64 c : Nat) : Int), true) := by unfold firstN; rw [if_neg h0]
        have hh : hasN c (Lib.ctz 64 c : Nat) = true := by
          obtain ⟨_, _, hlt⟩ := ctz_spec c h0 hc
          unfold hasN
          rw [decide_eq_true (by omega), Int.toNat_natCast, (ctz_bit c h0 hc).1]
          rfl
        rw [show 0 + 1 + 65 = 65 + 1 from rfl, conventiclelaw05_BandNext.l0, if_neg (by decide), first_run c hc, e, ef]
        simp only [Option.bind_some, if_true]
        rw [rhas_run c hc, hh]
        simp only [Option.bind_some, if_true]
        rw [show (65 : Nat) = 61 + 4 from rfl, shown_run]
        rfl
      | succ n ih =>
        intro j hj hkj hb
        rw [show n + 1 + 1 + 65 = (n + 1 + 65) + 1 from by omega, conventiclelaw05_BandNext.l0, if_pos (by omega), rhas_run c hc]
        simp only [Option.bind_some]
        have e : hasN c j = c.testBit j := by unfold hasN; rw [decide_eq_true (by omega), Bool.true_and]; rfl
        rw [e]
        by_cases hbj : c.testBit j = true
        · have hu : ∀ i < 64, (clr c (belN ((k : Int) + 1))).testBit i = (c.testBit i && decide (k < i)) := by
            intro i hi
            rw [clr_bit c _ (belN_lt _) i hi, belN_bit _ i hi]
            congr 1
            by_cases h : k < i
            · rw [decide_eq_true h, decide_eq_false (by omega)]; rfl
            · rw [decide_eq_false h, decide_eq_true (by omega)]; rfl
          obtain ⟨hz, hct⟩ := ctz_uniq (clr c (belN ((k : Int) + 1))) (clr_lt _ _ hc) j (by rw [hu j (by omega), hbj, decide_eq_true hkj]; rfl) (fun i hi => by
            rw [hu i (by omega)]
            by_cases h : k < i
            · rw [hb i h hi]; rfl
            · rw [decide_eq_false h, Bool.and_false])
          have en : nextN c k = ((j : Int), true) := by
            unfold nextN firstN
            rw [if_pos (by omega), if_neg hz, if_neg hz, hct]
          rw [if_pos hbj, en]
          simp only [if_true]
          rw [show n + 1 + 65 = (n + 62) + 4 from by omega, shown_run]
          rfl
        · rw [if_neg hbj, show wrap64 ((j : Int) + 1) = ((j + 1 : Nat) : Int) from by unfold wrap64; omega]
          refine ih (j + 1) (by omega) (by omega) (fun i hi hij => ?_)
          by_cases h : i = j
          · rw [h]; simpa using hbj
          · exact hb i hi (by omega)
    have h := loop (63 - k) (k + 1) (by omega) (by omega) (fun i hi hij => by omega)
    have mono : ∀ m, conventiclelaw05_BandNext.l0 (63 - k + 1 + 65 + m) c (nextN c k).1 (nextN c k).2 ((k + 1 : Nat) : Int) = some true := by
      intro m
      induction m with
      | zero => exact h
      | succ m ih => exact conventiclelaw05_BandNext.mono_l _ _ _ _ _ _ ih
    have := mono k
    rw [show 63 - k + 1 + 65 + k = 129 from by omega] at this
    exact conventiclelaw05_BandNext.mono_l _ _ _ _ _ _ this
end Go.Proofs.YtidofbloppcpfaaDoor.Pure
