/- What a merge tells as news: plain Lean. -/
import Derived.Test.YtkkcnhfbcophiaaDoorLiveP
set_option linter.unusedVariables false
namespace Go.Proofs.YtkkcnhfbcophiaaDoor.Pure
open Go.RowKit Go.Proofs.YtkkcnhfbcophiaaDoor.B Go.Proofs.YtkkcnhfbcophiaaDoor.Band Go.Proofs.YtkkcnhfbcophiaaDoorW.PrintWords Go.Proofs.YtkkcnhfbcophiaaDoorW.PrintLast

theorem filt_take (q : S31 → Bool) (l : List S31) (j : Nat) (hj : j < l.length) : (l.take (j + 1)).filter q = if q (rd_T31 l (j : Int)) = true then (l.take j).filter q ++ [rd_T31 l (j : Int)] else (l.take j).filter q := by
  rw [rd31_get l j hj, List.take_succ_eq_append_getElem hj, List.filter_append]
  by_cases h : q l[j] = true
  · rw [if_pos h, List.filter_cons_of_pos h, List.filter_nil]
  · rw [if_neg h, List.filter_cons_of_neg h, List.filter_nil, List.append_nil]
/-- nothing of node o is in what R knows -/
theorem far_all {R : RollS} {k o : Nat} {i : Int} (h : RV R k i) (hko : k ≠ o) (hf : From R k (fun v => v.f0 ≠ o)) : ∀ u ∈ allL R, u.f0 ≠ o := by
  intro u hu e
  obtain ⟨n, hn, hb, rfl⟩ := mem_allL.1 hu
  by_cases hk : n = k
  · subst hk
    rw [(h.own n hn hb).1] at e
    omega
  · exact hf n hn hk hb e
theorem news_mem {R0 R : RollS} {u : S31} (h : u ∈ newsL R0 R) : u ∈ allL R := by
  obtain ⟨n, hn, hb, hp, rfl⟩ := mem_newsL.1 h
  exact mem_allL.2 ⟨n, hn, hb, rfl⟩
structure MInv (R S : RollS) (k : Nat) (i : Int) : Prop where
  r : RV R k i
  s : RV S 63 0
  fr : From R k (fun v => v.f0 ≠ (63 : Nat))
  rs : ∀ n : Nat, n < 63 → hasN R.has n = true → knows S (R.K n)
  sr : ∀ n : Nat, n < 63 → hasN S.has n = true → knows R (S.K n)
theorem MInv.start (k : Nat) (hk : k < 63) (x : List S31) (hx : ∀ u ∈ x, u.f0 ≠ (63 : Nat)) (hu : ∀ u ∈ x, OkU u) {R1 : RollS} (hm : B.hearL (newR k) x = (R1, true)) :
    ∃ S1 i, B.hearL (newR ((63 : Nat) : Int)) (allL R1) = (S1, true) ∧ MInv R1 S1 k i := by
  obtain ⟨i1, -, hV1, -, -, hF1, -⟩ := RV.hearL x _ _ (RV.new k (by omega)) hu
  rw [hm] at hV1 hF1
  have hfr : From R1 k (fun v => v.f0 ≠ (63 : Nat)) := fun n hn hne hb => by
    rcases hF1 _ (From.new k) n hn hne hb with h | h
    · exact h.elim
    · exact hx _ h
  have hfar := far_all hV1 (by omega) hfr
  obtain ⟨i2, -, hV2, -, hq2, hF2, hS2⟩ := RV.hearL (allL R1) _ _ (RV.new 63 (by omega)) (allL_okU hV1)
  obtain ⟨hb2, rfl⟩ := hS2 (fun u hu _ e => absurd e (hfar u hu))
  have hq2 := hq2 hb2
  obtain ⟨⟨S1, b⟩, hs⟩ : ∃ q, B.hearL (newR ((63 : Nat) : Int)) (allL R1) = q := ⟨_, rfl⟩
  rw [hs] at hV2 hq2 hF2 hb2
  obtain rfl : b = true := hb2
  refine ⟨S1, i1, hs, hV1, hV2, hfr, fun n hn hb => allL_heard hV1 hV2 hq2 n (by omega) hb, fun n hn hb => ?_⟩
  rcases hF2 _ (From.new 63) n (by omega) (by omega) hb with h | h
  · exact h.elim
  · obtain ⟨m, hm, hb2, e⟩ := mem_allL.1 h
    rw [e]
    exact hV1.knowsK m hm hb2
theorem MInv.more {R S : RollS} {k : Nat} {i : Int} (h : MInv R S k i) (hk : k < 63) (y : List S31) (hy : ∀ u ∈ y, u.f0 ≠ (63 : Nat)) (hu : ∀ u ∈ y, OkU u) {R2 : RollS} (hm : B.hearL R y = (R2, true)) :
    ∃ S2 i2, B.hearL S (newsL R R2) = (S2, true) ∧ MInv R2 S2 k i2 := by
  obtain ⟨i1, -, hV1, hkn1, -, hF1, -⟩ := RV.hearL y _ _ h.r hu
  rw [hm] at hV1 hF1 hkn1
  have hfr : From R2 k (fun v => v.f0 ≠ (63 : Nat)) := fun n hn hne hb => by
    rcases hF1 _ h.fr n hn hne hb with h | h
    · exact h
    · exact hy _ h
  have hfar := far_all hV1 (by omega) hfr
  obtain ⟨i2, -, hV2, hkn2, hq2, hF2, hS2⟩ := RV.hearL (newsL R R2) _ _ h.s (fun u hu => allL_okU hV1 u (news_mem hu))
  obtain ⟨hb2, rfl⟩ := hS2 (fun u hu _ e => absurd e (hfar u (news_mem hu)))
  have hq2 := hq2 hb2
  obtain ⟨⟨S2, b⟩, hs⟩ : ∃ q, B.hearL S (newsL R R2) = q := ⟨_, rfl⟩
  rw [hs] at hV2 hq2 hF2 hb2 hkn2
  obtain rfl : b = true := hb2
  refine ⟨S2, i1, hs, hV1, hV2, hfr, fun n hn hb => ?_, fun n hn hb => ?_⟩
  · cases hp : newsP R R2 n
    · unfold newsP at hp
      rw [Bool.or_eq_false_iff, Bool.not_eq_false'] at hp
      have e := neS_false hp.2
      rw [Int.toNat_natCast] at e
      have := hkn2 _ (h.rs n hn hp.1)
      rwa [e] at this
    · rcases hq2 _ (mem_newsL.2 ⟨n, by omega, hb, hp, rfl⟩) with h3 | h3
      · rw [hV1.may n (by omega) hb] at h3; cases h3
      · exact h3
  · rcases hF2 (fun v => ∃ m : Nat, m < 63 ∧ hasN S.has m = true ∧ v = S.K m) (fun m hm hne hb => ⟨m, by omega, hb, rfl⟩) n (by omega) (by omega) hb with ⟨m, hm, hb2, e⟩ | h3
    · rw [e]
      exact hkn1 _ (h.sr m hm hb2)
    · obtain ⟨m, hm, hb2, e⟩ := mem_allL.1 (news_mem h3)
      rw [e]
      exact hV1.knowsK m hm hb2
theorem MInv.get {R S : RollS} {k : Nat} {i : Int} (h : MInv R S k i) (n : Nat) (hn : n < 63) : getR R (n : Int) = getR S (n : Int) := by
  obtain ⟨e1, e2⟩ := same_at h.r h.s n (by omega) (h.rs n hn) (h.sr n hn)
  unfold getR
  rw [← e1, Int.toNat_natCast]
  by_cases hh : hasN R.has n = true
  · rw [if_pos hh, if_pos hh, e2 hh]
  · rw [if_neg hh, if_neg hh]
end Go.Proofs.YtkkcnhfbcophiaaDoor.Pure
