/- What RollLive asks of what a roll knows: plain Lean. -/
import Derived.Test.YtkkcnhfbcophiaaDoorKnows
set_option linter.unusedVariables false
namespace Go.Proofs.YtkkcnhfbcophiaaDoor.Pure
open Go.RowKit Go.Proofs.YtkkcnhfbcophiaaDoor.B Go.Proofs.YtkkcnhfbcophiaaDoor.Band Go.Proofs.YtkkcnhfbcophiaaDoorW.PrintWords Go.Proofs.YtkkcnhfbcophiaaDoorW.PrintLast

theorem allL_okU {R : RollS} {k : Nat} {i : Int} (h : RV R k i) : ∀ u ∈ allL R, OkU u := fun u hu => by
  obtain ⟨n, hn, hb, rfl⟩ := mem_allL.1 hu
  exact h.okU n
theorem allL_heard {R S : RollS} {k o : Nat} {i j : Int} (hR : RV R k i) (hS : RV S o j) (h : ∀ u ∈ allL R, mayS u = false ∨ knows S u) (n : Nat) (hn : n < 64) (hb : hasN R.has n = true) : knows S (R.K n) := by
  rcases h _ (mem_allL.2 ⟨n, hn, hb, rfl⟩) with h1 | h1
  · rw [hR.may n hn hb] at h1; cases h1
  · exact h1
theorem hasN_bit {c i : Nat} (hi : i < 64) : hasN c i = c.testBit i := by
  unfold hasN
  rw [Int.toNat_natCast, decide_eq_true (show (0 : Int) ≤ (i : Int) ∧ (i : Int) ≤ 63 by omega), Bool.true_and]
theorem allL_length (R : RollS) : (allL R).length = (bandL R.has).length := by unfold allL; rw [List.length_map]
theorem rd31_get (l : List S31) (j : Nat) (h : j < l.length) : rd_T31 l (j : Int) = l[j] := by
  unfold rd_T31
  rw [Int.toNat_natCast, List.getD_eq_getElem?_getD, List.getElem?_eq_getElem h]; rfl
theorem allL_at {R : RollS} {k : Nat} {i : Int} (h : RV R k i) (j : Nat) (hj : j < (allL R).length) : ∃ n : Nat, n < 64 ∧ hasN R.has n = true ∧ (bandL R.has)[j]'(by rw [← allL_length]; exact hj) = n ∧ rd_T31 (allL R) j = R.K n ∧ (rd_T31 (allL R) j).f0 = n ∧ 0 ≤ (rd_T31 (allL R) j).f2 ∧ getR R (rd_T31 (allL R) j).f0 = (rd_T31 (allL R) j, true) := by
  have hj' : j < (bandL R.has).length := by rw [← allL_length]; exact hj
  obtain ⟨n, hn, hb, e⟩ := (mem_bandL _ _).1 (List.getElem_mem hj')
  have hh : hasN R.has n = true := by rw [hasN_bit hn]; exact hb
  have e1 : rd_T31 (allL R) j = R.K n := by
    rw [rd31_get _ _ hj]
    have := List.getElem_map (fun n : Int => R.K n.toNat) (l := bandL R.has) (i := j) (h := by rw [List.length_map]; exact hj')
    rw [e, Int.toNat_natCast] at this
    exact this
  have o := h.own n hn hh
  refine ⟨n, hn, hh, e, e1, by rw [e1]; exact o.1, by rw [e1]; exact o.2.1, ?_⟩
  rw [e1, o.1]
  unfold getR
  rw [if_pos hh, Int.toNat_natCast]
theorem allL_sorted {R : RollS} {k : Nat} {i : Int} (h : RV R k i) (j : Nat) (hj : j + 1 < (allL R).length) : (rd_T31 (allL R) j).f0 < (rd_T31 (allL R) (j + 1 : Nat)).f0 := by
  obtain ⟨n, _, _, e, _, e1, _⟩ := allL_at h j (by omega)
  obtain ⟨m, _, _, f, _, f1, _⟩ := allL_at h (j + 1) hj
  rw [e1, f1, ← e, ← f]
  exact List.pairwise_iff_getElem.1 (bandL_sorted R.has) _ _ _ _ (by omega)
theorem live_bits (l : List S31) (i : Nat) (hi : i < 64) : ∀ b : Nat, (l.foldl (fun b u => if isLive u = true then b ||| bitN u.f0 else b) b).testBit i = (b.testBit i || l.any (fun u => isLive u && decide (u.f0 = i))) := by
  induction l with
  | nil => intro b; simp
  | cons u l ih =>
    intro b
    rw [List.foldl_cons, ih, List.any_cons]
    cases hu : isLive u
    · rw [if_neg (by decide), Bool.false_and, Bool.false_or]
    · rw [if_pos rfl, Nat.testBit_or, bitN_bit, Bool.true_and, Bool.or_assoc]
      congr 2
      rw [decide_eq_decide]
      omega
theorem liveN_bit {R : RollS} {k : Nat} {i : Int} (h : RV R k i) (n : Nat) (hn : n < 64) : (liveN (allL R)).testBit n = (R.has.testBit n && isLive (R.K n)) := by
  unfold liveN
  rw [live_bits _ n hn, Nat.zero_testBit, Bool.false_or, ← hasN_bit hn, Bool.eq_iff_iff, List.any_eq_true, Bool.and_eq_true]
  constructor
  · rintro ⟨u, hu, hq⟩
    rw [Bool.and_eq_true, decide_eq_true_iff] at hq
    obtain ⟨m, hm, hb, rfl⟩ := mem_allL.1 hu
    have := (h.own m hm hb).1
    obtain rfl : m = n := by omega
    exact ⟨hb, hq.1⟩
  · rintro ⟨hb, hq⟩
    exact ⟨R.K n, mem_allL.2 ⟨n, hn, hb, rfl⟩, by rw [hq, (h.own n hn hb).1]; simp⟩
theorem liveN_own {R : RollS} {k : Nat} {i : Int} (h : RV R k i) : (liveN (allL R)).testBit k = true := by
  rw [liveN_bit h k h.k64, ← hasN_bit h.k64, h.has, h.inv.mine]
  rfl
def deadN (l : List S31) : Nat := l.countP (fun u => decide (1 < u.f2))
theorem deadN_take (l : List S31) (k : Nat) (hk : k < l.length) : deadN (l.take (k + 1)) = if 1 < (rd_T31 l (k : Int)).f2 then deadN (l.take k) + 1 else deadN (l.take k) := by
  rw [rd31_get l k hk]
  unfold deadN
  rw [List.take_succ_eq_append_getElem hk, List.countP_append, List.countP_singleton]
  by_cases h : 1 < l[k].f2
  · rw [if_pos h, if_pos (decide_eq_true h)]
  · rw [if_neg h, if_neg (by rw [decide_eq_false h]; decide)]; rfl
theorem deadN_le (l : List S31) : deadN l ≤ l.length := List.countP_le_length
theorem part_count (p : Int → Bool) (k : Int) (hk : p k = true) : ∀ l : List Int, (l.filter (fun x => p x && !decide (x = k))).length + l.countP (fun x => !p x) + l.countP (fun x => decide (x = k)) = l.length
  | [] => rfl
  | x :: l => by
    have ih := part_count p k hk l
    rw [List.filter_cons, List.countP_cons, List.countP_cons, List.length_cons]
    by_cases e : x = k
    · subst e
      rw [hk]
      simp only [decide_true, Bool.not_true, Bool.and_false, if_true]
      simp only [Bool.false_eq_true, if_false]
      omega
    · rw [decide_eq_false e]
      cases hp : p x
      · simp only [Bool.not_false, Bool.false_and, if_true, Bool.false_eq_true, if_false]; omega
      · simp only [Bool.not_true, Bool.not_false, Bool.true_and, if_true, Bool.false_eq_true, if_false, List.length_cons]; omega
theorem count_zero (k : Int) : ∀ l : List Int, (∀ x ∈ l, k < x) → l.countP (fun x => decide (x = k)) = 0 := by
  intro l h
  rw [List.countP_eq_zero]
  intro x hx
  have := h x hx
  simp only [decide_eq_true_eq]
  omega
theorem count_one (k : Int) : ∀ l : List Int, l.Pairwise (· < ·) → k ∈ l → l.countP (fun x => decide (x = k)) = 1
  | [], _, h => by simp at h
  | x :: l, hs, h => by
    rw [List.pairwise_cons] at hs
    rw [List.countP_cons]
    by_cases e : x = k
    · subst e
      rw [if_pos (by simp), count_zero x l hs.1]
    · rw [if_neg (by simp [e]), count_one k l hs.2 ((List.mem_cons.1 h).resolve_left (Ne.symm e))]
theorem others_len {R : RollS} {k : Nat} {i : Int} (h : RV R k i) : (othersL R).length + deadN (allL R) + 1 = (allL R).length := by
  have hk := h.k64
  have e1 : othersL R = (bandL R.has).filter (fun x => isLive (R.K x.toNat) && !decide (x = (k : Int))) := by
    unfold othersL
    rw [bandL_filter _ R.has (fun n => isLive (R.K n) && !decide (n = k))]
    · apply List.filter_congr
      intro x hx
      obtain ⟨n, hn, _, rfl⟩ := (mem_bandL _ _).1 hx
      rw [Int.toNat_natCast]
      congr 2
      rw [decide_eq_decide]
      omega
    · intro n hn
      rw [clr_bit _ _ (bitN_lt _) n hn, liveN_bit h n hn, h.inv.me, bitN_bit, Bool.and_assoc]
      congr 3
      rw [decide_eq_decide]
      omega
  have e2 : deadN (allL R) = (bandL R.has).countP (fun x => !isLive (R.K x.toNat)) := by
    unfold deadN allL
    rw [List.countP_map]
    apply List.countP_congr
    intro x hx
    obtain ⟨n, hn, hb, rfl⟩ := (mem_bandL _ _).1 hx
    have o := h.own n hn (by rw [hasN_bit hn]; exact hb)
    simp only [Function.comp, Int.toNat_natCast, decide_eq_true_eq, isLive, Bool.not_eq_true', decide_eq_false_iff_not]
    omega
  have hm : (k : Int) ∈ bandL R.has := (mem_bandL _ _).2 ⟨k, hk, by rw [← hasN_bit hk]; exact h.has, rfl⟩
  have e3 := count_one (k : Int) (bandL R.has) (bandL_sorted _) hm
  have e4 := part_count (fun x => isLive (R.K x.toNat)) (k : Int) (by show isLive (R.K (Int.toNat (k : Int))) = true; rw [Int.toNat_natCast, h.inv.mine]; rfl) (bandL R.has)
  rw [e1, e2, allL_length]
  omega
end Go.Proofs.YtkkcnhfbcophiaaDoor.Pure
