/- The list of a band's nodes: rising; what is first, next, below; how many: plain Lean. -/
import Derived.Test.YtidofbloppcpfaaDoorRuns
namespace Go.Proofs.YtidofbloppcpfaaDoor.Band
open Go Go.RowKit Go.Proofs.YtidofbloppcpfaaDoor.B Go.Proofs.YtidofbloppcpfaaDoorW.PrintWords Go.Proofs.YtidofbloppcpfaaDoorW.PrintLast Go.Proofs.YtidofbloppcpfaaDoorW.PrintMore

theorem mem_bandL (c : Nat) (x : Int) : x ∈ bandL c ↔ ∃ i : Nat, i < 64 ∧ c.testBit i = true ∧ x = i := by
  unfold bandL
  simp only [List.mem_map, List.mem_filter, List.mem_range]
  constructor
  · rintro ⟨i, ⟨hi, hb⟩, rfl⟩
    exact ⟨i, hi, hb, rfl⟩
  · rintro ⟨i, hi, hb, rfl⟩
    exact ⟨i, ⟨hi, hb⟩, rfl⟩
theorem bandL_filter (a c : Nat) (q : Nat → Bool) (h : ∀ i < 64, a.testBit i = (c.testBit i && q i)) : bandL a = (bandL c).filter (fun x => q x.toNat) := by
  unfold bandL
  rw [List.filter_map, List.filter_filter]
  congr 1
  apply List.filter_congr
  intro i hi
  rw [h i (List.mem_range.1 hi), Bool.and_comm]
  rfl
theorem bandL_sorted (c : Nat) : (bandL c).Pairwise (· < ·) := by
  unfold bandL
  rw [List.pairwise_map]
  refine ((List.pairwise_lt_range (n := 64)).filter _).imp ?_
  intro a b h
  exact Int.ofNat_lt.2 h
theorem split_at (l : List Int) (i : Nat) (hi : i < l.length) : l = l.take i ++ l[i] :: l.drop (i + 1) := by
  rw [← List.drop_eq_getElem_cons hi, List.take_append_drop]
theorem sorted_at {l : List Int} (h : l.Pairwise (· < ·)) (i : Nat) (hi : i < l.length) : (∀ x ∈ l.take i, x < l[i]) ∧ ∀ x ∈ l.drop (i + 1), l[i] < x := by
  rw [split_at l i hi] at h
  rw [List.pairwise_append] at h
  obtain ⟨-, h2, h3⟩ := h
  refine ⟨fun x hx => h3 x hx _ (List.mem_cons.2 (.inl rfl)), fun x hx => ?_⟩
  rw [List.pairwise_cons] at h2
  exact h2.1 x hx
theorem filter_all {α : Type} (p : α → Bool) (l : List α) (h : ∀ x ∈ l, p x = true) : l.filter p = l := List.filter_eq_self.2 h
theorem filter_no {α : Type} (p : α → Bool) (l : List α) (h : ∀ x ∈ l, p x = false) : l.filter p = [] := by
  rw [List.filter_eq_nil_iff]
  intro x hx
  rw [h x hx]
  decide
theorem above_at {l : List Int} (h : l.Pairwise (· < ·)) (i : Nat) (hi : i < l.length) : l.filter (fun x => decide (l[i] < x)) = l.drop (i + 1) := by
  obtain ⟨h1, h2⟩ := sorted_at h i hi
  generalize hv : l[i] = v at *
  conv => lhs; rw [split_at l i hi]
  rw [List.filter_append, List.filter_cons, filter_no _ (l.take i) (fun x hx => decide_eq_false (by have := h1 x hx; omega)), if_neg (by rw [hv]; simp), filter_all _ _ (fun x hx => decide_eq_true (h2 x hx))]
  rfl
theorem below_at {l : List Int} (h : l.Pairwise (· < ·)) (i : Nat) (hi : i < l.length) : l.filter (fun x => decide (x < l[i])) = l.take i := by
  obtain ⟨h1, h2⟩ := sorted_at h i hi
  generalize hv : l[i] = v at *
  conv => lhs; rw [split_at l i hi]
  rw [List.filter_append, List.filter_cons, filter_all _ (l.take i) (fun x hx => decide_eq_true (h1 x hx)), if_neg (by rw [hv]; simp), filter_no _ _ (fun x hx => decide_eq_false (by have := h2 x hx; omega)), List.append_nil]
theorem take_drop_lt {l : List Int} (h : l.Pairwise (· < ·)) (j : Nat) (x y : Int) (hx : x ∈ l.take j) (hy : y ∈ l.drop j) : x < y := by
  rw [← List.take_append_drop j l, List.pairwise_append] at h
  exact h.2.2 x hx y hy
theorem filter_take {l : List Int} (h : l.Pairwise (· < ·)) (j : Nat) : l.filter (fun x => decide (x ∈ l.take j)) = l.take j := by
  generalize ht : l.take j = t at *
  conv => lhs; rw [← List.take_append_drop j l]
  rw [List.filter_append, ht, filter_all _ t (fun x hx => decide_eq_true hx), filter_no _ _ (fun x hx => decide_eq_false (fun hx2 => by
    have := take_drop_lt h j x x (by rw [ht]; exact hx2) hx
    omega)), List.append_nil]
theorem filter_drop {l : List Int} (h : l.Pairwise (· < ·)) (j : Nat) : l.filter (fun x => !decide (x ∈ l.take j)) = l.drop j := by
  generalize ht : l.take j = t at *
  conv => lhs; rw [← List.take_append_drop j l]
  rw [List.filter_append, ht, filter_no _ t (fun x hx => by simp [hx]), filter_all _ _ (fun x hx => by
    have : ¬ x ∈ t := fun hx2 => by
      have := take_drop_lt h j x x (by rw [ht]; exact hx2) hx
      omega
    simp [this]), List.nil_append]
/-- the head, if there is one -/
def headP (l : List Int) : Int × Bool := match l with | [] => (0, false) | x :: _ => (x, true)
theorem first_head (c : Nat) (hc : c < 18446744073709551616) : firstN c = headP (bandL c) := by
  unfold firstN
  by_cases h : c = 0
  · rw [if_pos h, h, bandL_zero]; rfl
  · rw [if_neg h, bandL_step c h hc]; rfl
theorem bandL_nil (c : Nat) (hc : c < 18446744073709551616) : bandL c = [] ↔ c = 0 := by
  constructor
  · intro h
    apply Classical.byContradiction
    intro h0
    rw [bandL_step c h0 hc] at h
    cases h
  · rintro rfl
    exact bandL_zero
theorem up_list (c : Nat) (n : Int) : bandL (clr c (belN (n + 1))) = (bandL c).filter (fun x => decide (n < x)) := by
  rw [bandL_filter (clr c (belN (n + 1))) c (fun i => decide (n < (i : Int))) (fun i hi => ?_)]
  · apply List.filter_congr
    intro x hx
    obtain ⟨i, _, _, rfl⟩ := (mem_bandL c x).1 hx
    rfl
  · rw [clr_bit c _ (belN_lt _) i hi, belN_bit _ i hi]
    congr 1
    by_cases h : n < (i : Int)
    · rw [decide_eq_true h, decide_eq_false (by omega)]; rfl
    · rw [decide_eq_false h, decide_eq_true (by omega)]; rfl
theorem next_list (c : Nat) (hc : c < 18446744073709551616) (n : Int) : nextN c n = if (bandL c).filter (fun x => decide (n < x)) = [] then headP (bandL c) else headP ((bandL c).filter (fun x => decide (n < x))) := by
  unfold nextN
  have hu := up_list c n
  have hl := clr_lt c (belN (n + 1)) hc
  by_cases h : n < 63
  · rw [if_pos h]
    by_cases h1 : clr c (belN (n + 1)) = 0
    · rw [if_pos h1, if_pos (by rw [← hu]; exact (bandL_nil _ hl).2 h1)]
      exact first_head c hc
    · rw [if_neg h1, if_neg (by rw [← hu]; exact fun h2 => h1 ((bandL_nil _ hl).1 h2)), ← hu]
      exact first_head _ hl
  · rw [if_neg h, if_pos (filter_no _ _ (fun x hx => by
      obtain ⟨i, hi, _, rfl⟩ := (mem_bandL c x).1 hx
      exact decide_eq_false (by omega)))]
    exact first_head c hc
theorem ctz_uniq (u : Nat) (hu : u < 18446744073709551616) (j : Nat) (hj : u.testBit j = true) (hb : ∀ i < j, u.testBit i = false) : u ≠ 0 ∧ Lib.ctz 64 u = j := by
  have h0 : u ≠ 0 := by rintro rfl; simp at hj
  refine ⟨h0, ?_⟩
  obtain ⟨h1, h2⟩ := ctz_bit u h0 hu
  rcases Nat.lt_trichotomy (Lib.ctz 64 u) j with h | h | h
  · rw [hb _ h] at h1; cases h1
  · exact h
  · rw [h2 _ h] at hj; cases hj
theorem cnt_mono (a b : Nat) (h : ∀ i < 64, a.testBit i = true → b.testBit i = true) : cnt 64 a ≤ cnt 64 b := by
  rw [← cnt_filter, ← cnt_filter]
  have e : (List.range 64).filter (fun i => a.testBit i) = ((List.range 64).filter (fun i => b.testBit i)).filter (fun i => a.testBit i) := by
    rw [List.filter_filter]
    apply List.filter_congr
    intro i hi
    by_cases ha : a.testBit i = true
    · rw [ha, h i (List.mem_range.1 hi) ha]; rfl
    · rw [Bool.not_eq_true] at ha; rw [ha]; rfl
  rw [e]
  exact List.length_filter_le _ _
/-- what the first j of a list come to -/
def hset (l : List Int) (j : Nat) : Nat := (l.take j).foldl (fun a x => a ||| bitN x) 0
theorem hset_zero (l : List Int) : hset l 0 = 0 := by unfold hset; simp
theorem hset_succ (l : List Int) (j : Nat) (hj : j < l.length) : hset l (j + 1) = hset l j ||| bitN l[j] := by
  unfold hset
  rw [List.take_succ_eq_append_getElem hj, List.foldl_append]
  rfl
theorem hset_lt (l : List Int) : ∀ j, j ≤ l.length → hset l j < 18446744073709551616 := by
  intro j
  induction j with
  | zero => intro _; rw [hset_zero]; decide
  | succ j ih =>
    intro h
    rw [hset_succ l j (by omega)]
    exact or_lt _ _ (ih (by omega)) (bitN_lt _)
theorem hset_bit (c : Nat) : ∀ j, j ≤ (bandL c).length → ∀ i, (hset (bandL c) j).testBit i = decide ((i : Int) ∈ (bandL c).take j) := by
  intro j
  induction j with
  | zero => intro _ i; rw [hset_zero]; simp
  | succ j ih =>
    intro h i
    rw [hset_succ _ j (by omega), Nat.testBit_or, ih (by omega) i, List.take_succ_eq_append_getElem (by omega), bitN_bit]
    obtain ⟨k, hk, _, e⟩ := (mem_bandL c _).1 (List.getElem_mem (l := bandL c) (show j < (bandL c).length by omega))
    rw [e]
    simp only [List.mem_append, List.mem_singleton, Bool.decide_or]
    congr 1
    rw [decide_eq_decide]
    omega
theorem bits_mem (c : Nat) (i : Nat) (hi : i < 64) : c.testBit i = decide ((i : Int) ∈ bandL c) := by
  by_cases h : c.testBit i = true
  · rw [h, decide_eq_true ((mem_bandL c _).2 ⟨i, hi, h, rfl⟩)]
  · rw [Bool.not_eq_true] at h
    rw [h]
    symm
    rw [decide_eq_false_iff_not]
    intro hm
    obtain ⟨k, _, hb, e⟩ := (mem_bandL c _).1 hm
    obtain rfl : i = k := by omega
    rw [h] at hb
    cases hb
theorem hset_all (c : Nat) (hc : c < 18446744073709551616) : hset (bandL c) (bandL c).length = c := by
  refine eq_of_bits (hset_lt _ _ (Nat.le_refl _)) hc (fun i hi => ?_)
  rw [hset_bit c _ (Nat.le_refl _), List.take_length, bits_mem c i hi]
theorem hset_and (c : Nat) (j : Nat) (hj : j ≤ (bandL c).length) : cnt 64 (hset (bandL c) j &&& c) = j := by
  rw [← bandL_cnt, bandL_filter (hset (bandL c) j &&& c) c (fun i => decide ((i : Int) ∈ (bandL c).take j)) (fun i hi => by rw [Nat.testBit_and, hset_bit c j hj, Bool.and_comm])]
  have e : (bandL c).filter (fun x => decide (((x.toNat : Nat) : Int) ∈ (bandL c).take j)) = (bandL c).filter (fun x => decide (x ∈ (bandL c).take j)) := by
    apply List.filter_congr
    intro x hx
    obtain ⟨i, _, _, rfl⟩ := (mem_bandL c x).1 hx
    rfl
  rw [e, filter_take (bandL_sorted c) j, List.length_take]
  omega
theorem hset_clr (c : Nat) (j : Nat) (hj : j ≤ (bandL c).length) : cnt 64 (clr c (hset (bandL c) j)) = (bandL c).length - j := by
  rw [← bandL_cnt, bandL_filter (clr c (hset (bandL c) j)) c (fun i => !decide ((i : Int) ∈ (bandL c).take j)) (fun i hi => by rw [clr_bit _ _ (hset_lt _ _ hj) i hi, hset_bit c j hj])]
  have e : (bandL c).filter (fun x => !decide (((x.toNat : Nat) : Int) ∈ (bandL c).take j)) = (bandL c).filter (fun x => !decide (x ∈ (bandL c).take j)) := by
    apply List.filter_congr
    intro x hx
    obtain ⟨i, _, _, rfl⟩ := (mem_bandL c x).1 hx
    rfl
  rw [e, filter_drop (bandL_sorted c) j, List.length_drop]
theorem wf_u64 {a : Int} (h : (Lit.int .u64 a).wf = true) : ∃ c : Nat, a = c ∧ c < 18446744073709551616 := by
  simp [Lit.wf, IntKind.min, IntKind.max, IntKind.signed, IntKind.bits] at h
  exact ⟨a.toNat, by omega, by omega⟩
theorem wf_i64 {a : Int} (h : (Lit.int .i64 a).wf = true) : -9223372036854775808 ≤ a ∧ a ≤ 9223372036854775807 := by
  simp [Lit.wf, IntKind.min, IntKind.max, IntKind.signed, IntKind.bits] at h; omega
theorem wf_u8 {a : Int} (h : (Lit.int .u8 a).wf = true) : 0 ≤ a ∧ a ≤ 255 := by
  simp [Lit.wf, IntKind.min, IntKind.max, IntKind.signed, IntKind.bits] at h; omega
theorem mod64 {a : Int} (h : 0 ≤ a ∧ a ≤ 255) : ∃ k : Nat, Int.tmod (wrap64 a) 64 = k ∧ k ≤ 63 := by
  rw [show wrap64 a = a by unfold wrap64; omega, Int.tmod_eq_emod_of_nonneg h.1]
  exact ⟨(a % 64).toNat, by omega, by omega⟩
end Go.Proofs.YtidofbloppcpfaaDoor.Band
