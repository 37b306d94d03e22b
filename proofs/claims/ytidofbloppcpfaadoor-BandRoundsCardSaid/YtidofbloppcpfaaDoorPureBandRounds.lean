/- By Next one goes through all nodes of a band, rising, and back to the first: for all numbers. -/
import Derived.Test.YtidofbloppcpfaaDoorLists
namespace Go.Proofs.YtidofbloppcpfaaDoor.Pure
open Go Go.RowKit Go.Proofs.YtidofbloppcpfaaDoor.B Go.Proofs.YtidofbloppcpfaaDoor.Band Go.Proofs.YtidofbloppcpfaaDoorW.PrintWords Go.Proofs.YtidofbloppcpfaaDoorW.PrintLast Go.Proofs.YtidofbloppcpfaaDoorW.PrintMore

/-- where one stands ahead of step i -/
def prev (l : List Int) (i : Nat) : Int := if i = 0 then -1 else l.getD ((i - 1) % l.length) 0
theorem getD_at (l : List Int) (i : Nat) (hi : i < l.length) : l.getD i 0 = l[i] := by
  rw [List.getD_eq_getElem?_getD, List.getElem?_eq_getElem hi]; rfl
theorem next_at (c : Nat) (hc : c < 18446744073709551616) (hl : 0 < (bandL c).length) (i : Nat) : nextN c (prev (bandL c) i) = ((bandL c).getD (i % (bandL c).length) 0, true) := by
  rw [next_list c hc]
  obtain ⟨l, hll⟩ : ∃ l, l = bandL c := ⟨_, rfl⟩
  have hs := bandL_sorted c
  have hpos : ∀ x ∈ l, 0 ≤ x := by
    intro x hx
    rw [hll] at hx
    obtain ⟨k, _, _, rfl⟩ := (mem_bandL c x).1 hx
    omega
  rw [← hll] at hl hs ⊢
  have hhead : headP l = (l.getD 0 0, true) := by
    cases l with
    | nil => simp at hl
    | cons a t => rfl
  cases i with
  | zero =>
    have e : l.filter (fun x => decide (prev l 0 < x)) = l := filter_all _ _ (fun x hx => decide_eq_true (by have := hpos x hx; unfold prev; rw [if_pos rfl]; omega))
    rw [e, if_neg (fun h => by rw [h] at hl; simp at hl), hhead, Nat.zero_mod]
  | succ m =>
    have hm : m % l.length < l.length := Nat.mod_lt _ hl
    have e : prev l (m + 1) = l[m % l.length] := by
      unfold prev
      rw [if_neg (by omega), Nat.add_sub_cancel, getD_at l _ hm]
    rw [e, above_at hs _ hm]
    by_cases h : m % l.length + 1 < l.length
    · have e2 : (m + 1) % l.length = m % l.length + 1 := by
        rw [Nat.add_mod, Nat.mod_eq_of_lt (show 1 < l.length by omega), Nat.mod_eq_of_lt h]
      rw [e2, getD_at l _ h, List.drop_eq_getElem_cons h, if_neg (List.cons_ne_nil _ _)]
      rfl
    · have e2 : (m + 1) % l.length = 0 := by
        by_cases h1 : l.length = 1
        · rw [h1]; exact Nat.mod_one _
        · rw [Nat.add_mod, Nat.mod_eq_of_lt (show 1 < l.length by omega), show m % l.length + 1 = l.length by omega, Nat.mod_self]
      rw [e2, List.drop_eq_nil_of_le (by omega), if_pos rfl, hhead]
theorem loop (c : Nat) (hc : c < 18446744073709551616) (hl : 0 < (bandL c).length) : ∀ n i : Nat, i + n = 2 * (bandL c).length → conventiclelaw05_BandRounds.l0 (n + 1 + 69) c (bandL c) (prev (bandL c) i) i = some true := by
  have h64 := bandL_length c
  have hprev : ∀ i, -1 ≤ prev (bandL c) i ∧ prev (bandL c) i ≤ 63 := by
    intro i
    unfold prev
    by_cases h : i = 0
    · rw [if_pos h]; omega
    · rw [if_neg h, getD_at _ _ (Nat.mod_lt _ hl)]
      obtain ⟨k, hk, _, e⟩ := (mem_bandL c _).1 (List.getElem_mem (l := bandL c) (Nat.mod_lt (i - 1) hl))
      rw [e]; omega
  intro n
  induction n with
  | zero =>
    intro i hi
    rw [show 0 + 1 + 69 = 69 + 1 from rfl, conventiclelaw05_BandRounds.l0, if_neg (by unfold wrap64; omega), shown_run 65]
    rfl
  | succ n ih =>
    intro i hi
    have hp := hprev i
    have hm : i % (bandL c).length < (bandL c).length := Nat.mod_lt _ hl
    have ht : Int.tmod (i : Int) ((bandL c).length : Int) = ((i % (bandL c).length : Nat) : Int) := by
      rw [Int.tmod_eq_emod_of_nonneg (by omega)]; rfl
    rw [show n + 1 + 1 + 69 = (n + 1 + 69) + 1 from by omega, conventiclelaw05_BandRounds.l0, if_pos (by unfold wrap64; omega), next_run c hc _ (by omega) (by omega), next_at c hc hl i]
    simp only [Option.bind_some, ht]
    rw [if_pos trivial, if_neg (by omega), if_pos (by omega), if_pos (by omega), if_pos (by unfold rd; rw [Int.toNat_natCast])]
    have h := ih (i + 1) (by omega)
    rw [show wrap64 ((i : Int) + 1) = ((i + 1 : Nat) : Int) from by unfold wrap64; omega]
    have e : prev (bandL c) (i + 1) = (bandL c).getD (i % (bandL c).length) 0 := by
      unfold prev
      rw [if_neg (by omega), Nat.add_sub_cancel]
    rw [e] at h
    exact h
theorem BandRounds : conventiclelaw05_BandRounds.Pure := by
  intro a0 a1 w0 w1
  obtain ⟨c, rfl, hc⟩ := wf_u64 w0
  have h1 := wf_i64 w1
  refine ⟨2 * (bandL c).length + 1 + 69, ?_⟩
  unfold conventiclelaw05_BandRounds.f
  rw [show 2 * (bandL c).length + 1 + 69 = 65 + (2 * (bandL c).length + 5) from by omega, rlist_run c hc]
  simp only [Option.bind_some]
  by_cases h : (bandL c).length = 0
  · obtain rfl := (bandL_nil c hc).1 (List.eq_nil_of_length_eq_zero h)
    rw [if_pos (by omega), next_run 0 (by decide) a1 h1.1 h1.2, next_list 0 (by decide), bandL_zero]
    simp only [List.filter_nil, if_true, Option.bind_some, headP]
    rw [if_neg (by decide), show 65 + (2 * ([] : List Int).length + 5) = 66 + 4 from rfl, shown_run]
    rfl
  · rw [if_neg (by omega)]
    have := loop c hc (by omega) (2 * (bandL c).length) 0 (by omega)
    rw [show 65 + (2 * (bandL c).length + 5) = 2 * (bandL c).length + 1 + 69 from by omega]
    exact this
end Go.Proofs.YtidofbloppcpfaaDoor.Pure
