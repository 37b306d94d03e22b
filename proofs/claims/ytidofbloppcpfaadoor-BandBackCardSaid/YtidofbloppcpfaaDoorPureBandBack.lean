/- A band is of its nodes, each at its place; with one taken off and put back it is as it was: for all numbers. -/
import Derived.Test.YtidofbloppcpfaaDoorLists
namespace Go.Proofs.YtidofbloppcpfaaDoor.Pure
open Go Go.RowKit Go.Proofs.YtidofbloppcpfaaDoor.B Go.Proofs.YtidofbloppcpfaaDoor.Band Go.Proofs.YtidofbloppcpfaaDoorW.PrintWords Go.Proofs.YtidofbloppcpfaaDoorW.PrintLast Go.Proofs.YtidofbloppcpfaaDoorW.PrintMore

theorem rd_at (l : List Int) (i : Nat) (hi : i < l.length) : rd l (i : Int) = l[i] := by
  unfold rd
  rw [Int.toNat_natCast, List.getD_eq_getElem?_getD, List.getElem?_eq_getElem hi]; rfl
theorem of_run (l : List Int) (hl : l.length ≤ 64) (k : Nat) : band_Of.f (l.length + 1 + k) l = some ((hset l l.length : Nat) : Int) := by
  have loop : ∀ n j : Nat, j + n = l.length → band_Of.l0 (n + 1 + k) (hset l j : Nat) l (l.length : Int) j = some ((hset l l.length : Nat) : Int) := by
    intro n
    induction n with
    | zero =>
      intro j hj
      obtain rfl : j = l.length := by omega
      rw [show 0 + 1 + k = k + 1 from by omega, band_Of.l0, if_neg (by omega)]
    | succ n ih =>
      intro j hj
      rw [show n + 1 + 1 + k = (n + 1 + k) + 1 from by omega, band_Of.l0, if_pos (by omega), if_pos (by omega), if_pos (by omega), rd_at l j (by omega), bit_run]
      simp only [Option.bind_some]
      rw [bits_or_u64_nat _ _ (hset_lt l j (by omega)) (bitN_lt _), ← hset_succ l j (by omega), show wrap64 ((j : Int) + 1) = ((j + 1 : Nat) : Int) from by unfold wrap64; omega]
      exact ih (j + 1) (by omega)
  have h := loop l.length 0 (by omega)
  rw [hset_zero] at h
  exact h
theorem place_at (c : Nat) (hc : c < 18446744073709551616) (i : Nat) (hi : i < (bandL c).length) : band_Place.f c (bandL c)[i] = some (i : Int) := by
  rw [place_run c hc, ← bandL_cnt, bandL_filter (c &&& belN (bandL c)[i]) c (fun j => decide ((j : Int) < (bandL c)[i])) (fun j hj => by rw [Nat.testBit_and, belN_bit _ j hj])]
  have e : (bandL c).filter (fun x => decide (((x.toNat : Nat) : Int) < (bandL c)[i])) = (bandL c).filter (fun x => decide (x < (bandL c)[i])) := by
    apply List.filter_congr
    intro x hx
    obtain ⟨j, _, _, rfl⟩ := (mem_bandL c x).1 hx
    rfl
  rw [e, below_at (bandL_sorted c) i hi, List.length_take]
  congr 2
  omega
theorem has_at (c : Nat) (hc : c < 18446744073709551616) (i : Nat) (hi : i < (bandL c).length) : band_Has.f c (bandL c)[i] = some true := by
  rw [has_run c hc]
  obtain ⟨j, hj, hb, e⟩ := (mem_bandL c _).1 (List.getElem_mem (l := bandL c) hi)
  rw [e]
  unfold hasN
  rw [decide_eq_true (by omega), Int.toNat_natCast, hb]
  rfl
theorem end_at (c : Nat) (hc : c < 18446744073709551616) (a1 : Int) (k : Nat) (hk : Int.tmod (wrap64 a1) 64 = k) (hk63 : k ≤ 63) : conventiclelaw05_BandBack.l0 ((bandL c).length + 1 + 4 + 1) c a1 (bandL c) (bandL c).length = some true := by
  have hl := clr_lt c (bitN k) hc
  have e1 : clr c (bitN k) ||| bitN k = c ||| bitN k := by
    refine eq_of_bits (or_lt _ _ hl (bitN_lt _)) (or_lt _ _ hc (bitN_lt _)) (fun i hi => ?_)
    rw [Nat.testBit_or, Nat.testBit_or, clr_bit c _ (bitN_lt _) i hi]
    cases c.testBit i <;> cases (bitN k).testBit i <;> rfl
  have e2 : hasN (clr c (bitN k)) k = false := by
    unfold hasN
    rw [Int.toNat_natCast, clr_bit c _ (bitN_lt _) k (by omega), bitN_bit, decide_eq_true (p := (0 : Int) ≤ (k : Int) ∧ (k : Int) ≤ 63 ∧ (k : Int) = (k : Int)) (by omega)]
    simp
  rw [conventiclelaw05_BandBack.l0, if_neg (by omega), hk, less_run c hc, Option.bind_some, with_run _ hl, Option.bind_some, show (bandL c).length + 1 + 4 = (bandL c).length + 1 + 4 from rfl, of_run _ (bandL_length c), Option.bind_some, hset_all c hc, if_pos rfl, many_run c hc, Option.bind_some, bandL_cnt, if_pos rfl, with_run c hc, Option.bind_some, e1, if_pos rfl, Option.bind_some, has_run _ hl, Option.bind_some, e2, if_neg (by decide), show cnt 64 c + 1 + 4 = (cnt 64 c + 1) + 4 from rfl, Band.shown_run]
  rfl
theorem loop (c : Nat) (hc : c < 18446744073709551616) (a1 : Int) (k : Nat) (hk : Int.tmod (wrap64 a1) 64 = k) (hk63 : k ≤ 63) : ∀ n j : Nat, j + n = (bandL c).length → conventiclelaw05_BandBack.l0 (n + ((bandL c).length + 1 + 4 + 1)) c a1 (bandL c) j = some true := by
  have h64 := bandL_length c
  intro n
  induction n with
  | zero =>
    intro j hj
    obtain rfl : j = (bandL c).length := by omega
    rw [Nat.zero_add]
    exact end_at c hc a1 k hk hk63
  | succ n ih =>
    intro j hj
    rw [show n + 1 + ((bandL c).length + 1 + 4 + 1) = (n + ((bandL c).length + 1 + 4 + 1)) + 1 from by omega, conventiclelaw05_BandBack.l0, if_pos (by omega), if_pos (by omega), rd_at _ j (by omega), place_at c hc j (by omega), Option.bind_some, if_pos rfl, has_at c hc j (by omega), Option.bind_some, if_pos rfl, show wrap64 ((j : Int) + 1) = ((j + 1 : Nat) : Int) from by unfold wrap64; omega]
    exact ih (j + 1) (by omega)
theorem BandBack : conventiclelaw05_BandBack.Pure := by
  intro a0 a1 w0 w1
  obtain ⟨c, rfl, hc⟩ := wf_u64 w0
  obtain ⟨k, hk, hk63⟩ := mod64 (wf_u8 w1)
  refine ⟨(bandL c).length + ((bandL c).length + 1 + 4 + 1), ?_⟩
  unfold conventiclelaw05_BandBack.f
  rw [list_run c hc, Option.bind_some]
  exact loop c hc a1 k hk hk63 (bandL c).length 0 (by omega)
end Go.Proofs.YtidofbloppcpfaaDoor.Pure
