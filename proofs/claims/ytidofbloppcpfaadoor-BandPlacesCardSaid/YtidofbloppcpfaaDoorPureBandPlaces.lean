/- Places rise with nodes; what no node is changes no band: for all numbers. -/
import Derived.Test.YtidofbloppcpfaaDoorLists
namespace Go.Proofs.YtidofbloppcpfaaDoor.Pure
open Go Go.RowKit Go.Proofs.YtidofbloppcpfaaDoor.B Go.Proofs.YtidofbloppcpfaaDoor.Band Go.Proofs.YtidofbloppcpfaaDoorW.PrintWords Go.Proofs.YtidofbloppcpfaaDoorW.PrintLast Go.Proofs.YtidofbloppcpfaaDoorW.PrintMore

theorem rmany_run (c : Nat) (hc : c < 18446744073709551616) (k : Nat) : conventicleref05_Many.f (65 + k) c = some ((cnt 64 c : Nat) : Int) := by
  unfold conventicleref05_Many.f
  rw [rlist_run c hc, Option.bind_some, bandL_cnt]
theorem place_64 (c : Nat) (hc : c < 18446744073709551616) : c &&& belN 64 = c := by
  refine eq_of_bits (and_lt _ _ hc) hc (fun i hi => ?_)
  rw [Nat.testBit_and, belN_bit _ i hi, decide_eq_true (by omega), Bool.and_true]
theorem place_0 (c : Nat) (hc : c < 18446744073709551616) : c &&& belN 0 = 0 := by
  refine eq_of_bits (and_lt _ _ hc) (by decide) (fun i hi => ?_)
  rw [Nat.testBit_and, belN_bit _ i hi, decide_eq_false (by omega), Bool.and_false, Nat.zero_testBit]
theorem out_bit (m : Int) (hm : m < 0 ∨ m > 63) : bitN m = 0 := by
  unfold bitN
  rw [if_neg (by omega)]
theorem clr_zero (c : Nat) (hc : c < 18446744073709551616) : clr c 0 = c := by
  refine eq_of_bits (clr_lt _ _ hc) hc (fun i hi => ?_)
  rw [clr_bit c 0 (by decide) i hi, Nat.zero_testBit]
  simp
theorem tail (c : Nat) (hc : c < 18446744073709551616) (n m : Int) (hnm : n ≤ m) (x : Bool) (hx : x = true → m < 0 ∨ m > 63) (k : Nat) : conventiclelaw05_BandPlaces.j1 (65 + k + 1) c n m x = some true := by
  have hp : cnt 64 (c &&& belN n) ≤ cnt 64 (c &&& belN m) := cnt_mono _ _ (fun i hi h => by
    rw [Nat.testBit_and, belN_bit _ i hi, Bool.and_eq_true] at h
    rw [Nat.testBit_and, belN_bit _ i hi, h.1, decide_eq_true (by have := of_decide_eq_true h.2; omega)]
    rfl)
  have h0 : cnt 64 0 = 0 := by decide +kernel
  have rest : ((band_Place.f c 64).bind fun t209 => ((conventicleref05_Many.f (65 + k) c).bind fun t210 => (if t209 = t210 then ((band_Place.f c 0).bind fun t211 => (if t211 = 0 then ((conventiclelaw05_shown.f (65 + k)).bind fun t212 => (some t212)) else (none))) else (none)))) = some true := by
    rw [place_run c hc, place_run c hc, rmany_run c hc, place_64 c hc, place_0 c hc, h0, show 65 + k = (61 + k) + 4 from by omega, Band.shown_run]
    simp only [Option.bind_some, if_true]
    rw [if_pos (show ((0 : Nat) : Int) = 0 from rfl)]
  rw [conventiclelaw05_BandPlaces.j1, place_run c hc, place_run c hc, Option.bind_some, Option.bind_some, if_pos (by omega)]
  by_cases h : x = true
  · have hb := out_bit m (hx h)
    have hh : hasN c m = false := by
      unfold hasN
      rw [decide_eq_false (by have := hx h; omega), Bool.false_and]
    rw [if_pos h, with_run c hc, less_run c hc, has_run c hc, hb, hh, Nat.or_zero, clr_zero c hc, Option.bind_some, if_pos rfl, Option.bind_some, if_pos rfl, Option.bind_some, if_neg (by decide)]
    exact rest
  · rw [if_neg h]
    exact rest
theorem both_ways (c : Nat) (hc : c < 18446744073709551616) (n m : Int) (hnm : n ≤ m) : conventiclelaw05_BandPlaces.j0 (65 + 1 + 1) c n m = some true := by
  rw [conventiclelaw05_BandPlaces.j0]
  by_cases h : m < 0
  · rw [if_pos h]
    exact tail c hc n m hnm true (fun _ => .inl h) 0
  · rw [if_neg h]
    exact tail c hc n m hnm _ (fun h2 => .inr (of_decide_eq_true h2)) 0
theorem BandPlaces : conventiclelaw05_BandPlaces.Pure := by
  intro a0 a1 a2 w0 _ _
  obtain ⟨c, rfl, hc⟩ := wf_u64 w0
  refine ⟨65 + 1 + 1, ?_⟩
  unfold conventiclelaw05_BandPlaces.f
  by_cases h : a1 > a2
  · rw [if_pos h]
    exact both_ways c hc a2 a1 (by omega)
  · rw [if_neg h]
    exact both_ways c hc a1 a2 (by omega)
end Go.Proofs.YtidofbloppcpfaaDoor.Pure
