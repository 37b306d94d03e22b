/- By hand: the walk of RollTwice. -/
import Derived.Test.YtkkcnhfbcophiaaDoorMergeIs
import Derived.Test.YtkkcnhfbcophiaaDoorSelfEnd
namespace Go.Proofs.YtkkcnhfbcophiaaDoor.B
open Go.RowKit Go.Proofs.YtkkcnhfbcophiaaDoorW.PrintWords Go.Proofs.YtkkcnhfbcophiaaDoorW.PrintLast Go.Proofs.YtkkcnhfbcophiaaDoorW.PrintMore Go.Proofs.YtkkcnhfbcophiaaDoor.Band Go.Proofs.YtkkcnhfbcophiaaDoor.Pure
set_option linter.unusedVariables false
set_option linter.unusedSimpArgs false

set_option maxRecDepth 100000 in
set_option maxHeartbeats 4000000 in
theorem twice_walk (w : World) (A : Option Addr) (c : Nat) (l : List S31) (a0 : Int) (k : Nat) (hk : Int.tmod (wrap64 a0) 64 = k) (hk64 : k < 64) (hl : ∀ u ∈ l, OkU u) (hr : Kd.C k31 w A l.length l) (hT : Aside0 (TabT w)) :
    Calls Tryd.prog 5 #[.int .u8 a0, .slice A l.length c] w fun e w' => e = .returned (.bool true) ∧ Below w.heap.size w w' := by
  have HL := Aside0.mk hr
  have HU := Aside0.mk hl
  have hlen : (l.length : Int) ≤ 9223372036854775807 := by have := hr.2.1; omega
  have HP := Aside0.mk (tab_pos hT.out)
  clear hr hl
  by_cases hc : 60 < l.length
  · have h1 : decide ((60 : Int) < (l.length : Int)) = true := decide_eq_true (by omega)
    have h2 : decide (60 < l.length) = true := decide_eq_true hc
    clear hc
    go_enter Tryd.func5, Tryd.ntmps5
    go_wp2_with (go_at_call 10; refine (shown_walk _ hT).mono ?_; rintro e w1 ⟨rfl, hb⟩; have HB1 := Aside0.mk hb; clear hb)
    go_ret
    exact ⟨rfl, HB1.out⟩
  · have h1 : decide ((60 : Int) < (l.length : Int)) = false := decide_eq_false (by omega)
    have h2 : decide (60 < l.length) = false := decide_eq_false hc
    clear hc
    have HV := Aside0.mk (RV.new k hk64)
    obtain ⟨i1, hi1, hV1, -, hq1, -⟩ := RV.hearL l _ _ HV.out HU.out
    obtain ⟨⟨R1, b1⟩, hh1⟩ : ∃ q, hearL (newR k) l = q := ⟨_, rfl⟩
    rw [hh1] at hV1 hq1
    have HH1 := Aside0.mk hh1
    have HV1 := Aside0.mk hV1
    have HQ1 := Aside0.mk hq1
    have T1 := Aside0.mk trivial
    clear hh1 hV1 hq1 hi1
    cases b1
    · go_enter Tryd.func5, Tryd.ntmps5
      go_wp2_with (first
        | (go_at_call 10; refine (shown_walk _ hT).mono ?_; rintro e w1 ⟨rfl, hb⟩; have HB1 := Aside0.mk hb; clear hb)
        | (go_at_call 11; refine (new_any _ k hk64).mono ?_; rintro e w2 ⟨gr, rfl, hR_, hg_, hb_⟩; have HR2 := Aside0.mk hR_; have HGr : Aside0 (w.heap.size ≤ gr) := ⟨Nat.le_trans HB1.out.size hg_⟩; have HB2 := Aside0.mk (below_step HB1.out hb_); clear hR_ hg_ hb_)
        | (go_at_call 15; refine (merge_last w _ gr (newR k) R1 A c l HH1.out HV.out.inv.ok HU.out (Kd.C_below HL.out HB2.out) (C_block HL.out (by decide) HGr.out) ⟨tab_belowN hT.out HP.out HB2.out⟩ HR2.out HGr.out HB2.out).mono ?_; rintro e w3 ⟨A3, c3, rfl, hR_, hB_, hK_⟩; have HB3 := Aside0.mk hB_; clear hR_ hB_ hK_))
      go_ret
      exact ⟨rfl, HB3.out⟩
    · have hh2 := Aside0.mk (hearL_known HV1.out l (HQ1.out rfl))
      have hh3 := Aside0.mk (hearL_known HV1.out (allL R1) (fun u hu => by
        obtain ⟨n, hn, hb, rfl⟩ := mem_allL.1 hu
        exact .inr (HV1.out.knowsK n hn hb)))
      have HUA : Aside0 (∀ u ∈ allL R1, OkU u) := ⟨fun u hu => by
        obtain ⟨n, hn, hb, rfl⟩ := mem_allL.1 hu
        exact HV1.out.okU n⟩
      have hN := Aside0.mk (newsL_self R1)
      obtain ⟨N, hN1⟩ : ∃ N, newsL (newR k) R1 = N := ⟨_, rfl⟩
      have HN1 := Aside0.mk hN1
      obtain ⟨L, hL⟩ : ∃ L, allL R1 = L := ⟨_, rfl⟩
      have hLl : L.length ≤ 64 := by rw [← hL]; exact allL_len R1
      rw [hL] at hh3 HUA
      have HLa := Aside0.mk hL
      have T2 := Aside0.mk trivial
      have T3 := Aside0.mk trivial
      have T4 := Aside0.mk trivial
      have T5 := Aside0.mk trivial
      clear hN1 hL
      go_enter Tryd.func5, Tryd.ntmps5
      go_wp2_with (first
        | (go_at_call 10; refine (shown_walk _ hT).mono ?_; rintro e w1 ⟨rfl, hb⟩; have HB1 := Aside0.mk hb; clear hb)
        | (go_at_call 11; refine (new_any _ k hk64).mono ?_; rintro e w2 ⟨gr, rfl, hR_, hg_, hb_⟩; have HR2 := Aside0.mk hR_; have HGr : Aside0 (w.heap.size ≤ gr) := ⟨Nat.le_trans HB1.out.size hg_⟩; have HB2 := Aside0.mk (below_step HB1.out hb_); clear hR_ hg_ hb_)
        | (go_at_call 15; have tk := T1; refine (merge_ok w _ gr (newR k) R1 A c l N HH1.out HN1.out HV.out.inv.ok HU.out (Kd.C_below HL.out HB2.out) (C_block HL.out (by decide) HGr.out) ⟨tab_belowN hT.out HP.out HB2.out⟩ HR2.out HGr.out HB2.out).mono ?_; rintro e w3 ⟨A3, c3, rfl, -, hR_, hB_, hK_⟩; have HR3 := Aside0.mk hR_; have HB3 := Aside0.mk hB_; clear hR_ hB_ hK_ T1 tk)
        | (go_at_call 16; have tk := T2; refine (all_is _ gr R1 L HLa.out HV1.out.inv.ok ⟨tab_belowN hT.out HP.out HB3.out⟩ HR3.out).mono ?_; rintro e w4 ⟨A4, c4, rfl, hc_, ho_, hb_⟩; have HO4 := Aside0.mk ho_; have HC4 := Aside0.mk hc_; have HR4 := Aside0.mk (RollB.below (R := R1) HR3.out hb_); have HB4 := Aside0.mk (below_step HB3.out hb_); have G4 := Aside0.mk (blk_lt HR3.out); clear ho_ hc_ hb_ T2 tk)
        | (go_at_call 15; have tk := T3; refine (merge_ok w _ gr R1 R1 A c l [] hh2.out hN.out HV1.out.inv.ok HU.out (Kd.C_below HL.out HB4.out) (C_block HL.out (by decide) HGr.out) ⟨tab_belowN hT.out HP.out HB4.out⟩ HR4.out HGr.out HB4.out).mono ?_; rintro e w5 ⟨A5, c5, rfl, -, hR_, hB_, hK_⟩; have HR5 := Aside0.mk hR_; have HB5 := Aside0.mk hB_; have HO5 := Aside0.mk (R_over HO4.out (Nat.le_refl _) G4.out hK_); clear hR_ hB_ hK_ T3 tk)
        | (go_at_call 15; have tk := T4; refine (merge_ok w _ gr R1 R1 A4 c4 L [] hh3.out hN.out HV1.out.inv.ok HUA.out (Kd.R_reads' HO5.out).2.2 (R_block HO5.out G4.out) ⟨tab_belowN hT.out HP.out HB5.out⟩ HR5.out HGr.out HB5.out).mono ?_; rintro e w6 ⟨A6, c6, rfl, -, hR_, hB_, hK_⟩; have HR6 := Aside0.mk hR_; have HB6 := Aside0.mk hB_; have HO6 := Aside0.mk (R_over HO5.out (Nat.le_refl _) G4.out hK_); clear hR_ hB_ hK_ T4 tk)
        | (go_at_call 16; have tk := T5; refine (all_is _ gr R1 L HLa.out HV1.out.inv.ok ⟨tab_belowN hT.out HP.out HB6.out⟩ HR6.out).mono ?_; rintro e w7 ⟨A7, c7, rfl, hc_, ho_, hb_⟩; have HO7 := Aside0.mk ho_; have HC7 := Aside0.mk hc_; have HB7 := Aside0.mk (below_step HB6.out hb_); have HO6b := Aside0.mk (Kd.R_below HO6.out hb_); clear ho_ hc_ hb_ T5 tk)
        | (go_at_call 17; refine (same_is _ A7 A4 c7 c4 L (Kd.R_reads' HO7.out).2.2 HC7.out (Kd.R_reads' HO6b.out).2.2 HC4.out).mono ?_; rintro e w8 ⟨rfl, hb_⟩; have HB8 := Aside0.mk (below_step HB7.out hb_); clear hb_))
      go_ret
      exact ⟨rfl, HB8.out⟩
theorem rollTwice_row (a0 : Int) (A : Option Addr) (c : Nat) (l : List S31) (w : World) (w0 : (Lit.int .u8 a0).wf = true) (hr : Kd.C k31 w A l.length l) (_ : l.length ≤ c) (hl : ∀ u ∈ l, (Lit.int .u64 u.f1).wf = true) (hT : Aside0 (TabT w)) :
    Calls Tryd.prog 5 #[.int .u8 a0, .slice A l.length c] w fun e w' => e = .returned (.bool true) ∧ Below w.heap.size w w' := by
  obtain ⟨k, hk, hk63⟩ := mod64 (Band.wf_u8 w0)
  exact twice_walk w A c l a0 k hk (by omega) (fun u hu => okU_wf (hl u hu)) hr hT
end Go.Proofs.YtkkcnhfbcophiaaDoor.B
