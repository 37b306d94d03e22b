/- By hand: the walk of RollBoth. -/
import Derived.Test.YtkkcnhfbcophiaaDoorMergeIs
import Derived.Test.YtkkcnhfbcophiaaDoorBothPlain
import Derived.Test.YtkkcnhfbcophiaaDoorSelfEnd
namespace Go.Proofs.YtkkcnhfbcophiaaDoor.B
open Go.RowKit Go.Proofs.YtkkcnhfbcophiaaDoorW.PrintWords Go.Proofs.YtkkcnhfbcophiaaDoorW.PrintLast Go.Proofs.YtkkcnhfbcophiaaDoorW.PrintMore Go.Proofs.YtkkcnhfbcophiaaDoor.Band Go.Proofs.YtkkcnhfbcophiaaDoor.Pure
set_option linter.unusedVariables false
set_option linter.unusedSimpArgs false

theorem meas_lit (t j : Nat) (h : j < t) (ht : t ≤ 1000000) : t - (intOf (.int .i64 (wrap64 ((j : Int) + 1)))).toNat < t - (intOf (.int .i64 (j : Int))).toNat := by
  rw [show wrap64 ((j : Int) + 1) = ((j + 1 : Nat) : Int) by unfold wrap64; omega]
  simp only [intOf, Int.toNat_natCast]
  omega
set_option maxRecDepth 100000 in
set_option maxHeartbeats 4000000 in
theorem both_walk (w : World) (A B : Option Addr) (c d : Nat) (a b : List S31) (hla : ∀ u ∈ a, OkU u) (hlb : ∀ u ∈ b, OkU u) (hra : Kd.C k31 w A a.length a) (hrb : Kd.C k31 w B b.length b) (hT : Aside0 (TabT w)) :
    Calls Tryd.prog 4 #[.slice A a.length c, .slice B b.length d] w fun e w' => e = .returned (.bool true) ∧ Below w.heap.size w w' := by
  have HA := Aside0.mk hra
  have HB := Aside0.mk hrb
  have HUA := Aside0.mk hla
  have HUB := Aside0.mk hlb
  have halen : (a.length : Int) ≤ 9223372036854775807 := by have := hra.2.1; omega
  have hblen : (b.length : Int) ≤ 9223372036854775807 := by have := hrb.2.1; omega
  have HP := Aside0.mk (tab_pos hT.out)
  clear hra hrb hla hlb
  by_cases hca : 60 < a.length
  · have h1 : decide ((60 : Int) < (a.length : Int)) = true := decide_eq_true (by omega)
    have h2 : decide (60 < a.length) = true := decide_eq_true hca
    clear hca
    go_enter Tryd.func4, Tryd.ntmps4
    go_wp2_with (go_at_call 10; refine (shown_walk _ hT).mono ?_; rintro e w1 ⟨rfl, hb⟩; have HB1 := Aside0.mk hb; clear hb)
    go_ret
    exact ⟨rfl, HB1.out⟩
  by_cases hcb : 60 < b.length
  · have h1 : decide ((60 : Int) < (a.length : Int)) = false := decide_eq_false (by omega)
    have h2 : decide (60 < a.length) = false := decide_eq_false hca
    have h3 : decide ((60 : Int) < (b.length : Int)) = true := decide_eq_true (by omega)
    have h4 : decide (60 < b.length) = true := decide_eq_true hcb
    clear hca hcb
    go_enter Tryd.func4, Tryd.ntmps4
    go_wp2_with (go_at_call 10; refine (shown_walk _ hT).mono ?_; rintro e w1 ⟨rfl, hb⟩; have HB1 := Aside0.mk hb; clear hb)
    go_ret
    exact ⟨rfl, HB1.out⟩
  · have h1 : decide ((60 : Int) < (a.length : Int)) = false := decide_eq_false (by omega)
    have h2 : decide (60 < a.length) = false := decide_eq_false hca
    have h3 : decide ((60 : Int) < (b.length : Int)) = false := decide_eq_false (by omega)
    have h4 : decide (60 < b.length) = false := decide_eq_false hcb
    clear hca hcb
    obtain ⟨R0, hn0⟩ : ∃ R0, newR ((0 : Nat) : Int) = R0 := ⟨_, rfl⟩
    obtain ⟨S0, hn1⟩ : ∃ S0, newR ((1 : Nat) : Int) = S0 := ⟨_, rfl⟩
    have HV00 : Aside0 (RV R0 0 0) := ⟨by rw [← hn0]; exact RV.new 0 (by decide)⟩
    have HV01 : Aside0 (RV S0 1 0) := ⟨by rw [← hn1]; exact RV.new 1 (by decide)⟩
    have HF00 : Aside0 (From R0 0 (fun v => 1 < v.f0)) := ⟨by rw [← hn0]; exact fun n hn hne hb => (From.new 0 n hn hne hb).elim⟩
    have HF01 : Aside0 (From S0 1 (fun v => 1 < v.f0)) := ⟨by rw [← hn1]; exact fun n hn hne hb => (From.new 1 n hn hne hb).elim⟩
    have HN0 := Aside0.mk hn0
    have HN1 := Aside0.mk hn1
    clear hn0 hn1
    have e00 : Aside0 ((0 : Int) = ((0 : Nat) : Int)) := ⟨rfl⟩
    have e11 : Aside0 ((1 : Int) = ((1 : Nat) : Int)) := ⟨rfl⟩
    go_enter Tryd.func4, Tryd.ntmps4
    go_wp2_with (first
      | (go_at_call 10; refine (shown_walk _ hT).mono ?_; rintro e w1 ⟨rfl, hb⟩; have HB1 := Aside0.mk hb; clear hb)
      | (go_at_call 11; (with_reducible refine (new_lit _ 0 0 e00.out (by decide) R0 HN0.out).mono ?_); rintro e w2 ⟨gr, rfl, hR_, hg_, hb_⟩; have HR2 := Aside0.mk hR_; have HGr : Aside0 (w.heap.size ≤ gr) := ⟨Nat.le_trans HB1.out.size hg_⟩; have HB2 := Aside0.mk (below_step HB1.out hb_); clear hR_ hg_ hb_)
      | (go_at_call 11; (with_reducible refine (new_lit _ 1 1 e11.out (by decide) S0 HN1.out).mono ?_); rintro e w3 ⟨gs, rfl, hS_, hg_, hb_⟩; have HS3 := Aside0.mk hS_; have HGs : Aside0 (w.heap.size ≤ gs) := ⟨Nat.le_trans HB2.out.size hg_⟩; have HR3 := Aside0.mk (RollB.below (R := R0) HR2.out hb_); have HB3 := Aside0.mk (below_step HB2.out hb_); have ngr : gr ≠ gs := (by have := blk_lt HR2.out; omega); have ngs : gs ≠ gr := Ne.symm ngr; clear hS_ hg_ hb_))
    go_loopw [7] (fun i wr => ∃ (j : Nat) (R : RollS), i = .int .i64 j ∧ Aside0 (j ≤ a.length) ∧ Aside0 (RV R 0 0) ∧ Aside0 (From R 0 (fun v => 1 < v.f0)) ∧ Aside0 (RollB wr gr R) ∧ Aside0 (RollB wr gs S0) ∧ Aside0 (Below w.heap.size w wr))
      (fun i _ => a.length - (intOf i).toNat)
    case atStart => exact ⟨0, _, rfl, ⟨Nat.zero_le _⟩, HV00, HF00, HR3, HS3, HB3⟩
    case round =>
      obtain ⟨j, R, rfl, hj, HV, HF, HRr, HSr, HBr⟩ := hrel
      by_cases hlt : j < a.length
      · obtain ⟨ad, e, hy0, hy1, hy2⟩ := at_T31 HA.out (j : Int) (by omega) (by omega)
        simp only [Int.toNat_natCast] at hy0 hy1 hy2
        obtain rfl := e
        obtain ⟨p, hp⟩ : ∃ p, p = rd_T31 a (j : Int) := ⟨_, rfl⟩
        have HUP : Aside0 (OkU p) := ⟨HUA.out p (by
          rw [hp]
          unfold rd_T31
          rw [Int.toNat_natCast, List.getD_eq_getElem?_getD, List.getElem?_eq_getElem hlt]
          exact List.getElem_mem hlt)⟩
        rw [← hp] at hy0 hy1 hy2
        clear hp
        have hx0 := (HBr.out.cell (World.block_lt_of_cell? w _ hy0)).trans hy0
        have hx1 := (HBr.out.cell (World.block_lt_of_cell? w _ hy1)).trans hy1
        have hx2 := (HBr.out.cell (World.block_lt_of_cell? w _ hy2)).trans hy2
        clear hy0 hy1 hy2
        obtain ⟨f0, f1, f2⟩ := p
        dsimp only at hx0 hx1 hx2
        by_cases hgt : 1 < f0
        · have hd : decide (1 < f0) = true := decide_eq_true hgt
          obtain ⟨⟨R1, b1, e1⟩, hh1⟩ : ∃ q, hearR R ⟨f0, f1, f2⟩ = q := ⟨_, rfl⟩
          obtain ⟨i1, hi1, hV1, -, -, hF1, hS1⟩ := HV.out.hear _ HUP.out
          rw [hh1] at hV1 hF1 hS1
          obtain ⟨-, rfl⟩ := hS1 (fun _ h2 => absurd (show f0 = ((0 : Nat) : Int) from h2) (by omega))
          have HV1 := Aside0.mk hV1
          have HF1 : Aside0 (From R1 0 (fun v => 1 < v.f0)) := ⟨fun n hn hne hb => (hF1 _ HF.out n hn hne hb).elim (fun h => h) (fun h => by rw [h]; exact hgt)⟩
          have HH1 := Aside0.mk hh1
          clear hgt hh1 hV1 hF1 hS1 hi1
          go_wp2_with (go_at_call 12; refine (hear_is w _ gr R ⟨f0, f1, f2⟩ R1 _ _ HH1.out HV.out.inv.ok HUP.out HRr.out HGr.out HBr.out).mono ?_; rintro e wa ⟨rfl, hR_, hB_, hK_⟩; have HRa := Aside0.mk hR_; have HBa := Aside0.mk hB_; have HSa : Aside0 (RollB wa gs S0) := ⟨hK_.blk HSr.out ngs (by simp)⟩; clear hR_ hB_ hK_)
          go_roundw
          case rel => exact ⟨j + 1, R1, by go_num, ⟨hlt⟩, HV1, HF1, HRa, HSa, HBa⟩
          case measure => simp [intOf]; omega
        · have hd : decide (1 < f0) = false := decide_eq_false hgt
          clear hgt
          go_wp2
          go_roundw
          case rel => exact ⟨j + 1, R, by go_num, ⟨hlt⟩, HV, HF, HRr, HSr, HBr⟩
          case measure => simp [intOf]; omega
      · obtain rfl : j = a.length := by have := hj.out; omega
        clear HR2 HR3 HS3 HB2 HB3
        have HR4 := HRr
        have HS4 := HSr
        have HB4 := HBr
        have HV4 := HV
        have HF4 := HF
        clear HRr HSr HBr HV HF hlt
        go_wp2
        go_loopw [8] (fun i wr => ∃ (j : Nat) (S : RollS), i = .int .i64 j ∧ Aside0 (j ≤ b.length) ∧ Aside0 (RV S 1 0) ∧ Aside0 (From S 1 (fun v => 1 < v.f0)) ∧ Aside0 (RollB wr gs S) ∧ Aside0 (RollB wr gr R) ∧ Aside0 (Below w.heap.size w wr))
          (fun i _ => b.length - (intOf i).toNat)
        case atStart => exact ⟨0, _, rfl, ⟨Nat.zero_le _⟩, HV01, HF01, HS4, HR4, HB4⟩
        case round =>
          obtain ⟨j, S, rfl, hj, HV, HF, HRr, HSr, HBr⟩ := hrel
          by_cases hlt : j < b.length
          · obtain ⟨ad, e, hy0, hy1, hy2⟩ := at_T31 HB.out (j : Int) (by omega) (by omega)
            simp only [Int.toNat_natCast] at hy0 hy1 hy2
            obtain rfl := e
            obtain ⟨p, hp⟩ : ∃ p, p = rd_T31 b (j : Int) := ⟨_, rfl⟩
            have HUP : Aside0 (OkU p) := ⟨HUB.out p (by
              rw [hp]
              unfold rd_T31
              rw [Int.toNat_natCast, List.getD_eq_getElem?_getD, List.getElem?_eq_getElem hlt]
              exact List.getElem_mem hlt)⟩
            rw [← hp] at hy0 hy1 hy2
            clear hp
            have hx0 := (HBr.out.cell (World.block_lt_of_cell? w _ hy0)).trans hy0
            have hx1 := (HBr.out.cell (World.block_lt_of_cell? w _ hy1)).trans hy1
            have hx2 := (HBr.out.cell (World.block_lt_of_cell? w _ hy2)).trans hy2
            clear hy0 hy1 hy2
            obtain ⟨f0, f1, f2⟩ := p
            dsimp only at hx0 hx1 hx2
            by_cases hgt : 1 < f0
            · have hd : decide (1 < f0) = true := decide_eq_true hgt
              obtain ⟨⟨S1, b1, e1⟩, hh1⟩ : ∃ q, hearR S ⟨f0, f1, f2⟩ = q := ⟨_, rfl⟩
              obtain ⟨i1, hi1, hV1, -, -, hF1, hS1⟩ := HV.out.hear _ HUP.out
              rw [hh1] at hV1 hF1 hS1
              obtain ⟨-, rfl⟩ := hS1 (fun _ h2 => absurd (show f0 = ((1 : Nat) : Int) from h2) (by omega))
              have HV1 := Aside0.mk hV1
              have HF1 : Aside0 (From S1 1 (fun v => 1 < v.f0)) := ⟨fun n hn hne hb => (hF1 _ HF.out n hn hne hb).elim (fun h => h) (fun h => by rw [h]; exact hgt)⟩
              have HH1 := Aside0.mk hh1
              clear hgt hh1 hV1 hF1 hS1 hi1
              go_wp2_with (go_at_call 12; refine (hear_is w _ gs S ⟨f0, f1, f2⟩ S1 _ _ HH1.out HV.out.inv.ok HUP.out HRr.out HGs.out HBr.out).mono ?_; rintro e wa ⟨rfl, hR_, hB_, hK_⟩; have HRa := Aside0.mk hR_; have HBa := Aside0.mk hB_; have HSa : Aside0 (RollB wa gr R) := ⟨hK_.blk HSr.out ngr (by simp)⟩; clear hR_ hB_ hK_)
              go_roundw
              case rel => exact ⟨j + 1, S1, by go_num, ⟨hlt⟩, HV1, HF1, HRa, HSa, HBa⟩
              case measure => simp [intOf]; omega
            · have hd : decide (1 < f0) = false := decide_eq_false hgt
              clear hgt
              go_wp2
              go_roundw
              case rel => exact ⟨j + 1, S, by go_num, ⟨hlt⟩, HV, HF, HRr, HSr, HBr⟩
              case measure => simp [intOf]; omega
          · obtain rfl : j = b.length := by have := hj.out; omega
            have HI0 : Aside0 (Inv2 R S) := ⟨⟨HV4.out, HV.out, fun n hn hne hb h1 => absurd (HF4.out n hn hne hb) (by show ¬ 1 < (R.K n).f0; rw [h1]; decide), fun n hn hne hb h1 => absurd (HF.out n hn hne hb) (by show ¬ 1 < (S.K n).f0; rw [h1]; decide)⟩⟩
            clear HR4 HS4 HB4 HV4 HF4 HV HF HN0 HN1 HV00 HV01 HF00 HF01 hlt
            go_wp2
            go_loopw [9] (fun i wr => ∃ (j : Nat) (R S : RollS), i = .int .i64 j ∧ Aside0 (j ≤ 2) ∧ Aside0 (Inv2 R S) ∧ Aside0 (j = 0 ∨ allL R = allL S) ∧ Aside0 (RollB wr gr R) ∧ Aside0 (RollB wr gs S) ∧ Aside0 (Below w.heap.size w wr))
              (fun i _ => 2 - (intOf i).toNat)
            case atStart => exact ⟨0, R, S, rfl, ⟨Nat.zero_le _⟩, HI0, ⟨.inl rfl⟩, HSr, HRr, HBr⟩
            case round =>
              clear HI0 HRr HSr HBr hj
              obtain ⟨j, R, S, rfl, hj, HI, HE, HR, HS, HB⟩ := hrel
              by_cases hlt : j < 2
              · have hd : decide ((j : Int) < 2) = true := decide_eq_true (by omega)
                have hd2 : decide (j < 2) = true := decide_eq_true hlt
                obtain ⟨R1, S1, hm1, hm2, HI1, he1⟩ := both_round HI.out
                obtain ⟨L, hL⟩ : ∃ L, allL S = L := ⟨_, rfl⟩
                obtain ⟨M, hM⟩ : ∃ M, allL R1 = M := ⟨_, rfl⟩
                obtain ⟨N, hN⟩ : ∃ N, newsL R R1 = N := ⟨_, rfl⟩
                obtain ⟨N', hN'⟩ : ∃ N, newsL S S1 = N := ⟨_, rfl⟩
                have HUL : Aside0 (∀ u ∈ L, OkU u) := ⟨by rw [← hL]; exact allL_okU HI.out.s⟩
                have HUM : Aside0 (∀ u ∈ M, OkU u) := ⟨by rw [← hM]; exact allL_okU HI1.r⟩
                rw [hL] at hm1
                rw [hM] at hm2
                have HI1 := Aside0.mk HI1
                have he1 := Aside0.mk he1
                have hm1 := Aside0.mk hm1
                have hm2 := Aside0.mk hm2
                have hL := Aside0.mk hL
                have hM := Aside0.mk hM
                have hN := Aside0.mk hN
                have hN' := Aside0.mk hN'
                have T1 := Aside0.mk trivial
                have T2 := Aside0.mk trivial
                have T3 := Aside0.mk trivial
                have T4 := Aside0.mk trivial
                clear hlt
                go_wp2_with (first
                  | (go_at_call 16; have tk := T1; refine (all_is _ gs S L hL.out HI.out.s.inv.ok ⟨tab_belowN hT.out HP.out HB.out⟩ HS.out).mono ?_; rintro e wa ⟨Aa, ca, rfl, hc_, ho_, hb_⟩; have HOa := Aside0.mk ho_; have HCa := Aside0.mk hc_; have HRa := Aside0.mk (RollB.below (R := R) HR.out hb_); have HSa := Aside0.mk (RollB.below (R := S) HS.out hb_); have HBa := Aside0.mk (below_step HB.out hb_); have Ga := Aside0.mk (blk_lt HR.out); clear ho_ hc_ hb_ T1 tk)
                  | (go_at_call 15; have tk := T2; refine (merge_ok w _ gr R R1 Aa ca L N hm1.out hN.out HI.out.r.inv.ok HUL.out (Kd.R_reads' HOa.out).2.2 (R_block HOa.out Ga.out) ⟨tab_belowN hT.out HP.out HBa.out⟩ HRa.out HGr.out HBa.out).mono ?_; rintro e wb ⟨Ab, cb, rfl, -, hR_, hB_, hK_⟩; have HRb := Aside0.mk hR_; have HBb := Aside0.mk hB_; have HSb : Aside0 (RollB wb gs S) := ⟨hK_.blk HSa.out ngs (by simp)⟩; clear hR_ hB_ hK_ T2 tk)
                  | (go_at_call 16; have tk := T3; refine (all_is _ gr R1 M hM.out HI1.out.r.inv.ok ⟨tab_belowN hT.out HP.out HBb.out⟩ HRb.out).mono ?_; rintro e wc ⟨Ac, cc, rfl, hc_, ho_, hb_⟩; have HOc := Aside0.mk ho_; have HCc := Aside0.mk hc_; have HRc := Aside0.mk (RollB.below (R := R1) HRb.out hb_); have HSc := Aside0.mk (RollB.below (R := S) HSb.out hb_); have HBc := Aside0.mk (below_step HBb.out hb_); have Gc := Aside0.mk (blk_lt HSb.out); clear ho_ hc_ hb_ T3 tk)
                  | (go_at_call 15; have tk := T4; refine (merge_ok w _ gs S S1 Ac cc M N' hm2.out hN'.out HI.out.s.inv.ok HUM.out (Kd.R_reads' HOc.out).2.2 (R_block HOc.out Gc.out) ⟨tab_belowN hT.out HP.out HBc.out⟩ HSc.out HGs.out HBc.out).mono ?_; rintro e wd ⟨Ad, cd, rfl, -, hR_, hB_, hK_⟩; have HSd := Aside0.mk hR_; have HBd := Aside0.mk hB_; have HRd : Aside0 (RollB wd gr R1) := ⟨hK_.blk HRc.out ngr (by simp)⟩; clear hR_ hB_ hK_ T4 tk))
                have hlt : j < 2 := of_decide_eq_true hd2
                go_roundw
                case rel => exact ⟨j + 1, R1, S1, by (congr 1; unfold wrap64; omega), ⟨hlt⟩, HI1, ⟨.inr he1.out⟩, HRd, HSd, HBd⟩
                case measure => exact meas_lit 2 j hlt (by decide)
              · obtain rfl : j = 2 := by have := hj.out; omega
                have HEE : Aside0 (allL R = allL S) := ⟨by have := HE.out; simpa using this⟩
                obtain ⟨L, hL⟩ : ∃ L, allL S = L := ⟨_, rfl⟩
                have hM : Aside0 (allL R = L) := ⟨by rw [HEE.out, hL]⟩
                have hL := Aside0.mk hL
                have hLl : L.length ≤ 64 := by rw [← hL.out]; exact allL_len S
                obtain ⟨v, hv⟩ : ∃ v, liveN L = v := ⟨_, rfl⟩
                have hv := Aside0.mk hv
                have T1 := Aside0.mk trivial
                have T2 := Aside0.mk trivial
                have T3 := Aside0.mk trivial
                have T4 := Aside0.mk trivial
                clear hlt
                go_wp2_with (first
                  | (go_at_call 16; have tk := T1; refine (all_is _ gr R L hM.out HI.out.r.inv.ok ⟨tab_belowN hT.out HP.out HB.out⟩ HR.out).mono ?_; rintro e wa ⟨Aa, ca, rfl, hc_, ho_, hb_⟩; have HOa := Aside0.mk ho_; have HCa := Aside0.mk hc_; have HRa := Aside0.mk (RollB.below (R := R) HR.out hb_); have HSa := Aside0.mk (RollB.below (R := S) HS.out hb_); have HBa := Aside0.mk (below_step HB.out hb_); clear ho_ hc_ hb_ T1 tk)
                  | (go_at_call 16; have tk := T2; refine (all_is _ gs S L hL.out HI.out.s.inv.ok ⟨tab_belowN hT.out HP.out HBa.out⟩ HSa.out).mono ?_; rintro e wb ⟨Ab, cb, rfl, hc_, ho_, hb_⟩; have HOb := Aside0.mk ho_; have HCb := Aside0.mk hc_; have HRb := Aside0.mk (RollB.below (R := R) HRa.out hb_); have HSb := Aside0.mk (RollB.below (R := S) HSa.out hb_); have HBb := Aside0.mk (below_step HBa.out hb_); have HOa2 := Aside0.mk (Kd.R_below HOa.out hb_); clear ho_ hc_ hb_ T2 tk)
                  | (go_at_call 17; refine (same_is _ Aa Ab ca cb L (Kd.R_reads' HOa2.out).2.2 HCa.out (Kd.R_reads' HOb.out).2.2 HCb.out).mono ?_; rintro e wc ⟨rfl, hb_⟩; have HBc := Aside0.mk (below_step HBb.out hb_); have HRc := Aside0.mk (RollB.below (R := R) HRb.out hb_); have HSc := Aside0.mk (RollB.below (R := S) HSb.out hb_); clear hb_)
                  | (go_at_call 18; have tk := T3; refine (live_is _ gr R v (by rw [hM.out, hv.out]) HI.out.r.inv.ok.has ⟨tab_belowN hT.out HP.out HBc.out⟩ HRc.out).mono ?_; rintro e wd ⟨rfl, hb_⟩; have HBd := Aside0.mk (below_step HBc.out hb_); have HSd := Aside0.mk (RollB.below (R := S) HSc.out hb_); clear hb_ T3 tk)
                  | (go_at_call 18; have tk := T4; refine (live_is _ gs S v (by rw [hL.out, hv.out]) HI.out.s.inv.ok.has ⟨tab_belowN hT.out HP.out HBd.out⟩ HSd.out).mono ?_; rintro e we ⟨rfl, hb_⟩; have HBe := Aside0.mk (below_step HBd.out hb_); clear hb_ T4 tk))
                go_ret
                exact ⟨rfl, HBe.out⟩
theorem rollBoth_row (A : Option Addr) (c : Nat) (a : List S31) (B : Option Addr) (d : Nat) (b : List S31) (w : World) (hr : Kd.C k31 w A a.length a) (_ : a.length ≤ c) (hl : ∀ u ∈ a, (Lit.int .u64 u.f1).wf = true) (hr' : Kd.C k31 w B b.length b) (_ : b.length ≤ d) (hl' : ∀ u ∈ b, (Lit.int .u64 u.f1).wf = true) (hT : Aside0 (TabT w)) :
    Calls Tryd.prog 4 #[.slice A a.length c, .slice B b.length d] w fun e w' => e = .returned (.bool true) ∧ Below w.heap.size w w' :=
  both_walk w A B c d a b (fun u hu => okU_wf (hl u hu)) (fun u hu => okU_wf (hl' u hu)) hr hr' hT
end Go.Proofs.YtkkcnhfbcophiaaDoor.B
