/- By hand: the walk of RollMerges. -/
import Derived.Test.YtkkcnhfbcophiaaDoorMergeIs
import Derived.Test.YtkkcnhfbcophiaaDoorMergesP
import Derived.Test.YtkkcnhfbcophiaaDoorSelfEnd
namespace Go.Proofs.YtkkcnhfbcophiaaDoor.B
open Go.RowKit Go.Proofs.YtkkcnhfbcophiaaDoorW.PrintWords Go.Proofs.YtkkcnhfbcophiaaDoorW.PrintLast Go.Proofs.YtkkcnhfbcophiaaDoorW.PrintMore Go.Proofs.YtkkcnhfbcophiaaDoor.Band Go.Proofs.YtkkcnhfbcophiaaDoor.Pure
set_option linter.unusedVariables false
set_option linter.unusedSimpArgs false
attribute [local go_sem high] eqA31

theorem meas_lit2 (t j : Nat) (h : j < t) (ht : t ≤ 1000000) : t - (intOf (.int .i64 (wrap64 ((j : Int) + 1)))).toNat < t - (intOf (.int .i64 (j : Int))).toNat := by
  rw [show wrap64 ((j : Int) + 1) = ((j + 1 : Nat) : Int) by unfold wrap64; omega]
  simp only [intOf, Int.toNat_natCast]
  omega
theorem mod63 {a : Int} (h : 0 ≤ a ∧ a ≤ 255) : ∃ k : Nat, Int.tmod (wrap64 a) 63 = k ∧ k < 63 := by
  rw [show wrap64 a = a by unfold wrap64; omega, Int.tmod_eq_emod_of_nonneg h.1]
  exact ⟨(a % 63).toNat, by omega, by omega⟩
set_option maxRecDepth 100000 in
set_option maxHeartbeats 4000000 in
theorem merges_walk (w : World) (A B : Option Addr) (c d : Nat) (a b : List S31) (a0 : Int) (k : Nat) (hk : Int.tmod (wrap64 a0) 63 = k) (hk63 : k < 63) (hla : ∀ u ∈ a, OkU u) (hlb : ∀ u ∈ b, OkU u) (hra : Kd.C k31 w A a.length a) (hrb : Kd.C k31 w B b.length b) (hT : Aside0 (TabT w)) :
    Calls Tryd.prog 7 #[.int .u8 a0, .slice A a.length c, .slice B b.length d] w fun e w' => e = .returned (.bool true) ∧ Below w.heap.size w w' := by
  have HLA := Aside0.mk hra
  have HLB := Aside0.mk hrb
  have hk64 : k < 64 := by omega
  have halen : (a.length : Int) ≤ 9223372036854775807 := by have := hra.2.1; omega
  have hblen : (b.length : Int) ≤ 9223372036854775807 := by have := hrb.2.1; omega
  have HP := Aside0.mk (tab_pos hT.out)
  obtain ⟨X, hX⟩ : ∃ X, a.filter (fun u : S31 => u.f0 != 63) = X := ⟨_, rfl⟩
  obtain ⟨Y, hY⟩ : ∃ Y, b.filter (fun u : S31 => u.f0 != 63) = Y := ⟨_, rfl⟩
  have HUX : Aside0 (∀ u ∈ X, OkU u) := ⟨by rw [← hX]; exact fun u hu => hla u (List.mem_filter.1 hu).1⟩
  have HUY : Aside0 (∀ u ∈ Y, OkU u) := ⟨by rw [← hY]; exact fun u hu => hlb u (List.mem_filter.1 hu).1⟩
  have HXF : Aside0 (∀ u ∈ X, u.f0 ≠ ((63 : Nat) : Int)) := ⟨by rw [← hX]; exact fun u hu => bne_iff_ne.1 (List.mem_filter.1 hu).2⟩
  have HYF : Aside0 (∀ u ∈ Y, u.f0 ≠ ((63 : Nat) : Int)) := ⟨by rw [← hY]; exact fun u hu => bne_iff_ne.1 (List.mem_filter.1 hu).2⟩
  have HX := Aside0.mk hX
  have HY := Aside0.mk hY
  clear hra hrb hla hlb hX hY
  by_cases hc0 : 60 < a.length
  · have h1 : decide ((60 : Int) < (a.length : Int)) = true := decide_eq_true (by omega)
    have h2 : decide (60 < a.length) = true := decide_eq_true hc0
    clear hc0
    go_enter Tryd.func7, Tryd.ntmps7
    go_wp2_with (go_at_call 10; refine (shown_walk _ hT).mono ?_; rintro e w1 ⟨rfl, hb⟩; have HB1 := Aside0.mk hb; clear hb)
    go_ret
    exact ⟨rfl, HB1.out⟩
  by_cases hc1 : 60 < b.length
  · have h1 : decide ((60 : Int) < (b.length : Int)) = true := decide_eq_true (by omega)
    have h2 : decide (60 < b.length) = true := decide_eq_true hc1
    have h3 : decide ((60 : Int) < (a.length : Int)) = false := decide_eq_false (by omega)
    have h4 : decide (60 < a.length) = false := decide_eq_false hc0
    clear hc0 hc1
    go_enter Tryd.func7, Tryd.ntmps7
    go_wp2_with (go_at_call 10; refine (shown_walk _ hT).mono ?_; rintro e w1 ⟨rfl, hb⟩; have HB1 := Aside0.mk hb; clear hb)
    go_ret
    exact ⟨rfl, HB1.out⟩
  have h01 : decide ((60 : Int) < (a.length : Int)) = false := decide_eq_false (by omega)
  have h02 : decide (60 < a.length) = false := decide_eq_false hc0
  have hlen0 : a.length ≤ 60 := by omega
  have h11 : decide ((60 : Int) < (b.length : Int)) = false := decide_eq_false (by omega)
  have h12 : decide (60 < b.length) = false := decide_eq_false hc1
  have hlen1 : b.length ≤ 60 := by omega
  clear hc0 hc1
  have HV0 := Aside0.mk (RV.new k hk64)
  have HV1 := Aside0.mk (RV.new 63 (by decide))
  obtain ⟨⟨R1, b1⟩, hh1⟩ : ∃ q, hearL (newR k) X = q := ⟨_, rfl⟩
  have HH1 := Aside0.mk hh1
  have T1 := Aside0.mk trivial
  have T2 := Aside0.mk trivial
  have e63 : Aside0 ((63 : Int) = ((63 : Nat) : Int)) := ⟨rfl⟩
  clear hh1
  go_enter Tryd.func7, Tryd.ntmps7
  go_wp2_with (first
    | (go_at_call 10; refine (shown_walk _ hT).mono ?_; rintro e w1 ⟨rfl, hb⟩; have HB1 := Aside0.mk hb; clear hb)
    | (go_at_call 11; have tk := T1; refine (new_any _ k hk64).mono ?_; rintro e w2 ⟨gr, rfl, hR_, hg_, hb_⟩; have HR2 := Aside0.mk hR_; have HGr : Aside0 (w.heap.size ≤ gr) := ⟨Nat.le_trans HB1.out.size hg_⟩; have HB2 := Aside0.mk (below_step HB1.out hb_); clear hR_ hg_ hb_ T1 tk)
    | (go_at_call 11; have tk := T2; (with_reducible refine (new_lit _ 63 63 e63.out (by decide) (newR ((63 : Nat) : Int)) rfl).mono ?_); rintro e w3 ⟨gs, rfl, hS_, hg_, hb_⟩; have HS3 := Aside0.mk hS_; have HGs : Aside0 (w.heap.size ≤ gs) := ⟨Nat.le_trans HB2.out.size hg_⟩; have HR3 := Aside0.mk (RollB.below (R := newR k) HR2.out hb_); have HB3 := Aside0.mk (below_step HB2.out hb_); have ngr : gr ≠ gs := (by have := blk_lt HR2.out; omega); have ngs : gs ≠ gr := Ne.symm ngr; clear hS_ hg_ hb_ T2 tk)
    | ((with_reducible refine gate_dst (N := 48) rfl ?_); refine Kd.R_lit k31 _ 31 ?hg (N := 48) ?hd (xs := ([] : List S31)) (inner := []) (ok := fun _ => True) (okp := fun _ => True) ?hr ?hp (fun _ hk => hk) trivial (Below.refl _ _) (Nat.le_refl _) (by simp) ?_; (case hd => rfl); (case hg => rfl); (case hr => first | (go_simp; done) | (go_simp; rfl)); (case hp => exact (Reps.none _ _)); intro v_ wl1 ho_ hb_ hg_ hnew_; have HOl1 := Aside0.mk ho_; have HBl1 := Aside0.mk hb_; clear ho_ hb_ hg_ hnew_))
  go_loopw [10, 11] (fun v i wr => ∃ j : Nat, i = .int .i64 j ∧ Aside0 (j ≤ a.length) ∧ Aside0 (Kd.R k31 31 wr w3.heap.size (fun _ => True) v ((a.take j).filter (fun u : S31 => u.f0 != 63))) ∧ Aside0 (Below w3.heap.size w3 wr))
    (fun _ i _ => a.length - (intOf i).toNat)
  case atStart => exact ⟨0, rfl, ⟨Nat.zero_le _⟩, ⟨by rw [List.take_zero, List.filter_nil]; exact HOl1.out⟩, HBl1⟩
  case round =>
    rename_i vx wrx
    clear HOl1 HBl1
    obtain ⟨j, rfl, hj, HO, HB⟩ := hrel
    by_cases hlt : j < a.length
    · obtain ⟨ad, e, hy0, hy1, hy2⟩ := at_T31 HLA.out (j : Int) (by omega) (by omega)
      simp only [Int.toNat_natCast] at hy0 hy1 hy2
      obtain rfl := e
      have hta := filt_take (fun u : S31 => u.f0 != 63) a j hlt
      have hle : ((a.take j).filter (fun u : S31 => u.f0 != 63)).length ≤ 60 := Nat.le_trans (List.length_filter_le _ _) (by rw [List.length_take]; omega)
      obtain ⟨p, hp⟩ : ∃ p, p = rd_T31 a (j : Int) := ⟨_, rfl⟩
      rw [← hp] at hy0 hy1 hy2 hta
      clear hp
      have hBw := below_step HB3.out HB.out
      have hx0 := (hBw.cell (World.block_lt_of_cell? w _ hy0)).trans hy0
      have hx1 := (hBw.cell (World.block_lt_of_cell? w _ hy1)).trans hy1
      have hx2 := (hBw.cell (World.block_lt_of_cell? w _ hy2)).trans hy2
      clear hy0 hy1 hy2 hBw
      by_cases hne : p.f0 = 63
      · have hd : (p.f0 != 63) = false := by simp [hne]
        have hd2 : (p.f0 == 63) = true := beq_iff_eq.2 hne
        rw [if_neg (show ¬ (p.f0 != 63) = true by rw [hd]; decide)] at hta
        have HTA := Aside0.mk hta
        clear hta hne
        go_wp2
        go_roundw
        case rel => exact ⟨j + 1, by go_num, ⟨hlt⟩, ⟨by rw [HTA.out]; exact HO.out⟩, HB⟩
        case measure => simp [intOf]; omega
      · have hd : (p.f0 != 63) = true := bne_iff_ne.2 hne
        have hd2 : (p.f0 == 63) = false := beq_eq_false_iff_ne.2 hne
        rw [if_pos (show (p.f0 != 63) = true from hd)] at hta
        have HTA := Aside0.mk hta
        clear hta hne
        go_wp2_with ((with_reducible refine gate_builtin (b := .append) (xs := #[.tmp 61, .tmp 66]) rfl ?_); at_builtin; refine Kd.R_append k31 (w0 := w3) w3.heap.size rfl (.tmp 61) (.tmp 66) 22 31 (.agg #[(.int .i64 0), (.int .u64 0), (.int .i64 0)]) 24 rfl Tryd.underlying22 info31 rfl (by decide) (by omega) _ ((a.take j).filter (fun u : S31 => u.f0 != 63)) p [.int .i64 p.f0, .int .u64 p.f1, .int .i64 p.f2] (fun _ => True) (fun _ => False) rfl rfl ?aP (fun _ hk => hk.elim) ?aF ?aO ?aB ?aS ?aL ?_; (case aP => exact k31_mkM _ _ _ p); (case aF => exact fun _ _ => trivial); (case aO => exact HO.out); (case aB => exact HB.out); (case aS => exact HB.out.size); (case aL => omega); intro v1 w2 ho hb2 hg hat; rw [← HTA.out] at ho; have HO2 := Aside0.mk ho; have HB2 := Aside0.mk hb2; clear ho hb2 hg hat)
        go_roundw
        case rel => exact ⟨j + 1, by go_num, ⟨hlt⟩, HO2, HB2⟩
        case measure => simp [intOf]; omega
    · obtain rfl : j = a.length := by have := hj.out; omega
      have hO := HO.out
      rw [List.take_length, HX.out] at hO
      obtain ⟨Ax, cx, rfl⟩ := Kd.R_slice hO
      have HOx := Aside0.mk hO
      have HBx := HB
      have HQx := Aside0.mk (below_step HB3.out HB.out)
      clear hj hlt HO HB hO
      have HR4 := Aside0.mk (RollB.below (R := newR k) HR3.out HBx.out)
      have HS4 := Aside0.mk (RollB.below (R := newR ((63 : Nat) : Int)) HS3.out HBx.out)
      have Gx := Aside0.mk (blk_lt HR3.out)
      cases b1
      · go_wp2_with (go_at_call 15; refine (merge_last w _ gr (newR k) R1 Ax cx X HH1.out HV0.out.inv.ok HUX.out (Kd.R_reads' HOx.out).2.2 (R_block HOx.out Gx.out) ⟨tab_belowN hT.out HP.out HQx.out⟩ HR4.out HGr.out HQx.out).mono ?_; rintro e we ⟨Ae, ce, rfl, hR_, hB_, hK_⟩; have HBe := Aside0.mk hB_; clear hR_ hB_ hK_)
        go_ret
        exact ⟨rfl, HBe.out⟩
      · obtain ⟨S1, i1, hs1, hM1⟩ := MInv.start k hk63 X HXF.out HUX.out HH1.out
        obtain ⟨N0, hN0⟩ : ∃ N, newsL (newR k) R1 = N := ⟨_, rfl⟩
        obtain ⟨N1, hN1⟩ : ∃ N, newsL (newR ((63 : Nat) : Int)) S1 = N := ⟨_, rfl⟩
        obtain ⟨L, hL⟩ : ∃ L, allL R1 = L := ⟨_, rfl⟩
        have HUL : Aside0 (∀ u ∈ L, OkU u) := ⟨by rw [← hL]; exact allL_okU hM1.r⟩
        rw [hL] at hs1
        have HS1 := Aside0.mk hs1
        have HM1 := Aside0.mk hM1
        have HN0 := Aside0.mk hN0
        have HN1 := Aside0.mk hN1
        have HL := Aside0.mk hL
        obtain ⟨⟨R2, b2⟩, hh2⟩ : ∃ q, hearL R1 Y = q := ⟨_, rfl⟩
        have HH2 := Aside0.mk hh2
        have T1 := Aside0.mk trivial
        have T2 := Aside0.mk trivial
        clear hs1 hM1 hN0 hN1 hL hh2
        go_wp2_with (first
          | (go_at_call 15; have tk := T1; refine (merge_ok w _ gr (newR k) R1 Ax cx X N0 HH1.out HN0.out HV0.out.inv.ok HUX.out (Kd.R_reads' HOx.out).2.2 (R_block HOx.out Gx.out) ⟨tab_belowN hT.out HP.out HQx.out⟩ HR4.out HGr.out HQx.out).mono ?_; rintro e wa ⟨Aa, ca, rfl, -, hR_, hB_, hK_⟩; have HRa := Aside0.mk hR_; have HBa := Aside0.mk hB_; have HSa : Aside0 (RollB wa gs (newR ((63 : Nat) : Int))) := ⟨hK_.blk HS4.out ngs (by simp)⟩; clear hR_ hB_ hK_ T1 tk)
          | (go_at_call 16; refine (all_is _ gr R1 L HL.out HM1.out.r.inv.ok ⟨tab_belowN hT.out HP.out HBa.out⟩ HRa.out).mono ?_; rintro e wb ⟨Ab, cb, rfl, hc_, ho_, hb_⟩; have HOb := Aside0.mk ho_; have HRb := Aside0.mk (RollB.below (R := R1) HRa.out hb_); have HSb := Aside0.mk (RollB.below (R := newR ((63 : Nat) : Int)) HSa.out hb_); have HBb := Aside0.mk (below_step HBa.out hb_); have Gb := Aside0.mk (blk_lt HSa.out); clear ho_ hc_ hb_)
          | (go_at_call 15; have tk := T2; refine (merge_ok w _ gs (newR ((63 : Nat) : Int)) S1 Ab cb L N1 HS1.out HN1.out HV1.out.inv.ok HUL.out (Kd.R_reads' HOb.out).2.2 (R_block HOb.out Gb.out) ⟨tab_belowN hT.out HP.out HBb.out⟩ HSb.out HGs.out HBb.out).mono ?_; rintro e wc ⟨Ac, cc, rfl, -, hR_, hB_, hK_⟩; have HSc := Aside0.mk hR_; have HBc := Aside0.mk hB_; have HRc : Aside0 (RollB wc gr R1) := ⟨hK_.blk HRb.out ngr (by simp)⟩; clear hR_ hB_ hK_ T2 tk)
          | ((with_reducible refine gate_dst (N := 82) rfl ?_); refine Kd.R_lit k31 _ 31 ?hg (N := 82) ?hd (xs := ([] : List S31)) (inner := []) (ok := fun _ => True) (okp := fun _ => True) ?hr ?hp (fun _ hk => hk) trivial (Below.refl _ _) (Nat.le_refl _) (by simp) ?_; (case hd => rfl); (case hg => rfl); (case hr => first | (go_simp; done) | (go_simp; rfl)); (case hp => exact (Reps.none _ _)); intro v_ wl2 ho_ hb_ hg_ hnew_; have HOl2 := Aside0.mk ho_; have HBl2 := Aside0.mk hb_; clear ho_ hb_ hg_ hnew_))
        go_loopw [14, 15] (fun v i wr => ∃ j : Nat, i = .int .i64 j ∧ Aside0 (j ≤ b.length) ∧ Aside0 (Kd.R k31 31 wr wc.heap.size (fun _ => True) v ((b.take j).filter (fun u : S31 => u.f0 != 63))) ∧ Aside0 (Below wc.heap.size wc wr))
          (fun _ i _ => b.length - (intOf i).toNat)
        case atStart => exact ⟨0, rfl, ⟨Nat.zero_le _⟩, ⟨by rw [List.take_zero, List.filter_nil]; exact HOl2.out⟩, HBl2⟩
        case round =>
          rename_i vy wry
          clear HOl2 HBl2
          obtain ⟨j, rfl, hj, HO, HB⟩ := hrel
          by_cases hlt : j < b.length
          · obtain ⟨ad, e, hy0, hy1, hy2⟩ := at_T31 HLB.out (j : Int) (by omega) (by omega)
            simp only [Int.toNat_natCast] at hy0 hy1 hy2
            obtain rfl := e
            have hta := filt_take (fun u : S31 => u.f0 != 63) b j hlt
            have hle : ((b.take j).filter (fun u : S31 => u.f0 != 63)).length ≤ 60 := Nat.le_trans (List.length_filter_le _ _) (by rw [List.length_take]; omega)
            obtain ⟨p, hp⟩ : ∃ p, p = rd_T31 b (j : Int) := ⟨_, rfl⟩
            rw [← hp] at hy0 hy1 hy2 hta
            clear hp
            have hBw := below_step HBc.out HB.out
            have hx0 := (hBw.cell (World.block_lt_of_cell? w _ hy0)).trans hy0
            have hx1 := (hBw.cell (World.block_lt_of_cell? w _ hy1)).trans hy1
            have hx2 := (hBw.cell (World.block_lt_of_cell? w _ hy2)).trans hy2
            clear hy0 hy1 hy2 hBw
            by_cases hne : p.f0 = 63
            · have hd : (p.f0 != 63) = false := by simp [hne]
              have hd2 : (p.f0 == 63) = true := beq_iff_eq.2 hne
              rw [if_neg (show ¬ (p.f0 != 63) = true by rw [hd]; decide)] at hta
              have HTA := Aside0.mk hta
              clear hta hne
              go_wp2
              go_roundw
              case rel => exact ⟨j + 1, by go_num, ⟨hlt⟩, ⟨by rw [HTA.out]; exact HO.out⟩, HB⟩
              case measure => simp [intOf]; omega
            · have hd : (p.f0 != 63) = true := bne_iff_ne.2 hne
              have hd2 : (p.f0 == 63) = false := beq_eq_false_iff_ne.2 hne
              rw [if_pos (show (p.f0 != 63) = true from hd)] at hta
              have HTA := Aside0.mk hta
              clear hta hne
              go_wp2_with ((with_reducible refine gate_builtin (b := .append) (xs := #[.tmp 95, .tmp 100]) rfl ?_); at_builtin; refine Kd.R_append k31 (w0 := wc) wc.heap.size rfl (.tmp 95) (.tmp 100) 22 31 (.agg #[(.int .i64 0), (.int .u64 0), (.int .i64 0)]) 24 rfl Tryd.underlying22 info31 rfl (by decide) (by omega) _ ((b.take j).filter (fun u : S31 => u.f0 != 63)) p [.int .i64 p.f0, .int .u64 p.f1, .int .i64 p.f2] (fun _ => True) (fun _ => False) rfl rfl ?aP (fun _ hk => hk.elim) ?aF ?aO ?aB ?aS ?aL ?_; (case aP => exact k31_mkM _ _ _ p); (case aF => exact fun _ _ => trivial); (case aO => exact HO.out); (case aB => exact HB.out); (case aS => exact HB.out.size); (case aL => omega); intro v1 w2 ho hb2 hg hat; rw [← HTA.out] at ho; have HO2 := Aside0.mk ho; have HB2 := Aside0.mk hb2; clear ho hb2 hg hat)
              go_roundw
              case rel => exact ⟨j + 1, by go_num, ⟨hlt⟩, HO2, HB2⟩
              case measure => simp [intOf]; omega
          · obtain rfl : j = b.length := by have := hj.out; omega
            have hO := HO.out
            rw [List.take_length, HY.out] at hO
            obtain ⟨Ay, cy, rfl⟩ := Kd.R_slice hO
            have HOy := Aside0.mk hO
            have HBy := HB
            have HQy := Aside0.mk (below_step HBc.out HB.out)
            clear hj hlt HO HB hO
            have HR6 := Aside0.mk (RollB.below (R := R1) HRc.out HBy.out)
            have HS6 := Aside0.mk (RollB.below (R := S1) HSc.out HBy.out)
            have Gy := Aside0.mk (blk_lt HRc.out)
            cases b2
            · go_wp2_with (go_at_call 15; refine (merge_last w _ gr R1 R2 Ay cy Y HH2.out HM1.out.r.inv.ok HUY.out (Kd.R_reads' HOy.out).2.2 (R_block HOy.out Gy.out) ⟨tab_belowN hT.out HP.out HQy.out⟩ HR6.out HGr.out HQy.out).mono ?_; rintro e we ⟨Ae, ce, rfl, hR_, hB_, hK_⟩; have HBe := Aside0.mk hB_; clear hR_ hB_ hK_)
              go_ret
              exact ⟨rfl, HBe.out⟩
            · obtain ⟨S2, i2, hs2, hM2⟩ := MInv.more HM1.out hk63 Y HYF.out HUY.out HH2.out
              obtain ⟨N2, hN2⟩ : ∃ N, newsL R1 R2 = N := ⟨_, rfl⟩
              obtain ⟨N3, hN3⟩ : ∃ N, newsL S1 S2 = N := ⟨_, rfl⟩
              have HUN : Aside0 (∀ u ∈ N2, OkU u) := ⟨fun u hu => allL_okU hM2.r u (news_mem (by rw [hN2]; exact hu))⟩
              rw [hN2] at hs2
              have HS2 := Aside0.mk hs2
              have HM2 := Aside0.mk hM2
              have HN2 := Aside0.mk hN2
              have HN3 := Aside0.mk hN3
              have T1 := Aside0.mk trivial
              have T2 := Aside0.mk trivial
              clear hs2 hM2 hN2 hN3
              go_wp2_with (first
                | (go_at_call 15; have tk := T1; refine (merge_ok w _ gr R1 R2 Ay cy Y N2 HH2.out HN2.out HM1.out.r.inv.ok HUY.out (Kd.R_reads' HOy.out).2.2 (R_block HOy.out Gy.out) ⟨tab_belowN hT.out HP.out HQy.out⟩ HR6.out HGr.out HQy.out).mono ?_; rintro e we ⟨Ae, ce, rfl, ho_, hR_, hB_, hK_⟩; have HRe := Aside0.mk hR_; have HBe := Aside0.mk hB_; have HOe := Aside0.mk ho_; have HSe : Aside0 (RollB we gs S1) := ⟨hK_.blk HS6.out ngs (by simp)⟩; have Ge := Aside0.mk (blk_lt HS6.out); clear ho_ hR_ hB_ hK_ T1 tk)
                | (go_at_call 15; have tk := T2; refine (merge_ok w _ gs S1 S2 Ae ce N2 N3 HS2.out HN3.out HM1.out.s.inv.ok HUN.out (Kd.R_reads' HOe.out).2.2 (R_block HOe.out Ge.out) ⟨tab_belowN hT.out HP.out HBe.out⟩ HSe.out HGs.out HBe.out).mono ?_; rintro e wz ⟨Az, cz, rfl, -, hR_, hB_, hK_⟩; have HSz := Aside0.mk hR_; have HQz := Aside0.mk hB_; have HRz : Aside0 (RollB wz gr R2) := ⟨hK_.blk HRe.out ngr (by simp)⟩; clear hR_ hB_ hK_ T2 tk))
              go_loopw [18] (fun i wr => ∃ n : Nat, i = .int .i64 n ∧ Aside0 (n ≤ 63) ∧ Aside0 (Below wz.heap.size wz wr))
                (fun i _ => 63 - (intOf i).toNat)
              case atStart => exact ⟨0, rfl, ⟨Nat.zero_le _⟩, ⟨Below.refl _ _⟩⟩
              case round =>
                obtain ⟨n, rfl, hn, HB⟩ := hrel
                by_cases hlt : n < 63
                · have hd : decide ((n : Int) < 63) = true := decide_eq_true (by omega)
                  have hd2 : decide (n < 63) = true := decide_eq_true hlt
                  obtain ⟨⟨u, bb⟩, hg⟩ : ∃ q, getR R2 (n : Int) = q := ⟨_, rfl⟩
                  have hg2 := hg
                  rw [HM2.out.get n hlt] at hg2
                  have HG := Aside0.mk hg
                  have HG2 := Aside0.mk hg2
                  clear hg hg2 hlt
                  go_upto_region 32 with (first | (go_at_call 14; (with_reducible refine (get_is _ gr R2 n u bb HG.out HM2.out.r.inv.ok (RollB.below (R := R2) HRz.out HB.out)).mono ?_); rintro e wg ⟨rfl, hb_⟩; have HBg := Aside0.mk (below_step HB.out hb_); clear hb_) | ((with_reducible refine gate_dst (N := 19) rfl ?_); refine box_event ?hg (N := 19) ?hd (cs := #[.int .i64 0, .int .u64 0, .int .i64 0]) (t := 31) ?hr ?_; (case hd => rfl); (case hg => rfl); (case hr => first | (go_simp; done) | (go_simp; rfl)); intro g19 hg_ wc hb_ hB_; have K19 := Aside0.mk hb_; have L19 := Aside0.mk (show wz.heap.size ≤ g19 from (by rw [hg_]; exact HBg.out.size)); have HBc := Aside0.mk (below_step HBg.out hB_); have z0 := (blk_cell K19.out 0).trans rfl; have z1 := (blk_cell K19.out 1).trans rfl; have z2 := (blk_cell K19.out 2).trans rfl; have zf := fun j => blk_frozen K19.out j; clear hg_ hb_ hB_))
                  have J19 : Aside0 ((((wc.setCell ⟨g19, 0, none⟩ (.int .i64 u.f0)).setCell ⟨g19, 1, none⟩ (.int .u64 u.f1)).setCell ⟨g19, 2, none⟩ (.int .i64 u.f2)).heap[g19]? = some (.cells #[.int .i64 u.f0, .int .u64 u.f1, .int .i64 u.f2] 31 (0, 0))) := ⟨blk_put (cs := #[.int .i64 u.f0, .int .u64 u.f1, .int .i64 0]) (blk_put (cs := #[.int .i64 u.f0, .int .u64 0, .int .i64 0]) (blk_put (cs := #[.int .i64 0, .int .u64 0, .int .i64 0]) K19.out 0 _ rfl) 1 _ rfl) 2 _ rfl⟩
                  have HBd : Aside0 (Below wz.heap.size wz (((wc.setCell ⟨g19, 0, none⟩ (.int .i64 u.f0)).setCell ⟨g19, 1, none⟩ (.int .u64 u.f1)).setCell ⟨g19, 2, none⟩ (.int .i64 u.f2))) := ⟨below_set (below_set (below_set HBc.out L19.out) L19.out) L19.out⟩
                  clear z0 z1 z2 zf HBc K19 L19
                  generalize ((wc.setCell ⟨g19, 0, none⟩ (.int .i64 u.f0)).setCell ⟨g19, 1, none⟩ (.int .u64 u.f1)).setCell ⟨g19, 2, none⟩ (.int .i64 u.f2) = wd at J19 HBd ⊢
                  clear HBg
                  go_upto_region 33 with (first | (go_at_call 14; (with_reducible refine (get_is _ gs S2 n u bb HG2.out HM2.out.s.inv.ok (RollB.below (R := S2) HSz.out HBd.out)).mono ?_); rintro e wg ⟨rfl, hb_⟩; have HBg := Aside0.mk hb_; clear hb_) | ((with_reducible refine gate_dst (N := 21) rfl ?_); refine box_event ?hg (N := 21) ?hd (cs := #[.int .i64 0, .int .u64 0, .int .i64 0]) (t := 31) ?hr ?_; (case hd => rfl); (case hg => rfl); (case hr => first | (go_simp; done) | (go_simp; rfl)); intro g21 hg_ wc hb_ hB_; have K21 := Aside0.mk hb_; have L21 := Aside0.mk (show wd.heap.size ≤ g21 from (by rw [hg_]; exact HBg.out.size)); have HBc := Aside0.mk (below_step HBg.out hB_); have z0 := (blk_cell K21.out 0).trans rfl; have z1 := (blk_cell K21.out 1).trans rfl; have z2 := (blk_cell K21.out 2).trans rfl; have zf := fun j => blk_frozen K21.out j; clear hg_ hb_ hB_))
                  have J21 : Aside0 ((((wc.setCell ⟨g21, 0, none⟩ (.int .i64 u.f0)).setCell ⟨g21, 1, none⟩ (.int .u64 u.f1)).setCell ⟨g21, 2, none⟩ (.int .i64 u.f2)).heap[g21]? = some (.cells #[.int .i64 u.f0, .int .u64 u.f1, .int .i64 u.f2] 31 (0, 0))) := ⟨blk_put (cs := #[.int .i64 u.f0, .int .u64 u.f1, .int .i64 0]) (blk_put (cs := #[.int .i64 u.f0, .int .u64 0, .int .i64 0]) (blk_put (cs := #[.int .i64 0, .int .u64 0, .int .i64 0]) K21.out 0 _ rfl) 1 _ rfl) 2 _ rfl⟩
                  have HBe : Aside0 (Below wd.heap.size wd (((wc.setCell ⟨g21, 0, none⟩ (.int .i64 u.f0)).setCell ⟨g21, 1, none⟩ (.int .u64 u.f1)).setCell ⟨g21, 2, none⟩ (.int .i64 u.f2))) := ⟨below_set (below_set (below_set HBc.out L21.out) L21.out) L21.out⟩
                  clear z0 z1 z2 zf HBc K21 L21
                  generalize ((wc.setCell ⟨g21, 0, none⟩ (.int .i64 u.f0)).setCell ⟨g21, 1, none⟩ (.int .u64 u.f1)).setCell ⟨g21, 2, none⟩ (.int .i64 u.f2) = we at J21 HBe ⊢
                  have J19e := Aside0.mk (blk_below J19.out HBe.out)
                  have y0 := (blk_cell J19e.out 0).trans rfl
                  have y1 := (blk_cell J19e.out 1).trans rfl
                  have y2 := (blk_cell J19e.out 2).trans rfl
                  have x0 := (blk_cell J21.out 0).trans rfl
                  have x1 := (blk_cell J21.out 1).trans rfl
                  have x2 := (blk_cell J21.out 2).trans rfl
                  have HBf := Aside0.mk (below_step HBd.out HBe.out)
                  go_wp2
                  have hlt : n < 63 := of_decide_eq_true hd2
                  go_roundw
                  case rel => exact ⟨n + 1, by (congr 1; unfold wrap64; omega), ⟨hlt⟩, HBf⟩
                  case measure => exact meas_lit2 63 n hlt (by decide)
                · obtain rfl : n = 63 := by have := hn.out; omega
                  go_wp2
                  go_ret
                  exact ⟨rfl, (below_step HQz.out HB.out)⟩
theorem rollMerges_row (a0 : Int) (A : Option Addr) (c : Nat) (a : List S31) (B : Option Addr) (d : Nat) (b : List S31) (w : World) (w0 : (Lit.int .u8 a0).wf = true) (hr : Kd.C k31 w A a.length a) (_ : a.length ≤ c) (hl : ∀ u ∈ a, (Lit.int .u64 u.f1).wf = true) (hr' : Kd.C k31 w B b.length b) (_ : b.length ≤ d) (hl' : ∀ u ∈ b, (Lit.int .u64 u.f1).wf = true) (hT : Aside0 (TabT w)) :
    Calls Tryd.prog 7 #[.int .u8 a0, .slice A a.length c, .slice B b.length d] w fun e w' => e = .returned (.bool true) ∧ Below w.heap.size w w' := by
  obtain ⟨k, hk, hk63⟩ := mod63 (Band.wf_u8 w0)
  exact merges_walk w A B c d a b a0 k hk hk63 (fun u hu => okU_wf (hl u hu)) (fun u hu => okU_wf (hl' u hu)) hr hr' hT
end Go.Proofs.YtkkcnhfbcophiaaDoor.B
