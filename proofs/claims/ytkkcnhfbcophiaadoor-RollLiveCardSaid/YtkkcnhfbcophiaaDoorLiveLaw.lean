/- By hand: the walk of RollLive. -/
import Derived.Test.YtkkcnhfbcophiaaDoorMergeIs
import Derived.Test.YtkkcnhfbcophiaaDoorLiveP
import Derived.Test.YtkkcnhfbcophiaaDoorSelfEnd
namespace Go.Proofs.YtkkcnhfbcophiaaDoor.B
open Go.RowKit Go.Proofs.YtkkcnhfbcophiaaDoorW.PrintWords Go.Proofs.YtkkcnhfbcophiaaDoorW.PrintLast Go.Proofs.YtkkcnhfbcophiaaDoorW.PrintMore Go.Proofs.YtkkcnhfbcophiaaDoor.Band Go.Proofs.YtkkcnhfbcophiaaDoor.Pure
set_option linter.unusedVariables false
set_option linter.unusedSimpArgs false
attribute [local go_sem high] eqA31

set_option maxRecDepth 100000 in
set_option maxHeartbeats 1000000 in
theorem dead_walk (w : World) (A : Option Addr) (c : Nat) (l : List S31) (h64 : l.length ≤ 64) (hr : Kd.C k31 w A l.length l) :
    Calls Tryd.prog 27 #[.slice A l.length c] w fun e w' => e = .returned (.int .i64 (deadN l : Nat)) ∧ Below w.heap.size w w' := by
  have HL := Aside0.mk hr
  clear hr
  go_enter Tryd.func27, Tryd.ntmps27
  go_wp2
  go_loopw [3, 4] (fun n i wr => ∃ j : Nat, i = .int .i64 j ∧ n = .int .i64 (deadN (l.take j) : Nat) ∧ Aside0 (j ≤ l.length) ∧ Aside0 (Below w.heap.size w wr))
    (fun _ i _ => l.length - (intOf i).toNat)
  case atStart => exact ⟨0, rfl, by rw [List.take_zero]; rfl, ⟨Nat.zero_le _⟩, ⟨Below.refl _ _⟩⟩
  case round =>
    obtain ⟨j, rfl, rfl, hj, HB⟩ := hrel
    by_cases hlt : j < l.length
    · obtain ⟨ad, e, hx0, hx1, hx2⟩ := at_T31 HL.out (j : Int) (by omega) (by omega)
      simp only [Int.toNat_natCast] at hx0 hx1 hx2
      obtain rfl := e
      have hta := deadN_take l j hlt
      have hle : deadN (l.take j) ≤ 64 := Nat.le_trans (deadN_le _) (by rw [List.length_take]; omega)
      obtain ⟨p, hp⟩ : ∃ p, p = rd_T31 l (j : Int) := ⟨_, rfl⟩
      rw [← hp] at hx0 hx1 hx2 hta
      clear hp
      replace hx0 := (HB.out.cell (World.block_lt_of_cell? w _ hx0)).trans hx0
      replace hx1 := (HB.out.cell (World.block_lt_of_cell? w _ hx1)).trans hx1
      replace hx2 := (HB.out.cell (World.block_lt_of_cell? w _ hx2)).trans hx2
      by_cases hg : 1 < p.f2
      · rw [if_pos hg] at hta
        have HTA := Aside0.mk hta
        have hd : decide (1 < p.f2) = true := decide_eq_true hg
        clear hta hg
        go_wp2
        go_roundw
        case rel => exact ⟨j + 1, by go_num, by rw [HTA.out]; go_num, ⟨hlt⟩, HB⟩
        case measure => simp [intOf]; omega
      · rw [if_neg hg] at hta
        have HTA := Aside0.mk hta
        have hd : decide (1 < p.f2) = false := decide_eq_false hg
        clear hta hg
        go_wp2
        go_roundw
        case rel => exact ⟨j + 1, by go_num, by rw [HTA.out], ⟨hlt⟩, HB⟩
        case measure => simp [intOf]; omega
    · obtain rfl : j = l.length := by have := hj.out; omega
      go_wp2
      go_ret
      rw [List.take_length]
      exact ⟨rfl, HB.out⟩

theorem shr_bit (v k : Nat) (hv : v < 18446744073709551616) (hk : k < 64) (hb : v.testBit k = true) : Go.bits .and .u64 ((v : Int) / 2 ^ k) 1 = 1 := by
  have e : ((v : Int) / 2 ^ k) = ((v / 2 ^ k : Nat) : Int) := by rw [Int.natCast_ediv, Int.natCast_pow]; rfl
  have hlt : v / 2 ^ k < 18446744073709551616 := Nat.lt_of_le_of_lt (Nat.div_le_self _ _) hv
  rw [e]
  have h := (bits_nat .u64 64 (by decide) (fun n h0 h1 => by rw [IntKind.wrap_u64]; omega) (v / 2 ^ k) 1 hlt (by decide)).1
  have h2 := and_pow (v / 2 ^ k) 0
  rw [Nat.testBit_div_two_pow, Nat.zero_add, hb, if_pos rfl] at h2
  rw [show (1 : Int) = ((1 : Nat) : Int) from rfl, h]
  rw [show (2 : Nat) ^ 0 = 1 from rfl] at h2
  rw [h2]

set_option maxRecDepth 100000 in
set_option maxHeartbeats 4000000 in
theorem live_law (w : World) (A : Option Addr) (c : Nat) (l : List S31) (a0 : Int) (k : Nat) (hk : Int.tmod (wrap64 a0) 64 = k) (hk64 : k < 64) (hl : ∀ u ∈ l, OkU u) (hr : Kd.C k31 w A l.length l) (hT : Aside0 (TabT w)) :
    Calls Tryd.prog 9 #[.int .u8 a0, .slice A l.length c] w fun e w' => e = .returned (.bool true) ∧ Below w.heap.size w w' := by
  have HL := Aside0.mk hr
  have HU := Aside0.mk hl
  have hlen : (l.length : Int) ≤ 9223372036854775807 := by have := hr.2.1; omega
  have HP := Aside0.mk (tab_pos hT.out)
  clear hr hl
  by_cases hc : 100 < l.length
  · have h1 : decide ((100 : Int) < (l.length : Int)) = true := decide_eq_true (by omega)
    have h2 : decide (100 < l.length) = true := decide_eq_true hc
    clear hc
    go_enter Tryd.func9, Tryd.ntmps9
    go_wp2_with (go_at_call 10; refine (shown_walk _ hT).mono ?_; rintro e w1 ⟨rfl, hb⟩; have HB1 := Aside0.mk hb; clear hb)
    go_ret
    exact ⟨rfl, HB1.out⟩
  · have h1 : decide ((100 : Int) < (l.length : Int)) = false := decide_eq_false (by omega)
    have h2 : decide (100 < l.length) = false := decide_eq_false hc
    clear hc
    have HV0 := Aside0.mk (RV.new k hk64)
    obtain ⟨i1, hi1, hV1, -, -, -⟩ := RV.hearL l _ _ HV0.out HU.out
    obtain ⟨⟨R1, b1⟩, hh1⟩ : ∃ q, hearL (newR k) l = q := ⟨_, rfl⟩
    rw [hh1] at hV1
    have HH1 := Aside0.mk hh1
    have HV := Aside0.mk hV1
    obtain ⟨L, hL⟩ : ∃ L, allL R1 = L := ⟨_, rfl⟩
    have hLl : L.length ≤ 64 := by rw [← hL]; exact allL_len R1
    have HLa := Aside0.mk hL
    clear hh1 hV1 hi1 hL
    go_enter Tryd.func9, Tryd.ntmps9
    go_wp2_with (first
      | (go_at_call 10; refine (shown_walk _ hT).mono ?_; rintro e w1 ⟨rfl, hb⟩; have HB1 := Aside0.mk hb; clear hb)
      | (go_at_call 11; refine (new_any _ k hk64).mono ?_; rintro e w2 ⟨gr, rfl, hR_, hg_, hb_⟩; have HR2 := Aside0.mk hR_; have HGr : Aside0 (w.heap.size ≤ gr) := ⟨Nat.le_trans HB1.out.size hg_⟩; have HB2 := Aside0.mk (below_step HB1.out hb_); clear hR_ hg_ hb_)
      | (go_at_call 15; refine (merge_any w _ gr (newR k) R1 b1 A c l HH1.out HV0.out.inv.ok HU.out (Kd.C_below HL.out HB2.out) (C_block HL.out (by decide) HGr.out) ⟨tab_belowN hT.out HP.out HB2.out⟩ HR2.out HGr.out HB2.out).mono ?_; rintro e w3 ⟨A3, n3, c3, x3, rfl, hR_, hB_, hK_⟩; have HR3 := Aside0.mk hR_; have HB3 := Aside0.mk hB_; clear hR_ hB_ hK_)
      | (go_at_call 16; refine (all_is _ gr R1 L HLa.out HV.out.inv.ok ⟨tab_belowN hT.out HP.out HB3.out⟩ HR3.out).mono ?_; rintro e wa ⟨Aa, ca, rfl, hc_, ho_, hb_⟩; have HOa := Aside0.mk (Kd.R_reads' ho_).2.2; have HCa := Aside0.mk hc_; have HRa := Aside0.mk (RollB.below (R := R1) HR3.out hb_); have HBa := Aside0.mk (below_step HB3.out hb_); clear ho_ hc_ hb_))
    go_loopw [7, 9] (fun v i wr => ∃ j : Nat, i = .int .i64 j ∧ v = .int .u64 (liveN (L.take j) : Nat) ∧ Aside0 (j ≤ L.length) ∧ Aside0 (Below wa.heap.size wa wr))
      (fun _ i _ => L.length - (intOf i).toNat)
    case atStart => exact ⟨0, rfl, by rw [List.take_zero]; rfl, ⟨Nat.zero_le _⟩, ⟨Below.refl _ _⟩⟩
    case round =>
      clear HR2 HR3 HB2 HB3 HB1
      obtain ⟨j, rfl, rfl, hj, HB⟩ := hrel
      by_cases hlt : j < L.length
      · obtain ⟨ad, e, hy0, hy1, hy2⟩ := at_T31 HOa.out (j : Int) (by omega) (by omega)
        simp only [Int.toNat_natCast] at hy0 hy1 hy2
        obtain rfl := e
        obtain ⟨n, hn64, -, -, -, hpf, hp2, hpg⟩ := allL_at HV.out j (by rw [HLa.out]; exact hlt)
        have hta := liveN_take L j hlt
        rw [HLa.out] at hpf hp2 hpg
        have hor := with_run (liveN (L.take j)) (liveN_lt _) (rd_T31 L (j : Int)).f0
        obtain ⟨p, hp⟩ : ∃ p, p = rd_T31 L (j : Int) := ⟨_, rfl⟩
        rw [← hp] at hy0 hy1 hy2 hta hpf hp2 hpg hor
        have HPE := Aside0.mk hp
        have Y0 := Aside0.mk hy0
        have Y1 := Aside0.mk hy1
        have Y2 := Aside0.mk hy2
        have HT := Aside0.mk hta
        have HP2 := Aside0.mk hp2
        have HG := Aside0.mk hpg
        clear hp hy0 hy1 hy2 hta hp2 hpg
        have hx0 := (HB.out.cell (World.block_lt_of_cell? wa _ Y0.out)).trans Y0.out
        have hx1 := (HB.out.cell (World.block_lt_of_cell? wa _ Y1.out)).trans Y1.out
        have hx2 := (HB.out.cell (World.block_lt_of_cell? wa _ Y2.out)).trans Y2.out
        have p0 : ((0 : Int) ≤ p.f0) = True := eq_true (by omega)
        have HOR : Aside0 (Go.bits .or .u64 (liveN (L.take j) : Nat) (IntKind.u64.wrap (2 ^ min p.f0.toNat 64)) = ((liveN (L.take j) ||| bitN p.f0 : Nat) : Int)) := ⟨by
          unfold band_With.f band_bit.f at hor
          rw [if_neg (by omega), if_neg (by omega), if_pos (by omega)] at hor
          have es : shl .u64 1 p.f0 = IntKind.u64.wrap (2 ^ min p.f0.toNat 64) := by simp [shl, IntKind.bits]
          rw [es] at hor
          exact Option.some.inj hor⟩
        clear hor hpf hn64
        by_cases hpos : 0 < j
        · obtain ⟨m, hmj⟩ : ∃ m, m + 1 = j := ⟨j - 1, by omega⟩
          obtain ⟨ad', e', hz0, -, -⟩ := at_T31 HOa.out (m : Int) (by omega) (by omega)
          simp only [Int.toNat_natCast] at hz0
          obtain rfl : ad = ad' := Option.some.inj e'
          clear e'
          have hso := allL_sorted HV.out m (by rw [HLa.out]; omega)
          rw [HLa.out, hmj, ← HPE.out] at hso
          obtain ⟨q, hq⟩ : ∃ q, q = rd_T31 L (m : Int) := ⟨_, rfl⟩
          rw [← hq] at hz0 hso
          have Z0 := Aside0.mk hz0
          have hle : decide (p.f0 ≤ q.f0) = false := decide_eq_false (by omega)
          have hsub : (j : Int) - 1 = (m : Int) := by omega
          have hwm : wrap64 (m : Int) = (m : Int) := by unfold wrap64; omega
          have p0m : ((0 : Int) ≤ (m : Int)) = True := eq_true (by omega)
          have p1m : ((m : Int) < (L.length : Int)) = True := eq_true (by omega)
          have hgt : decide ((0 : Int) < (j : Int)) = true := decide_eq_true (by omega)
          have hgt2 : decide (0 < j) = true := decide_eq_true (by omega)
          clear hq hz0 hso hmj hpos
          cases hlv : isLive p
          · rw [hlv] at HT
            rw [if_neg (by decide)] at HT
            have HLV := Aside0.mk hlv
            clear hlv
            have hd : decide (p.f2 < 2) = false := by
              have h1 := HLV.out
              have h2 := HP2.out
              rw [← h1]
              unfold isLive
              rw [decide_eq_decide]
              omega
            go_upto_region 15 with (fail)
            clear hx0 hx1 hx2
            have HBx := Aside0.mk (below_drew1 HB.out)
            refine start_ (n := 16) (S := fun w' => w'.cell? (ad.add (j * 3)) = some (.int .i64 p.f0) ∧ w'.cell? (ad.add (m * 3)) = some (.int .i64 q.f0)) (ds := []) #[false, false, false, false, false, false, false, false, false, false, false, false, false, false, false, false] (by kernel_rfl) rfl rfl ⟨(HBx.out.cell (World.block_lt_of_cell? wa _ Y0.out)).trans Y0.out, (HBx.out.cell (World.block_lt_of_cell? wa _ Z0.out)).trans Z0.out⟩ (fun hHeld => ?_)
            generalize wr.drew = wx at HBx hHeld ⊢
            refine pure_ (i := 0) (N := some 52) (v := ?_) (a' := ?_) #[true, false, false, false, false, false, false, false, false, false, false, false, false, false, false, false] rfl rfl (by kernel_rfl) (fun _ _ _ h => h) (Or.inl ⟨by rfl, ?_⟩) ?_ ?_
            rotate_left
            · intro w'
              go_simp
              first | done | with_reducible rfl | rfl | (simp [Instr.field, go_sem]; rfl)
            rotate_left
            · simp only [Act.put, List.setIfInBounds_toArray, List.set_cons_zero, List.set_cons_succ, i64_w, i32_w]
              rfl
            refine pure_ (i := 1) (N := some 53) (v := ?_) (a' := ?_) #[true, true, false, false, false, false, false, false, false, false, false, false, false, false, false, false] rfl rfl (by kernel_rfl) (fun _ _ _ h => h) (Or.inl ⟨by rfl, ?_⟩) ?_ ?_
            rotate_left
            · intro w'
              go_simp
              first | done | with_reducible rfl | rfl | (simp [Instr.field, go_sem]; rfl)
            rotate_left
            · simp only [Act.put, List.setIfInBounds_toArray, List.set_cons_zero, List.set_cons_succ, i64_w, i32_w]
              rfl
            refine pure_ (i := 2) (N := some 54) (v := ?_) (a' := ?_) #[true, true, true, false, false, false, false, false, false, false, false, false, false, false, false, false] rfl rfl (by kernel_rfl) (fun _ _ _ h => h) (Or.inl ⟨by rfl, ?_⟩) ?_ ?_
            rotate_left
            · intro w'
              go_simp
              first | done | with_reducible rfl | rfl | (simp [Instr.field, go_sem]; rfl)
            rotate_left
            · simp only [Act.put, List.setIfInBounds_toArray, List.set_cons_zero, List.set_cons_succ, i64_w, i32_w]
              rfl
            refine pure_ (i := 3) (N := some 55) (v := ?_) (a' := ?_) #[true, true, true, true, false, false, false, false, false, false, false, false, false, false, false, false] rfl rfl (by kernel_rfl) (fun _ _ _ h => h) (Or.inl ⟨by rfl, ?_⟩) ?_ ?_
            rotate_left
            · intro w'
              go_simp
              first | done | with_reducible rfl | rfl | (simp [Instr.field, go_sem]; rfl)
            rotate_left
            · simp only [Act.put, List.setIfInBounds_toArray, List.set_cons_zero, List.set_cons_succ, i64_w, i32_w]
              rfl
            refine pure_ (i := 4) (N := some 56) (v := ?_) (a' := ?_) #[true, true, true, true, true, false, false, false, false, false, false, false, false, false, false, false] rfl rfl (by kernel_rfl) (fun _ _ _ h => h) (Or.inl ⟨by rfl, ?_⟩) ?_ ?_
            rotate_left
            · intro w'
              go_simp
              first | done | with_reducible rfl | rfl | (simp [Instr.field, go_sem]; rfl)
            rotate_left
            · simp only [Act.put, List.setIfInBounds_toArray, List.set_cons_zero, List.set_cons_succ, i64_w, i32_w]
              rfl
            refine pure_ (i := 5) (N := some 57) (v := ?_) (a' := ?_) #[true, true, true, true, true, true, false, false, false, false, false, false, false, false, false, false] rfl rfl (by kernel_rfl) (fun _ _ _ h => h) (Or.inl ⟨by rfl, ?_⟩) ?_ ?_
            rotate_left
            · intro w'
              go_simp
              first | done | with_reducible rfl | rfl | (simp [Instr.field, go_sem]; rfl)
            rotate_left
            · simp only [Act.put, List.setIfInBounds_toArray, List.set_cons_zero, List.set_cons_succ, i64_w, i32_w]
              rfl
            refine pure_ (i := 6) (N := some 58) (v := ?_) (a' := ?_) #[true, true, true, true, true, true, true, false, false, false, false, false, false, false, false, false] rfl rfl (by kernel_rfl) (fun _ _ _ h => h) (Or.inl ⟨by rfl, ?_⟩) ?_ ?_
            rotate_left
            · intro w'
              go_simp
              first | done | with_reducible rfl | rfl | (simp [Instr.field, go_sem]; rfl)
            rotate_left
            · simp only [Act.put, List.setIfInBounds_toArray, List.set_cons_zero, List.set_cons_succ, i64_w, i32_w]
              rfl
            refine pure_ (i := 8) (N := some 60) (v := ?_) (a' := ?_) #[true, true, true, true, true, true, true, false, true, false, false, false, false, false, false, false] rfl rfl (by kernel_rfl) (fun _ _ _ h => h) (Or.inl ⟨by rfl, ?_⟩) ?_ ?_
            rotate_left
            · intro w'
              go_simp
              first | done | with_reducible rfl | rfl | (simp [Instr.field, go_sem]; rfl)
            rotate_left
            · simp only [Act.put, List.setIfInBounds_toArray, List.set_cons_zero, List.set_cons_succ, i64_w, i32_w]
              rfl
            refine pure_ (i := 9) (N := some 61) (v := ?_) (a' := ?_) #[true, true, true, true, true, true, true, false, true, true, false, false, false, false, false, false] rfl rfl (by kernel_rfl) (fun _ _ _ h => h) (Or.inl ⟨by rfl, ?_⟩) ?_ ?_
            rotate_left
            · intro w'
              go_simp
              first | done | with_reducible rfl | rfl | (simp [Instr.field, go_sem]; rfl)
            rotate_left
            · simp only [Act.put, List.setIfInBounds_toArray, List.set_cons_zero, List.set_cons_succ, i64_w, i32_w]
              rfl
            refine pure_ (i := 10) (N := some 62) (v := ?_) (a' := ?_) #[true, true, true, true, true, true, true, false, true, true, true, false, false, false, false, false] rfl rfl (by kernel_rfl) (fun _ _ _ h => h) (Or.inl ⟨by rfl, ?_⟩) ?_ ?_
            rotate_left
            · intro w'
              go_simp
              first | done | with_reducible rfl | rfl | (simp [Instr.field, go_sem]; rfl)
            rotate_left
            · simp only [Act.put, List.setIfInBounds_toArray, List.set_cons_zero, List.set_cons_succ, i64_w, i32_w]
              rfl
            refine pure_ (i := 11) (N := some 63) (v := ?_) (a' := ?_) #[true, true, true, true, true, true, true, false, true, true, true, true, false, false, false, false] rfl rfl (by kernel_rfl) (fun _ _ _ h => h) (Or.inl ⟨by rfl, ?_⟩) ?_ ?_
            rotate_left
            · intro w'
              go_simp
              first | done | with_reducible rfl | rfl | (simp [Instr.field, go_sem]; rfl)
            rotate_left
            · simp only [Act.put, List.setIfInBounds_toArray, List.set_cons_zero, List.set_cons_succ, i64_w, i32_w]
              rfl
            refine pure_ (i := 12) (N := some 64) (v := ?_) (a' := ?_) #[true, true, true, true, true, true, true, false, true, true, true, true, true, false, false, false] rfl rfl (by kernel_rfl) (fun _ _ _ h => h) (Or.inl ⟨by rfl, ?_⟩) ?_ ?_
            rotate_left
            · intro w'
              go_simp
              first | done | with_reducible rfl | rfl | (simp [Instr.field, go_sem]; rfl)
            rotate_left
            · simp only [Act.put, List.setIfInBounds_toArray, List.set_cons_zero, List.set_cons_succ, i64_w, i32_w]
              rfl
            refine take_ (i := 7) (N := some 59) (v := ?_) (a' := ?_) #[true, true, true, true, true, true, true, true, true, true, true, true, true, false, false, false] rfl rfl (by kernel_rfl) (fun _ _ _ h => h) (Or.inl ⟨by rfl, ?_⟩) hHeld ?_ ?_
            rotate_left
            · rintro w' ⟨s0, s1⟩
              go_simp
              first | done | with_reducible rfl | rfl | (simp [Instr.field, go_sem]; rfl)
            rotate_left
            · simp only [Act.put, List.setIfInBounds_toArray, List.set_cons_zero, List.set_cons_succ, i64_w, i32_w]
              rfl
            refine take_ (i := 13) (N := some 65) (v := ?_) (a' := ?_) #[true, true, true, true, true, true, true, true, true, true, true, true, true, true, false, false] rfl rfl (by kernel_rfl) (fun _ _ _ h => h) (Or.inl ⟨by rfl, ?_⟩) hHeld ?_ ?_
            rotate_left
            · rintro w' ⟨s0, s1⟩
              go_simp
              first | done | with_reducible rfl | rfl | (simp [Instr.field, go_sem]; rfl)
            rotate_left
            · simp only [Act.put, List.setIfInBounds_toArray, List.set_cons_zero, List.set_cons_succ, i64_w, i32_w]
              rfl
            refine pure_ (i := 14) (N := some 66) (v := ?_) (a' := ?_) #[true, true, true, true, true, true, true, true, true, true, true, true, true, true, true, false] rfl rfl (by kernel_rfl) (fun _ _ _ h => h) (Or.inl ⟨by rfl, ?_⟩) ?_ ?_
            rotate_left
            · intro w'
              go_simp
              first | done | with_reducible rfl | rfl | (simp [Instr.field, go_sem]; rfl)
            rotate_left
            · simp only [Act.put, List.setIfInBounds_toArray, List.set_cons_zero, List.set_cons_succ, i64_w, i32_w]
              rfl
            refine pure_ (i := 15) (N := some 67) (v := ?_) (a' := ?_) #[true, true, true, true, true, true, true, true, true, true, true, true, true, true, true, true] rfl rfl (by kernel_rfl) (fun _ _ _ h => h) (Or.inl ⟨by rfl, ?_⟩) ?_ ?_
            rotate_left
            · intro w'
              go_simp
              first | done | with_reducible rfl | rfl | (simp [Instr.field, go_sem]; rfl)
            rotate_left
            · simp only [Act.put, List.setIfInBounds_toArray, List.set_cons_zero, List.set_cons_succ, i64_w, i32_w]
              rfl
            refine done_ (by kernel_rfl) ?_
            clear hHeld
            have HRx : Aside0 (RollB wx gr R1) := ⟨RollB.below (R := R1) HRa.out HBx.out⟩
            have hx0 := (HBx.out.cell (World.block_lt_of_cell? wa _ Y0.out)).trans Y0.out
            go_upto_region 18 with (first | (go_at_call 14; (with_reducible refine (get_is _ gr R1 p.f0 p true HG.out HV.out.inv.ok HRx.out).mono ?_); rintro e wg ⟨rfl, hb_⟩; have HBg := Aside0.mk (below_step HBx.out hb_); have hx0 := (HBg.out.cell (World.block_lt_of_cell? wa _ Y0.out)).trans Y0.out; have hx1 := (HBg.out.cell (World.block_lt_of_cell? wa _ Y1.out)).trans Y1.out; have hx2 := (HBg.out.cell (World.block_lt_of_cell? wa _ Y2.out)).trans Y2.out; clear hb_) | ((with_reducible refine gate_dst (N := 10) rfl ?_); refine box_event ?hg (N := 10) ?hd (cs := #[.int .i64 0, .int .u64 0, .int .i64 0]) (t := 31) ?hr ?_; (case hd => rfl); (case hg => rfl); (case hr => first | (go_simp; done) | (go_simp; rfl)); intro g10 hg_ wc hb_ hB_; have K10 := Aside0.mk hb_; have L10 := Aside0.mk (show wa.heap.size ≤ g10 from (by rw [hg_]; exact HBg.out.size)); have HBc := Aside0.mk (below_step HBg.out hB_); have z0 := (blk_cell K10.out 0).trans rfl; have z1 := (blk_cell K10.out 1).trans rfl; have z2 := (blk_cell K10.out 2).trans rfl; have zf := fun j => blk_frozen K10.out j; clear hg_ hb_ hB_))
            have Jc : Aside0 ((((wc.setCell ⟨g10, 0, none⟩ (.int .i64 p.f0)).setCell ⟨g10, 1, none⟩ (.int .u64 p.f1)).setCell ⟨g10, 2, none⟩ (.int .i64 p.f2)).heap[g10]? = some (.cells #[.int .i64 p.f0, .int .u64 p.f1, .int .i64 p.f2] 31 (0, 0))) := ⟨blk_put (cs := #[.int .i64 p.f0, .int .u64 p.f1, .int .i64 0]) (blk_put (cs := #[.int .i64 p.f0, .int .u64 0, .int .i64 0]) (blk_put (cs := #[.int .i64 0, .int .u64 0, .int .i64 0]) K10.out 0 _ rfl) 1 _ rfl) 2 _ rfl⟩
            have HBd : Aside0 (Below wa.heap.size wa (((wc.setCell ⟨g10, 0, none⟩ (.int .i64 p.f0)).setCell ⟨g10, 1, none⟩ (.int .u64 p.f1)).setCell ⟨g10, 2, none⟩ (.int .i64 p.f2))) := ⟨below_set (below_set (below_set HBc.out L10.out) L10.out) L10.out⟩
            clear z0 z1 z2 zf hx0 hx1 hx2 HBx HRx
            generalize ((wc.setCell ⟨g10, 0, none⟩ (.int .i64 p.f0)).setCell ⟨g10, 1, none⟩ (.int .u64 p.f1)).setCell ⟨g10, 2, none⟩ (.int .i64 p.f2) = wd at Jc HBd ⊢
            have Jx : Aside0 (wd.drew.heap[g10]? = some (.cells #[.int .i64 p.f0, .int .u64 p.f1, .int .i64 p.f2] 31 (0, 0))) := ⟨blk_drew Jc.out⟩
            have HBx := Aside0.mk (below_drew1 HBd.out)
            refine start_ (n := 10) (S := fun w' => w'.cell? ⟨g10, 0, none⟩ = some (.int .i64 p.f0) ∧ w'.cell? ⟨g10, 1, none⟩ = some (.int .u64 p.f1) ∧ w'.cell? ⟨g10, 2, none⟩ = some (.int .i64 p.f2) ∧ w'.cell? (ad.add (j * 3)) = some (.int .i64 p.f0) ∧ w'.cell? ⟨(ad.add (j * 3)).block, (ad.add (j * 3)).off + 1, none⟩ = some (.int .u64 p.f1) ∧ w'.cell? ⟨(ad.add (j * 3)).block, (ad.add (j * 3)).off + 2, none⟩ = some (.int .i64 p.f2)) (ds := []) #[false, false, false, false, false, false, false, false, false, false] (by kernel_rfl) rfl rfl ⟨(blk_cell Jx.out 0).trans rfl, (blk_cell Jx.out 1).trans rfl, (blk_cell Jx.out 2).trans rfl, (HBx.out.cell (World.block_lt_of_cell? wa _ Y0.out)).trans Y0.out, (HBx.out.cell (World.block_lt_of_cell? wa _ Y1.out)).trans Y1.out, (HBx.out.cell (World.block_lt_of_cell? wa _ Y2.out)).trans Y2.out⟩ (fun hHeld => ?_)
            generalize wd.drew = wx at Jx HBx hHeld ⊢
            refine pure_ (i := 0) (N := some 78) (v := ?_) (a' := ?_) #[true, false, false, false, false, false, false, false, false, false] rfl rfl (by kernel_rfl) (fun _ _ _ h => h) (Or.inl ⟨by rfl, ?_⟩) ?_ ?_
            rotate_left
            · intro w'
              go_simp
              first | done | with_reducible rfl | rfl | (simp [Instr.field, go_sem]; rfl)
            rotate_left
            · simp only [Act.put, List.setIfInBounds_toArray, List.set_cons_zero, List.set_cons_succ, i64_w, i32_w]
              rfl
            refine pure_ (i := 1) (N := some 79) (v := ?_) (a' := ?_) #[true, true, false, false, false, false, false, false, false, false] rfl rfl (by kernel_rfl) (fun _ _ _ h => h) (Or.inl ⟨by rfl, ?_⟩) ?_ ?_
            rotate_left
            · intro w'
              go_simp
              first | done | with_reducible rfl | rfl | (simp [Instr.field, go_sem]; rfl)
            rotate_left
            · simp only [Act.put, List.setIfInBounds_toArray, List.set_cons_zero, List.set_cons_succ, i64_w, i32_w]
              rfl
            refine pure_ (i := 2) (N := some 80) (v := ?_) (a' := ?_) #[true, true, true, false, false, false, false, false, false, false] rfl rfl (by kernel_rfl) (fun _ _ _ h => h) (Or.inl ⟨by rfl, ?_⟩) ?_ ?_
            rotate_left
            · intro w'
              go_simp
              first | done | with_reducible rfl | rfl | (simp [Instr.field, go_sem]; rfl)
            rotate_left
            · simp only [Act.put, List.setIfInBounds_toArray, List.set_cons_zero, List.set_cons_succ, i64_w, i32_w]
              rfl
            refine pure_ (i := 4) (N := some 82) (v := ?_) (a' := ?_) #[true, true, true, false, true, false, false, false, false, false] rfl rfl (by kernel_rfl) (fun _ _ _ h => h) (Or.inl ⟨by rfl, ?_⟩) ?_ ?_
            rotate_left
            · intro w'
              go_simp
              first | done | with_reducible rfl | rfl | (simp [Instr.field, go_sem]; rfl)
            rotate_left
            · simp only [Act.put, List.setIfInBounds_toArray, List.set_cons_zero, List.set_cons_succ, i64_w, i32_w]
              rfl
            refine pure_ (i := 5) (N := some 83) (v := ?_) (a' := ?_) #[true, true, true, false, true, true, false, false, false, false] rfl rfl (by kernel_rfl) (fun _ _ _ h => h) (Or.inl ⟨by rfl, ?_⟩) ?_ ?_
            rotate_left
            · intro w'
              go_simp
              first | done | with_reducible rfl | rfl | (simp [Instr.field, go_sem]; rfl)
            rotate_left
            · simp only [Act.put, List.setIfInBounds_toArray, List.set_cons_zero, List.set_cons_succ, i64_w, i32_w]
              rfl
            refine pure_ (i := 6) (N := some 84) (v := ?_) (a' := ?_) #[true, true, true, false, true, true, true, false, false, false] rfl rfl (by kernel_rfl) (fun _ _ _ h => h) (Or.inl ⟨by rfl, ?_⟩) ?_ ?_
            rotate_left
            · intro w'
              go_simp
              first | done | with_reducible rfl | rfl | (simp [Instr.field, go_sem]; rfl)
            rotate_left
            · simp only [Act.put, List.setIfInBounds_toArray, List.set_cons_zero, List.set_cons_succ, i64_w, i32_w]
              rfl
            refine take_ (i := 3) (N := some 81) (v := ?_) (a' := ?_) #[true, true, true, true, true, true, true, false, false, false] rfl rfl (by kernel_rfl) (fun _ _ _ h => h) (Or.inl ⟨by rfl, ?_⟩) hHeld ?_ ?_
            rotate_left
            · rintro w' ⟨s0, s1, s2, s3, s4, s5⟩
              go_simp
              first | done | with_reducible rfl | rfl | (simp [Instr.field, go_sem]; rfl)
            rotate_left
            · simp only [Act.put, List.setIfInBounds_toArray, List.set_cons_zero, List.set_cons_succ, i64_w, i32_w]
              rfl
            refine take_ (i := 7) (N := some 85) (v := ?_) (a' := ?_) #[true, true, true, true, true, true, true, true, false, false] rfl rfl (by kernel_rfl) (fun _ _ _ h => h) (Or.inl ⟨by rfl, ?_⟩) hHeld ?_ ?_
            rotate_left
            · rintro w' ⟨s0, s1, s2, s3, s4, s5⟩
              go_simp
              first | done | with_reducible rfl | rfl | (simp [Instr.field, go_sem]; rfl)
            rotate_left
            · simp only [Act.put, List.setIfInBounds_toArray, List.set_cons_zero, List.set_cons_succ, i64_w, i32_w]
              rfl
            refine pure_ (i := 8) (N := some 86) (v := ?_) (a' := ?_) #[true, true, true, true, true, true, true, true, true, false] rfl rfl (by kernel_rfl) (fun _ _ _ h => h) (Or.inl ⟨by rfl, ?_⟩) ?_ ?_
            rotate_left
            · intro w'
              go_simp
              first | done | with_reducible rfl | rfl | (simp [Instr.field, go_sem]; rfl)
            rotate_left
            · simp only [Act.put, List.setIfInBounds_toArray, List.set_cons_zero, List.set_cons_succ, i64_w, i32_w]
              rfl
            refine pure_ (i := 9) (N := some 87) (v := ?_) (a' := ?_) #[true, true, true, true, true, true, true, true, true, true] rfl rfl (by kernel_rfl) (fun _ _ _ h => h) (Or.inl ⟨by rfl, ?_⟩) ?_ ?_
            rotate_left
            · intro w'
              go_simp
              first | done | with_reducible rfl | rfl | (simp [Instr.field, go_sem]; rfl)
            rotate_left
            · simp only [Act.put, List.setIfInBounds_toArray, List.set_cons_zero, List.set_cons_succ, i64_w, i32_w]
              rfl
            refine done_ (by kernel_rfl) ?_
            clear hHeld
            go_wp2
            go_roundw
            case rel => exact ⟨j + 1, by go_num, by rw [HT.out], ⟨hlt⟩, HBx⟩
            case measure => simp [intOf]; omega
          · rw [hlv] at HT
            rw [if_pos rfl] at HT
            have HLV := Aside0.mk hlv
            clear hlv
            have hd : decide (p.f2 < 2) = true := by
              have h1 := HLV.out
              have h2 := HP2.out
              rw [← h1]
              unfold isLive
              rw [decide_eq_decide]
              omega
            go_upto_region 15 with (fail)
            clear hx0 hx1 hx2
            have HBx := Aside0.mk (below_drew1 HB.out)
            refine start_ (n := 16) (S := fun w' => w'.cell? (ad.add (j * 3)) = some (.int .i64 p.f0) ∧ w'.cell? (ad.add (m * 3)) = some (.int .i64 q.f0)) (ds := []) #[false, false, false, false, false, false, false, false, false, false, false, false, false, false, false, false] (by kernel_rfl) rfl rfl ⟨(HBx.out.cell (World.block_lt_of_cell? wa _ Y0.out)).trans Y0.out, (HBx.out.cell (World.block_lt_of_cell? wa _ Z0.out)).trans Z0.out⟩ (fun hHeld => ?_)
            generalize wr.drew = wx at HBx hHeld ⊢
            refine pure_ (i := 0) (N := some 52) (v := ?_) (a' := ?_) #[true, false, false, false, false, false, false, false, false, false, false, false, false, false, false, false] rfl rfl (by kernel_rfl) (fun _ _ _ h => h) (Or.inl ⟨by rfl, ?_⟩) ?_ ?_
            rotate_left
            · intro w'
              go_simp
              first | done | with_reducible rfl | rfl | (simp [Instr.field, go_sem]; rfl)
            rotate_left
            · simp only [Act.put, List.setIfInBounds_toArray, List.set_cons_zero, List.set_cons_succ, i64_w, i32_w]
              rfl
            refine pure_ (i := 1) (N := some 53) (v := ?_) (a' := ?_) #[true, true, false, false, false, false, false, false, false, false, false, false, false, false, false, false] rfl rfl (by kernel_rfl) (fun _ _ _ h => h) (Or.inl ⟨by rfl, ?_⟩) ?_ ?_
            rotate_left
            · intro w'
              go_simp
              first | done | with_reducible rfl | rfl | (simp [Instr.field, go_sem]; rfl)
            rotate_left
            · simp only [Act.put, List.setIfInBounds_toArray, List.set_cons_zero, List.set_cons_succ, i64_w, i32_w]
              rfl
            refine pure_ (i := 2) (N := some 54) (v := ?_) (a' := ?_) #[true, true, true, false, false, false, false, false, false, false, false, false, false, false, false, false] rfl rfl (by kernel_rfl) (fun _ _ _ h => h) (Or.inl ⟨by rfl, ?_⟩) ?_ ?_
            rotate_left
            · intro w'
              go_simp
              first | done | with_reducible rfl | rfl | (simp [Instr.field, go_sem]; rfl)
            rotate_left
            · simp only [Act.put, List.setIfInBounds_toArray, List.set_cons_zero, List.set_cons_succ, i64_w, i32_w]
              rfl
            refine pure_ (i := 3) (N := some 55) (v := ?_) (a' := ?_) #[true, true, true, true, false, false, false, false, false, false, false, false, false, false, false, false] rfl rfl (by kernel_rfl) (fun _ _ _ h => h) (Or.inl ⟨by rfl, ?_⟩) ?_ ?_
            rotate_left
            · intro w'
              go_simp
              first | done | with_reducible rfl | rfl | (simp [Instr.field, go_sem]; rfl)
            rotate_left
            · simp only [Act.put, List.setIfInBounds_toArray, List.set_cons_zero, List.set_cons_succ, i64_w, i32_w]
              rfl
            refine pure_ (i := 4) (N := some 56) (v := ?_) (a' := ?_) #[true, true, true, true, true, false, false, false, false, false, false, false, false, false, false, false] rfl rfl (by kernel_rfl) (fun _ _ _ h => h) (Or.inl ⟨by rfl, ?_⟩) ?_ ?_
            rotate_left
            · intro w'
              go_simp
              first | done | with_reducible rfl | rfl | (simp [Instr.field, go_sem]; rfl)
            rotate_left
            · simp only [Act.put, List.setIfInBounds_toArray, List.set_cons_zero, List.set_cons_succ, i64_w, i32_w]
              rfl
            refine pure_ (i := 5) (N := some 57) (v := ?_) (a' := ?_) #[true, true, true, true, true, true, false, false, false, false, false, false, false, false, false, false] rfl rfl (by kernel_rfl) (fun _ _ _ h => h) (Or.inl ⟨by rfl, ?_⟩) ?_ ?_
            rotate_left
            · intro w'
              go_simp
              first | done | with_reducible rfl | rfl | (simp [Instr.field, go_sem]; rfl)
            rotate_left
            · simp only [Act.put, List.setIfInBounds_toArray, List.set_cons_zero, List.set_cons_succ, i64_w, i32_w]
              rfl
            refine pure_ (i := 6) (N := some 58) (v := ?_) (a' := ?_) #[true, true, true, true, true, true, true, false, false, false, false, false, false, false, false, false] rfl rfl (by kernel_rfl) (fun _ _ _ h => h) (Or.inl ⟨by rfl, ?_⟩) ?_ ?_
            rotate_left
            · intro w'
              go_simp
              first | done | with_reducible rfl | rfl | (simp [Instr.field, go_sem]; rfl)
            rotate_left
            · simp only [Act.put, List.setIfInBounds_toArray, List.set_cons_zero, List.set_cons_succ, i64_w, i32_w]
              rfl
            refine pure_ (i := 8) (N := some 60) (v := ?_) (a' := ?_) #[true, true, true, true, true, true, true, false, true, false, false, false, false, false, false, false] rfl rfl (by kernel_rfl) (fun _ _ _ h => h) (Or.inl ⟨by rfl, ?_⟩) ?_ ?_
            rotate_left
            · intro w'
              go_simp
              first | done | with_reducible rfl | rfl | (simp [Instr.field, go_sem]; rfl)
            rotate_left
            · simp only [Act.put, List.setIfInBounds_toArray, List.set_cons_zero, List.set_cons_succ, i64_w, i32_w]
              rfl
            refine pure_ (i := 9) (N := some 61) (v := ?_) (a' := ?_) #[true, true, true, true, true, true, true, false, true, true, false, false, false, false, false, false] rfl rfl (by kernel_rfl) (fun _ _ _ h => h) (Or.inl ⟨by rfl, ?_⟩) ?_ ?_
            rotate_left
            · intro w'
              go_simp
              first | done | with_reducible rfl | rfl | (simp [Instr.field, go_sem]; rfl)
            rotate_left
            · simp only [Act.put, List.setIfInBounds_toArray, List.set_cons_zero, List.set_cons_succ, i64_w, i32_w]
              rfl
            refine pure_ (i := 10) (N := some 62) (v := ?_) (a' := ?_) #[true, true, true, true, true, true, true, false, true, true, true, false, false, false, false, false] rfl rfl (by kernel_rfl) (fun _ _ _ h => h) (Or.inl ⟨by rfl, ?_⟩) ?_ ?_
            rotate_left
            · intro w'
              go_simp
              first | done | with_reducible rfl | rfl | (simp [Instr.field, go_sem]; rfl)
            rotate_left
            · simp only [Act.put, List.setIfInBounds_toArray, List.set_cons_zero, List.set_cons_succ, i64_w, i32_w]
              rfl
            refine pure_ (i := 11) (N := some 63) (v := ?_) (a' := ?_) #[true, true, true, true, true, true, true, false, true, true, true, true, false, false, false, false] rfl rfl (by kernel_rfl) (fun _ _ _ h => h) (Or.inl ⟨by rfl, ?_⟩) ?_ ?_
            rotate_left
            · intro w'
              go_simp
              first | done | with_reducible rfl | rfl | (simp [Instr.field, go_sem]; rfl)
            rotate_left
            · simp only [Act.put, List.setIfInBounds_toArray, List.set_cons_zero, List.set_cons_succ, i64_w, i32_w]
              rfl
            refine pure_ (i := 12) (N := some 64) (v := ?_) (a' := ?_) #[true, true, true, true, true, true, true, false, true, true, true, true, true, false, false, false] rfl rfl (by kernel_rfl) (fun _ _ _ h => h) (Or.inl ⟨by rfl, ?_⟩) ?_ ?_
            rotate_left
            · intro w'
              go_simp
              first | done | with_reducible rfl | rfl | (simp [Instr.field, go_sem]; rfl)
            rotate_left
            · simp only [Act.put, List.setIfInBounds_toArray, List.set_cons_zero, List.set_cons_succ, i64_w, i32_w]
              rfl
            refine take_ (i := 7) (N := some 59) (v := ?_) (a' := ?_) #[true, true, true, true, true, true, true, true, true, true, true, true, true, false, false, false] rfl rfl (by kernel_rfl) (fun _ _ _ h => h) (Or.inl ⟨by rfl, ?_⟩) hHeld ?_ ?_
            rotate_left
            · rintro w' ⟨s0, s1⟩
              go_simp
              first | done | with_reducible rfl | rfl | (simp [Instr.field, go_sem]; rfl)
            rotate_left
            · simp only [Act.put, List.setIfInBounds_toArray, List.set_cons_zero, List.set_cons_succ, i64_w, i32_w]
              rfl
            refine take_ (i := 13) (N := some 65) (v := ?_) (a' := ?_) #[true, true, true, true, true, true, true, true, true, true, true, true, true, true, false, false] rfl rfl (by kernel_rfl) (fun _ _ _ h => h) (Or.inl ⟨by rfl, ?_⟩) hHeld ?_ ?_
            rotate_left
            · rintro w' ⟨s0, s1⟩
              go_simp
              first | done | with_reducible rfl | rfl | (simp [Instr.field, go_sem]; rfl)
            rotate_left
            · simp only [Act.put, List.setIfInBounds_toArray, List.set_cons_zero, List.set_cons_succ, i64_w, i32_w]
              rfl
            refine pure_ (i := 14) (N := some 66) (v := ?_) (a' := ?_) #[true, true, true, true, true, true, true, true, true, true, true, true, true, true, true, false] rfl rfl (by kernel_rfl) (fun _ _ _ h => h) (Or.inl ⟨by rfl, ?_⟩) ?_ ?_
            rotate_left
            · intro w'
              go_simp
              first | done | with_reducible rfl | rfl | (simp [Instr.field, go_sem]; rfl)
            rotate_left
            · simp only [Act.put, List.setIfInBounds_toArray, List.set_cons_zero, List.set_cons_succ, i64_w, i32_w]
              rfl
            refine pure_ (i := 15) (N := some 67) (v := ?_) (a' := ?_) #[true, true, true, true, true, true, true, true, true, true, true, true, true, true, true, true] rfl rfl (by kernel_rfl) (fun _ _ _ h => h) (Or.inl ⟨by rfl, ?_⟩) ?_ ?_
            rotate_left
            · intro w'
              go_simp
              first | done | with_reducible rfl | rfl | (simp [Instr.field, go_sem]; rfl)
            rotate_left
            · simp only [Act.put, List.setIfInBounds_toArray, List.set_cons_zero, List.set_cons_succ, i64_w, i32_w]
              rfl
            refine done_ (by kernel_rfl) ?_
            clear hHeld
            have HRx : Aside0 (RollB wx gr R1) := ⟨RollB.below (R := R1) HRa.out HBx.out⟩
            have hx0 := (HBx.out.cell (World.block_lt_of_cell? wa _ Y0.out)).trans Y0.out
            go_upto_region 18 with (first | (go_at_call 14; (with_reducible refine (get_is _ gr R1 p.f0 p true HG.out HV.out.inv.ok HRx.out).mono ?_); rintro e wg ⟨rfl, hb_⟩; have HBg := Aside0.mk (below_step HBx.out hb_); have hx0 := (HBg.out.cell (World.block_lt_of_cell? wa _ Y0.out)).trans Y0.out; have hx1 := (HBg.out.cell (World.block_lt_of_cell? wa _ Y1.out)).trans Y1.out; have hx2 := (HBg.out.cell (World.block_lt_of_cell? wa _ Y2.out)).trans Y2.out; clear hb_) | ((with_reducible refine gate_dst (N := 10) rfl ?_); refine box_event ?hg (N := 10) ?hd (cs := #[.int .i64 0, .int .u64 0, .int .i64 0]) (t := 31) ?hr ?_; (case hd => rfl); (case hg => rfl); (case hr => first | (go_simp; done) | (go_simp; rfl)); intro g10 hg_ wc hb_ hB_; have K10 := Aside0.mk hb_; have L10 := Aside0.mk (show wa.heap.size ≤ g10 from (by rw [hg_]; exact HBg.out.size)); have HBc := Aside0.mk (below_step HBg.out hB_); have z0 := (blk_cell K10.out 0).trans rfl; have z1 := (blk_cell K10.out 1).trans rfl; have z2 := (blk_cell K10.out 2).trans rfl; have zf := fun j => blk_frozen K10.out j; clear hg_ hb_ hB_))
            have Jc : Aside0 ((((wc.setCell ⟨g10, 0, none⟩ (.int .i64 p.f0)).setCell ⟨g10, 1, none⟩ (.int .u64 p.f1)).setCell ⟨g10, 2, none⟩ (.int .i64 p.f2)).heap[g10]? = some (.cells #[.int .i64 p.f0, .int .u64 p.f1, .int .i64 p.f2] 31 (0, 0))) := ⟨blk_put (cs := #[.int .i64 p.f0, .int .u64 p.f1, .int .i64 0]) (blk_put (cs := #[.int .i64 p.f0, .int .u64 0, .int .i64 0]) (blk_put (cs := #[.int .i64 0, .int .u64 0, .int .i64 0]) K10.out 0 _ rfl) 1 _ rfl) 2 _ rfl⟩
            have HBd : Aside0 (Below wa.heap.size wa (((wc.setCell ⟨g10, 0, none⟩ (.int .i64 p.f0)).setCell ⟨g10, 1, none⟩ (.int .u64 p.f1)).setCell ⟨g10, 2, none⟩ (.int .i64 p.f2))) := ⟨below_set (below_set (below_set HBc.out L10.out) L10.out) L10.out⟩
            clear z0 z1 z2 zf hx0 hx1 hx2 HBx HRx
            generalize ((wc.setCell ⟨g10, 0, none⟩ (.int .i64 p.f0)).setCell ⟨g10, 1, none⟩ (.int .u64 p.f1)).setCell ⟨g10, 2, none⟩ (.int .i64 p.f2) = wd at Jc HBd ⊢
            have Jx : Aside0 (wd.drew.heap[g10]? = some (.cells #[.int .i64 p.f0, .int .u64 p.f1, .int .i64 p.f2] 31 (0, 0))) := ⟨blk_drew Jc.out⟩
            have HBx := Aside0.mk (below_drew1 HBd.out)
            refine start_ (n := 10) (S := fun w' => w'.cell? ⟨g10, 0, none⟩ = some (.int .i64 p.f0) ∧ w'.cell? ⟨g10, 1, none⟩ = some (.int .u64 p.f1) ∧ w'.cell? ⟨g10, 2, none⟩ = some (.int .i64 p.f2) ∧ w'.cell? (ad.add (j * 3)) = some (.int .i64 p.f0) ∧ w'.cell? ⟨(ad.add (j * 3)).block, (ad.add (j * 3)).off + 1, none⟩ = some (.int .u64 p.f1) ∧ w'.cell? ⟨(ad.add (j * 3)).block, (ad.add (j * 3)).off + 2, none⟩ = some (.int .i64 p.f2)) (ds := []) #[false, false, false, false, false, false, false, false, false, false] (by kernel_rfl) rfl rfl ⟨(blk_cell Jx.out 0).trans rfl, (blk_cell Jx.out 1).trans rfl, (blk_cell Jx.out 2).trans rfl, (HBx.out.cell (World.block_lt_of_cell? wa _ Y0.out)).trans Y0.out, (HBx.out.cell (World.block_lt_of_cell? wa _ Y1.out)).trans Y1.out, (HBx.out.cell (World.block_lt_of_cell? wa _ Y2.out)).trans Y2.out⟩ (fun hHeld => ?_)
            generalize wd.drew = wx at Jx HBx hHeld ⊢
            refine pure_ (i := 0) (N := some 78) (v := ?_) (a' := ?_) #[true, false, false, false, false, false, false, false, false, false] rfl rfl (by kernel_rfl) (fun _ _ _ h => h) (Or.inl ⟨by rfl, ?_⟩) ?_ ?_
            rotate_left
            · intro w'
              go_simp
              first | done | with_reducible rfl | rfl | (simp [Instr.field, go_sem]; rfl)
            rotate_left
            · simp only [Act.put, List.setIfInBounds_toArray, List.set_cons_zero, List.set_cons_succ, i64_w, i32_w]
              rfl
            refine pure_ (i := 1) (N := some 79) (v := ?_) (a' := ?_) #[true, true, false, false, false, false, false, false, false, false] rfl rfl (by kernel_rfl) (fun _ _ _ h => h) (Or.inl ⟨by rfl, ?_⟩) ?_ ?_
            rotate_left
            · intro w'
              go_simp
              first | done | with_reducible rfl | rfl | (simp [Instr.field, go_sem]; rfl)
            rotate_left
            · simp only [Act.put, List.setIfInBounds_toArray, List.set_cons_zero, List.set_cons_succ, i64_w, i32_w]
              rfl
            refine pure_ (i := 2) (N := some 80) (v := ?_) (a' := ?_) #[true, true, true, false, false, false, false, false, false, false] rfl rfl (by kernel_rfl) (fun _ _ _ h => h) (Or.inl ⟨by rfl, ?_⟩) ?_ ?_
            rotate_left
            · intro w'
              go_simp
              first | done | with_reducible rfl | rfl | (simp [Instr.field, go_sem]; rfl)
            rotate_left
            · simp only [Act.put, List.setIfInBounds_toArray, List.set_cons_zero, List.set_cons_succ, i64_w, i32_w]
              rfl
            refine pure_ (i := 4) (N := some 82) (v := ?_) (a' := ?_) #[true, true, true, false, true, false, false, false, false, false] rfl rfl (by kernel_rfl) (fun _ _ _ h => h) (Or.inl ⟨by rfl, ?_⟩) ?_ ?_
            rotate_left
            · intro w'
              go_simp
              first | done | with_reducible rfl | rfl | (simp [Instr.field, go_sem]; rfl)
            rotate_left
            · simp only [Act.put, List.setIfInBounds_toArray, List.set_cons_zero, List.set_cons_succ, i64_w, i32_w]
              rfl
            refine pure_ (i := 5) (N := some 83) (v := ?_) (a' := ?_) #[true, true, true, false, true, true, false, false, false, false] rfl rfl (by kernel_rfl) (fun _ _ _ h => h) (Or.inl ⟨by rfl, ?_⟩) ?_ ?_
            rotate_left
            · intro w'
              go_simp
              first | done | with_reducible rfl | rfl | (simp [Instr.field, go_sem]; rfl)
            rotate_left
            · simp only [Act.put, List.setIfInBounds_toArray, List.set_cons_zero, List.set_cons_succ, i64_w, i32_w]
              rfl
            refine pure_ (i := 6) (N := some 84) (v := ?_) (a' := ?_) #[true, true, true, false, true, true, true, false, false, false] rfl rfl (by kernel_rfl) (fun _ _ _ h => h) (Or.inl ⟨by rfl, ?_⟩) ?_ ?_
            rotate_left
            · intro w'
              go_simp
              first | done | with_reducible rfl | rfl | (simp [Instr.field, go_sem]; rfl)
            rotate_left
            · simp only [Act.put, List.setIfInBounds_toArray, List.set_cons_zero, List.set_cons_succ, i64_w, i32_w]
              rfl
            refine take_ (i := 3) (N := some 81) (v := ?_) (a' := ?_) #[true, true, true, true, true, true, true, false, false, false] rfl rfl (by kernel_rfl) (fun _ _ _ h => h) (Or.inl ⟨by rfl, ?_⟩) hHeld ?_ ?_
            rotate_left
            · rintro w' ⟨s0, s1, s2, s3, s4, s5⟩
              go_simp
              first | done | with_reducible rfl | rfl | (simp [Instr.field, go_sem]; rfl)
            rotate_left
            · simp only [Act.put, List.setIfInBounds_toArray, List.set_cons_zero, List.set_cons_succ, i64_w, i32_w]
              rfl
            refine take_ (i := 7) (N := some 85) (v := ?_) (a' := ?_) #[true, true, true, true, true, true, true, true, false, false] rfl rfl (by kernel_rfl) (fun _ _ _ h => h) (Or.inl ⟨by rfl, ?_⟩) hHeld ?_ ?_
            rotate_left
            · rintro w' ⟨s0, s1, s2, s3, s4, s5⟩
              go_simp
              first | done | with_reducible rfl | rfl | (simp [Instr.field, go_sem]; rfl)
            rotate_left
            · simp only [Act.put, List.setIfInBounds_toArray, List.set_cons_zero, List.set_cons_succ, i64_w, i32_w]
              rfl
            refine pure_ (i := 8) (N := some 86) (v := ?_) (a' := ?_) #[true, true, true, true, true, true, true, true, true, false] rfl rfl (by kernel_rfl) (fun _ _ _ h => h) (Or.inl ⟨by rfl, ?_⟩) ?_ ?_
            rotate_left
            · intro w'
              go_simp
              first | done | with_reducible rfl | rfl | (simp [Instr.field, go_sem]; rfl)
            rotate_left
            · simp only [Act.put, List.setIfInBounds_toArray, List.set_cons_zero, List.set_cons_succ, i64_w, i32_w]
              rfl
            refine pure_ (i := 9) (N := some 87) (v := ?_) (a' := ?_) #[true, true, true, true, true, true, true, true, true, true] rfl rfl (by kernel_rfl) (fun _ _ _ h => h) (Or.inl ⟨by rfl, ?_⟩) ?_ ?_
            rotate_left
            · intro w'
              go_simp
              first | done | with_reducible rfl | rfl | (simp [Instr.field, go_sem]; rfl)
            rotate_left
            · simp only [Act.put, List.setIfInBounds_toArray, List.set_cons_zero, List.set_cons_succ, i64_w, i32_w]
              rfl
            refine done_ (by kernel_rfl) ?_
            clear hHeld
            go_wp2
            go_roundw
            case rel => exact ⟨j + 1, by go_num, by rw [HT.out, HOR.out], ⟨hlt⟩, HBx⟩
            case measure => simp [intOf]; omega
        · have hj0 : j = 0 := by omega
          cases hlv : isLive p
          · rw [hlv] at HT
            rw [if_neg (by decide)] at HT
            have HLV := Aside0.mk hlv
            clear hlv
            have hd : decide (p.f2 < 2) = false := by
              have h1 := HLV.out
              have h2 := HP2.out
              rw [← h1]
              unfold isLive
              rw [decide_eq_decide]
              omega
            have hgt : decide ((0 : Int) < (j : Int)) = false := decide_eq_false (by omega)
            have hgt2 : decide (0 < j) = false := decide_eq_false (by omega)
            clear hpos hj0
            go_upto_region 15 with (fail)
            clear hx0 hx1 hx2
            have HBx := Aside0.mk (below_drew1 HB.out)
            refine start_ (n := 16) (S := fun w' => w'.cell? (ad.add (j * 3)) = some (.int .i64 p.f0)) (ds := []) #[false, false, false, false, false, false, false, false, false, false, false, false, false, false, false, false] (by kernel_rfl) rfl rfl ((HBx.out.cell (World.block_lt_of_cell? wa _ Y0.out)).trans Y0.out) (fun hHeld => ?_)
            generalize wr.drew = wx at HBx hHeld ⊢
            refine pure_ (i := 0) (N := some 52) (v := ?_) (a' := ?_) #[true, false, false, false, false, false, false, false, false, false, false, false, false, false, false, false] rfl rfl (by kernel_rfl) (fun _ _ _ h => h) (Or.inl ⟨by rfl, ?_⟩) ?_ ?_
            rotate_left
            · intro w'
              go_simp
              first | done | with_reducible rfl | rfl | (simp [Instr.field, go_sem]; rfl)
            rotate_left
            · simp only [Act.put, List.setIfInBounds_toArray, List.set_cons_zero, List.set_cons_succ, i64_w, i32_w]
              rfl
            refine pure_ (i := 1) (N := some 53) (v := ?_) (a' := ?_) #[true, true, false, false, false, false, false, false, false, false, false, false, false, false, false, false] rfl rfl (by kernel_rfl) (fun _ _ _ h => h) (Or.inl ⟨by rfl, ?_⟩) ?_ ?_
            rotate_left
            · intro w'
              go_simp
              first | done | with_reducible rfl | rfl | (simp [Instr.field, go_sem]; rfl)
            rotate_left
            · simp only [Act.put, List.setIfInBounds_toArray, List.set_cons_zero, List.set_cons_succ, i64_w, i32_w]
              rfl
            refine pure_ (i := 2) (N := some 54) (v := ?_) (a' := ?_) #[true, true, true, false, false, false, false, false, false, false, false, false, false, false, false, false] rfl rfl (by kernel_rfl) (fun _ _ _ h => h) (Or.inl ⟨by rfl, ?_⟩) ?_ ?_
            rotate_left
            · intro w'
              go_simp
              first | done | with_reducible rfl | rfl | (simp [Instr.field, go_sem]; rfl)
            rotate_left
            · simp only [Act.put, List.setIfInBounds_toArray, List.set_cons_zero, List.set_cons_succ, i64_w, i32_w]
              rfl
            refine pure_ (i := 3) (N := some 55) (v := undef) (a' := ?_) #[true, true, true, true, false, false, false, false, false, false, false, false, false, false, false, false] rfl rfl (by kernel_rfl) (fun _ _ _ h => h) (Or.inr ⟨by rfl, rfl⟩) ?_ ?_
            rotate_left
            · simp only [Act.put, List.setIfInBounds_toArray, List.set_cons_zero, List.set_cons_succ, i64_w, i32_w]
              rfl
            refine pure_ (i := 4) (N := some 56) (v := undef) (a' := ?_) #[true, true, true, true, true, false, false, false, false, false, false, false, false, false, false, false] rfl rfl (by kernel_rfl) (fun _ _ _ h => h) (Or.inr ⟨by rfl, rfl⟩) ?_ ?_
            rotate_left
            · simp only [Act.put, List.setIfInBounds_toArray, List.set_cons_zero, List.set_cons_succ, i64_w, i32_w]
              rfl
            refine pure_ (i := 5) (N := some 57) (v := undef) (a' := ?_) #[true, true, true, true, true, true, false, false, false, false, false, false, false, false, false, false] rfl rfl (by kernel_rfl) (fun _ _ _ h => h) (Or.inr ⟨by rfl, rfl⟩) ?_ ?_
            rotate_left
            · simp only [Act.put, List.setIfInBounds_toArray, List.set_cons_zero, List.set_cons_succ, i64_w, i32_w]
              rfl
            refine pure_ (i := 6) (N := some 58) (v := undef) (a' := ?_) #[true, true, true, true, true, true, true, false, false, false, false, false, false, false, false, false] rfl rfl (by kernel_rfl) (fun _ _ _ h => h) (Or.inr ⟨by rfl, rfl⟩) ?_ ?_
            rotate_left
            · simp only [Act.put, List.setIfInBounds_toArray, List.set_cons_zero, List.set_cons_succ, i64_w, i32_w]
              rfl
            refine pure_ (i := 7) (N := some 59) (v := undef) (a' := ?_) #[true, true, true, true, true, true, true, true, false, false, false, false, false, false, false, false] rfl rfl (by kernel_rfl) (fun _ _ _ h => h) (Or.inr ⟨by rfl, rfl⟩) ?_ ?_
            rotate_left
            · simp only [Act.put, List.setIfInBounds_toArray, List.set_cons_zero, List.set_cons_succ, i64_w, i32_w]
              rfl
            refine pure_ (i := 8) (N := some 60) (v := undef) (a' := ?_) #[true, true, true, true, true, true, true, true, true, false, false, false, false, false, false, false] rfl rfl (by kernel_rfl) (fun _ _ _ h => h) (Or.inr ⟨by rfl, rfl⟩) ?_ ?_
            rotate_left
            · simp only [Act.put, List.setIfInBounds_toArray, List.set_cons_zero, List.set_cons_succ, i64_w, i32_w]
              rfl
            refine pure_ (i := 9) (N := some 61) (v := undef) (a' := ?_) #[true, true, true, true, true, true, true, true, true, true, false, false, false, false, false, false] rfl rfl (by kernel_rfl) (fun _ _ _ h => h) (Or.inr ⟨by rfl, rfl⟩) ?_ ?_
            rotate_left
            · simp only [Act.put, List.setIfInBounds_toArray, List.set_cons_zero, List.set_cons_succ, i64_w, i32_w]
              rfl
            refine pure_ (i := 10) (N := some 62) (v := undef) (a' := ?_) #[true, true, true, true, true, true, true, true, true, true, true, false, false, false, false, false] rfl rfl (by kernel_rfl) (fun _ _ _ h => h) (Or.inr ⟨by rfl, rfl⟩) ?_ ?_
            rotate_left
            · simp only [Act.put, List.setIfInBounds_toArray, List.set_cons_zero, List.set_cons_succ, i64_w, i32_w]
              rfl
            refine pure_ (i := 11) (N := some 63) (v := undef) (a' := ?_) #[true, true, true, true, true, true, true, true, true, true, true, true, false, false, false, false] rfl rfl (by kernel_rfl) (fun _ _ _ h => h) (Or.inr ⟨by rfl, rfl⟩) ?_ ?_
            rotate_left
            · simp only [Act.put, List.setIfInBounds_toArray, List.set_cons_zero, List.set_cons_succ, i64_w, i32_w]
              rfl
            refine pure_ (i := 12) (N := some 64) (v := undef) (a' := ?_) #[true, true, true, true, true, true, true, true, true, true, true, true, true, false, false, false] rfl rfl (by kernel_rfl) (fun _ _ _ h => h) (Or.inr ⟨by rfl, rfl⟩) ?_ ?_
            rotate_left
            · simp only [Act.put, List.setIfInBounds_toArray, List.set_cons_zero, List.set_cons_succ, i64_w, i32_w]
              rfl
            refine pure_ (i := 13) (N := some 65) (v := undef) (a' := ?_) #[true, true, true, true, true, true, true, true, true, true, true, true, true, true, false, false] rfl rfl (by kernel_rfl) (fun _ _ _ h => h) (Or.inr ⟨by rfl, rfl⟩) ?_ ?_
            rotate_left
            · simp only [Act.put, List.setIfInBounds_toArray, List.set_cons_zero, List.set_cons_succ, i64_w, i32_w]
              rfl
            refine pure_ (i := 14) (N := some 66) (v := undef) (a' := ?_) #[true, true, true, true, true, true, true, true, true, true, true, true, true, true, true, false] rfl rfl (by kernel_rfl) (fun _ _ _ h => h) (Or.inr ⟨by rfl, rfl⟩) ?_ ?_
            rotate_left
            · simp only [Act.put, List.setIfInBounds_toArray, List.set_cons_zero, List.set_cons_succ, i64_w, i32_w]
              rfl
            refine pure_ (i := 15) (N := some 67) (v := ?_) (a' := ?_) #[true, true, true, true, true, true, true, true, true, true, true, true, true, true, true, true] rfl rfl (by kernel_rfl) (fun _ _ _ h => h) (Or.inl ⟨by rfl, ?_⟩) ?_ ?_
            rotate_left
            · intro w'
              go_simp
              first | done | with_reducible rfl | rfl | (simp [Instr.field, go_sem]; rfl)
            rotate_left
            · simp only [Act.put, List.setIfInBounds_toArray, List.set_cons_zero, List.set_cons_succ, i64_w, i32_w]
              rfl
            refine done_ (by kernel_rfl) ?_
            clear hHeld
            have HRx : Aside0 (RollB wx gr R1) := ⟨RollB.below (R := R1) HRa.out HBx.out⟩
            have hx0 := (HBx.out.cell (World.block_lt_of_cell? wa _ Y0.out)).trans Y0.out
            go_upto_region 18 with (first | (go_at_call 14; (with_reducible refine (get_is _ gr R1 p.f0 p true HG.out HV.out.inv.ok HRx.out).mono ?_); rintro e wg ⟨rfl, hb_⟩; have HBg := Aside0.mk (below_step HBx.out hb_); have hx0 := (HBg.out.cell (World.block_lt_of_cell? wa _ Y0.out)).trans Y0.out; have hx1 := (HBg.out.cell (World.block_lt_of_cell? wa _ Y1.out)).trans Y1.out; have hx2 := (HBg.out.cell (World.block_lt_of_cell? wa _ Y2.out)).trans Y2.out; clear hb_) | ((with_reducible refine gate_dst (N := 10) rfl ?_); refine box_event ?hg (N := 10) ?hd (cs := #[.int .i64 0, .int .u64 0, .int .i64 0]) (t := 31) ?hr ?_; (case hd => rfl); (case hg => rfl); (case hr => first | (go_simp; done) | (go_simp; rfl)); intro g10 hg_ wc hb_ hB_; have K10 := Aside0.mk hb_; have L10 := Aside0.mk (show wa.heap.size ≤ g10 from (by rw [hg_]; exact HBg.out.size)); have HBc := Aside0.mk (below_step HBg.out hB_); have z0 := (blk_cell K10.out 0).trans rfl; have z1 := (blk_cell K10.out 1).trans rfl; have z2 := (blk_cell K10.out 2).trans rfl; have zf := fun j => blk_frozen K10.out j; clear hg_ hb_ hB_))
            have Jc : Aside0 ((((wc.setCell ⟨g10, 0, none⟩ (.int .i64 p.f0)).setCell ⟨g10, 1, none⟩ (.int .u64 p.f1)).setCell ⟨g10, 2, none⟩ (.int .i64 p.f2)).heap[g10]? = some (.cells #[.int .i64 p.f0, .int .u64 p.f1, .int .i64 p.f2] 31 (0, 0))) := ⟨blk_put (cs := #[.int .i64 p.f0, .int .u64 p.f1, .int .i64 0]) (blk_put (cs := #[.int .i64 p.f0, .int .u64 0, .int .i64 0]) (blk_put (cs := #[.int .i64 0, .int .u64 0, .int .i64 0]) K10.out 0 _ rfl) 1 _ rfl) 2 _ rfl⟩
            have HBd : Aside0 (Below wa.heap.size wa (((wc.setCell ⟨g10, 0, none⟩ (.int .i64 p.f0)).setCell ⟨g10, 1, none⟩ (.int .u64 p.f1)).setCell ⟨g10, 2, none⟩ (.int .i64 p.f2))) := ⟨below_set (below_set (below_set HBc.out L10.out) L10.out) L10.out⟩
            clear z0 z1 z2 zf hx0 hx1 hx2 HBx HRx
            generalize ((wc.setCell ⟨g10, 0, none⟩ (.int .i64 p.f0)).setCell ⟨g10, 1, none⟩ (.int .u64 p.f1)).setCell ⟨g10, 2, none⟩ (.int .i64 p.f2) = wd at Jc HBd ⊢
            have Jx : Aside0 (wd.drew.heap[g10]? = some (.cells #[.int .i64 p.f0, .int .u64 p.f1, .int .i64 p.f2] 31 (0, 0))) := ⟨blk_drew Jc.out⟩
            have HBx := Aside0.mk (below_drew1 HBd.out)
            refine start_ (n := 10) (S := fun w' => w'.cell? ⟨g10, 0, none⟩ = some (.int .i64 p.f0) ∧ w'.cell? ⟨g10, 1, none⟩ = some (.int .u64 p.f1) ∧ w'.cell? ⟨g10, 2, none⟩ = some (.int .i64 p.f2) ∧ w'.cell? (ad.add (j * 3)) = some (.int .i64 p.f0) ∧ w'.cell? ⟨(ad.add (j * 3)).block, (ad.add (j * 3)).off + 1, none⟩ = some (.int .u64 p.f1) ∧ w'.cell? ⟨(ad.add (j * 3)).block, (ad.add (j * 3)).off + 2, none⟩ = some (.int .i64 p.f2)) (ds := []) #[false, false, false, false, false, false, false, false, false, false] (by kernel_rfl) rfl rfl ⟨(blk_cell Jx.out 0).trans rfl, (blk_cell Jx.out 1).trans rfl, (blk_cell Jx.out 2).trans rfl, (HBx.out.cell (World.block_lt_of_cell? wa _ Y0.out)).trans Y0.out, (HBx.out.cell (World.block_lt_of_cell? wa _ Y1.out)).trans Y1.out, (HBx.out.cell (World.block_lt_of_cell? wa _ Y2.out)).trans Y2.out⟩ (fun hHeld => ?_)
            generalize wd.drew = wx at Jx HBx hHeld ⊢
            refine pure_ (i := 0) (N := some 78) (v := ?_) (a' := ?_) #[true, false, false, false, false, false, false, false, false, false] rfl rfl (by kernel_rfl) (fun _ _ _ h => h) (Or.inl ⟨by rfl, ?_⟩) ?_ ?_
            rotate_left
            · intro w'
              go_simp
              first | done | with_reducible rfl | rfl | (simp [Instr.field, go_sem]; rfl)
            rotate_left
            · simp only [Act.put, List.setIfInBounds_toArray, List.set_cons_zero, List.set_cons_succ, i64_w, i32_w]
              rfl
            refine pure_ (i := 1) (N := some 79) (v := ?_) (a' := ?_) #[true, true, false, false, false, false, false, false, false, false] rfl rfl (by kernel_rfl) (fun _ _ _ h => h) (Or.inl ⟨by rfl, ?_⟩) ?_ ?_
            rotate_left
            · intro w'
              go_simp
              first | done | with_reducible rfl | rfl | (simp [Instr.field, go_sem]; rfl)
            rotate_left
            · simp only [Act.put, List.setIfInBounds_toArray, List.set_cons_zero, List.set_cons_succ, i64_w, i32_w]
              rfl
            refine pure_ (i := 2) (N := some 80) (v := ?_) (a' := ?_) #[true, true, true, false, false, false, false, false, false, false] rfl rfl (by kernel_rfl) (fun _ _ _ h => h) (Or.inl ⟨by rfl, ?_⟩) ?_ ?_
            rotate_left
            · intro w'
              go_simp
              first | done | with_reducible rfl | rfl | (simp [Instr.field, go_sem]; rfl)
            rotate_left
            · simp only [Act.put, List.setIfInBounds_toArray, List.set_cons_zero, List.set_cons_succ, i64_w, i32_w]
              rfl
            refine pure_ (i := 4) (N := some 82) (v := ?_) (a' := ?_) #[true, true, true, false, true, false, false, false, false, false] rfl rfl (by kernel_rfl) (fun _ _ _ h => h) (Or.inl ⟨by rfl, ?_⟩) ?_ ?_
            rotate_left
            · intro w'
              go_simp
              first | done | with_reducible rfl | rfl | (simp [Instr.field, go_sem]; rfl)
            rotate_left
            · simp only [Act.put, List.setIfInBounds_toArray, List.set_cons_zero, List.set_cons_succ, i64_w, i32_w]
              rfl
            refine pure_ (i := 5) (N := some 83) (v := ?_) (a' := ?_) #[true, true, true, false, true, true, false, false, false, false] rfl rfl (by kernel_rfl) (fun _ _ _ h => h) (Or.inl ⟨by rfl, ?_⟩) ?_ ?_
            rotate_left
            · intro w'
              go_simp
              first | done | with_reducible rfl | rfl | (simp [Instr.field, go_sem]; rfl)
            rotate_left
            · simp only [Act.put, List.setIfInBounds_toArray, List.set_cons_zero, List.set_cons_succ, i64_w, i32_w]
              rfl
            refine pure_ (i := 6) (N := some 84) (v := ?_) (a' := ?_) #[true, true, true, false, true, true, true, false, false, false] rfl rfl (by kernel_rfl) (fun _ _ _ h => h) (Or.inl ⟨by rfl, ?_⟩) ?_ ?_
            rotate_left
            · intro w'
              go_simp
              first | done | with_reducible rfl | rfl | (simp [Instr.field, go_sem]; rfl)
            rotate_left
            · simp only [Act.put, List.setIfInBounds_toArray, List.set_cons_zero, List.set_cons_succ, i64_w, i32_w]
              rfl
            refine take_ (i := 3) (N := some 81) (v := ?_) (a' := ?_) #[true, true, true, true, true, true, true, false, false, false] rfl rfl (by kernel_rfl) (fun _ _ _ h => h) (Or.inl ⟨by rfl, ?_⟩) hHeld ?_ ?_
            rotate_left
            · rintro w' ⟨s0, s1, s2, s3, s4, s5⟩
              go_simp
              first | done | with_reducible rfl | rfl | (simp [Instr.field, go_sem]; rfl)
            rotate_left
            · simp only [Act.put, List.setIfInBounds_toArray, List.set_cons_zero, List.set_cons_succ, i64_w, i32_w]
              rfl
            refine take_ (i := 7) (N := some 85) (v := ?_) (a' := ?_) #[true, true, true, true, true, true, true, true, false, false] rfl rfl (by kernel_rfl) (fun _ _ _ h => h) (Or.inl ⟨by rfl, ?_⟩) hHeld ?_ ?_
            rotate_left
            · rintro w' ⟨s0, s1, s2, s3, s4, s5⟩
              go_simp
              first | done | with_reducible rfl | rfl | (simp [Instr.field, go_sem]; rfl)
            rotate_left
            · simp only [Act.put, List.setIfInBounds_toArray, List.set_cons_zero, List.set_cons_succ, i64_w, i32_w]
              rfl
            refine pure_ (i := 8) (N := some 86) (v := ?_) (a' := ?_) #[true, true, true, true, true, true, true, true, true, false] rfl rfl (by kernel_rfl) (fun _ _ _ h => h) (Or.inl ⟨by rfl, ?_⟩) ?_ ?_
            rotate_left
            · intro w'
              go_simp
              first | done | with_reducible rfl | rfl | (simp [Instr.field, go_sem]; rfl)
            rotate_left
            · simp only [Act.put, List.setIfInBounds_toArray, List.set_cons_zero, List.set_cons_succ, i64_w, i32_w]
              rfl
            refine pure_ (i := 9) (N := some 87) (v := ?_) (a' := ?_) #[true, true, true, true, true, true, true, true, true, true] rfl rfl (by kernel_rfl) (fun _ _ _ h => h) (Or.inl ⟨by rfl, ?_⟩) ?_ ?_
            rotate_left
            · intro w'
              go_simp
              first | done | with_reducible rfl | rfl | (simp [Instr.field, go_sem]; rfl)
            rotate_left
            · simp only [Act.put, List.setIfInBounds_toArray, List.set_cons_zero, List.set_cons_succ, i64_w, i32_w]
              rfl
            refine done_ (by kernel_rfl) ?_
            clear hHeld
            go_wp2
            go_roundw
            case rel => exact ⟨j + 1, by go_num, by rw [HT.out], ⟨hlt⟩, HBx⟩
            case measure => simp [intOf]; omega
          · rw [hlv] at HT
            rw [if_pos rfl] at HT
            have HLV := Aside0.mk hlv
            clear hlv
            have hd : decide (p.f2 < 2) = true := by
              have h1 := HLV.out
              have h2 := HP2.out
              rw [← h1]
              unfold isLive
              rw [decide_eq_decide]
              omega
            have hgt : decide ((0 : Int) < (j : Int)) = false := decide_eq_false (by omega)
            have hgt2 : decide (0 < j) = false := decide_eq_false (by omega)
            clear hpos hj0
            go_upto_region 15 with (fail)
            clear hx0 hx1 hx2
            have HBx := Aside0.mk (below_drew1 HB.out)
            refine start_ (n := 16) (S := fun w' => w'.cell? (ad.add (j * 3)) = some (.int .i64 p.f0)) (ds := []) #[false, false, false, false, false, false, false, false, false, false, false, false, false, false, false, false] (by kernel_rfl) rfl rfl ((HBx.out.cell (World.block_lt_of_cell? wa _ Y0.out)).trans Y0.out) (fun hHeld => ?_)
            generalize wr.drew = wx at HBx hHeld ⊢
            refine pure_ (i := 0) (N := some 52) (v := ?_) (a' := ?_) #[true, false, false, false, false, false, false, false, false, false, false, false, false, false, false, false] rfl rfl (by kernel_rfl) (fun _ _ _ h => h) (Or.inl ⟨by rfl, ?_⟩) ?_ ?_
            rotate_left
            · intro w'
              go_simp
              first | done | with_reducible rfl | rfl | (simp [Instr.field, go_sem]; rfl)
            rotate_left
            · simp only [Act.put, List.setIfInBounds_toArray, List.set_cons_zero, List.set_cons_succ, i64_w, i32_w]
              rfl
            refine pure_ (i := 1) (N := some 53) (v := ?_) (a' := ?_) #[true, true, false, false, false, false, false, false, false, false, false, false, false, false, false, false] rfl rfl (by kernel_rfl) (fun _ _ _ h => h) (Or.inl ⟨by rfl, ?_⟩) ?_ ?_
            rotate_left
            · intro w'
              go_simp
              first | done | with_reducible rfl | rfl | (simp [Instr.field, go_sem]; rfl)
            rotate_left
            · simp only [Act.put, List.setIfInBounds_toArray, List.set_cons_zero, List.set_cons_succ, i64_w, i32_w]
              rfl
            refine pure_ (i := 2) (N := some 54) (v := ?_) (a' := ?_) #[true, true, true, false, false, false, false, false, false, false, false, false, false, false, false, false] rfl rfl (by kernel_rfl) (fun _ _ _ h => h) (Or.inl ⟨by rfl, ?_⟩) ?_ ?_
            rotate_left
            · intro w'
              go_simp
              first | done | with_reducible rfl | rfl | (simp [Instr.field, go_sem]; rfl)
            rotate_left
            · simp only [Act.put, List.setIfInBounds_toArray, List.set_cons_zero, List.set_cons_succ, i64_w, i32_w]
              rfl
            refine pure_ (i := 3) (N := some 55) (v := undef) (a' := ?_) #[true, true, true, true, false, false, false, false, false, false, false, false, false, false, false, false] rfl rfl (by kernel_rfl) (fun _ _ _ h => h) (Or.inr ⟨by rfl, rfl⟩) ?_ ?_
            rotate_left
            · simp only [Act.put, List.setIfInBounds_toArray, List.set_cons_zero, List.set_cons_succ, i64_w, i32_w]
              rfl
            refine pure_ (i := 4) (N := some 56) (v := undef) (a' := ?_) #[true, true, true, true, true, false, false, false, false, false, false, false, false, false, false, false] rfl rfl (by kernel_rfl) (fun _ _ _ h => h) (Or.inr ⟨by rfl, rfl⟩) ?_ ?_
            rotate_left
            · simp only [Act.put, List.setIfInBounds_toArray, List.set_cons_zero, List.set_cons_succ, i64_w, i32_w]
              rfl
            refine pure_ (i := 5) (N := some 57) (v := undef) (a' := ?_) #[true, true, true, true, true, true, false, false, false, false, false, false, false, false, false, false] rfl rfl (by kernel_rfl) (fun _ _ _ h => h) (Or.inr ⟨by rfl, rfl⟩) ?_ ?_
            rotate_left
            · simp only [Act.put, List.setIfInBounds_toArray, List.set_cons_zero, List.set_cons_succ, i64_w, i32_w]
              rfl
            refine pure_ (i := 6) (N := some 58) (v := undef) (a' := ?_) #[true, true, true, true, true, true, true, false, false, false, false, false, false, false, false, false] rfl rfl (by kernel_rfl) (fun _ _ _ h => h) (Or.inr ⟨by rfl, rfl⟩) ?_ ?_
            rotate_left
            · simp only [Act.put, List.setIfInBounds_toArray, List.set_cons_zero, List.set_cons_succ, i64_w, i32_w]
              rfl
            refine pure_ (i := 7) (N := some 59) (v := undef) (a' := ?_) #[true, true, true, true, true, true, true, true, false, false, false, false, false, false, false, false] rfl rfl (by kernel_rfl) (fun _ _ _ h => h) (Or.inr ⟨by rfl, rfl⟩) ?_ ?_
            rotate_left
            · simp only [Act.put, List.setIfInBounds_toArray, List.set_cons_zero, List.set_cons_succ, i64_w, i32_w]
              rfl
            refine pure_ (i := 8) (N := some 60) (v := undef) (a' := ?_) #[true, true, true, true, true, true, true, true, true, false, false, false, false, false, false, false] rfl rfl (by kernel_rfl) (fun _ _ _ h => h) (Or.inr ⟨by rfl, rfl⟩) ?_ ?_
            rotate_left
            · simp only [Act.put, List.setIfInBounds_toArray, List.set_cons_zero, List.set_cons_succ, i64_w, i32_w]
              rfl
            refine pure_ (i := 9) (N := some 61) (v := undef) (a' := ?_) #[true, true, true, true, true, true, true, true, true, true, false, false, false, false, false, false] rfl rfl (by kernel_rfl) (fun _ _ _ h => h) (Or.inr ⟨by rfl, rfl⟩) ?_ ?_
            rotate_left
            · simp only [Act.put, List.setIfInBounds_toArray, List.set_cons_zero, List.set_cons_succ, i64_w, i32_w]
              rfl
            refine pure_ (i := 10) (N := some 62) (v := undef) (a' := ?_) #[true, true, true, true, true, true, true, true, true, true, true, false, false, false, false, false] rfl rfl (by kernel_rfl) (fun _ _ _ h => h) (Or.inr ⟨by rfl, rfl⟩) ?_ ?_
            rotate_left
            · simp only [Act.put, List.setIfInBounds_toArray, List.set_cons_zero, List.set_cons_succ, i64_w, i32_w]
              rfl
            refine pure_ (i := 11) (N := some 63) (v := undef) (a' := ?_) #[true, true, true, true, true, true, true, true, true, true, true, true, false, false, false, false] rfl rfl (by kernel_rfl) (fun _ _ _ h => h) (Or.inr ⟨by rfl, rfl⟩) ?_ ?_
            rotate_left
            · simp only [Act.put, List.setIfInBounds_toArray, List.set_cons_zero, List.set_cons_succ, i64_w, i32_w]
              rfl
            refine pure_ (i := 12) (N := some 64) (v := undef) (a' := ?_) #[true, true, true, true, true, true, true, true, true, true, true, true, true, false, false, false] rfl rfl (by kernel_rfl) (fun _ _ _ h => h) (Or.inr ⟨by rfl, rfl⟩) ?_ ?_
            rotate_left
            · simp only [Act.put, List.setIfInBounds_toArray, List.set_cons_zero, List.set_cons_succ, i64_w, i32_w]
              rfl
            refine pure_ (i := 13) (N := some 65) (v := undef) (a' := ?_) #[true, true, true, true, true, true, true, true, true, true, true, true, true, true, false, false] rfl rfl (by kernel_rfl) (fun _ _ _ h => h) (Or.inr ⟨by rfl, rfl⟩) ?_ ?_
            rotate_left
            · simp only [Act.put, List.setIfInBounds_toArray, List.set_cons_zero, List.set_cons_succ, i64_w, i32_w]
              rfl
            refine pure_ (i := 14) (N := some 66) (v := undef) (a' := ?_) #[true, true, true, true, true, true, true, true, true, true, true, true, true, true, true, false] rfl rfl (by kernel_rfl) (fun _ _ _ h => h) (Or.inr ⟨by rfl, rfl⟩) ?_ ?_
            rotate_left
            · simp only [Act.put, List.setIfInBounds_toArray, List.set_cons_zero, List.set_cons_succ, i64_w, i32_w]
              rfl
            refine pure_ (i := 15) (N := some 67) (v := ?_) (a' := ?_) #[true, true, true, true, true, true, true, true, true, true, true, true, true, true, true, true] rfl rfl (by kernel_rfl) (fun _ _ _ h => h) (Or.inl ⟨by rfl, ?_⟩) ?_ ?_
            rotate_left
            · intro w'
              go_simp
              first | done | with_reducible rfl | rfl | (simp [Instr.field, go_sem]; rfl)
            rotate_left
            · simp only [Act.put, List.setIfInBounds_toArray, List.set_cons_zero, List.set_cons_succ, i64_w, i32_w]
              rfl
            refine done_ (by kernel_rfl) ?_
            clear hHeld
            have HRx : Aside0 (RollB wx gr R1) := ⟨RollB.below (R := R1) HRa.out HBx.out⟩
            have hx0 := (HBx.out.cell (World.block_lt_of_cell? wa _ Y0.out)).trans Y0.out
            go_upto_region 18 with (first | (go_at_call 14; (with_reducible refine (get_is _ gr R1 p.f0 p true HG.out HV.out.inv.ok HRx.out).mono ?_); rintro e wg ⟨rfl, hb_⟩; have HBg := Aside0.mk (below_step HBx.out hb_); have hx0 := (HBg.out.cell (World.block_lt_of_cell? wa _ Y0.out)).trans Y0.out; have hx1 := (HBg.out.cell (World.block_lt_of_cell? wa _ Y1.out)).trans Y1.out; have hx2 := (HBg.out.cell (World.block_lt_of_cell? wa _ Y2.out)).trans Y2.out; clear hb_) | ((with_reducible refine gate_dst (N := 10) rfl ?_); refine box_event ?hg (N := 10) ?hd (cs := #[.int .i64 0, .int .u64 0, .int .i64 0]) (t := 31) ?hr ?_; (case hd => rfl); (case hg => rfl); (case hr => first | (go_simp; done) | (go_simp; rfl)); intro g10 hg_ wc hb_ hB_; have K10 := Aside0.mk hb_; have L10 := Aside0.mk (show wa.heap.size ≤ g10 from (by rw [hg_]; exact HBg.out.size)); have HBc := Aside0.mk (below_step HBg.out hB_); have z0 := (blk_cell K10.out 0).trans rfl; have z1 := (blk_cell K10.out 1).trans rfl; have z2 := (blk_cell K10.out 2).trans rfl; have zf := fun j => blk_frozen K10.out j; clear hg_ hb_ hB_))
            have Jc : Aside0 ((((wc.setCell ⟨g10, 0, none⟩ (.int .i64 p.f0)).setCell ⟨g10, 1, none⟩ (.int .u64 p.f1)).setCell ⟨g10, 2, none⟩ (.int .i64 p.f2)).heap[g10]? = some (.cells #[.int .i64 p.f0, .int .u64 p.f1, .int .i64 p.f2] 31 (0, 0))) := ⟨blk_put (cs := #[.int .i64 p.f0, .int .u64 p.f1, .int .i64 0]) (blk_put (cs := #[.int .i64 p.f0, .int .u64 0, .int .i64 0]) (blk_put (cs := #[.int .i64 0, .int .u64 0, .int .i64 0]) K10.out 0 _ rfl) 1 _ rfl) 2 _ rfl⟩
            have HBd : Aside0 (Below wa.heap.size wa (((wc.setCell ⟨g10, 0, none⟩ (.int .i64 p.f0)).setCell ⟨g10, 1, none⟩ (.int .u64 p.f1)).setCell ⟨g10, 2, none⟩ (.int .i64 p.f2))) := ⟨below_set (below_set (below_set HBc.out L10.out) L10.out) L10.out⟩
            clear z0 z1 z2 zf hx0 hx1 hx2 HBx HRx
            generalize ((wc.setCell ⟨g10, 0, none⟩ (.int .i64 p.f0)).setCell ⟨g10, 1, none⟩ (.int .u64 p.f1)).setCell ⟨g10, 2, none⟩ (.int .i64 p.f2) = wd at Jc HBd ⊢
            have Jx : Aside0 (wd.drew.heap[g10]? = some (.cells #[.int .i64 p.f0, .int .u64 p.f1, .int .i64 p.f2] 31 (0, 0))) := ⟨blk_drew Jc.out⟩
            have HBx := Aside0.mk (below_drew1 HBd.out)
            refine start_ (n := 10) (S := fun w' => w'.cell? ⟨g10, 0, none⟩ = some (.int .i64 p.f0) ∧ w'.cell? ⟨g10, 1, none⟩ = some (.int .u64 p.f1) ∧ w'.cell? ⟨g10, 2, none⟩ = some (.int .i64 p.f2) ∧ w'.cell? (ad.add (j * 3)) = some (.int .i64 p.f0) ∧ w'.cell? ⟨(ad.add (j * 3)).block, (ad.add (j * 3)).off + 1, none⟩ = some (.int .u64 p.f1) ∧ w'.cell? ⟨(ad.add (j * 3)).block, (ad.add (j * 3)).off + 2, none⟩ = some (.int .i64 p.f2)) (ds := []) #[false, false, false, false, false, false, false, false, false, false] (by kernel_rfl) rfl rfl ⟨(blk_cell Jx.out 0).trans rfl, (blk_cell Jx.out 1).trans rfl, (blk_cell Jx.out 2).trans rfl, (HBx.out.cell (World.block_lt_of_cell? wa _ Y0.out)).trans Y0.out, (HBx.out.cell (World.block_lt_of_cell? wa _ Y1.out)).trans Y1.out, (HBx.out.cell (World.block_lt_of_cell? wa _ Y2.out)).trans Y2.out⟩ (fun hHeld => ?_)
            generalize wd.drew = wx at Jx HBx hHeld ⊢
            refine pure_ (i := 0) (N := some 78) (v := ?_) (a' := ?_) #[true, false, false, false, false, false, false, false, false, false] rfl rfl (by kernel_rfl) (fun _ _ _ h => h) (Or.inl ⟨by rfl, ?_⟩) ?_ ?_
            rotate_left
            · intro w'
              go_simp
              first | done | with_reducible rfl | rfl | (simp [Instr.field, go_sem]; rfl)
            rotate_left
            · simp only [Act.put, List.setIfInBounds_toArray, List.set_cons_zero, List.set_cons_succ, i64_w, i32_w]
              rfl
            refine pure_ (i := 1) (N := some 79) (v := ?_) (a' := ?_) #[true, true, false, false, false, false, false, false, false, false] rfl rfl (by kernel_rfl) (fun _ _ _ h => h) (Or.inl ⟨by rfl, ?_⟩) ?_ ?_
            rotate_left
            · intro w'
              go_simp
              first | done | with_reducible rfl | rfl | (simp [Instr.field, go_sem]; rfl)
            rotate_left
            · simp only [Act.put, List.setIfInBounds_toArray, List.set_cons_zero, List.set_cons_succ, i64_w, i32_w]
              rfl
            refine pure_ (i := 2) (N := some 80) (v := ?_) (a' := ?_) #[true, true, true, false, false, false, false, false, false, false] rfl rfl (by kernel_rfl) (fun _ _ _ h => h) (Or.inl ⟨by rfl, ?_⟩) ?_ ?_
            rotate_left
            · intro w'
              go_simp
              first | done | with_reducible rfl | rfl | (simp [Instr.field, go_sem]; rfl)
            rotate_left
            · simp only [Act.put, List.setIfInBounds_toArray, List.set_cons_zero, List.set_cons_succ, i64_w, i32_w]
              rfl
            refine pure_ (i := 4) (N := some 82) (v := ?_) (a' := ?_) #[true, true, true, false, true, false, false, false, false, false] rfl rfl (by kernel_rfl) (fun _ _ _ h => h) (Or.inl ⟨by rfl, ?_⟩) ?_ ?_
            rotate_left
            · intro w'
              go_simp
              first | done | with_reducible rfl | rfl | (simp [Instr.field, go_sem]; rfl)
            rotate_left
            · simp only [Act.put, List.setIfInBounds_toArray, List.set_cons_zero, List.set_cons_succ, i64_w, i32_w]
              rfl
            refine pure_ (i := 5) (N := some 83) (v := ?_) (a' := ?_) #[true, true, true, false, true, true, false, false, false, false] rfl rfl (by kernel_rfl) (fun _ _ _ h => h) (Or.inl ⟨by rfl, ?_⟩) ?_ ?_
            rotate_left
            · intro w'
              go_simp
              first | done | with_reducible rfl | rfl | (simp [Instr.field, go_sem]; rfl)
            rotate_left
            · simp only [Act.put, List.setIfInBounds_toArray, List.set_cons_zero, List.set_cons_succ, i64_w, i32_w]
              rfl
            refine pure_ (i := 6) (N := some 84) (v := ?_) (a' := ?_) #[true, true, true, false, true, true, true, false, false, false] rfl rfl (by kernel_rfl) (fun _ _ _ h => h) (Or.inl ⟨by rfl, ?_⟩) ?_ ?_
            rotate_left
            · intro w'
              go_simp
              first | done | with_reducible rfl | rfl | (simp [Instr.field, go_sem]; rfl)
            rotate_left
            · simp only [Act.put, List.setIfInBounds_toArray, List.set_cons_zero, List.set_cons_succ, i64_w, i32_w]
              rfl
            refine take_ (i := 3) (N := some 81) (v := ?_) (a' := ?_) #[true, true, true, true, true, true, true, false, false, false] rfl rfl (by kernel_rfl) (fun _ _ _ h => h) (Or.inl ⟨by rfl, ?_⟩) hHeld ?_ ?_
            rotate_left
            · rintro w' ⟨s0, s1, s2, s3, s4, s5⟩
              go_simp
              first | done | with_reducible rfl | rfl | (simp [Instr.field, go_sem]; rfl)
            rotate_left
            · simp only [Act.put, List.setIfInBounds_toArray, List.set_cons_zero, List.set_cons_succ, i64_w, i32_w]
              rfl
            refine take_ (i := 7) (N := some 85) (v := ?_) (a' := ?_) #[true, true, true, true, true, true, true, true, false, false] rfl rfl (by kernel_rfl) (fun _ _ _ h => h) (Or.inl ⟨by rfl, ?_⟩) hHeld ?_ ?_
            rotate_left
            · rintro w' ⟨s0, s1, s2, s3, s4, s5⟩
              go_simp
              first | done | with_reducible rfl | rfl | (simp [Instr.field, go_sem]; rfl)
            rotate_left
            · simp only [Act.put, List.setIfInBounds_toArray, List.set_cons_zero, List.set_cons_succ, i64_w, i32_w]
              rfl
            refine pure_ (i := 8) (N := some 86) (v := ?_) (a' := ?_) #[true, true, true, true, true, true, true, true, true, false] rfl rfl (by kernel_rfl) (fun _ _ _ h => h) (Or.inl ⟨by rfl, ?_⟩) ?_ ?_
            rotate_left
            · intro w'
              go_simp
              first | done | with_reducible rfl | rfl | (simp [Instr.field, go_sem]; rfl)
            rotate_left
            · simp only [Act.put, List.setIfInBounds_toArray, List.set_cons_zero, List.set_cons_succ, i64_w, i32_w]
              rfl
            refine pure_ (i := 9) (N := some 87) (v := ?_) (a' := ?_) #[true, true, true, true, true, true, true, true, true, true] rfl rfl (by kernel_rfl) (fun _ _ _ h => h) (Or.inl ⟨by rfl, ?_⟩) ?_ ?_
            rotate_left
            · intro w'
              go_simp
              first | done | with_reducible rfl | rfl | (simp [Instr.field, go_sem]; rfl)
            rotate_left
            · simp only [Act.put, List.setIfInBounds_toArray, List.set_cons_zero, List.set_cons_succ, i64_w, i32_w]
              rfl
            refine done_ (by kernel_rfl) ?_
            clear hHeld
            go_wp2
            go_roundw
            case rel => exact ⟨j + 1, by go_num, by rw [HT.out, HOR.out], ⟨hlt⟩, HBx⟩
            case measure => simp [intOf]; omega
      · obtain rfl : j = L.length := by have := hj.out; omega
        rw [List.take_length]
        obtain ⟨v, hv⟩ : ∃ v, liveN L = v := ⟨_, rfl⟩
        have hvb : v.testBit k = true := by rw [← hv, ← HLa.out]; exact liveN_own HV.out
        have hsb := shr_bit v k (by rw [← hv]; exact liveN_lt L) hk64 hvb
        have hdl := others_len HV.out
        rw [HLa.out] at hdl
        have HVv := Aside0.mk hv
        obtain ⟨D, hD⟩ : ∃ D, deadN L = D := ⟨_, rfl⟩
        rw [hD] at hdl
        have HD := Aside0.mk hD
        obtain ⟨O, hO⟩ : ∃ O, (othersL R1).length = O := ⟨_, rfl⟩
        rw [hO] at hdl
        have HOO := Aside0.mk hO
        rw [hv]
        have HBq := Aside0.mk (below_step HBa.out HB.out)
        have HRq := Aside0.mk (RollB.below (R := R1) HRa.out HB.out)
        have HOq := Aside0.mk (Kd.C_below HOa.out HB.out)
        have pk : ((0 : Int) ≤ (k : Int)) = True := eq_true (by omega)
        have hfin : ((O : Int) == (L.length : Int) - (D : Int) - 1) = true := beq_iff_eq.2 (by omega)
        clear hv hvb hD hO
        go_wp2_with (first
          | (go_at_call 18; refine (live_is _ gr R1 v (by rw [HLa.out, HVv.out]) HV.out.inv.ok.has ⟨tab_belowN hT.out HP.out HBq.out⟩ HRq.out).mono ?_; rintro e wd ⟨rfl, hb_⟩; have HBd := Aside0.mk (below_step HBq.out hb_); have HRd := Aside0.mk (RollB.below (R := R1) HRq.out hb_); have HOd := Aside0.mk (Kd.C_below HOq.out hb_); clear hb_)
          | (go_at_call 26; refine (others_walk _ gr R1 HV.out.inv.ok.has ⟨tab_belowN hT.out HP.out HBd.out⟩ HRd.out).mono ?_; rintro e we ⟨ve, rfl, ho_, hb_⟩; obtain ⟨Ae, ce, rfl⟩ := Kd.R_slice ho_; rw [HOO.out]; have HBe := Aside0.mk (below_step HBd.out hb_); have HOe := Aside0.mk (Kd.C_below HOd.out hb_); clear hb_ ho_)
          | (go_at_call 27; refine (dead_walk _ Aa ca L hLl HOe.out).mono ?_; rintro e wf ⟨rfl, hb_⟩; rw [HD.out]; have HBf := Aside0.mk (below_step HBe.out hb_); clear hb_))
        go_ret
        exact ⟨rfl, HBf.out⟩
theorem rollLive_row (a0 : Int) (A : Option Addr) (c : Nat) (l : List S31) (w : World) (w0 : (Lit.int .u8 a0).wf = true) (hr : Kd.C k31 w A l.length l) (_ : l.length ≤ c) (hl : ∀ u ∈ l, (Lit.int .u64 u.f1).wf = true) (hT : Aside0 (TabT w)) :
    Calls Tryd.prog 9 #[.int .u8 a0, .slice A l.length c] w fun e w' => e = .returned (.bool true) ∧ Below w.heap.size w w' := by
  obtain ⟨k, hk, hk63⟩ := mod64 (Band.wf_u8 w0)
  exact live_law w A c l a0 k hk (by omega) (fun u hu => okU_wf (hl u hu)) hr hT
end Go.Proofs.YtkkcnhfbcophiaaDoor.B
