/- By hand: the document's roll's Merge; the walk of RollActs. -/
import Derived.Test.YtkkcnhfbcophiaaDoorActs1
import Derived.Test.YtkkcnhfbcophiaaDoorSelfEnd
section
namespace Go.Proofs.YtkkcnhfbcophiaaDoor.B
open Go.RowKit Go.Proofs.YtkkcnhfbcophiaaDoorW.PrintWords Go.Proofs.YtkkcnhfbcophiaaDoorW.PrintLast Go.Proofs.YtkkcnhfbcophiaaDoorW.PrintMore Go.Proofs.YtkkcnhfbcophiaaDoor.Band Go.Proofs.YtkkcnhfbcophiaaDoor.Pure
set_option linter.unusedSimpArgs false
set_option linter.unusedVariables false
attribute [local go_sem high] eqA31

theorem any_succ (O : List S31) (m : Nat) (p : S31) (h : m < O.length) : (O.take (m + 1)).any (fun v => !neS v p) = ((O.take m).any (fun v => !neS v p) || !neS (rd_T31 O (m : Int)) p) := by
  rw [rd31_get O m h, List.take_succ_eq_append_getElem h, List.any_append]
  simp
theorem R_stp {w1 w2 : World} {base g : Nat} {ρ ρ' : Option Nat} {v : Value} {xs : List S31} (h : Kd.R k31 31 w1 base (fun _ => True) v xs) (hs : Stp w1 w2 g ρ ρ') (hg : v.ownBlock ≠ some g) (hρ : ∀ q, v.ownBlock = some q → some q ≠ ρ) :
    Kd.R k31 31 w2 base (fun _ => True) v xs ∧ ∀ q, v.ownBlock = some q → some q ≠ ρ' := by
  refine ⟨Kd.R_mono (Kd.R_step (Kd.R_tight rfl h) (fun q hq hlt => hs.keep.2 q hlt (fun e => hg (by rw [← hq, e])) (hρ q hq.symm))) (fun _ _ => trivial), fun q hq => ?_⟩
  have hlt := Kd.R_lt h q hq
  rcases hs.own with e | ⟨j, e, hj⟩
  · rw [e]; exact hρ q hq
  · rw [e]; intro e2; injection e2 with e2; omega
set_option maxRecDepth 100000 in
set_option maxHeartbeats 4000000 in
theorem dmerge_walk (w0 w : World) (g b : Nat) (k : Nat) (hk : k < 64) (xs : List S31) (A : Option Addr) (c : Nat) (As : Option Addr) (cs : Nat) (us : List S31) (hD : DocB w g b k xs A c) (hl : xs.length + us.length ≤ 4000) (hb : w0.heap.size ≤ b) (hB : Below w0.heap.size w0 w) (hu : ∀ u ∈ us, OkU u) (hr : Kd.C k31 w0 As us.length us) (ys : List S31) (ok : Bool) (er : Int) (NW : List S31) (hq : dHearL k xs us = (ys, ok)) (her : er = if ok = true then 0 else 60) (hnw : NW = if ok = true then dNews (dAll xs 64) (dAll ys 64) (dAll ys 64).length else []) :
    Calls Tryd.prog 24 #[.pointer (some ⟨g, 0, none⟩), .slice As us.length cs] w fun e w' => ∃ v, e = .returned (.tuple #[v, .int .i64 er]) ∧ Kd.R k31 31 w' w.heap.size (fun _ => True) v NW ∧ ∃ A' c', DocB w' g b k ys A' c' ∧ Below w0.heap.size w0 w' ∧ Stp w w' g (Value.slice A xs.length c).ownBlock (Value.slice A' ys.length c').ownBlock := by
  have HD := Aside0.mk hD
  have HW := Aside0.mk hb
  have HB := Aside0.mk hB
  have HU := Aside0.mk hr
  have HUU := Aside0.mk hu
  have hxs : xs.length ≤ 4000 := by omega
  obtain ⟨O, hO⟩ : ∃ O, dAll xs 64 = O := ⟨_, rfl⟩
  have hOl : O.length ≤ 64 := by rw [← hO]; exact dAll_len xs 64
  have HOe := Aside0.mk hO
  obtain ⟨zF, hzF⟩ : ∃ z, ys = z := ⟨_, rfl⟩
  have HQ := Aside0.mk hq
  have HER := Aside0.mk her
  have HNW := Aside0.mk hnw
  rw [hzF] at HQ HNW ⊢
  clear hD hb hB hr hu hO hq her hnw hzF ys
  go_enter Tryd.func24, Tryd.ntmps24
  go_wp2_with (go_at_call 40; refine (dall_walk _ g b k xs A c HD.out hxs).mono ?_; rintro e wa ⟨v_, rfl, ho_, hb_⟩; rw [HOe.out] at ho_; obtain ⟨Ao, co, rfl⟩ := Kd.R_slice ho_; have HOa := Aside0.mk ho_; have HDa := Aside0.mk (HD.out.below hb_); have HWa := Aside0.mk (below_step HB.out hb_); have HSa := Aside0.mk (Stp.of_below hb_ g (Value.slice A xs.length c).ownBlock); have HNg : Aside0 ((Value.slice Ao O.length co).ownBlock ≠ some g) := ⟨fun e => by have := Kd.R_base ho_ g e; have := blk_lt HD.out.blk; omega⟩; have HNa : Aside0 (∀ q, (Value.slice Ao O.length co).ownBlock = some q → some q ≠ (Value.slice A xs.length c).ownBlock) := ⟨fun q hq e => by have := Kd.R_base ho_ q hq; have := Kd.R_lt HD.out.row q e.symm; omega⟩; clear ho_ hb_)
  go_loopw [7] (fun i wr => ∃ (j : Nat) (ys : List S31) (A' : Option Addr) (c' : Nat), i = .int .i64 j ∧ Aside0 (j ≤ us.length) ∧ Aside0 (DocB wr g b k ys A' c') ∧ Aside0 (ys.length ≤ xs.length + j) ∧ Aside0 (Below w0.heap.size w0 wr) ∧ Aside0 (Stp w wr g (Value.slice A xs.length c).ownBlock (Value.slice A' ys.length c').ownBlock) ∧ Aside0 (Kd.R k31 31 wr w.heap.size (fun _ => True) (.slice Ao O.length co) O) ∧ Aside0 (∀ q, (Value.slice Ao O.length co).ownBlock = some q → some q ≠ (Value.slice A' ys.length c').ownBlock) ∧ Aside0 (dHearL k xs us = dHearL k ys (us.drop j)))
    (fun i _ => us.length - (intOf i).toNat)
  case atStart => exact ⟨0, xs, A, c, rfl, ⟨Nat.zero_le _⟩, HDa, ⟨Nat.le_refl _⟩, HWa, HSa, HOa, HNa, ⟨rfl⟩⟩
  case round =>
    clear HDa HWa HSa HOa HNa
    obtain ⟨j, ys, A', c', rfl, hj, HDr, HLr, HWr, HSr, HOr, HNr, HH⟩ := hrel
    have hys : ys.length ≤ 4000 := by have := HLr.out; have := hj.out; omega
    by_cases hlt : j < us.length
    · obtain ⟨ad, e, hy0, hy1, hy2⟩ := at_T31 HU.out (j : Int) (by omega) (by omega)
      simp only [Int.toNat_natCast] at hy0 hy1 hy2
      obtain rfl := e
      have hd1 := List.drop_eq_getElem_cons hlt
      have hup := HUU.out us[j] (List.getElem_mem hlt)
      rw [rd31_get us j hlt] at hy0 hy1 hy2
      obtain ⟨p, hp⟩ : ∃ p, p = us[j] := ⟨_, rfl⟩
      rw [← hp] at hy0 hy1 hy2 hd1 hup
      clear hp
      have hx0 := (HWr.out.cell (World.block_lt_of_cell? w0 _ hy0)).trans hy0
      have hx1 := (HWr.out.cell (World.block_lt_of_cell? w0 _ hy1)).trans hy1
      have hx2 := (HWr.out.cell (World.block_lt_of_cell? w0 _ hy2)).trans hy2
      obtain ⟨⟨zs, bb, ee⟩, hh⟩ : ∃ q, dHear k ys p = q := ⟨_, rfl⟩
      have hH := HH.out
      rw [hd1, dHearL, hh] at hH
      have hlen : zs.length ≤ ys.length + 1 := by have := dHear_len k ys p; rw [hh] at this; exact this
      have HHp := Aside0.mk hh
      have HUP := Aside0.mk hup
      have HL2 := Aside0.mk hlen
      have HHx := Aside0.mk hH
      clear hy0 hy1 hy2 hd1 hup hh hlen hH
      by_cases he : ee = 60
      · have hd : (ee == 60) = true := beq_iff_eq.2 he
        have HE := Aside0.mk he
        have hH2 := HHx.out
        rw [if_pos he] at hH2
        have HHy := Aside0.mk hH2
        clear he hH2
        go_wp2_with (go_at_call 22; refine (dhear_is w0 _ g b k hk ys A' c' p zs bb ee HHp.out HDr.out hys HW.out HWr.out HUP.out).mono ?_; rintro e wn ⟨rfl, A2, c2, hD_, hB_, hS_⟩; have HD2 := Aside0.mk hD_; have HB2 := Aside0.mk hB_; have HS2 := Aside0.mk (HSr.out.trans hS_); clear hD_ hB_ hS_)
        have hqq := HQ.out.symm.trans HHy.out
        obtain ⟨rfl, rfl⟩ := Prod.mk.inj hqq
        have h1 := HER.out
        have h2 := HNW.out
        rw [if_neg Bool.false_ne_true] at h1 h2
        rw [h1, h2, ← HE.out]
        go_ret2
        exact ⟨_, rfl, Kd.R_nil _ _ _ _ _, A2, c2, HD2.out, HB2.out, HS2.out⟩
      · have hd : (ee == 60) = false := beq_eq_false_iff_ne.2 he
        have hH2 := HHx.out
        rw [if_neg he] at hH2
        have HHy := Aside0.mk hH2
        clear he hH2
        go_wp2_with (go_at_call 22; refine (dhear_is w0 _ g b k hk ys A' c' p zs bb ee HHp.out HDr.out hys HW.out HWr.out HUP.out).mono ?_; rintro e wn ⟨rfl, A2, c2, hD_, hB_, hS_⟩; have HD2 := Aside0.mk hD_; have HB2 := Aside0.mk hB_; have HS2 := Aside0.mk (HSr.out.trans hS_); have HR2 := Aside0.mk (R_stp HOr.out hS_ (HNg.out) HNr.out); clear hD_ hB_ hS_)
        go_roundw
        case rel => exact ⟨j + 1, zs, A2, c2, by go_num, ⟨hlt⟩, HD2, ⟨by have := HL2.out; have := HLr.out; omega⟩, HB2, HS2, ⟨HR2.out.1⟩, ⟨HR2.out.2⟩, HHy⟩
        case measure => simp [intOf]; omega
    · obtain rfl : j = us.length := by have := hj.out; omega
      have HH := HH
      obtain ⟨N, hN⟩ : ∃ N, dAll ys 64 = N := ⟨_, rfl⟩
      have hNl : N.length ≤ 64 := by rw [← hN]; exact dAll_len ys 64
      have HNe := Aside0.mk hN
      clear hN hlt hj
      go_wp2_with (first
        | (go_at_call 40; refine (dall_walk _ g b k ys A' c' HDr.out hys).mono ?_; rintro e wb ⟨v_, rfl, ho_, hb_⟩; rw [HNe.out] at ho_; obtain ⟨An, cn, rfl⟩ := Kd.R_slice ho_; have HNb := Aside0.mk (Kd.R_reads' ho_).2.2; have HDb := Aside0.mk (HDr.out.below hb_); have HWb := Aside0.mk (below_step HWr.out hb_); have HSb := Aside0.mk (HSr.out.trans (Stp.of_below hb_ g _)); have HOb := Aside0.mk (Kd.R_reads' (Kd.R_below HOr.out hb_)).2.2; clear ho_ hb_)
        | ((with_reducible refine gate_dst (N := 37) rfl ?_); refine Kd.R_lit k31 _ 31 ?hg (N := 37) ?hd (xs := ([] : List S31)) (inner := []) (ok := fun _ => True) (okp := fun _ => True) ?hr ?hp (fun _ hk => hk) trivial (Below.refl _ _) (Nat.le_refl _) (by simp) ?_; (case hd => rfl); (case hg => rfl); (case hr => first | (go_simp; done) | (go_simp; rfl)); (case hp => exact (Reps.none _ _)); intro v_ wl ho_ hb_ hg_ hnew_; have HOl := Aside0.mk ho_; have HBl := Aside0.mk hb_; clear ho_ hb_ hg_ hnew_))
      go_loopw [11, 12] (fun v i wr => ∃ n : Nat, i = .int .i64 n ∧ Aside0 (n ≤ N.length) ∧ Aside0 (Kd.R k31 31 wr wb.heap.size (fun _ => True) v (dNews O N n)) ∧ Aside0 (Below wb.heap.size wb wr))
        (fun _ i _ => N.length - (intOf i).toNat)
      case atStart => exact ⟨0, rfl, ⟨Nat.zero_le _⟩, HOl, HBl⟩
      case round =>
        obtain ⟨n, rfl, hn, HO, HB⟩ := hrel
        clear HOl HBl
        rename World => wo
        by_cases hlt : n < N.length
        · obtain ⟨an, e, hp0, hp1, hp2⟩ := at_T31 HNb.out (n : Int) (by omega) (by omega)
          simp only [Int.toNat_natCast] at hp0 hp1 hp2
          obtain rfl := e
          have hta := dNews_succ O N n hlt
          obtain ⟨p, hp⟩ : ∃ p, p = rd_T31 N (n : Int) := ⟨_, rfl⟩
          rw [← hp] at hp0 hp1 hp2 hta
          clear hp
          have P0 := Aside0.mk hp0
          have P1 := Aside0.mk hp1
          have P2 := Aside0.mk hp2
          have HTN := Aside0.mk hta
          clear hp0 hp1 hp2 hta
          have hle : (dNews O N n).length ≤ 64 := Nat.le_trans (List.length_filter_le _ _) (by rw [List.length_take]; omega)
          go_wp2
          go_loopw [13, 14] (fun t i wi => ∃ m : Nat, i = .int .i64 m ∧ t = .bool ((O.take m).any (fun v => !neS v p)) ∧ Aside0 (m ≤ O.length) ∧ Aside0 (Below wb.heap.size wb wi) ∧ Aside0 (Below wo.heap.size wo wi))
            (fun _ i _ => O.length - (intOf i).toNat)
          case atStart => exact ⟨0, rfl, by rw [List.take_zero]; rfl, ⟨Nat.zero_le _⟩, HB, ⟨Below.refl _ _⟩⟩
          case round =>
            obtain ⟨m, rfl, rfl, hm, HBiw, HBnw⟩ := hrel
            by_cases hmlt : m < O.length
            · obtain ⟨ao, e, ho0, ho1, ho2⟩ := at_T31 HOb.out (m : Int) (by omega) (by omega)
              simp only [Int.toNat_natCast] at ho0 ho1 ho2
              obtain rfl := e
              obtain ⟨o, ho⟩ : ∃ o, o = rd_T31 O (m : Int) := ⟨_, rfl⟩
              rw [← ho] at ho0 ho1 ho2
              have hoe := Aside0.mk ho
              have O0 := Aside0.mk ho0
              have O1 := Aside0.mk ho1
              have O2 := Aside0.mk ho2
              clear ho ho0 ho1 ho2
              obtain ⟨th, hth⟩ : ∃ th, (O.take m).any (fun v => !neS v p) = th := ⟨_, rfl⟩
              have HTHE := Aside0.mk hth
              rw [hth]
              clear hth
              cases th
              · have hta := any_succ O m p hmlt
                rw [HTHE.out] at hta
                have HBi := Aside0.mk (below_drew1 HBiw.out)
                have HBn := Aside0.mk (below_drew1 HBnw.out)
                go_upto_region 17 with (fail)
                refine start_ (n := 13) (S := fun w' => w'.cell? (ao.add (m * 3)) = some (.int .i64 o.f0) ∧ w'.cell? ⟨(ao.add (m * 3)).block, (ao.add (m * 3)).off + 1, none⟩ = some (.int .u64 o.f1) ∧ w'.cell? ⟨(ao.add (m * 3)).block, (ao.add (m * 3)).off + 2, none⟩ = some (.int .i64 o.f2) ∧ w'.cell? (an.add (n * 3)) = some (.int .i64 p.f0) ∧ w'.cell? ⟨(an.add (n * 3)).block, (an.add (n * 3)).off + 1, none⟩ = some (.int .u64 p.f1) ∧ w'.cell? ⟨(an.add (n * 3)).block, (an.add (n * 3)).off + 2, none⟩ = some (.int .i64 p.f2)) (ds := []) #[false, false, false, false, false, false, false, false, false, false, false, false, false] (by kernel_rfl) rfl rfl ⟨(HBi.out.cell (World.block_lt_of_cell? wb _ O0.out)).trans O0.out, (HBi.out.cell (World.block_lt_of_cell? wb _ O1.out)).trans O1.out, (HBi.out.cell (World.block_lt_of_cell? wb _ O2.out)).trans O2.out, (HBi.out.cell (World.block_lt_of_cell? wb _ P0.out)).trans P0.out, (HBi.out.cell (World.block_lt_of_cell? wb _ P1.out)).trans P1.out, (HBi.out.cell (World.block_lt_of_cell? wb _ P2.out)).trans P2.out⟩ (fun hHeld => ?_)
                generalize wr.drew = wx at HBi HBn hHeld ⊢
                refine pure_ (i := 0) (N := some 50) (v := ?_) (a' := ?_) #[true, false, false, false, false, false, false, false, false, false, false, false, false] rfl rfl (by kernel_rfl) (fun _ _ _ h => h) (Or.inl ⟨by rfl, ?_⟩) ?_ ?_
                rotate_left
                · intro w'
                  go_simp
                  first | done | with_reducible rfl | rfl | (simp [Instr.field, go_sem]; rfl)
                rotate_left
                · simp only [Act.put, List.setIfInBounds_toArray, List.set_cons_zero, List.set_cons_succ, i64_w, i32_w]
                  rfl
                refine pure_ (i := 1) (N := some 51) (v := ?_) (a' := ?_) #[true, true, false, false, false, false, false, false, false, false, false, false, false] rfl rfl (by kernel_rfl) (fun _ _ _ h => h) (Or.inl ⟨by rfl, ?_⟩) ?_ ?_
                rotate_left
                · intro w'
                  go_simp
                  first | done | with_reducible rfl | rfl | (simp [Instr.field, go_sem]; rfl)
                rotate_left
                · simp only [Act.put, List.setIfInBounds_toArray, List.set_cons_zero, List.set_cons_succ, i64_w, i32_w]
                  rfl
                refine pure_ (i := 2) (N := some 52) (v := ?_) (a' := ?_) #[true, true, true, false, false, false, false, false, false, false, false, false, false] rfl rfl (by kernel_rfl) (fun _ _ _ h => h) (Or.inl ⟨by rfl, ?_⟩) ?_ ?_
                rotate_left
                · intro w'
                  go_simp
                  first | done | with_reducible rfl | rfl | (simp [Instr.field, go_sem]; rfl)
                rotate_left
                · simp only [Act.put, List.setIfInBounds_toArray, List.set_cons_zero, List.set_cons_succ, i64_w, i32_w]
                  rfl
                refine pure_ (i := 3) (N := some 53) (v := ?_) (a' := ?_) #[true, true, true, true, false, false, false, false, false, false, false, false, false] rfl rfl (by kernel_rfl) (fun _ _ _ h => h) (Or.inl ⟨by rfl, ?_⟩) ?_ ?_
                rotate_left
                · intro w'
                  go_simp
                  first | done | with_reducible rfl | rfl | (simp [Instr.field, go_sem]; rfl)
                rotate_left
                · simp only [Act.put, List.setIfInBounds_toArray, List.set_cons_zero, List.set_cons_succ, i64_w, i32_w]
                  rfl
                refine pure_ (i := 4) (N := some 54) (v := ?_) (a' := ?_) #[true, true, true, true, true, false, false, false, false, false, false, false, false] rfl rfl (by kernel_rfl) (fun _ _ _ h => h) (Or.inl ⟨by rfl, ?_⟩) ?_ ?_
                rotate_left
                · intro w'
                  go_simp
                  first | done | with_reducible rfl | rfl | (simp [Instr.field, go_sem]; rfl)
                rotate_left
                · simp only [Act.put, List.setIfInBounds_toArray, List.set_cons_zero, List.set_cons_succ, i64_w, i32_w]
                  rfl
                refine pure_ (i := 6) (N := some 56) (v := ?_) (a' := ?_) #[true, true, true, true, true, false, true, false, false, false, false, false, false] rfl rfl (by kernel_rfl) (fun _ _ _ h => h) (Or.inl ⟨by rfl, ?_⟩) ?_ ?_
                rotate_left
                · intro w'
                  go_simp
                  first | done | with_reducible rfl | rfl | (simp [Instr.field, go_sem]; rfl)
                rotate_left
                · simp only [Act.put, List.setIfInBounds_toArray, List.set_cons_zero, List.set_cons_succ, i64_w, i32_w]
                  rfl
                refine pure_ (i := 7) (N := some 57) (v := ?_) (a' := ?_) #[true, true, true, true, true, false, true, true, false, false, false, false, false] rfl rfl (by kernel_rfl) (fun _ _ _ h => h) (Or.inl ⟨by rfl, ?_⟩) ?_ ?_
                rotate_left
                · intro w'
                  go_simp
                  first | done | with_reducible rfl | rfl | (simp [Instr.field, go_sem]; rfl)
                rotate_left
                · simp only [Act.put, List.setIfInBounds_toArray, List.set_cons_zero, List.set_cons_succ, i64_w, i32_w]
                  rfl
                refine pure_ (i := 8) (N := some 58) (v := ?_) (a' := ?_) #[true, true, true, true, true, false, true, true, true, false, false, false, false] rfl rfl (by kernel_rfl) (fun _ _ _ h => h) (Or.inl ⟨by rfl, ?_⟩) ?_ ?_
                rotate_left
                · intro w'
                  go_simp
                  first | done | with_reducible rfl | rfl | (simp [Instr.field, go_sem]; rfl)
                rotate_left
                · simp only [Act.put, List.setIfInBounds_toArray, List.set_cons_zero, List.set_cons_succ, i64_w, i32_w]
                  rfl
                refine take_ (i := 5) (N := some 55) (v := ?_) (a' := ?_) #[true, true, true, true, true, true, true, true, true, false, false, false, false] rfl rfl (by kernel_rfl) (fun _ _ _ h => h) (Or.inl ⟨by rfl, ?_⟩) hHeld ?_ ?_
                rotate_left
                · rintro w' ⟨s0, s1, s2, s3, s4, s5⟩
                  go_simp
                  first | done | with_reducible rfl | rfl | (simp [Instr.field, go_sem]; rfl)
                rotate_left
                · simp only [Act.put, List.setIfInBounds_toArray, List.set_cons_zero, List.set_cons_succ, i64_w, i32_w]
                  rfl
                refine take_ (i := 9) (N := some 59) (v := ?_) (a' := ?_) #[true, true, true, true, true, true, true, true, true, true, false, false, false] rfl rfl (by kernel_rfl) (fun _ _ _ h => h) (Or.inl ⟨by rfl, ?_⟩) hHeld ?_ ?_
                rotate_left
                · rintro w' ⟨s0, s1, s2, s3, s4, s5⟩
                  go_simp
                  first | done | with_reducible rfl | rfl | (simp [Instr.field, go_sem]; rfl)
                rotate_left
                · simp only [Act.put, List.setIfInBounds_toArray, List.set_cons_zero, List.set_cons_succ, i64_w, i32_w]
                  rfl
                refine pure_ (i := 10) (N := some 60) (v := ?_) (a' := ?_) #[true, true, true, true, true, true, true, true, true, true, true, false, false] rfl rfl (by kernel_rfl) (fun _ _ _ h => h) (Or.inl ⟨by rfl, ?_⟩) ?_ ?_
                rotate_left
                · intro w'
                  go_simp
                  first | done | with_reducible rfl | rfl | (simp [Instr.field, go_sem]; rfl)
                rotate_left
                · simp only [Act.put, List.setIfInBounds_toArray, List.set_cons_zero, List.set_cons_succ, i64_w, i32_w]
                  rfl
                refine pure_ (i := 11) (N := some 61) (v := ?_) (a' := ?_) #[true, true, true, true, true, true, true, true, true, true, true, true, false] rfl rfl (by kernel_rfl) (fun _ _ _ h => h) (Or.inl ⟨by rfl, ?_⟩) ?_ ?_
                rotate_left
                · intro w'
                  go_simp
                  first | done | with_reducible rfl | rfl | (simp [Instr.field, go_sem]; rfl)
                rotate_left
                · simp only [Act.put, List.setIfInBounds_toArray, List.set_cons_zero, List.set_cons_succ, i64_w, i32_w]
                  rfl
                refine pure_ (i := 12) (N := some 13) (v := ?_) (a' := ?_) #[true, true, true, true, true, true, true, true, true, true, true, true, true] rfl rfl (by kernel_rfl) (fun _ _ _ h => h) (Or.inl ⟨by rfl, ?_⟩) ?_ ?_
                rotate_left
                · intro w'
                  go_simp
                  first | done | with_reducible rfl | rfl | (simp [Instr.field, go_sem]; rfl)
                rotate_left
                · simp only [Act.put, List.setIfInBounds_toArray, List.set_cons_zero, List.set_cons_succ, i64_w, i32_w]
                  rfl
                refine done_ (by kernel_rfl) ?_
                clear hHeld
                have HTA := Aside0.mk hta
                clear hta
                go_wp2
                go_roundw
                case rel => exact ⟨m + 1, by go_num, by (rw [HTA.out, ← hoe.out]; simp [neS]), ⟨hmlt⟩, HBi, HBn⟩
                case measure => simp [intOf]; omega
              · have hta := any_succ O m p hmlt
                rw [HTHE.out] at hta
                have HBi := Aside0.mk (below_drew1 HBiw.out)
                have HBn := Aside0.mk (below_drew1 HBnw.out)
                go_upto_region 17 with (fail)
                refine start_ (n := 13) (S := fun w' => w'.cell? (ao.add (m * 3)) = some (.int .i64 o.f0) ∧ w'.cell? ⟨(ao.add (m * 3)).block, (ao.add (m * 3)).off + 1, none⟩ = some (.int .u64 o.f1) ∧ w'.cell? ⟨(ao.add (m * 3)).block, (ao.add (m * 3)).off + 2, none⟩ = some (.int .i64 o.f2) ∧ w'.cell? (an.add (n * 3)) = some (.int .i64 p.f0) ∧ w'.cell? ⟨(an.add (n * 3)).block, (an.add (n * 3)).off + 1, none⟩ = some (.int .u64 p.f1) ∧ w'.cell? ⟨(an.add (n * 3)).block, (an.add (n * 3)).off + 2, none⟩ = some (.int .i64 p.f2)) (ds := []) #[false, false, false, false, false, false, false, false, false, false, false, false, false] (by kernel_rfl) rfl rfl ⟨(HBi.out.cell (World.block_lt_of_cell? wb _ O0.out)).trans O0.out, (HBi.out.cell (World.block_lt_of_cell? wb _ O1.out)).trans O1.out, (HBi.out.cell (World.block_lt_of_cell? wb _ O2.out)).trans O2.out, (HBi.out.cell (World.block_lt_of_cell? wb _ P0.out)).trans P0.out, (HBi.out.cell (World.block_lt_of_cell? wb _ P1.out)).trans P1.out, (HBi.out.cell (World.block_lt_of_cell? wb _ P2.out)).trans P2.out⟩ (fun hHeld => ?_)
                generalize wr.drew = wx at HBi HBn hHeld ⊢
                refine pure_ (i := 0) (N := some 50) (v := ?_) (a' := ?_) #[true, false, false, false, false, false, false, false, false, false, false, false, false] rfl rfl (by kernel_rfl) (fun _ _ _ h => h) (Or.inl ⟨by rfl, ?_⟩) ?_ ?_
                rotate_left
                · intro w'
                  go_simp
                  first | done | with_reducible rfl | rfl | (simp [Instr.field, go_sem]; rfl)
                rotate_left
                · simp only [Act.put, List.setIfInBounds_toArray, List.set_cons_zero, List.set_cons_succ, i64_w, i32_w]
                  rfl
                refine pure_ (i := 1) (N := some 51) (v := ?_) (a' := ?_) #[true, true, false, false, false, false, false, false, false, false, false, false, false] rfl rfl (by kernel_rfl) (fun _ _ _ h => h) (Or.inl ⟨by rfl, ?_⟩) ?_ ?_
                rotate_left
                · intro w'
                  go_simp
                  first | done | with_reducible rfl | rfl | (simp [Instr.field, go_sem]; rfl)
                rotate_left
                · simp only [Act.put, List.setIfInBounds_toArray, List.set_cons_zero, List.set_cons_succ, i64_w, i32_w]
                  rfl
                refine pure_ (i := 2) (N := some 52) (v := undef) (a' := ?_) #[true, true, true, false, false, false, false, false, false, false, false, false, false] rfl rfl (by kernel_rfl) (fun _ _ _ h => h) (Or.inr ⟨by rfl, rfl⟩) ?_ ?_
                rotate_left
                · simp only [Act.put, List.setIfInBounds_toArray, List.set_cons_zero, List.set_cons_succ, i64_w, i32_w]
                  rfl
                refine pure_ (i := 3) (N := some 53) (v := undef) (a' := ?_) #[true, true, true, true, false, false, false, false, false, false, false, false, false] rfl rfl (by kernel_rfl) (fun _ _ _ h => h) (Or.inr ⟨by rfl, rfl⟩) ?_ ?_
                rotate_left
                · simp only [Act.put, List.setIfInBounds_toArray, List.set_cons_zero, List.set_cons_succ, i64_w, i32_w]
                  rfl
                refine pure_ (i := 4) (N := some 54) (v := undef) (a' := ?_) #[true, true, true, true, true, false, false, false, false, false, false, false, false] rfl rfl (by kernel_rfl) (fun _ _ _ h => h) (Or.inr ⟨by rfl, rfl⟩) ?_ ?_
                rotate_left
                · simp only [Act.put, List.setIfInBounds_toArray, List.set_cons_zero, List.set_cons_succ, i64_w, i32_w]
                  rfl
                refine pure_ (i := 5) (N := some 55) (v := undef) (a' := ?_) #[true, true, true, true, true, true, false, false, false, false, false, false, false] rfl rfl (by kernel_rfl) (fun _ _ _ h => h) (Or.inr ⟨by rfl, rfl⟩) ?_ ?_
                rotate_left
                · simp only [Act.put, List.setIfInBounds_toArray, List.set_cons_zero, List.set_cons_succ, i64_w, i32_w]
                  rfl
                refine pure_ (i := 6) (N := some 56) (v := undef) (a' := ?_) #[true, true, true, true, true, true, true, false, false, false, false, false, false] rfl rfl (by kernel_rfl) (fun _ _ _ h => h) (Or.inr ⟨by rfl, rfl⟩) ?_ ?_
                rotate_left
                · simp only [Act.put, List.setIfInBounds_toArray, List.set_cons_zero, List.set_cons_succ, i64_w, i32_w]
                  rfl
                refine pure_ (i := 7) (N := some 57) (v := undef) (a' := ?_) #[true, true, true, true, true, true, true, true, false, false, false, false, false] rfl rfl (by kernel_rfl) (fun _ _ _ h => h) (Or.inr ⟨by rfl, rfl⟩) ?_ ?_
                rotate_left
                · simp only [Act.put, List.setIfInBounds_toArray, List.set_cons_zero, List.set_cons_succ, i64_w, i32_w]
                  rfl
                refine pure_ (i := 8) (N := some 58) (v := undef) (a' := ?_) #[true, true, true, true, true, true, true, true, true, false, false, false, false] rfl rfl (by kernel_rfl) (fun _ _ _ h => h) (Or.inr ⟨by rfl, rfl⟩) ?_ ?_
                rotate_left
                · simp only [Act.put, List.setIfInBounds_toArray, List.set_cons_zero, List.set_cons_succ, i64_w, i32_w]
                  rfl
                refine pure_ (i := 9) (N := some 59) (v := undef) (a' := ?_) #[true, true, true, true, true, true, true, true, true, true, false, false, false] rfl rfl (by kernel_rfl) (fun _ _ _ h => h) (Or.inr ⟨by rfl, rfl⟩) ?_ ?_
                rotate_left
                · simp only [Act.put, List.setIfInBounds_toArray, List.set_cons_zero, List.set_cons_succ, i64_w, i32_w]
                  rfl
                refine pure_ (i := 10) (N := some 60) (v := undef) (a' := ?_) #[true, true, true, true, true, true, true, true, true, true, true, false, false] rfl rfl (by kernel_rfl) (fun _ _ _ h => h) (Or.inr ⟨by rfl, rfl⟩) ?_ ?_
                rotate_left
                · simp only [Act.put, List.setIfInBounds_toArray, List.set_cons_zero, List.set_cons_succ, i64_w, i32_w]
                  rfl
                refine pure_ (i := 11) (N := some 61) (v := ?_) (a' := ?_) #[true, true, true, true, true, true, true, true, true, true, true, true, false] rfl rfl (by kernel_rfl) (fun _ _ _ h => h) (Or.inl ⟨by rfl, ?_⟩) ?_ ?_
                rotate_left
                · intro w'
                  go_simp
                  first | done | with_reducible rfl | rfl | (simp [Instr.field, go_sem]; rfl)
                rotate_left
                · simp only [Act.put, List.setIfInBounds_toArray, List.set_cons_zero, List.set_cons_succ, i64_w, i32_w]
                  rfl
                refine pure_ (i := 12) (N := some 13) (v := ?_) (a' := ?_) #[true, true, true, true, true, true, true, true, true, true, true, true, true] rfl rfl (by kernel_rfl) (fun _ _ _ h => h) (Or.inl ⟨by rfl, ?_⟩) ?_ ?_
                rotate_left
                · intro w'
                  go_simp
                  first | done | with_reducible rfl | rfl | (simp [Instr.field, go_sem]; rfl)
                rotate_left
                · simp only [Act.put, List.setIfInBounds_toArray, List.set_cons_zero, List.set_cons_succ, i64_w, i32_w]
                  rfl
                refine done_ (by kernel_rfl) ?_
                clear hHeld
                have HTA := Aside0.mk hta
                clear hta
                go_wp2
                go_roundw
                case rel => exact ⟨m + 1, by go_num, by rw [HTA.out, Bool.true_or], ⟨hmlt⟩, HBi, HBn⟩
                case measure => simp [intOf]; omega
            · obtain rfl : m = O.length := by have := hm.out; omega
              rw [List.take_length]
              cases hth : O.any (fun v => !neS v p)
              · have HTA : Aside0 (dNews O N (n + 1) = dNews O N n ++ [p]) := ⟨by have := HTN.out; rw [hth, if_neg (by decide)] at this; exact this⟩
                have hx0 := (HBiw.out.cell (World.block_lt_of_cell? wb _ P0.out)).trans P0.out
                have hx1 := (HBiw.out.cell (World.block_lt_of_cell? wb _ P1.out)).trans P1.out
                have hx2 := (HBiw.out.cell (World.block_lt_of_cell? wb _ P2.out)).trans P2.out
                have HO0 := Aside0.mk (Kd.R_below HO.out HBnw.out)
                have HB0 := HBiw
                clear HO HB
                have HO := HO0
                have HB := HB0
                clear hth hmlt hm
                go_wp2_with ((with_reducible refine gate_builtin (b := .append) (xs := #[.tmp 64, .tmp 69]) rfl ?_); at_builtin; refine Kd.R_append k31 (w0 := wb) wb.heap.size rfl (.tmp 64) (.tmp 69) 22 31 (.agg #[(.int .i64 0), (.int .u64 0), (.int .i64 0)]) 24 rfl Tryd.underlying22 info31 rfl (by decide) (by omega) _ (dNews O N n) p [.int .i64 p.f0, .int .u64 p.f1, .int .i64 p.f2] (fun _ => True) (fun _ => False) rfl rfl ?aP (fun _ hk => hk.elim) ?aF ?aO ?aB ?aS ?aL ?_; (case aP => exact k31_mkM _ _ _ p); (case aF => exact fun _ _ => trivial); (case aO => exact HO.out); (case aB => exact HB.out); (case aS => exact HB.out.size); (case aL => omega); intro v1 w2 ho hb2 hg hat; rw [← HTA.out] at ho; have HO2 := Aside0.mk ho; have HB2 := Aside0.mk hb2; clear ho hb2 hg hat)
                go_roundw
                case rel => exact ⟨n + 1, by go_num, ⟨hlt⟩, HO2, HB2⟩
                case measure => simp [intOf]; omega
              · have HTA : Aside0 (dNews O N (n + 1) = dNews O N n) := ⟨by have := HTN.out; rw [hth, if_pos rfl] at this; exact this⟩
                have HO2 := Aside0.mk (Kd.R_below HO.out HBnw.out)
                clear hth hmlt hm
                go_wp2
                go_roundw
                case rel => exact ⟨n + 1, by go_num, ⟨hlt⟩, ⟨by rw [HTA.out]; exact HO2.out⟩, HBiw⟩
                case measure => simp [intOf]; omega
        · obtain rfl : n = N.length := by have := hn.out; omega
          have hx := HH.out
          rw [List.drop_length, dHearL] at hx
          have hqq := HQ.out.symm.trans hx
          obtain ⟨rfl, rfl⟩ := Prod.mk.inj hqq
          have h1 := HER.out
          have h2 := HNW.out
          rw [if_pos rfl] at h1 h2
          have hr := HO.out
          rw [← HNe.out, ← HOe.out, ← h2] at hr
          have HRf := Aside0.mk (Kd.R_lower hr HSb.out.keep.1)
          subst h1
          clear hx hqq h2 hr
          go_wp2
          go_ret2
          exact ⟨_, rfl, HRf.out, A', c', HDb.out.below HB.out, below_step HWb.out HB.out, HSb.out.trans (Stp.of_below HB.out g _)⟩
end Go.Proofs.YtkkcnhfbcophiaaDoor.B
end
section
namespace Go.Proofs.YtkkcnhfbcophiaaDoor.B
open Go.RowKit Go.Proofs.YtkkcnhfbcophiaaDoorW.PrintWords Go.Proofs.YtkkcnhfbcophiaaDoorW.PrintLast Go.Proofs.YtkkcnhfbcophiaaDoorW.PrintMore Go.Proofs.YtkkcnhfbcophiaaDoor.Band Go.Proofs.YtkkcnhfbcophiaaDoor.Pure
set_option linter.unusedSimpArgs false
set_option linter.unusedVariables false
attribute [local go_sem high] eqA31

theorem same03_l (l : List Int) (h : l.length ≤ 9223372036854775807) : ∀ (m j : Nat), j + m = l.length → conventicleref03_Same.l0 (m + 1) l l (j : Int) = some true
  | 0, j, e => by
    unfold conventicleref03_Same.l0
    rw [if_neg (by omega)]
  | m + 1, j, e => by
    unfold conventicleref03_Same.l0
    rw [if_pos (by omega), if_pos (by omega), if_pos (by omega), if_pos rfl]
    have e2 : wrap64 ((j : Int) + 1) = ((j + 1 : Nat) : Int) := by rw [show wrap64 ((j : Int) + 1) = (j : Int) + 1 from by unfold wrap64; omega]; omega
    rw [e2]
    exact same03_l l h m (j + 1) (by omega)
theorem same03_self (l : List Int) (h : l.length ≤ 9223372036854775807) : conventicleref03_Same.f (l.length + 1) l l = some true := by
  unfold conventicleref03_Same.f
  rw [if_pos rfl]
  exact same03_l l h l.length 0 (by omega)
theorem dlive_is (w : World) (g b : Nat) (me : Int) (xs : List S31) (A : Option Addr) (c v : Nat) (he : liveN xs = v) (hD : DocB w g b me xs A c) (hl : xs.length ≤ 4000) :
    Calls Tryd.prog 41 #[.pointer (some ⟨g, 0, none⟩)] w fun e w' => e = .returned (.int .u64 v) ∧ Below w.heap.size w w' := by
  subst he
  exact dlive_walk w g b me xs A c hD hl
theorem RollB.stp {w w' : World} {g gd : Nat} {R : RollS} {ρ ρ' : Option Nat} (h : RollB w g R) (hs : Stp w w' gd ρ ρ') (hne : g ≠ gd) (hρ : some g ≠ ρ) : RollB w' g R := (hs.keep.2 g (blk_lt h) hne hρ).trans h
theorem own_ne {w : World} {gd b gr : Nat} {me : Int} {xs : List S31} {A : Option Addr} {c : Nat} (h : DocB w gd b me xs A c) (hg : gr < b) : some gr ≠ (Value.slice A xs.length c).ownBlock := fun e => by
  have := Kd.R_base h.row gr e.symm
  omega
theorem DocB.keep {w w' : World} {gd b gr : Nat} {me : Int} {xs : List S31} {A : Option Addr} {c : Nat} (h : DocB w gd b me xs A c) (hk : KeepBut w w' gr none) (hg : gr < b) : DocB w' gd b me xs A c := by
  have hge := h.ge
  refine ⟨hge, (hk.2 gd (blk_lt h.blk) (by omega) (by simp)).trans h.blk, ?_⟩
  exact Kd.R_mono (Kd.R_step (Kd.R_bound h.row) (fun q hq hlt => hk.2 q hlt (by have := hq.2.1; omega) (by simp))) (fun q hq => hq.1)
theorem at_sl31 {w : World} {A : Option Addr} {n : Nat} {xs : List (List S31)} (h : Kd.C (Kd.slice 31 k31) w A n xs) (i : Int) (h0 : 0 ≤ i) (h1 : i < n) : ∃ ad As cs, A = some ad ∧ w.cell? (ad.add i.toNat) = some (.slice As (xs.getD i.toNat []).length cs) ∧ (xs.getD i.toNat []).length ≤ cs ∧ Kd.C k31 w As (xs.getD i.toNat []).length (xs.getD i.toNat []) := by
  obtain ⟨ad, c, e, _, hK, hc⟩ := Kd.C_get h [] i h0 h1
  obtain ⟨As, cs, rfl, hl, hr⟩ := hK
  refine ⟨ad, As, cs, e, ?_, hl, hr⟩
  have := hc 0 _ rfl
  have e1 : i.toNat * (Kd.slice 31 k31).sz + 0 = i.toNat := by show i.toNat * 1 + 0 = _; omega
  rw [e1] at this
  exact this
theorem merge_gen (w0 w : World) (g : Nat) (R R1 : RollS) (A : Option Addr) (c : Nat) (l : List S31) (ok : Bool) (er : Int) (NW : List S31) (he : hearL R l = (R1, ok)) (her : er = if ok = true then 0 else 60) (hnw : NW = if ok = true then newsL R R1 else []) (hok : OkR R) (hl : ∀ u ∈ l, OkU u) (hr : Kd.C k31 w A l.length l) (hne : ∀ ad, A = some ad → 0 < l.length → ad.block ≠ g) (hT : Aside0 (TabT w)) (hR : RollB w g R) (hg : w0.heap.size ≤ g) (hB : Below w0.heap.size w0 w) :
    Calls Tryd.prog 15 #[.pointer (some ⟨g, 0, none⟩), .slice A l.length c] w fun e w' => ∃ v, e = .returned (.tuple #[v, .int .i64 er]) ∧ Kd.R k31 31 w' w.heap.size (fun _ => True) v NW ∧ RollB w' g R1 ∧ Below w0.heap.size w0 w' ∧ KeepBut w w' g none := by
  subst her hnw
  have := merge_walk w0 w g R A c l hok hl hr hne hT hR hg hB
  unfold mergeN at this
  rwa [he] at this
set_option maxRecDepth 100000 in
set_option maxHeartbeats 4000000 in
theorem same_walk (w : World) (gr gd b k : Nat) (i : Int) (R : RollS) (xs : List S31) (A : Option Addr) (c : Nat) (hV : RV R k i) (hD : DRel R xs) (hl : xs.length ≤ 4000) (hR : RollB w gr R) (hB : DocB w gd b k xs A c) (hT : Aside0 (TabT w)) :
    Calls Tryd.prog 23 #[.pointer (some ⟨gr, 0, none⟩), .pointer (some ⟨gd, 0, none⟩)] w fun e w' => e = .returned (.bool true) ∧ Below w.heap.size w w' := by
  obtain ⟨L, hL⟩ : ∃ L, allL R = L := ⟨_, rfl⟩
  have hL2 : dAll xs 64 = L := by rw [hD.all, hL]
  obtain ⟨v, hv⟩ : ∃ v, liveN (allL R) = v := ⟨_, rfl⟩
  have hv2 : liveN xs = v := by rw [hD.live hV, hv]
  obtain ⟨O, hO⟩ : ∃ O, othersL R = O := ⟨_, rfl⟩
  have hO2 : bandL (clr (liveN xs) (bitN (k : Int))) = O := by rw [← hO]; unfold othersL; rw [hv2, hv, hV.inv.me]
  have hOl : O.length ≤ 64 := by rw [← hO2]; exact bandL_length _
  have hg : dGet xs (k : Int) = (⟨k, i, 0⟩, true) := by
    rw [hD.get]
    unfold getR
    rw [if_pos hV.has, Int.toNat_natCast, hV.inv.mine]
  have hs3 := same03_self O (by omega)
  have HL := Aside0.mk hL
  have HL2 := Aside0.mk hL2
  have HV := Aside0.mk hv
  have HV2 := Aside0.mk hv2
  have HO := Aside0.mk hO
  have HO2 := Aside0.mk hO2
  have HG := Aside0.mk hg
  have HI := Aside0.mk hV.inv
  have HS3 := Aside0.mk hs3
  have HR := Aside0.mk hR
  have HD := Aside0.mk hB
  have HP := Aside0.mk (tab_pos hT.out)
  clear hL hL2 hv hv2 hO hO2 hg hV hD hR hB hs3
  go_enter Tryd.func23, Tryd.ntmps23
  go_wp2_with (first
    | (go_at_call 16; refine (all_is _ gr R L HL.out HI.out.ok hT HR.out).mono ?_; rintro e w1 ⟨A1, c1, rfl, hc_, ho_, hb_⟩; have HC1 := Aside0.mk hc_; have HO1 := Aside0.mk ho_; have HB1 := Aside0.mk hb_; clear hc_ ho_ hb_)
    | (go_at_call 40; refine (dall_walk _ gd b k xs A c (HD.out.below HB1.out) hl).mono ?_; rintro e w2 ⟨v2, rfl, ho_, hb_⟩; rw [HL2.out] at ho_; obtain ⟨A2, c2, rfl⟩ := Kd.R_slice ho_; have HR2 := Aside0.mk ho_; have HB2 := Aside0.mk (below_step HB1.out hb_); have HO12 := Aside0.mk (Kd.R_below HO1.out hb_); clear ho_ hb_)
    | (go_at_call 17; refine (same_is _ A1 A2 c1 c2 L (Kd.R_reads' HO12.out).2.2 HC1.out (Kd.R_reads' HR2.out).2.2 (Kd.R_reads' HR2.out).2.1).mono ?_; rintro e w3 ⟨rfl, hb_⟩; have HB3 := Aside0.mk (below_step HB2.out hb_); clear hb_)
    | (go_at_call 18; refine (live_is _ gr R v HV.out HI.out.ok.has ⟨tab_belowN hT.out HP.out HB3.out⟩ (RollB.below (R := R) HR.out HB3.out)).mono ?_; rintro e w4 ⟨rfl, hb_⟩; have HB4 := Aside0.mk (below_step HB3.out hb_); clear hb_)
    | (go_at_call 41; refine (dlive_is _ gd b k xs A c v HV2.out (HD.out.below HB4.out) hl).mono ?_; rintro e w5 ⟨rfl, hb_⟩; have HB5 := Aside0.mk (below_step HB4.out hb_); clear hb_)
    | (go_at_call 26; refine (others_walk _ gr R HI.out.ok.has ⟨tab_belowN hT.out HP.out HB5.out⟩ (RollB.below (R := R) HR.out HB5.out)).mono ?_; rintro e w6 ⟨v6, rfl, ho_, hb_⟩; rw [HO.out] at ho_; obtain ⟨A6, c6, rfl⟩ := Kd.R_slice ho_; have HO6 := Aside0.mk ho_; have HB6 := Aside0.mk (below_step HB5.out hb_); clear ho_ hb_)
    | (go_at_call 43; refine (dothers_walk _ gd b k xs A c (HD.out.below HB6.out) hl).mono ?_; rintro e w7 ⟨v7, rfl, ho_, hb_⟩; rw [HO2.out] at ho_; obtain ⟨A7, c7, rfl⟩ := Kd.R_slice ho_; have HO7 := Aside0.mk ho_; have HO67 := Aside0.mk (Kd.R_below HO6.out hb_); have HB7 := Aside0.mk (below_step HB6.out hb_); clear ho_ hb_)
    | (go_at_call 42; refine (conventicleref03_Same.calls (O.length + 1) A6 c6 O A7 c7 O true _ (Kd.R_reads' HO67.out).2.2 (Kd.R_reads' HO67.out).2.1 (Kd.R_reads' HO7.out).2.2 (Kd.R_reads' HO7.out).2.1 HS3.out).mono ?_; rintro e w8 ⟨rfl, ⟨nd, rfl⟩⟩; have HB8 := Aside0.mk (pw_below_drewN HB7.out nd))
    | (go_at_call 13; refine (mine_is _ gr R k i HI.out (RollB.below (R := R) HR.out HB8.out)).mono ?_; rintro e w9 ⟨rfl, hb_⟩; have HB9 := Aside0.mk (below_step HB8.out hb_); clear hb_)
    | (go_at_call 44; refine (dmine_walk _ gd b k xs A c ⟨k, i, 0⟩ true HG.out (HD.out.below HB9.out) hl).mono ?_; rintro e w10 ⟨rfl, hb_⟩; have HB10 := Aside0.mk (below_step HB9.out hb_); clear hb_))
  go_ret
  exact ⟨rfl, HB10.out⟩

set_option maxRecDepth 100000 in
set_option maxHeartbeats 8000000 in
theorem acts_walk (w : World) (AL AA : Option Addr) (cl ca0 : Nat) (l : List S31) (all : List (List S31)) (a0 a3 : Int) (hl : ∀ u ∈ l, OkU u) (hall : ∀ us ∈ all, ∀ u ∈ us, OkU u) (hr : Kd.C k31 w AL l.length l) (hra : Kd.C (Kd.slice 31 k31) w AA all.length all) (hT : Aside0 (TabT w)) :
    Calls Tryd.prog 8 #[.int .i64 a0, .slice AL l.length cl, .slice AA all.length ca0, .int .i64 a3] w fun e w' => e = .returned (.bool true) ∧ Below w.heap.size w w' := by
  have HLL := Aside0.mk hr
  have HALL := Aside0.mk hra
  have HU := Aside0.mk hl
  have HUA := Aside0.mk hall
  have hllen : (l.length : Int) ≤ 9223372036854775807 := by have := hr.2.1; omega
  have halen : (all.length : Int) ≤ 9223372036854775807 := by have := hra.2.1; omega
  have HP := Aside0.mk (tab_pos hT.out)
  clear hr hra hl hall
  by_cases hc0 : 100 < l.length
  · have h1 : decide ((100 : Int) < (l.length : Int)) = true := decide_eq_true (by omega)
    have h2 : decide (100 < l.length) = true := decide_eq_true hc0
    clear hc0
    go_enter Tryd.func8, Tryd.ntmps8
    go_wp2_with (go_at_call 10; refine (shown_walk _ hT).mono ?_; rintro e w1 ⟨rfl, hb⟩; have HB1 := Aside0.mk hb; clear hb)
    go_ret
    exact ⟨rfl, HB1.out⟩
  by_cases hc1 : 10 < all.length
  · have h1 : decide ((10 : Int) < (all.length : Int)) = true := decide_eq_true (by omega)
    have h2 : decide (10 < all.length) = true := decide_eq_true hc1
    have h3 : decide ((100 : Int) < (l.length : Int)) = false := decide_eq_false (by omega)
    have h4 : decide (100 < l.length) = false := decide_eq_false hc0
    clear hc0 hc1
    go_enter Tryd.func8, Tryd.ntmps8
    go_wp2_with (go_at_call 10; refine (shown_walk _ hT).mono ?_; rintro e w1 ⟨rfl, hb⟩; have HB1 := Aside0.mk hb; clear hb)
    go_ret
    exact ⟨rfl, HB1.out⟩
  have h01 : decide ((100 : Int) < (l.length : Int)) = false := decide_eq_false (by omega)
  have h02 : decide (100 < l.length) = false := decide_eq_false hc0
  have hlen0 : l.length ≤ 100 := by omega
  have h11 : decide ((10 : Int) < (all.length : Int)) = false := decide_eq_false (by omega)
  have h12 : decide (10 < all.length) = false := decide_eq_false hc1
  have hlen1 : all.length ≤ 10 := by omega
  clear hc0 hc1
  by_cases hme : 0 ≤ a0 ∧ a0 < 64
  · obtain ⟨k, hk0⟩ : ∃ k : Nat, a0 = k := ⟨a0.toNat, by omega⟩
    subst hk0
    have hk64 : k < 64 := by omega
    have HV0 := Aside0.mk (RV.new k hk64)
    clear hme
    go_enter Tryd.func8, Tryd.ntmps8
    go_wp2_with (first
      | (go_at_call 10; refine (shown_walk _ hT).mono ?_; rintro e w1 ⟨rfl, hb⟩; have HB1 := Aside0.mk hb; clear hb)
      | (go_at_call 11; refine (new_any _ k hk64).mono ?_; rintro e w2 ⟨gr, rfl, hR_, hg_, hb_⟩; have HR2 := Aside0.mk hR_; have HGr : Aside0 (w.heap.size ≤ gr) := ⟨Nat.le_trans HB1.out.size hg_⟩; have HB2 := Aside0.mk (below_step HB1.out hb_); clear hR_ hg_ hb_)
      | (go_at_call 21; refine (dnew_yes _ k hk64).mono ?_; rintro e w3 ⟨gd, A0, c0, rfl, hD_, hb_⟩; have HD3 := Aside0.mk hD_; have HR3 := Aside0.mk (RollB.below (R := newR k) HR2.out hb_); have HB3 := Aside0.mk (below_step HB2.out hb_); have GB := Aside0.mk (blk_lt HR2.out); have HW := Aside0.mk HB2.out.size; clear hD_ hb_))
    obtain ⟨b, hb⟩ : ∃ b, w2.heap.size = b := ⟨_, rfl⟩
    rw [hb] at HD3 GB HW
    clear hb HR2 HB2 HB1
    go_loopw [11] (fun ix wr => ∃ (j : Nat) (R : RollS) (i : Int) (xs : List S31) (A : Option Addr) (c : Nat), ix = .int .i64 j ∧ Aside0 (j ≤ l.length) ∧ Aside0 (RV R k i) ∧ Aside0 (DRel R xs) ∧ Aside0 (xs.length ≤ 1 + j) ∧ Aside0 (RollB wr gr R) ∧ Aside0 (DocB wr gd b k xs A c) ∧ Aside0 (Below w.heap.size w wr))
      (fun ix _ => l.length - (intOf ix).toNat)
    case atStart => exact ⟨0, newR k, 0, [⟨k, 0, 0⟩], A0, c0, rfl, ⟨Nat.zero_le _⟩, HV0, ⟨DRel.new k hk64⟩, ⟨Nat.le_refl _⟩, HR3, HD3, HB3⟩
    case round =>
      obtain ⟨j, R, i, xs, A, c, rfl, hj, HV, HDR, HLX, HR, HD, HB⟩ := hrel
      have hxl : xs.length ≤ 4000 := by have := HLX.out; have := hj.out; omega
      by_cases hlt : j < l.length
      · obtain ⟨ad, e, hy0, hy1, hy2⟩ := at_T31 HLL.out (j : Int) (by omega) (by omega)
        simp only [Int.toNat_natCast] at hy0 hy1 hy2
        obtain rfl := e
        rw [rd31_get l j hlt] at hy0 hy1 hy2
        have hup := HU.out l[j] (List.getElem_mem hlt)
        obtain ⟨p, hp⟩ : ∃ p, p = l[j] := ⟨_, rfl⟩
        rw [← hp] at hy0 hy1 hy2 hup
        clear hp
        have Y0 := Aside0.mk hy0
        have Y1 := Aside0.mk hy1
        have Y2 := Aside0.mk hy2
        have HUP := Aside0.mk hup
        have hx0 := (HB.out.cell (World.block_lt_of_cell? w _ hy0)).trans hy0
        have hx1 := (HB.out.cell (World.block_lt_of_cell? w _ hy1)).trans hy1
        have hx2 := (HB.out.cell (World.block_lt_of_cell? w _ hy2)).trans hy2
        obtain ⟨i1, -, hV1, -⟩ := HV.out.hear p hup
        obtain ⟨a1, a2⟩ := hear_rel HV.out HDR.out p
        have a3' := dHear_len k xs p
        obtain ⟨⟨R1, b1, e1⟩, hh⟩ : ∃ q, hearR R p = q := ⟨_, rfl⟩
        obtain ⟨⟨ys, b2, e2⟩, hh2⟩ : ∃ q, dHear k xs p = q := ⟨_, rfl⟩
        rw [hh] at hV1 a1 a2
        rw [hh2] at a1 a2 a3'
        obtain ⟨rfl, rfl⟩ : b2 = b1 ∧ e2 = e1 := Prod.mk.inj a1
        have HYL : Aside0 (ys.length ≤ 1 + (j + 1)) := ⟨by have : ys.length ≤ xs.length + 1 := a3'; have := HLX.out; omega⟩
        have hle2 : ys.length ≤ 4000 := by have := HYL.out; omega
        have HH := Aside0.mk hh
        have HH2 := Aside0.mk hh2
        have HV1 := Aside0.mk hV1
        have HD1 : Aside0 (DRel R1 ys) := ⟨a2⟩
        clear hy0 hy1 hy2 hup hV1 a1 a2 a3' hh hh2
        go_wp2_with (first
          | (go_at_call 12; refine (hear_is w _ gr R p R1 _ _ HH.out HV.out.inv.ok HUP.out HR.out HGr.out HB.out).mono ?_; rintro e wa ⟨rfl, hR_, hB_, hK_⟩; have HRa := Aside0.mk hR_; have HBa := Aside0.mk hB_; have HDa := Aside0.mk (HD.out.keep hK_ GB.out); have hz0 := (HBa.out.cell (World.block_lt_of_cell? w _ Y0.out)).trans Y0.out; have hz1 := (HBa.out.cell (World.block_lt_of_cell? w _ Y1.out)).trans Y1.out; have hz2 := (HBa.out.cell (World.block_lt_of_cell? w _ Y2.out)).trans Y2.out; clear hR_ hB_ hK_)
          | (go_at_call 22; refine (dhear_is w _ gd b k hk64 xs A c p ys _ _ HH2.out HDa.out hxl HW.out HBa.out HUP.out).mono ?_; rintro e wc ⟨rfl, A', c', hD_, hB_, hS_⟩; have HDc := Aside0.mk hD_; have HBc := Aside0.mk hB_; have HRc := Aside0.mk (RollB.stp HRa.out hS_ (by have := GB.out; have := HD.out.ge; omega) (own_ne HDa.out GB.out)); clear hD_ hB_ hS_)
          | (go_at_call 23; refine (same_walk _ gr gd b k i1 R1 ys A' c' HV1.out HD1.out hle2 HRc.out HDc.out ⟨tab_belowN hT.out HP.out HBc.out⟩).mono ?_; rintro e wn ⟨rfl, hb_⟩; have HBn := Aside0.mk hb_; clear hb_))
        go_roundw
        case rel => exact ⟨j + 1, R1, i1, ys, A', c', by go_num, ⟨hlt⟩, HV1, HD1, HYL, ⟨RollB.below (R := R1) HRc.out HBn.out⟩, ⟨HDc.out.below HBn.out⟩, ⟨below_step HBc.out HBn.out⟩⟩
        case measure => simp [intOf]; omega
      · obtain rfl : j = l.length := by have := hj.out; omega
        clear hlt hj HR3 HD3 HB3 HV0
        go_wp2
        go_loopw [16] (fun ix wr => ∃ (j : Nat) (R : RollS) (i : Int) (xs : List S31) (A : Option Addr) (c : Nat), ix = .int .i64 j ∧ Aside0 (j ≤ all.length) ∧ Aside0 (RV R k i) ∧ Aside0 (DRel R xs) ∧ Aside0 (xs.length ≤ 101 + 100 * j) ∧ Aside0 (RollB wr gr R) ∧ Aside0 (DocB wr gd b k xs A c) ∧ Aside0 (Below w.heap.size w wr))
          (fun ix _ => all.length - (intOf ix).toNat)
        case atStart => exact ⟨0, R, i, xs, A, c, rfl, ⟨Nat.zero_le _⟩, HV, HDR, ⟨by have := HLX.out; omega⟩, HR, HD, HB⟩
        case round =>
          clear HV HDR HLX HR HD HB hxl
          obtain ⟨j, R, i, xs, A, c, rfl, hj, HV, HDR, HLX, HR, HD, HB⟩ := hrel
          have hxl : xs.length ≤ 1101 := by have := HLX.out; have := hj.out; omega
          by_cases hlt : j < all.length
          · obtain ⟨ad, As, cs, e, hc, hcs, hus⟩ := at_sl31 HALL.out (j : Int) (by omega) (by omega)
            simp only [Int.toNat_natCast] at hc hus
            obtain rfl := e
            have hmem : all.getD j [] ∈ all := by rw [List.getD_eq_getElem?_getD, List.getElem?_eq_getElem hlt]; exact List.getElem_mem hlt
            have huu := HUA.out _ hmem
            obtain ⟨us, hU⟩ : ∃ us, all.getD j [] = us := ⟨_, rfl⟩
            rw [hU] at hc hus huu
            have hx0 := (HB.out.cell (World.block_lt_of_cell? w _ hc)).trans hc
            have HC0 := Aside0.mk hc
            have HUS := Aside0.mk hus
            have HUU := Aside0.mk huu
            have huslen : (us.length : Int) ≤ 9223372036854775807 := by have := hus.2.1; omega
            clear hc hus huu hU hmem hcs
            by_cases hbig : 100 < us.length
            · have hd : decide ((100 : Int) < (us.length : Int)) = true := decide_eq_true (by omega)
              have hd2 : decide (100 < us.length) = true := decide_eq_true hbig
              clear hbig
              go_wp2_with (go_at_call 10; refine (shown_walk _ ⟨tab_belowN hT.out HP.out HB.out⟩).mono ?_; rintro e wn ⟨rfl, hb_⟩; have HBn := Aside0.mk (below_step HB.out hb_); clear hb_)
              go_ret
              exact ⟨rfl, HBn.out⟩
            · have hd : decide ((100 : Int) < (us.length : Int)) = false := decide_eq_false (by omega)
              have hd2 : decide (100 < us.length) = false := decide_eq_false hbig
              obtain ⟨i1, -, hV1, -⟩ := RV.hearL us R i HV.out HUU.out
              obtain ⟨a1, a2, a3'⟩ := hearL_rel us HV.out HDR.out HUU.out
              obtain ⟨⟨R1, ok⟩, hh⟩ : ∃ q, hearL R us = q := ⟨_, rfl⟩
              obtain ⟨⟨ys, ok'⟩, hh2⟩ : ∃ q, dHearL k xs us = q := ⟨_, rfl⟩
              rw [hh] at hV1 a1 a2
              rw [hh2] at a1 a2 a3'
              obtain rfl : ok' = ok := a1
              obtain ⟨er, her⟩ : ∃ er : Int, er = if ok' = true then 0 else 60 := ⟨_, rfl⟩
              obtain ⟨NW, hnw⟩ : ∃ NW, NW = if ok' = true then newsL R R1 else [] := ⟨_, rfl⟩
              have hnw2 : NW = if ok' = true then dNews (dAll xs 64) (dAll ys 64) (dAll ys 64).length else [] := by
                rw [hnw, HDR.out.all, a2.all, news_eq HV.out hV1]
              have hnl : NW.length ≤ 64 := by
                rw [hnw]
                split
                · unfold newsL; rw [List.length_map]; exact Nat.le_trans (List.length_filter_le _ _) (bandL_length _)
                · simp
              have hyl : ys.length ≤ 1101 := by have : ys.length ≤ xs.length + us.length := a3'; have := HLX.out; omega
              have HYL : Aside0 (ys.length ≤ 101 + 100 * (j + 1)) := ⟨by have : ys.length ≤ xs.length + us.length := a3'; have := HLX.out; omega⟩
              have HH := Aside0.mk hh
              have HH2 := Aside0.mk hh2
              have HER := Aside0.mk her
              have HNW := Aside0.mk hnw
              have HNW2 := Aside0.mk hnw2
              have HV1 := Aside0.mk hV1
              have HD1 : Aside0 (DRel R1 ys) := ⟨a2⟩
              have HUSr := Aside0.mk (Kd.C_below HUS.out HB.out)
              have hbig' := Aside0.mk hbig
              clear hbig hV1 a2 a3' hh hh2 her hnw hnw2
              have hle2 : ys.length ≤ 4000 := by omega
              go_wp2_with (first
                | (go_at_call 15; refine (merge_gen w _ gr R R1 As cs us ok' er NW HH.out HER.out HNW.out HV.out.inv.ok HUU.out HUSr.out (C_block HUS.out (by decide) HGr.out) ⟨tab_belowN hT.out HP.out HB.out⟩ HR.out HGr.out HB.out).mono ?_; rintro e wa ⟨v_, rfl, ho_, hR_, hB_, hK_⟩; obtain ⟨Aa, ca, rfl⟩ := Kd.R_slice ho_; have HRa := Aside0.mk hR_; have HBa := Aside0.mk hB_; have HDa := Aside0.mk (HD.out.keep hK_ GB.out); have HOa := Aside0.mk ho_; have NG : Aside0 ((Value.slice Aa NW.length ca).ownBlock ≠ some gd) := ⟨fun e => by have := Kd.R_base ho_ gd e; have := blk_lt HD.out.blk; omega⟩; have NR : Aside0 (∀ q, (Value.slice Aa NW.length ca).ownBlock = some q → some q ≠ (Value.slice A xs.length c).ownBlock) := ⟨fun q hq e => by have := Kd.R_base ho_ q hq; have := Kd.R_lt HD.out.row q e.symm; omega⟩; have hx1 := (HBa.out.cell (World.block_lt_of_cell? w _ HC0.out)).trans HC0.out; clear ho_ hR_ hB_ hK_)
                | (go_at_call 24; refine (dmerge_walk w _ gd b k hk64 xs A c As cs us HDa.out (by have := hbig'.out; omega) HW.out HBa.out HUU.out HUS.out ys ok' er NW HH2.out HER.out HNW2.out).mono ?_; rintro e wb ⟨v_, rfl, ho_, A', c', hD_, hB_, hS_⟩; obtain ⟨Ab, cb, rfl⟩ := Kd.R_slice ho_; have HDb := Aside0.mk hD_; have HBb := Aside0.mk hB_; have HOb := Aside0.mk ho_; have HRb := Aside0.mk (RollB.stp HRa.out hS_ (by have := GB.out; have := HD.out.ge; omega) (own_ne HDa.out GB.out)); have HOab := Aside0.mk (R_stp HOa.out hS_ NG.out NR.out).1; clear ho_ hD_ hB_ hS_)
                | (go_at_call 17; refine (same_is _ Aa Ab ca cb NW (Kd.R_reads' HOab.out).2.2 (Kd.R_reads' HOab.out).2.1 (Kd.R_reads' HOb.out).2.2 (Kd.R_reads' HOb.out).2.1).mono ?_; rintro e wc ⟨rfl, hb_⟩; have HBc := Aside0.mk (below_step HBb.out hb_); have HRc := Aside0.mk (RollB.below (R := R1) HRb.out hb_); have HDc := Aside0.mk (HDb.out.below hb_); clear hb_)
                | (go_at_call 23; refine (same_walk _ gr gd b k i1 R1 ys A' c' HV1.out HD1.out hle2 HRc.out HDc.out ⟨tab_belowN hT.out HP.out HBc.out⟩).mono ?_; rintro e wn ⟨rfl, hb_⟩; have HBn := Aside0.mk hb_; clear hb_))
              go_roundw
              case rel => exact ⟨j + 1, R1, i1, ys, A', c', by go_num, ⟨hlt⟩, HV1, HD1, HYL, ⟨RollB.below (R := R1) HRc.out HBn.out⟩, ⟨HDc.out.below HBn.out⟩, ⟨below_step HBc.out HBn.out⟩⟩
              case measure => simp [intOf]; omega
          · obtain rfl : j = all.length := by have := hj.out; omega
            obtain ⟨⟨u, bb⟩, hg⟩ : ∃ q, getR R a3 = q := ⟨_, rfl⟩
            have HG := Aside0.mk hg
            have HG2 : Aside0 (dGet xs a3 = (u, bb)) := ⟨by rw [HDR.out.get, hg]⟩
            have hxl4 : xs.length ≤ 4000 := by omega
            clear hg hlt hj
            go_upto_region 26 with (first | (go_at_call 14; (with_reducible refine (get_is _ gr R a3 u bb HG.out HV.out.inv.ok HR.out).mono ?_); rintro e wg ⟨rfl, hb_⟩; have HBg := Aside0.mk hb_; clear hb_) | ((with_reducible refine gate_dst (N := 21) rfl ?_); refine box_event ?hg (N := 21) ?hd (cs := #[.int .i64 0, .int .u64 0, .int .i64 0]) (t := 31) ?hr ?_; (case hd => rfl); (case hg => rfl); (case hr => first | (go_simp; done) | (go_simp; rfl)); intro g21 hg_ wc hb_ hB_; have K21 := Aside0.mk hb_; have L21 := Aside0.mk (show wr.heap.size ≤ g21 from (by rw [hg_]; exact HBg.out.size)); have HBc := Aside0.mk (below_step HBg.out hB_); have z0 := (blk_cell K21.out 0).trans rfl; have z1 := (blk_cell K21.out 1).trans rfl; have z2 := (blk_cell K21.out 2).trans rfl; have zf := fun j => blk_frozen K21.out j; clear hg_ hb_ hB_))
            have J21 : Aside0 ((((wc.setCell ⟨g21, 0, none⟩ (.int .i64 u.f0)).setCell ⟨g21, 1, none⟩ (.int .u64 u.f1)).setCell ⟨g21, 2, none⟩ (.int .i64 u.f2)).heap[g21]? = some (.cells #[.int .i64 u.f0, .int .u64 u.f1, .int .i64 u.f2] 31 (0, 0))) := ⟨blk_put (cs := #[.int .i64 u.f0, .int .u64 u.f1, .int .i64 0]) (blk_put (cs := #[.int .i64 u.f0, .int .u64 0, .int .i64 0]) (blk_put (cs := #[.int .i64 0, .int .u64 0, .int .i64 0]) K21.out 0 _ rfl) 1 _ rfl) 2 _ rfl⟩
            have HBd : Aside0 (Below wr.heap.size wr (((wc.setCell ⟨g21, 0, none⟩ (.int .i64 u.f0)).setCell ⟨g21, 1, none⟩ (.int .u64 u.f1)).setCell ⟨g21, 2, none⟩ (.int .i64 u.f2))) := ⟨below_set (below_set (below_set HBc.out L21.out) L21.out) L21.out⟩
            clear z0 z1 z2 zf HBc K21 L21
            generalize ((wc.setCell ⟨g21, 0, none⟩ (.int .i64 u.f0)).setCell ⟨g21, 1, none⟩ (.int .u64 u.f1)).setCell ⟨g21, 2, none⟩ (.int .i64 u.f2) = wd at J21 HBd ⊢
            clear HBg
            go_upto_region 27 with (first | (go_at_call 25; (with_reducible refine (dget_is _ gd b k a3 xs A c u bb HG2.out (HD.out.below HBd.out) hxl4).mono ?_); rintro e wg ⟨rfl, hb_⟩; have HBg := Aside0.mk hb_; clear hb_) | ((with_reducible refine gate_dst (N := 23) rfl ?_); refine box_event ?hg (N := 23) ?hd (cs := #[.int .i64 0, .int .u64 0, .int .i64 0]) (t := 31) ?hr ?_; (case hd => rfl); (case hg => rfl); (case hr => first | (go_simp; done) | (go_simp; rfl)); intro g23 hg_ wc hb_ hB_; have K23 := Aside0.mk hb_; have L23 := Aside0.mk (show wd.heap.size ≤ g23 from (by rw [hg_]; exact HBg.out.size)); have HBc := Aside0.mk (below_step HBg.out hB_); have z0 := (blk_cell K23.out 0).trans rfl; have z1 := (blk_cell K23.out 1).trans rfl; have z2 := (blk_cell K23.out 2).trans rfl; have zf := fun j => blk_frozen K23.out j; clear hg_ hb_ hB_))
            have J23 : Aside0 ((((wc.setCell ⟨g23, 0, none⟩ (.int .i64 u.f0)).setCell ⟨g23, 1, none⟩ (.int .u64 u.f1)).setCell ⟨g23, 2, none⟩ (.int .i64 u.f2)).heap[g23]? = some (.cells #[.int .i64 u.f0, .int .u64 u.f1, .int .i64 u.f2] 31 (0, 0))) := ⟨blk_put (cs := #[.int .i64 u.f0, .int .u64 u.f1, .int .i64 0]) (blk_put (cs := #[.int .i64 u.f0, .int .u64 0, .int .i64 0]) (blk_put (cs := #[.int .i64 0, .int .u64 0, .int .i64 0]) K23.out 0 _ rfl) 1 _ rfl) 2 _ rfl⟩
            have HBe : Aside0 (Below wd.heap.size wd (((wc.setCell ⟨g23, 0, none⟩ (.int .i64 u.f0)).setCell ⟨g23, 1, none⟩ (.int .u64 u.f1)).setCell ⟨g23, 2, none⟩ (.int .i64 u.f2))) := ⟨below_set (below_set (below_set HBc.out L23.out) L23.out) L23.out⟩
            clear z0 z1 z2 zf HBc K23 L23
            generalize ((wc.setCell ⟨g23, 0, none⟩ (.int .i64 u.f0)).setCell ⟨g23, 1, none⟩ (.int .u64 u.f1)).setCell ⟨g23, 2, none⟩ (.int .i64 u.f2) = we at J23 HBe ⊢
            have J21e := Aside0.mk (blk_below J21.out HBe.out)
            have y0 := (blk_cell J21e.out 0).trans rfl
            have y1 := (blk_cell J21e.out 1).trans rfl
            have y2 := (blk_cell J21e.out 2).trans rfl
            have x0 := (blk_cell J23.out 0).trans rfl
            have x1 := (blk_cell J23.out 1).trans rfl
            have x2 := (blk_cell J23.out 2).trans rfl
            have HBf := Aside0.mk (below_step HBd.out HBe.out)
            have HQf := Aside0.mk (below_step HB.out HBf.out)
            have HRf := Aside0.mk (RollB.below (R := R) HR.out HBf.out)
            have HDf := Aside0.mk (HD.out.below HBf.out)
            go_wp2_with (go_at_call 23; refine (same_walk _ gr gd b k i R xs A c HV.out HDR.out hxl4 HRf.out HDf.out ⟨tab_belowN hT.out HP.out HQf.out⟩).mono ?_; rintro e wz ⟨rfl, hb_⟩; have HBz := Aside0.mk hb_; clear hb_)
            go_ret
            exact ⟨rfl, below_step HQf.out HBz.out⟩
  · have hno : a0 < 0 ∨ 64 ≤ a0 := by omega
    clear hme
    go_enter Tryd.func8, Tryd.ntmps8
    go_wp2_with (first
      | (go_at_call 10; refine (shown_walk _ hT).mono ?_; rintro e w1 ⟨rfl, hb⟩; have HB1 := Aside0.mk hb; clear hb)
      | (go_at_call 11; refine (new_no _ a0 hno).mono ?_; rintro e w2 ⟨rfl, rfl⟩)
      | (go_at_call 21; refine (dnew_no _ a0 hno).mono ?_; rintro e w3 ⟨rfl, rfl⟩))
    go_ret
    exact ⟨rfl, HB1.out⟩
theorem rollActs_row (a0 : Int) (A : Option Addr) (c : Nat) (l : List S31) (B : Option Addr) (d : Nat) (all : List (List S31)) (a3 : Int) (w : World) (_ : (Lit.int .i64 a0).wf = true) (hr : Kd.C k31 w A l.length l) (_ : l.length ≤ c) (hl : ∀ u ∈ l, (Lit.int .u64 u.f1).wf = true) (hra : Kd.C (Kd.slice 31 k31) w B all.length all) (_ : all.length ≤ d) (hall : ∀ us ∈ all, ∀ u ∈ us, (Lit.int .u64 u.f1).wf = true) (_ : (Lit.int .i64 a3).wf = true) (hT : Aside0 (TabT w)) :
    Calls Tryd.prog 8 #[.int .i64 a0, .slice A l.length c, .slice B all.length d, .int .i64 a3] w fun e w' => e = .returned (.bool true) ∧ Below w.heap.size w w' :=
  acts_walk w A B c d l all a0 a3 (fun u hu => okU_wf (hl u hu)) (fun us hs u hu => okU_wf (hall us hs u hu)) hr hra hT
end Go.Proofs.YtkkcnhfbcophiaaDoor.B
end
