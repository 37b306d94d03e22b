/- By hand: the document's roll: Get, All, Live, Mine, Others, New, put, Hear. -/
import Derived.Test.YtkkcnhfbcophiaaDoorActs0

section
namespace Go.Proofs.YtkkcnhfbcophiaaDoor.B
open Go.RowKit Go.Proofs.YtkkcnhfbcophiaaDoorW.PrintWords Go.Proofs.YtkkcnhfbcophiaaDoorW.PrintLast Go.Proofs.YtkkcnhfbcophiaaDoorW.PrintMore Go.Proofs.YtkkcnhfbcophiaaDoor.Band Go.Proofs.YtkkcnhfbcophiaaDoor.Pure
set_option linter.unusedSimpArgs false
set_option linter.unusedVariables false

/-- block g is the document's roll: of me, that knows xs; its row is its own, from b on -/
structure DocB (w : World) (g b : Nat) (me : Int) (xs : List S31) (A : Option Addr) (c : Nat) : Prop where
  ge : b ≤ g
  blk : w.heap[g]? = some (.cells #[.int .i64 me, .slice A xs.length c] 66 (0, 0))
  row : Kd.R k31 31 w b (fun k => k ≠ g) (.slice A xs.length c) xs
theorem DocB.below {w W : World} {g b : Nat} {me : Int} {xs : List S31} {A : Option Addr} {c : Nat} (h : DocB w g b me xs A c) (hb : Below w.heap.size w W) : DocB W g b me xs A c :=
  ⟨h.ge, blk_below h.blk hb, Kd.R_below h.row hb⟩
theorem rlive_f (u : S31) : conventicleref06_Live.f u.f0 u.f1 u.f2 = some (isLive u) := by
  unfold conventicleref06_Live.f isLive
  by_cases h : u.f2 = 0
  · rw [if_pos h]; congr 1; symm; rw [decide_eq_true_iff]; omega
  · rw [if_neg h]; congr 1
    by_cases h1 : u.f2 = 1
    · rw [h1]; rfl
    · rw [beq_eq_false_iff_ne.2 h1]; symm; rw [decide_eq_false_iff_not]; omega
theorem meas_lit3 (t j : Nat) (h : j < t) (ht : t ≤ 1000000) : t - (intOf (.int .i64 (wrap64 ((j : Int) + 1)))).toNat < t - (intOf (.int .i64 (j : Int))).toNat := by
  rw [show wrap64 ((j : Int) + 1) = ((j + 1 : Nat) : Int) by unfold wrap64; omega]
  simp only [intOf, Int.toNat_natCast]
  omega
set_option maxRecDepth 100000 in
set_option maxHeartbeats 1000000 in
theorem dget_walk (w : World) (g b : Nat) (me n : Int) (xs : List S31) (A : Option Addr) (c : Nat) (hD : DocB w g b me xs A c) (hl : xs.length ≤ 4000) :
    Calls Tryd.prog 25 #[.pointer (some ⟨g, 0, none⟩), .int .i64 n] w fun e w' => e = .returned (.tuple #[.agg #[.int .i64 (dGet xs n).1.f0, .int .u64 (dGet xs n).1.f1, .int .i64 (dGet xs n).1.f2], .bool (dGet xs n).2]) ∧ Below w.heap.size w w' := by
  have HD := Aside0.mk hD
  clear hD
  go_enter Tryd.func25, Tryd.ntmps25
  go_wp2_with ((with_reducible refine gate_dst (N := 4) rfl ?_); refine box_event ?hg (N := 4) ?hd (cs := #[.int .i64 0, .int .u64 0, .int .i64 0]) (t := 31) ?hr ?_; (case hd => rfl); (case hg => rfl); (case hr => first | (go_simp; done) | (go_simp; rfl)); intro g1 hg1 w1 hb1 hB1; have G1 := Aside0.mk hg1; have K1 := Aside0.mk hb1; have B1 := Aside0.mk hB1; have HC := Aside0.mk (Kd.C_below (Kd.R_reads' HD.out.row).2.2 hB1); have hc1 := (blk_cell (blk_below HD.out.blk hB1) 1).trans rfl; have c0 := (blk_cell K1.out 0).trans rfl; have c1 := (blk_cell K1.out 1).trans rfl; have c2 := (blk_cell K1.out 2).trans rfl; have fr := fun j => blk_frozen K1.out j; clear hg1 hb1 hB1)
  have L1 : w.heap.size ≤ g1 := by rw [G1.out]; exact Nat.le_refl _
  go_loopw [6] (fun i wr => ∃ j : Nat, i = .int .i64 j ∧ wr = w1 ∧ Aside0 (j ≤ xs.length) ∧ Aside0 (∀ i (h : i < xs.length), i < j → xs[i].f0 ≠ n)) (fun i _ => xs.length - (intOf i).toNat)
  case atStart => exact ⟨0, rfl, rfl, ⟨Nat.zero_le _⟩, ⟨fun i _ h => absurd h (Nat.not_lt_zero i)⟩⟩
  case round =>
    obtain ⟨j, rfl, rfl, hj, hno⟩ := hrel
    by_cases hlt : j < xs.length
    · obtain ⟨ad, e, hx0, hx1, hx2⟩ := at_T31 HC.out (j : Int) (by omega) (by omega)
      simp only [Int.toNat_natCast] at hx0 hx1 hx2
      obtain rfl := e
      rw [rd31_get xs j hlt] at hx0 hx1 hx2
      have hno2 := fun (he : xs[j].f0 = n) => dGet_at xs n j hlt he hno.out
      have hno3 : xs[j].f0 ≠ n → ∀ i (h : i < xs.length), i < j + 1 → xs[i].f0 ≠ n := fun hne i h hi => by
        by_cases e : i = j
        · subst e; exact hne
        · exact hno.out i h (by omega)
      have HN2 := Aside0.mk hno2
      have HN3 := Aside0.mk hno3
      obtain ⟨p, hp⟩ : ∃ p, p = xs[j] := ⟨_, rfl⟩
      rw [← hp] at hx0 hx1 hx2 HN2 HN3
      clear hno2 hno3 hp
      by_cases he : p.f0 = n
      · have hd : (p.f0 == n) = true := beq_iff_eq.2 he
        have hres := Aside0.mk (HN2.out he)
        clear he HN2 HN3
        go_wp2
        refine bodyPost_ret (results_ct rfl _ _ g1 31 #[.int .i64 p.f0, .int .u64 p.f1, .int .i64 p.f2] (0, 0) _ rfl (by refine blk_put (cs := #[.int .i64 p.f0, .int .u64 p.f1, .int .i64 0]) ?_ 2 _ rfl; refine blk_put (cs := #[.int .i64 p.f0, .int .u64 0, .int .i64 0]) ?_ 1 _ rfl; refine blk_put (cs := #[.int .i64 0, .int .u64 0, .int .i64 0]) ?_ 0 _ rfl; exact K1.out) Tryd.underlying31 rfl (by kernel_rfl)) rfl ?_
        exact ⟨by rw [hres.out]; rfl, by repeat (first | exact B1.out | refine below_set ?_ L1)⟩
      · have hd : (p.f0 == n) = false := beq_eq_false_iff_ne.2 he
        have HN4 := Aside0.mk (HN3.out he)
        clear he HN2 HN3
        go_wp2
        go_roundw
        case rel => exact ⟨j + 1, by go_num, by first | rfl | trivial, ⟨hlt⟩, HN4⟩
        case measure => simp [intOf]; omega
    · obtain rfl : j = xs.length := by have := hj.out; omega
      have hres := Aside0.mk (dGet_no xs n (fun i h => hno.out i h h))
      go_wp2
      refine bodyPost_ret (results_ct rfl _ _ g1 31 #[.int .i64 0, .int .u64 0, .int .i64 0] (0, 0) _ rfl (by refine blk_put (cs := #[.int .i64 0, .int .u64 0, .int .i64 0]) ?_ 2 _ rfl; refine blk_put (cs := #[.int .i64 0, .int .u64 0, .int .i64 0]) ?_ 1 _ rfl; refine blk_put (cs := #[.int .i64 0, .int .u64 0, .int .i64 0]) ?_ 0 _ rfl; exact K1.out) Tryd.underlying31 rfl (by kernel_rfl)) rfl ?_
      exact ⟨by rw [hres.out]; rfl, by repeat (first | exact B1.out | refine below_set ?_ L1)⟩
theorem dget_is (w : World) (g b : Nat) (me n : Int) (xs : List S31) (A : Option Addr) (c : Nat) (u : S31) (bb : Bool) (he : dGet xs n = (u, bb)) (hD : DocB w g b me xs A c) (hl : xs.length ≤ 4000) :
    Calls Tryd.prog 25 #[.pointer (some ⟨g, 0, none⟩), .int .i64 n] w fun e w' => e = .returned (.tuple #[.agg #[.int .i64 u.f0, .int .u64 u.f1, .int .i64 u.f2], .bool bb]) ∧ Below w.heap.size w w' := by
  have := dget_walk w g b me n xs A c hD hl
  rwa [he] at this
set_option maxRecDepth 100000 in
set_option maxHeartbeats 1000000 in
theorem dall_walk (w1 : World) (g b : Nat) (me : Int) (xs : List S31) (A : Option Addr) (c : Nat) (hD : DocB w1 g b me xs A c) (hl : xs.length ≤ 4000) :
    Calls Tryd.prog 40 #[.pointer (some ⟨g, 0, none⟩)] w1 fun e w' => ∃ v, e = .returned v ∧ Kd.R k31 31 w' w1.heap.size (fun _ => True) v (dAll xs 64) ∧ Below w1.heap.size w1 w' := by
  have HD := Aside0.mk hD
  clear hD
  go_enter Tryd.func40, Tryd.ntmps40
  go_wp2_with (first | ((with_reducible refine gate_dst (N := 7) rfl ?_); refine Kd.R_lit k31 _ 31 ?hg (N := 7) ?hd (xs := ([] : List S31)) (inner := []) (ok := fun _ => True) (okp := fun _ => True) ?hr ?hp (fun _ hk => hk) trivial (Below.refl _ _) (Nat.le_refl _) (by simp) ?_; (case hd => rfl); (case hg => rfl); (case hr => first | (go_simp; done) | (go_simp; rfl)); (case hp => exact (Reps.none _ _)); intro v_ w1x ho_ hb_ hg_ hnew_; have HOl := Aside0.mk ho_; have HBl := Aside0.mk hb_; clear ho_ hb_ hg_ hnew_))
  go_loopw [3, 4] (fun v i wr => ∃ n : Nat, i = .int .i64 n ∧ Aside0 (n ≤ 64) ∧ Aside0 (Kd.R k31 31 wr w1.heap.size (fun _ => True) v (dAll xs n)) ∧ Aside0 (Below w1.heap.size w1 wr))
    (fun _ i _ => 64 - (intOf i).toNat)
  case atStart => exact ⟨0, rfl, ⟨Nat.zero_le _⟩, HOl, HBl⟩
  case round =>
    rename_i vrow wr
    obtain ⟨n, rfl, hn, HO, HB⟩ := hrel
    clear HOl HBl
    have HBw := HB
    by_cases hlt : n < 64
    · have hd : decide ((n : Int) < 64) = true := decide_eq_true (by omega)
      have hd2 : decide (n < 64) = true := decide_eq_true hlt
      have hta := dAll_succ xs n
      have hle : (dAll xs n).length ≤ 64 := Nat.le_trans (dAll_len xs n) (by omega)
      obtain ⟨⟨u, bb⟩, hg⟩ : ∃ q, dGet xs (n : Int) = q := ⟨_, rfl⟩
      have HG := Aside0.mk hg
      clear hg hlt
      cases bb
      · rw [HG.out] at hta
        rw [if_neg (show ¬ (u, false).2 = true from Bool.false_ne_true)] at hta
        have HTA := Aside0.mk hta
        clear hta
        go_upto_region 6 with (first | (go_at_call 25; (with_reducible refine (dget_is _ g b me n xs A c u false HG.out (HD.out.below (HBw.out)) hl).mono ?_); rintro e wg ⟨rfl, hb_⟩; have HBg := Aside0.mk (below_step HB.out hb_); have HGw := Aside0.mk hb_; clear hb_) | ((with_reducible refine gate_dst (N := 5) rfl ?_); refine box_event ?hg (N := 5) ?hd (cs := #[.int .i64 0, .int .u64 0, .int .i64 0]) (t := 31) ?hr ?_; (case hd => rfl); (case hg => rfl); (case hr => first | (go_simp; done) | (go_simp; rfl)); intro g5 hg_ wc hb_ hB_; have K5 := Aside0.mk hb_; have L5 := Aside0.mk (show w1.heap.size ≤ g5 from (by rw [hg_]; exact HBg.out.size)); have HBc := Aside0.mk (below_step HBg.out hB_); have LX := Aside0.mk (show wr.heap.size ≤ g5 from (by rw [hg_]; exact HGw.out.size)); have HCw := Aside0.mk (below_step HGw.out hB_); have z0 := (blk_cell K5.out 0).trans rfl; have z1 := (blk_cell K5.out 1).trans rfl; have z2 := (blk_cell K5.out 2).trans rfl; have zf := fun j => blk_frozen K5.out j; clear hg_ hb_ hB_))
        have HBx : Aside0 (Below wr.heap.size wr (((wc.setCell ⟨g5, 0, none⟩ (.int .i64 u.f0)).setCell ⟨g5, 1, none⟩ (.int .u64 u.f1)).setCell ⟨g5, 2, none⟩ (.int .i64 u.f2))) := ⟨below_set (below_set (below_set HCw.out LX.out) LX.out) LX.out⟩
        have J5 : Aside0 ((((wc.setCell ⟨g5, 0, none⟩ (.int .i64 u.f0)).setCell ⟨g5, 1, none⟩ (.int .u64 u.f1)).setCell ⟨g5, 2, none⟩ (.int .i64 u.f2)).heap[g5]? = some (.cells #[.int .i64 u.f0, .int .u64 u.f1, .int .i64 u.f2] 31 (0, 0))) := ⟨blk_put (cs := #[.int .i64 u.f0, .int .u64 u.f1, .int .i64 0]) (blk_put (cs := #[.int .i64 u.f0, .int .u64 0, .int .i64 0]) (blk_put (cs := #[.int .i64 0, .int .u64 0, .int .i64 0]) K5.out 0 _ rfl) 1 _ rfl) 2 _ rfl⟩
        have HBd : Aside0 (Below w1.heap.size w1 (((wc.setCell ⟨g5, 0, none⟩ (.int .i64 u.f0)).setCell ⟨g5, 1, none⟩ (.int .u64 u.f1)).setCell ⟨g5, 2, none⟩ (.int .i64 u.f2))) := ⟨below_set (below_set (below_set HBc.out L5.out) L5.out) L5.out⟩
        clear z0 z1 z2 zf HBc K5 L5
        generalize ((wc.setCell ⟨g5, 0, none⟩ (.int .i64 u.f0)).setCell ⟨g5, 1, none⟩ (.int .u64 u.f1)).setCell ⟨g5, 2, none⟩ (.int .i64 u.f2) = wd at J5 HBd HBx ⊢
        clear HBg
        have HO2 := Aside0.mk (Kd.R_mono (ok' := fun _ => True) (Kd.R_step HO.out (fun k _ hk => HBx.out.block k hk)) (fun _ _ => trivial))
        go_wp2
        have hlt : n < 64 := of_decide_eq_true hd2
        go_roundw
        case rel => exact ⟨n + 1, by (congr 1; unfold wrap64; omega), ⟨hlt⟩, ⟨by rw [HTA.out]; exact HO2.out⟩, HBd⟩
        case measure => exact meas_lit3 64 n hlt (by decide)
      · rw [HG.out] at hta
        rw [if_pos rfl] at hta
        have HTA := Aside0.mk hta
        clear hta
        go_upto_region 6 with (first | (go_at_call 25; (with_reducible refine (dget_is _ g b me n xs A c u true HG.out (HD.out.below (HBw.out)) hl).mono ?_); rintro e wg ⟨rfl, hb_⟩; have HBg := Aside0.mk (below_step HB.out hb_); have HGw := Aside0.mk hb_; clear hb_) | ((with_reducible refine gate_dst (N := 5) rfl ?_); refine box_event ?hg (N := 5) ?hd (cs := #[.int .i64 0, .int .u64 0, .int .i64 0]) (t := 31) ?hr ?_; (case hd => rfl); (case hg => rfl); (case hr => first | (go_simp; done) | (go_simp; rfl)); intro g5 hg_ wc hb_ hB_; have K5 := Aside0.mk hb_; have L5 := Aside0.mk (show w1.heap.size ≤ g5 from (by rw [hg_]; exact HBg.out.size)); have HBc := Aside0.mk (below_step HBg.out hB_); have LX := Aside0.mk (show wr.heap.size ≤ g5 from (by rw [hg_]; exact HGw.out.size)); have HCw := Aside0.mk (below_step HGw.out hB_); have z0 := (blk_cell K5.out 0).trans rfl; have z1 := (blk_cell K5.out 1).trans rfl; have z2 := (blk_cell K5.out 2).trans rfl; have zf := fun j => blk_frozen K5.out j; clear hg_ hb_ hB_))
        have HBx : Aside0 (Below wr.heap.size wr (((wc.setCell ⟨g5, 0, none⟩ (.int .i64 u.f0)).setCell ⟨g5, 1, none⟩ (.int .u64 u.f1)).setCell ⟨g5, 2, none⟩ (.int .i64 u.f2))) := ⟨below_set (below_set (below_set HCw.out LX.out) LX.out) LX.out⟩
        have J5 : Aside0 ((((wc.setCell ⟨g5, 0, none⟩ (.int .i64 u.f0)).setCell ⟨g5, 1, none⟩ (.int .u64 u.f1)).setCell ⟨g5, 2, none⟩ (.int .i64 u.f2)).heap[g5]? = some (.cells #[.int .i64 u.f0, .int .u64 u.f1, .int .i64 u.f2] 31 (0, 0))) := ⟨blk_put (cs := #[.int .i64 u.f0, .int .u64 u.f1, .int .i64 0]) (blk_put (cs := #[.int .i64 u.f0, .int .u64 0, .int .i64 0]) (blk_put (cs := #[.int .i64 0, .int .u64 0, .int .i64 0]) K5.out 0 _ rfl) 1 _ rfl) 2 _ rfl⟩
        have HBd : Aside0 (Below w1.heap.size w1 (((wc.setCell ⟨g5, 0, none⟩ (.int .i64 u.f0)).setCell ⟨g5, 1, none⟩ (.int .u64 u.f1)).setCell ⟨g5, 2, none⟩ (.int .i64 u.f2))) := ⟨below_set (below_set (below_set HBc.out L5.out) L5.out) L5.out⟩
        clear z0 z1 z2 zf HBc K5 L5
        generalize ((wc.setCell ⟨g5, 0, none⟩ (.int .i64 u.f0)).setCell ⟨g5, 1, none⟩ (.int .u64 u.f1)).setCell ⟨g5, 2, none⟩ (.int .i64 u.f2) = wd at J5 HBd HBx ⊢
        clear HBg
        have y0 := (blk_cell J5.out 0).trans rfl
        have y1 := (blk_cell J5.out 1).trans rfl
        have y2 := (blk_cell J5.out 2).trans rfl
        have HO0 := HO
        have HO := Aside0.mk (Kd.R_mono (ok' := fun _ => True) (Kd.R_step HO0.out (fun k _ hk => HBx.out.block k hk)) (fun _ _ => trivial))
        have HB0 := HB
        have HB := HBd
        go_wp2_with ((with_reducible refine gate_builtin (b := .append) (xs := #[.tmp 19, .tmp 21]) rfl ?_); at_builtin; refine Kd.R_append k31 (w0 := w1) w1.heap.size rfl (.tmp 19) (.tmp 21) 22 31 (.agg #[(.int .i64 0), (.int .u64 0), (.int .i64 0)]) 24 rfl Tryd.underlying22 info31 rfl (by decide) (by omega) _ (dAll xs n) u [.int .i64 u.f0, .int .u64 u.f1, .int .i64 u.f2] (fun _ => True) (fun _ => False) rfl rfl ?aP (fun _ hk => hk.elim) ?aF ?aO ?aB ?aS ?aL ?_; (case aP => exact k31_mkM _ _ _ u); (case aF => exact fun _ _ => trivial); (case aO => exact HO.out); (case aB => exact HB.out); (case aS => exact HB.out.size); (case aL => omega); intro v1 w2 ho hb2 hg hat; rw [← HTA.out] at ho; have HO2 := Aside0.mk ho; have HB2 := Aside0.mk hb2; clear ho hb2 hg hat)
        have hlt : n < 64 := of_decide_eq_true hd2
        go_roundw
        case rel => exact ⟨n + 1, by (congr 1; unfold wrap64; omega), ⟨hlt⟩, HO2, HB2⟩
        case measure => exact meas_lit3 64 n hlt (by decide)
    · obtain rfl : n = 64 := by have := hn.out; omega
      go_wp2
      go_ret
      exact ⟨_, rfl, HO.out, HB.out⟩
set_option maxRecDepth 100000 in
set_option maxHeartbeats 1000000 in
theorem dlive_walk (w : World) (g b : Nat) (me : Int) (xs : List S31) (A : Option Addr) (c : Nat) (hD : DocB w g b me xs A c) (hl : xs.length ≤ 4000) :
    Calls Tryd.prog 41 #[.pointer (some ⟨g, 0, none⟩)] w fun e w' => e = .returned (.int .u64 (liveN xs : Nat)) ∧ Below w.heap.size w w' := by
  have HD := Aside0.mk hD
  clear hD
  go_enter Tryd.func41, Tryd.ntmps41
  go_wp2
  go_loopw [3, 4] (fun v i wr => ∃ j : Nat, i = .int .i64 j ∧ v = .int .u64 (liveN (xs.take j) : Nat) ∧ Aside0 (j ≤ xs.length) ∧ Aside0 (Below w.heap.size w wr)) (fun _ i _ => xs.length - (intOf i).toNat)
  case atStart => exact ⟨0, rfl, by rw [List.take_zero]; rfl, ⟨Nat.zero_le _⟩, ⟨Below.refl _ _⟩⟩
  case round =>
    obtain ⟨j, rfl, rfl, hj, HB⟩ := hrel
    have hc1 := (blk_cell (blk_below HD.out.blk HB.out) 1).trans rfl
    by_cases hlt : j < xs.length
    · obtain ⟨ad, e, hx0, hx1, hx2⟩ := at_T31 (Kd.C_below (Kd.R_reads' HD.out.row).2.2 HB.out) (j : Int) (by omega) (by omega)
      simp only [Int.toNat_natCast] at hx0 hx1 hx2
      obtain rfl := e
      have hta := liveN_take xs j hlt
      obtain ⟨p, hp⟩ : ∃ p, p = rd_T31 xs (j : Int) := ⟨_, rfl⟩
      rw [← hp] at hx0 hx1 hx2 hta
      clear hp
      have hW := Aside0.mk (rwith_run (liveN (xs.take j)) (liveN_lt _) p.f0)
      have HLV := Aside0.mk (rlive_f p)
      have X0 := Aside0.mk hx0
      cases hv : isLive p
      · rw [hv] at hta HLV
        rw [if_neg (by decide)] at hta
        have HTA := Aside0.mk hta
        clear hv hta
        go_wp2_with (go_at_call 52; refine (conventicleref06_Live.calls p.f0 p.f1 p.f2 false _ HLV.out).mono ?_; rintro e w4 ⟨rfl, hd4⟩; have HB4 := Aside0.mk (below_step HB.out hd4); clear hd4)
        go_roundw
        case rel => exact ⟨j + 1, by go_num, by rw [HTA.out], ⟨hlt⟩, HB4⟩
        case measure => simp [intOf]; omega
      · rw [hv] at hta HLV
        rw [if_pos rfl] at hta
        have HTA := Aside0.mk hta
        clear hv hta
        go_wp2_with (first | (go_at_call 52; refine (conventicleref06_Live.calls p.f0 p.f1 p.f2 true _ HLV.out).mono ?_; rintro e w4 ⟨rfl, hd4⟩; have HB4 := Aside0.mk (below_step HB.out hd4); have hc1' := (blk_cell (blk_below HD.out.blk HB4.out) 1).trans rfl; have hx0' := (hd4.cell (World.block_lt_of_cell? _ _ X0.out)).trans X0.out; clear hd4) | (go_at_call 53; refine (conventicleref05_With.calls (liveN (xs.take j) : Nat) p.f0 _ _ hW.out).mono ?_; rintro e w5 ⟨rfl, ⟨nd, rfl⟩⟩))
        go_roundw
        case rel => exact ⟨j + 1, by go_num, by rw [HTA.out], ⟨hlt⟩, ⟨pw_below_drewN HB4.out nd⟩⟩
        case measure => simp [intOf]; omega
    · obtain rfl : j = xs.length := by have := hj.out; omega
      go_wp2
      go_ret
      rw [List.take_length]
      exact ⟨rfl, HB.out⟩
set_option maxRecDepth 100000 in
set_option maxHeartbeats 1000000 in
theorem dmine_walk (w : World) (g b : Nat) (me : Int) (xs : List S31) (A : Option Addr) (c : Nat) (u : S31) (bb : Bool) (he : dGet xs me = (u, bb)) (hD : DocB w g b me xs A c) (hl : xs.length ≤ 4000) :
    Calls Tryd.prog 44 #[.pointer (some ⟨g, 0, none⟩)] w fun e w' => e = .returned (.agg #[.int .i64 u.f0, .int .u64 u.f1, .int .i64 u.f2]) ∧ Below w.heap.size w w' := by
  have HD := Aside0.mk hD
  have HG := Aside0.mk he
  clear hD he
  go_enter Tryd.func44, Tryd.ntmps44
  go_upto_region 2 with (first | ((with_reducible refine gate_dst (N := 2) rfl ?_); refine box_event ?hg (N := 2) ?hd (cs := #[.int .i64 0, .int .u64 0, .int .i64 0]) (t := 31) ?hr ?_; (case hd => rfl); (case hg => rfl); (case hr => first | (go_simp; done) | (go_simp; rfl)); intro g1 hg1 w1 hb1 hB1; have G1 := Aside0.mk hg1; have K1 := Aside0.mk hb1; have B1 := Aside0.mk hB1; have hc0 := (blk_cell (blk_below HD.out.blk hB1) 0).trans rfl; clear hg1 hb1 hB1) | (go_at_call 25; refine (dget_is _ g b me me xs A c u bb HG.out (HD.out.below B1.out) hl).mono ?_; rintro e wg ⟨rfl, hb_⟩; have HBg := Aside0.mk hb_; clear hb_) | ((with_reducible refine gate_dst (N := 3) rfl ?_); refine box_event ?hg (N := 3) ?hd (cs := #[.int .i64 0, .int .u64 0, .int .i64 0]) (t := 31) ?hr ?_; (case hd => rfl); (case hg => rfl); (case hr => first | (go_simp; done) | (go_simp; rfl)); intro g3 hg_ wc hb_ hB_; have K3 := Aside0.mk hb_; have L3 := Aside0.mk (show w1.heap.size ≤ g3 from (by rw [hg_]; exact HBg.out.size)); have HBc := Aside0.mk (below_step HBg.out hB_); have z0 := (blk_cell K3.out 0).trans rfl; have z1 := (blk_cell K3.out 1).trans rfl; have z2 := (blk_cell K3.out 2).trans rfl; have zf := fun j => blk_frozen K3.out j; clear hg_ hb_ hB_))
  have J3 : Aside0 ((((wc.setCell ⟨g3, 0, none⟩ (.int .i64 u.f0)).setCell ⟨g3, 1, none⟩ (.int .u64 u.f1)).setCell ⟨g3, 2, none⟩ (.int .i64 u.f2)).heap[g3]? = some (.cells #[.int .i64 u.f0, .int .u64 u.f1, .int .i64 u.f2] 31 (0, 0))) := ⟨blk_put (cs := #[.int .i64 u.f0, .int .u64 u.f1, .int .i64 0]) (blk_put (cs := #[.int .i64 u.f0, .int .u64 0, .int .i64 0]) (blk_put (cs := #[.int .i64 0, .int .u64 0, .int .i64 0]) K3.out 0 _ rfl) 1 _ rfl) 2 _ rfl⟩
  have HBd : Aside0 (Below w1.heap.size w1 (((wc.setCell ⟨g3, 0, none⟩ (.int .i64 u.f0)).setCell ⟨g3, 1, none⟩ (.int .u64 u.f1)).setCell ⟨g3, 2, none⟩ (.int .i64 u.f2))) := ⟨below_set (below_set (below_set HBc.out L3.out) L3.out) L3.out⟩
  clear z0 z1 z2 zf HBc K3 L3
  generalize ((wc.setCell ⟨g3, 0, none⟩ (.int .i64 u.f0)).setCell ⟨g3, 1, none⟩ (.int .u64 u.f1)).setCell ⟨g3, 2, none⟩ (.int .i64 u.f2) = wd at J3 HBd ⊢
  have y0 := (blk_cell J3.out 0).trans rfl
  have y1 := (blk_cell J3.out 1).trans rfl
  have y2 := (blk_cell J3.out 2).trans rfl
  have K1d := Aside0.mk (blk_below K1.out HBd.out)
  have c0 := (blk_cell K1d.out 0).trans rfl
  have c1 := (blk_cell K1d.out 1).trans rfl
  have c2 := (blk_cell K1d.out 2).trans rfl
  have fr := fun j => blk_frozen K1d.out j
  have L1 : w.heap.size ≤ g1 := by rw [G1.out]; exact Nat.le_refl _
  have HBf := Aside0.mk (below_step B1.out HBd.out)
  go_wp2
  refine bodyPost_ret (results_cell_row rfl _ _ g1 31 #[.int .i64 u.f0, .int .u64 u.f1, .int .i64 u.f2] (0, 0) _ rfl (by refine blk_put (cs := #[.int .i64 u.f0, .int .u64 u.f1, .int .i64 0]) ?_ 2 _ rfl; refine blk_put (cs := #[.int .i64 u.f0, .int .u64 0, .int .i64 0]) ?_ 1 _ rfl; refine blk_put (cs := #[.int .i64 0, .int .u64 0, .int .i64 0]) ?_ 0 _ rfl; exact K1d.out) Tryd.underlying31 rfl (by kernel_rfl)) rfl ?_
  exact ⟨rfl, by repeat (first | exact HBf.out | refine below_set ?_ L1)⟩
set_option maxRecDepth 100000 in
set_option maxHeartbeats 1000000 in
theorem dothers_walk (w : World) (g b : Nat) (me : Int) (xs : List S31) (A : Option Addr) (c : Nat) (hD : DocB w g b me xs A c) (hl : xs.length ≤ 4000) :
    Calls Tryd.prog 43 #[.pointer (some ⟨g, 0, none⟩)] w fun e w' => ∃ v, e = .returned v ∧ Kd.R (Kd.int .i64) 3 w' w.heap.size (fun _ => True) v (bandL (clr (liveN xs) (bitN me))) ∧ Below w.heap.size w w' := by
  have HBx := Aside0.mk (below_drew1 (Below.refl w.heap.size w))
  have HDx := Aside0.mk (hD.below HBx.out)
  have HLs := Aside0.mk (rless_run (liveN xs) (liveN_lt _) me)
  have HLi : Aside0 (conventicleref05_List.f 65 (clr (liveN xs) (bitN me) : Nat) = some (bandL (clr (liveN xs) (bitN me)))) := ⟨rlist_run _ (clr_lt _ _ (liveN_lt _)) 0⟩
  clear hD
  go_enter Tryd.func43, Tryd.ntmps43
  go_wp2
  refine start_ (n := 9) (S := fun w' => w'.cell? ⟨g, 0, none⟩ = some (.int .i64 me)) (ds := []) #[false, false, false, false, false, false, false, false, false] (by kernel_rfl) rfl rfl ((blk_cell HDx.out.blk 0).trans rfl) (fun hHeld => ?_)
  generalize w.drew = w2 at HDx HBx hHeld ⊢
  refine pure_ (i := 0) (N := some 3) (v := ?_) (a' := ?_) #[true, false, false, false, false, false, false, false, false] rfl rfl (by kernel_rfl) (fun _ _ _ h => h) (Or.inl ⟨by rfl, ?_⟩) ?_ ?_
  rotate_left
  · intro w'
    go_simp
    first | done | with_reducible rfl | rfl | (simp [Instr.field, go_sem]; rfl)
  rotate_left
  · simp only [Act.put, List.setIfInBounds_toArray, List.set_cons_zero, List.set_cons_succ, i64_w, i32_w]
    rfl
  refine pure_ (i := 2) (N := some 5) (v := ?_) (a' := ?_) #[true, false, true, false, false, false, false, false, false] rfl rfl (by kernel_rfl) (fun _ _ _ h => h) (Or.inl ⟨by rfl, ?_⟩) ?_ ?_
  rotate_left
  · intro w'
    go_simp
    first | done | with_reducible rfl | rfl | (simp [Instr.field, go_sem]; rfl)
  rotate_left
  · simp only [Act.put, List.setIfInBounds_toArray, List.set_cons_zero, List.set_cons_succ, i64_w, i32_w]
    rfl
  refine pure_ (i := 3) (N := some 6) (v := ?_) (a' := ?_) #[true, false, true, true, false, false, false, false, false] rfl rfl (by kernel_rfl) (fun _ _ _ h => h) (Or.inl ⟨by rfl, ?_⟩) ?_ ?_
  rotate_left
  · intro w'
    go_simp
    first | done | with_reducible rfl | rfl | (simp [Instr.field, go_sem]; rfl)
  rotate_left
  · simp only [Act.put, List.setIfInBounds_toArray, List.set_cons_zero, List.set_cons_succ, i64_w, i32_w]
    rfl
  refine pure_ (i := 4) (N := some 7) (v := ?_) (a' := ?_) #[true, false, true, true, true, false, false, false, false] rfl rfl (by kernel_rfl) (fun _ _ _ h => h) (Or.inl ⟨by rfl, ?_⟩) ?_ ?_
  rotate_left
  · intro w'
    go_simp
    first | done | with_reducible rfl | rfl | (simp [Instr.field, go_sem]; rfl)
  rotate_left
  · simp only [Act.put, List.setIfInBounds_toArray, List.set_cons_zero, List.set_cons_succ, i64_w, i32_w]
    rfl
  refine take_ (i := 5) (N := some 8) (v := ?_) (a' := ?_) #[true, false, true, true, true, true, false, false, false] rfl rfl (by kernel_rfl) (fun _ _ _ h => h) (Or.inl ⟨by rfl, ?_⟩) hHeld ?_ ?_
  rotate_left
  · rintro w' s0
    go_simp
    first | done | with_reducible rfl | rfl | (simp [Instr.field, go_sem]; rfl)
  rotate_left
  · simp only [Act.put, List.setIfInBounds_toArray, List.set_cons_zero, List.set_cons_succ, i64_w, i32_w]
    rfl
  refine one_ (i := 1) (N := some 4) #[true, true, true, true, true, true, false, false, false] rfl rfl (by kernel_rfl) (by decide) (fun K hK => ?_)
  refine goes_ Tryd.func41 (by kernel_rfl) rfl #[.pointer (some ⟨g, 0, none⟩)] (by rfl) rfl rfl (by (try simp only [List.map_toArray, List.map_cons, List.map_nil]); first | done | rfl) ?_
  refine (dlive_walk _ g b me xs A c HDx.out hl).mono ?_
  rintro e w3 ⟨rfl, hb3⟩
  refine ⟨_, rfl, ?_⟩
  have HDx' := Aside0.mk (HDx.out.below hb3)
  have HBx' := Aside0.mk (below_step HBx.out hb3)
  clear HDx HBx hHeld
  have HDx := HDx'
  have HBx := HBx'
  clear HDx' HBx'
  refine hK _ _ ((blk_cell HDx.out.blk 0).trans rfl) (fun hHeld => ?_)
  clear hK K
  refine norm_ (a' := ?_) ?_ ?_
  rotate_left
  · show Act.put _ (some 4) _ = _
    simp only [Act.put, List.setIfInBounds_toArray, List.set_cons_zero, List.set_cons_succ, i64_w, i32_w]
    rfl
  refine one_ (i := 6) (N := some 9) #[true, true, true, true, true, true, true, false, false] rfl rfl (by kernel_rfl) (by decide) (fun K hK => ?_)
  refine goes_ Tryd.func55 (by kernel_rfl) rfl #[.int .u64 (liveN xs : Nat), .int .i64 me] (by rfl) rfl rfl (by (try simp only [List.map_toArray, List.map_cons, List.map_nil]); first | done | rfl) ?_
  refine (conventicleref05_Less.calls (liveN xs : Nat) me (clr (liveN xs) (bitN me) : Nat) _ HLs.out).mono ?_
  rintro e w' ⟨rfl, ⟨nd, rfl⟩⟩
  refine ⟨_, rfl, ?_⟩
  have HDx' := Aside0.mk (HDx.out.below (pw_below_drewN (Below.refl _ _) nd))
  have HBx' := Aside0.mk (pw_below_drewN HBx.out nd)
  clear HDx HBx hHeld
  generalize w3.drewN nd = w5 at HDx' HBx' ⊢
  have HDx := HDx'
  have HBx := HBx'
  clear HDx' HBx'
  refine hK _ _ ((blk_cell HDx.out.blk 0).trans rfl) (fun hHeld => ?_)
  clear hK K
  refine norm_ (a' := ?_) ?_ ?_
  rotate_left
  · show Act.put _ (some 9) _ = _
    simp only [Act.put, List.setIfInBounds_toArray, List.set_cons_zero, List.set_cons_succ, i64_w, i32_w]
    rfl
  refine one_ (i := 7) (N := some 10) #[true, true, true, true, true, true, true, true, false] rfl rfl (by kernel_rfl) (by decide) (fun K hK => ?_)
  refine goes_ Tryd.func54 (by kernel_rfl) rfl #[.int .u64 (clr (liveN xs) (bitN me) : Nat)] (by rfl) rfl rfl (by (try simp only [List.map_toArray, List.map_cons, List.map_nil]); first | done | rfl) ?_
  refine (conventicleref05_List.calls 65 (clr (liveN xs) (bitN me) : Nat) _ _ HLi.out).mono ?_
  rintro e w6 ⟨v6, rfl, ho6, hb6⟩
  have HO6 := Aside0.mk ho6
  have SZ := Aside0.mk HBx.out.size
  refine ⟨_, rfl, ?_⟩
  have HDx' := Aside0.mk (HDx.out.below hb6)
  have HBx' := Aside0.mk (below_step HBx.out hb6)
  clear HDx HBx hHeld
  have HDx := HDx'
  have HBx := HBx'
  clear HDx' HBx'
  refine hK _ _ ((blk_cell HDx.out.blk 0).trans rfl) (fun hHeld => ?_)
  clear hK K
  refine norm_ (a' := ?_) ?_ ?_
  rotate_left
  · show Act.put _ (some 10) _ = _
    simp only [Act.put, List.setIfInBounds_toArray, List.set_cons_zero, List.set_cons_succ, i64_w, i32_w]
    rfl
  refine pure_ (i := 8) (N := some 2) (v := ?_) (a' := ?_) #[true, true, true, true, true, true, true, true, true] rfl rfl (by kernel_rfl) (fun _ _ _ h => h) (Or.inl ⟨by rfl, ?_⟩) ?_ ?_
  rotate_left
  · intro w'
    go_simp
    first | done | with_reducible rfl | rfl | (simp [Instr.field, go_sem]; rfl)
  rotate_left
  · simp only [Act.put, List.setIfInBounds_toArray, List.set_cons_zero, List.set_cons_succ, i64_w, i32_w]
    rfl
  refine done_ (by kernel_rfl) ?_
  clear hHeld
  go_wp2
  go_ret
  exact ⟨_, rfl, Kd.R_lower HO6.out SZ.out, HBx.out⟩
set_option maxRecDepth 100000 in
set_option maxHeartbeats 1000000 in
theorem dnew_no (w : World) (n : Int) (hn : n < 0 ∨ 64 ≤ n) : Calls Tryd.prog 21 #[.int .i64 n] w fun e w' => e = .returned (.pointer none) ∧ w' = w := by
  by_cases h : n < 0
  · have h1 : decide (n < 0) = true := decide_eq_true h
    go_enter Tryd.func21, Tryd.ntmps21
    go_wp2
    go_ret
    exact ⟨rfl, rfl⟩
  · have h1 : decide (n < 0) = false := decide_eq_false h
    have h2 : decide (n ≥ 64) = true := decide_eq_true (by omega)
    have h3 : decide (64 ≤ n) = true := decide_eq_true (by omega)
    go_enter Tryd.func21, Tryd.ntmps21
    go_wp2
    go_ret
    exact ⟨rfl, rfl⟩
set_option maxRecDepth 100000 in
set_option maxHeartbeats 1000000 in
theorem dnew_yes (w : World) (k : Nat) (hk : k < 64) : Calls Tryd.prog 21 #[.int .i64 k] w fun e w' => ∃ g A c, e = .returned (.pointer (some ⟨g, 0, none⟩)) ∧ DocB w' g w.heap.size k [⟨k, 0, 0⟩] A c ∧ Below w.heap.size w w' := by
  have h1 : decide ((k : Int) < 0) = false := decide_eq_false (by omega)
  have h2 : decide ((k : Int) ≥ 64) = false := decide_eq_false (by omega)
  have h3 : decide (64 ≤ (k : Int)) = false := decide_eq_false (by omega)
  have h4 : decide (64 ≤ k) = false := decide_eq_false (by omega)
  go_enter Tryd.func21, Tryd.ntmps21
  go_wp2_with (first
    | ((with_reducible refine gate_dst (N := 12) rfl ?_); refine Kd.R_lit k31 _ 31 ?hg (N := 12) ?hd (xs := [(⟨k, 0, 0⟩ : S31)]) (inner := [.int .i64 k, .int .u64 0, .int .i64 0]) (ok := fun _ => True) (okp := fun _ => True) ?hr ?hp (fun _ hk => hk) trivial (Below.refl _ _) (Nat.le_refl _) (by simp) ?_; (case hd => rfl); (case hg => rfl); (case hr => first | (go_simp; done) | (go_simp; rfl)); (case hp => exact (show Reps (Kd.M k31 _ _ _) k31.sz ([] ++ [(⟨k, 0, 0⟩ : S31)]) ([] ++ [.int .i64 k, .int .u64 0, .int .i64 0]) from Reps.snoc (Reps.none _ _) (k31_mkM _ _ _ ⟨k, 0, 0⟩) rfl)); intro v_ w1 ho_ hb_ hg_ hnew_; obtain ⟨A, c, rfl⟩ := Kd.R_slice ho_; have HO1 := Aside0.mk ho_; have HB1 := Aside0.mk hb_; clear ho_ hb_ hg_ hnew_)
    | ((with_reducible refine gate_dst (N := 14) rfl ?_); refine box_event ?hg (N := 14) ?hd (cs := #[.int .i64 k, .slice A 1 c]) (t := 66) ?hr ?_; (case hd => rfl); (case hg => rfl); (case hr => first | (go_simp; done) | (go_simp; rfl)); intro g2 hg2 w2 hb2 hB2; have G2 := Aside0.mk hg2; have K2 := Aside0.mk hb2; have B2 := Aside0.mk hB2; clear hg2 hb2 hB2))
  go_ret
  refine ⟨g2, A, c, rfl, ⟨by rw [G2.out]; exact HB1.out.size, K2.out, ?_⟩, below_step HB1.out B2.out⟩
  exact Kd.R_below (Kd.R_mono (Kd.R_bound HO1.out) (fun j hj => by rw [G2.out]; have := hj.2.2.1; omega)) B2.out
end Go.Proofs.YtkkcnhfbcophiaaDoor.B
end
section
namespace Go.Proofs.YtkkcnhfbcophiaaDoor.B
open Go.RowKit Go.Proofs.YtkkcnhfbcophiaaDoorW.PrintWords Go.Proofs.YtkkcnhfbcophiaaDoorW.PrintLast Go.Proofs.YtkkcnhfbcophiaaDoorW.PrintMore Go.Proofs.YtkkcnhfbcophiaaDoor.Band Go.Proofs.YtkkcnhfbcophiaaDoor.Pure
set_option linter.unusedSimpArgs false
set_option linter.unusedVariables false

theorem add0 (g n : Nat) : (⟨g, 0, none⟩ : Addr).add n = ⟨g, n, none⟩ := by
  unfold Addr.add
  by_cases h : n = 0
  · subst h; simp
  · simp [h]
theorem row_at {w : World} {b gr n c : Nat} {ok : Nat → Prop} {xs : List S31} (h : Kd.R k31 31 w b ok (.slice (some ⟨gr, 0, none⟩) n c) xs) (j : Nat) (p : S31) (hp : xs[j]? = some p) : w.cell? ⟨gr, j * 3, none⟩ = some (.int .i64 p.f0) ∧ w.cell? ⟨gr, j * 3 + 1, none⟩ = some (.int .u64 p.f1) ∧ w.cell? ⟨gr, j * 3 + 2, none⟩ = some (.int .i64 p.f2) := by
  have hjl : j < xs.length := (List.getElem?_eq_some_iff.1 hp).1
  have hn := (Kd.R_reads' h).1
  obtain ⟨ad, e2, h0, h1, h2⟩ := at_T31 (Kd.R_reads' h).2.2 (j : Int) (by omega) (by omega)
  simp only [Option.some.injEq] at e2
  subst e2
  have ep : rd_T31 xs (j : Int) = p := by rw [rd31_get _ _ hjl]; exact (List.getElem?_eq_some_iff.1 hp).2
  rw [ep] at h0 h1 h2
  simp only [Int.toNat_natCast, add0] at h0 h1 h2
  exact ⟨h0, h1, h2⟩
theorem row_free {w : World} {b gr n c : Nat} {ok : Nat → Prop} {xs : List S31} (h : Kd.R k31 31 w b ok (.slice (some ⟨gr, 0, none⟩) n c) xs) (j : Nat) : w.frozen? ⟨gr, j, none⟩ = false := by
  have hn := (Kd.R_reads' h).1
  subst hn
  obtain ⟨h0, inner, ho, hr⟩ := h
  exact ho.frozenAt j
theorem set3 (l : List Value) (i : Nat) (hi : i + 2 < l.length) (x y z : Value) : ((l.set i x).set (i + 1) y).set (i + 2) z = l.take i ++ [x, y, z] ++ l.drop (i + 3) := by
  apply List.ext_getElem?
  intro k
  simp only [List.getElem?_set, List.length_set]
  by_cases h1 : k < i
  · rw [if_neg (by omega), if_neg (by omega), if_neg (by omega), List.append_assoc, List.getElem?_append_left (by rw [List.length_take]; omega), List.getElem?_take, if_pos h1]
  · rw [List.append_assoc, List.getElem?_append_right (by rw [List.length_take]; omega), List.length_take, Nat.min_eq_left (by omega)]
    by_cases h2 : k < i + 3
    · rw [List.getElem?_append_left (by simp; omega)]
      obtain h | h | h : k = i ∨ k = i + 1 ∨ k = i + 2 := by omega
      · subst h; rw [if_neg (by omega), if_neg (by omega), if_pos rfl, if_pos (by omega), Nat.sub_self]; rfl
      · subst h; rw [if_neg (by omega), if_pos rfl, if_pos (by omega), show i + 1 - i = 1 by omega]; rfl
      · subst h; rw [if_pos rfl, if_pos (by omega), show i + 2 - i = 2 by omega]; rfl
    · rw [if_neg (by omega), if_neg (by omega), if_neg (by omega), List.getElem?_append_right (by simp; omega), List.getElem?_drop]
      congr 1
      simp
      omega
theorem row_put {w : World} {b gr c : Nat} {ok : Nat → Prop} {xs : List S31} (h : Kd.R k31 31 w b ok (.slice (some ⟨gr, 0, none⟩) xs.length c) xs) (j : Nat) (hj : j < xs.length) (p : S31) :
    Kd.R k31 31 (((w.setCell ⟨gr, j * 3, none⟩ (.int .i64 p.f0)).setCell ⟨gr, j * 3 + 1, none⟩ (.int .u64 p.f1)).setCell ⟨gr, j * 3 + 2, none⟩ (.int .i64 p.f2)) b ok (.slice (some ⟨gr, 0, none⟩) (xs.set j p).length c) (xs.set j p) := by
  obtain ⟨h0, inner, ho, hr⟩ := h
  have hl : inner.length = xs.length * 3 := ho.1
  refine ⟨fun k hk => h0 k hk, ((inner.set (j * 3) (.int .i64 p.f0)).set (j * 3 + 1) (.int .u64 p.f1)).set (j * 3 + 2) (.int .i64 p.f2), ?_, ?_⟩
  · rw [List.length_set]
    exact (((ho.stored (j * 3) (.int .i64 p.f0)).1.stored (j * 3 + 1) (.int .u64 p.f1)).1.stored (j * 3 + 2) (.int .i64 p.f2)).1
  · rw [set3 inner (j * 3) (by omega)]
    have := Kd.reps_set (hr.imp_ (R' := k31.M (((w.setCell ⟨gr, j * 3, none⟩ (.int .i64 p.f0)).setCell ⟨gr, j * 3 + 1, none⟩ (.int .u64 p.f1)).setCell ⟨gr, j * 3 + 2, none⟩ (.int .i64 p.f2)) b (fun k => ok k ∧ some k ≠ (Value.slice (some ⟨gr, 0, none⟩) (xs.set j p).length c).ownBlock)) (fun q cs hq => by rw [k31_openM hq]; exact k31_mkM _ _ _ q)) hj (k31_mkM _ _ _ p) rfl
    exact this
theorem keep_rowb {w w1 : World} {g gr : Nat} (h : KeepBut w w1 g (some gr)) (j : Nat) (v : Value) : KeepBut w (w1.setCell ⟨gr, j, none⟩ v) g (some gr) :=
  ⟨by simpa [World.setCell] using h.1, fun i hi hg hr => (Below.heap_setCell w1 ⟨gr, j, none⟩ v i (fun e => hr (by rw [e]))).trans (h.2 i hi hg hr)⟩
set_option maxRecDepth 100000 in
set_option maxHeartbeats 1000000 in
theorem dput_walk (w0 w : World) (g b : Nat) (me : Int) (xs : List S31) (A : Option Addr) (c : Nat) (u : S31) (hD : DocB w g b me xs A c) (hl : xs.length ≤ 4000) (hb : w0.heap.size ≤ b) (hB : Below w0.heap.size w0 w) :
    Calls Tryd.prog 39 #[.pointer (some ⟨g, 0, none⟩), .agg #[.int .i64 u.f0, .int .u64 u.f1, .int .i64 u.f2]] w fun e w' => (∃ v, e = .returned v) ∧ ∃ A' c', DocB w' g b me (dPut xs u) A' c' ∧ Below w0.heap.size w0 w' ∧ KeepBut w w' g (Value.slice A xs.length c).ownBlock ∧ ((Value.slice A' (dPut xs u).length c').ownBlock = (Value.slice A xs.length c).ownBlock ∨ ∃ k, (Value.slice A' (dPut xs u).length c').ownBlock = some k ∧ w.heap.size ≤ k) := by
  have HD := Aside0.mk hD
  have HW := Aside0.mk hb
  have HB := Aside0.mk hB
  clear hD hb hB
  by_cases hp : 0 < xs.length
  · obtain ⟨gr, cap, e, hgb, hgl, cells, hcl⟩ := Kd.R_form HD.out.row hp
    simp only [Value.slice.injEq] at e
    obtain ⟨rfl, -, rfl⟩ := e
    have HGB := Aside0.mk (Nat.le_trans HW.out hgb)
    clear hgb hgl hcl cells
    go_enter Tryd.func39, Tryd.ntmps39
    go_wp2_with ((with_reducible refine gate_dst (N := 3) rfl ?_); refine box_event ?hg (N := 3) ?hd (cs := #[.int .i64 u.f0, .int .u64 u.f1, .int .i64 u.f2]) (t := 31) ?hr ?_; (case hd => rfl); (case hg => rfl); (case hr => first | (go_simp; done) | (go_simp; rfl)); intro g1 hg1 w1 hb1 hB1; have G1 := Aside0.mk hg1; have K1 := Aside0.mk hb1; have B1 := Aside0.mk hB1; have hc1 := (blk_cell (blk_below HD.out.blk hB1) 1).trans rfl; clear hg1 hb1 hB1)
    go_loopw [4] (fun i wr => ∃ j : Nat, i = .int .i64 j ∧ Aside0 (j ≤ xs.length) ∧ Aside0 (∀ i (h : i < xs.length), i < j → xs[i].f0 ≠ u.f0) ∧ Aside0 (Below w1.heap.size w1 wr)) (fun i _ => xs.length - (intOf i).toNat)
    case atStart => exact ⟨0, rfl, ⟨Nat.zero_le _⟩, ⟨fun i _ h => absurd h (Nat.not_lt_zero i)⟩, ⟨Below.refl _ _⟩⟩
    case round =>
      rename_i wr
      clear hc1
      obtain ⟨j, rfl, hj, hno, HBw⟩ := hrel
      have HBr := Aside0.mk (below_step HB.out (below_step B1.out HBw.out))
      have HKr := Aside0.mk (KeepBut.of_below (below_step B1.out HBw.out) g (some gr))
      have HDr := Aside0.mk (HD.out.below (below_step B1.out HBw.out))
      have Kr := Aside0.mk (blk_below K1.out HBw.out)
      have hc1 := (blk_cell HDr.out.blk 1).trans rfl
      by_cases hlt : j < xs.length
      · have hno2 := fun (he : xs[j].f0 = u.f0) => dPut_at xs u j hlt he hno.out
        have hno3 : xs[j].f0 ≠ u.f0 → ∀ i (h : i < xs.length), i < j + 1 → xs[i].f0 ≠ u.f0 := fun hne i h hi => by
          by_cases e : i = j
          · subst e; exact hne
          · exact hno.out i h (by omega)
        have hpj : xs[j]? = some xs[j] := List.getElem?_eq_getElem hlt
        have HN2 := Aside0.mk hno2
        have HN3 := Aside0.mk hno3
        obtain ⟨p, hp⟩ : ∃ p, p = xs[j] := ⟨_, rfl⟩
        rw [← hp] at HN2 HN3 hpj
        have HX : Aside0 (∀ {w : World}, DocB w g b me xs (some ⟨gr, 0, none⟩) c → w.cell? ⟨gr, j * 3, none⟩ = some (.int .i64 p.f0) ∧ w.cell? ⟨gr, j * 3 + 1, none⟩ = some (.int .u64 p.f1) ∧ w.cell? ⟨gr, j * 3 + 2, none⟩ = some (.int .i64 p.f2)) := ⟨fun h => row_at h.row j p hpj⟩
        clear hno2 hno3 hp hpj
        go_upto_region 4 with (fail)
        clear hc1
        have HDx := Aside0.mk (HDr.out.below (below_drew1 (Below.refl wr.heap.size wr)))
        have Kx : Aside0 (wr.drew.heap[g1]? = some (.cells #[.int .i64 u.f0, .int .u64 u.f1, .int .i64 u.f2] 31 (0, 0))) := ⟨blk_drew Kr.out⟩
        have HBx := Aside0.mk (below_drew1 HBr.out)
        have HKx := Aside0.mk (keep_drew HKr.out)
        have HBwx := Aside0.mk (below_drew1 (Below.refl wr.heap.size wr))
        refine start_ (n := 11) (S := fun w' => w'.cell? ⟨g, 1, none⟩ = some (.slice (some ⟨gr, 0, none⟩) xs.length c) ∧ w'.cell? ⟨gr, j * 3, none⟩ = some (.int .i64 p.f0) ∧ w'.cell? ⟨g1, 0, none⟩ = some (.int .i64 u.f0)) (ds := []) #[false, false, false, false, false, false, false, false, false, false, false] (by kernel_rfl) rfl rfl ⟨(blk_cell HDx.out.blk 1).trans rfl, (HX.out HDx.out).1, (blk_cell Kx.out 0).trans rfl⟩ (fun hHeld => ?_)
        generalize wr.drew = wx at HDx Kx HBx HKx HBwx hHeld ⊢
        refine pure_ (i := 0) (N := some 14) (v := ?_) (a' := ?_) #[true, false, false, false, false, false, false, false, false, false, false] rfl rfl (by kernel_rfl) (fun _ _ _ h => h) (Or.inl ⟨by rfl, ?_⟩) ?_ ?_
        rotate_left
        · intro w'
          go_simp
          first | done | with_reducible rfl | rfl | (simp [Instr.field, go_sem]; rfl)
        rotate_left
        · simp only [Act.put, List.setIfInBounds_toArray, List.set_cons_zero, List.set_cons_succ, i64_w, i32_w]
          rfl
        refine pure_ (i := 1) (N := some 15) (v := ?_) (a' := ?_) #[true, true, false, false, false, false, false, false, false, false, false] rfl rfl (by kernel_rfl) (fun _ _ _ h => h) (Or.inl ⟨by rfl, ?_⟩) ?_ ?_
        rotate_left
        · intro w'
          go_simp
          first | done | with_reducible rfl | rfl | (simp [Instr.field, go_sem]; rfl)
        rotate_left
        · simp only [Act.put, List.setIfInBounds_toArray, List.set_cons_zero, List.set_cons_succ, i64_w, i32_w]
          rfl
        refine pure_ (i := 2) (N := some 16) (v := ?_) (a' := ?_) #[true, true, true, false, false, false, false, false, false, false, false] rfl rfl (by kernel_rfl) (fun _ _ _ h => h) (Or.inl ⟨by rfl, ?_⟩) ?_ ?_
        rotate_left
        · intro w'
          go_simp
          first | done | with_reducible rfl | rfl | (simp [Instr.field, go_sem]; rfl)
        rotate_left
        · simp only [Act.put, List.setIfInBounds_toArray, List.set_cons_zero, List.set_cons_succ, i64_w, i32_w]
          rfl
        refine pure_ (i := 4) (N := some 18) (v := ?_) (a' := ?_) #[true, true, true, false, true, false, false, false, false, false, false] rfl rfl (by kernel_rfl) (fun _ _ _ h => h) (Or.inl ⟨by rfl, ?_⟩) ?_ ?_
        rotate_left
        · intro w'
          go_simp
          first | done | with_reducible rfl | rfl | (simp [Instr.field, go_sem]; rfl)
        rotate_left
        · simp only [Act.put, List.setIfInBounds_toArray, List.set_cons_zero, List.set_cons_succ, i64_w, i32_w]
          rfl
        refine pure_ (i := 8) (N := some 22) (v := ?_) (a' := ?_) #[true, true, true, false, true, false, false, false, true, false, false] rfl rfl (by kernel_rfl) (fun _ _ _ h => h) (Or.inl ⟨by rfl, ?_⟩) ?_ ?_
        rotate_left
        · intro w'
          go_simp
          first | done | with_reducible rfl | rfl | (simp [Instr.field, go_sem]; rfl)
        rotate_left
        · simp only [Act.put, List.setIfInBounds_toArray, List.set_cons_zero, List.set_cons_succ, i64_w, i32_w]
          rfl
        refine take_ (i := 3) (N := some 17) (v := ?_) (a' := ?_) #[true, true, true, true, true, false, false, false, true, false, false] rfl rfl (by kernel_rfl) (fun _ _ _ h => h) (Or.inl ⟨by rfl, ?_⟩) hHeld ?_ ?_
        rotate_left
        · rintro w' ⟨s0, s1, s2⟩
          go_simp
          first | done | with_reducible rfl | rfl | (simp [Instr.field, go_sem]; rfl)
        rotate_left
        · simp only [Act.put, List.setIfInBounds_toArray, List.set_cons_zero, List.set_cons_succ, i64_w, i32_w]
          rfl
        refine pure_ (i := 5) (N := some 19) (v := ?_) (a' := ?_) #[true, true, true, true, true, true, false, false, true, false, false] rfl rfl (by kernel_rfl) (fun _ _ _ h => h) (Or.inl ⟨by rfl, ?_⟩) ?_ ?_
        rotate_left
        · intro w'
          go_simp
          first | done | with_reducible rfl | rfl | (simp [Instr.field, go_sem]; rfl)
        rotate_left
        · simp only [Act.put, List.setIfInBounds_toArray, List.set_cons_zero, List.set_cons_succ, i64_w, i32_w]
          rfl
        refine pure_ (i := 6) (N := some 20) (v := ?_) (a' := ?_) #[true, true, true, true, true, true, true, false, true, false, false] rfl rfl (by kernel_rfl) (fun _ _ _ h => h) (Or.inl ⟨by rfl, ?_⟩) ?_ ?_
        rotate_left
        · intro w'
          go_simp
          first | done | with_reducible rfl | rfl | (simp [Instr.field, go_sem]; rfl)
        rotate_left
        · simp only [Act.put, List.setIfInBounds_toArray, List.set_cons_zero, List.set_cons_succ, i64_w, i32_w]
          rfl
        refine take_ (i := 7) (N := some 21) (v := ?_) (a' := ?_) #[true, true, true, true, true, true, true, true, true, false, false] rfl rfl (by kernel_rfl) (fun _ _ _ h => h) (Or.inl ⟨by rfl, ?_⟩) hHeld ?_ ?_
        rotate_left
        · rintro w' ⟨s0, s1, s2⟩
          go_simp
          first | done | with_reducible rfl | rfl | (simp [Instr.field, go_sem]; rfl)
        rotate_left
        · simp only [Act.put, List.setIfInBounds_toArray, List.set_cons_zero, List.set_cons_succ, i64_w, i32_w]
          rfl
        refine take_ (i := 9) (N := some 23) (v := ?_) (a' := ?_) #[true, true, true, true, true, true, true, true, true, true, false] rfl rfl (by kernel_rfl) (fun _ _ _ h => h) (Or.inl ⟨by rfl, ?_⟩) hHeld ?_ ?_
        rotate_left
        · rintro w' ⟨s0, s1, s2⟩
          go_simp
          first | done | with_reducible rfl | rfl | (simp [Instr.field, go_sem]; rfl)
        rotate_left
        · simp only [Act.put, List.setIfInBounds_toArray, List.set_cons_zero, List.set_cons_succ, i64_w, i32_w]
          rfl
        refine pure_ (i := 10) (N := some 24) (v := ?_) (a' := ?_) #[true, true, true, true, true, true, true, true, true, true, true] rfl rfl (by kernel_rfl) (fun _ _ _ h => h) (Or.inl ⟨by rfl, ?_⟩) ?_ ?_
        rotate_left
        · intro w'
          go_simp
          first | done | with_reducible rfl | rfl | (simp [Instr.field, go_sem]; rfl)
        rotate_left
        · simp only [Act.put, List.setIfInBounds_toArray, List.set_cons_zero, List.set_cons_succ, i64_w, i32_w]
          rfl
        refine done_ (by kernel_rfl) ?_
        clear hHeld
        by_cases he : p.f0 = u.f0
        · have hd : (p.f0 == u.f0) = true := beq_iff_eq.2 he
          have hres := Aside0.mk (HN2.out he)
          clear he HN2 HN3
          go_upto_region 5 with (fail)
          have HDr := HDx
          have Kr := Kx
          have HBr := HBx
          have HKr := HKx
          clear HDx Kx HBx HKx
          rename_i wy
          have HDx := Aside0.mk (HDr.out.below (below_drew1 (Below.refl wx.heap.size wx)))
          have Kx : Aside0 (wx.drew.heap[g1]? = some (.cells #[.int .i64 u.f0, .int .u64 u.f1, .int .i64 u.f2] 31 (0, 0))) := ⟨blk_drew Kr.out⟩
          have HBx := Aside0.mk (below_drew1 HBr.out)
          have HKx := Aside0.mk (keep_drew HKr.out)
          have HBwx := Aside0.mk (below_drew1 (Below.refl wx.heap.size wx))
          refine start_ (n := 8) (S := fun w' => w'.cell? ⟨g, 1, none⟩ = some (.slice (some ⟨gr, 0, none⟩) xs.length c) ∧ w'.cell? ⟨g1, 0, none⟩ = some (.int .i64 u.f0) ∧ w'.cell? ⟨g1, 1, none⟩ = some (.int .u64 u.f1) ∧ w'.cell? ⟨g1, 2, none⟩ = some (.int .i64 u.f2)) (ds := [7]) #[false, false, false, false, false, false, false, false] (by kernel_rfl) rfl rfl ⟨(blk_cell HDx.out.blk 1).trans rfl, (blk_cell Kx.out 0).trans rfl, (blk_cell Kx.out 1).trans rfl, (blk_cell Kx.out 2).trans rfl⟩ (fun hHeld => ?_)
          generalize wx.drew = wv at HDx Kx HBx HKx HBwx hHeld ⊢
          refine pure_ (i := 0) (N := some 25) (v := ?_) (a' := ?_) #[true, false, false, false, false, false, false, false] rfl rfl (by kernel_rfl) (fun _ _ _ h => h) (Or.inl ⟨by rfl, ?_⟩) ?_ ?_
          rotate_left
          · intro w'
            go_simp
            first | done | with_reducible rfl | rfl | (simp [Instr.field, go_sem]; rfl)
          rotate_left
          · simp only [Act.put, List.setIfInBounds_toArray, List.set_cons_zero, List.set_cons_succ, i64_w, i32_w]
            rfl
          refine pure_ (i := 1) (N := some 26) (v := ?_) (a' := ?_) #[true, true, false, false, false, false, false, false] rfl rfl (by kernel_rfl) (fun _ _ _ h => h) (Or.inl ⟨by rfl, ?_⟩) ?_ ?_
          rotate_left
          · intro w'
            go_simp
            first | done | with_reducible rfl | rfl | (simp [Instr.field, go_sem]; rfl)
          rotate_left
          · simp only [Act.put, List.setIfInBounds_toArray, List.set_cons_zero, List.set_cons_succ, i64_w, i32_w]
            rfl
          refine pure_ (i := 2) (N := some 27) (v := ?_) (a' := ?_) #[true, true, true, false, false, false, false, false] rfl rfl (by kernel_rfl) (fun _ _ _ h => h) (Or.inl ⟨by rfl, ?_⟩) ?_ ?_
          rotate_left
          · intro w'
            go_simp
            first | done | with_reducible rfl | rfl | (simp [Instr.field, go_sem]; rfl)
          rotate_left
          · simp only [Act.put, List.setIfInBounds_toArray, List.set_cons_zero, List.set_cons_succ, i64_w, i32_w]
            rfl
          refine pure_ (i := 4) (N := some 29) (v := ?_) (a' := ?_) #[true, true, true, false, true, false, false, false] rfl rfl (by kernel_rfl) (fun _ _ _ h => h) (Or.inl ⟨by rfl, ?_⟩) ?_ ?_
          rotate_left
          · intro w'
            go_simp
            first | done | with_reducible rfl | rfl | (simp [Instr.field, go_sem]; rfl)
          rotate_left
          · simp only [Act.put, List.setIfInBounds_toArray, List.set_cons_zero, List.set_cons_succ, i64_w, i32_w]
            rfl
          refine take_ (i := 3) (N := some 28) (v := ?_) (a' := ?_) #[true, true, true, true, true, false, false, false] rfl rfl (by kernel_rfl) (fun _ _ _ h => h) (Or.inl ⟨by rfl, ?_⟩) hHeld ?_ ?_
          rotate_left
          · rintro w' ⟨s0, s1, s2, s3⟩
            go_simp
            first | done | with_reducible rfl | rfl | (simp [Instr.field, go_sem]; rfl)
          rotate_left
          · simp only [Act.put, List.setIfInBounds_toArray, List.set_cons_zero, List.set_cons_succ, i64_w, i32_w]
            rfl
          refine take_ (i := 5) (N := some 30) (v := ?_) (a' := ?_) #[true, true, true, true, true, true, false, false] rfl rfl (by kernel_rfl) (fun _ _ _ h => h) (Or.inl ⟨by rfl, ?_⟩) hHeld ?_ ?_
          rotate_left
          · rintro w' ⟨s0, s1, s2, s3⟩
            go_simp
            first | done | with_reducible rfl | rfl | (simp [Instr.field, go_sem]; rfl)
          rotate_left
          · simp only [Act.put, List.setIfInBounds_toArray, List.set_cons_zero, List.set_cons_succ, i64_w, i32_w]
            rfl
          refine pure_ (i := 6) (N := some 31) (v := ?_) (a' := ?_) #[true, true, true, true, true, true, true, false] rfl rfl (by kernel_rfl) (fun _ _ _ h => h) (Or.inl ⟨by rfl, ?_⟩) ?_ ?_
          rotate_left
          · intro w'
            go_simp
            first | done | with_reducible rfl | rfl | (simp [Instr.field, go_sem]; rfl)
          rotate_left
          · simp only [Act.put, List.setIfInBounds_toArray, List.set_cons_zero, List.set_cons_succ, i64_w, i32_w]
            rfl
          refine last_ (i := 7) (N := none) #[true, true, true, true, true, true, true, true] rfl rfl (by kernel_rfl) (by decide) (fun K hK => ?_)
          obtain ⟨c0, c1, c2⟩ := HX.out HDx.out
          have fr := row_free HDx.out.row
          refine skip_ (w1 := ?_) (by rfl) rfl ?_ ?_
          rotate_left
          · go_simp
            rfl
          refine hK _ _ ?_
          clear hK K
          refine done_ (by kernel_rfl) ?_
          clear hHeld
          go_wp2
          (try simp only [Exit.inBlock, Exit.then])
          refine bodyPost_ret (results_none rfl _ _ _) rfl ?_
          rw [hres.out]
          refine ⟨⟨_, rfl⟩, some ⟨gr, 0, none⟩, c, ⟨HDx.out.ge, ?_, row_put HDx.out.row j hlt u⟩, below_set (below_set (below_set HBx.out HGB.out) HGB.out) HGB.out, keep_rowb (keep_rowb (keep_rowb HKx.out _ _) _ _) _ _, .inl rfl⟩
          rw [List.length_set]
          have ng : g ≠ gr := fun e => HDx.out.row.1 gr rfl e.symm
          exact blk_far (blk_far (blk_far HDx.out.blk ng _) ng _) ng _
        · have hd : (p.f0 == u.f0) = false := beq_eq_false_iff_ne.2 he
          have HN4 := Aside0.mk (HN3.out he)
          have HBq := Aside0.mk (below_step HBw.out (show Below wr.heap.size wr wx from HBwx.out))
          clear he HN2 HN3
          go_wp2
          go_roundw
          case rel => exact ⟨j + 1, by go_num, ⟨hlt⟩, HN4, HBq⟩
          case measure => simp [intOf]; omega
      · obtain rfl : j = xs.length := by have := hj.out; omega
        have hres := Aside0.mk (dPut_no xs u (fun i h => hno.out i h h))
        have NLE : Aside0 ((xs.length + 1) * 24 ≤ 140737488355328) := ⟨by omega⟩
        go_upto_region 6 with (fail)
        have HDx := Aside0.mk (HDr.out.below (below_drew1 (Below.refl wr.heap.size wr)))
        have Kx : Aside0 (wr.drew.heap[g1]? = some (.cells #[.int .i64 u.f0, .int .u64 u.f1, .int .i64 u.f2] 31 (0, 0))) := ⟨blk_drew Kr.out⟩
        have HBx := Aside0.mk (below_drew1 HBr.out)
        have HKx := Aside0.mk (keep_drew HKr.out)
        have HBwx := Aside0.mk (below_drew1 (Below.refl wr.heap.size wr))
        have SX : Aside0 (b ≤ wr.drew.heap.size) := ⟨Nat.le_of_lt (Nat.lt_of_le_of_lt HDx.out.ge (blk_lt HDx.out.blk))⟩
        refine start_ (n := 11) (S := fun w' => w'.cell? ⟨g, 1, none⟩ = some (.slice (some ⟨gr, 0, none⟩) xs.length c) ∧ w'.cell? ⟨g1, 0, none⟩ = some (.int .i64 u.f0) ∧ w'.cell? ⟨g1, 1, none⟩ = some (.int .u64 u.f1) ∧ w'.cell? ⟨g1, 2, none⟩ = some (.int .i64 u.f2)) (ds := [7, 10]) #[false, false, false, false, false, false, false, false, false, false, false] (by kernel_rfl) rfl rfl ⟨(blk_cell HDx.out.blk 1).trans rfl, (blk_cell Kx.out 0).trans rfl, (blk_cell Kx.out 1).trans rfl, (blk_cell Kx.out 2).trans rfl⟩ (fun hHeld => ?_)
        generalize wr.drew = wx at SX HDx Kx HBx HKx HBwx hHeld ⊢
        have BA : ∀ o, Below wx.heap.size wx (wx.alloc o) := fun o => below_alloc (Below.refl _ _) o
        refine pure_ (i := 0) (N := some 32) (v := ?_) (a' := ?_) #[true, false, false, false, false, false, false, false, false, false, false] rfl rfl (by kernel_rfl) (fun _ _ _ h => h) (Or.inl ⟨by rfl, ?_⟩) ?_ ?_
        rotate_left
        · intro w'
          go_simp
          first | done | with_reducible rfl | rfl | (simp [Instr.field, go_sem]; rfl)
        rotate_left
        · simp only [Act.put, List.setIfInBounds_toArray, List.set_cons_zero, List.set_cons_succ, i64_w, i32_w]
          rfl
        refine pure_ (i := 1) (N := some 33) (v := ?_) (a' := ?_) #[true, true, false, false, false, false, false, false, false, false, false] rfl rfl (by kernel_rfl) (fun _ _ _ h => h) (Or.inl ⟨by rfl, ?_⟩) ?_ ?_
        rotate_left
        · intro w'
          go_simp
          first | done | with_reducible rfl | rfl | (simp [Instr.field, go_sem]; rfl)
        rotate_left
        · simp only [Act.put, List.setIfInBounds_toArray, List.set_cons_zero, List.set_cons_succ, i64_w, i32_w]
          rfl
        refine pure_ (i := 2) (N := some 34) (v := ?_) (a' := ?_) #[true, true, true, false, false, false, false, false, false, false, false] rfl rfl (by kernel_rfl) (fun _ _ _ h => h) (Or.inl ⟨by rfl, ?_⟩) ?_ ?_
        rotate_left
        · intro w'
          go_simp
          first | done | with_reducible rfl | rfl | (simp [Instr.field, go_sem]; rfl)
        rotate_left
        · simp only [Act.put, List.setIfInBounds_toArray, List.set_cons_zero, List.set_cons_succ, i64_w, i32_w]
          rfl
        refine pure_ (i := 3) (N := some 35) (v := ?_) (a' := ?_) #[true, true, true, true, false, false, false, false, false, false, false] rfl rfl (by kernel_rfl) (fun _ _ _ h => h) (Or.inl ⟨by rfl, ?_⟩) ?_ ?_
        rotate_left
        · intro w'
          go_simp
          first | done | with_reducible rfl | rfl | (simp [Instr.field, go_sem]; rfl)
        rotate_left
        · simp only [Act.put, List.setIfInBounds_toArray, List.set_cons_zero, List.set_cons_succ, i64_w, i32_w]
          rfl
        refine take_ (i := 4) (N := some 36) (v := ?_) (a' := ?_) #[true, true, true, true, true, false, false, false, false, false, false] rfl rfl (by kernel_rfl) (fun _ _ _ h => h) (Or.inl ⟨by rfl, ?_⟩) hHeld ?_ ?_
        rotate_left
        · rintro w' ⟨s0, s1, s2, s3⟩
          go_simp
          first | done | with_reducible rfl | rfl | (simp [Instr.field, go_sem]; rfl)
        rotate_left
        · simp only [Act.put, List.setIfInBounds_toArray, List.set_cons_zero, List.set_cons_succ, i64_w, i32_w]
          rfl
        refine take_ (i := 5) (N := some 37) (v := ?_) (a' := ?_) #[true, true, true, true, true, true, false, false, false, false, false] rfl rfl (by kernel_rfl) (fun _ _ _ h => h) (Or.inl ⟨by rfl, ?_⟩) hHeld ?_ ?_
        rotate_left
        · rintro w' ⟨s0, s1, s2, s3⟩
          go_simp
          first | done | with_reducible rfl | rfl | (simp [Instr.field, go_sem]; rfl)
        rotate_left
        · simp only [Act.put, List.setIfInBounds_toArray, List.set_cons_zero, List.set_cons_succ, i64_w, i32_w]
          rfl
        refine one_ (i := 6) (N := some 38) #[true, true, true, true, true, true, true, false, false, false, false] rfl rfl (by kernel_rfl) (by decide) (fun K hK => ?_)
        refine value_ (w1 := ?_) (v := ?_) (by rfl) rfl ?_ ?_
        rotate_left 2
        · go_simp
          constructor
          · rfl
          · rfl
        refine hK _ _ ⟨(blk_cell (blk_below HDx.out.blk (BA _)) 1).trans rfl, (blk_cell (blk_below Kx.out (BA _)) 0).trans rfl, (blk_cell (blk_below Kx.out (BA _)) 1).trans rfl, (blk_cell (blk_below Kx.out (BA _)) 2).trans rfl⟩ (fun hHeld => ?_)
        clear hK K
        refine norm_ (a' := ?_) ?_ ?_
        rotate_left
        · show Act.put _ (some 38) _ = _
          simp only [Act.put, List.setIfInBounds_toArray, List.set_cons_zero, List.set_cons_succ, i64_w, i32_w]
          rfl
        refine last_ (i := 7) (N := some 39) #[true, true, true, true, true, true, true, true, false, false, false] rfl rfl (by kernel_rfl) (by decide) (fun K hK => ?_)
        refine Kd.R_append_step k31 (w0 := wx) b (by rfl) (.tmp 36) (.tmp 38) 22 31 (.agg #[(.int .i64 0), (.int .u64 0), (.int .i64 0)]) 24 rfl Tryd.underlying22 info31 rfl (by decide) (by omega) (.slice (some ⟨gr, 0, none⟩) xs.length c) xs u [.int .i64 u.f0, .int .u64 u.f1, .int .i64 u.f2] (fun k => k ≠ g) (fun _ => False) rfl rfl ?aP (fun _ hk => hk.elim) ?aF ?aO (Below.refl _ _) ?aS ?aL ?_
        case aP => exact k31_mkM _ _ _ u
        case aF => exact fun k hk => by have := blk_lt HDx.out.blk; omega
        case aO => exact HDx.out.row
        case aS => exact SX.out
        case aL => exact NLE.out
        intro v1 w5 ho5 hb5 hg5 hat5
        obtain ⟨A1, c1, rfl⟩ := Kd.R_slice ho5
        rw [show (xs ++ [u]).length = xs.length + 1 from by simp] at ho5 hat5 ⊢
        have HO5 := Aside0.mk ho5
        have HB5 := Aside0.mk hb5
        have HG5 := Aside0.mk hg5
        have HA5 := Aside0.mk hat5
        have BL5 : Aside0 (w5.heap[g]? = some (.cells #[.int .i64 me, .slice (some ⟨gr, 0, none⟩) xs.length c] 66 (0, 0))) := ⟨blk_grown HDx.out.blk hg5 (Kd.R_away HDx.out.row (fun _ h => h))⟩
        clear ho5 hb5 hg5 hat5
        refine hK _ _ ?_
        clear hK K
        refine norm_ (a' := ?_) ?_ ?_
        rotate_left
        · show Act.put _ (some 39) _ = _
          simp only [Act.put, List.setIfInBounds_toArray, List.set_cons_zero, List.set_cons_succ, i64_w, i32_w]
          rfl
        refine pure_ (i := 8) (N := some 40) (v := ?_) (a' := ?_) #[true, true, true, true, true, true, true, true, true, false, false] rfl rfl (by kernel_rfl) (fun _ _ _ h => h) (Or.inl ⟨by rfl, ?_⟩) ?_ ?_
        rotate_left
        · intro w'
          go_simp
          first | done | with_reducible rfl | rfl | (simp [Instr.field, go_sem]; rfl)
        rotate_left
        · simp only [Act.put, List.setIfInBounds_toArray, List.set_cons_zero, List.set_cons_succ, i64_w, i32_w]
          rfl
        refine pure_ (i := 9) (N := some 41) (v := ?_) (a' := ?_) #[true, true, true, true, true, true, true, true, true, true, false] rfl rfl (by kernel_rfl) (fun _ _ _ h => h) (Or.inl ⟨by rfl, ?_⟩) ?_ ?_
        rotate_left
        · intro w'
          go_simp
          first | done | with_reducible rfl | rfl | (simp [Instr.field, go_sem]; rfl)
        rotate_left
        · simp only [Act.put, List.setIfInBounds_toArray, List.set_cons_zero, List.set_cons_succ, i64_w, i32_w]
          rfl
        refine last_ (i := 10) (N := none) #[true, true, true, true, true, true, true, true, true, true, true] rfl rfl (by kernel_rfl) (by decide) (fun K hK => ?_)
        have z0 := (blk_cell BL5.out 1).trans rfl
        have zf := fun j => blk_frozen BL5.out j
        refine skip_ (w1 := ?_) (by rfl) rfl ?_ ?_
        rotate_left
        · go_simp
          rfl
        refine hK _ _ ?_
        clear hK K
        refine done_ (by kernel_rfl) ?_
        clear hHeld
        go_wp2
        go_end0
        rw [hres.out]
        refine ⟨⟨_, rfl⟩, A1, c1, ⟨HDx.out.ge, by rw [show (xs ++ [u]).length = xs.length + 1 from by simp]; exact blk_put BL5.out 1 _ rfl, ?_⟩, below_set (Below.trans HBx.out (Below.mono HB5.out HW.out)) (Nat.le_trans HW.out HDx.out.ge), ?_, ?_⟩
        · rw [show (xs ++ [u]).length = xs.length + 1 from by simp]
          exact Kd.R_far HO5.out (fun k hk => hk) _
        · exact KeepBut.trans HKx.out (KeepBut.set_ (KeepBut.of_grown HG5.out g) 1 _) (.inl rfl)
        · rw [show (xs ++ [u]).length = xs.length + 1 from by simp]
          rcases HA5.out with h | ⟨k, h, hk⟩
          · exact .inl h
          · exact .inr ⟨k, h, Nat.le_trans HKx.out.1 hk⟩
  · have hx : xs.length = 0 := by omega
    have hd1 : decide ((0 : Int) < (xs.length : Int)) = false := decide_eq_false (by omega)
    have hd2 : decide (0 < xs.length) = false := decide_eq_false (by omega)
    have HX0 := Aside0.mk hx
    clear hx hp
    go_enter Tryd.func39, Tryd.ntmps39
    go_wp2_with ((with_reducible refine gate_dst (N := 3) rfl ?_); refine box_event ?hg (N := 3) ?hd (cs := #[.int .i64 u.f0, .int .u64 u.f1, .int .i64 u.f2]) (t := 31) ?hr ?_; (case hd => rfl); (case hg => rfl); (case hr => first | (go_simp; done) | (go_simp; rfl)); intro g1 hg1 w1 hb1 hB1; have G1 := Aside0.mk hg1; have K1 := Aside0.mk hb1; have B1 := Aside0.mk hB1; have hc1 := (blk_cell (blk_below HD.out.blk hB1) 1).trans rfl; clear hg1 hb1 hB1)
    go_loopw [4] (fun i wr => i = .int .i64 0 ∧ Aside0 (Below w1.heap.size w1 wr)) (fun _ _ => 0)
    case atStart => exact ⟨rfl, ⟨Below.refl _ _⟩⟩
    case round =>
      rename_i wr
      clear hc1
      obtain ⟨rfl, HBw⟩ := hrel
      have HBr := Aside0.mk (below_step HB.out (below_step B1.out HBw.out))
      have HKr := Aside0.mk (KeepBut.of_below (below_step B1.out HBw.out) g (Value.slice A xs.length c).ownBlock)
      have HDr := Aside0.mk (HD.out.below (below_step B1.out HBw.out))
      have Kr := Aside0.mk (blk_below K1.out HBw.out)
      have hc1 := (blk_cell HDr.out.blk 1).trans rfl
      have hno : Aside0 (∀ i (h : i < xs.length), i < xs.length → xs[i].f0 ≠ u.f0) := ⟨fun i h => absurd h (by have := HX0.out; omega)⟩
      have hres := Aside0.mk (dPut_no xs u (fun i h => hno.out i h h))
      have NLE : Aside0 ((xs.length + 1) * 24 ≤ 140737488355328) := ⟨by omega⟩
      go_upto_region 6 with (fail)
      have HDx := Aside0.mk (HDr.out.below (below_drew1 (Below.refl wr.heap.size wr)))
      have Kx : Aside0 (wr.drew.heap[g1]? = some (.cells #[.int .i64 u.f0, .int .u64 u.f1, .int .i64 u.f2] 31 (0, 0))) := ⟨blk_drew Kr.out⟩
      have HBx := Aside0.mk (below_drew1 HBr.out)
      have HKx := Aside0.mk (keep_drew HKr.out)
      have HBwx := Aside0.mk (below_drew1 (Below.refl wr.heap.size wr))
      have SX : Aside0 (b ≤ wr.drew.heap.size) := ⟨Nat.le_of_lt (Nat.lt_of_le_of_lt HDx.out.ge (blk_lt HDx.out.blk))⟩
      refine start_ (n := 11) (S := fun w' => w'.cell? ⟨g, 1, none⟩ = some (.slice A xs.length c) ∧ w'.cell? ⟨g1, 0, none⟩ = some (.int .i64 u.f0) ∧ w'.cell? ⟨g1, 1, none⟩ = some (.int .u64 u.f1) ∧ w'.cell? ⟨g1, 2, none⟩ = some (.int .i64 u.f2)) (ds := [7, 10]) #[false, false, false, false, false, false, false, false, false, false, false] (by kernel_rfl) rfl rfl ⟨(blk_cell HDx.out.blk 1).trans rfl, (blk_cell Kx.out 0).trans rfl, (blk_cell Kx.out 1).trans rfl, (blk_cell Kx.out 2).trans rfl⟩ (fun hHeld => ?_)
      generalize wr.drew = wx at SX HDx Kx HBx HKx HBwx hHeld ⊢
      have BA : ∀ o, Below wx.heap.size wx (wx.alloc o) := fun o => below_alloc (Below.refl _ _) o
      refine pure_ (i := 0) (N := some 32) (v := ?_) (a' := ?_) #[true, false, false, false, false, false, false, false, false, false, false] rfl rfl (by kernel_rfl) (fun _ _ _ h => h) (Or.inl ⟨by rfl, ?_⟩) ?_ ?_
      rotate_left
      · intro w'
        go_simp
        first | done | with_reducible rfl | rfl | (simp [Instr.field, go_sem]; rfl)
      rotate_left
      · simp only [Act.put, List.setIfInBounds_toArray, List.set_cons_zero, List.set_cons_succ, i64_w, i32_w]
        rfl
      refine pure_ (i := 1) (N := some 33) (v := ?_) (a' := ?_) #[true, true, false, false, false, false, false, false, false, false, false] rfl rfl (by kernel_rfl) (fun _ _ _ h => h) (Or.inl ⟨by rfl, ?_⟩) ?_ ?_
      rotate_left
      · intro w'
        go_simp
        first | done | with_reducible rfl | rfl | (simp [Instr.field, go_sem]; rfl)
      rotate_left
      · simp only [Act.put, List.setIfInBounds_toArray, List.set_cons_zero, List.set_cons_succ, i64_w, i32_w]
        rfl
      refine pure_ (i := 2) (N := some 34) (v := ?_) (a' := ?_) #[true, true, true, false, false, false, false, false, false, false, false] rfl rfl (by kernel_rfl) (fun _ _ _ h => h) (Or.inl ⟨by rfl, ?_⟩) ?_ ?_
      rotate_left
      · intro w'
        go_simp
        first | done | with_reducible rfl | rfl | (simp [Instr.field, go_sem]; rfl)
      rotate_left
      · simp only [Act.put, List.setIfInBounds_toArray, List.set_cons_zero, List.set_cons_succ, i64_w, i32_w]
        rfl
      refine pure_ (i := 3) (N := some 35) (v := ?_) (a' := ?_) #[true, true, true, true, false, false, false, false, false, false, false] rfl rfl (by kernel_rfl) (fun _ _ _ h => h) (Or.inl ⟨by rfl, ?_⟩) ?_ ?_
      rotate_left
      · intro w'
        go_simp
        first | done | with_reducible rfl | rfl | (simp [Instr.field, go_sem]; rfl)
      rotate_left
      · simp only [Act.put, List.setIfInBounds_toArray, List.set_cons_zero, List.set_cons_succ, i64_w, i32_w]
        rfl
      refine take_ (i := 4) (N := some 36) (v := ?_) (a' := ?_) #[true, true, true, true, true, false, false, false, false, false, false] rfl rfl (by kernel_rfl) (fun _ _ _ h => h) (Or.inl ⟨by rfl, ?_⟩) hHeld ?_ ?_
      rotate_left
      · rintro w' ⟨s0, s1, s2, s3⟩
        go_simp
        first | done | with_reducible rfl | rfl | (simp [Instr.field, go_sem]; rfl)
      rotate_left
      · simp only [Act.put, List.setIfInBounds_toArray, List.set_cons_zero, List.set_cons_succ, i64_w, i32_w]
        rfl
      refine take_ (i := 5) (N := some 37) (v := ?_) (a' := ?_) #[true, true, true, true, true, true, false, false, false, false, false] rfl rfl (by kernel_rfl) (fun _ _ _ h => h) (Or.inl ⟨by rfl, ?_⟩) hHeld ?_ ?_
      rotate_left
      · rintro w' ⟨s0, s1, s2, s3⟩
        go_simp
        first | done | with_reducible rfl | rfl | (simp [Instr.field, go_sem]; rfl)
      rotate_left
      · simp only [Act.put, List.setIfInBounds_toArray, List.set_cons_zero, List.set_cons_succ, i64_w, i32_w]
        rfl
      refine one_ (i := 6) (N := some 38) #[true, true, true, true, true, true, true, false, false, false, false] rfl rfl (by kernel_rfl) (by decide) (fun K hK => ?_)
      refine value_ (w1 := ?_) (v := ?_) (by rfl) rfl ?_ ?_
      rotate_left 2
      · go_simp
        constructor
        · rfl
        · rfl
      refine hK _ _ ⟨(blk_cell (blk_below HDx.out.blk (BA _)) 1).trans rfl, (blk_cell (blk_below Kx.out (BA _)) 0).trans rfl, (blk_cell (blk_below Kx.out (BA _)) 1).trans rfl, (blk_cell (blk_below Kx.out (BA _)) 2).trans rfl⟩ (fun hHeld => ?_)
      clear hK K
      refine norm_ (a' := ?_) ?_ ?_
      rotate_left
      · show Act.put _ (some 38) _ = _
        simp only [Act.put, List.setIfInBounds_toArray, List.set_cons_zero, List.set_cons_succ, i64_w, i32_w]
        rfl
      refine last_ (i := 7) (N := some 39) #[true, true, true, true, true, true, true, true, false, false, false] rfl rfl (by kernel_rfl) (by decide) (fun K hK => ?_)
      refine Kd.R_append_step k31 (w0 := wx) b (by rfl) (.tmp 36) (.tmp 38) 22 31 (.agg #[(.int .i64 0), (.int .u64 0), (.int .i64 0)]) 24 rfl Tryd.underlying22 info31 rfl (by decide) (by omega) (.slice A xs.length c) xs u [.int .i64 u.f0, .int .u64 u.f1, .int .i64 u.f2] (fun k => k ≠ g) (fun _ => False) rfl rfl ?aP (fun _ hk => hk.elim) ?aF ?aO (Below.refl _ _) ?aS ?aL ?_
      case aP => exact k31_mkM _ _ _ u
      case aF => exact fun k hk => by have := blk_lt HDx.out.blk; omega
      case aO => exact HDx.out.row
      case aS => exact SX.out
      case aL => exact NLE.out
      intro v1 w5 ho5 hb5 hg5 hat5
      obtain ⟨A1, c1, rfl⟩ := Kd.R_slice ho5
      rw [show (xs ++ [u]).length = xs.length + 1 from by simp] at ho5 hat5 ⊢
      have HO5 := Aside0.mk ho5
      have HB5 := Aside0.mk hb5
      have HG5 := Aside0.mk hg5
      have HA5 := Aside0.mk hat5
      have BL5 : Aside0 (w5.heap[g]? = some (.cells #[.int .i64 me, .slice A xs.length c] 66 (0, 0))) := ⟨blk_grown HDx.out.blk hg5 (Kd.R_away HDx.out.row (fun _ h => h))⟩
      clear ho5 hb5 hg5 hat5
      refine hK _ _ ?_
      clear hK K
      refine norm_ (a' := ?_) ?_ ?_
      rotate_left
      · show Act.put _ (some 39) _ = _
        simp only [Act.put, List.setIfInBounds_toArray, List.set_cons_zero, List.set_cons_succ, i64_w, i32_w]
        rfl
      refine pure_ (i := 8) (N := some 40) (v := ?_) (a' := ?_) #[true, true, true, true, true, true, true, true, true, false, false] rfl rfl (by kernel_rfl) (fun _ _ _ h => h) (Or.inl ⟨by rfl, ?_⟩) ?_ ?_
      rotate_left
      · intro w'
        go_simp
        first | done | with_reducible rfl | rfl | (simp [Instr.field, go_sem]; rfl)
      rotate_left
      · simp only [Act.put, List.setIfInBounds_toArray, List.set_cons_zero, List.set_cons_succ, i64_w, i32_w]
        rfl
      refine pure_ (i := 9) (N := some 41) (v := ?_) (a' := ?_) #[true, true, true, true, true, true, true, true, true, true, false] rfl rfl (by kernel_rfl) (fun _ _ _ h => h) (Or.inl ⟨by rfl, ?_⟩) ?_ ?_
      rotate_left
      · intro w'
        go_simp
        first | done | with_reducible rfl | rfl | (simp [Instr.field, go_sem]; rfl)
      rotate_left
      · simp only [Act.put, List.setIfInBounds_toArray, List.set_cons_zero, List.set_cons_succ, i64_w, i32_w]
        rfl
      refine last_ (i := 10) (N := none) #[true, true, true, true, true, true, true, true, true, true, true] rfl rfl (by kernel_rfl) (by decide) (fun K hK => ?_)
      have z0 := (blk_cell BL5.out 1).trans rfl
      have zf := fun j => blk_frozen BL5.out j
      refine skip_ (w1 := ?_) (by rfl) rfl ?_ ?_
      rotate_left
      · go_simp
        rfl
      refine hK _ _ ?_
      clear hK K
      refine done_ (by kernel_rfl) ?_
      clear hHeld
      go_wp2
      go_end0
      rw [hres.out]
      refine ⟨⟨_, rfl⟩, A1, c1, ⟨HDx.out.ge, by rw [show (xs ++ [u]).length = xs.length + 1 from by simp]; exact blk_put BL5.out 1 _ rfl, ?_⟩, below_set (Below.trans HBx.out (Below.mono HB5.out HW.out)) (Nat.le_trans HW.out HDx.out.ge), ?_, ?_⟩
      · rw [show (xs ++ [u]).length = xs.length + 1 from by simp]
        exact Kd.R_far HO5.out (fun k hk => hk) _
      · exact KeepBut.trans HKx.out (KeepBut.set_ (KeepBut.of_grown HG5.out g) 1 _) (.inl rfl)
      · rw [show (xs ++ [u]).length = xs.length + 1 from by simp]
        rcases HA5.out with h | ⟨k, h, hk⟩
        · exact .inl h
        · exact .inr ⟨k, h, Nat.le_trans HKx.out.1 hk⟩
end Go.Proofs.YtkkcnhfbcophiaaDoor.B
end
section
namespace Go.Proofs.YtkkcnhfbcophiaaDoor.B
open Go.RowKit Go.Proofs.YtkkcnhfbcophiaaDoorW.PrintWords Go.Proofs.YtkkcnhfbcophiaaDoorW.PrintLast Go.Proofs.YtkkcnhfbcophiaaDoorW.PrintMore Go.Proofs.YtkkcnhfbcophiaaDoor.Band Go.Proofs.YtkkcnhfbcophiaaDoor.Pure
set_option linter.unusedSimpArgs false
set_option linter.unusedVariables false

/-- what may turn: block g, the row ρ and what is new; the row behind is ρ' -/
structure Stp (w w' : World) (g : Nat) (ρ ρ' : Option Nat) : Prop where
  keep : KeepBut w w' g ρ
  own : ρ' = ρ ∨ ∃ k, ρ' = some k ∧ w.heap.size ≤ k
theorem Stp.of_below {w w' : World} (h : Below w.heap.size w w') (g : Nat) (ρ : Option Nat) : Stp w w' g ρ ρ := ⟨KeepBut.of_below h g ρ, .inl rfl⟩
theorem Stp.trans {w w1 w2 : World} {g : Nat} {ρ ρ1 ρ2 : Option Nat} (h : Stp w w1 g ρ ρ1) (k : Stp w1 w2 g ρ1 ρ2) : Stp w w2 g ρ ρ2 := by
  refine ⟨KeepBut.trans h.keep k.keep h.own, ?_⟩
  rcases k.own with e | ⟨j, e, hj⟩
  · rw [e]; exact h.own
  · exact .inr ⟨j, e, Nat.le_trans h.keep.1 hj⟩
set_option maxRecDepth 100000 in
set_option maxHeartbeats 1000000 in
theorem dhear_bad (w0 w : World) (g b : Nat) (me : Int) (xs : List S31) (A : Option Addr) (c : Nat) (u : S31) (hD : DocB w g b me xs A c) (hl : xs.length ≤ 4000) (hb : w0.heap.size ≤ b) (hB : Below w0.heap.size w0 w) (hm : conventicleref06_May.f u.f0 u.f1 u.f2 = some false) :
    Calls Tryd.prog 22 #[.pointer (some ⟨g, 0, none⟩), .agg #[.int .i64 u.f0, .int .u64 u.f1, .int .i64 u.f2]] w fun e w' => e = .returned (.tuple #[.bool false, .int .i64 1]) ∧ ∃ A' c', DocB w' g b me (xs) A' c' ∧ Below w0.heap.size w0 w' ∧ Stp w w' g (Value.slice A xs.length c).ownBlock (Value.slice A' (xs).length c').ownBlock := by
  have HD := Aside0.mk hD
  have HW := Aside0.mk hb
  have HB := Aside0.mk hB
  clear hD hb hB
  have HMAY := Aside0.mk hm
  clear hm
  go_enter Tryd.func22, Tryd.ntmps22
  go_wp2_with (first | ((with_reducible refine gate_dst (N := 3) rfl ?_); refine box_event ?hg (N := 3) ?hd (cs := #[.int .i64 u.f0, .int .u64 u.f1, .int .i64 u.f2]) (t := 31) ?hr ?_; (case hd => rfl); (case hg => rfl); (case hr => first | (go_simp; done) | (go_simp; rfl)); intro g1 hg1 w1 hb1 hB1; have G1 := Aside0.mk hg1; have K1 := Aside0.mk hb1; have B1 := Aside0.mk hB1; have y0 := (blk_cell hb1 0).trans rfl; have y1 := (blk_cell hb1 1).trans rfl; have y2 := (blk_cell hb1 2).trans rfl; clear hg1 hb1 hB1) | (go_at_call 19; refine (conventicleref06_May.calls u.f0 u.f1 u.f2 false _ HMAY.out).mono ?_; rintro e wm ⟨rfl, hb_⟩; have HBm := Aside0.mk hb_; have z0 := (blk_cell (blk_below K1.out hb_) 0).trans rfl; clear hb_))
  have HSx := Aside0.mk (below_step B1.out HBm.out)
  have HDx := Aside0.mk (HD.out.below HSx.out)
  go_ret2
  exact ⟨rfl, A, c, HDx.out, below_step HB.out HSx.out, Stp.of_below HSx.out g _⟩
set_option maxRecDepth 100000 in
set_option maxHeartbeats 1000000 in
theorem dhear_err (w0 w : World) (g b : Nat) (me : Int) (xs : List S31) (A : Option Addr) (c : Nat) (u : S31) (hD : DocB w g b me xs A c) (hl : xs.length ≤ 4000) (hb : w0.heap.size ≤ b) (hB : Below w0.heap.size w0 w) (hm : conventicleref06_May.f u.f0 u.f1 u.f2 = some true) (old : S31) (hs : Bool) (hg : dGet xs u.f0 = (old, hs)) (hf : u.f0 = me) (q0 : Int) (q1 : Bool) (q2 : Int) (hr : conventicleref06_Refute.f 2 me old.f1 u.f0 u.f1 u.f2 = some (q0, q1, q2)) (hq : q2 ≠ 0) :
    Calls Tryd.prog 22 #[.pointer (some ⟨g, 0, none⟩), .agg #[.int .i64 u.f0, .int .u64 u.f1, .int .i64 u.f2]] w fun e w' => e = .returned (.tuple #[.bool false, .int .i64 q2]) ∧ ∃ A' c', DocB w' g b me (xs) A' c' ∧ Below w0.heap.size w0 w' ∧ Stp w w' g (Value.slice A xs.length c).ownBlock (Value.slice A' (xs).length c').ownBlock := by
  have HD := Aside0.mk hD
  have HW := Aside0.mk hb
  have HB := Aside0.mk hB
  clear hD hb hB
  have HMAY := Aside0.mk hm
  have HG := Aside0.mk hg
  have HRF := Aside0.mk hr
  have hd : (u.f0 == me) = true := beq_iff_eq.2 hf
  clear hm hg hr hf
  go_enter Tryd.func22, Tryd.ntmps22
  go_upto_region 4 with (first | ((with_reducible refine gate_dst (N := 3) rfl ?_); refine box_event ?hg (N := 3) ?hd (cs := #[.int .i64 u.f0, .int .u64 u.f1, .int .i64 u.f2]) (t := 31) ?hr ?_; (case hd => rfl); (case hg => rfl); (case hr => first | (go_simp; done) | (go_simp; rfl)); intro g1 hg1 w1 hb1 hB1; have G1 := Aside0.mk hg1; have K1 := Aside0.mk hb1; have B1 := Aside0.mk hB1; have y0 := (blk_cell hb1 0).trans rfl; have y1 := (blk_cell hb1 1).trans rfl; have y2 := (blk_cell hb1 2).trans rfl; clear hg1 hb1 hB1) | (go_at_call 19; refine (conventicleref06_May.calls u.f0 u.f1 u.f2 true _ HMAY.out).mono ?_; rintro e wm ⟨rfl, hb_⟩; have HBm := Aside0.mk hb_; have z0 := (blk_cell (blk_below K1.out hb_) 0).trans rfl; clear hb_) | (go_at_call 25; refine (dget_is _ g b me u.f0 xs A c old hs HG.out (HD.out.below (below_step B1.out HBm.out)) hl).mono ?_; rintro e wg ⟨rfl, hb_⟩; have HBg := Aside0.mk (below_step HBm.out hb_); clear hb_) | ((with_reducible refine gate_dst (N := 6) rfl ?_); refine box_event ?hg (N := 6) ?hd (cs := #[.int .i64 0, .int .u64 0, .int .i64 0]) (t := 31) ?hr ?_; (case hd => rfl); (case hg => rfl); (case hr => first | (go_simp; done) | (go_simp; rfl)); intro g6 hg_ wc hb_ hB_; have K6 := Aside0.mk hb_; have L6 := Aside0.mk (show w1.heap.size ≤ g6 from (by rw [hg_]; exact HBg.out.size)); have HBc := Aside0.mk (below_step HBg.out hB_); have q0 := (blk_cell K6.out 0).trans rfl; have q1 := (blk_cell K6.out 1).trans rfl; have q2 := (blk_cell K6.out 2).trans rfl; have qf := fun j => blk_frozen K6.out j; clear hg_ hb_ hB_))
  have J6 : Aside0 ((((wc.setCell ⟨g6, 0, none⟩ (.int .i64 old.f0)).setCell ⟨g6, 1, none⟩ (.int .u64 old.f1)).setCell ⟨g6, 2, none⟩ (.int .i64 old.f2)).heap[g6]? = some (.cells #[.int .i64 old.f0, .int .u64 old.f1, .int .i64 old.f2] 31 (0, 0))) := ⟨blk_put (cs := #[.int .i64 old.f0, .int .u64 old.f1, .int .i64 0]) (blk_put (cs := #[.int .i64 old.f0, .int .u64 0, .int .i64 0]) (blk_put (cs := #[.int .i64 0, .int .u64 0, .int .i64 0]) K6.out 0 _ rfl) 1 _ rfl) 2 _ rfl⟩
  have HBd : Aside0 (Below w1.heap.size w1 (((wc.setCell ⟨g6, 0, none⟩ (.int .i64 old.f0)).setCell ⟨g6, 1, none⟩ (.int .u64 old.f1)).setCell ⟨g6, 2, none⟩ (.int .i64 old.f2))) := ⟨below_set (below_set (below_set HBc.out L6.out) L6.out) L6.out⟩
  clear q0 q1 q2 qf HBc K6 L6
  generalize ((wc.setCell ⟨g6, 0, none⟩ (.int .i64 old.f0)).setCell ⟨g6, 1, none⟩ (.int .u64 old.f1)).setCell ⟨g6, 2, none⟩ (.int .i64 old.f2) = wd at J6 HBd ⊢
  clear HBg y0 y1 y2 z0
  have HDr := Aside0.mk (HD.out.below (below_step B1.out HBd.out))
  have Kr := Aside0.mk (blk_below K1.out HBd.out)
  have Jr := J6
  have HSr := Aside0.mk (below_step B1.out HBd.out)
  have HDx := Aside0.mk (HDr.out.below (below_drew1 (Below.refl wd.heap.size wd)))
  have Kx : Aside0 (wd.drew.heap[g1]? = some (.cells #[.int .i64 u.f0, .int .u64 u.f1, .int .i64 u.f2] 31 (0, 0))) := ⟨blk_drew Kr.out⟩
  have Jx : Aside0 (wd.drew.heap[g6]? = some (.cells #[.int .i64 old.f0, .int .u64 old.f1, .int .i64 old.f2] 31 (0, 0))) := ⟨blk_drew Jr.out⟩
  have HSx := Aside0.mk (below_drew1 HSr.out)
  refine start_ (n := 7) (S := fun w' => w'.cell? ⟨g1, 0, none⟩ = some (.int .i64 u.f0) ∧ w'.cell? ⟨g, 0, none⟩ = some (.int .i64 me)) (ds := []) #[false, false, false, false, false, false, false] (by kernel_rfl) rfl rfl ⟨(blk_cell Kx.out 0).trans rfl, (blk_cell HDx.out.blk 0).trans rfl⟩ (fun hHeld => ?_)
  generalize wd.drew = wx at HDx Kx Jx HSx hHeld ⊢
  refine pure_ (i := 0) (N := some 21) (v := ?_) (a' := ?_) #[true, false, false, false, false, false, false] rfl rfl (by kernel_rfl) (fun _ _ _ h => h) (Or.inl ⟨by rfl, ?_⟩) ?_ ?_
  rotate_left
  · intro w'
    go_simp
    first | done | with_reducible rfl | rfl | (simp [Instr.field, go_sem]; rfl)
  rotate_left
  · simp only [Act.put, List.setIfInBounds_toArray, List.set_cons_zero, List.set_cons_succ, i64_w, i32_w]
    rfl
  refine pure_ (i := 2) (N := some 23) (v := ?_) (a' := ?_) #[true, false, true, false, false, false, false] rfl rfl (by kernel_rfl) (fun _ _ _ h => h) (Or.inl ⟨by rfl, ?_⟩) ?_ ?_
  rotate_left
  · intro w'
    go_simp
    first | done | with_reducible rfl | rfl | (simp [Instr.field, go_sem]; rfl)
  rotate_left
  · simp only [Act.put, List.setIfInBounds_toArray, List.set_cons_zero, List.set_cons_succ, i64_w, i32_w]
    rfl
  refine pure_ (i := 3) (N := some 24) (v := ?_) (a' := ?_) #[true, false, true, true, false, false, false] rfl rfl (by kernel_rfl) (fun _ _ _ h => h) (Or.inl ⟨by rfl, ?_⟩) ?_ ?_
  rotate_left
  · intro w'
    go_simp
    first | done | with_reducible rfl | rfl | (simp [Instr.field, go_sem]; rfl)
  rotate_left
  · simp only [Act.put, List.setIfInBounds_toArray, List.set_cons_zero, List.set_cons_succ, i64_w, i32_w]
    rfl
  refine pure_ (i := 4) (N := some 25) (v := ?_) (a' := ?_) #[true, false, true, true, true, false, false] rfl rfl (by kernel_rfl) (fun _ _ _ h => h) (Or.inl ⟨by rfl, ?_⟩) ?_ ?_
  rotate_left
  · intro w'
    go_simp
    first | done | with_reducible rfl | rfl | (simp [Instr.field, go_sem]; rfl)
  rotate_left
  · simp only [Act.put, List.setIfInBounds_toArray, List.set_cons_zero, List.set_cons_succ, i64_w, i32_w]
    rfl
  refine take_ (i := 1) (N := some 22) (v := ?_) (a' := ?_) #[true, true, true, true, true, false, false] rfl rfl (by kernel_rfl) (fun _ _ _ h => h) (Or.inl ⟨by rfl, ?_⟩) hHeld ?_ ?_
  rotate_left
  · rintro w' ⟨s0, s1⟩
    go_simp
    first | done | with_reducible rfl | rfl | (simp [Instr.field, go_sem]; rfl)
  rotate_left
  · simp only [Act.put, List.setIfInBounds_toArray, List.set_cons_zero, List.set_cons_succ, i64_w, i32_w]
    rfl
  refine take_ (i := 5) (N := some 26) (v := ?_) (a' := ?_) #[true, true, true, true, true, true, false] rfl rfl (by kernel_rfl) (fun _ _ _ h => h) (Or.inl ⟨by rfl, ?_⟩) hHeld ?_ ?_
  rotate_left
  · rintro w' ⟨s0, s1⟩
    go_simp
    first | done | with_reducible rfl | rfl | (simp [Instr.field, go_sem]; rfl)
  rotate_left
  · simp only [Act.put, List.setIfInBounds_toArray, List.set_cons_zero, List.set_cons_succ, i64_w, i32_w]
    rfl
  refine pure_ (i := 6) (N := some 27) (v := ?_) (a' := ?_) #[true, true, true, true, true, true, true] rfl rfl (by kernel_rfl) (fun _ _ _ h => h) (Or.inl ⟨by rfl, ?_⟩) ?_ ?_
  rotate_left
  · intro w'
    go_simp
    first | done | with_reducible rfl | rfl | (simp [Instr.field, go_sem]; rfl)
  rotate_left
  · simp only [Act.put, List.setIfInBounds_toArray, List.set_cons_zero, List.set_cons_succ, i64_w, i32_w]
    rfl
  refine done_ (by kernel_rfl) ?_
  clear hHeld HBd J6
  go_upto_region 5 with (fail)
  have hHeld := HDx
  have HDr := HDx
  have Kr := Kx
  have Jr := Jx
  have HSr := HSx
  clear HDx Kx Jx HSx hHeld
  have HDx := Aside0.mk (HDr.out.below (below_drew1 (Below.refl wx.heap.size wx)))
  have Kx : Aside0 (wx.drew.heap[g1]? = some (.cells #[.int .i64 u.f0, .int .u64 u.f1, .int .i64 u.f2] 31 (0, 0))) := ⟨blk_drew Kr.out⟩
  have Jx : Aside0 (wx.drew.heap[g6]? = some (.cells #[.int .i64 old.f0, .int .u64 old.f1, .int .i64 old.f2] 31 (0, 0))) := ⟨blk_drew Jr.out⟩
  have HSx := Aside0.mk (below_drew1 HSr.out)
  refine start_ (n := 15) (S := fun w' => w'.cell? ⟨g, 0, none⟩ = some (.int .i64 me) ∧ w'.cell? ⟨g6, 1, none⟩ = some (.int .u64 old.f1) ∧ w'.cell? ⟨g1, 0, none⟩ = some (.int .i64 u.f0) ∧ w'.cell? ⟨g1, 1, none⟩ = some (.int .u64 u.f1) ∧ w'.cell? ⟨g1, 2, none⟩ = some (.int .i64 u.f2)) (ds := []) #[false, false, false, false, false, false, false, false, false, false, false, false, false, false, false] (by kernel_rfl) rfl rfl ⟨(blk_cell HDx.out.blk 0).trans rfl, (blk_cell Jx.out 1).trans rfl, (blk_cell Kx.out 0).trans rfl, (blk_cell Kx.out 1).trans rfl, (blk_cell Kx.out 2).trans rfl⟩ (fun hHeld => ?_)
  generalize wx.drew = wv at HDx Kx Jx HSx hHeld ⊢
  refine pure_ (i := 0) (N := some 29) (v := ?_) (a' := ?_) #[true, false, false, false, false, false, false, false, false, false, false, false, false, false, false] rfl rfl (by kernel_rfl) (fun _ _ _ h => h) (Or.inl ⟨by rfl, ?_⟩) ?_ ?_
  rotate_left
  · intro w'
    go_simp
    first | done | with_reducible rfl | rfl | (simp [Instr.field, go_sem]; rfl)
  rotate_left
  · simp only [Act.put, List.setIfInBounds_toArray, List.set_cons_zero, List.set_cons_succ, i64_w, i32_w]
    rfl
  refine pure_ (i := 1) (N := some 30) (v := ?_) (a' := ?_) #[true, true, false, false, false, false, false, false, false, false, false, false, false, false, false] rfl rfl (by kernel_rfl) (fun _ _ _ h => h) (Or.inl ⟨by rfl, ?_⟩) ?_ ?_
  rotate_left
  · intro w'
    go_simp
    first | done | with_reducible rfl | rfl | (simp [Instr.field, go_sem]; rfl)
  rotate_left
  · simp only [Act.put, List.setIfInBounds_toArray, List.set_cons_zero, List.set_cons_succ, i64_w, i32_w]
    rfl
  refine pure_ (i := 2) (N := some 31) (v := ?_) (a' := ?_) #[true, true, true, false, false, false, false, false, false, false, false, false, false, false, false] rfl rfl (by kernel_rfl) (fun _ _ _ h => h) (Or.inl ⟨by rfl, ?_⟩) ?_ ?_
  rotate_left
  · intro w'
    go_simp
    first | done | with_reducible rfl | rfl | (simp [Instr.field, go_sem]; rfl)
  rotate_left
  · simp only [Act.put, List.setIfInBounds_toArray, List.set_cons_zero, List.set_cons_succ, i64_w, i32_w]
    rfl
  refine pure_ (i := 4) (N := some 33) (v := ?_) (a' := ?_) #[true, true, true, false, true, false, false, false, false, false, false, false, false, false, false] rfl rfl (by kernel_rfl) (fun _ _ _ h => h) (Or.inl ⟨by rfl, ?_⟩) ?_ ?_
  rotate_left
  · intro w'
    go_simp
    first | done | with_reducible rfl | rfl | (simp [Instr.field, go_sem]; rfl)
  rotate_left
  · simp only [Act.put, List.setIfInBounds_toArray, List.set_cons_zero, List.set_cons_succ, i64_w, i32_w]
    rfl
  refine take_ (i := 3) (N := some 32) (v := ?_) (a' := ?_) #[true, true, true, true, true, false, false, false, false, false, false, false, false, false, false] rfl rfl (by kernel_rfl) (fun _ _ _ h => h) (Or.inl ⟨by rfl, ?_⟩) hHeld ?_ ?_
  rotate_left
  · rintro w' ⟨s0, s1, s2, s3, s4⟩
    go_simp
    first | done | with_reducible rfl | rfl | (simp [Instr.field, go_sem]; rfl)
  rotate_left
  · simp only [Act.put, List.setIfInBounds_toArray, List.set_cons_zero, List.set_cons_succ, i64_w, i32_w]
    rfl
  refine take_ (i := 5) (N := some 34) (v := ?_) (a' := ?_) #[true, true, true, true, true, true, false, false, false, false, false, false, false, false, false] rfl rfl (by kernel_rfl) (fun _ _ _ h => h) (Or.inl ⟨by rfl, ?_⟩) hHeld ?_ ?_
  rotate_left
  · rintro w' ⟨s0, s1, s2, s3, s4⟩
    go_simp
    first | done | with_reducible rfl | rfl | (simp [Instr.field, go_sem]; rfl)
  rotate_left
  · simp only [Act.put, List.setIfInBounds_toArray, List.set_cons_zero, List.set_cons_succ, i64_w, i32_w]
    rfl
  refine take_ (i := 6) (N := some 35) (v := ?_) (a' := ?_) #[true, true, true, true, true, true, true, false, false, false, false, false, false, false, false] rfl rfl (by kernel_rfl) (fun _ _ _ h => h) (Or.inl ⟨by rfl, ?_⟩) hHeld ?_ ?_
  rotate_left
  · rintro w' ⟨s0, s1, s2, s3, s4⟩
    go_simp
    first | done | with_reducible rfl | rfl | (simp [Instr.field, go_sem]; rfl)
  rotate_left
  · simp only [Act.put, List.setIfInBounds_toArray, List.set_cons_zero, List.set_cons_succ, i64_w, i32_w]
    rfl
  refine one_ (i := 7) (N := some 36) #[true, true, true, true, true, true, true, true, false, false, false, false, false, false, false] rfl rfl (by kernel_rfl) (by decide) (fun K hK => ?_)
  refine goes_ Tryd.func38 (by kernel_rfl) rfl #[.int .i64 me, .int .u64 old.f1, .agg #[.int .i64 u.f0, .int .u64 u.f1, .int .i64 u.f2]] (by rfl) rfl rfl (by (try simp only [List.map_toArray, List.map_cons, List.map_nil]); first | done | rfl) ?_
  refine (conventicleref06_Refute.calls 2 me old.f1 u.f0 u.f1 u.f2 q0 _ _ _ HRF.out).mono ?_
  rintro e wq ⟨rfl, hb_⟩
  refine ⟨_, rfl, ?_⟩
  have HDy := Aside0.mk (HDx.out.below hb_)
  have Ky := Aside0.mk (blk_below Kx.out hb_)
  have Jy := Aside0.mk (blk_below Jx.out hb_)
  have HSy := Aside0.mk (below_step HSx.out hb_)
  clear HDx Kx Jx HSx hHeld hb_
  have HDx := HDy
  have Kx := Ky
  have Jx := Jy
  have HSx := HSy
  clear HDy Ky Jy HSy
  refine hK _ _ ⟨(blk_cell HDx.out.blk 0).trans rfl, (blk_cell Jx.out 1).trans rfl, (blk_cell Kx.out 0).trans rfl, (blk_cell Kx.out 1).trans rfl, (blk_cell Kx.out 2).trans rfl⟩ (fun hHeld => ?_)
  clear hK K
  refine norm_ (a' := ?_) ?_ ?_
  rotate_left
  · show Act.put _ (some 36) _ = _
    simp only [Act.put, List.setIfInBounds_toArray, List.set_cons_zero, List.set_cons_succ, i64_w, i32_w]
    rfl
  refine pure_ (i := 8) (N := some 28) (v := ?_) (a' := ?_) #[true, true, true, true, true, true, true, true, true, false, false, false, false, false, false] rfl rfl (by kernel_rfl) (fun _ _ _ h => h) (Or.inl ⟨by rfl, ?_⟩) ?_ ?_
  rotate_left
  · intro w'
    go_simp
    first | done | with_reducible rfl | rfl | (simp [Instr.field, go_sem]; rfl)
  rotate_left
  · simp only [Act.put, List.setIfInBounds_toArray, List.set_cons_zero, List.set_cons_succ, i64_w, i32_w]
    rfl
  refine pure_ (i := 9) (N := some 37) (v := ?_) (a' := ?_) #[true, true, true, true, true, true, true, true, true, true, false, false, false, false, false] rfl rfl (by kernel_rfl) (fun _ _ _ h => h) (Or.inl ⟨by rfl, ?_⟩) ?_ ?_
  rotate_left
  · intro w'
    go_simp
    first | done | with_reducible rfl | rfl | (simp [Instr.field, go_sem]; rfl)
  rotate_left
  · simp only [Act.put, List.setIfInBounds_toArray, List.set_cons_zero, List.set_cons_succ, i64_w, i32_w]
    rfl
  refine pure_ (i := 10) (N := some 38) (v := ?_) (a' := ?_) #[true, true, true, true, true, true, true, true, true, true, true, false, false, false, false] rfl rfl (by kernel_rfl) (fun _ _ _ h => h) (Or.inl ⟨by rfl, ?_⟩) ?_ ?_
  rotate_left
  · intro w'
    go_simp
    first | done | with_reducible rfl | rfl | (simp [Instr.field, go_sem]; rfl)
  rotate_left
  · simp only [Act.put, List.setIfInBounds_toArray, List.set_cons_zero, List.set_cons_succ, i64_w, i32_w]
    rfl
  refine pure_ (i := 11) (N := some 39) (v := ?_) (a' := ?_) #[true, true, true, true, true, true, true, true, true, true, true, true, false, false, false] rfl rfl (by kernel_rfl) (fun _ _ _ h => h) (Or.inl ⟨by rfl, ?_⟩) ?_ ?_
  rotate_left
  · intro w'
    go_simp
    first | done | with_reducible rfl | rfl | (simp [Instr.field, go_sem]; rfl)
  rotate_left
  · simp only [Act.put, List.setIfInBounds_toArray, List.set_cons_zero, List.set_cons_succ, i64_w, i32_w]
    rfl
  refine pure_ (i := 12) (N := some 8) (v := ?_) (a' := ?_) #[true, true, true, true, true, true, true, true, true, true, true, true, true, false, false] rfl rfl (by kernel_rfl) (fun _ _ _ h => h) (Or.inl ⟨by rfl, ?_⟩) ?_ ?_
  rotate_left
  · intro w'
    go_simp
    first | done | with_reducible rfl | rfl | (simp [Instr.field, go_sem]; rfl)
  rotate_left
  · simp only [Act.put, List.setIfInBounds_toArray, List.set_cons_zero, List.set_cons_succ, i64_w, i32_w]
    rfl
  refine pure_ (i := 13) (N := some 9) (v := ?_) (a' := ?_) #[true, true, true, true, true, true, true, true, true, true, true, true, true, true, false] rfl rfl (by kernel_rfl) (fun _ _ _ h => h) (Or.inl ⟨by rfl, ?_⟩) ?_ ?_
  rotate_left
  · intro w'
    go_simp
    first | done | with_reducible rfl | rfl | (simp [Instr.field, go_sem]; rfl)
  rotate_left
  · simp only [Act.put, List.setIfInBounds_toArray, List.set_cons_zero, List.set_cons_succ, i64_w, i32_w]
    rfl
  refine pure_ (i := 14) (N := some 10) (v := ?_) (a' := ?_) #[true, true, true, true, true, true, true, true, true, true, true, true, true, true, true] rfl rfl (by kernel_rfl) (fun _ _ _ h => h) (Or.inl ⟨by rfl, ?_⟩) ?_ ?_
  rotate_left
  · intro w'
    go_simp
    first | done | with_reducible rfl | rfl | (simp [Instr.field, go_sem]; rfl)
  rotate_left
  · simp only [Act.put, List.setIfInBounds_toArray, List.set_cons_zero, List.set_cons_succ, i64_w, i32_w]
    rfl
  refine done_ (by kernel_rfl) ?_
  clear hHeld
  have hq2 : (q2 != 0) = true := bne_iff_ne.2 hq
  have hq3 : (q2 == 0) = false := beq_eq_false_iff_ne.2 hq
  go_wp2
  go_ret2
  exact ⟨rfl, A, c, HDx.out, below_step HB.out HSx.out, Stp.of_below HSx.out g _⟩
set_option maxRecDepth 100000 in
set_option maxHeartbeats 1000000 in
theorem dhear_same (w0 w : World) (g b : Nat) (me : Int) (xs : List S31) (A : Option Addr) (c : Nat) (u : S31) (hD : DocB w g b me xs A c) (hl : xs.length ≤ 4000) (hb : w0.heap.size ≤ b) (hB : Below w0.heap.size w0 w) (hm : conventicleref06_May.f u.f0 u.f1 u.f2 = some true) (old : S31) (hs : Bool) (hg : dGet xs u.f0 = (old, hs)) (hf : u.f0 = me) (q0 : Int) (q1 : Bool) (q2 : Int) (hr : conventicleref06_Refute.f 2 me old.f1 u.f0 u.f1 u.f2 = some (q0, q1, q2)) (hq : q2 = 0) (hi : q1 = false) :
    Calls Tryd.prog 22 #[.pointer (some ⟨g, 0, none⟩), .agg #[.int .i64 u.f0, .int .u64 u.f1, .int .i64 u.f2]] w fun e w' => e = .returned (.tuple #[.bool false, .int .i64 70]) ∧ ∃ A' c', DocB w' g b me (xs) A' c' ∧ Below w0.heap.size w0 w' ∧ Stp w w' g (Value.slice A xs.length c).ownBlock (Value.slice A' (xs).length c').ownBlock := by
  have HD := Aside0.mk hD
  have HW := Aside0.mk hb
  have HB := Aside0.mk hB
  clear hD hb hB
  subst hq hi
  have HMAY := Aside0.mk hm
  have HG := Aside0.mk hg
  have HRF := Aside0.mk hr
  have hd : (u.f0 == me) = true := beq_iff_eq.2 hf
  clear hm hg hr hf
  go_enter Tryd.func22, Tryd.ntmps22
  go_upto_region 4 with (first | ((with_reducible refine gate_dst (N := 3) rfl ?_); refine box_event ?hg (N := 3) ?hd (cs := #[.int .i64 u.f0, .int .u64 u.f1, .int .i64 u.f2]) (t := 31) ?hr ?_; (case hd => rfl); (case hg => rfl); (case hr => first | (go_simp; done) | (go_simp; rfl)); intro g1 hg1 w1 hb1 hB1; have G1 := Aside0.mk hg1; have K1 := Aside0.mk hb1; have B1 := Aside0.mk hB1; have y0 := (blk_cell hb1 0).trans rfl; have y1 := (blk_cell hb1 1).trans rfl; have y2 := (blk_cell hb1 2).trans rfl; clear hg1 hb1 hB1) | (go_at_call 19; refine (conventicleref06_May.calls u.f0 u.f1 u.f2 true _ HMAY.out).mono ?_; rintro e wm ⟨rfl, hb_⟩; have HBm := Aside0.mk hb_; have z0 := (blk_cell (blk_below K1.out hb_) 0).trans rfl; clear hb_) | (go_at_call 25; refine (dget_is _ g b me u.f0 xs A c old hs HG.out (HD.out.below (below_step B1.out HBm.out)) hl).mono ?_; rintro e wg ⟨rfl, hb_⟩; have HBg := Aside0.mk (below_step HBm.out hb_); clear hb_) | ((with_reducible refine gate_dst (N := 6) rfl ?_); refine box_event ?hg (N := 6) ?hd (cs := #[.int .i64 0, .int .u64 0, .int .i64 0]) (t := 31) ?hr ?_; (case hd => rfl); (case hg => rfl); (case hr => first | (go_simp; done) | (go_simp; rfl)); intro g6 hg_ wc hb_ hB_; have K6 := Aside0.mk hb_; have L6 := Aside0.mk (show w1.heap.size ≤ g6 from (by rw [hg_]; exact HBg.out.size)); have HBc := Aside0.mk (below_step HBg.out hB_); have q0 := (blk_cell K6.out 0).trans rfl; have q1 := (blk_cell K6.out 1).trans rfl; have q2 := (blk_cell K6.out 2).trans rfl; have qf := fun j => blk_frozen K6.out j; clear hg_ hb_ hB_))
  have J6 : Aside0 ((((wc.setCell ⟨g6, 0, none⟩ (.int .i64 old.f0)).setCell ⟨g6, 1, none⟩ (.int .u64 old.f1)).setCell ⟨g6, 2, none⟩ (.int .i64 old.f2)).heap[g6]? = some (.cells #[.int .i64 old.f0, .int .u64 old.f1, .int .i64 old.f2] 31 (0, 0))) := ⟨blk_put (cs := #[.int .i64 old.f0, .int .u64 old.f1, .int .i64 0]) (blk_put (cs := #[.int .i64 old.f0, .int .u64 0, .int .i64 0]) (blk_put (cs := #[.int .i64 0, .int .u64 0, .int .i64 0]) K6.out 0 _ rfl) 1 _ rfl) 2 _ rfl⟩
  have HBd : Aside0 (Below w1.heap.size w1 (((wc.setCell ⟨g6, 0, none⟩ (.int .i64 old.f0)).setCell ⟨g6, 1, none⟩ (.int .u64 old.f1)).setCell ⟨g6, 2, none⟩ (.int .i64 old.f2))) := ⟨below_set (below_set (below_set HBc.out L6.out) L6.out) L6.out⟩
  clear q0 q1 q2 qf HBc K6 L6
  generalize ((wc.setCell ⟨g6, 0, none⟩ (.int .i64 old.f0)).setCell ⟨g6, 1, none⟩ (.int .u64 old.f1)).setCell ⟨g6, 2, none⟩ (.int .i64 old.f2) = wd at J6 HBd ⊢
  clear HBg y0 y1 y2 z0
  have HDr := Aside0.mk (HD.out.below (below_step B1.out HBd.out))
  have Kr := Aside0.mk (blk_below K1.out HBd.out)
  have Jr := J6
  have HSr := Aside0.mk (below_step B1.out HBd.out)
  have HDx := Aside0.mk (HDr.out.below (below_drew1 (Below.refl wd.heap.size wd)))
  have Kx : Aside0 (wd.drew.heap[g1]? = some (.cells #[.int .i64 u.f0, .int .u64 u.f1, .int .i64 u.f2] 31 (0, 0))) := ⟨blk_drew Kr.out⟩
  have Jx : Aside0 (wd.drew.heap[g6]? = some (.cells #[.int .i64 old.f0, .int .u64 old.f1, .int .i64 old.f2] 31 (0, 0))) := ⟨blk_drew Jr.out⟩
  have HSx := Aside0.mk (below_drew1 HSr.out)
  refine start_ (n := 7) (S := fun w' => w'.cell? ⟨g1, 0, none⟩ = some (.int .i64 u.f0) ∧ w'.cell? ⟨g, 0, none⟩ = some (.int .i64 me)) (ds := []) #[false, false, false, false, false, false, false] (by kernel_rfl) rfl rfl ⟨(blk_cell Kx.out 0).trans rfl, (blk_cell HDx.out.blk 0).trans rfl⟩ (fun hHeld => ?_)
  generalize wd.drew = wx at HDx Kx Jx HSx hHeld ⊢
  refine pure_ (i := 0) (N := some 21) (v := ?_) (a' := ?_) #[true, false, false, false, false, false, false] rfl rfl (by kernel_rfl) (fun _ _ _ h => h) (Or.inl ⟨by rfl, ?_⟩) ?_ ?_
  rotate_left
  · intro w'
    go_simp
    first | done | with_reducible rfl | rfl | (simp [Instr.field, go_sem]; rfl)
  rotate_left
  · simp only [Act.put, List.setIfInBounds_toArray, List.set_cons_zero, List.set_cons_succ, i64_w, i32_w]
    rfl
  refine pure_ (i := 2) (N := some 23) (v := ?_) (a' := ?_) #[true, false, true, false, false, false, false] rfl rfl (by kernel_rfl) (fun _ _ _ h => h) (Or.inl ⟨by rfl, ?_⟩) ?_ ?_
  rotate_left
  · intro w'
    go_simp
    first | done | with_reducible rfl | rfl | (simp [Instr.field, go_sem]; rfl)
  rotate_left
  · simp only [Act.put, List.setIfInBounds_toArray, List.set_cons_zero, List.set_cons_succ, i64_w, i32_w]
    rfl
  refine pure_ (i := 3) (N := some 24) (v := ?_) (a' := ?_) #[true, false, true, true, false, false, false] rfl rfl (by kernel_rfl) (fun _ _ _ h => h) (Or.inl ⟨by rfl, ?_⟩) ?_ ?_
  rotate_left
  · intro w'
    go_simp
    first | done | with_reducible rfl | rfl | (simp [Instr.field, go_sem]; rfl)
  rotate_left
  · simp only [Act.put, List.setIfInBounds_toArray, List.set_cons_zero, List.set_cons_succ, i64_w, i32_w]
    rfl
  refine pure_ (i := 4) (N := some 25) (v := ?_) (a' := ?_) #[true, false, true, true, true, false, false] rfl rfl (by kernel_rfl) (fun _ _ _ h => h) (Or.inl ⟨by rfl, ?_⟩) ?_ ?_
  rotate_left
  · intro w'
    go_simp
    first | done | with_reducible rfl | rfl | (simp [Instr.field, go_sem]; rfl)
  rotate_left
  · simp only [Act.put, List.setIfInBounds_toArray, List.set_cons_zero, List.set_cons_succ, i64_w, i32_w]
    rfl
  refine take_ (i := 1) (N := some 22) (v := ?_) (a' := ?_) #[true, true, true, true, true, false, false] rfl rfl (by kernel_rfl) (fun _ _ _ h => h) (Or.inl ⟨by rfl, ?_⟩) hHeld ?_ ?_
  rotate_left
  · rintro w' ⟨s0, s1⟩
    go_simp
    first | done | with_reducible rfl | rfl | (simp [Instr.field, go_sem]; rfl)
  rotate_left
  · simp only [Act.put, List.setIfInBounds_toArray, List.set_cons_zero, List.set_cons_succ, i64_w, i32_w]
    rfl
  refine take_ (i := 5) (N := some 26) (v := ?_) (a' := ?_) #[true, true, true, true, true, true, false] rfl rfl (by kernel_rfl) (fun _ _ _ h => h) (Or.inl ⟨by rfl, ?_⟩) hHeld ?_ ?_
  rotate_left
  · rintro w' ⟨s0, s1⟩
    go_simp
    first | done | with_reducible rfl | rfl | (simp [Instr.field, go_sem]; rfl)
  rotate_left
  · simp only [Act.put, List.setIfInBounds_toArray, List.set_cons_zero, List.set_cons_succ, i64_w, i32_w]
    rfl
  refine pure_ (i := 6) (N := some 27) (v := ?_) (a' := ?_) #[true, true, true, true, true, true, true] rfl rfl (by kernel_rfl) (fun _ _ _ h => h) (Or.inl ⟨by rfl, ?_⟩) ?_ ?_
  rotate_left
  · intro w'
    go_simp
    first | done | with_reducible rfl | rfl | (simp [Instr.field, go_sem]; rfl)
  rotate_left
  · simp only [Act.put, List.setIfInBounds_toArray, List.set_cons_zero, List.set_cons_succ, i64_w, i32_w]
    rfl
  refine done_ (by kernel_rfl) ?_
  clear hHeld HBd J6
  go_upto_region 5 with (fail)
  have hHeld := HDx
  have HDr := HDx
  have Kr := Kx
  have Jr := Jx
  have HSr := HSx
  clear HDx Kx Jx HSx hHeld
  have HDx := Aside0.mk (HDr.out.below (below_drew1 (Below.refl wx.heap.size wx)))
  have Kx : Aside0 (wx.drew.heap[g1]? = some (.cells #[.int .i64 u.f0, .int .u64 u.f1, .int .i64 u.f2] 31 (0, 0))) := ⟨blk_drew Kr.out⟩
  have Jx : Aside0 (wx.drew.heap[g6]? = some (.cells #[.int .i64 old.f0, .int .u64 old.f1, .int .i64 old.f2] 31 (0, 0))) := ⟨blk_drew Jr.out⟩
  have HSx := Aside0.mk (below_drew1 HSr.out)
  refine start_ (n := 15) (S := fun w' => w'.cell? ⟨g, 0, none⟩ = some (.int .i64 me) ∧ w'.cell? ⟨g6, 1, none⟩ = some (.int .u64 old.f1) ∧ w'.cell? ⟨g1, 0, none⟩ = some (.int .i64 u.f0) ∧ w'.cell? ⟨g1, 1, none⟩ = some (.int .u64 u.f1) ∧ w'.cell? ⟨g1, 2, none⟩ = some (.int .i64 u.f2)) (ds := []) #[false, false, false, false, false, false, false, false, false, false, false, false, false, false, false] (by kernel_rfl) rfl rfl ⟨(blk_cell HDx.out.blk 0).trans rfl, (blk_cell Jx.out 1).trans rfl, (blk_cell Kx.out 0).trans rfl, (blk_cell Kx.out 1).trans rfl, (blk_cell Kx.out 2).trans rfl⟩ (fun hHeld => ?_)
  generalize wx.drew = wv at HDx Kx Jx HSx hHeld ⊢
  refine pure_ (i := 0) (N := some 29) (v := ?_) (a' := ?_) #[true, false, false, false, false, false, false, false, false, false, false, false, false, false, false] rfl rfl (by kernel_rfl) (fun _ _ _ h => h) (Or.inl ⟨by rfl, ?_⟩) ?_ ?_
  rotate_left
  · intro w'
    go_simp
    first | done | with_reducible rfl | rfl | (simp [Instr.field, go_sem]; rfl)
  rotate_left
  · simp only [Act.put, List.setIfInBounds_toArray, List.set_cons_zero, List.set_cons_succ, i64_w, i32_w]
    rfl
  refine pure_ (i := 1) (N := some 30) (v := ?_) (a' := ?_) #[true, true, false, false, false, false, false, false, false, false, false, false, false, false, false] rfl rfl (by kernel_rfl) (fun _ _ _ h => h) (Or.inl ⟨by rfl, ?_⟩) ?_ ?_
  rotate_left
  · intro w'
    go_simp
    first | done | with_reducible rfl | rfl | (simp [Instr.field, go_sem]; rfl)
  rotate_left
  · simp only [Act.put, List.setIfInBounds_toArray, List.set_cons_zero, List.set_cons_succ, i64_w, i32_w]
    rfl
  refine pure_ (i := 2) (N := some 31) (v := ?_) (a' := ?_) #[true, true, true, false, false, false, false, false, false, false, false, false, false, false, false] rfl rfl (by kernel_rfl) (fun _ _ _ h => h) (Or.inl ⟨by rfl, ?_⟩) ?_ ?_
  rotate_left
  · intro w'
    go_simp
    first | done | with_reducible rfl | rfl | (simp [Instr.field, go_sem]; rfl)
  rotate_left
  · simp only [Act.put, List.setIfInBounds_toArray, List.set_cons_zero, List.set_cons_succ, i64_w, i32_w]
    rfl
  refine pure_ (i := 4) (N := some 33) (v := ?_) (a' := ?_) #[true, true, true, false, true, false, false, false, false, false, false, false, false, false, false] rfl rfl (by kernel_rfl) (fun _ _ _ h => h) (Or.inl ⟨by rfl, ?_⟩) ?_ ?_
  rotate_left
  · intro w'
    go_simp
    first | done | with_reducible rfl | rfl | (simp [Instr.field, go_sem]; rfl)
  rotate_left
  · simp only [Act.put, List.setIfInBounds_toArray, List.set_cons_zero, List.set_cons_succ, i64_w, i32_w]
    rfl
  refine take_ (i := 3) (N := some 32) (v := ?_) (a' := ?_) #[true, true, true, true, true, false, false, false, false, false, false, false, false, false, false] rfl rfl (by kernel_rfl) (fun _ _ _ h => h) (Or.inl ⟨by rfl, ?_⟩) hHeld ?_ ?_
  rotate_left
  · rintro w' ⟨s0, s1, s2, s3, s4⟩
    go_simp
    first | done | with_reducible rfl | rfl | (simp [Instr.field, go_sem]; rfl)
  rotate_left
  · simp only [Act.put, List.setIfInBounds_toArray, List.set_cons_zero, List.set_cons_succ, i64_w, i32_w]
    rfl
  refine take_ (i := 5) (N := some 34) (v := ?_) (a' := ?_) #[true, true, true, true, true, true, false, false, false, false, false, false, false, false, false] rfl rfl (by kernel_rfl) (fun _ _ _ h => h) (Or.inl ⟨by rfl, ?_⟩) hHeld ?_ ?_
  rotate_left
  · rintro w' ⟨s0, s1, s2, s3, s4⟩
    go_simp
    first | done | with_reducible rfl | rfl | (simp [Instr.field, go_sem]; rfl)
  rotate_left
  · simp only [Act.put, List.setIfInBounds_toArray, List.set_cons_zero, List.set_cons_succ, i64_w, i32_w]
    rfl
  refine take_ (i := 6) (N := some 35) (v := ?_) (a' := ?_) #[true, true, true, true, true, true, true, false, false, false, false, false, false, false, false] rfl rfl (by kernel_rfl) (fun _ _ _ h => h) (Or.inl ⟨by rfl, ?_⟩) hHeld ?_ ?_
  rotate_left
  · rintro w' ⟨s0, s1, s2, s3, s4⟩
    go_simp
    first | done | with_reducible rfl | rfl | (simp [Instr.field, go_sem]; rfl)
  rotate_left
  · simp only [Act.put, List.setIfInBounds_toArray, List.set_cons_zero, List.set_cons_succ, i64_w, i32_w]
    rfl
  refine one_ (i := 7) (N := some 36) #[true, true, true, true, true, true, true, true, false, false, false, false, false, false, false] rfl rfl (by kernel_rfl) (by decide) (fun K hK => ?_)
  refine goes_ Tryd.func38 (by kernel_rfl) rfl #[.int .i64 me, .int .u64 old.f1, .agg #[.int .i64 u.f0, .int .u64 u.f1, .int .i64 u.f2]] (by rfl) rfl rfl (by (try simp only [List.map_toArray, List.map_cons, List.map_nil]); first | done | rfl) ?_
  refine (conventicleref06_Refute.calls 2 me old.f1 u.f0 u.f1 u.f2 q0 _ _ _ HRF.out).mono ?_
  rintro e wq ⟨rfl, hb_⟩
  refine ⟨_, rfl, ?_⟩
  have HDy := Aside0.mk (HDx.out.below hb_)
  have Ky := Aside0.mk (blk_below Kx.out hb_)
  have Jy := Aside0.mk (blk_below Jx.out hb_)
  have HSy := Aside0.mk (below_step HSx.out hb_)
  clear HDx Kx Jx HSx hHeld hb_
  have HDx := HDy
  have Kx := Ky
  have Jx := Jy
  have HSx := HSy
  clear HDy Ky Jy HSy
  refine hK _ _ ⟨(blk_cell HDx.out.blk 0).trans rfl, (blk_cell Jx.out 1).trans rfl, (blk_cell Kx.out 0).trans rfl, (blk_cell Kx.out 1).trans rfl, (blk_cell Kx.out 2).trans rfl⟩ (fun hHeld => ?_)
  clear hK K
  refine norm_ (a' := ?_) ?_ ?_
  rotate_left
  · show Act.put _ (some 36) _ = _
    simp only [Act.put, List.setIfInBounds_toArray, List.set_cons_zero, List.set_cons_succ, i64_w, i32_w]
    rfl
  refine pure_ (i := 8) (N := some 28) (v := ?_) (a' := ?_) #[true, true, true, true, true, true, true, true, true, false, false, false, false, false, false] rfl rfl (by kernel_rfl) (fun _ _ _ h => h) (Or.inl ⟨by rfl, ?_⟩) ?_ ?_
  rotate_left
  · intro w'
    go_simp
    first | done | with_reducible rfl | rfl | (simp [Instr.field, go_sem]; rfl)
  rotate_left
  · simp only [Act.put, List.setIfInBounds_toArray, List.set_cons_zero, List.set_cons_succ, i64_w, i32_w]
    rfl
  refine pure_ (i := 9) (N := some 37) (v := ?_) (a' := ?_) #[true, true, true, true, true, true, true, true, true, true, false, false, false, false, false] rfl rfl (by kernel_rfl) (fun _ _ _ h => h) (Or.inl ⟨by rfl, ?_⟩) ?_ ?_
  rotate_left
  · intro w'
    go_simp
    first | done | with_reducible rfl | rfl | (simp [Instr.field, go_sem]; rfl)
  rotate_left
  · simp only [Act.put, List.setIfInBounds_toArray, List.set_cons_zero, List.set_cons_succ, i64_w, i32_w]
    rfl
  refine pure_ (i := 10) (N := some 38) (v := ?_) (a' := ?_) #[true, true, true, true, true, true, true, true, true, true, true, false, false, false, false] rfl rfl (by kernel_rfl) (fun _ _ _ h => h) (Or.inl ⟨by rfl, ?_⟩) ?_ ?_
  rotate_left
  · intro w'
    go_simp
    first | done | with_reducible rfl | rfl | (simp [Instr.field, go_sem]; rfl)
  rotate_left
  · simp only [Act.put, List.setIfInBounds_toArray, List.set_cons_zero, List.set_cons_succ, i64_w, i32_w]
    rfl
  refine pure_ (i := 11) (N := some 39) (v := ?_) (a' := ?_) #[true, true, true, true, true, true, true, true, true, true, true, true, false, false, false] rfl rfl (by kernel_rfl) (fun _ _ _ h => h) (Or.inl ⟨by rfl, ?_⟩) ?_ ?_
  rotate_left
  · intro w'
    go_simp
    first | done | with_reducible rfl | rfl | (simp [Instr.field, go_sem]; rfl)
  rotate_left
  · simp only [Act.put, List.setIfInBounds_toArray, List.set_cons_zero, List.set_cons_succ, i64_w, i32_w]
    rfl
  refine pure_ (i := 12) (N := some 8) (v := ?_) (a' := ?_) #[true, true, true, true, true, true, true, true, true, true, true, true, true, false, false] rfl rfl (by kernel_rfl) (fun _ _ _ h => h) (Or.inl ⟨by rfl, ?_⟩) ?_ ?_
  rotate_left
  · intro w'
    go_simp
    first | done | with_reducible rfl | rfl | (simp [Instr.field, go_sem]; rfl)
  rotate_left
  · simp only [Act.put, List.setIfInBounds_toArray, List.set_cons_zero, List.set_cons_succ, i64_w, i32_w]
    rfl
  refine pure_ (i := 13) (N := some 9) (v := ?_) (a' := ?_) #[true, true, true, true, true, true, true, true, true, true, true, true, true, true, false] rfl rfl (by kernel_rfl) (fun _ _ _ h => h) (Or.inl ⟨by rfl, ?_⟩) ?_ ?_
  rotate_left
  · intro w'
    go_simp
    first | done | with_reducible rfl | rfl | (simp [Instr.field, go_sem]; rfl)
  rotate_left
  · simp only [Act.put, List.setIfInBounds_toArray, List.set_cons_zero, List.set_cons_succ, i64_w, i32_w]
    rfl
  refine pure_ (i := 14) (N := some 10) (v := ?_) (a' := ?_) #[true, true, true, true, true, true, true, true, true, true, true, true, true, true, true] rfl rfl (by kernel_rfl) (fun _ _ _ h => h) (Or.inl ⟨by rfl, ?_⟩) ?_ ?_
  rotate_left
  · intro w'
    go_simp
    first | done | with_reducible rfl | rfl | (simp [Instr.field, go_sem]; rfl)
  rotate_left
  · simp only [Act.put, List.setIfInBounds_toArray, List.set_cons_zero, List.set_cons_succ, i64_w, i32_w]
    rfl
  refine done_ (by kernel_rfl) ?_
  clear hHeld
  go_wp2
  go_ret2
  exact ⟨rfl, A, c, HDx.out, below_step HB.out HSx.out, Stp.of_below HSx.out g _⟩
set_option maxRecDepth 100000 in
set_option maxHeartbeats 1000000 in
theorem dhear_refute (w0 w : World) (g b : Nat) (me : Int) (xs : List S31) (A : Option Addr) (c : Nat) (u : S31) (hD : DocB w g b me xs A c) (hl : xs.length ≤ 4000) (hb : w0.heap.size ≤ b) (hB : Below w0.heap.size w0 w) (hm : conventicleref06_May.f u.f0 u.f1 u.f2 = some true) (old : S31) (hs : Bool) (hg : dGet xs u.f0 = (old, hs)) (hf : u.f0 = me) (q0 : Int) (q1 : Bool) (q2 : Int) (hr : conventicleref06_Refute.f 2 me old.f1 u.f0 u.f1 u.f2 = some (q0, q1, q2)) (hq : q2 = 0) (hi : q1 = true) :
    Calls Tryd.prog 22 #[.pointer (some ⟨g, 0, none⟩), .agg #[.int .i64 u.f0, .int .u64 u.f1, .int .i64 u.f2]] w fun e w' => e = .returned (.tuple #[.bool false, .int .i64 0]) ∧ ∃ A' c', DocB w' g b me (dPut xs ⟨me, q0, 0⟩) A' c' ∧ Below w0.heap.size w0 w' ∧ Stp w w' g (Value.slice A xs.length c).ownBlock (Value.slice A' (dPut xs ⟨me, q0, 0⟩).length c').ownBlock := by
  have HD := Aside0.mk hD
  have HW := Aside0.mk hb
  have HB := Aside0.mk hB
  clear hD hb hB
  subst hq hi
  have HMAY := Aside0.mk hm
  have HG := Aside0.mk hg
  have HRF := Aside0.mk hr
  have hd : (u.f0 == me) = true := beq_iff_eq.2 hf
  clear hm hg hr hf
  go_enter Tryd.func22, Tryd.ntmps22
  go_upto_region 4 with (first | ((with_reducible refine gate_dst (N := 3) rfl ?_); refine box_event ?hg (N := 3) ?hd (cs := #[.int .i64 u.f0, .int .u64 u.f1, .int .i64 u.f2]) (t := 31) ?hr ?_; (case hd => rfl); (case hg => rfl); (case hr => first | (go_simp; done) | (go_simp; rfl)); intro g1 hg1 w1 hb1 hB1; have G1 := Aside0.mk hg1; have K1 := Aside0.mk hb1; have B1 := Aside0.mk hB1; have y0 := (blk_cell hb1 0).trans rfl; have y1 := (blk_cell hb1 1).trans rfl; have y2 := (blk_cell hb1 2).trans rfl; clear hg1 hb1 hB1) | (go_at_call 19; refine (conventicleref06_May.calls u.f0 u.f1 u.f2 true _ HMAY.out).mono ?_; rintro e wm ⟨rfl, hb_⟩; have HBm := Aside0.mk hb_; have z0 := (blk_cell (blk_below K1.out hb_) 0).trans rfl; clear hb_) | (go_at_call 25; refine (dget_is _ g b me u.f0 xs A c old hs HG.out (HD.out.below (below_step B1.out HBm.out)) hl).mono ?_; rintro e wg ⟨rfl, hb_⟩; have HBg := Aside0.mk (below_step HBm.out hb_); clear hb_) | ((with_reducible refine gate_dst (N := 6) rfl ?_); refine box_event ?hg (N := 6) ?hd (cs := #[.int .i64 0, .int .u64 0, .int .i64 0]) (t := 31) ?hr ?_; (case hd => rfl); (case hg => rfl); (case hr => first | (go_simp; done) | (go_simp; rfl)); intro g6 hg_ wc hb_ hB_; have K6 := Aside0.mk hb_; have L6 := Aside0.mk (show w1.heap.size ≤ g6 from (by rw [hg_]; exact HBg.out.size)); have HBc := Aside0.mk (below_step HBg.out hB_); have q0 := (blk_cell K6.out 0).trans rfl; have q1 := (blk_cell K6.out 1).trans rfl; have q2 := (blk_cell K6.out 2).trans rfl; have qf := fun j => blk_frozen K6.out j; clear hg_ hb_ hB_))
  have J6 : Aside0 ((((wc.setCell ⟨g6, 0, none⟩ (.int .i64 old.f0)).setCell ⟨g6, 1, none⟩ (.int .u64 old.f1)).setCell ⟨g6, 2, none⟩ (.int .i64 old.f2)).heap[g6]? = some (.cells #[.int .i64 old.f0, .int .u64 old.f1, .int .i64 old.f2] 31 (0, 0))) := ⟨blk_put (cs := #[.int .i64 old.f0, .int .u64 old.f1, .int .i64 0]) (blk_put (cs := #[.int .i64 old.f0, .int .u64 0, .int .i64 0]) (blk_put (cs := #[.int .i64 0, .int .u64 0, .int .i64 0]) K6.out 0 _ rfl) 1 _ rfl) 2 _ rfl⟩
  have HBd : Aside0 (Below w1.heap.size w1 (((wc.setCell ⟨g6, 0, none⟩ (.int .i64 old.f0)).setCell ⟨g6, 1, none⟩ (.int .u64 old.f1)).setCell ⟨g6, 2, none⟩ (.int .i64 old.f2))) := ⟨below_set (below_set (below_set HBc.out L6.out) L6.out) L6.out⟩
  clear q0 q1 q2 qf HBc K6 L6
  generalize ((wc.setCell ⟨g6, 0, none⟩ (.int .i64 old.f0)).setCell ⟨g6, 1, none⟩ (.int .u64 old.f1)).setCell ⟨g6, 2, none⟩ (.int .i64 old.f2) = wd at J6 HBd ⊢
  clear HBg y0 y1 y2 z0
  have HDr := Aside0.mk (HD.out.below (below_step B1.out HBd.out))
  have Kr := Aside0.mk (blk_below K1.out HBd.out)
  have Jr := J6
  have HSr := Aside0.mk (below_step B1.out HBd.out)
  have HDx := Aside0.mk (HDr.out.below (below_drew1 (Below.refl wd.heap.size wd)))
  have Kx : Aside0 (wd.drew.heap[g1]? = some (.cells #[.int .i64 u.f0, .int .u64 u.f1, .int .i64 u.f2] 31 (0, 0))) := ⟨blk_drew Kr.out⟩
  have Jx : Aside0 (wd.drew.heap[g6]? = some (.cells #[.int .i64 old.f0, .int .u64 old.f1, .int .i64 old.f2] 31 (0, 0))) := ⟨blk_drew Jr.out⟩
  have HSx := Aside0.mk (below_drew1 HSr.out)
  refine start_ (n := 7) (S := fun w' => w'.cell? ⟨g1, 0, none⟩ = some (.int .i64 u.f0) ∧ w'.cell? ⟨g, 0, none⟩ = some (.int .i64 me)) (ds := []) #[false, false, false, false, false, false, false] (by kernel_rfl) rfl rfl ⟨(blk_cell Kx.out 0).trans rfl, (blk_cell HDx.out.blk 0).trans rfl⟩ (fun hHeld => ?_)
  generalize wd.drew = wx at HDx Kx Jx HSx hHeld ⊢
  refine pure_ (i := 0) (N := some 21) (v := ?_) (a' := ?_) #[true, false, false, false, false, false, false] rfl rfl (by kernel_rfl) (fun _ _ _ h => h) (Or.inl ⟨by rfl, ?_⟩) ?_ ?_
  rotate_left
  · intro w'
    go_simp
    first | done | with_reducible rfl | rfl | (simp [Instr.field, go_sem]; rfl)
  rotate_left
  · simp only [Act.put, List.setIfInBounds_toArray, List.set_cons_zero, List.set_cons_succ, i64_w, i32_w]
    rfl
  refine pure_ (i := 2) (N := some 23) (v := ?_) (a' := ?_) #[true, false, true, false, false, false, false] rfl rfl (by kernel_rfl) (fun _ _ _ h => h) (Or.inl ⟨by rfl, ?_⟩) ?_ ?_
  rotate_left
  · intro w'
    go_simp
    first | done | with_reducible rfl | rfl | (simp [Instr.field, go_sem]; rfl)
  rotate_left
  · simp only [Act.put, List.setIfInBounds_toArray, List.set_cons_zero, List.set_cons_succ, i64_w, i32_w]
    rfl
  refine pure_ (i := 3) (N := some 24) (v := ?_) (a' := ?_) #[true, false, true, true, false, false, false] rfl rfl (by kernel_rfl) (fun _ _ _ h => h) (Or.inl ⟨by rfl, ?_⟩) ?_ ?_
  rotate_left
  · intro w'
    go_simp
    first | done | with_reducible rfl | rfl | (simp [Instr.field, go_sem]; rfl)
  rotate_left
  · simp only [Act.put, List.setIfInBounds_toArray, List.set_cons_zero, List.set_cons_succ, i64_w, i32_w]
    rfl
  refine pure_ (i := 4) (N := some 25) (v := ?_) (a' := ?_) #[true, false, true, true, true, false, false] rfl rfl (by kernel_rfl) (fun _ _ _ h => h) (Or.inl ⟨by rfl, ?_⟩) ?_ ?_
  rotate_left
  · intro w'
    go_simp
    first | done | with_reducible rfl | rfl | (simp [Instr.field, go_sem]; rfl)
  rotate_left
  · simp only [Act.put, List.setIfInBounds_toArray, List.set_cons_zero, List.set_cons_succ, i64_w, i32_w]
    rfl
  refine take_ (i := 1) (N := some 22) (v := ?_) (a' := ?_) #[true, true, true, true, true, false, false] rfl rfl (by kernel_rfl) (fun _ _ _ h => h) (Or.inl ⟨by rfl, ?_⟩) hHeld ?_ ?_
  rotate_left
  · rintro w' ⟨s0, s1⟩
    go_simp
    first | done | with_reducible rfl | rfl | (simp [Instr.field, go_sem]; rfl)
  rotate_left
  · simp only [Act.put, List.setIfInBounds_toArray, List.set_cons_zero, List.set_cons_succ, i64_w, i32_w]
    rfl
  refine take_ (i := 5) (N := some 26) (v := ?_) (a' := ?_) #[true, true, true, true, true, true, false] rfl rfl (by kernel_rfl) (fun _ _ _ h => h) (Or.inl ⟨by rfl, ?_⟩) hHeld ?_ ?_
  rotate_left
  · rintro w' ⟨s0, s1⟩
    go_simp
    first | done | with_reducible rfl | rfl | (simp [Instr.field, go_sem]; rfl)
  rotate_left
  · simp only [Act.put, List.setIfInBounds_toArray, List.set_cons_zero, List.set_cons_succ, i64_w, i32_w]
    rfl
  refine pure_ (i := 6) (N := some 27) (v := ?_) (a' := ?_) #[true, true, true, true, true, true, true] rfl rfl (by kernel_rfl) (fun _ _ _ h => h) (Or.inl ⟨by rfl, ?_⟩) ?_ ?_
  rotate_left
  · intro w'
    go_simp
    first | done | with_reducible rfl | rfl | (simp [Instr.field, go_sem]; rfl)
  rotate_left
  · simp only [Act.put, List.setIfInBounds_toArray, List.set_cons_zero, List.set_cons_succ, i64_w, i32_w]
    rfl
  refine done_ (by kernel_rfl) ?_
  clear hHeld HBd J6
  go_upto_region 5 with (fail)
  have hHeld := HDx
  have HDr := HDx
  have Kr := Kx
  have Jr := Jx
  have HSr := HSx
  clear HDx Kx Jx HSx hHeld
  have HDx := Aside0.mk (HDr.out.below (below_drew1 (Below.refl wx.heap.size wx)))
  have Kx : Aside0 (wx.drew.heap[g1]? = some (.cells #[.int .i64 u.f0, .int .u64 u.f1, .int .i64 u.f2] 31 (0, 0))) := ⟨blk_drew Kr.out⟩
  have Jx : Aside0 (wx.drew.heap[g6]? = some (.cells #[.int .i64 old.f0, .int .u64 old.f1, .int .i64 old.f2] 31 (0, 0))) := ⟨blk_drew Jr.out⟩
  have HSx := Aside0.mk (below_drew1 HSr.out)
  refine start_ (n := 15) (S := fun w' => w'.cell? ⟨g, 0, none⟩ = some (.int .i64 me) ∧ w'.cell? ⟨g6, 1, none⟩ = some (.int .u64 old.f1) ∧ w'.cell? ⟨g1, 0, none⟩ = some (.int .i64 u.f0) ∧ w'.cell? ⟨g1, 1, none⟩ = some (.int .u64 u.f1) ∧ w'.cell? ⟨g1, 2, none⟩ = some (.int .i64 u.f2)) (ds := []) #[false, false, false, false, false, false, false, false, false, false, false, false, false, false, false] (by kernel_rfl) rfl rfl ⟨(blk_cell HDx.out.blk 0).trans rfl, (blk_cell Jx.out 1).trans rfl, (blk_cell Kx.out 0).trans rfl, (blk_cell Kx.out 1).trans rfl, (blk_cell Kx.out 2).trans rfl⟩ (fun hHeld => ?_)
  generalize wx.drew = wv at HDx Kx Jx HSx hHeld ⊢
  refine pure_ (i := 0) (N := some 29) (v := ?_) (a' := ?_) #[true, false, false, false, false, false, false, false, false, false, false, false, false, false, false] rfl rfl (by kernel_rfl) (fun _ _ _ h => h) (Or.inl ⟨by rfl, ?_⟩) ?_ ?_
  rotate_left
  · intro w'
    go_simp
    first | done | with_reducible rfl | rfl | (simp [Instr.field, go_sem]; rfl)
  rotate_left
  · simp only [Act.put, List.setIfInBounds_toArray, List.set_cons_zero, List.set_cons_succ, i64_w, i32_w]
    rfl
  refine pure_ (i := 1) (N := some 30) (v := ?_) (a' := ?_) #[true, true, false, false, false, false, false, false, false, false, false, false, false, false, false] rfl rfl (by kernel_rfl) (fun _ _ _ h => h) (Or.inl ⟨by rfl, ?_⟩) ?_ ?_
  rotate_left
  · intro w'
    go_simp
    first | done | with_reducible rfl | rfl | (simp [Instr.field, go_sem]; rfl)
  rotate_left
  · simp only [Act.put, List.setIfInBounds_toArray, List.set_cons_zero, List.set_cons_succ, i64_w, i32_w]
    rfl
  refine pure_ (i := 2) (N := some 31) (v := ?_) (a' := ?_) #[true, true, true, false, false, false, false, false, false, false, false, false, false, false, false] rfl rfl (by kernel_rfl) (fun _ _ _ h => h) (Or.inl ⟨by rfl, ?_⟩) ?_ ?_
  rotate_left
  · intro w'
    go_simp
    first | done | with_reducible rfl | rfl | (simp [Instr.field, go_sem]; rfl)
  rotate_left
  · simp only [Act.put, List.setIfInBounds_toArray, List.set_cons_zero, List.set_cons_succ, i64_w, i32_w]
    rfl
  refine pure_ (i := 4) (N := some 33) (v := ?_) (a' := ?_) #[true, true, true, false, true, false, false, false, false, false, false, false, false, false, false] rfl rfl (by kernel_rfl) (fun _ _ _ h => h) (Or.inl ⟨by rfl, ?_⟩) ?_ ?_
  rotate_left
  · intro w'
    go_simp
    first | done | with_reducible rfl | rfl | (simp [Instr.field, go_sem]; rfl)
  rotate_left
  · simp only [Act.put, List.setIfInBounds_toArray, List.set_cons_zero, List.set_cons_succ, i64_w, i32_w]
    rfl
  refine take_ (i := 3) (N := some 32) (v := ?_) (a' := ?_) #[true, true, true, true, true, false, false, false, false, false, false, false, false, false, false] rfl rfl (by kernel_rfl) (fun _ _ _ h => h) (Or.inl ⟨by rfl, ?_⟩) hHeld ?_ ?_
  rotate_left
  · rintro w' ⟨s0, s1, s2, s3, s4⟩
    go_simp
    first | done | with_reducible rfl | rfl | (simp [Instr.field, go_sem]; rfl)
  rotate_left
  · simp only [Act.put, List.setIfInBounds_toArray, List.set_cons_zero, List.set_cons_succ, i64_w, i32_w]
    rfl
  refine take_ (i := 5) (N := some 34) (v := ?_) (a' := ?_) #[true, true, true, true, true, true, false, false, false, false, false, false, false, false, false] rfl rfl (by kernel_rfl) (fun _ _ _ h => h) (Or.inl ⟨by rfl, ?_⟩) hHeld ?_ ?_
  rotate_left
  · rintro w' ⟨s0, s1, s2, s3, s4⟩
    go_simp
    first | done | with_reducible rfl | rfl | (simp [Instr.field, go_sem]; rfl)
  rotate_left
  · simp only [Act.put, List.setIfInBounds_toArray, List.set_cons_zero, List.set_cons_succ, i64_w, i32_w]
    rfl
  refine take_ (i := 6) (N := some 35) (v := ?_) (a' := ?_) #[true, true, true, true, true, true, true, false, false, false, false, false, false, false, false] rfl rfl (by kernel_rfl) (fun _ _ _ h => h) (Or.inl ⟨by rfl, ?_⟩) hHeld ?_ ?_
  rotate_left
  · rintro w' ⟨s0, s1, s2, s3, s4⟩
    go_simp
    first | done | with_reducible rfl | rfl | (simp [Instr.field, go_sem]; rfl)
  rotate_left
  · simp only [Act.put, List.setIfInBounds_toArray, List.set_cons_zero, List.set_cons_succ, i64_w, i32_w]
    rfl
  refine one_ (i := 7) (N := some 36) #[true, true, true, true, true, true, true, true, false, false, false, false, false, false, false] rfl rfl (by kernel_rfl) (by decide) (fun K hK => ?_)
  refine goes_ Tryd.func38 (by kernel_rfl) rfl #[.int .i64 me, .int .u64 old.f1, .agg #[.int .i64 u.f0, .int .u64 u.f1, .int .i64 u.f2]] (by rfl) rfl rfl (by (try simp only [List.map_toArray, List.map_cons, List.map_nil]); first | done | rfl) ?_
  refine (conventicleref06_Refute.calls 2 me old.f1 u.f0 u.f1 u.f2 q0 _ _ _ HRF.out).mono ?_
  rintro e wq ⟨rfl, hb_⟩
  refine ⟨_, rfl, ?_⟩
  have HDy := Aside0.mk (HDx.out.below hb_)
  have Ky := Aside0.mk (blk_below Kx.out hb_)
  have Jy := Aside0.mk (blk_below Jx.out hb_)
  have HSy := Aside0.mk (below_step HSx.out hb_)
  clear HDx Kx Jx HSx hHeld hb_
  have HDx := HDy
  have Kx := Ky
  have Jx := Jy
  have HSx := HSy
  clear HDy Ky Jy HSy
  refine hK _ _ ⟨(blk_cell HDx.out.blk 0).trans rfl, (blk_cell Jx.out 1).trans rfl, (blk_cell Kx.out 0).trans rfl, (blk_cell Kx.out 1).trans rfl, (blk_cell Kx.out 2).trans rfl⟩ (fun hHeld => ?_)
  clear hK K
  refine norm_ (a' := ?_) ?_ ?_
  rotate_left
  · show Act.put _ (some 36) _ = _
    simp only [Act.put, List.setIfInBounds_toArray, List.set_cons_zero, List.set_cons_succ, i64_w, i32_w]
    rfl
  refine pure_ (i := 8) (N := some 28) (v := ?_) (a' := ?_) #[true, true, true, true, true, true, true, true, true, false, false, false, false, false, false] rfl rfl (by kernel_rfl) (fun _ _ _ h => h) (Or.inl ⟨by rfl, ?_⟩) ?_ ?_
  rotate_left
  · intro w'
    go_simp
    first | done | with_reducible rfl | rfl | (simp [Instr.field, go_sem]; rfl)
  rotate_left
  · simp only [Act.put, List.setIfInBounds_toArray, List.set_cons_zero, List.set_cons_succ, i64_w, i32_w]
    rfl
  refine pure_ (i := 9) (N := some 37) (v := ?_) (a' := ?_) #[true, true, true, true, true, true, true, true, true, true, false, false, false, false, false] rfl rfl (by kernel_rfl) (fun _ _ _ h => h) (Or.inl ⟨by rfl, ?_⟩) ?_ ?_
  rotate_left
  · intro w'
    go_simp
    first | done | with_reducible rfl | rfl | (simp [Instr.field, go_sem]; rfl)
  rotate_left
  · simp only [Act.put, List.setIfInBounds_toArray, List.set_cons_zero, List.set_cons_succ, i64_w, i32_w]
    rfl
  refine pure_ (i := 10) (N := some 38) (v := ?_) (a' := ?_) #[true, true, true, true, true, true, true, true, true, true, true, false, false, false, false] rfl rfl (by kernel_rfl) (fun _ _ _ h => h) (Or.inl ⟨by rfl, ?_⟩) ?_ ?_
  rotate_left
  · intro w'
    go_simp
    first | done | with_reducible rfl | rfl | (simp [Instr.field, go_sem]; rfl)
  rotate_left
  · simp only [Act.put, List.setIfInBounds_toArray, List.set_cons_zero, List.set_cons_succ, i64_w, i32_w]
    rfl
  refine pure_ (i := 11) (N := some 39) (v := ?_) (a' := ?_) #[true, true, true, true, true, true, true, true, true, true, true, true, false, false, false] rfl rfl (by kernel_rfl) (fun _ _ _ h => h) (Or.inl ⟨by rfl, ?_⟩) ?_ ?_
  rotate_left
  · intro w'
    go_simp
    first | done | with_reducible rfl | rfl | (simp [Instr.field, go_sem]; rfl)
  rotate_left
  · simp only [Act.put, List.setIfInBounds_toArray, List.set_cons_zero, List.set_cons_succ, i64_w, i32_w]
    rfl
  refine pure_ (i := 12) (N := some 8) (v := ?_) (a' := ?_) #[true, true, true, true, true, true, true, true, true, true, true, true, true, false, false] rfl rfl (by kernel_rfl) (fun _ _ _ h => h) (Or.inl ⟨by rfl, ?_⟩) ?_ ?_
  rotate_left
  · intro w'
    go_simp
    first | done | with_reducible rfl | rfl | (simp [Instr.field, go_sem]; rfl)
  rotate_left
  · simp only [Act.put, List.setIfInBounds_toArray, List.set_cons_zero, List.set_cons_succ, i64_w, i32_w]
    rfl
  refine pure_ (i := 13) (N := some 9) (v := ?_) (a' := ?_) #[true, true, true, true, true, true, true, true, true, true, true, true, true, true, false] rfl rfl (by kernel_rfl) (fun _ _ _ h => h) (Or.inl ⟨by rfl, ?_⟩) ?_ ?_
  rotate_left
  · intro w'
    go_simp
    first | done | with_reducible rfl | rfl | (simp [Instr.field, go_sem]; rfl)
  rotate_left
  · simp only [Act.put, List.setIfInBounds_toArray, List.set_cons_zero, List.set_cons_succ, i64_w, i32_w]
    rfl
  refine pure_ (i := 14) (N := some 10) (v := ?_) (a' := ?_) #[true, true, true, true, true, true, true, true, true, true, true, true, true, true, true] rfl rfl (by kernel_rfl) (fun _ _ _ h => h) (Or.inl ⟨by rfl, ?_⟩) ?_ ?_
  rotate_left
  · intro w'
    go_simp
    first | done | with_reducible rfl | rfl | (simp [Instr.field, go_sem]; rfl)
  rotate_left
  · simp only [Act.put, List.setIfInBounds_toArray, List.set_cons_zero, List.set_cons_succ, i64_w, i32_w]
    rfl
  refine done_ (by kernel_rfl) ?_
  clear hHeld
  have hc0 := (blk_cell HDx.out.blk 0).trans rfl
  go_wp2_with (go_at_call 39; refine (dput_walk w0 _ g b me xs A c ⟨me, q0, 0⟩ HDx.out hl HW.out (below_step HB.out HSx.out)).mono ?_; rintro e wp ⟨⟨v, rfl⟩, A', c', hD_, hB_, hK_, hO_⟩; have HDp := Aside0.mk hD_; have HBp := Aside0.mk hB_; have HTp := Aside0.mk ((Stp.of_below HSx.out g _).trans ⟨hK_, hO_⟩); clear hD_ hB_ hK_ hO_)
  go_ret2
  exact ⟨rfl, A', c', HDp.out, HBp.out, HTp.out⟩
set_option maxRecDepth 100000 in
set_option maxHeartbeats 1000000 in
theorem dhear_old (w0 w : World) (g b : Nat) (me : Int) (xs : List S31) (A : Option Addr) (c : Nat) (u : S31) (hD : DocB w g b me xs A c) (hl : xs.length ≤ 4000) (hb : w0.heap.size ≤ b) (hB : Below w0.heap.size w0 w) (hm : conventicleref06_May.f u.f0 u.f1 u.f2 = some true) (old : S31) (hg : dGet xs u.f0 = (old, true)) (hf : u.f0 ≠ me) (hn : conventicleref06_Newer.f u.f0 u.f1 u.f2 old.f0 old.f1 old.f2 = some false) :
    Calls Tryd.prog 22 #[.pointer (some ⟨g, 0, none⟩), .agg #[.int .i64 u.f0, .int .u64 u.f1, .int .i64 u.f2]] w fun e w' => e = .returned (.tuple #[.bool false, .int .i64 70]) ∧ ∃ A' c', DocB w' g b me (xs) A' c' ∧ Below w0.heap.size w0 w' ∧ Stp w w' g (Value.slice A xs.length c).ownBlock (Value.slice A' (xs).length c').ownBlock := by
  have HD := Aside0.mk hD
  have HW := Aside0.mk hb
  have HB := Aside0.mk hB
  clear hD hb hB
  have HMAY := Aside0.mk hm
  have HG := Aside0.mk hg
  have HNW := Aside0.mk hn
  have hd : (u.f0 == me) = false := beq_eq_false_iff_ne.2 hf
  clear hm hg hf hn
  go_enter Tryd.func22, Tryd.ntmps22
  go_upto_region 4 with (first | ((with_reducible refine gate_dst (N := 3) rfl ?_); refine box_event ?hg (N := 3) ?hd (cs := #[.int .i64 u.f0, .int .u64 u.f1, .int .i64 u.f2]) (t := 31) ?hr ?_; (case hd => rfl); (case hg => rfl); (case hr => first | (go_simp; done) | (go_simp; rfl)); intro g1 hg1 w1 hb1 hB1; have G1 := Aside0.mk hg1; have K1 := Aside0.mk hb1; have B1 := Aside0.mk hB1; have y0 := (blk_cell hb1 0).trans rfl; have y1 := (blk_cell hb1 1).trans rfl; have y2 := (blk_cell hb1 2).trans rfl; clear hg1 hb1 hB1) | (go_at_call 19; refine (conventicleref06_May.calls u.f0 u.f1 u.f2 true _ HMAY.out).mono ?_; rintro e wm ⟨rfl, hb_⟩; have HBm := Aside0.mk hb_; have z0 := (blk_cell (blk_below K1.out hb_) 0).trans rfl; clear hb_) | (go_at_call 25; refine (dget_is _ g b me u.f0 xs A c old true HG.out (HD.out.below (below_step B1.out HBm.out)) hl).mono ?_; rintro e wg ⟨rfl, hb_⟩; have HBg := Aside0.mk (below_step HBm.out hb_); clear hb_) | ((with_reducible refine gate_dst (N := 6) rfl ?_); refine box_event ?hg (N := 6) ?hd (cs := #[.int .i64 0, .int .u64 0, .int .i64 0]) (t := 31) ?hr ?_; (case hd => rfl); (case hg => rfl); (case hr => first | (go_simp; done) | (go_simp; rfl)); intro g6 hg_ wc hb_ hB_; have K6 := Aside0.mk hb_; have L6 := Aside0.mk (show w1.heap.size ≤ g6 from (by rw [hg_]; exact HBg.out.size)); have HBc := Aside0.mk (below_step HBg.out hB_); have q0 := (blk_cell K6.out 0).trans rfl; have q1 := (blk_cell K6.out 1).trans rfl; have q2 := (blk_cell K6.out 2).trans rfl; have qf := fun j => blk_frozen K6.out j; clear hg_ hb_ hB_))
  have J6 : Aside0 ((((wc.setCell ⟨g6, 0, none⟩ (.int .i64 old.f0)).setCell ⟨g6, 1, none⟩ (.int .u64 old.f1)).setCell ⟨g6, 2, none⟩ (.int .i64 old.f2)).heap[g6]? = some (.cells #[.int .i64 old.f0, .int .u64 old.f1, .int .i64 old.f2] 31 (0, 0))) := ⟨blk_put (cs := #[.int .i64 old.f0, .int .u64 old.f1, .int .i64 0]) (blk_put (cs := #[.int .i64 old.f0, .int .u64 0, .int .i64 0]) (blk_put (cs := #[.int .i64 0, .int .u64 0, .int .i64 0]) K6.out 0 _ rfl) 1 _ rfl) 2 _ rfl⟩
  have HBd : Aside0 (Below w1.heap.size w1 (((wc.setCell ⟨g6, 0, none⟩ (.int .i64 old.f0)).setCell ⟨g6, 1, none⟩ (.int .u64 old.f1)).setCell ⟨g6, 2, none⟩ (.int .i64 old.f2))) := ⟨below_set (below_set (below_set HBc.out L6.out) L6.out) L6.out⟩
  clear q0 q1 q2 qf HBc K6 L6
  generalize ((wc.setCell ⟨g6, 0, none⟩ (.int .i64 old.f0)).setCell ⟨g6, 1, none⟩ (.int .u64 old.f1)).setCell ⟨g6, 2, none⟩ (.int .i64 old.f2) = wd at J6 HBd ⊢
  clear HBg y0 y1 y2 z0
  have HDr := Aside0.mk (HD.out.below (below_step B1.out HBd.out))
  have Kr := Aside0.mk (blk_below K1.out HBd.out)
  have Jr := J6
  have HSr := Aside0.mk (below_step B1.out HBd.out)
  have HDx := Aside0.mk (HDr.out.below (below_drew1 (Below.refl wd.heap.size wd)))
  have Kx : Aside0 (wd.drew.heap[g1]? = some (.cells #[.int .i64 u.f0, .int .u64 u.f1, .int .i64 u.f2] 31 (0, 0))) := ⟨blk_drew Kr.out⟩
  have Jx : Aside0 (wd.drew.heap[g6]? = some (.cells #[.int .i64 old.f0, .int .u64 old.f1, .int .i64 old.f2] 31 (0, 0))) := ⟨blk_drew Jr.out⟩
  have HSx := Aside0.mk (below_drew1 HSr.out)
  refine start_ (n := 7) (S := fun w' => w'.cell? ⟨g1, 0, none⟩ = some (.int .i64 u.f0) ∧ w'.cell? ⟨g, 0, none⟩ = some (.int .i64 me)) (ds := []) #[false, false, false, false, false, false, false] (by kernel_rfl) rfl rfl ⟨(blk_cell Kx.out 0).trans rfl, (blk_cell HDx.out.blk 0).trans rfl⟩ (fun hHeld => ?_)
  generalize wd.drew = wx at HDx Kx Jx HSx hHeld ⊢
  refine pure_ (i := 0) (N := some 21) (v := ?_) (a' := ?_) #[true, false, false, false, false, false, false] rfl rfl (by kernel_rfl) (fun _ _ _ h => h) (Or.inl ⟨by rfl, ?_⟩) ?_ ?_
  rotate_left
  · intro w'
    go_simp
    first | done | with_reducible rfl | rfl | (simp [Instr.field, go_sem]; rfl)
  rotate_left
  · simp only [Act.put, List.setIfInBounds_toArray, List.set_cons_zero, List.set_cons_succ, i64_w, i32_w]
    rfl
  refine pure_ (i := 2) (N := some 23) (v := ?_) (a' := ?_) #[true, false, true, false, false, false, false] rfl rfl (by kernel_rfl) (fun _ _ _ h => h) (Or.inl ⟨by rfl, ?_⟩) ?_ ?_
  rotate_left
  · intro w'
    go_simp
    first | done | with_reducible rfl | rfl | (simp [Instr.field, go_sem]; rfl)
  rotate_left
  · simp only [Act.put, List.setIfInBounds_toArray, List.set_cons_zero, List.set_cons_succ, i64_w, i32_w]
    rfl
  refine pure_ (i := 3) (N := some 24) (v := ?_) (a' := ?_) #[true, false, true, true, false, false, false] rfl rfl (by kernel_rfl) (fun _ _ _ h => h) (Or.inl ⟨by rfl, ?_⟩) ?_ ?_
  rotate_left
  · intro w'
    go_simp
    first | done | with_reducible rfl | rfl | (simp [Instr.field, go_sem]; rfl)
  rotate_left
  · simp only [Act.put, List.setIfInBounds_toArray, List.set_cons_zero, List.set_cons_succ, i64_w, i32_w]
    rfl
  refine pure_ (i := 4) (N := some 25) (v := ?_) (a' := ?_) #[true, false, true, true, true, false, false] rfl rfl (by kernel_rfl) (fun _ _ _ h => h) (Or.inl ⟨by rfl, ?_⟩) ?_ ?_
  rotate_left
  · intro w'
    go_simp
    first | done | with_reducible rfl | rfl | (simp [Instr.field, go_sem]; rfl)
  rotate_left
  · simp only [Act.put, List.setIfInBounds_toArray, List.set_cons_zero, List.set_cons_succ, i64_w, i32_w]
    rfl
  refine take_ (i := 1) (N := some 22) (v := ?_) (a' := ?_) #[true, true, true, true, true, false, false] rfl rfl (by kernel_rfl) (fun _ _ _ h => h) (Or.inl ⟨by rfl, ?_⟩) hHeld ?_ ?_
  rotate_left
  · rintro w' ⟨s0, s1⟩
    go_simp
    first | done | with_reducible rfl | rfl | (simp [Instr.field, go_sem]; rfl)
  rotate_left
  · simp only [Act.put, List.setIfInBounds_toArray, List.set_cons_zero, List.set_cons_succ, i64_w, i32_w]
    rfl
  refine take_ (i := 5) (N := some 26) (v := ?_) (a' := ?_) #[true, true, true, true, true, true, false] rfl rfl (by kernel_rfl) (fun _ _ _ h => h) (Or.inl ⟨by rfl, ?_⟩) hHeld ?_ ?_
  rotate_left
  · rintro w' ⟨s0, s1⟩
    go_simp
    first | done | with_reducible rfl | rfl | (simp [Instr.field, go_sem]; rfl)
  rotate_left
  · simp only [Act.put, List.setIfInBounds_toArray, List.set_cons_zero, List.set_cons_succ, i64_w, i32_w]
    rfl
  refine pure_ (i := 6) (N := some 27) (v := ?_) (a' := ?_) #[true, true, true, true, true, true, true] rfl rfl (by kernel_rfl) (fun _ _ _ h => h) (Or.inl ⟨by rfl, ?_⟩) ?_ ?_
  rotate_left
  · intro w'
    go_simp
    first | done | with_reducible rfl | rfl | (simp [Instr.field, go_sem]; rfl)
  rotate_left
  · simp only [Act.put, List.setIfInBounds_toArray, List.set_cons_zero, List.set_cons_succ, i64_w, i32_w]
    rfl
  refine done_ (by kernel_rfl) ?_
  clear hHeld HBd J6
  have y0 := (blk_cell Kx.out 0).trans rfl
  have y1 := (blk_cell Kx.out 1).trans rfl
  have y2 := (blk_cell Kx.out 2).trans rfl
  have x0 := (blk_cell Jx.out 0).trans rfl
  have x1 := (blk_cell Jx.out 1).trans rfl
  have x2 := (blk_cell Jx.out 2).trans rfl
  go_wp2_with (go_at_call 20; refine (conventicleref06_Newer.calls u.f0 u.f1 u.f2 old.f0 old.f1 old.f2 false _ HNW.out).mono ?_; rintro e wq ⟨rfl, hb_⟩; have HDq := Aside0.mk (HDx.out.below hb_); have HSq := Aside0.mk (below_step HSx.out hb_); have Kq := Aside0.mk (blk_below Kx.out hb_); have yy0 := (blk_cell Kq.out 0).trans rfl; have yy1 := (blk_cell Kq.out 1).trans rfl; have yy2 := (blk_cell Kq.out 2).trans rfl; clear hb_)
  go_ret2
  exact ⟨rfl, A, c, HDq.out, below_step HB.out HSq.out, Stp.of_below HSq.out g _⟩
set_option maxRecDepth 100000 in
set_option maxHeartbeats 1000000 in
theorem dhear_newer (w0 w : World) (g b : Nat) (me : Int) (xs : List S31) (A : Option Addr) (c : Nat) (u : S31) (hD : DocB w g b me xs A c) (hl : xs.length ≤ 4000) (hb : w0.heap.size ≤ b) (hB : Below w0.heap.size w0 w) (hm : conventicleref06_May.f u.f0 u.f1 u.f2 = some true) (old : S31) (hg : dGet xs u.f0 = (old, true)) (hf : u.f0 ≠ me) (hn : conventicleref06_Newer.f u.f0 u.f1 u.f2 old.f0 old.f1 old.f2 = some true) :
    Calls Tryd.prog 22 #[.pointer (some ⟨g, 0, none⟩), .agg #[.int .i64 u.f0, .int .u64 u.f1, .int .i64 u.f2]] w fun e w' => e = .returned (.tuple #[.bool true, .int .i64 0]) ∧ ∃ A' c', DocB w' g b me (dPut xs u) A' c' ∧ Below w0.heap.size w0 w' ∧ Stp w w' g (Value.slice A xs.length c).ownBlock (Value.slice A' (dPut xs u).length c').ownBlock := by
  have HD := Aside0.mk hD
  have HW := Aside0.mk hb
  have HB := Aside0.mk hB
  clear hD hb hB
  have HMAY := Aside0.mk hm
  have HG := Aside0.mk hg
  have HNW := Aside0.mk hn
  have hd : (u.f0 == me) = false := beq_eq_false_iff_ne.2 hf
  clear hm hg hf hn
  go_enter Tryd.func22, Tryd.ntmps22
  go_upto_region 4 with (first | ((with_reducible refine gate_dst (N := 3) rfl ?_); refine box_event ?hg (N := 3) ?hd (cs := #[.int .i64 u.f0, .int .u64 u.f1, .int .i64 u.f2]) (t := 31) ?hr ?_; (case hd => rfl); (case hg => rfl); (case hr => first | (go_simp; done) | (go_simp; rfl)); intro g1 hg1 w1 hb1 hB1; have G1 := Aside0.mk hg1; have K1 := Aside0.mk hb1; have B1 := Aside0.mk hB1; have y0 := (blk_cell hb1 0).trans rfl; have y1 := (blk_cell hb1 1).trans rfl; have y2 := (blk_cell hb1 2).trans rfl; clear hg1 hb1 hB1) | (go_at_call 19; refine (conventicleref06_May.calls u.f0 u.f1 u.f2 true _ HMAY.out).mono ?_; rintro e wm ⟨rfl, hb_⟩; have HBm := Aside0.mk hb_; have z0 := (blk_cell (blk_below K1.out hb_) 0).trans rfl; clear hb_) | (go_at_call 25; refine (dget_is _ g b me u.f0 xs A c old true HG.out (HD.out.below (below_step B1.out HBm.out)) hl).mono ?_; rintro e wg ⟨rfl, hb_⟩; have HBg := Aside0.mk (below_step HBm.out hb_); clear hb_) | ((with_reducible refine gate_dst (N := 6) rfl ?_); refine box_event ?hg (N := 6) ?hd (cs := #[.int .i64 0, .int .u64 0, .int .i64 0]) (t := 31) ?hr ?_; (case hd => rfl); (case hg => rfl); (case hr => first | (go_simp; done) | (go_simp; rfl)); intro g6 hg_ wc hb_ hB_; have K6 := Aside0.mk hb_; have L6 := Aside0.mk (show w1.heap.size ≤ g6 from (by rw [hg_]; exact HBg.out.size)); have HBc := Aside0.mk (below_step HBg.out hB_); have q0 := (blk_cell K6.out 0).trans rfl; have q1 := (blk_cell K6.out 1).trans rfl; have q2 := (blk_cell K6.out 2).trans rfl; have qf := fun j => blk_frozen K6.out j; clear hg_ hb_ hB_))
  have J6 : Aside0 ((((wc.setCell ⟨g6, 0, none⟩ (.int .i64 old.f0)).setCell ⟨g6, 1, none⟩ (.int .u64 old.f1)).setCell ⟨g6, 2, none⟩ (.int .i64 old.f2)).heap[g6]? = some (.cells #[.int .i64 old.f0, .int .u64 old.f1, .int .i64 old.f2] 31 (0, 0))) := ⟨blk_put (cs := #[.int .i64 old.f0, .int .u64 old.f1, .int .i64 0]) (blk_put (cs := #[.int .i64 old.f0, .int .u64 0, .int .i64 0]) (blk_put (cs := #[.int .i64 0, .int .u64 0, .int .i64 0]) K6.out 0 _ rfl) 1 _ rfl) 2 _ rfl⟩
  have HBd : Aside0 (Below w1.heap.size w1 (((wc.setCell ⟨g6, 0, none⟩ (.int .i64 old.f0)).setCell ⟨g6, 1, none⟩ (.int .u64 old.f1)).setCell ⟨g6, 2, none⟩ (.int .i64 old.f2))) := ⟨below_set (below_set (below_set HBc.out L6.out) L6.out) L6.out⟩
  clear q0 q1 q2 qf HBc K6 L6
  generalize ((wc.setCell ⟨g6, 0, none⟩ (.int .i64 old.f0)).setCell ⟨g6, 1, none⟩ (.int .u64 old.f1)).setCell ⟨g6, 2, none⟩ (.int .i64 old.f2) = wd at J6 HBd ⊢
  clear HBg y0 y1 y2 z0
  have HDr := Aside0.mk (HD.out.below (below_step B1.out HBd.out))
  have Kr := Aside0.mk (blk_below K1.out HBd.out)
  have Jr := J6
  have HSr := Aside0.mk (below_step B1.out HBd.out)
  have HDx := Aside0.mk (HDr.out.below (below_drew1 (Below.refl wd.heap.size wd)))
  have Kx : Aside0 (wd.drew.heap[g1]? = some (.cells #[.int .i64 u.f0, .int .u64 u.f1, .int .i64 u.f2] 31 (0, 0))) := ⟨blk_drew Kr.out⟩
  have Jx : Aside0 (wd.drew.heap[g6]? = some (.cells #[.int .i64 old.f0, .int .u64 old.f1, .int .i64 old.f2] 31 (0, 0))) := ⟨blk_drew Jr.out⟩
  have HSx := Aside0.mk (below_drew1 HSr.out)
  refine start_ (n := 7) (S := fun w' => w'.cell? ⟨g1, 0, none⟩ = some (.int .i64 u.f0) ∧ w'.cell? ⟨g, 0, none⟩ = some (.int .i64 me)) (ds := []) #[false, false, false, false, false, false, false] (by kernel_rfl) rfl rfl ⟨(blk_cell Kx.out 0).trans rfl, (blk_cell HDx.out.blk 0).trans rfl⟩ (fun hHeld => ?_)
  generalize wd.drew = wx at HDx Kx Jx HSx hHeld ⊢
  refine pure_ (i := 0) (N := some 21) (v := ?_) (a' := ?_) #[true, false, false, false, false, false, false] rfl rfl (by kernel_rfl) (fun _ _ _ h => h) (Or.inl ⟨by rfl, ?_⟩) ?_ ?_
  rotate_left
  · intro w'
    go_simp
    first | done | with_reducible rfl | rfl | (simp [Instr.field, go_sem]; rfl)
  rotate_left
  · simp only [Act.put, List.setIfInBounds_toArray, List.set_cons_zero, List.set_cons_succ, i64_w, i32_w]
    rfl
  refine pure_ (i := 2) (N := some 23) (v := ?_) (a' := ?_) #[true, false, true, false, false, false, false] rfl rfl (by kernel_rfl) (fun _ _ _ h => h) (Or.inl ⟨by rfl, ?_⟩) ?_ ?_
  rotate_left
  · intro w'
    go_simp
    first | done | with_reducible rfl | rfl | (simp [Instr.field, go_sem]; rfl)
  rotate_left
  · simp only [Act.put, List.setIfInBounds_toArray, List.set_cons_zero, List.set_cons_succ, i64_w, i32_w]
    rfl
  refine pure_ (i := 3) (N := some 24) (v := ?_) (a' := ?_) #[true, false, true, true, false, false, false] rfl rfl (by kernel_rfl) (fun _ _ _ h => h) (Or.inl ⟨by rfl, ?_⟩) ?_ ?_
  rotate_left
  · intro w'
    go_simp
    first | done | with_reducible rfl | rfl | (simp [Instr.field, go_sem]; rfl)
  rotate_left
  · simp only [Act.put, List.setIfInBounds_toArray, List.set_cons_zero, List.set_cons_succ, i64_w, i32_w]
    rfl
  refine pure_ (i := 4) (N := some 25) (v := ?_) (a' := ?_) #[true, false, true, true, true, false, false] rfl rfl (by kernel_rfl) (fun _ _ _ h => h) (Or.inl ⟨by rfl, ?_⟩) ?_ ?_
  rotate_left
  · intro w'
    go_simp
    first | done | with_reducible rfl | rfl | (simp [Instr.field, go_sem]; rfl)
  rotate_left
  · simp only [Act.put, List.setIfInBounds_toArray, List.set_cons_zero, List.set_cons_succ, i64_w, i32_w]
    rfl
  refine take_ (i := 1) (N := some 22) (v := ?_) (a' := ?_) #[true, true, true, true, true, false, false] rfl rfl (by kernel_rfl) (fun _ _ _ h => h) (Or.inl ⟨by rfl, ?_⟩) hHeld ?_ ?_
  rotate_left
  · rintro w' ⟨s0, s1⟩
    go_simp
    first | done | with_reducible rfl | rfl | (simp [Instr.field, go_sem]; rfl)
  rotate_left
  · simp only [Act.put, List.setIfInBounds_toArray, List.set_cons_zero, List.set_cons_succ, i64_w, i32_w]
    rfl
  refine take_ (i := 5) (N := some 26) (v := ?_) (a' := ?_) #[true, true, true, true, true, true, false] rfl rfl (by kernel_rfl) (fun _ _ _ h => h) (Or.inl ⟨by rfl, ?_⟩) hHeld ?_ ?_
  rotate_left
  · rintro w' ⟨s0, s1⟩
    go_simp
    first | done | with_reducible rfl | rfl | (simp [Instr.field, go_sem]; rfl)
  rotate_left
  · simp only [Act.put, List.setIfInBounds_toArray, List.set_cons_zero, List.set_cons_succ, i64_w, i32_w]
    rfl
  refine pure_ (i := 6) (N := some 27) (v := ?_) (a' := ?_) #[true, true, true, true, true, true, true] rfl rfl (by kernel_rfl) (fun _ _ _ h => h) (Or.inl ⟨by rfl, ?_⟩) ?_ ?_
  rotate_left
  · intro w'
    go_simp
    first | done | with_reducible rfl | rfl | (simp [Instr.field, go_sem]; rfl)
  rotate_left
  · simp only [Act.put, List.setIfInBounds_toArray, List.set_cons_zero, List.set_cons_succ, i64_w, i32_w]
    rfl
  refine done_ (by kernel_rfl) ?_
  clear hHeld HBd J6
  have y0 := (blk_cell Kx.out 0).trans rfl
  have y1 := (blk_cell Kx.out 1).trans rfl
  have y2 := (blk_cell Kx.out 2).trans rfl
  have x0 := (blk_cell Jx.out 0).trans rfl
  have x1 := (blk_cell Jx.out 1).trans rfl
  have x2 := (blk_cell Jx.out 2).trans rfl
  go_wp2_with (first | (go_at_call 20; refine (conventicleref06_Newer.calls u.f0 u.f1 u.f2 old.f0 old.f1 old.f2 true _ HNW.out).mono ?_; rintro e wq ⟨rfl, hb_⟩; have HDq := Aside0.mk (HDx.out.below hb_); have HSq := Aside0.mk (below_step HSx.out hb_); have Kq := Aside0.mk (blk_below Kx.out hb_); have yy0 := (blk_cell Kq.out 0).trans rfl; have yy1 := (blk_cell Kq.out 1).trans rfl; have yy2 := (blk_cell Kq.out 2).trans rfl; clear hb_) | (go_at_call 39; refine (dput_walk w0 _ g b me xs A c u HDq.out hl HW.out (below_step HB.out HSq.out)).mono ?_; rintro e wp ⟨⟨v, rfl⟩, A', c', hD_, hB_, hK_, hO_⟩; have HDp := Aside0.mk hD_; have HBp := Aside0.mk hB_; have HTp := Aside0.mk ((Stp.of_below HSq.out g _).trans ⟨hK_, hO_⟩); clear hD_ hB_ hK_ hO_))
  go_ret2
  exact ⟨rfl, A', c', HDp.out, HBp.out, HTp.out⟩
set_option maxRecDepth 100000 in
set_option maxHeartbeats 1000000 in
theorem dhear_first (w0 w : World) (g b : Nat) (me : Int) (xs : List S31) (A : Option Addr) (c : Nat) (u : S31) (hD : DocB w g b me xs A c) (hl : xs.length ≤ 4000) (hb : w0.heap.size ≤ b) (hB : Below w0.heap.size w0 w) (hm : conventicleref06_May.f u.f0 u.f1 u.f2 = some true) (old : S31) (hg : dGet xs u.f0 = (old, false)) (hf : u.f0 ≠ me) :
    Calls Tryd.prog 22 #[.pointer (some ⟨g, 0, none⟩), .agg #[.int .i64 u.f0, .int .u64 u.f1, .int .i64 u.f2]] w fun e w' => e = .returned (.tuple #[.bool true, .int .i64 0]) ∧ ∃ A' c', DocB w' g b me (dPut xs u) A' c' ∧ Below w0.heap.size w0 w' ∧ Stp w w' g (Value.slice A xs.length c).ownBlock (Value.slice A' (dPut xs u).length c').ownBlock := by
  have HD := Aside0.mk hD
  have HW := Aside0.mk hb
  have HB := Aside0.mk hB
  clear hD hb hB
  have HMAY := Aside0.mk hm
  have HG := Aside0.mk hg
  have HNW := Aside0.mk trivial
  have hd : (u.f0 == me) = false := beq_eq_false_iff_ne.2 hf
  clear hm hg hf
  go_enter Tryd.func22, Tryd.ntmps22
  go_upto_region 4 with (first | ((with_reducible refine gate_dst (N := 3) rfl ?_); refine box_event ?hg (N := 3) ?hd (cs := #[.int .i64 u.f0, .int .u64 u.f1, .int .i64 u.f2]) (t := 31) ?hr ?_; (case hd => rfl); (case hg => rfl); (case hr => first | (go_simp; done) | (go_simp; rfl)); intro g1 hg1 w1 hb1 hB1; have G1 := Aside0.mk hg1; have K1 := Aside0.mk hb1; have B1 := Aside0.mk hB1; have y0 := (blk_cell hb1 0).trans rfl; have y1 := (blk_cell hb1 1).trans rfl; have y2 := (blk_cell hb1 2).trans rfl; clear hg1 hb1 hB1) | (go_at_call 19; refine (conventicleref06_May.calls u.f0 u.f1 u.f2 true _ HMAY.out).mono ?_; rintro e wm ⟨rfl, hb_⟩; have HBm := Aside0.mk hb_; have z0 := (blk_cell (blk_below K1.out hb_) 0).trans rfl; clear hb_) | (go_at_call 25; refine (dget_is _ g b me u.f0 xs A c old false HG.out (HD.out.below (below_step B1.out HBm.out)) hl).mono ?_; rintro e wg ⟨rfl, hb_⟩; have HBg := Aside0.mk (below_step HBm.out hb_); clear hb_) | ((with_reducible refine gate_dst (N := 6) rfl ?_); refine box_event ?hg (N := 6) ?hd (cs := #[.int .i64 0, .int .u64 0, .int .i64 0]) (t := 31) ?hr ?_; (case hd => rfl); (case hg => rfl); (case hr => first | (go_simp; done) | (go_simp; rfl)); intro g6 hg_ wc hb_ hB_; have K6 := Aside0.mk hb_; have L6 := Aside0.mk (show w1.heap.size ≤ g6 from (by rw [hg_]; exact HBg.out.size)); have HBc := Aside0.mk (below_step HBg.out hB_); have q0 := (blk_cell K6.out 0).trans rfl; have q1 := (blk_cell K6.out 1).trans rfl; have q2 := (blk_cell K6.out 2).trans rfl; have qf := fun j => blk_frozen K6.out j; clear hg_ hb_ hB_))
  have J6 : Aside0 ((((wc.setCell ⟨g6, 0, none⟩ (.int .i64 old.f0)).setCell ⟨g6, 1, none⟩ (.int .u64 old.f1)).setCell ⟨g6, 2, none⟩ (.int .i64 old.f2)).heap[g6]? = some (.cells #[.int .i64 old.f0, .int .u64 old.f1, .int .i64 old.f2] 31 (0, 0))) := ⟨blk_put (cs := #[.int .i64 old.f0, .int .u64 old.f1, .int .i64 0]) (blk_put (cs := #[.int .i64 old.f0, .int .u64 0, .int .i64 0]) (blk_put (cs := #[.int .i64 0, .int .u64 0, .int .i64 0]) K6.out 0 _ rfl) 1 _ rfl) 2 _ rfl⟩
  have HBd : Aside0 (Below w1.heap.size w1 (((wc.setCell ⟨g6, 0, none⟩ (.int .i64 old.f0)).setCell ⟨g6, 1, none⟩ (.int .u64 old.f1)).setCell ⟨g6, 2, none⟩ (.int .i64 old.f2))) := ⟨below_set (below_set (below_set HBc.out L6.out) L6.out) L6.out⟩
  clear q0 q1 q2 qf HBc K6 L6
  generalize ((wc.setCell ⟨g6, 0, none⟩ (.int .i64 old.f0)).setCell ⟨g6, 1, none⟩ (.int .u64 old.f1)).setCell ⟨g6, 2, none⟩ (.int .i64 old.f2) = wd at J6 HBd ⊢
  clear HBg y0 y1 y2 z0
  have HDr := Aside0.mk (HD.out.below (below_step B1.out HBd.out))
  have Kr := Aside0.mk (blk_below K1.out HBd.out)
  have Jr := J6
  have HSr := Aside0.mk (below_step B1.out HBd.out)
  have HDx := Aside0.mk (HDr.out.below (below_drew1 (Below.refl wd.heap.size wd)))
  have Kx : Aside0 (wd.drew.heap[g1]? = some (.cells #[.int .i64 u.f0, .int .u64 u.f1, .int .i64 u.f2] 31 (0, 0))) := ⟨blk_drew Kr.out⟩
  have Jx : Aside0 (wd.drew.heap[g6]? = some (.cells #[.int .i64 old.f0, .int .u64 old.f1, .int .i64 old.f2] 31 (0, 0))) := ⟨blk_drew Jr.out⟩
  have HSx := Aside0.mk (below_drew1 HSr.out)
  refine start_ (n := 7) (S := fun w' => w'.cell? ⟨g1, 0, none⟩ = some (.int .i64 u.f0) ∧ w'.cell? ⟨g, 0, none⟩ = some (.int .i64 me)) (ds := []) #[false, false, false, false, false, false, false] (by kernel_rfl) rfl rfl ⟨(blk_cell Kx.out 0).trans rfl, (blk_cell HDx.out.blk 0).trans rfl⟩ (fun hHeld => ?_)
  generalize wd.drew = wx at HDx Kx Jx HSx hHeld ⊢
  refine pure_ (i := 0) (N := some 21) (v := ?_) (a' := ?_) #[true, false, false, false, false, false, false] rfl rfl (by kernel_rfl) (fun _ _ _ h => h) (Or.inl ⟨by rfl, ?_⟩) ?_ ?_
  rotate_left
  · intro w'
    go_simp
    first | done | with_reducible rfl | rfl | (simp [Instr.field, go_sem]; rfl)
  rotate_left
  · simp only [Act.put, List.setIfInBounds_toArray, List.set_cons_zero, List.set_cons_succ, i64_w, i32_w]
    rfl
  refine pure_ (i := 2) (N := some 23) (v := ?_) (a' := ?_) #[true, false, true, false, false, false, false] rfl rfl (by kernel_rfl) (fun _ _ _ h => h) (Or.inl ⟨by rfl, ?_⟩) ?_ ?_
  rotate_left
  · intro w'
    go_simp
    first | done | with_reducible rfl | rfl | (simp [Instr.field, go_sem]; rfl)
  rotate_left
  · simp only [Act.put, List.setIfInBounds_toArray, List.set_cons_zero, List.set_cons_succ, i64_w, i32_w]
    rfl
  refine pure_ (i := 3) (N := some 24) (v := ?_) (a' := ?_) #[true, false, true, true, false, false, false] rfl rfl (by kernel_rfl) (fun _ _ _ h => h) (Or.inl ⟨by rfl, ?_⟩) ?_ ?_
  rotate_left
  · intro w'
    go_simp
    first | done | with_reducible rfl | rfl | (simp [Instr.field, go_sem]; rfl)
  rotate_left
  · simp only [Act.put, List.setIfInBounds_toArray, List.set_cons_zero, List.set_cons_succ, i64_w, i32_w]
    rfl
  refine pure_ (i := 4) (N := some 25) (v := ?_) (a' := ?_) #[true, false, true, true, true, false, false] rfl rfl (by kernel_rfl) (fun _ _ _ h => h) (Or.inl ⟨by rfl, ?_⟩) ?_ ?_
  rotate_left
  · intro w'
    go_simp
    first | done | with_reducible rfl | rfl | (simp [Instr.field, go_sem]; rfl)
  rotate_left
  · simp only [Act.put, List.setIfInBounds_toArray, List.set_cons_zero, List.set_cons_succ, i64_w, i32_w]
    rfl
  refine take_ (i := 1) (N := some 22) (v := ?_) (a' := ?_) #[true, true, true, true, true, false, false] rfl rfl (by kernel_rfl) (fun _ _ _ h => h) (Or.inl ⟨by rfl, ?_⟩) hHeld ?_ ?_
  rotate_left
  · rintro w' ⟨s0, s1⟩
    go_simp
    first | done | with_reducible rfl | rfl | (simp [Instr.field, go_sem]; rfl)
  rotate_left
  · simp only [Act.put, List.setIfInBounds_toArray, List.set_cons_zero, List.set_cons_succ, i64_w, i32_w]
    rfl
  refine take_ (i := 5) (N := some 26) (v := ?_) (a' := ?_) #[true, true, true, true, true, true, false] rfl rfl (by kernel_rfl) (fun _ _ _ h => h) (Or.inl ⟨by rfl, ?_⟩) hHeld ?_ ?_
  rotate_left
  · rintro w' ⟨s0, s1⟩
    go_simp
    first | done | with_reducible rfl | rfl | (simp [Instr.field, go_sem]; rfl)
  rotate_left
  · simp only [Act.put, List.setIfInBounds_toArray, List.set_cons_zero, List.set_cons_succ, i64_w, i32_w]
    rfl
  refine pure_ (i := 6) (N := some 27) (v := ?_) (a' := ?_) #[true, true, true, true, true, true, true] rfl rfl (by kernel_rfl) (fun _ _ _ h => h) (Or.inl ⟨by rfl, ?_⟩) ?_ ?_
  rotate_left
  · intro w'
    go_simp
    first | done | with_reducible rfl | rfl | (simp [Instr.field, go_sem]; rfl)
  rotate_left
  · simp only [Act.put, List.setIfInBounds_toArray, List.set_cons_zero, List.set_cons_succ, i64_w, i32_w]
    rfl
  refine done_ (by kernel_rfl) ?_
  clear hHeld HBd J6
  have y0 := (blk_cell Kx.out 0).trans rfl
  have y1 := (blk_cell Kx.out 1).trans rfl
  have y2 := (blk_cell Kx.out 2).trans rfl
  have x0 := (blk_cell Jx.out 0).trans rfl
  have x1 := (blk_cell Jx.out 1).trans rfl
  have x2 := (blk_cell Jx.out 2).trans rfl
  go_wp2_with (go_at_call 39; refine (dput_walk w0 _ g b me xs A c u HDx.out hl HW.out (below_step HB.out HSx.out)).mono ?_; rintro e wp ⟨⟨v, rfl⟩, A', c', hD_, hB_, hK_, hO_⟩; have HDp := Aside0.mk hD_; have HBp := Aside0.mk hB_; have HTp := Aside0.mk ((Stp.of_below HSx.out g _).trans ⟨hK_, hO_⟩); clear hD_ hB_ hK_ hO_)
  go_ret2
  exact ⟨rfl, A', c', HDp.out, HBp.out, HTp.out⟩
theorem ref06_may2 (n i s : Int) : conventicleref06_May.f n i s = some (may n s) := by
  unfold conventicleref06_May.f may
  by_cases h0 : n ≥ 0
  · by_cases h1 : n < 64
    · by_cases h2 : s ≥ 0
      · simp [h0, h1, h2]
      · simp [h0, h1, h2]
    · simp [h0, h1]
  · simp [h0]
theorem ref06_newer2 (a b : S31) : conventicleref06_Newer.f a.f0 a.f1 a.f2 b.f0 b.f1 b.f2 = some (newerS a b) := by
  unfold conventicleref06_Newer.f newerS newer
  by_cases h0 : a.f1 > b.f1
  · rw [if_pos h0]; congr 1; symm; rw [decide_eq_true_iff]; omega
  · rw [if_neg h0]
    by_cases h1 : a.f1 = b.f1
    · rw [if_pos h1]; congr 1; rw [decide_eq_decide]; omega
    · rw [if_neg h1]; congr 1; symm; rw [decide_eq_false_iff_not]; omega
theorem dhear_any (w0 w : World) (g b : Nat) (k : Nat) (hk : k < 64) (xs : List S31) (A : Option Addr) (c : Nat) (u : S31) (hD : DocB w g b k xs A c) (hl : xs.length ≤ 4000) (hb : w0.heap.size ≤ b) (hB : Below w0.heap.size w0 w) (hu : OkU u) :
    Calls Tryd.prog 22 #[.pointer (some ⟨g, 0, none⟩), .agg #[.int .i64 u.f0, .int .u64 u.f1, .int .i64 u.f2]] w fun e w' => e = .returned (.tuple #[.bool (dHear k xs u).2.1, .int .i64 (dHear k xs u).2.2]) ∧ ∃ A' c', DocB w' g b k (dHear k xs u).1 A' c' ∧ Below w0.heap.size w0 w' ∧ Stp w w' g (Value.slice A xs.length c).ownBlock (Value.slice A' (dHear k xs u).1.length c').ownBlock := by
  have hmf : conventicleref06_May.f u.f0 u.f1 u.f2 = some (mayS u) := ref06_may2 u.f0 u.f1 u.f2
  cases hm : mayS u
  · rw [hm] at hmf
    have e : dHear k xs u = (xs, false, 1) := by unfold dHear; rw [if_neg (by rw [hm]; decide)]
    rw [e]
    exact dhear_bad w0 w g b k xs A c u hD hl hb hB hmf
  · rw [hm] at hmf
    obtain ⟨⟨old, hs⟩, hg⟩ : ∃ q, dGet xs u.f0 = q := ⟨_, rfl⟩
    by_cases hf : u.f0 = (k : Int)
    · have hr := rref_run 0 (k : Int) old.f1 u.f0 u.f1 u.f2 hu.1 hu.2 (fun h => (may_iff.1 h).2.2.1)
      have e : dHear k xs u = (if (refute (k : Int) old.f1 u.f0 u.f1 u.f2).2.2 = 0 then (if (refute (k : Int) old.f1 u.f0 u.f1 u.f2).2.1 = true then (dPut xs ⟨k, (refute (k : Int) old.f1 u.f0 u.f1 u.f2).1, 0⟩, false, 0) else (xs, false, 70)) else (xs, false, (refute (k : Int) old.f1 u.f0 u.f1 u.f2).2.2)) := by
        unfold dHear; rw [if_pos hm, if_pos hf, hg]
      rw [e]
      generalize refute (k : Int) old.f1 u.f0 u.f1 u.f2 = q at hr ⊢
      obtain ⟨q0, q1, q2⟩ := q
      dsimp only
      by_cases hq : q2 = 0
      · rw [if_pos hq]
        cases hi : q1
        · rw [if_neg (by decide)]
          exact dhear_same w0 w g b k xs A c u hD hl hb hB hmf old hs hg hf q0 q1 q2 hr hq hi
        · rw [if_pos rfl]
          exact dhear_refute w0 w g b k xs A c u hD hl hb hB hmf old hs hg hf q0 q1 q2 hr hq hi
      · rw [if_neg hq]
        exact dhear_err w0 w g b k xs A c u hD hl hb hB hmf old hs hg hf q0 q1 q2 hr hq
    · have hn := ref06_newer2 u old
      cases hh : hs
      · have e : dHear k xs u = (dPut xs u, true, 0) := by
          unfold dHear; rw [if_pos hm, if_neg hf, hg, hh, if_neg (by rintro ⟨h1, -⟩; cases h1)]
        rw [e]
        rw [hh] at hg
        exact dhear_first w0 w g b k xs A c u hD hl hb hB hmf old hg hf
      · rw [hh] at hg
        cases hw : newerS u old
        · have e : dHear k xs u = (xs, false, 70) := by
            unfold dHear; rw [if_pos hm, if_neg hf, hg, if_pos ⟨rfl, hw⟩]
          rw [e]
          rw [hw] at hn
          exact dhear_old w0 w g b k xs A c u hD hl hb hB hmf old hg hf hn
        · have e : dHear k xs u = (dPut xs u, true, 0) := by
            unfold dHear; rw [if_pos hm, if_neg hf, hg, if_neg (by rintro ⟨-, h1⟩; rw [hw] at h1; cases h1)]
          rw [e]
          rw [hw] at hn
          exact dhear_newer w0 w g b k xs A c u hD hl hb hB hmf old hg hf hn
theorem dhear_is (w0 w : World) (g b : Nat) (k : Nat) (hk : k < 64) (xs : List S31) (A : Option Addr) (c : Nat) (u : S31) (ys : List S31) (bb : Bool) (ee : Int) (he : dHear k xs u = (ys, bb, ee)) (hD : DocB w g b k xs A c) (hl : xs.length ≤ 4000) (hb : w0.heap.size ≤ b) (hB : Below w0.heap.size w0 w) (hu : OkU u) :
    Calls Tryd.prog 22 #[.pointer (some ⟨g, 0, none⟩), .agg #[.int .i64 u.f0, .int .u64 u.f1, .int .i64 u.f2]] w fun e w' => e = .returned (.tuple #[.bool bb, .int .i64 ee]) ∧ ∃ A' c', DocB w' g b k ys A' c' ∧ Below w0.heap.size w0 w' ∧ Stp w w' g (Value.slice A xs.length c).ownBlock (Value.slice A' ys.length c').ownBlock := by
  have := dhear_any w0 w g b k hk xs A c u hD hl hb hB hu
  rwa [he] at this
end Go.Proofs.YtkkcnhfbcophiaaDoor.B
end
