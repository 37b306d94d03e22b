/- By hand: the walk of RollSelf. -/
import Derived.Test.YtkkcnhfbcophiaaDoorShown
import Derived.Test.YtkkcnhfbcophiaaDoorSelfPlain
import Derived.Laws.CopyOwn
namespace Go.Proofs.YtkkcnhfbcophiaaDoor.B
open Go.RowKit Go.Proofs.YtkkcnhfbcophiaaDoorW.PrintWords Go.Proofs.YtkkcnhfbcophiaaDoorW.PrintLast Go.Proofs.YtkkcnhfbcophiaaDoorW.PrintMore Go.Proofs.YtkkcnhfbcophiaaDoor.Band Go.Proofs.YtkkcnhfbcophiaaDoor.Pure
set_option linter.unusedVariables false
set_option linter.unusedSimpArgs false

theorem hear_is (w0 w : World) (g : Nat) (R : RollS) (u : S31) (R1 : RollS) (b : Bool) (e1 : Int) (he : hearR R u = (R1, b, e1)) (hok : OkR R) (hu : OkU u) (hR : RollB w g R) (hg : w0.heap.size ≤ g) (hB : Below w0.heap.size w0 w) :
    Calls Tryd.prog 12 #[.pointer (some ⟨g, 0, none⟩), .agg #[.int .i64 u.f0, .int .u64 u.f1, .int .i64 u.f2]] w fun e w' =>
      e = .returned (.tuple #[.bool b, .int .i64 e1]) ∧ RollB w' g R1 ∧ Below w0.heap.size w0 w' ∧ KeepBut w w' g none := by
  have := hear_any w0 w g R u hok hu hR hg hB
  rwa [he] at this
theorem mine_is (w : World) (g : Nat) (R : RollS) (k : Nat) (i : Int) (h : RInv R k i) (hR : RollB w g R) :
    Calls Tryd.prog 13 #[.pointer (some ⟨g, 0, none⟩)] w fun e w' => e = .returned (.agg #[.int .i64 k, .int .u64 i, .int .i64 0]) ∧ Below w.heap.size w w' := by
  have := mine_any w g R h.ok hR
  rwa [h.me, Int.toNat_natCast, h.mine] at this
theorem get_is (w : World) (g : Nat) (R : RollS) (n : Int) (u : S31) (b : Bool) (h : getR R n = (u, b)) (hok : OkR R) (hR : RollB w g R) :
    Calls Tryd.prog 14 #[.pointer (some ⟨g, 0, none⟩), .int .i64 n] w fun e w' => e = .returned (.tuple #[.agg #[.int .i64 u.f0, .int .u64 u.f1, .int .i64 u.f2], .bool b]) ∧ Below w.heap.size w w' := by
  have := get_any w g R n hok hR
  rwa [h] at this
theorem size31 : (Tryd.prog.info? 31).map (·.size) = some 3 := by kernel_rfl
theorem RollB.far {w : World} {g : Nat} {R : RollS} (h : RollB w g R) {p : Addr} (hp : g ≠ p.block) (u : Value) : RollB (w.setCell p u) g R := blk_far h hp u
set_option maxRecDepth 100000 in
set_option maxHeartbeats 4000000 in
theorem self_walk (w : World) (A : Option Addr) (c : Nat) (l : List S31) (a0 a1 : Int) (k o : Nat) (hk : Int.tmod (wrap64 a0) 64 = k) (ho : Int.tmod (wrap64 a1) 64 = o) (hk64 : k < 64) (ho64 : o < 64) (hl : ∀ u ∈ l, OkU u) (hr : Kd.C k31 w A l.length l) (hT : Aside0 (TabT w)) :
    Calls Tryd.prog 3 #[.int .u8 a0, .int .u8 a1, .slice A l.length c] w fun e w' => e = .returned (.bool true) ∧ Below w.heap.size w w' := by
  have HL := Aside0.mk hr
  have HU := Aside0.mk hl
  have hlen : (l.length : Int) ≤ 9223372036854775807 := by have := hr.2.1; omega
  clear hr hl
  by_cases hc : 100 < l.length
  · have h1 : decide ((100 : Int) < (l.length : Int)) = true := decide_eq_true (by omega)
    have h2 : decide (100 < l.length) = true := decide_eq_true hc
    clear hc
    go_enter Tryd.func3, Tryd.ntmps3
    go_wp2_with (go_at_call 10; refine (shown_walk _ hT).mono ?_; rintro e w1 ⟨rfl, hb⟩; have HB1 := Aside0.mk hb; clear hb)
    go_ret
    exact ⟨rfl, HB1.out⟩
  · have h1 : decide ((100 : Int) < (l.length : Int)) = false := decide_eq_false (by omega)
    have h2 : decide (100 < l.length) = false := decide_eq_false hc
    have hc' := Aside0.mk hc
    have T1 := Aside0.mk trivial
    have T2 := Aside0.mk trivial
    clear hc
    go_enter Tryd.func3, Tryd.ntmps3
    go_wp2_with (first
      | (go_at_call 10; refine (shown_walk _ hT).mono ?_; rintro e w1 ⟨rfl, hb⟩; have HB1 := Aside0.mk hb; clear hb)
      | (go_at_call 11; have tk := T1; refine (new_any _ k hk64).mono ?_; rintro e w2 ⟨gr, rfl, hR_, hg_, hb_⟩; have HR2 := Aside0.mk hR_; have HGr : Aside0 (w.heap.size ≤ gr) := ⟨Nat.le_trans HB1.out.size hg_⟩; have HB2 := Aside0.mk (below_step HB1.out hb_); clear T1 tk hR_ hg_ hb_)
      | (go_at_call 11; have tk := T2; refine (new_any _ o ho64).mono ?_; rintro e w3 ⟨gs, rfl, hS_, hg_, hb_⟩; have HS3 := Aside0.mk hS_; have HGs : Aside0 (w.heap.size ≤ gs) := ⟨Nat.le_trans HB2.out.size hg_⟩; have HR3 := Aside0.mk (HR2.out.below hb_); have HB3 := Aside0.mk (below_step HB2.out hb_); have ngr : gr ≠ gs := (by have := blk_lt HR2.out; omega); have ngs : gs ≠ gr := Ne.symm ngr; clear T2 tk hS_ hg_ hb_))
    go_loopw [11, 12] (fun v11 v12 wr => ∃ (j : Nat) (R S : RollS) (i0 i : Int), v11 = .int .u64 i0 ∧ v12 = .int .i64 j ∧ Aside0 (i0 ≤ i) ∧ Aside0 (j ≤ l.length) ∧ Aside0 (RollB wr gr R) ∧ Aside0 (RollB wr gs S) ∧ Aside0 (RInv R k i) ∧ Aside0 (k = o ∨ SInv S o k i) ∧ Aside0 (Below w.heap.size w wr))
      (fun _ v12 _ => l.length - (intOf v12).toNat)
    case atStart =>
      refine ⟨0, _, _, 0, 0, rfl, rfl, ⟨Int.le_refl _⟩, ⟨Nat.zero_le _⟩, HR3, HS3, ⟨RInv.new k hk64⟩, ⟨?_⟩, HB3⟩
      by_cases e : k = o
      · exact .inl e
      · exact .inr (SInv.new o k ho64 hk64 (Ne.symm e) 0)
    case round =>
      obtain ⟨j, R, S, i0, i, rfl, rfl, hi0, hj, HRr, HSr, HI, HJ, HBr⟩ := hrel
      clear HR3 HS3 HB3 HR2 HB2
      by_cases hlt : j < l.length
      · obtain ⟨ad, e, hy0, hy1, hy2⟩ := at_T31 HL.out (j : Int) (by omega) (by omega)
        simp only [Int.toNat_natCast] at hy0 hy1 hy2
        obtain rfl := e
        obtain ⟨p, hp⟩ : ∃ p, p = rd_T31 l (j : Int) := ⟨_, rfl⟩
        have hup : OkU p := HU.out p (by
          rw [hp]
          unfold rd_T31
          rw [Int.toNat_natCast, List.getD_eq_getElem?_getD, List.getElem?_eq_getElem hlt]
          exact List.getElem_mem hlt)
        rw [← hp] at hy0 hy1 hy2
        clear hp
        have ADL : Aside0 (w.heap.size ≤ w.heap.size) := ⟨Nat.le_refl _⟩
        have Y0 := Aside0.mk hy0
        have Y1 := Aside0.mk hy1
        have Y2 := Aside0.mk hy2
        have HUP := Aside0.mk hup
        clear hy0 hy1 hy2 hup
        obtain ⟨f0, f1, f2⟩ := p
        dsimp only at Y0 Y1 Y2
        have hx0 := (HBr.out.cell (World.block_lt_of_cell? w _ Y0.out)).trans Y0.out
        have hx1 := (HBr.out.cell (World.block_lt_of_cell? w _ Y1.out)).trans Y1.out
        have hx2 := (HBr.out.cell (World.block_lt_of_cell? w _ Y2.out)).trans Y2.out
        obtain ⟨⟨R1, b1, e1⟩, hh1⟩ : ∃ q, hearR R ⟨f0, f1, f2⟩ = q := ⟨_, rfl⟩
        obtain ⟨i1, hi1, HI1', hq1⟩ := self_hears HI.out hk64 _ HUP.out hh1
        have HI1 := Aside0.mk HI1'
        have HH1 := Aside0.mk hh1
        have HQ1 := Aside0.mk hq1
        have le1 : decide (i1 < i0) = false := decide_eq_false (by have := hi0.out; omega)
        have LE1 := Aside0.mk hi1
        clear hh1 HI1' hq1 hi1
        have T1 := Aside0.mk trivial
        have T2 := Aside0.mk trivial
        by_cases hko : k = o
        · have hko1 : ((k : Int) == (o : Int)) = true := beq_iff_eq.2 (by omega)
          have HKO := Aside0.mk hko
          clear hko
          go_upto_if 70 with (first | (go_at_call 12; have tk := T1; refine (hear_is w _ gr R ⟨f0, f1, f2⟩ R1 _ _ HH1.out HI.out.ok HUP.out (HRr.out) HGr.out (HBr.out)).mono ?_; rintro e wa ⟨rfl, hR_, hB_, hK_⟩; have HRa := Aside0.mk hR_; have HBa := Aside0.mk hB_; have HSa : Aside0 (RollB wa gs S) := ⟨hK_.blk (HSr.out) ngs (by simp)⟩; have hx0 := (HBa.out.cell (World.block_lt_of_cell? w _ Y0.out)).trans Y0.out; have hx1 := (HBa.out.cell (World.block_lt_of_cell? w _ Y1.out)).trans Y1.out; have hx2 := (HBa.out.cell (World.block_lt_of_cell? w _ Y2.out)).trans Y2.out; clear T1 tk hR_ hB_ hK_) | (go_at_call 13; have tk := T2; refine (mine_is _ gr R1 k _ HI1.out HRa.out).mono ?_; rintro e wb ⟨rfl, hb_⟩; have HRb := Aside0.mk (RollB.below (R := R1) HRa.out hb_); have HSb := Aside0.mk (RollB.below (R := S) HSa.out hb_); have HBb := Aside0.mk (below_step HBa.out hb_); have hx0 := (HBb.out.cell (World.block_lt_of_cell? w _ Y0.out)).trans Y0.out; have hx1 := (HBb.out.cell (World.block_lt_of_cell? w _ Y1.out)).trans Y1.out; have hx2 := (HBb.out.cell (World.block_lt_of_cell? w _ Y2.out)).trans Y2.out; clear T2 tk hb_) | ((with_reducible refine gate_dst (N := 13) rfl ?_); refine box_event ?hg (N := 13) ?hd (cs := #[.int .i64 0, .int .u64 0, .int .i64 0]) (t := 31) ?hr ?_; (case hd => rfl); (case hg => rfl); (case hr => first | (go_simp; done) | (go_simp; rfl)); intro g13 hg_ wc hb_ hB_; have K13 := Aside0.mk hb_; have HRc := Aside0.mk (RollB.below (R := R1) HRb.out hB_); have HSc := Aside0.mk (RollB.below (R := S) HSb.out hB_); have L13 := Aside0.mk (show w.heap.size ≤ g13 from (by rw [hg_]; exact HBb.out.size)); have nr13 := Aside0.mk (show gr ≠ g13 from (by rw [hg_]; exact Nat.ne_of_lt (blk_lt HRb.out))); have ns13 := Aside0.mk (show gs ≠ g13 from (by rw [hg_]; exact Nat.ne_of_lt (blk_lt HSb.out))); have HBc := Aside0.mk (below_step HBb.out hB_); have z0 := (blk_cell K13.out 0).trans rfl; have z1 := (blk_cell K13.out 1).trans rfl; have z2 := (blk_cell K13.out 2).trans rfl; have zf := fun j => blk_frozen K13.out j; clear hg_ hb_ hB_))
          have J13 : Aside0 ((((wc.setCell ⟨g13, 0, none⟩ (.int .i64 k)).setCell ⟨g13, 1, none⟩ (.int .u64 i1)).setCell ⟨g13, 2, none⟩ (.int .i64 0)).heap[g13]? = some (.cells #[.int .i64 k, .int .u64 i1, .int .i64 0] 31 (0, 0))) := ⟨blk_put (cs := #[.int .i64 k, .int .u64 i1, .int .i64 0]) (blk_put (cs := #[.int .i64 k, .int .u64 0, .int .i64 0]) (blk_put (cs := #[.int .i64 0, .int .u64 0, .int .i64 0]) K13.out 0 _ rfl) 1 _ rfl) 2 _ rfl⟩
          have HRd : Aside0 (RollB (((wc.setCell ⟨g13, 0, none⟩ (.int .i64 k)).setCell ⟨g13, 1, none⟩ (.int .u64 i1)).setCell ⟨g13, 2, none⟩ (.int .i64 0)) gr R1) := ⟨RollB.far (RollB.far (RollB.far HRc.out nr13.out _) nr13.out _) nr13.out _⟩
          have HSd : Aside0 (RollB (((wc.setCell ⟨g13, 0, none⟩ (.int .i64 k)).setCell ⟨g13, 1, none⟩ (.int .u64 i1)).setCell ⟨g13, 2, none⟩ (.int .i64 0)) gs S) := ⟨RollB.far (RollB.far (RollB.far HSc.out ns13.out _) ns13.out _) ns13.out _⟩
          have HBd : Aside0 (Below w.heap.size w (((wc.setCell ⟨g13, 0, none⟩ (.int .i64 k)).setCell ⟨g13, 1, none⟩ (.int .u64 i1)).setCell ⟨g13, 2, none⟩ (.int .i64 0))) := ⟨below_set (below_set (below_set HBc.out L13.out) L13.out) L13.out⟩
          clear z0 z1 z2 zf hx0 hx1 hx2
          generalize ((wc.setCell ⟨g13, 0, none⟩ (.int .i64 k)).setCell ⟨g13, 1, none⟩ (.int .u64 i1)).setCell ⟨g13, 2, none⟩ (.int .i64 0) = wd at J13 HRd HSd HBd ⊢
          have y0 := (blk_cell J13.out 0).trans rfl
          have y1 := (blk_cell J13.out 1).trans rfl
          have y2 := (blk_cell J13.out 2).trans rfl
          have hx0 := (HBd.out.cell (World.block_lt_of_cell? w _ Y0.out)).trans Y0.out
          have hx1 := (HBd.out.cell (World.block_lt_of_cell? w _ Y1.out)).trans Y1.out
          have hx2 := (HBd.out.cell (World.block_lt_of_cell? w _ Y2.out)).trans Y2.out
          go_wp2
          go_roundw
          case rel => exact ⟨j + 1, R1, S, i1, i1, rfl, by go_num, ⟨Int.le_refl _⟩, ⟨hlt⟩, HRd, HSd, HI1, ⟨.inl HKO.out⟩, HBd⟩
          case measure => simp [intOf]; omega
        · have hko1 : ((k : Int) == (o : Int)) = false := beq_eq_false_iff_ne.2 (by omega)
          have HJ' : Aside0 (SInv S o k i) := ⟨HJ.out.resolve_left hko⟩
          have HKO := Aside0.mk hko
          clear hko HJ
          obtain ⟨⟨R2, b2, e2⟩, hh2⟩ : ∃ q, hearR R1 ⟨f0, f1, f2⟩ = q := ⟨_, rfl⟩
          obtain ⟨i2, hi2, HI2', hq2⟩ := self_hears HI1.out hk64 _ HUP.out hh2
          have HI2 := Aside0.mk HI2'
          have HH2 := Aside0.mk hh2
          obtain ⟨⟨S1, b3, e3⟩, hh3⟩ : ∃ q, hearR S ⟨f0, f1, f2⟩ = q := ⟨_, rfl⟩
          have HH3 := Aside0.mk hh3
          have HQ2 := Aside0.mk hq2
          have LE2 := Aside0.mk hi2
          clear hh2 hh3 HI2' hq2 hi2
          have T3 := Aside0.mk trivial
          have T4 := Aside0.mk trivial
          by_cases he2 : e2 = 60
          · have he2' : (e2 == 60) = true := beq_iff_eq.2 he2
            clear he2
            go_upto_if 70 with (first | (go_at_call 12; have tk := T1; refine (hear_is w _ gr R ⟨f0, f1, f2⟩ R1 _ _ HH1.out HI.out.ok HUP.out (HRr.out) HGr.out (HBr.out)).mono ?_; rintro e wa ⟨rfl, hR_, hB_, hK_⟩; have HRa := Aside0.mk hR_; have HBa := Aside0.mk hB_; have HSa : Aside0 (RollB wa gs S) := ⟨hK_.blk (HSr.out) ngs (by simp)⟩; have hx0 := (HBa.out.cell (World.block_lt_of_cell? w _ Y0.out)).trans Y0.out; have hx1 := (HBa.out.cell (World.block_lt_of_cell? w _ Y1.out)).trans Y1.out; have hx2 := (HBa.out.cell (World.block_lt_of_cell? w _ Y2.out)).trans Y2.out; clear T1 tk hR_ hB_ hK_) | (go_at_call 13; have tk := T2; refine (mine_is _ gr R1 k _ HI1.out HRa.out).mono ?_; rintro e wb ⟨rfl, hb_⟩; have HRb := Aside0.mk (RollB.below (R := R1) HRa.out hb_); have HSb := Aside0.mk (RollB.below (R := S) HSa.out hb_); have HBb := Aside0.mk (below_step HBa.out hb_); have hx0 := (HBb.out.cell (World.block_lt_of_cell? w _ Y0.out)).trans Y0.out; have hx1 := (HBb.out.cell (World.block_lt_of_cell? w _ Y1.out)).trans Y1.out; have hx2 := (HBb.out.cell (World.block_lt_of_cell? w _ Y2.out)).trans Y2.out; clear T2 tk hb_) | ((with_reducible refine gate_dst (N := 13) rfl ?_); refine box_event ?hg (N := 13) ?hd (cs := #[.int .i64 0, .int .u64 0, .int .i64 0]) (t := 31) ?hr ?_; (case hd => rfl); (case hg => rfl); (case hr => first | (go_simp; done) | (go_simp; rfl)); intro g13 hg_ wc hb_ hB_; have K13 := Aside0.mk hb_; have HRc := Aside0.mk (RollB.below (R := R1) HRb.out hB_); have HSc := Aside0.mk (RollB.below (R := S) HSb.out hB_); have L13 := Aside0.mk (show w.heap.size ≤ g13 from (by rw [hg_]; exact HBb.out.size)); have nr13 := Aside0.mk (show gr ≠ g13 from (by rw [hg_]; exact Nat.ne_of_lt (blk_lt HRb.out))); have ns13 := Aside0.mk (show gs ≠ g13 from (by rw [hg_]; exact Nat.ne_of_lt (blk_lt HSb.out))); have HBc := Aside0.mk (below_step HBb.out hB_); have z0 := (blk_cell K13.out 0).trans rfl; have z1 := (blk_cell K13.out 1).trans rfl; have z2 := (blk_cell K13.out 2).trans rfl; have zf := fun j => blk_frozen K13.out j; clear hg_ hb_ hB_))
            have J13 : Aside0 ((((wc.setCell ⟨g13, 0, none⟩ (.int .i64 k)).setCell ⟨g13, 1, none⟩ (.int .u64 i1)).setCell ⟨g13, 2, none⟩ (.int .i64 0)).heap[g13]? = some (.cells #[.int .i64 k, .int .u64 i1, .int .i64 0] 31 (0, 0))) := ⟨blk_put (cs := #[.int .i64 k, .int .u64 i1, .int .i64 0]) (blk_put (cs := #[.int .i64 k, .int .u64 0, .int .i64 0]) (blk_put (cs := #[.int .i64 0, .int .u64 0, .int .i64 0]) K13.out 0 _ rfl) 1 _ rfl) 2 _ rfl⟩
            have HRd : Aside0 (RollB (((wc.setCell ⟨g13, 0, none⟩ (.int .i64 k)).setCell ⟨g13, 1, none⟩ (.int .u64 i1)).setCell ⟨g13, 2, none⟩ (.int .i64 0)) gr R1) := ⟨RollB.far (RollB.far (RollB.far HRc.out nr13.out _) nr13.out _) nr13.out _⟩
            have HSd : Aside0 (RollB (((wc.setCell ⟨g13, 0, none⟩ (.int .i64 k)).setCell ⟨g13, 1, none⟩ (.int .u64 i1)).setCell ⟨g13, 2, none⟩ (.int .i64 0)) gs S) := ⟨RollB.far (RollB.far (RollB.far HSc.out ns13.out _) ns13.out _) ns13.out _⟩
            have HBd : Aside0 (Below w.heap.size w (((wc.setCell ⟨g13, 0, none⟩ (.int .i64 k)).setCell ⟨g13, 1, none⟩ (.int .u64 i1)).setCell ⟨g13, 2, none⟩ (.int .i64 0))) := ⟨below_set (below_set (below_set HBc.out L13.out) L13.out) L13.out⟩
            clear z0 z1 z2 zf hx0 hx1 hx2
            generalize ((wc.setCell ⟨g13, 0, none⟩ (.int .i64 k)).setCell ⟨g13, 1, none⟩ (.int .u64 i1)).setCell ⟨g13, 2, none⟩ (.int .i64 0) = wd at J13 HRd HSd HBd ⊢
            have y0 := (blk_cell J13.out 0).trans rfl
            have y1 := (blk_cell J13.out 1).trans rfl
            have y2 := (blk_cell J13.out 2).trans rfl
            have hx0 := (HBd.out.cell (World.block_lt_of_cell? w _ Y0.out)).trans Y0.out
            have hx1 := (HBd.out.cell (World.block_lt_of_cell? w _ Y1.out)).trans Y1.out
            have hx2 := (HBd.out.cell (World.block_lt_of_cell? w _ Y2.out)).trans Y2.out
            go_wp2_with (first | (go_at_call 12; have tk := T3; refine (hear_is w _ gs S ⟨f0, f1, f2⟩ S1 _ _ HH3.out HJ'.out.ok HUP.out (HSd.out) HGs.out (HBd.out)).mono ?_; rintro e we ⟨rfl, hR_, hB_, hK_⟩; have HSe := Aside0.mk hR_; have HBe := Aside0.mk hB_; have HRe : Aside0 (RollB we gr R1) := ⟨hK_.blk (HRd.out) ngr (by simp)⟩; have hx0 := (HBe.out.cell (World.block_lt_of_cell? w _ Y0.out)).trans Y0.out; have hx1 := (HBe.out.cell (World.block_lt_of_cell? w _ Y1.out)).trans Y1.out; have hx2 := (HBe.out.cell (World.block_lt_of_cell? w _ Y2.out)).trans Y2.out; clear T3 tk hR_ hB_ hK_) | (go_at_call 12; have tk := T4; refine (hear_is w _ gr R1 ⟨f0, f1, f2⟩ R2 _ _ HH2.out HI1.out.ok HUP.out (HRe.out) HGr.out (HBe.out)).mono ?_; rintro e wf ⟨rfl, hR_, hB_, hK_⟩; have HRf := Aside0.mk hR_; have HBf := Aside0.mk hB_; have HSf : Aside0 (RollB wf gs S1) := ⟨hK_.blk (HSe.out) ngs (by simp)⟩; have hx0 := (HBf.out.cell (World.block_lt_of_cell? w _ Y0.out)).trans Y0.out; have hx1 := (HBf.out.cell (World.block_lt_of_cell? w _ Y1.out)).trans Y1.out; have hx2 := (HBf.out.cell (World.block_lt_of_cell? w _ Y2.out)).trans Y2.out; clear T4 tk hR_ hB_ hK_))
            go_ret
            exact ⟨rfl, HBf.out⟩
          · have he2' : (e2 == 60) = false := beq_eq_false_iff_ne.2 he2
            have HJ1 := Aside0.mk (other_hears HJ'.out (Ne.symm HKO.out) ho64 hk64 _ HUP.out (Int.le_trans LE1.out LE2.out) (HQ2.out.resolve_left he2) HH3.out)
            obtain ⟨⟨S2, b4, e4⟩, hh4⟩ : ∃ q, hearR S1 ⟨k, i2, 0⟩ = q := ⟨_, rfl⟩
            obtain ⟨hJ2, hG2⟩ := other_hears_it HJ1.out (Ne.symm HKO.out) hk64 HI2.out.inc hh4
            have HH4 := Aside0.mk hh4
            have HJ2 := Aside0.mk hJ2
            have HG2 := Aside0.mk hG2
            clear he2 hh4 hJ2 hG2
            have T5 := Aside0.mk trivial
            have T6 := Aside0.mk trivial
            have T7 := Aside0.mk trivial
            go_upto_if 70 with (first | (go_at_call 12; have tk := T1; refine (hear_is w _ gr R ⟨f0, f1, f2⟩ R1 _ _ HH1.out HI.out.ok HUP.out (HRr.out) HGr.out (HBr.out)).mono ?_; rintro e wa ⟨rfl, hR_, hB_, hK_⟩; have HRa := Aside0.mk hR_; have HBa := Aside0.mk hB_; have HSa : Aside0 (RollB wa gs S) := ⟨hK_.blk (HSr.out) ngs (by simp)⟩; have hx0 := (HBa.out.cell (World.block_lt_of_cell? w _ Y0.out)).trans Y0.out; have hx1 := (HBa.out.cell (World.block_lt_of_cell? w _ Y1.out)).trans Y1.out; have hx2 := (HBa.out.cell (World.block_lt_of_cell? w _ Y2.out)).trans Y2.out; clear T1 tk hR_ hB_ hK_) | (go_at_call 13; have tk := T2; refine (mine_is _ gr R1 k _ HI1.out HRa.out).mono ?_; rintro e wb ⟨rfl, hb_⟩; have HRb := Aside0.mk (RollB.below (R := R1) HRa.out hb_); have HSb := Aside0.mk (RollB.below (R := S) HSa.out hb_); have HBb := Aside0.mk (below_step HBa.out hb_); have hx0 := (HBb.out.cell (World.block_lt_of_cell? w _ Y0.out)).trans Y0.out; have hx1 := (HBb.out.cell (World.block_lt_of_cell? w _ Y1.out)).trans Y1.out; have hx2 := (HBb.out.cell (World.block_lt_of_cell? w _ Y2.out)).trans Y2.out; clear T2 tk hb_) | ((with_reducible refine gate_dst (N := 13) rfl ?_); refine box_event ?hg (N := 13) ?hd (cs := #[.int .i64 0, .int .u64 0, .int .i64 0]) (t := 31) ?hr ?_; (case hd => rfl); (case hg => rfl); (case hr => first | (go_simp; done) | (go_simp; rfl)); intro g13 hg_ wc hb_ hB_; have K13 := Aside0.mk hb_; have HRc := Aside0.mk (RollB.below (R := R1) HRb.out hB_); have HSc := Aside0.mk (RollB.below (R := S) HSb.out hB_); have L13 := Aside0.mk (show w.heap.size ≤ g13 from (by rw [hg_]; exact HBb.out.size)); have nr13 := Aside0.mk (show gr ≠ g13 from (by rw [hg_]; exact Nat.ne_of_lt (blk_lt HRb.out))); have ns13 := Aside0.mk (show gs ≠ g13 from (by rw [hg_]; exact Nat.ne_of_lt (blk_lt HSb.out))); have HBc := Aside0.mk (below_step HBb.out hB_); have z0 := (blk_cell K13.out 0).trans rfl; have z1 := (blk_cell K13.out 1).trans rfl; have z2 := (blk_cell K13.out 2).trans rfl; have zf := fun j => blk_frozen K13.out j; clear hg_ hb_ hB_))
            have J13 : Aside0 ((((wc.setCell ⟨g13, 0, none⟩ (.int .i64 k)).setCell ⟨g13, 1, none⟩ (.int .u64 i1)).setCell ⟨g13, 2, none⟩ (.int .i64 0)).heap[g13]? = some (.cells #[.int .i64 k, .int .u64 i1, .int .i64 0] 31 (0, 0))) := ⟨blk_put (cs := #[.int .i64 k, .int .u64 i1, .int .i64 0]) (blk_put (cs := #[.int .i64 k, .int .u64 0, .int .i64 0]) (blk_put (cs := #[.int .i64 0, .int .u64 0, .int .i64 0]) K13.out 0 _ rfl) 1 _ rfl) 2 _ rfl⟩
            have HRd : Aside0 (RollB (((wc.setCell ⟨g13, 0, none⟩ (.int .i64 k)).setCell ⟨g13, 1, none⟩ (.int .u64 i1)).setCell ⟨g13, 2, none⟩ (.int .i64 0)) gr R1) := ⟨RollB.far (RollB.far (RollB.far HRc.out nr13.out _) nr13.out _) nr13.out _⟩
            have HSd : Aside0 (RollB (((wc.setCell ⟨g13, 0, none⟩ (.int .i64 k)).setCell ⟨g13, 1, none⟩ (.int .u64 i1)).setCell ⟨g13, 2, none⟩ (.int .i64 0)) gs S) := ⟨RollB.far (RollB.far (RollB.far HSc.out ns13.out _) ns13.out _) ns13.out _⟩
            have HBd : Aside0 (Below w.heap.size w (((wc.setCell ⟨g13, 0, none⟩ (.int .i64 k)).setCell ⟨g13, 1, none⟩ (.int .u64 i1)).setCell ⟨g13, 2, none⟩ (.int .i64 0))) := ⟨below_set (below_set (below_set HBc.out L13.out) L13.out) L13.out⟩
            clear z0 z1 z2 zf hx0 hx1 hx2
            generalize ((wc.setCell ⟨g13, 0, none⟩ (.int .i64 k)).setCell ⟨g13, 1, none⟩ (.int .u64 i1)).setCell ⟨g13, 2, none⟩ (.int .i64 0) = wd at J13 HRd HSd HBd ⊢
            have y0 := (blk_cell J13.out 0).trans rfl
            have y1 := (blk_cell J13.out 1).trans rfl
            have y2 := (blk_cell J13.out 2).trans rfl
            have hx0 := (HBd.out.cell (World.block_lt_of_cell? w _ Y0.out)).trans Y0.out
            have hx1 := (HBd.out.cell (World.block_lt_of_cell? w _ Y1.out)).trans Y1.out
            have hx2 := (HBd.out.cell (World.block_lt_of_cell? w _ Y2.out)).trans Y2.out
            go_wp2_with (first | (go_at_call 12; have tk := T3; refine (hear_is w _ gs S ⟨f0, f1, f2⟩ S1 _ _ HH3.out HJ'.out.ok HUP.out (HSd.out) HGs.out (HBd.out)).mono ?_; rintro e we ⟨rfl, hR_, hB_, hK_⟩; have HSe := Aside0.mk hR_; have HBe := Aside0.mk hB_; have HRe : Aside0 (RollB we gr R1) := ⟨hK_.blk (HRd.out) ngr (by simp)⟩; have hx0 := (HBe.out.cell (World.block_lt_of_cell? w _ Y0.out)).trans Y0.out; have hx1 := (HBe.out.cell (World.block_lt_of_cell? w _ Y1.out)).trans Y1.out; have hx2 := (HBe.out.cell (World.block_lt_of_cell? w _ Y2.out)).trans Y2.out; clear T3 tk hR_ hB_ hK_) | (go_at_call 12; have tk := T4; refine (hear_is w _ gr R1 ⟨f0, f1, f2⟩ R2 _ _ HH2.out HI1.out.ok HUP.out (HRe.out) HGr.out (HBe.out)).mono ?_; rintro e wf ⟨rfl, hR_, hB_, hK_⟩; have HRf := Aside0.mk hR_; have HBf := Aside0.mk hB_; have HSf : Aside0 (RollB wf gs S1) := ⟨hK_.blk (HSe.out) ngs (by simp)⟩; have hx0 := (HBf.out.cell (World.block_lt_of_cell? w _ Y0.out)).trans Y0.out; have hx1 := (HBf.out.cell (World.block_lt_of_cell? w _ Y1.out)).trans Y1.out; have hx2 := (HBf.out.cell (World.block_lt_of_cell? w _ Y2.out)).trans Y2.out; clear T4 tk hR_ hB_ hK_) | (go_at_call 13; have tk := T5; refine (mine_is _ gr R2 k _ HI2.out HRf.out).mono ?_; rintro e wg ⟨rfl, hb_⟩; have HRg := Aside0.mk (RollB.below (R := R2) HRf.out hb_); have HSg := Aside0.mk (RollB.below (R := S1) HSf.out hb_); have HBg := Aside0.mk (below_step HBf.out hb_); have hx0 := (HBg.out.cell (World.block_lt_of_cell? w _ Y0.out)).trans Y0.out; have hx1 := (HBg.out.cell (World.block_lt_of_cell? w _ Y1.out)).trans Y1.out; have hx2 := (HBg.out.cell (World.block_lt_of_cell? w _ Y2.out)).trans Y2.out; clear T5 tk hb_) | (go_at_call 12; have tk := T6; refine (hear_is w _ gs S1 ⟨k, i2, 0⟩ S2 _ _ HH4.out HJ1.out.ok HI2.out.inc (HSg.out) HGs.out (HBg.out)).mono ?_; rintro e wh ⟨rfl, hR_, hB_, hK_⟩; have HSh := Aside0.mk hR_; have HBh := Aside0.mk hB_; have HRh : Aside0 (RollB wh gr R2) := ⟨hK_.blk (HRg.out) ngr (by simp)⟩; have hx0 := (HBh.out.cell (World.block_lt_of_cell? w _ Y0.out)).trans Y0.out; have hx1 := (HBh.out.cell (World.block_lt_of_cell? w _ Y1.out)).trans Y1.out; have hx2 := (HBh.out.cell (World.block_lt_of_cell? w _ Y2.out)).trans Y2.out; clear T6 tk hR_ hB_ hK_) | (go_at_call 14; have tk := T7; refine (get_is _ gs S2 k ⟨k, i2, 0⟩ true HG2.out HJ2.out.ok HSh.out).mono ?_; rintro e wi ⟨rfl, hb_⟩; have HRi := Aside0.mk (RollB.below (R := R2) HRh.out hb_); have HSi := Aside0.mk (RollB.below (R := S2) HSh.out hb_); have HBi := Aside0.mk (below_step HBh.out hb_); clear T7 tk hb_) | ((with_reducible refine gate_dst (N := 16) rfl ?_); refine box_event ?hg (N := 16) ?hd (cs := #[.int .i64 0, .int .u64 0, .int .i64 0]) (t := 31) ?hr ?_; (case hd => rfl); (case hg => rfl); (case hr => first | (go_simp; done) | (go_simp; rfl)); intro g16 hg_ wj hb_ hB_; have K16 := Aside0.mk hb_; have HRj := Aside0.mk (RollB.below (R := R2) HRi.out hB_); have HSj := Aside0.mk (RollB.below (R := S2) HSi.out hB_); have L16 := Aside0.mk (show w.heap.size ≤ g16 from (by rw [hg_]; exact HBi.out.size)); have nr16 := Aside0.mk (show gr ≠ g16 from (by rw [hg_]; exact Nat.ne_of_lt (blk_lt HRi.out))); have ns16 := Aside0.mk (show gs ≠ g16 from (by rw [hg_]; exact Nat.ne_of_lt (blk_lt HSi.out))); have HBj := Aside0.mk (below_step HBi.out hB_); have z0 := (blk_cell K16.out 0).trans rfl; have z1 := (blk_cell K16.out 1).trans rfl; have z2 := (blk_cell K16.out 2).trans rfl; have zf := fun j => blk_frozen K16.out j; clear hg_ hb_ hB_))
            have J16 : Aside0 ((((wj.setCell ⟨g16, 0, none⟩ (.int .i64 k)).setCell ⟨g16, 1, none⟩ (.int .u64 i2)).setCell ⟨g16, 2, none⟩ (.int .i64 0)).heap[g16]? = some (.cells #[.int .i64 k, .int .u64 i2, .int .i64 0] 31 (0, 0))) := ⟨blk_put (cs := #[.int .i64 k, .int .u64 i2, .int .i64 0]) (blk_put (cs := #[.int .i64 k, .int .u64 0, .int .i64 0]) (blk_put (cs := #[.int .i64 0, .int .u64 0, .int .i64 0]) K16.out 0 _ rfl) 1 _ rfl) 2 _ rfl⟩
            have HRq : Aside0 (RollB (((wj.setCell ⟨g16, 0, none⟩ (.int .i64 k)).setCell ⟨g16, 1, none⟩ (.int .u64 i2)).setCell ⟨g16, 2, none⟩ (.int .i64 0)) gr R2) := ⟨RollB.far (RollB.far (RollB.far HRj.out nr16.out _) nr16.out _) nr16.out _⟩
            have HSq : Aside0 (RollB (((wj.setCell ⟨g16, 0, none⟩ (.int .i64 k)).setCell ⟨g16, 1, none⟩ (.int .u64 i2)).setCell ⟨g16, 2, none⟩ (.int .i64 0)) gs S2) := ⟨RollB.far (RollB.far (RollB.far HSj.out ns16.out _) ns16.out _) ns16.out _⟩
            have HBq : Aside0 (Below w.heap.size w (((wj.setCell ⟨g16, 0, none⟩ (.int .i64 k)).setCell ⟨g16, 1, none⟩ (.int .u64 i2)).setCell ⟨g16, 2, none⟩ (.int .i64 0))) := ⟨below_set (below_set (below_set HBj.out L16.out) L16.out) L16.out⟩
            clear z0 z1 z2 zf hx0 hx1 hx2
            generalize ((wj.setCell ⟨g16, 0, none⟩ (.int .i64 k)).setCell ⟨g16, 1, none⟩ (.int .u64 i2)).setCell ⟨g16, 2, none⟩ (.int .i64 0) = wq at J16 HRq HSq HBq ⊢
            have y0 := (blk_cell J16.out 0).trans rfl
            have y1 := (blk_cell J16.out 1).trans rfl
            have y2 := (blk_cell J16.out 2).trans rfl
            have hx0 := (HBq.out.cell (World.block_lt_of_cell? w _ Y0.out)).trans Y0.out
            have hx1 := (HBq.out.cell (World.block_lt_of_cell? w _ Y1.out)).trans Y1.out
            have hx2 := (HBq.out.cell (World.block_lt_of_cell? w _ Y2.out)).trans Y2.out
            have HRx : Aside0 (RollB wq.drew gr R2) := ⟨blk_drew HRq.out⟩
            have HSx : Aside0 (RollB wq.drew gs S2) := ⟨blk_drew HSq.out⟩
            have HBx := Aside0.mk (below_drew1 HBq.out)
            have JMx : Aside0 (wq.drew.heap[g16]? = some (.cells #[.int .i64 k, .int .u64 i2, .int .i64 0] 31 (0, 0))) := ⟨blk_drew J16.out⟩
            refine start_ (n := 8) (S := fun w' => w'.cell? ⟨g16, 0, none⟩ = some (.int .i64 k) ∧ w'.cell? ⟨g16, 1, none⟩ = some (.int .u64 i2) ∧ w'.cell? ⟨g16, 2, none⟩ = some (.int .i64 0)) (ds := []) #[false, false, false, false, false, false, false, false] (by kernel_rfl) rfl rfl ⟨(blk_cell JMx.out 0).trans rfl, (blk_cell JMx.out 1).trans rfl, (blk_cell JMx.out 2).trans rfl⟩ (fun hHeld => ?_)
            generalize wq.drew = wx at HRx HSx HBx JMx hHeld ⊢
            refine pure_ (i := 0) (N := some 103) (v := ?_) (a' := ?_) #[true, false, false, false, false, false, false, false] rfl rfl (by kernel_rfl) (fun _ _ _ h => h) (Or.inl ⟨by rfl, ?_⟩) ?_ ?_
            rotate_left
            · intro w'
              go_simp
              first | done | with_reducible rfl | rfl | (simp [Instr.field, go_sem]; rfl)
            rotate_left
            · simp only [Act.put, List.setIfInBounds_toArray, List.set_cons_zero, List.set_cons_succ, i64_w, i32_w]
              rfl
            refine pure_ (i := 1) (N := some 104) (v := ?_) (a' := ?_) #[true, true, false, false, false, false, false, false] rfl rfl (by kernel_rfl) (fun _ _ _ h => h) (Or.inl ⟨by rfl, ?_⟩) ?_ ?_
            rotate_left
            · intro w'
              go_simp
              first | done | with_reducible rfl | rfl | (simp [Instr.field, go_sem]; rfl)
            rotate_left
            · simp only [Act.put, List.setIfInBounds_toArray, List.set_cons_zero, List.set_cons_succ, i64_w, i32_w]
              rfl
            refine pure_ (i := 2) (N := some 105) (v := ?_) (a' := ?_) #[true, true, true, false, false, false, false, false] rfl rfl (by kernel_rfl) (fun _ _ _ h => h) (Or.inl ⟨by rfl, ?_⟩) ?_ ?_
            rotate_left
            · intro w'
              go_simp
              first | done | with_reducible rfl | rfl | (simp [Instr.field, go_sem]; rfl)
            rotate_left
            · simp only [Act.put, List.setIfInBounds_toArray, List.set_cons_zero, List.set_cons_succ, i64_w, i32_w]
              rfl
            refine pure_ (i := 4) (N := some 107) (v := ?_) (a' := ?_) #[true, true, true, false, true, false, false, false] rfl rfl (by kernel_rfl) (fun _ _ _ h => h) (Or.inl ⟨by rfl, ?_⟩) ?_ ?_
            rotate_left
            · intro w'
              go_simp
              first | done | with_reducible rfl | rfl | (simp [Instr.field, go_sem]; rfl)
            rotate_left
            · simp only [Act.put, List.setIfInBounds_toArray, List.set_cons_zero, List.set_cons_succ, i64_w, i32_w]
              rfl
            refine take_ (i := 3) (N := some 106) (v := ?_) (a' := ?_) #[true, true, true, true, true, false, false, false] rfl rfl (by kernel_rfl) (fun _ _ _ h => h) (Or.inl ⟨by rfl, ?_⟩) hHeld ?_ ?_
            rotate_left
            · rintro w' ⟨s0, s1, s2⟩
              go_simp
              first | done | with_reducible rfl | rfl | (simp [Instr.field, go_sem]; rfl)
            rotate_left
            · simp only [Act.put, List.setIfInBounds_toArray, List.set_cons_zero, List.set_cons_succ, i64_w, i32_w]
              rfl
            refine one_ (i := 5) (N := some 108) #[true, true, true, true, true, true, false, false] rfl rfl (by kernel_rfl) (by decide) (fun K hK => ?_)
            refine goes_ Tryd.func13 (by kernel_rfl) rfl #[.pointer (some ⟨gr, 0, none⟩)] (by rfl) rfl rfl (by (try simp only [List.map_toArray, List.map_cons, List.map_nil]); first | done | rfl) ?_
            refine (mine_is _ gr R2 k i2 HI2.out HRx.out).mono ?_
            rintro e w5 ⟨rfl, hb⟩
            refine ⟨_, rfl, ?_⟩
            have JMy : Aside0 (w5.heap[g16]? = some (.cells #[.int .i64 k, .int .u64 i2, .int .i64 0] 31 (0, 0))) := ⟨blk_below JMx.out hb⟩
            have HRy := Aside0.mk (RollB.below (R := R2) HRx.out hb)
            have HSy := Aside0.mk (RollB.below (R := S2) HSx.out hb)
            have HBy := Aside0.mk (below_step HBx.out hb)
            clear JMx hHeld
            have JMx := JMy
            refine hK _ _ ⟨(blk_cell JMx.out 0).trans rfl, (blk_cell JMx.out 1).trans rfl, (blk_cell JMx.out 2).trans rfl⟩ (fun hHeld => ?_)
            clear hK K
            refine norm_ (a' := ?_) ?_ ?_
            rotate_left
            · show Act.put _ (some 108) _ = _
              simp only [Act.put, List.setIfInBounds_toArray, List.set_cons_zero, List.set_cons_succ, i64_w, i32_w]
              rfl
            refine pure_ (i := 6) (N := some 109) (v := ?_) (a' := ?_) #[true, true, true, true, true, true, true, false] rfl rfl (by kernel_rfl) (fun _ _ _ h => h) (Or.inl ⟨by rfl, ?_⟩) ?_ ?_
            rotate_left
            · intro w'
              go_simp
              first | done | with_reducible rfl | rfl | (simp [Instr.field, go_sem]; rfl)
            rotate_left
            · simp only [Act.put, List.setIfInBounds_toArray, List.set_cons_zero, List.set_cons_succ, i64_w, i32_w]
              rfl
            refine pure_ (i := 7) (N := some 110) (v := ?_) (a' := ?_) #[true, true, true, true, true, true, true, true] rfl rfl (by kernel_rfl) (fun _ _ _ h => h) (Or.inl ⟨by rfl, ?_⟩) ?_ ?_
            rotate_left
            · intro w'
              go_simp
              first | done | with_reducible rfl | rfl | (simp [Instr.field, go_sem]; rfl)
            rotate_left
            · simp only [Act.put, List.setIfInBounds_toArray, List.set_cons_zero, List.set_cons_succ, i64_w, i32_w]
              rfl
            refine done_ (by kernel_rfl) ?_
            clear hHeld
            go_wp2
            go_roundw
            case rel => exact ⟨j + 1, R2, S2, i1, i2, rfl, by go_num, LE2, ⟨hlt⟩, HRy, HSy, HI2, ⟨.inr HJ2.out⟩, HBy⟩
            case measure => simp [intOf]; omega
      · obtain rfl : j = l.length := by have := hj.out; omega
        go_wp2
        go_ret
        exact ⟨rfl, HBr.out⟩
end Go.Proofs.YtkkcnhfbcophiaaDoor.B
