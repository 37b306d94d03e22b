/- By hand: (*Roll).Live, (*Roll).Others. -/
import Derived.Test.YtkkcnhfbcophiaaDoorAll
import Derived.Test.YtkkcnhfbcophiaaDoorRuns
namespace Go.Proofs.YtkkcnhfbcophiaaDoor.B
open Go.RowKit Go.Proofs.YtkkcnhfbcophiaaDoorW.PrintWords Go.Proofs.YtkkcnhfbcophiaaDoorW.PrintLast Go.Proofs.YtkkcnhfbcophiaaDoorW.PrintMore Go.Proofs.YtkkcnhfbcophiaaDoor.Band
set_option linter.unusedSimpArgs false
set_option linter.unusedVariables false

def isLive (u : S31) : Bool := decide (0 ≤ u.f2 ∧ u.f2 ≤ 1)
theorem live_f (u : S31) : rank_Live.f u.f0 u.f1 u.f2 = some (isLive u) := by
  unfold rank_Live.f isLive
  by_cases h : u.f2 ≥ 0
  · rw [if_pos h]; congr 1; rw [decide_eq_decide]; omega
  · rw [if_neg h]; congr 1; symm; rw [decide_eq_false_iff_not]; omega
def liveN (l : List S31) : Nat := l.foldl (fun b u => if isLive u = true then b ||| bitN u.f0 else b) 0
theorem live_lt (l : List S31) : ∀ b, b < 18446744073709551616 → l.foldl (fun b u => if isLive u = true then b ||| bitN u.f0 else b) b < 18446744073709551616 := by
  induction l with
  | nil => intro b hb; exact hb
  | cons u l ih =>
    intro b hb
    rw [List.foldl_cons]
    refine ih _ ?_
    split
    · exact or_lt _ _ hb (bitN_lt _)
    · exact hb
theorem liveN_lt (l : List S31) : liveN l < 18446744073709551616 := live_lt l 0 (by decide)
theorem liveN_take (l : List S31) (k : Nat) (hk : k < l.length) : liveN (l.take (k + 1)) = if isLive (rd_T31 l (k : Int)) = true then liveN (l.take k) ||| bitN (rd_T31 l (k : Int)).f0 else liveN (l.take k) := by
  have e : rd_T31 l (k : Int) = l[k] := by
    unfold rd_T31
    rw [Int.toNat_natCast, List.getD_eq_getElem?_getD, List.getElem?_eq_getElem hk]; rfl
  rw [e]
  unfold liveN
  rw [List.take_succ_eq_append_getElem hk, List.foldl_append]
  rfl
set_option maxRecDepth 100000 in
set_option maxHeartbeats 1000000 in
theorem live_walk (w : World) (g : Nat) (R : RollS) (hb : R.has < 18446744073709551616) (hT : Aside0 (TabT w)) (hR : RollB w g R) :
    Calls Tryd.prog 18 #[.pointer (some ⟨g, 0, none⟩)] w fun e w' => e = .returned (.int .u64 (liveN (allL R) : Nat)) ∧ Below w.heap.size w w' := by
  have HR := Aside0.mk hR
  have hal : (allL R).length ≤ 64 := by unfold allL; rw [List.length_map]; exact bandL_length _
  clear hR
  obtain ⟨l, hl⟩ : ∃ l, l = allL R := ⟨_, rfl⟩
  have hLL := Aside0.mk hl
  rw [← hl] at hal ⊢
  clear hl
  go_enter Tryd.func18, Tryd.ntmps18
  go_wp2_with (go_at_call 16; refine (all_walk _ g R hb hT HR.out).mono ?_; rintro e w1 ⟨v0, rfl, ho, hb1⟩; rw [← hLL.out] at ho; obtain ⟨A, c, rfl⟩ := Kd.R_slice ho; have HL := Aside0.mk (Kd.R_reads' ho).2.2; have B1 := Aside0.mk hb1; clear ho hb1)
  go_loopw [2, 8] (fun v i wr => ∃ k : Nat, i = .int .i64 k ∧ v = .int .u64 (liveN (l.take k) : Nat) ∧ Aside0 (k ≤ l.length) ∧ Aside0 (Below w1.heap.size w1 wr))
    (fun _ i _ => l.length - (intOf i).toNat)
  case atStart => exact ⟨0, rfl, by rw [List.take_zero]; rfl, ⟨Nat.zero_le _⟩, ⟨Below.refl _ _⟩⟩
  case round =>
    obtain ⟨k, rfl, rfl, hk, HB⟩ := hrel
    by_cases hlt : k < l.length
    · obtain ⟨ad, e, hx0, hx1, hx2⟩ := at_T31 HL.out (k : Int) (by omega) (by omega)
      simp only [Int.toNat_natCast] at hx0 hx1 hx2
      obtain rfl := e
      have hta := liveN_take l k hlt
      obtain ⟨p, hp⟩ : ∃ p, p = rd_T31 l (k : Int) := ⟨_, rfl⟩
      rw [← hp] at hx0 hx1 hx2 hta
      clear hp
      replace hx0 := (HB.out.cell (World.block_lt_of_cell? w1 _ hx0)).trans hx0
      replace hx1 := (HB.out.cell (World.block_lt_of_cell? w1 _ hx1)).trans hx1
      replace hx2 := (HB.out.cell (World.block_lt_of_cell? w1 _ hx2)).trans hx2
      have HTA := Aside0.mk hta
      have hW := Aside0.mk (with_run (liveN (l.take k)) (liveN_lt _) p.f0)
      have HLV := Aside0.mk (live_f p)
      clear hta
      cases hv : isLive p
      · rw [hv] at HTA HLV
        rw [if_neg (by decide)] at HTA
        clear hv
        go_wp2_with (first
          | ((with_reducible refine gate_dst (N := 4) rfl ?_); refine box_event ?hg (N := 4) ?hd (cs := #[.int .i64 0, .int .u64 0, .int .i64 0]) (t := 31) ?hr ?_; (case hd => rfl); (case hg => rfl); (case hr => first | (go_simp; done) | (go_simp; rfl)); intro g2 hg2 w3 hb3 hB3; have G2 := Aside0.mk hg2; have K3 := Aside0.mk hb3; have B3 := Aside0.mk hB3; have L2 : w1.heap.size ≤ g2 := (by rw [G2.out]; exact HB.out.size); have HB3 := Aside0.mk (below_step HB.out B3.out); have hz0 := (blk_cell K3.out 0).trans rfl; have hz1 := (blk_cell K3.out 1).trans rfl; have hz2 := (blk_cell K3.out 2).trans rfl; have hzf := fun j => blk_frozen K3.out j; replace hx0 := (B3.out.cell (World.block_lt_of_cell? wr _ hx0)).trans hx0; replace hx1 := (B3.out.cell (World.block_lt_of_cell? wr _ hx1)).trans hx1; replace hx2 := (B3.out.cell (World.block_lt_of_cell? wr _ hx2)).trans hx2; clear hg2 hb3 hB3)
          | (go_at_call 36; refine (rank_Live.calls p.f0 p.f1 p.f2 false _ HLV.out).mono ?_; rintro e w4 ⟨rfl, hd4⟩; have HD4 := Aside0.mk hd4; clear hd4))
        go_roundw
        case rel => exact ⟨k + 1, by go_num, by rw [HTA.out], ⟨hlt⟩, ⟨by refine below_step ?_ HD4.out; repeat (first | exact HB3.out | refine below_set ?_ L2)⟩⟩
        case measure => simp [intOf]; omega
      · rw [hv] at HTA HLV
        rw [if_pos rfl] at HTA
        clear hv
        go_wp2_with (first
          | ((with_reducible refine gate_dst (N := 4) rfl ?_); refine box_event ?hg (N := 4) ?hd (cs := #[.int .i64 0, .int .u64 0, .int .i64 0]) (t := 31) ?hr ?_; (case hd => rfl); (case hg => rfl); (case hr => first | (go_simp; done) | (go_simp; rfl)); intro g2 hg2 w3 hb3 hB3; have G2 := Aside0.mk hg2; have K3 := Aside0.mk hb3; have B3 := Aside0.mk hB3; have L2 : w1.heap.size ≤ g2 := (by rw [G2.out]; exact HB.out.size); have HB3 := Aside0.mk (below_step HB.out B3.out); have hz0 := (blk_cell K3.out 0).trans rfl; have hz1 := (blk_cell K3.out 1).trans rfl; have hz2 := (blk_cell K3.out 2).trans rfl; have hzf := fun j => blk_frozen K3.out j; replace hx0 := (B3.out.cell (World.block_lt_of_cell? wr _ hx0)).trans hx0; replace hx1 := (B3.out.cell (World.block_lt_of_cell? wr _ hx1)).trans hx1; replace hx2 := (B3.out.cell (World.block_lt_of_cell? wr _ hx2)).trans hx2; clear hg2 hb3 hB3)
          | (go_at_call 36; refine (rank_Live.calls p.f0 p.f1 p.f2 true _ HLV.out).mono ?_; rintro e w4 ⟨rfl, hd4⟩; have HD4 := Aside0.mk hd4; have KQ := Aside0.mk (show w4.heap[g2]? = some (.cells #[.int .i64 p.f0, .int .u64 p.f1, .int .i64 p.f2] 31 (0, 0)) from blk_below (by refine blk_put (cs := #[.int .i64 p.f0, .int .u64 p.f1, .int .i64 0]) ?_ 2 _ rfl; refine blk_put (cs := #[.int .i64 p.f0, .int .u64 0, .int .i64 0]) ?_ 1 _ rfl; refine blk_put (cs := #[.int .i64 0, .int .u64 0, .int .i64 0]) ?_ 0 _ rfl; exact K3.out) HD4.out); have hq0 := (blk_cell KQ.out 0).trans rfl; clear hd4)
          | (go_at_call 37; refine (band_With.calls (liveN (l.take k) : Nat) p.f0 _ _ hW.out).mono ?_; rintro e w5 ⟨rfl, ⟨nd, rfl⟩⟩))
        go_roundw
        case rel => exact ⟨k + 1, by go_num, by rw [HTA.out], ⟨hlt⟩, ⟨by refine pw_below_drewN (below_step ?_ HD4.out) nd; repeat (first | exact HB3.out | refine below_set ?_ L2)⟩⟩
        case measure => simp [intOf]; omega
    · obtain rfl : k = l.length := by have := hk.out; omega
      go_wp2
      go_ret
      rw [List.take_length]
      exact ⟨rfl, below_step B1.out HB.out⟩

def othersL (R : RollS) : List Int := bandL (clr (liveN (allL R)) (bitN R.me))
set_option maxRecDepth 100000 in
set_option maxHeartbeats 1000000 in
theorem others_walk (w : World) (g : Nat) (R : RollS) (hb : R.has < 18446744073709551616) (hT : Aside0 (TabT w)) (hR : RollB w g R) :
    Calls Tryd.prog 26 #[.pointer (some ⟨g, 0, none⟩)] w fun e w' => ∃ v, e = .returned v ∧ Kd.R (Kd.int .i64) 3 w' w.heap.size (fun _ => True) v (othersL R) ∧ Below w.heap.size w w' := by
  have HRx : Aside0 (RollB w.drew g R) := ⟨blk_drew hR⟩
  have HBx := Aside0.mk (below_drew1 (Below.refl w.heap.size w))
  have HTx : Aside0 (TabT w.drew) := tab_drew hT
  have HLs := Aside0.mk (less_run (liveN (allL R)) (liveN_lt _) R.me)
  have HLi : Aside0 (band_List.f (clr (liveN (allL R)) (bitN R.me) : Nat) = some (bandL (clr (liveN (allL R)) (bitN R.me)))) := ⟨by unfold band_List.f; have := clr_lt (liveN (allL R)) (bitN R.me) (liveN_lt _); rw [if_pos (by omega), Int.toNat_natCast]⟩
  clear hR hT
  go_enter Tryd.func26, Tryd.ntmps26
  go_wp2
  refine start_ (n := 9) (S := fun w' => w'.cell? ⟨g, 0, none⟩ = some (.int .i64 R.me)) (ds := []) #[false, false, false, false, false, false, false, false, false] (by kernel_rfl) rfl rfl (RollB.me HRx.out) (fun hHeld => ?_)
  generalize w.drew = w2 at HRx HBx HTx hHeld ⊢
  refine pure_ (i := 0) (N := some 3) (v := ?_) (a' := ?_) #[true, false, false, false, false, false, false, false, false] rfl rfl (by kernel_rfl) (fun _ _ _ h => h) (Or.inl ⟨by rfl, ?_⟩) ?_ ?_
  rotate_left
  · intro w'
    go_simp
    first | done | with_reducible rfl | rfl | (simp [Instr.field, go_sem]; rfl)
  rotate_left
  · simp only [Act.put, List.setIfInBounds_toArray, List.set_cons_zero, List.set_cons_succ, i64_w, i32_w]
    rfl
  refine pure_ (i := 2) (N := some 5) (v := ?_) (a' := ?_) #[true, false, true, false, false, false, false, false, false] rfl rfl (by kernel_rfl) (fun _ _ _ h => h) (Or.inl ⟨by rfl, ?_⟩) ?_ ?_
  rotate_left
  · intro w'
    go_simp
    first | done | with_reducible rfl | rfl | (simp [Instr.field, go_sem]; rfl)
  rotate_left
  · simp only [Act.put, List.setIfInBounds_toArray, List.set_cons_zero, List.set_cons_succ, i64_w, i32_w]
    rfl
  refine pure_ (i := 3) (N := some 6) (v := ?_) (a' := ?_) #[true, false, true, true, false, false, false, false, false] rfl rfl (by kernel_rfl) (fun _ _ _ h => h) (Or.inl ⟨by rfl, ?_⟩) ?_ ?_
  rotate_left
  · intro w'
    go_simp
    first | done | with_reducible rfl | rfl | (simp [Instr.field, go_sem]; rfl)
  rotate_left
  · simp only [Act.put, List.setIfInBounds_toArray, List.set_cons_zero, List.set_cons_succ, i64_w, i32_w]
    rfl
  refine pure_ (i := 4) (N := some 7) (v := ?_) (a' := ?_) #[true, false, true, true, true, false, false, false, false] rfl rfl (by kernel_rfl) (fun _ _ _ h => h) (Or.inl ⟨by rfl, ?_⟩) ?_ ?_
  rotate_left
  · intro w'
    go_simp
    first | done | with_reducible rfl | rfl | (simp [Instr.field, go_sem]; rfl)
  rotate_left
  · simp only [Act.put, List.setIfInBounds_toArray, List.set_cons_zero, List.set_cons_succ, i64_w, i32_w]
    rfl
  refine take_ (i := 5) (N := some 8) (v := ?_) (a' := ?_) #[true, false, true, true, true, true, false, false, false] rfl rfl (by kernel_rfl) (fun _ _ _ h => h) (Or.inl ⟨by rfl, ?_⟩) hHeld ?_ ?_
  rotate_left
  · rintro w' s0
    go_simp
    first | done | with_reducible rfl | rfl | (simp [Instr.field, go_sem]; rfl)
  rotate_left
  · simp only [Act.put, List.setIfInBounds_toArray, List.set_cons_zero, List.set_cons_succ, i64_w, i32_w]
    rfl
  refine one_ (i := 1) (N := some 4) #[true, true, true, true, true, true, false, false, false] rfl rfl (by kernel_rfl) (by decide) (fun K hK => ?_)
  refine goes_ Tryd.func18 (by kernel_rfl) rfl #[.pointer (some ⟨g, 0, none⟩)] (by rfl) rfl rfl (by (try simp only [List.map_toArray, List.map_cons, List.map_nil]); first | done | rfl) ?_
  refine (live_walk _ g R hb HTx HRx.out).mono ?_
  rintro e w3 ⟨rfl, hb3⟩
  refine ⟨_, rfl, ?_⟩
  have HRx' : Aside0 (RollB w3 g R) := ⟨HRx.out.below hb3⟩
  have HBx' := Aside0.mk (below_step HBx.out hb3)
  have HTx' := tab_below HTx hb3
  clear HRx HBx HTx hHeld
  have HRx := HRx'
  have HBx := HBx'
  have HTx := HTx'
  clear HRx' HBx' HTx'
  refine hK _ _ (RollB.me HRx.out) (fun hHeld => ?_)
  clear hK K
  refine norm_ (a' := ?_) ?_ ?_
  rotate_left
  · show Act.put _ (some 4) _ = _
    simp only [Act.put, List.setIfInBounds_toArray, List.set_cons_zero, List.set_cons_succ, i64_w, i32_w]
    rfl
  refine one_ (i := 6) (N := some 9) #[true, true, true, true, true, true, true, false, false] rfl rfl (by kernel_rfl) (by decide) (fun K hK => ?_)
  refine goes_ Tryd.func45 (by kernel_rfl) rfl #[.int .u64 (liveN (allL R) : Nat), .int .i64 R.me] (by rfl) rfl rfl (by (try simp only [List.map_toArray, List.map_cons, List.map_nil]); first | done | rfl) ?_
  refine (band_Less.calls (liveN (allL R) : Nat) R.me (clr (liveN (allL R)) (bitN R.me) : Nat) _ HLs.out).mono ?_
  rintro e w' ⟨rfl, ⟨nd, rfl⟩⟩
  refine ⟨_, rfl, ?_⟩
  have HRx' : Aside0 (RollB (w3.drewN nd) g R) := ⟨blk_drewN HRx.out nd⟩
  have HBx' := Aside0.mk (pw_below_drewN HBx.out nd)
  have HTx' : Aside0 (TabT (w3.drewN nd)) := tab_drewN HTx
  clear HRx HBx HTx hHeld
  generalize w3.drewN nd = w5 at HRx' HBx' HTx' ⊢
  have HRx := HRx'
  have HBx := HBx'
  have HTx := HTx'
  clear HRx' HBx' HTx'
  refine hK _ _ (RollB.me HRx.out) (fun hHeld => ?_)
  clear hK K
  refine norm_ (a' := ?_) ?_ ?_
  rotate_left
  · show Act.put _ (some 9) _ = _
    simp only [Act.put, List.setIfInBounds_toArray, List.set_cons_zero, List.set_cons_succ, i64_w, i32_w]
    rfl
  refine one_ (i := 7) (N := some 10) #[true, true, true, true, true, true, true, true, false] rfl rfl (by kernel_rfl) (by decide) (fun K hK => ?_)
  refine goes_ Tryd.func35 (by kernel_rfl) rfl #[.int .u64 (clr (liveN (allL R)) (bitN R.me) : Nat)] (by rfl) rfl rfl (by (try simp only [List.map_toArray, List.map_cons, List.map_nil]); first | done | rfl) ?_
  refine (band_List.calls (clr (liveN (allL R)) (bitN R.me) : Nat) _ _ HLi.out HTx).mono ?_
  rintro e w6 ⟨v6, rfl, ho6, hb6⟩
  have HO6 := Aside0.mk ho6
  have SZ := Aside0.mk HBx.out.size
  refine ⟨_, rfl, ?_⟩
  have HRx' : Aside0 (RollB w6 g R) := ⟨HRx.out.below hb6⟩
  have HBx' := Aside0.mk (below_step HBx.out hb6)
  have HTx' := tab_below HTx hb6
  clear HRx HBx HTx hHeld
  have HRx := HRx'
  have HBx := HBx'
  have HTx := HTx'
  clear HRx' HBx' HTx'
  refine hK _ _ (RollB.me HRx.out) (fun hHeld => ?_)
  clear hK K
  refine norm_ (a' := ?_) ?_ ?_
  rotate_left
  · show Act.put _ (some 10) _ = _
    simp only [Act.put, List.setIfInBounds_toArray, List.set_cons_zero, List.set_cons_succ, i64_w, i32_w]
    rfl
  refine pure_ (i := 8) (N := some 2) (v := ?_) (a' := ?_) #[true, true, true, true, true, true, true, true, true] rfl rfl (by kernel_rfl) (fun _ _ _ h => h) (Or.inl ⟨by rfl, ?_⟩) ?_ ?_
  rotate_left
  · intro w'
    go_simp
    first | done | with_reducible rfl | rfl | (simp [Instr.field, go_sem]; rfl)
  rotate_left
  · simp only [Act.put, List.setIfInBounds_toArray, List.set_cons_zero, List.set_cons_succ, i64_w, i32_w]
    rfl
  refine done_ (by kernel_rfl) ?_
  go_wp2
  go_ret
  exact ⟨_, rfl, Kd.R_lower HO6.out SZ.out, HBx.out⟩
end Go.Proofs.YtkkcnhfbcophiaaDoor.B
