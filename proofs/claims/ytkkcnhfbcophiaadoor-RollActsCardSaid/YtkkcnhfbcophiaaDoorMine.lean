/- By hand: (*Roll).Mine, (*Roll).Get. -/
import Derived.Test.YtkkcnhfbcophiaaDoorPut
namespace Go.Proofs.YtkkcnhfbcophiaaDoor.B
open Go.RowKit Go.Proofs.YtkkcnhfbcophiaaDoorW.PrintWords Go.Proofs.YtkkcnhfbcophiaaDoorW.PrintLast Go.Proofs.YtkkcnhfbcophiaaDoorW.PrintMore

set_option linter.unusedSimpArgs false
set_option maxRecDepth 100000 in
set_option maxHeartbeats 1000000 in
theorem mine_walk (w : World) (g : Nat) (R : RollS) (n : Nat) (hm : R.me = n) (hn : n < 64) (hR : RollB w g R) :
    Calls Tryd.prog 13 #[.pointer (some ⟨g, 0, none⟩)] w fun e w' => e = .returned (.agg #[.int .i64 (R.K n).f0, .int .u64 (R.K n).f1, .int .i64 (R.K n).f2]) ∧ Below w.heap.size w w' := by
  have HR := Aside0.mk hR
  have p1 : ((0 : Int) ≤ (n : Int)) = True := eq_true (by omega)
  have p2 : ((n : Int) < 64) = True := eq_true (by omega)
  clear hR
  go_enter Tryd.func13, Tryd.ntmps13
  go_wp2_with ((with_reducible refine gate_dst (N := 2) rfl ?_); refine box_event ?hg (N := 2) ?hd (cs := #[.int .i64 0, .int .u64 0, .int .i64 0]) (t := 31) ?hr ?_; (case hd => rfl); (case hg => rfl); (case hr => first | (go_simp; done) | (go_simp; rfl)); intro g1 hg1 w1 hb1 hB1; have G1 := Aside0.mk hg1; have K1 := Aside0.mk hb1; have B1 := Aside0.mk hB1; clear hg1 hb1 hB1)
  have HRd : Aside0 (RollB w1.drew g R) := ⟨blk_drew (HR.out.below B1.out)⟩
  have hme : w1.drew.cell? ⟨g, 0, none⟩ = some (.int .i64 n) := by rw [← hm]; exact RollB.me HRd.out
  have KRd : Aside0 (w1.drew.heap[g1]? = some (.cells #[.int .i64 0, .int .u64 0, .int .i64 0] 31 (0, 0))) := ⟨blk_drew K1.out⟩
  have HBd := Aside0.mk (below_drew1 B1.out)
  have L1 : w.heap.size ≤ g1 := by rw [G1.out]; exact Nat.le_refl _
  refine start_ (n := 10) (S := fun w' => w'.cell? ⟨g, 0, none⟩ = some (.int .i64 n) ∧ w'.cell? ⟨g, 1 + n * 3, none⟩ = some (.int .i64 (R.K n).f0) ∧ w'.cell? ⟨g, 1 + n * 3 + 1, none⟩ = some (.int .u64 (R.K n).f1) ∧ w'.cell? ⟨g, 1 + n * 3 + 2, none⟩ = some (.int .i64 (R.K n).f2)) (ds := [9]) #[false, false, false, false, false, false, false, false, false, false] (by kernel_rfl) rfl rfl ⟨hme, RollB.k0 HRd.out n hn, RollB.k1 HRd.out n hn, RollB.k2 HRd.out n hn⟩ (fun hHeld => ?_)
  clear hme
  generalize w1.drew = w2 at HRd KRd HBd hHeld ⊢
  refine pure_ (i := 0) (N := some 3) (v := ?_) (a' := ?_) #[true, false, false, false, false, false, false, false, false, false] rfl rfl (by kernel_rfl) (fun _ _ _ h => h) (Or.inl ⟨by rfl, ?_⟩) ?_ ?_
  rotate_left
  · intro w'
    go_simp
    first | done | with_reducible rfl
  rotate_left
  · simp only [Act.put, List.setIfInBounds_toArray, List.set_cons_zero, List.set_cons_succ, i64_w, i32_w]
    rfl
  refine pure_ (i := 1) (N := some 4) (v := ?_) (a' := ?_) #[true, true, false, false, false, false, false, false, false, false] rfl rfl (by kernel_rfl) (fun _ _ _ h => h) (Or.inl ⟨by rfl, ?_⟩) ?_ ?_
  rotate_left
  · intro w'
    go_simp
    first | done | with_reducible rfl
  rotate_left
  · simp only [Act.put, List.setIfInBounds_toArray, List.set_cons_zero, List.set_cons_succ, i64_w, i32_w]
    rfl
  refine pure_ (i := 2) (N := some 5) (v := ?_) (a' := ?_) #[true, true, true, false, false, false, false, false, false, false] rfl rfl (by kernel_rfl) (fun _ _ _ h => h) (Or.inl ⟨by rfl, ?_⟩) ?_ ?_
  rotate_left
  · intro w'
    go_simp
    first | done | with_reducible rfl
  rotate_left
  · simp only [Act.put, List.setIfInBounds_toArray, List.set_cons_zero, List.set_cons_succ, i64_w, i32_w]
    rfl
  refine pure_ (i := 3) (N := some 6) (v := ?_) (a' := ?_) #[true, true, true, true, false, false, false, false, false, false] rfl rfl (by kernel_rfl) (fun _ _ _ h => h) (Or.inl ⟨by rfl, ?_⟩) ?_ ?_
  rotate_left
  · intro w'
    go_simp
    first | done | with_reducible rfl
  rotate_left
  · simp only [Act.put, List.setIfInBounds_toArray, List.set_cons_zero, List.set_cons_succ, i64_w, i32_w]
    rfl
  refine take_ (i := 4) (N := some 7) (v := ?_) (a' := ?_) #[true, true, true, true, true, false, false, false, false, false] rfl rfl (by kernel_rfl) (fun _ _ _ h => h) (Or.inl ⟨by rfl, ?_⟩) hHeld ?_ ?_
  rotate_left
  · rintro w' ⟨s0, s1, s2, s3⟩
    go_simp
    first | done | with_reducible rfl
  rotate_left
  · simp only [Act.put, List.setIfInBounds_toArray, List.set_cons_zero, List.set_cons_succ, i64_w, i32_w]
    rfl
  refine pure_ (i := 5) (N := some 8) (v := ?_) (a' := ?_) #[true, true, true, true, true, true, false, false, false, false] rfl rfl (by kernel_rfl) (fun _ _ _ h => h) (Or.inl ⟨by rfl, ?_⟩) ?_ ?_
  rotate_left
  · intro w'
    go_simp
    first | done | with_reducible rfl
  rotate_left
  · simp only [Act.put, List.setIfInBounds_toArray, List.set_cons_zero, List.set_cons_succ, i64_w, i32_w]
    rfl
  refine pure_ (i := 6) (N := some 9) (v := ?_) (a' := ?_) #[true, true, true, true, true, true, true, false, false, false] rfl rfl (by kernel_rfl) (fun _ _ _ h => h) (Or.inl ⟨by rfl, ?_⟩) ?_ ?_
  rotate_left
  · intro w'
    go_simp
    first | done | with_reducible rfl
  rotate_left
  · simp only [Act.put, List.setIfInBounds_toArray, List.set_cons_zero, List.set_cons_succ, i64_w, i32_w]
    rfl
  refine pure_ (i := 7) (N := some 10) (v := ?_) (a' := ?_) #[true, true, true, true, true, true, true, true, false, false] rfl rfl (by kernel_rfl) (fun _ _ _ h => h) (Or.inl ⟨by rfl, ?_⟩) ?_ ?_
  rotate_left
  · intro w'
    go_simp
    first | done | with_reducible rfl
  rotate_left
  · simp only [Act.put, List.setIfInBounds_toArray, List.set_cons_zero, List.set_cons_succ, i64_w, i32_w]
    rfl
  refine take_ (i := 8) (N := some 11) (v := ?_) (a' := ?_) #[true, true, true, true, true, true, true, true, true, false] rfl rfl (by kernel_rfl) (fun _ _ _ h => h) (Or.inl ⟨by rfl, ?_⟩) hHeld ?_ ?_
  rotate_left
  · rintro w' ⟨s0, s1, s2, s3⟩
    go_simp
    first | done | with_reducible rfl
  rotate_left
  · simp only [Act.put, List.setIfInBounds_toArray, List.set_cons_zero, List.set_cons_succ, i64_w, i32_w]
    rfl
  refine last_ (i := 9) (N := none) #[true, true, true, true, true, true, true, true, true, true] rfl rfl (by kernel_rfl) (by decide) (fun K hK => ?_)
  have fr := fun j => blk_frozen KRd.out j
  have c0 := (blk_cell KRd.out 0).trans rfl
  have c1 := (blk_cell KRd.out 1).trans rfl
  have c2 := (blk_cell KRd.out 2).trans rfl
  refine skip_ (w1 := ?_) (by rfl) rfl ?_ ?_
  rotate_left
  · go_simp
    rfl
  refine hK _ _ ?_
  clear hK K
  refine done_ (by kernel_rfl) ?_
  clear hHeld
  go_wp2
  refine bodyPost_ret (results_cell_row rfl _ _ g1 31 #[.int .i64 (R.K n).f0, .int .u64 (R.K n).f1, .int .i64 (R.K n).f2] (0, 0) _ rfl (by refine blk_put (cs := #[.int .i64 (R.K n).f0, .int .u64 (R.K n).f1, .int .i64 0]) ?_ 2 _ rfl; refine blk_put (cs := #[.int .i64 (R.K n).f0, .int .u64 0, .int .i64 0]) ?_ 1 _ rfl; refine blk_put (cs := #[.int .i64 0, .int .u64 0, .int .i64 0]) ?_ 0 _ rfl; exact KRd.out) Tryd.underlying31 rfl (by kernel_rfl)) rfl ?_
  exact ⟨rfl, by repeat (first | exact HBd.out | refine below_set ?_ L1)⟩

set_option maxRecDepth 100000 in
set_option maxHeartbeats 1000000 in
/-- nothing is known of the node -/
theorem get_no (w : World) (g : Nat) (R : RollS) (n : Int) (hh : band_Has.f R.has n = some false) (hR : RollB w g R) :
    Calls Tryd.prog 14 #[.pointer (some ⟨g, 0, none⟩), .int .i64 n] w fun e w' => e = .returned (.tuple #[.agg #[.int .i64 0, .int .u64 0, .int .i64 0], .bool false]) ∧ Below w.heap.size w w' := by
  have HR := Aside0.mk hR
  have HH := Aside0.mk hh
  clear hR hh
  go_enter Tryd.func14, Tryd.ntmps14
  go_wp2_with (first
    | ((with_reducible refine gate_dst (N := 4) rfl ?_); refine box_event ?hg (N := 4) ?hd (cs := #[.int .i64 0, .int .u64 0, .int .i64 0]) (t := 31) ?hr ?_; (case hd => rfl); (case hg => rfl); (case hr => first | (go_simp; done) | (go_simp; rfl)); intro g1 hg1 w1 hb1 hB1; have G1 := Aside0.mk hg1; have K1 := Aside0.mk hb1; have B1 := Aside0.mk hB1; have hc := RollB.has (HR.out.below B1.out); have fr := fun j => blk_frozen K1.out j; have c0 := (blk_cell K1.out 0).trans rfl; have c1 := (blk_cell K1.out 1).trans rfl; have c2 := (blk_cell K1.out 2).trans rfl; clear hg1 hb1 hB1)
    | (go_at_call 31; refine (band_Has.calls R.has n false _ HH.out).mono ?_; rintro e w' ⟨rfl, ⟨nd, rfl⟩⟩))
  have L1 : w.heap.size ≤ g1 := by rw [G1.out]; exact Nat.le_refl _
  refine bodyPost_ret (results_ct rfl _ _ g1 31 #[.int .i64 0, .int .u64 0, .int .i64 0] (0, 0) _ rfl (by refine blk_put (cs := #[.int .i64 0, .int .u64 0, .int .i64 0]) ?_ 2 _ rfl; refine blk_put (cs := #[.int .i64 0, .int .u64 0, .int .i64 0]) ?_ 1 _ rfl; refine blk_put (cs := #[.int .i64 0, .int .u64 0, .int .i64 0]) ?_ 0 _ rfl; exact blk_drewN K1.out nd) Tryd.underlying31 rfl (by kernel_rfl)) rfl ?_
  exact ⟨rfl, by repeat (first | exact pw_below_drewN B1.out nd | refine below_set ?_ L1)⟩
set_option maxRecDepth 100000 in
set_option maxHeartbeats 1000000 in
theorem get_yes (w : World) (g : Nat) (R : RollS) (n : Nat) (hn : n < 64) (hh : band_Has.f R.has n = some true) (hR : RollB w g R) :
    Calls Tryd.prog 14 #[.pointer (some ⟨g, 0, none⟩), .int .i64 n] w fun e w' => e = .returned (.tuple #[.agg #[.int .i64 (R.K n).f0, .int .u64 (R.K n).f1, .int .i64 (R.K n).f2], .bool true]) ∧ Below w.heap.size w w' := by
  have HR := Aside0.mk hR
  have HH := Aside0.mk hh
  have p1 : ((0 : Int) ≤ (n : Int)) = True := eq_true (by omega)
  have p2 : ((n : Int) < 64) = True := eq_true (by omega)
  clear hR hh
  go_enter Tryd.func14, Tryd.ntmps14
  go_wp2_with (first
    | ((with_reducible refine gate_dst (N := 4) rfl ?_); refine box_event ?hg (N := 4) ?hd (cs := #[.int .i64 0, .int .u64 0, .int .i64 0]) (t := 31) ?hr ?_; (case hd => rfl); (case hg => rfl); (case hr => first | (go_simp; done) | (go_simp; rfl)); intro g1 hg1 w1 hb1 hB1; have G1 := Aside0.mk hg1; have K1 := Aside0.mk hb1; have B1 := Aside0.mk hB1; have hc := RollB.has (HR.out.below B1.out); have k0 := RollB.k0 (HR.out.below B1.out) n hn; have k1 := RollB.k1 (HR.out.below B1.out) n hn; have k2 := RollB.k2 (HR.out.below B1.out) n hn; have fr := fun j => blk_frozen K1.out j; have c0 := (blk_cell K1.out 0).trans rfl; have c1 := (blk_cell K1.out 1).trans rfl; have c2 := (blk_cell K1.out 2).trans rfl; clear hg1 hb1 hB1)
    | (go_at_call 31; refine (band_Has.calls R.has n true _ HH.out).mono ?_; rintro e w' ⟨rfl, ⟨nd, rfl⟩⟩))
  have L1 : w.heap.size ≤ g1 := by rw [G1.out]; exact Nat.le_refl _
  refine bodyPost_ret (results_ct rfl _ _ g1 31 #[.int .i64 (R.K n).f0, .int .u64 (R.K n).f1, .int .i64 (R.K n).f2] (0, 0) _ rfl (by refine blk_put (cs := #[.int .i64 (R.K n).f0, .int .u64 (R.K n).f1, .int .i64 0]) ?_ 2 _ rfl; refine blk_put (cs := #[.int .i64 (R.K n).f0, .int .u64 0, .int .i64 0]) ?_ 1 _ rfl; refine blk_put (cs := #[.int .i64 0, .int .u64 0, .int .i64 0]) ?_ 0 _ rfl; exact blk_drewN K1.out nd) Tryd.underlying31 rfl (by kernel_rfl)) rfl ?_
  exact ⟨rfl, by repeat (first | exact pw_below_drewN B1.out nd | refine below_set ?_ L1)⟩
end Go.Proofs.YtkkcnhfbcophiaaDoor.B
