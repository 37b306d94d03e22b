/- By hand: (*Roll).put. -/
import Derived.Test.YtkkcnhfbcophiaaDoorRoll
import Derived.Deep.RegionWith
namespace Go.Proofs.YtkkcnhfbcophiaaDoor.B
open Go.RowKit Go.Proofs.YtkkcnhfbcophiaaDoorW.PrintWords Go.Proofs.YtkkcnhfbcophiaaDoorW.PrintLast Go.Proofs.YtkkcnhfbcophiaaDoorW.PrintMore

set_option linter.unusedSimpArgs false
set_option maxRecDepth 100000 in
set_option maxHeartbeats 1000000 in
theorem put_walk (w0 w : World) (g : Nat) (R : RollS) (n : Nat) (f1 f2 : Int) (hn : n < 64) (h' : Nat) (hw : band_With.f R.has n = some (h' : Int)) (hR : RollB w g R) (hg : w0.heap.size ≤ g) (hB : Below w0.heap.size w0 w) :
    Calls Tryd.prog 28 #[.pointer (some ⟨g, 0, none⟩), .agg #[.int .i64 n, .int .u64 f1, .int .i64 f2]] w fun e w' => (∃ v, e = .returned v) ∧ RollB w' g { R.setK n ⟨n, f1, f2⟩ with has := h' } ∧ Below w0.heap.size w0 w' ∧ KeepBut w w' g none := by
  have HR := Aside0.mk hR
  have HW := Aside0.mk hw
  have HB := Aside0.mk hB
  have HG := Aside0.mk hg
  have p1 : ((0 : Int) ≤ (n : Int)) = True := eq_true (by omega)
  have p2 : ((n : Int) < 64) = True := eq_true (by omega)
  clear hR hw hB hg
  go_enter Tryd.func28, Tryd.ntmps28
  go_wp2_with ((with_reducible refine gate_dst (N := 3) rfl ?_); refine box_event ?hg (N := 3) ?hd (cs := #[.int .i64 n, .int .u64 f1, .int .i64 f2]) (t := 31) ?hr ?_; (case hd => rfl); (case hg => rfl); (case hr => first | (go_simp; done) | (go_simp; rfl)); intro g1 hg1 w1 hb1 hB1; have G1 := Aside0.mk hg1; have K1 := Aside0.mk hb1; have B1 := Aside0.mk hB1; clear hg1 hb1 hB1)
  have HRd : Aside0 (RollB w1.drew g R) := ⟨blk_drew (HR.out.below B1.out)⟩
  have HKd : Aside0 (w1.drew.heap[g1]? = some (.cells #[.int .i64 n, .int .u64 f1, .int .i64 f2] 31 (0, 0))) := ⟨blk_drew K1.out⟩
  have HKK := Aside0.mk (keep_drew (KeepBut.of_below B1.out g none))
  have HBd := Aside0.mk (below_drew1 (below_step HB.out B1.out))
  refine start_ (n := 8) (S := fun w' => w'.cell? ⟨g1, 0, none⟩ = some (.int .i64 n) ∧ w'.cell? ⟨g1, 1, none⟩ = some (.int .u64 f1) ∧ w'.cell? ⟨g1, 2, none⟩ = some (.int .i64 f2)) (ds := [7]) #[false, false, false, false, false, false, false, false] (by kernel_rfl) rfl rfl ⟨(blk_cell (blk_drew K1.out) 0).trans rfl, (blk_cell (blk_drew K1.out) 1).trans rfl, (blk_cell (blk_drew K1.out) 2).trans rfl⟩ (fun hHeld => ?_)
  generalize w1.drew = w2 at HRd HKd HBd HKK hHeld ⊢
  refine pure_ (i := 0) (N := some 4) (v := ?_) (a' := ?_) #[true, false, false, false, false, false, false, false] rfl rfl (by kernel_rfl) (fun _ _ _ h => h) (Or.inl ⟨by rfl, ?_⟩) ?_ ?_
  rotate_left
  · intro w'
    go_simp
    first | done | with_reducible rfl
  rotate_left
  · simp only [Act.put, List.setIfInBounds_toArray, List.set_cons_zero, List.set_cons_succ, i64_w, i32_w]
    rfl
  refine pure_ (i := 4) (N := some 8) (v := ?_) (a' := ?_) #[true, false, false, false, true, false, false, false] rfl rfl (by kernel_rfl) (fun _ _ _ h => h) (Or.inl ⟨by rfl, ?_⟩) ?_ ?_
  rotate_left
  · intro w'
    go_simp
    first | done | with_reducible rfl
  rotate_left
  · simp only [Act.put, List.setIfInBounds_toArray, List.set_cons_zero, List.set_cons_succ, i64_w, i32_w]
    rfl
  refine pure_ (i := 5) (N := some 9) (v := ?_) (a' := ?_) #[true, false, false, false, true, true, false, false] rfl rfl (by kernel_rfl) (fun _ _ _ h => h) (Or.inl ⟨by rfl, ?_⟩) ?_ ?_
  rotate_left
  · intro w'
    go_simp
    first | done | with_reducible rfl
  rotate_left
  · simp only [Act.put, List.setIfInBounds_toArray, List.set_cons_zero, List.set_cons_succ, i64_w, i32_w]
    rfl
  refine pure_ (i := 1) (N := some 5) (v := ?_) (a' := ?_) #[true, true, false, false, true, true, false, false] rfl rfl (by kernel_rfl) (fun _ _ _ h => h) (Or.inl ⟨by rfl, ?_⟩) ?_ ?_
  rotate_left
  · intro w'
    go_simp
    first | done | with_reducible rfl
  rotate_left
  · simp only [Act.put, List.setIfInBounds_toArray, List.set_cons_zero, List.set_cons_succ, i64_w, i32_w]
    rfl
  refine take_ (i := 2) (N := some 6) (v := ?_) (a' := ?_) #[true, true, true, false, true, true, false, false] rfl rfl (by kernel_rfl) (fun _ _ _ h => h) (Or.inl ⟨by rfl, ?_⟩) hHeld ?_ ?_
  rotate_left
  · rintro w' ⟨s0, s1, s2⟩
    go_simp
    first | done | with_reducible rfl
  rotate_left
  · simp only [Act.put, List.setIfInBounds_toArray, List.set_cons_zero, List.set_cons_succ, i64_w, i32_w]
    rfl
  refine take_ (i := 3) (N := some 7) (v := ?_) (a' := ?_) #[true, true, true, true, true, true, false, false] rfl rfl (by kernel_rfl) (fun _ _ _ h => h) (Or.inl ⟨by rfl, ?_⟩) hHeld ?_ ?_
  rotate_left
  · rintro w' ⟨s0, s1, s2⟩
    go_simp
    first | done | with_reducible rfl
  rotate_left
  · simp only [Act.put, List.setIfInBounds_toArray, List.set_cons_zero, List.set_cons_succ, i64_w, i32_w]
    rfl
  refine pure_ (i := 6) (N := some 10) (v := ?_) (a' := ?_) #[true, true, true, true, true, true, true, false] rfl rfl (by kernel_rfl) (fun _ _ _ h => h) (Or.inl ⟨by rfl, ?_⟩) ?_ ?_
  rotate_left
  · intro w'
    go_simp
    first | done | with_reducible rfl
  rotate_left
  · simp only [Act.put, List.setIfInBounds_toArray, List.set_cons_zero, List.set_cons_succ, i64_w, i32_w]
    rfl
  refine last_ (i := 7) (N := none) #[true, true, true, true, true, true, true, true] rfl rfl (by kernel_rfl) (by decide) (fun K hK => ?_)
  have fr := fun j => blk_frozen HRd.out j
  have c0 := RollB.k0 HRd.out n hn
  have c1 := RollB.k1 HRd.out n hn
  have c2 := RollB.k2 HRd.out n hn
  refine skip_ (w1 := ?_) (by rfl) rfl ?_ ?_
  rotate_left
  · go_simp
    rfl
  refine hK _ _ ?_
  clear hK K
  refine done_ (by kernel_rfl) ?_
  clear hHeld
  have HR3 : Aside0 (RollB (((w2.setCell ⟨g, 1 + n * 3, none⟩ (.int .i64 n)).setCell ⟨g, 1 + n * 3 + 1, none⟩ (.int .u64 f1)).setCell ⟨g, 1 + n * 3 + 2, none⟩ (.int .i64 f2)) g (R.setK n ⟨n, f1, f2⟩)) := ⟨by
    unfold RollB
    rw [← roll_setK R n hn ⟨n, f1, f2⟩]
    exact blk_put (blk_put (blk_put HRd.out _ _ rfl) _ _ rfl) _ _ rfl⟩
  have ng : g1 ≠ g := by rw [G1.out]; exact Nat.ne_of_gt (blk_lt HR.out)
  have HK3 := Aside0.mk (blk_far (p := ⟨g, 1 + n * 3 + 2, none⟩) (blk_far (p := ⟨g, 1 + n * 3 + 1, none⟩) (blk_far (p := ⟨g, 1 + n * 3, none⟩) HKd.out ng (.int .i64 n)) ng (.int .u64 f1)) ng (.int .i64 f2))
  have HB3 := Aside0.mk (below_set (j := 1 + n * 3 + 2) (v := .int .i64 f2) (below_set (j := 1 + n * 3 + 1) (v := .int .u64 f1) (below_set (j := 1 + n * 3) (v := .int .i64 n) HBd.out HG.out) HG.out) HG.out)
  have HKK3 := Aside0.mk (((HKK.out.set_ (1 + n * 3) (.int .i64 n)).set_ (1 + n * 3 + 1) (.int .u64 f1)).set_ (1 + n * 3 + 2) (.int .i64 f2))
  clear HRd HKd HBd HKK fr c0 c1 c2
  generalize ((w2.setCell ⟨g, 1 + n * 3, none⟩ (.int .i64 n)).setCell ⟨g, 1 + n * 3 + 1, none⟩ (.int .u64 f1)).setCell ⟨g, 1 + n * 3 + 2, none⟩ (.int .i64 f2) = w3 at HR3 HK3 HB3 HKK3 ⊢
  go_wp2
  have HRd : Aside0 (RollB w3.drew g (R.setK n ⟨n, f1, f2⟩)) := ⟨blk_drew HR3.out⟩
  have HBd := Aside0.mk (below_drew1 HB3.out)
  have HKK := Aside0.mk (keep_drew HKK3.out)
  refine start_ (n := 11) (S := fun w' => w'.cell? ⟨g, 193, none⟩ = some (.int .u64 R.has) ∧ w'.cell? ⟨g1, 0, none⟩ = some (.int .i64 n)) (ds := [10]) #[false, false, false, false, false, false, false, false, false, false, false] (by kernel_rfl) rfl rfl ⟨RollB.has (R := R.setK n ⟨n, f1, f2⟩) HRd.out, (blk_cell (blk_drew HK3.out) 0).trans rfl⟩ (fun hHeld => ?_)
  generalize w3.drew = w4 at HRd HBd HKK hHeld ⊢
  refine pure_ (i := 0) (N := some 11) (v := ?_) (a' := ?_) #[true, false, false, false, false, false, false, false, false, false, false] rfl rfl (by kernel_rfl) (fun _ _ _ h => h) (Or.inl ⟨by rfl, ?_⟩) ?_ ?_
  rotate_left
  · intro w'
    go_simp
    first | done | with_reducible rfl
  rotate_left
  · simp only [Act.put, List.setIfInBounds_toArray, List.set_cons_zero, List.set_cons_succ, i64_w, i32_w]
    rfl
  refine pure_ (i := 1) (N := some 12) (v := ?_) (a' := ?_) #[true, true, false, false, false, false, false, false, false, false, false] rfl rfl (by kernel_rfl) (fun _ _ _ h => h) (Or.inl ⟨by rfl, ?_⟩) ?_ ?_
  rotate_left
  · intro w'
    go_simp
    first | done | with_reducible rfl
  rotate_left
  · simp only [Act.put, List.setIfInBounds_toArray, List.set_cons_zero, List.set_cons_succ, i64_w, i32_w]
    rfl
  refine pure_ (i := 2) (N := some 13) (v := ?_) (a' := ?_) #[true, true, true, false, false, false, false, false, false, false, false] rfl rfl (by kernel_rfl) (fun _ _ _ h => h) (Or.inl ⟨by rfl, ?_⟩) ?_ ?_
  rotate_left
  · intro w'
    go_simp
    first | done | with_reducible rfl
  rotate_left
  · simp only [Act.put, List.setIfInBounds_toArray, List.set_cons_zero, List.set_cons_succ, i64_w, i32_w]
    rfl
  refine pure_ (i := 3) (N := some 14) (v := ?_) (a' := ?_) #[true, true, true, true, false, false, false, false, false, false, false] rfl rfl (by kernel_rfl) (fun _ _ _ h => h) (Or.inl ⟨by rfl, ?_⟩) ?_ ?_
  rotate_left
  · intro w'
    go_simp
    first | done | with_reducible rfl
  rotate_left
  · simp only [Act.put, List.setIfInBounds_toArray, List.set_cons_zero, List.set_cons_succ, i64_w, i32_w]
    rfl
  refine pure_ (i := 5) (N := some 16) (v := ?_) (a' := ?_) #[true, true, true, true, false, true, false, false, false, false, false] rfl rfl (by kernel_rfl) (fun _ _ _ h => h) (Or.inl ⟨by rfl, ?_⟩) ?_ ?_
  rotate_left
  · intro w'
    go_simp
    first | done | with_reducible rfl
  rotate_left
  · simp only [Act.put, List.setIfInBounds_toArray, List.set_cons_zero, List.set_cons_succ, i64_w, i32_w]
    rfl
  refine take_ (i := 4) (N := some 15) (v := ?_) (a' := ?_) #[true, true, true, true, true, true, false, false, false, false, false] rfl rfl (by kernel_rfl) (fun _ _ _ h => h) (Or.inl ⟨by rfl, ?_⟩) hHeld ?_ ?_
  rotate_left
  · rintro w' ⟨s0, s1⟩
    go_simp
    first | done | with_reducible rfl
  rotate_left
  · simp only [Act.put, List.setIfInBounds_toArray, List.set_cons_zero, List.set_cons_succ, i64_w, i32_w]
    rfl
  refine take_ (i := 6) (N := some 17) (v := ?_) (a' := ?_) #[true, true, true, true, true, true, true, false, false, false, false] rfl rfl (by kernel_rfl) (fun _ _ _ h => h) (Or.inl ⟨by rfl, ?_⟩) hHeld ?_ ?_
  rotate_left
  · rintro w' ⟨s0, s1⟩
    go_simp
    first | done | with_reducible rfl
  rotate_left
  · simp only [Act.put, List.setIfInBounds_toArray, List.set_cons_zero, List.set_cons_succ, i64_w, i32_w]
    rfl
  refine one_ (i := 7) (N := some 18) #[true, true, true, true, true, true, true, true, false, false, false] rfl rfl (by kernel_rfl) (by decide) (fun K hK => ?_)
  refine goes_ Tryd.func37 (by kernel_rfl) rfl #[.int .u64 R.has, .int .i64 n] (by rfl) rfl rfl (by (try simp only [List.map_toArray, List.map_cons, List.map_nil]); first | done | rfl) ?_
  with_reducible refine (band_With.calls R.has n h' _ HW.out).mono ?_
  rintro e w' ⟨rfl, ⟨nd, rfl⟩⟩
  refine ⟨_, rfl, ?_⟩
  have HRf : Aside0 (RollB (w4.drewN nd) g (R.setK n ⟨n, f1, f2⟩)) := ⟨blk_drewN HRd.out nd⟩
  have HBf := Aside0.mk (pw_below_drewN HBd.out nd)
  have HKf := Aside0.mk (keep_drewN HKK.out nd)
  replace hHeld : (w4.drewN nd).cell? ⟨g, 193, none⟩ = some (.int .u64 R.has) ∧ (w4.drewN nd).cell? ⟨g1, 0, none⟩ = some (.int .i64 n) := hHeld
  generalize w4.drewN nd = w5 at HRf HBf HKf hHeld ⊢
  refine hK _ _ hHeld (fun hHeld => ?_)
  clear hK K
  refine norm_ (a' := ?_) ?_ ?_
  rotate_left
  · show Act.put _ (some 18) _ = _
    simp only [Act.put, List.setIfInBounds_toArray, List.set_cons_zero, List.set_cons_succ, i64_w, i32_w]
    rfl
  refine pure_ (i := 8) (N := some 19) (v := ?_) (a' := ?_) #[true, true, true, true, true, true, true, true, true, false, false] rfl rfl (by kernel_rfl) (fun _ _ _ h => h) (Or.inl ⟨by rfl, ?_⟩) ?_ ?_
  rotate_left
  · intro w'
    go_simp
    first | done | with_reducible rfl
  rotate_left
  · simp only [Act.put, List.setIfInBounds_toArray, List.set_cons_zero, List.set_cons_succ, i64_w, i32_w]
    rfl
  refine pure_ (i := 9) (N := some 20) (v := ?_) (a' := ?_) #[true, true, true, true, true, true, true, true, true, true, false] rfl rfl (by kernel_rfl) (fun _ _ _ h => h) (Or.inl ⟨by rfl, ?_⟩) ?_ ?_
  rotate_left
  · intro w'
    go_simp
    first | done | with_reducible rfl
  rotate_left
  · simp only [Act.put, List.setIfInBounds_toArray, List.set_cons_zero, List.set_cons_succ, i64_w, i32_w]
    rfl
  refine last_ (i := 10) (N := none) #[true, true, true, true, true, true, true, true, true, true, true] rfl rfl (by kernel_rfl) (by decide) (fun K hK => ?_)
  have fr := fun j => blk_frozen HRf.out j
  have c0 := RollB.has HRf.out
  refine skip_ (w1 := ?_) (by rfl) rfl ?_ ?_
  rotate_left
  · go_simp
    rfl
  refine hK _ _ ?_
  clear hK K
  refine done_ (by kernel_rfl) ?_
  clear hHeld
  have HRe : Aside0 (RollB (w5.setCell ⟨g, 193, none⟩ (.int .u64 h')) g { R.setK n ⟨n, f1, f2⟩ with has := h' }) := ⟨by
    unfold RollB
    rw [← roll_setHas]
    exact blk_put HRf.out _ _ rfl⟩
  have HBe := Aside0.mk (below_set (j := 193) (v := .int .u64 h') HBf.out HG.out)
  have HKe := Aside0.mk (HKf.out.set_ 193 (.int .u64 h'))
  go_wp2
  go_end0
  exact ⟨⟨_, rfl⟩, HRe.out, HBe.out, HKe.out⟩
end Go.Proofs.YtkkcnhfbcophiaaDoor.B
