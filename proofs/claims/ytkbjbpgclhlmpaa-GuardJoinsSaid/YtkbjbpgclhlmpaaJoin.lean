/- By hand: guard.Join over its matrices (arrays in memory). -/
import Derived.Test.YtkbjbpgclhlmpaaSum
namespace Go.Proofs.Ytkbjbpgclhlmpaa.B
open Go.RowKit Go.Proofs.YtkbjbpgclhlmpaaW.PrintWords Go.Proofs.YtkbjbpgclhlmpaaW.PrintLast Go.Proofs.YtkbjbpgclhlmpaaW.PrintMore

/-- a matrix's cells -/
def mcells (l : List Nat) : Array Value := (l.map fun (n : Nat) => Value.int .u32 (n : Int)).toArray
theorem mcells_size (l : List Nat) : (mcells l).size = l.length := by simp [mcells]
theorem mcells_get (l : List Nat) (i : Nat) (h : i < l.length) : (mcells l)[i]? = some (.int .u32 (l[i] : Int)) := by simp [mcells, h]
theorem mcells_set (l : List Nat) (i n : Nat) : (mcells l).setIfInBounds i (.int .u32 (n : Int)) = mcells (l.set i n) := by
  simp [mcells, List.map_set]
theorem mcells_one (l : List Nat) : (mcells l).all (·.oneCell') = true := by
  rw [Array.all_eq_true_iff_forall_mem]
  intro v hv
  simp only [mcells, List.mem_toArray, List.mem_map] at hv
  obtain ⟨j, _, rfl⟩ := hv
  rfl
theorem mcells_info (l : List Nat) (h : l.length = 32) : (Try.prog.info? 44).map (·.size) = some (mcells l).size := by rw [mcells_size, h]; kernel_rfl
theorem times_cons_even (m : Nat) (l : List Nat) (n : Nat) (h : n % 2 = 0) : Crc.times (m :: l) n = Crc.times l (n / 2) := by
  simp only [Crc.times]; rw [if_neg (by omega), Nat.zero_xor]
theorem times_zero : ∀ l, Crc.times l 0 = 0
  | [] => rfl
  | m :: l => by rw [times_cons_even m l 0 rfl]; exact times_zero l
theorem times_lt : ∀ (l : List Nat), (∀ x ∈ l, x < 4294967296) → ∀ n, Crc.times l n < 4294967296
  | [], _, _ => by simp [Crc.times]
  | m :: l, h, n => by
    simp only [Crc.times]
    refine Nat.xor_lt_two_pow (n := 32) ?_ (times_lt l (fun x hx => h x (List.mem_cons_of_mem _ hx)) _)
    split
    · exact h m List.mem_cons_self
    · decide

/-- (*matrix).times: n's bits by the cells of the block g -/
theorem times_at (g : Nat) (l : List Nat) (hl : l.length = 32) (hb : ∀ x ∈ l, x < 4294967296) (n : Nat) (hn : n < 4294967296) (w : World) (hg : w.heap[g]? = some (.cells (mcells l) 44 (0, 0))) :
    Calls Try.prog 23 #[.pointer (some ⟨g, 0, none⟩), .int .u32 n] w fun e w' => e = .returned (.int .u32 (Crc.times l n : Int)) ∧ w = w' := by
  have HG := Aside0.mk hg
  have HBD := Aside0.mk hb
  clear hg hb
  go_enter Try.func23, Try.ntmps23
  go_wp2
  go_loopw [1, 4, 5] (fun x o i wr => ∃ k m s : Nat, i = .int .i64 k ∧ x = .int .u32 m ∧ o = .int .u32 s ∧ Aside0 (k ≤ 32) ∧ Aside0 (m < 2 ^ (32 - k)) ∧ Aside0 (s < 4294967296) ∧ Aside0 (s ^^^ Crc.times (l.drop k) m = Crc.times l n) ∧ w = wr)
    (fun _ _ i _ => 32 - (intOf i).toNat)
  case atStart => exact ⟨0, n, 0, rfl, rfl, rfl, ⟨by omega⟩, ⟨by simpa using hn⟩, ⟨by decide⟩, ⟨by rw [List.drop_zero, Nat.zero_xor]⟩, rfl⟩
  case round =>
    obtain ⟨k, m, s, rfl, rfl, rfl, hk, hm, hs, hi, rfl⟩ := hrel
    by_cases h0 : m = 0
    · have e : s = Crc.times l n := by have := hi.out; rw [h0, times_zero, Nat.xor_zero] at this; exact this
      subst h0
      subst e
      go_wp2
      go_ret
      exact ⟨rfl, rfl⟩
    · have hp : (0 : Int) < (m : Int) := by omega
      have hk2 : k < 32 := by
        rcases Nat.lt_or_ge k 32 with h | h
        · exact h
        · have h1 := hm.out
          rw [show 32 - k = 0 by omega] at h1
          omega
      have hm32 : m < 4294967296 := Nat.lt_of_lt_of_le hm.out (by rw [show 4294967296 = 2 ^ 32 by rfl]; exact Nat.pow_le_pow_right (by decide) (by omega))
      have hA := and1 m hm32
      have hd : l.drop k = l[k] :: l.drop (k + 1) := List.drop_eq_getElem_cons (by omega)
      have hm' : Aside0 (m / 2 < 2 ^ (32 - (k + 1))) := ⟨by
        have h1 := hm.out
        rw [show 32 - k = (32 - (k + 1)) + 1 by omega, Nat.pow_succ] at h1
        omega⟩
      rcases Nat.mod_two_eq_zero_or_one m with h | h
      · have hi' : Aside0 (s ^^^ Crc.times (l.drop (k + 1)) (m / 2) = Crc.times l n) := ⟨by
          have := hi.out
          rwa [hd, times_cons_even _ _ _ h] at this⟩
        rw [h] at hA
        clear hi hd h
        go_wp2
        refine ⟨⟨k + 1, m / 2, s, by go_num, rfl, rfl, ⟨hk2⟩, hm', hs, hi', trivial⟩, by simp [intOf]; omega⟩
      · have hv : l[k] < 4294967296 := HBD.out _ (List.getElem_mem _)
        obtain ⟨v, hvv⟩ : ∃ v, v = l[k] := ⟨_, rfl⟩
        have hi' : Aside0 ((s ^^^ v) ^^^ Crc.times (l.drop (k + 1)) (m / 2) = Crc.times l n) := ⟨by
          have := hi.out
          rw [hd] at this
          simp only [Crc.times] at this
          rw [if_pos h] at this
          rw [Nat.xor_assoc, hvv]
          exact this⟩
        have hc : w.cell? ⟨g, k, none⟩ = some (.int .u32 (v : Int)) := by rw [hvv]; exact (blk_cell HG.out k).trans (mcells_get l k (by omega))
        rw [← hvv] at hv
        have hX := xor32 s v hs.out hv
        have hs' : Aside0 (s ^^^ v < 4294967296) := ⟨Nat.xor_lt_two_pow (n := 32) hs.out hv⟩
        rw [h] at hA
        clear hi hd h hvv
        go_wp2
        refine ⟨⟨k + 1, m / 2, s ^^^ v, by go_num, rfl, rfl, ⟨hk2⟩, hm', hs', hi', trivial⟩, by simp [intOf]; omega⟩

/-- its square, cell by cell -/
def sqTo (l : List Nat) (k : Nat) : List Nat := (List.range 32).map fun j => if j < k then Crc.times l (l.getD j 0) else 0
theorem sqTo_len (l : List Nat) (k : Nat) : (sqTo l k).length = 32 := by simp [sqTo]
theorem sqTo_zero (l : List Nat) : sqTo l 0 = List.replicate 32 0 := by simp [sqTo, List.range, List.range.loop]
theorem sqTo_set (l : List Nat) (k : Nat) (_h : k < 32) : (sqTo l k).set k (Crc.times l (l.getD k 0)) = sqTo l (k + 1) := by
  apply List.ext_getElem
  · rw [List.length_set, sqTo_len, sqTo_len]
  · intro j h1 h2
    rw [List.getElem_set]
    simp only [sqTo, List.getElem_map, List.getElem_range]
    by_cases e : k = j
    · subst e; rw [if_pos rfl, if_pos (by omega)]
    · rw [if_neg e]
      by_cases h3 : j < k
      · rw [if_pos h3, if_pos (by omega)]
      · rw [if_neg h3, if_neg (by omega)]
theorem sqTo_at (l : List Nat) (k : Nat) (h : k < 32) : (mcells (sqTo l k))[k]? = some (.int .u32 0) := by
  rw [mcells_get _ _ (by rw [sqTo_len]; exact h)]
  simp [sqTo]
set_option maxHeartbeats 1000000 in
theorem squared_at (g0 : Nat) (l : List Nat) (hl : l.length = 32) (hb : ∀ x ∈ l, x < 4294967296) (w : World) (hg : w.heap[g0]? = some (.cells (mcells l) 44 (0, 0))) :
    Calls Try.prog 22 #[.pointer (some ⟨g0, 0, none⟩)] w fun e w' => e = .returned (.agg (mcells (sqTo l 32))) ∧ Below w.heap.size w w' := by
  have HG := Aside0.mk hg
  have HBD := Aside0.mk hb
  clear hg hb
  have HZ : Aside0 (mcells (sqTo l 0) = (List.replicate 32 (Value.int .u32 0)).toArray) := ⟨by rw [sqTo_zero]; simp [mcells]⟩
  go_enter Try.func22, Try.ntmps22
  go_wp2_with ((with_reducible refine gate_dst (N := 2) rfl ?_); refine box_event ?hg (N := 2) ?hd (cs := (List.replicate 32 (Value.int .u32 0)).toArray) (t := 44) ?hr ?_; (case hd => rfl); (case hg => rfl); (case hr => first | (go_simp; done) | (go_simp; rfl)); intro g hg w1 hb1 hB1; have G := Aside0.mk hg; have K1 := Aside0.mk hb1; have B1 := Aside0.mk hB1; clear hg hb1 hB1)
  rw [← HZ.out] at K1
  have L0 : w.heap.size ≤ g := by rw [G.out]; exact Nat.le_refl _
  have hne : g0 ≠ g := by rw [G.out]; exact Nat.ne_of_lt (blk_lt HG.out)
  have HG1 := Aside0.mk (blk_below HG.out B1.out)
  go_loopw [4] (fun i wr => ∃ k : Nat, i = .int .i64 k ∧ k ≤ 32 ∧ Aside0 (wr.heap[g]? = some (.cells (mcells (sqTo l k)) 44 (0, 0))) ∧ Aside0 (wr.heap[g0]? = some (.cells (mcells l) 44 (0, 0))) ∧ Aside0 (Below w.heap.size w wr))
    (fun i _ => 32 - (intOf i).toNat)
  case atStart => exact ⟨0, rfl, by omega, K1, HG1, B1⟩
  case round =>
    obtain ⟨k, rfl, hk, RK, RG, RB⟩ := hrel
    by_cases hlt : k < 32
    · have hv : l.getD k 0 < 4294967296 := by
        rw [List.getD_eq_getElem?_getD, List.getElem?_eq_getElem (by omega)]
        exact HBD.out _ (List.getElem_mem _)
      have hst := Aside0.mk (sqTo_set l k hlt)
      have hc0 : wr.cell? ⟨g0, k, none⟩ = some (.int .u32 (l.getD k 0 : Nat)) := (blk_cell RG.out k).trans (by rw [mcells_get l k (by omega), List.getD_eq_getElem?_getD, List.getElem?_eq_getElem (by omega)]; rfl)
      obtain ⟨v, hvv⟩ : ∃ v, v = l.getD k 0 := ⟨_, rfl⟩
      rw [← hvv] at hv hst hc0
      clear hvv
      have hT := Aside0.mk (times_at g0 l hl HBD.out v hv wr RG.out)
      have hc : wr.cell? ⟨g, k, none⟩ = some (.int .u32 0) := (blk_cell RK.out k).trans (sqTo_at l k hlt)
      have hf : wr.frozen? ⟨g, k, none⟩ = false := blk_frozen RK.out k
      go_wp2_with (go_at_call 23; refine hT.out.mono ?_; rintro e w' ⟨rfl, rfl⟩)
      refine ⟨⟨k + 1, by go_num, by omega, ⟨?_⟩, ⟨blk_far RG.out hne _⟩, ⟨below_set RB.out L0⟩⟩, by simp [intOf]; omega⟩
      rw [← hst.out, ← mcells_set]
      exact blk_put RK.out k _ rfl
    · obtain rfl : k = 32 := by omega
      clear hlt hk K1 B1 G HG HG1
      have hi := mcells_info (sqTo l 32) (sqTo_len l 32)
      go_wp2_with (first
        | (refine wpList_load_row rfl 44 (.tmp 2) rfl g rfl 44 (mcells (sqTo l 32)) (0, 0) (.array 32 24) RK.out Try.underlying44 rfl hi ?_)
        | (refine wpList_store_row rfl 44 (.tmp 2) (.tmp 17) rfl g (mcells (sqTo l 32)) rfl rfl 44 (mcells (sqTo l 32)) RK.out hi rfl (mcells_one _) ?_; have hK := setRow_heap wr g (mcells (sqTo l 32)) (mcells (sqTo l 32)) 44 (0, 0) RK.out; have hB := Aside0.mk (below_setRow RB.out L0 (mcells (sqTo l 32))); generalize wr.setRow g (mcells (sqTo l 32)) = w9 at hK hB ⊢))
      refine bodyPost_ret (v := .agg (mcells (sqTo l 32))) (results_cell_row (fn := Try.f22) (p := 2) (ty := 44) (by kernel_rfl) _ _ g 44 (mcells (sqTo l 32)) (0, 0) (.array 32 24) rfl hK Try.underlying44 rfl hi) rfl ?_
      exact ⟨rfl, hB.out⟩

/-- one step, cell by cell -/
def stTo (k : Nat) : List Nat := (List.range 32).map fun j => if j < k then Crc.step (2 ^ j) else 0
theorem stTo_len (k : Nat) : (stTo k).length = 32 := by simp [stTo]
theorem stTo_zero : stTo 0 = List.replicate 32 0 := by simp [stTo, List.range, List.range.loop]
theorem stTo_set (k : Nat) (_h : k < 32) : (stTo k).set k (Crc.step (2 ^ k)) = stTo (k + 1) := by
  apply List.ext_getElem
  · rw [List.length_set, stTo_len, stTo_len]
  · intro j h1 h2
    rw [List.getElem_set]
    simp only [stTo, List.getElem_map, List.getElem_range]
    by_cases e : k = j
    · subst e; rw [if_pos rfl, if_pos (by omega)]
    · rw [if_neg e]
      by_cases h3 : j < k
      · rw [if_pos h3, if_pos (by omega)]
      · rw [if_neg h3, if_neg (by omega)]
theorem stTo_at (k : Nat) (h : k < 32) : (mcells (stTo k))[k]? = some (.int .u32 0) := by
  rw [mcells_get _ _ (by rw [stTo_len]; exact h)]
  simp [stTo]
theorem step_pow (k : Nat) : Crc.step (2 ^ (k + 1)) = 2 ^ k := by rw [Nat.pow_succ, Nat.mul_comm]; exact Crc.step_two _
set_option maxHeartbeats 1000000 in
theorem stepped_at (w : World) : Calls Try.prog 21 #[] w fun e w' => e = .returned (.agg (mcells (stTo 32))) ∧ Below w.heap.size w w' := by
  have HZ : Aside0 (mcells (stTo 0) = (List.replicate 32 (Value.int .u32 0)).toArray) := ⟨by rw [stTo_zero]; simp [mcells]⟩
  go_enter Try.func21, Try.ntmps21
  go_wp2_with ((with_reducible refine gate_dst (N := 0) rfl ?_); refine box_event ?hg (N := 0) ?hd (cs := (List.replicate 32 (Value.int .u32 0)).toArray) (t := 44) ?hr ?_; (case hd => rfl); (case hg => rfl); (case hr => first | (go_simp; done) | (go_simp; rfl)); intro g hg w1 hb1 hB1; have G := Aside0.mk hg; have K1 := Aside0.mk hb1; have B1 := Aside0.mk hB1; clear hg hb1 hB1; rw [← HZ.out] at K1; have hc := (blk_cell K1.out 0).trans (stTo_at 0 (by decide)); have hf := blk_frozen K1.out 0)
  have L0 : w.heap.size ≤ g := by rw [G.out]; exact Nat.le_refl _
  clear hc hf
  go_loopw [1] (fun i wr => ∃ k : Nat, i = .int .i64 k ∧ 1 ≤ k ∧ k ≤ 32 ∧ Aside0 (wr.heap[g]? = some (.cells (mcells (stTo k)) 44 (0, 0))) ∧ Aside0 (Below w.heap.size w wr))
    (fun i _ => 32 - (intOf i).toNat)
  case atStart =>
    refine ⟨1, rfl, by omega, by omega, ⟨?_⟩, ⟨below_set B1.out L0⟩⟩
    rw [← stTo_set 0 (by decide), ← mcells_set]
    exact blk_put K1.out 0 _ rfl
  case round =>
    obtain ⟨k, rfl, h1k, hk, RK, RB⟩ := hrel
    by_cases hlt : k < 32
    · have hst := Aside0.mk (stTo_set k hlt)
      have hc : wr.cell? ⟨g, k, none⟩ = some (.int .u32 0) := (blk_cell RK.out k).trans (stTo_at k hlt)
      have hf : wr.frozen? ⟨g, k, none⟩ = false := blk_frozen RK.out k
      obtain ⟨j, rfl⟩ : ∃ j, k = j + 1 := ⟨k - 1, by omega⟩
      have hp : 2 ^ j < 2 ^ 32 := Nat.pow_lt_pow_right (by decide) (by omega)
      have hval : (2 : Int) ^ j = ((2 ^ j : Nat) : Int) := by simp
      have hmod : ((2 : Int) ^ j % 4294967296) = (2 : Int) ^ j := by
        rw [hval]
        obtain ⟨q, hq⟩ : ∃ q, q = 2 ^ j := ⟨_, rfl⟩
        rw [← hq] at hp ⊢
        omega
      rw [step_pow] at hst
      have HV := Aside0.mk hval
      clear hval hp
      go_wp2
      rw [HV.out]
      refine ⟨⟨j + 1 + 1, by go_num, by omega, by omega, ⟨?_⟩, ⟨below_set RB.out L0⟩⟩, by simp [intOf]; omega⟩
      rw [← hst.out, ← mcells_set]
      exact blk_put RK.out (j + 1) _ rfl
    · obtain rfl : k = 32 := by omega
      clear hlt hk K1 B1 G
      have hi := mcells_info (stTo 32) (stTo_len 32)
      go_wp2_with (first
        | (refine wpList_load_row rfl 44 (.tmp 0) rfl g rfl 44 (mcells (stTo 32)) (0, 0) (.array 32 24) RK.out Try.underlying44 rfl hi ?_)
        | (refine wpList_store_row rfl 44 (.tmp 0) (.tmp 12) rfl g (mcells (stTo 32)) rfl rfl 44 (mcells (stTo 32)) RK.out hi rfl (mcells_one _) ?_; have hK := setRow_heap wr g (mcells (stTo 32)) (mcells (stTo 32)) 44 (0, 0) RK.out; have hB := Aside0.mk (below_setRow RB.out L0 (mcells (stTo 32))); generalize wr.setRow g (mcells (stTo 32)) = w9 at hK hB ⊢))
      refine bodyPost_ret (v := .agg (mcells (stTo 32))) (results_cell_row (fn := Try.f21) (p := 0) (ty := 44) (by kernel_rfl) _ _ g 44 (mcells (stTo 32)) (0, 0) (.array 32 24) rfl hK Try.underlying44 rfl hi) rfl ?_
      exact ⟨rfl, hB.out⟩

/-! ### the matrix of k steps -/
def mx (k : Nat) : List Nat := Crc.mat (Crc.steps k) 0 32
theorem mat_len (F : Nat → Nat) : ∀ (k i : Nat), (Crc.mat F i k).length = k
  | 0, _ => rfl
  | k + 1, i => by simp [Crc.mat, mat_len F k]
theorem mat_at (F : Nat → Nat) : ∀ (k i j : Nat) (h : j < (Crc.mat F i k).length), (Crc.mat F i k)[j] = F (2 ^ (i + j))
  | 0, _, _, h => by simp [Crc.mat] at h
  | k + 1, i, 0, _ => by simp [Crc.mat]
  | k + 1, i, j + 1, h => by
    simp only [Crc.mat, List.getElem_cons_succ]
    rw [mat_at F k (i + 1) j (by simpa [Crc.mat] using h)]
    congr 2
    omega
theorem mx_len (k : Nat) : (mx k).length = 32 := mat_len _ _ _
theorem mx_at (k j : Nat) (h : j < (mx k).length) : (mx k)[j] = Crc.steps k (2 ^ j) := by
  have := mat_at (Crc.steps k) 32 0 j h
  rwa [Nat.zero_add] at this
theorem mx_lt (k : Nat) : ∀ x ∈ mx k, x < 4294967296 := by
  intro x hx
  obtain ⟨j, hj, rfl⟩ := List.mem_iff_getElem.1 hx
  rw [mx_at]
  have hl := mx_len k
  have : 2 ^ j < 2 ^ 32 := Nat.pow_lt_pow_right (by decide) (by omega)
  exact Crc.steps_lt _ _ (by omega)
theorem mx_times (k n : Nat) (hn : n < 4294967296) : Crc.times (mx k) n = Crc.steps k n := by
  have := Crc.times_mat (Crc.steps k) (Crc.steps_lin k) 32 0 n (by omega)
  rwa [Nat.pow_zero, Nat.one_mul] at this
theorem mx_sq (k : Nat) : sqTo (mx k) 32 = mx (k + k) := by
  apply List.ext_getElem
  · rw [sqTo_len, mx_len]
  · intro j h1 h2
    have hl := mx_len (k + k)
    have hl1 := mx_len k
    rw [mx_at]
    simp only [sqTo, List.getElem_map, List.getElem_range]
    have hp : 2 ^ j < 2 ^ 32 := Nat.pow_lt_pow_right (by decide) (by omega)
    rw [if_pos (by omega), List.getD_eq_getElem?_getD, List.getElem?_eq_getElem (by omega), Option.getD_some, mx_at, mx_times _ _ (Crc.steps_lt _ _ (by omega)), Crc.steps_add]
theorem mx_one : stTo 32 = mx 1 := by
  apply List.ext_getElem
  · rw [stTo_len, mx_len]
  · intro j h1 h2
    have hl := mx_len 1
    rw [mx_at]
    simp only [stTo, List.getElem_map, List.getElem_range]
    rw [if_pos (by omega)]
    rfl
theorem and1_i64 (n : Nat) (hn : n < 9223372036854775808) : bits .and .i64 (n : Int) 1 = ((n % 2 : Nat) : Int) := by
  have h1 : (BitVec.ofInt 64 1).toNat = 2 ^ 1 - 1 := by decide
  have key : (BitVec.ofInt 64 (n : Int) &&& BitVec.ofInt 64 1).toNat = ((n : Int) % ((2 ^ 64 : Nat) : Int)).toNat % 2 ^ 1 := by
    rw [BitVec.toNat_and, BitVec.toNat_ofInt, h1, Nat.and_two_pow_sub_one_eq_mod]
  show IntKind.i64.wrap ((BitVec.ofInt 64 (n : Int) &&& BitVec.ofInt 64 1).toNat : Nat) = _
  rw [key, IntKind.wrap_i64]
  omega

def guard_Join.f (a0 a1 a2 : Int) : Option Int :=
  if 0 ≤ a0 ∧ a0 < 4294967296 ∧ 0 ≤ a1 ∧ a1 < 4294967296 ∧ -9223372036854775808 ≤ a2 ∧ a2 < 9223372036854775808 then
    some ((Crc.steps (8 * a2.toNat) a0.toNat ^^^ a1.toNat : Nat) : Int) else none
theorem stepped_mx (w : World) : Calls Try.prog 21 #[] w fun e w' => e = .returned (.agg (mcells (mx 1))) ∧ Below w.heap.size w w' := by
  have := stepped_at w
  rwa [mx_one] at this
theorem squared_mx (g0 k : Nat) (w : World) (hg : w.heap[g0]? = some (.cells (mcells (mx k)) 44 (0, 0))) :
    Calls Try.prog 22 #[.pointer (some ⟨g0, 0, none⟩)] w fun e w' => e = .returned (.agg (mcells (mx (k + k)))) ∧ Below w.heap.size w w' := by
  have := squared_at g0 (mx k) (mx_len k) (mx_lt k) w hg
  rwa [mx_sq] at this
theorem times_mx (g k n : Nat) (hn : n < 4294967296) (w : World) (hg : w.heap[g]? = some (.cells (mcells (mx k)) 44 (0, 0))) :
    Calls Try.prog 23 #[.pointer (some ⟨g, 0, none⟩), .int .u32 n] w fun e w' => e = .returned (.int .u32 (Crc.steps k n : Int)) ∧ w = w' := by
  have := times_at g (mx k) (mx_len k) (mx_lt k) n hn w hg
  rwa [mx_times k n hn] at this

set_option maxHeartbeats 2000000 in
theorem guard_Join.calls (a0 a1 a2 r : Int) (w : World) (h : guard_Join.f a0 a1 a2 = some r) :
    Calls Try.prog 16 #[.int .u32 a0, .int .u32 a1, .int .i64 a2] w fun e w' => e = .returned (.int .u32 r) ∧ Below w.heap.size w w' := by
  unfold guard_Join.f at h
  by_cases hb : 0 ≤ a0 ∧ a0 < 4294967296 ∧ 0 ≤ a1 ∧ a1 < 4294967296 ∧ -9223372036854775808 ≤ a2 ∧ a2 < 9223372036854775808
  · rw [if_pos hb] at h
    obtain ⟨p0, p1, p2, p3, p4, p5⟩ := hb
    obtain ⟨A, rfl⟩ := Int.eq_ofNat_of_zero_le p0
    obtain ⟨B, rfl⟩ := Int.eq_ofNat_of_zero_le p2
    simp only [Int.toNat_natCast] at h
    have hr := Aside0.mk (Option.some.inj h)
    clear h
    have bA : A < 4294967296 := by omega
    have bB := Aside0.mk (show B < 4294967296 by omega)
    have HS := Aside0.mk stepped_mx
    have HQ := Aside0.mk squared_mx
    have HTM := Aside0.mk times_mx
    have hi := fun k => mcells_info (mx k) (mx_len k)
    have HI := Aside0.mk hi
    clear hi p0 p1 p2 p3
    go_enter Try.func16, Try.ntmps16
    go_wp2_with (first
      | (go_at_call 21; refine (HS.out _).mono ?_; rintro e w1 ⟨rfl, hb⟩; have HB1 := Aside0.mk hb; clear hb)
      | ((with_reducible refine gate_dst (N := 7) rfl ?_); refine box_event ?hg (N := 7) ?hd (cs := (List.replicate 32 (Value.int .u32 0)).toArray) (t := 44) ?hr ?_; (case hd => rfl); (case hg => rfl); (case hr => first | (go_simp; done) | (go_simp; rfl)); intro g hg w2 hb1 hB1; have G := Aside0.mk hg; have K1 := Aside0.mk hb1; have B2 := Aside0.mk hB1; clear hg hb1 hB1)
      | (refine wpList_store_row rfl 44 (.tmp 7) (.tmp 8) rfl g (mcells (mx 1)) rfl rfl 44 (List.replicate 32 (Value.int .u32 0)).toArray K1.out (HI.out 1) (by rw [mcells_size, mx_len]; rfl) (mcells_one _) ?_; have L0 : w.heap.size ≤ g := (by rw [G.out]; exact HB1.out.size); have hK := Aside0.mk (setRow_heap w2 g _ (mcells (mx 1)) 44 (0, 0) K1.out); have hB := Aside0.mk (below_setRow (below_step HB1.out B2.out) L0 (mcells (mx 1))); generalize w2.setRow g (mcells (mx 1)) = w3 at hK hB ⊢))
    clear K1 G B2 HB1
    go_loopw [9] (fun i wr => ∃ k : Nat, i = .int .i64 k ∧ k ≤ 3 ∧ Aside0 (wr.heap[g]? = some (.cells (mcells (mx (2 ^ k))) 44 (0, 0))) ∧ Aside0 (Below w.heap.size w wr))
      (fun i _ => 3 - (intOf i).toNat)
    case atStart => exact ⟨0, rfl, by omega, hK, hB⟩
    case round =>
      obtain ⟨k, rfl, hk, RK, RB⟩ := hrel
      clear hK hB
      by_cases hlt : k < 3
      · go_wp2_with (first
          | (go_at_call 22; refine (HQ.out g (2 ^ k) _ RK.out).mono ?_; rintro e w4 ⟨rfl, hb⟩; have B4 := Aside0.mk hb; clear hb; have K4 := Aside0.mk (blk_below RK.out B4.out); have R4 := Aside0.mk (below_step RB.out B4.out))
          | (refine wpList_store_row rfl 44 (.tmp 7) (.tmp 11) rfl g (mcells (mx (2 ^ k + 2 ^ k))) rfl rfl 44 (mcells (mx (2 ^ k))) K4.out (HI.out _) (by rw [mcells_size, mcells_size, mx_len, mx_len]) (mcells_one _) ?_; have hK := Aside0.mk (setRow_heap w4 g _ (mcells (mx (2 ^ k + 2 ^ k))) 44 (0, 0) K4.out); have hB := Aside0.mk (below_setRow R4.out L0 (mcells (mx (2 ^ k + 2 ^ k)))); generalize w4.setRow g (mcells (mx (2 ^ k + 2 ^ k))) = w5 at hK hB ⊢))
        refine ⟨⟨k + 1, by go_num, by omega, ?_, hB⟩, by simp [intOf]; omega⟩
        rw [show 2 ^ (k + 1) = 2 ^ k + 2 ^ k by rw [Nat.pow_succ]; omega]
        exact hK
      · obtain rfl : k = 3 := by omega
        clear hk hlt
        rw [show 2 ^ 3 = 8 from rfl] at RK
        go_wp2
        go_loopw [0, 2] (fun x n wr => ∃ (e X : Nat) (z : Int), n = .int .i64 z ∧ x = .int .u32 X ∧ Aside0 (-9223372036854775808 ≤ z ∧ z < 9223372036854775808) ∧ Aside0 (X < 4294967296) ∧ Aside0 (wr.heap[g]? = some (.cells (mcells (mx e)) 44 (0, 0))) ∧ Aside0 (Crc.steps (e * z.toNat) X = Crc.steps (8 * a2.toNat) A) ∧ Aside0 (Below w.heap.size w wr))
          (fun _ n _ => (intOf n).toNat)
        case atStart => exact ⟨8, A, a2, rfl, rfl, ⟨p4, p5⟩, ⟨bA⟩, RK, ⟨rfl⟩, RB⟩
        case round =>
          obtain ⟨e, X, z, rfl, rfl, hz, hX, RK2, hin, RB2⟩ := hrel
          clear RK RB
          by_cases h0 : 0 < z
          · obtain ⟨N, rfl⟩ := Int.eq_ofNat_of_zero_le (Int.le_of_lt h0)
            have hN : N < 9223372036854775808 := by have := hz.out.2; omega
            have hA := and1_i64 N hN
            rw [Int.toNat_natCast] at hin
            rcases Nat.mod_two_eq_zero_or_one N with hm | hm
            · have hin' : Aside0 (Crc.steps ((e + e) * (N / 2)) X = Crc.steps (8 * a2.toNat) A) := ⟨by
                rw [← hin.out]
                congr 1
                conv => rhs; rw [show N = N / 2 + N / 2 by omega]
                rw [Nat.add_mul, Nat.mul_add]⟩
              rw [hm] at hA
              clear hin
              go_wp2_with (first
                | (go_at_call 22; refine (HQ.out g e _ RK2.out).mono ?_; rintro e1 w4 ⟨rfl, hb⟩; have B4 := Aside0.mk hb; clear hb; have K4 := Aside0.mk (blk_below RK2.out B4.out); have R4 := Aside0.mk (below_step RB2.out B4.out))
                | (refine wpList_store_row rfl 44 (.tmp 7) (.tmp 22) rfl g (mcells (mx (e + e))) rfl rfl 44 (mcells (mx e)) K4.out (HI.out _) (by rw [mcells_size, mcells_size, mx_len, mx_len]) (mcells_one _) ?_; have hK := Aside0.mk (setRow_heap w4 g _ (mcells (mx (e + e))) 44 (0, 0) K4.out); have hB := Aside0.mk (below_setRow R4.out L0 (mcells (mx (e + e)))); generalize w4.setRow g (mcells (mx (e + e))) = w5 at hK hB ⊢))
              refine ⟨⟨_, _, _, _, _, _, _, _, _, _, _, _, ⟨e + e, X, ((N / 2 : Nat) : Int), rfl, rfl, ⟨by omega⟩, hX, hK, hin', hB⟩, rfl⟩, ?_⟩
              simp [intOf]
              omega
            · have hin' : Aside0 (Crc.steps ((e + e) * (N / 2)) (Crc.steps e X) = Crc.steps (8 * a2.toNat) A) := ⟨by
                rw [← hin.out, ← Crc.steps_add]
                congr 1
                conv => rhs; rw [show N = 1 + (N / 2 + N / 2) by omega]
                rw [Nat.add_mul, Nat.mul_add, Nat.mul_add, Nat.mul_one]⟩
              have hX' : Aside0 (Crc.steps e X < 4294967296) := ⟨Crc.steps_lt _ _ hX.out⟩
              rw [hm] at hA
              clear hin
              go_wp2_with (first
                | (go_at_call 23; refine (HTM.out g e X hX.out _ RK2.out).mono ?_; rintro e1 w4 ⟨rfl, rfl⟩)
                | (go_at_call 22; refine (HQ.out g e _ RK2.out).mono ?_; rintro e1 w4 ⟨rfl, hb⟩; have B4 := Aside0.mk hb; clear hb; have K4 := Aside0.mk (blk_below RK2.out B4.out); have R4 := Aside0.mk (below_step RB2.out B4.out))
                | (refine wpList_store_row rfl 44 (.tmp 7) (.tmp 22) rfl g (mcells (mx (e + e))) rfl rfl 44 (mcells (mx e)) K4.out (HI.out _) (by rw [mcells_size, mcells_size, mx_len, mx_len]) (mcells_one _) ?_; have hK := Aside0.mk (setRow_heap w4 g _ (mcells (mx (e + e))) 44 (0, 0) K4.out); have hB := Aside0.mk (below_setRow R4.out L0 (mcells (mx (e + e)))); generalize w4.setRow g (mcells (mx (e + e))) = w5 at hK hB ⊢))
              refine ⟨⟨_, _, _, _, _, _, _, _, _, _, _, _, ⟨e + e, Crc.steps e X, ((N / 2 : Nat) : Int), rfl, rfl, ⟨by omega⟩, hX', hK, hin', hB⟩, rfl⟩, ?_⟩
              simp [intOf]
              omega
          · have hfin : X = Crc.steps (8 * a2.toNat) A := by
              rw [← hin.out, show z.toNat = 0 by omega]
              rfl
            have hXO : bits .xor .u32 (X : Int) (B : Int) = r := by
              rw [xor32 X B hX.out bB.out, ← hr.out, hfin]
            clear hin hr hfin
            go_wp2
            go_ret
            exact ⟨rfl, RB2.out⟩
  · rw [if_neg hb] at h; cases h
end Go.Proofs.Ytkbjbpgclhlmpaa.B
