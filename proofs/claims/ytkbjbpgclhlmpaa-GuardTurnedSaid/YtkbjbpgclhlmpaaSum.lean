/- By hand: guard.Sum over its table (an array), and a closure over nothing. -/
import Derived.Test.YtkbjbpgclhlmpaaB0
import Derived.Test.YtkbjbpgclhlmpaaCrc
import Derived.Laws.BitsAllLaws
import Derived.Laws.CopyOwn
namespace Go.Proofs.Ytkbjbpgclhlmpaa.B
open Go.RowKit Go.Proofs.YtkbjbpgclhlmpaaW.PrintWords Go.Proofs.YtkbjbpgclhlmpaaW.PrintLast Go.Proofs.YtkbjbpgclhlmpaaW.PrintMore

theorem xor32 (a b : Nat) (ha : a < 4294967296) (hb : b < 4294967296) : bits .xor .u32 (a : Int) (b : Int) = ((a ^^^ b : Nat) : Int) := u32_xor_nat a b ha hb
theorem and1 (a : Nat) (ha : a < 4294967296) : bits .and .u32 (a : Int) 1 = ((a % 2 : Nat) : Int) := by
  have h := u32_and_nat a 1 ha (by omega)
  have e : a &&& 1 = a % 2 := Nat.and_two_pow_sub_one_eq_mod a 1
  rw [e] at h
  exact h
theorem and15 (a : Nat) (ha : a < 4294967296) : bits .and .u32 (a : Int) 15 = ((a % 16 : Nat) : Int) := by
  have h := u32_and_nat a 15 ha (by omega)
  have e : a &&& 15 = a % 16 := Nat.and_two_pow_sub_one_eq_mod a 4
  rw [e] at h
  exact h
theorem div2 (n : Nat) : (n : Int) / 2 = ((n / 2 : Nat) : Int) := by omega
theorem div16 (n : Nat) : (n : Int) / 16 = ((n / 16 : Nat) : Int) := by omega
theorem step_at (n : Nat) (hn : n < 4294967296) (w : World) : Calls Try.prog 25 #[.int .u32 n] w fun e w' => e = .returned (.int .u32 (Crc.step n)) ∧ w = w' := by
  have h1 := and1 n hn
  have hA0 : bits .and .u32 2197175160 0 = 0 := u32_and_nat 2197175160 0 (by omega) (by omega)
  have hA1 : bits .and .u32 2197175160 4294967295 = 2197175160 := u32_and_nat 2197175160 4294967295 (by omega) (by omega)
  have hX0 : bits .xor .u32 ((n : Int) / 2) 0 = ((n / 2 : Nat) : Int) := by
    rw [div2]
    have := xor32 (n / 2) 0 (by omega) (by omega)
    rwa [Nat.xor_zero] at this
  have hX1 : bits .xor .u32 ((n : Int) / 2) 2197175160 = ((n / 2 ^^^ Crc.poly : Nat) : Int) := by
    rw [div2]
    exact xor32 (n / 2) 2197175160 (by omega) (by omega)
  rcases Nat.mod_two_eq_zero_or_one n with h | h
  · rw [h] at h1
    have hs : Crc.step n = n / 2 := by unfold Crc.step; rw [if_neg (by omega)]
    rw [hs]
    clear hs h
    go_enter Try.func25, Try.ntmps25
    go_wp2
    go_ret
    exact ⟨rfl, rfl⟩
  · rw [h] at h1
    have hs : Crc.step n = n / 2 ^^^ Crc.poly := by unfold Crc.step; rw [if_pos h]
    rw [hs]
    clear hs h
    go_enter Try.func25, Try.ntmps25
    go_wp2
    go_ret
    exact ⟨rfl, rfl⟩
theorem made_at (n : Nat) (hn : n < 4294967296) (w : World) : Calls Try.prog 24 #[.int .u32 n] w fun e w' => e = .returned (.int .u32 (Crc.steps 4 n)) ∧ w = w' := by
  go_enter Try.func24, Try.ntmps24
  go_wp2
  go_loopw [0, 3] (fun a i wr => ∃ k : Nat, i = .int .i64 k ∧ k ≤ 4 ∧ a = .int .u32 (Crc.steps k n) ∧ w = wr)
    (fun _ i _ => 4 - (intOf i).toNat)
  case atStart => exact ⟨0, rfl, by omega, rfl, rfl⟩
  case round =>
    obtain ⟨k, rfl, hk, rfl, rfl⟩ := hrel
    by_cases hlt : k < 4
    · have hs := step_at (Crc.steps k n) (Crc.steps_lt k n hn)
      have hS := Aside0.mk hs
      clear hs
      go_wp2_with (go_at_call 25; refine (hS.out _).mono ?_; rintro e w' ⟨rfl, rfl⟩)
      go_roundw
      case rel => exact ⟨k + 1, by go_num, hlt, by rw [Crc.steps_succ], trivial⟩
      case measure => simp [intOf]; omega
    · obtain rfl : k = 4 := by omega
      go_wp2
      go_ret
      exact ⟨rfl, rfl⟩
attribute [local irreducible] Crc.steps Crc.step
/-- the table's cells, the first k of them written -/
def tabCells (k : Nat) : Array Value := ((List.range 16).map fun j => Value.int .u32 (if j < k then (Crc.steps 4 j : Int) else 0)).toArray
theorem tab_get (k j : Nat) (h : j < 16) : (tabCells k)[j]? = some (.int .u32 (if j < k then (Crc.steps 4 j : Int) else 0)) := by
  unfold tabCells
  simp [h]
theorem tab_size (k : Nat) : (tabCells k).size = 16 := by simp [tabCells]
theorem tab_set (k : Nat) (_h : k < 16) : (tabCells k).setIfInBounds k (.int .u32 (Crc.steps 4 k)) = tabCells (k + 1) := by
  apply Array.ext_getElem?
  intro j
  rw [Array.getElem?_setIfInBounds]
  by_cases hj : j < 16
  · rw [tab_get k j hj, tab_get (k + 1) j hj, tab_size]
    by_cases e : k = j
    · subst e; simp [hj]
    · rw [if_neg e]
      by_cases h1 : j < k
      · rw [if_pos h1, if_pos (by omega)]
      · rw [if_neg h1, if_neg (by omega)]
  · by_cases e : k = j
    · omega
    rw [if_neg e]
    have h0 : (tabCells k)[j]? = none := Array.getElem?_eq_none (by rw [tab_size]; omega)
    have h1 : (tabCells (k + 1))[j]? = none := Array.getElem?_eq_none (by rw [tab_size]; omega)
    rw [h0, h1]
theorem tab_one (k : Nat) : (tabCells k).all (·.oneCell') = true := by
  rw [Array.all_eq_true_iff_forall_mem]
  intro v hv
  simp only [tabCells, List.mem_toArray, List.mem_map] at hv
  obtain ⟨j, _, rfl⟩ := hv
  rfl
theorem tab_info (k : Nat) : (Try.prog.info? 38).map (·.size) = some (tabCells k).size := by rw [tab_size]; kernel_rfl
theorem set_same {cs : Array Value} {j : Nat} {v : Value} (e : cs[j]? = some v) : cs.setIfInBounds j v = cs := by
  apply Array.ext_getElem?
  intro i
  rw [Array.getElem?_setIfInBounds]
  by_cases h : j = i
  · subst h
    rw [if_pos rfl, e]
    have : j < cs.size := (Array.getElem?_eq_some_iff.1 e).1
    rw [if_pos this]
  · rw [if_neg h]
theorem blk_same {w : World} {g : Nat} {t : TypeId} {cs : Array Value} (h : w.heap[g]? = some (.cells cs t (0, 0))) (j : Nat) (v : Value) (e : cs[j]? = some v) : (w.setCell ⟨g, j, none⟩ v).heap[g]? = some (.cells cs t (0, 0)) :=
  blk_put h j v (set_same e)
theorem table_at (w : World) : Calls Try.prog 18 #[] w fun e w' => e = .returned (.agg (tabCells 16)) ∧ Below w.heap.size w w' := by
  go_enter Try.func18, Try.ntmps18
  go_wp2_with ((with_reducible refine gate_dst (N := 0) rfl ?_); refine box_event ?hg (N := 0) ?hd (cs := tabCells 0) (t := 38) ?hr ?_; (case hd => rfl); (case hg => rfl); (case hr => first | (go_simp; done) | (go_simp; rfl)); intro g hg w1 hb1 hB1; have G := Aside0.mk hg; have K1 := Aside0.mk hb1; have B1 := Aside0.mk hB1; clear hg hb1 hB1)
  have L0 : w.heap.size ≤ g := by rw [G.out]; exact Nat.le_refl _
  go_loopw [3] (fun i wr => ∃ k : Nat, i = .int .i64 k ∧ k ≤ 16 ∧ Aside0 (wr.heap[g]? = some (.cells (tabCells k) 38 (0, 0))) ∧ Aside0 (Below w.heap.size w wr))
    (fun i _ => 16 - (intOf i).toNat)
  case atStart => exact ⟨0, rfl, by omega, K1, B1⟩
  case round =>
    obtain ⟨k, rfl, hk, RK, RB⟩ := hrel
    by_cases hlt : k < 16
    · have hw : IntKind.u32.wrap (k : Int) = (k : Int) := by rw [IntKind.wrap_u32']; omega
      have hc : wr.cell? ⟨g, k, none⟩ = some (.int .u32 0) := (blk_cell RK.out k).trans (by rw [tab_get k k hlt, if_neg (by omega)])
      have hf : wr.frozen? ⟨g, k, none⟩ = false := blk_frozen RK.out k
      have hm := Aside0.mk (made_at k (by omega))
      go_wp2_with (go_at_call 24; refine (hm.out _).mono ?_; rintro e w' ⟨rfl, rfl⟩)
      refine ⟨⟨k + 1, by go_num, by omega, ⟨by rw [← tab_set k hlt]; exact blk_put RK.out k _ rfl⟩, ⟨below_set RB.out L0⟩⟩, by simp [intOf]; omega⟩
    · obtain rfl : k = 16 := by omega
      clear hlt hk K1 B1 G
      go_wp2_with (first
        | (refine wpList_load_row rfl 38 (.tmp 0) rfl g rfl 38 (tabCells 16) (0, 0) (.array 16 24) RK.out Try.underlying38 rfl (tab_info 16) ?_)
        | ((with_reducible refine gate_store (t := 38) (p := 0) rfl ?_); go_loud (refine wpList_store_row rfl 38 (.tmp 0) (.tmp 13) rfl g (tabCells 16) rfl rfl 38 (tabCells 16) RK.out (tab_info 16) rfl (tab_one 16) ?_); have hK := setRow_heap wr g (tabCells 16) (tabCells 16) 38 (0, 0) RK.out; have hB := Aside0.mk (below_setRow RB.out L0 (tabCells 16)); generalize wr.setRow g (tabCells 16) = w9 at hK hB ⊢))
      refine bodyPost_ret (v := .agg (tabCells 16)) (results_cell_row (fn := Try.f18) (p := 0) (ty := 38) (by kernel_rfl) _ _ g 38 (tabCells 16) (0, 0) (.array 16 24) rfl hK Try.underlying38 rfl (tab_info 16)) rfl ?_
      exact ⟨rfl, hB.out⟩

/-! ### the sum -/
def guard_Sum.f (a0 : ByteArray) : Option Int := if a0.size ≤ 9223372036854775807 then some (Crc.sum a0.data.toList : Int) else none
theorem tab_at (n : Nat) (hn : n < 16) : (tabCells 16)[n]? = some (.int .u32 (Crc.steps 4 n : Int)) := by rw [tab_get 16 n hn, if_pos hn]
set_option maxHeartbeats 1000000 in
theorem guard_Sum.calls (a0 : ByteArray) (r : Int) (w : World) (h : guard_Sum.f a0 = some r) :
    Calls Try.prog 10 #[.string a0] w fun e w' => e = .returned (.int .u32 r) ∧ Below w.heap.size w w' := by
  unfold guard_Sum.f at h
  by_cases hs : a0.size ≤ 9223372036854775807
  · rw [if_pos hs] at h
    have hr := Aside0.mk (Option.some.inj h)
    clear h
    have kb := fun W => print_bytes (P := Try.prog) 9 23 5 Try.underlying9 Try.underlying23 Try.underlying5 a0 W
    have HT := Aside0.mk table_at
    go_enter Try.func10, Try.ntmps10
    go_wp2_with (first
      | (go_at_call 18; refine (HT.out _).mono ?_; rintro e w1 ⟨rfl, hb⟩; have HB1 := Aside0.mk hb; clear hb)
      | ((with_reducible refine gate_dst (N := 3) rfl ?_); refine box_event ?hg (N := 3) ?hd (cs := (List.replicate 16 (Value.int .u32 0)).toArray) (t := 38) ?hr ?_; (case hd => rfl); (case hg => rfl); (case hr => first | (go_simp; done) | (go_simp; rfl)); intro g hg w2 hb1 hB1; have G := Aside0.mk hg; have K1 := Aside0.mk hb1; have B2 := Aside0.mk hB1; clear hg hb1 hB1)
      | (refine wpList_store_row rfl 38 (.tmp 3) (.tmp 7) rfl g (tabCells 16) rfl rfl 38 (List.replicate 16 (Value.int .u32 0)).toArray K1.out (tab_info 16) (by rw [tab_size]; rfl) (tab_one 16) ?_; have L0 : w.heap.size ≤ g := (by rw [G.out]; exact HB1.out.size); have hK := Aside0.mk (setRow_heap w2 g _ (tabCells 16) 38 (0, 0) K1.out); have hB := Aside0.mk (below_setRow (below_step HB1.out B2.out) L0 (tabCells 16)); generalize w2.setRow g (tabCells 16) = w3 at hK hB ⊢))
    have hge : w3.heap.size ≤ (Lib.bytesWorld w3 5 a0).heap.size := by rw [Lib.bytesWorld_size]; omega
    have hR := Aside0.mk (bytes_reads w3 5 a0 hs)
    have hK4 : Aside0 ((Lib.bytesWorld w3 5 a0).heap[g]? = some (.cells (tabCells 16) 38 (0, 0))) := ⟨(Lib.bytesWorld_at_old w3 5 a0 g (blk_lt hK.out)).trans hK.out⟩
    have hB4 := Aside0.mk (bytes_below hB.out hB.out.size 5 a0)
    obtain ⟨gb, hgb⟩ : ∃ gb, gb = w3.heap.size := ⟨_, rfl⟩
    rw [← hgb] at hR ⊢
    obtain ⟨cap, hcap⟩ : ∃ cap, cap = grownCap w3 a0.size 0 5 := ⟨_, rfl⟩
    rw [← hcap]
    generalize Lib.bytesWorld w3 5 a0 = w4 at hR hK4 hB4 hge ⊢
    have hl : a0.data.toList.length = a0.size := data_length a0
    obtain ⟨l, hll⟩ : ∃ l, l = a0.data.toList := ⟨_, rfl⟩
    have hcell : ∀ k (hk : k < l.length), w4.cell? ⟨gb, k, none⟩ = some (.int .u8 ((l[k]).toNat : Int)) := by
      intro k hk
      obtain ⟨ad, e, hc⟩ := hR.out.2.2 (by rw [← hl, ← hll]; omega)
      have := hc k (by rw [← hl, ← hll]; omega)
      injection e with e
      subst e
      rw [add_plain] at this
      rw [this]
      subst hll
      simp [bytesOf, List.getD_eq_getElem?_getD, List.getElem?_eq_getElem hk]
    rw [← hll] at hr hl
    have hsz : (a0.size : Int) = (l.length : Int) := by rw [hl]
    clear hR hK hB hgb hcap hge K1 B2 G kb HB1 hll
    rw [hsz, ← hl]
    have HCELL := Aside0.mk hcell
    clear hcell
    rw [← hl] at hs
    clear hsz hl
    go_loopw [4, 11] (fun n i wr => ∃ k m : Nat, i = .int .i64 k ∧ n = .int .u32 m ∧ Aside0 (k ≤ l.length) ∧ Aside0 (m < 4294967296) ∧ Aside0 (Crc.run (l.drop k) m ^^^ 4294967295 = Crc.sum l) ∧ w4 = wr)
      (fun _ i _ => l.length - (intOf i).toNat)
    case atStart => exact ⟨0, 4294967295, rfl, rfl, ⟨Nat.zero_le _⟩, ⟨by decide⟩, ⟨by rw [List.drop_zero]; rfl⟩, rfl⟩
    case round =>
      obtain ⟨k, m, rfl, rfl, hk, hm, hinv, rfl⟩ := hrel
      by_cases hlt : k < l.length
      · have hc := HCELL.out k hlt
        obtain ⟨c, hcc⟩ : ∃ c, c = (l[k]).toNat := ⟨_, rfl⟩
        have hcb : c < 256 := by rw [hcc]; exact (l[k]).toNat_lt
        have hinv' : Aside0 (Crc.run (l.drop (k + 1)) (Crc.feed m c) ^^^ 4294967295 = Crc.sum l) := ⟨by
          have h := hinv.out
          rw [List.drop_eq_getElem_cons hlt] at h
          rw [hcc]
          exact h⟩
        rw [← hcc] at hc
        clear hinv hcc
        obtain ⟨m1, hm1⟩ : ∃ m1, m1 = m ^^^ c := ⟨_, rfl⟩
        have b1 : m1 < 4294967296 := by rw [hm1]; exact Nat.xor_lt_two_pow (n := 32) hm.out (by omega)
        have hX : bits .xor .u32 (m : Int) (c : Int) = (m1 : Int) := by rw [hm1]; exact xor32 m c hm.out (by omega)
        obtain ⟨q1, hq1⟩ : ∃ q1, q1 = m1 % 16 := ⟨_, rfl⟩
        have hA1 : bits .and .u32 (m1 : Int) 15 = (q1 : Int) := by rw [hq1]; exact and15 m1 b1
        have c1 : q1 < 16 := by omega
        obtain ⟨m2, hm2⟩ : ∃ m2, m2 = Crc.steps 4 m1 := ⟨_, rfl⟩
        have b2 : m2 < 4294967296 := by rw [hm2]; exact Crc.steps_lt 4 m1 b1
        have b1' : Crc.steps 4 q1 < 4294967296 := Crc.steps_lt 4 q1 (by omega)
        have hX1 : bits .xor .u32 ((m1 : Int) / 16) (Crc.steps 4 q1 : Int) = (m2 : Int) := by
          rw [div16, xor32 _ _ (by omega) b1', hq1, Crc.half, hm2]
        obtain ⟨q2, hq2⟩ : ∃ q2, q2 = m2 % 16 := ⟨_, rfl⟩
        have hA2 : bits .and .u32 (m2 : Int) 15 = (q2 : Int) := by rw [hq2]; exact and15 m2 b2
        have c2 : q2 < 16 := by omega
        obtain ⟨m3, hm3⟩ : ∃ m3, m3 = Crc.steps 4 m2 := ⟨_, rfl⟩
        have b3 : m3 < 4294967296 := by rw [hm3]; exact Crc.steps_lt 4 m2 b2
        have b2' : Crc.steps 4 q2 < 4294967296 := Crc.steps_lt 4 q2 (by omega)
        have hX2 : bits .xor .u32 ((m2 : Int) / 16) (Crc.steps 4 q2 : Int) = (m3 : Int) := by
          rw [div16, xor32 _ _ (by omega) b2', hq2, Crc.half, hm3]
        have hf : Crc.feed m c = m3 := by rw [Crc.feed_half, hm3, hm2, hm1]
        rw [hf] at hinv'
        have hc1 : w4.cell? ⟨g, q1, none⟩ = some (.int .u32 (Crc.steps 4 q1 : Int)) := (blk_cell hK4.out q1).trans (tab_at q1 c1)
        have hc2 : w4.cell? ⟨g, q2, none⟩ = some (.int .u32 (Crc.steps 4 q2 : Int)) := (blk_cell hK4.out q2).trans (tab_at q2 c2)
        have B3 := Aside0.mk b3
        have d1 : (q1 : Int) < 16 := by omega
        have d2 : (q2 : Int) < 16 := by omega
        have wc : IntKind.u32.wrap (c : Int) = (c : Int) := by rw [IntKind.wrap_u32']; omega
        clear hf hm3 hm2 hm1 hq1 hq2 b1 b2 b3 b1' b2'
        go_wp2
        refine ⟨⟨k + 1, m3, by go_num, rfl, ⟨hlt⟩, B3, hinv', trivial⟩, by simp [intOf]; omega⟩
      · obtain rfl : k = l.length := by have := hk.out; omega
        have hfin : (Crc.sum l : Int) = ((m ^^^ 4294967295 : Nat) : Int) := by
          have h := hinv.out
          rw [List.drop_length] at h
          rw [← h]
          rfl
        have hX : bits .xor .u32 IntKind.u32.max (m : Int) = r := by
          rw [show IntKind.u32.max = 4294967295 by decide]
          rw [← hr.out, hfin, Nat.xor_comm]
          exact xor32 4294967295 m (by omega) hm.out
        clear hfin hinv hr
        have hns : ¬ IntKind.u32.signed = true := by decide
        go_wp2
        go_ret
        exact ⟨rfl, hB4.out⟩
  · rw [if_neg hs] at h; cases h
end Go.Proofs.Ytkbjbpgclhlmpaa.B
