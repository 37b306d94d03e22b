/- Texts of this claim, one behind the other (joined by pack.py): GSum GB1 GPlain GTurned. -/
import Derived.Test.YtondgoabnmgcaaaKLetterEncodes7
import Derived.Test.YtondgoabnmgcaaaKLetterEncodes0
import Derived.Laws.BitsAllLaws
import Derived.Laws.CopyOwn
section
/- By hand: guard.Sum over its table (an array), and a closure over nothing. -/
namespace Go.Proofs.YtondgoabnmgcaaaG.B
open Go.RowKit Go.Proofs.YtondgoabnmgcaaaW.PrintWords Go.Proofs.YtondgoabnmgcaaaW.PrintLast Go.Proofs.YtondgoabnmgcaaaW.PrintMore

theorem xor32 (a b : Nat) (ha : a < 4294967296) (hb : b < 4294967296) : bits .xor .u32 (a : Int) (b : Int) = ((a ^^^ b : Nat) : Int) := u32_xor_nat a b ha hb
theorem and1 (a : Nat) (ha : a < 4294967296) : bits .and .u32 (a : Int) 1 = ((a % 2 : Nat) : Int) := by
  have h := u32_and_nat a 1 ha (by omega)
  have e : a &&& 1 = a % 2 := Nat.and_two_pow_sub_one_eq_mod a 1
  rw [e] at h
  exact h
theorem and15 (a : Nat) (ha : a < 4294967296) : bits .and .u32 (a : Int) 15 = ((a % 16 : Nat) : Int) := by
  have h := u32_and_nat a 15 ha (by omega)
  have e : a &&& 15 = a % 16 := Nat.and_two_pow_sub_one_eq_mod a 4
  rw [e] at h
  exact h
theorem div2 (n : Nat) : (n : Int) / 2 = ((n / 2 : Nat) : Int) := by omega
theorem div16 (n : Nat) : (n : Int) / 16 = ((n / 16 : Nat) : Int) := by omega
theorem step_at (n : Nat) (hn : n < 4294967296) (w : World) : Calls Try.prog 93 #[.int .u32 n] w fun e w' => e = .returned (.int .u32 (Crc.step n)) ∧ w = w' := by
  have h1 := and1 n hn
  have hA0 : bits .and .u32 2197175160 0 = 0 := u32_and_nat 2197175160 0 (by omega) (by omega)
  have hA1 : bits .and .u32 2197175160 4294967295 = 2197175160 := u32_and_nat 2197175160 4294967295 (by omega) (by omega)
  have hX0 : bits .xor .u32 ((n : Int) / 2) 0 = ((n / 2 : Nat) : Int) := by
    rw [div2]
    have := xor32 (n / 2) 0 (by omega) (by omega)
    rwa [Nat.xor_zero] at this
  have hX1 : bits .xor .u32 ((n : Int) / 2) 2197175160 = ((n / 2 ^^^ Crc.poly : Nat) : Int) := by
    rw [div2]
    exact xor32 (n / 2) 2197175160 (by omega) (by omega)
  rcases Nat.mod_two_eq_zero_or_one n with h | h
  · rw [h] at h1
    have hs : Crc.step n = n / 2 := by unfold Crc.step; rw [if_neg (by omega)]
    rw [hs]
    clear hs h
    go_enter Try.func93, Try.ntmps93
    go_wp2
    go_ret
    exact ⟨rfl, rfl⟩
  · rw [h] at h1
    have hs : Crc.step n = n / 2 ^^^ Crc.poly := by unfold Crc.step; rw [if_pos h]
    rw [hs]
    clear hs h
    go_enter Try.func93, Try.ntmps93
    go_wp2
    go_ret
    exact ⟨rfl, rfl⟩
theorem made_at (n : Nat) (hn : n < 4294967296) (w : World) : Calls Try.prog 92 #[.int .u32 n] w fun e w' => e = .returned (.int .u32 (Crc.steps 4 n)) ∧ w = w' := by
  go_enter Try.func92, Try.ntmps92
  go_wp2
  go_loopw [0, 3] (fun a i wr => ∃ k : Nat, i = .int .i64 k ∧ k ≤ 4 ∧ a = .int .u32 (Crc.steps k n) ∧ w = wr)
    (fun _ i _ => 4 - (intOf i).toNat)
  case atStart => exact ⟨0, rfl, by omega, rfl, rfl⟩
  case round =>
    obtain ⟨k, rfl, hk, rfl, rfl⟩ := hrel
    by_cases hlt : k < 4
    · have hs := step_at (Crc.steps k n) (Crc.steps_lt k n hn)
      have hS := Aside0.mk hs
      clear hs
      go_wp2_with (go_at_call 93; refine (hS.out _).mono ?_; rintro e w' ⟨rfl, rfl⟩)
      go_roundw
      case rel => exact ⟨k + 1, by go_num, hlt, by rw [Crc.steps_succ], trivial⟩
      case measure => simp [intOf]; omega
    · obtain rfl : k = 4 := by omega
      go_wp2
      go_ret
      exact ⟨rfl, rfl⟩
attribute [local irreducible] Crc.steps Crc.step
/-- the table's cells, the first k of them written -/
def tabCells (k : Nat) : Array Value := ((List.range 16).map fun j => Value.int .u32 (if j < k then (Crc.steps 4 j : Int) else 0)).toArray
theorem tab_get (k j : Nat) (h : j < 16) : (tabCells k)[j]? = some (.int .u32 (if j < k then (Crc.steps 4 j : Int) else 0)) := by
  unfold tabCells
  simp [h]
theorem tab_size (k : Nat) : (tabCells k).size = 16 := by simp [tabCells]
theorem tab_set (k : Nat) (_h : k < 16) : (tabCells k).setIfInBounds k (.int .u32 (Crc.steps 4 k)) = tabCells (k + 1) := by
  apply Array.ext_getElem?
  intro j
  rw [Array.getElem?_setIfInBounds]
  by_cases hj : j < 16
  · rw [tab_get k j hj, tab_get (k + 1) j hj, tab_size]
    by_cases e : k = j
    · subst e; simp [hj]
    · rw [if_neg e]
      by_cases h1 : j < k
      · rw [if_pos h1, if_pos (by omega)]
      · rw [if_neg h1, if_neg (by omega)]
  · by_cases e : k = j
    · omega
    rw [if_neg e]
    have h0 : (tabCells k)[j]? = none := Array.getElem?_eq_none (by rw [tab_size]; omega)
    have h1 : (tabCells (k + 1))[j]? = none := Array.getElem?_eq_none (by rw [tab_size]; omega)
    rw [h0, h1]
theorem tab_one (k : Nat) : (tabCells k).all (·.oneCell') = true := by
  rw [Array.all_eq_true_iff_forall_mem]
  intro v hv
  simp only [tabCells, List.mem_toArray, List.mem_map] at hv
  obtain ⟨j, _, rfl⟩ := hv
  rfl
theorem tab_info (k : Nat) : (Try.prog.info? 133).map (·.size) = some (tabCells k).size := by rw [tab_size]; kernel_rfl
theorem table_at (w : World) : Calls Try.prog 91 #[] w fun e w' => e = .returned (.agg (tabCells 16)) ∧ Below w.heap.size w w' := by
  go_enter Try.func91, Try.ntmps91
  go_wp2_with ((with_reducible refine gate_dst (N := 0) rfl ?_); refine box_event ?hg (N := 0) ?hd (cs := tabCells 0) (t := 133) ?hr ?_; (case hd => rfl); (case hg => rfl); (case hr => first | (go_simp; done) | (go_simp; rfl)); intro g hg w1 hb1 hB1; have G := Aside0.mk hg; have K1 := Aside0.mk hb1; have B1 := Aside0.mk hB1; clear hg hb1 hB1)
  have L0 : w.heap.size ≤ g := by rw [G.out]; exact Nat.le_refl _
  go_loopw [3] (fun i wr => ∃ k : Nat, i = .int .i64 k ∧ k ≤ 16 ∧ Aside0 (wr.heap[g]? = some (.cells (tabCells k) 133 (0, 0))) ∧ Aside0 (Below w.heap.size w wr))
    (fun i _ => 16 - (intOf i).toNat)
  case atStart => exact ⟨0, rfl, by omega, K1, B1⟩
  case round =>
    obtain ⟨k, rfl, hk, RK, RB⟩ := hrel
    by_cases hlt : k < 16
    · have hw : IntKind.u32.wrap (k : Int) = (k : Int) := by rw [IntKind.wrap_u32']; omega
      have hc : wr.cell? ⟨g, k, none⟩ = some (.int .u32 0) := (blk_cell RK.out k).trans (by rw [tab_get k k hlt, if_neg (by omega)])
      have hf : wr.frozen? ⟨g, k, none⟩ = false := blk_frozen RK.out k
      have hm := Aside0.mk (made_at k (by omega))
      go_wp2_with (go_at_call 92; refine (hm.out _).mono ?_; rintro e w' ⟨rfl, rfl⟩)
      refine ⟨⟨k + 1, by go_num, by omega, ⟨by rw [← tab_set k hlt]; exact blk_put RK.out k _ rfl⟩, ⟨below_set RB.out L0⟩⟩, by simp [intOf]; omega⟩
    · obtain rfl : k = 16 := by omega
      clear hlt hk K1 B1 G
      go_wp2_with (first
        | (refine wpList_load_row rfl 133 (.tmp 0) rfl g rfl 133 (tabCells 16) (0, 0) (.array 16 115) RK.out Try.underlying133 rfl (tab_info 16) ?_)
        | ((with_reducible refine gate_store (t := 133) (p := 0) rfl ?_); go_loud (refine wpList_store_row rfl 133 (.tmp 0) (.tmp 13) rfl g (tabCells 16) rfl rfl 133 (tabCells 16) RK.out (tab_info 16) rfl (tab_one 16) ?_); have hK := setRow_heap wr g (tabCells 16) (tabCells 16) 133 (0, 0) RK.out; have hB := Aside0.mk (below_setRow RB.out L0 (tabCells 16)); generalize wr.setRow g (tabCells 16) = w9 at hK hB ⊢))
      refine bodyPost_ret (v := .agg (tabCells 16)) (results_cell_row (fn := Try.f91) (p := 0) (ty := 133) (by kernel_rfl) _ _ g 133 (tabCells 16) (0, 0) (.array 16 115) rfl hK Try.underlying133 rfl (tab_info 16)) rfl ?_
      exact ⟨rfl, hB.out⟩

/-! ### the sum -/
def guard_Sum.f (a0 : ByteArray) : Option Int := if a0.size ≤ 9223372036854775807 then some (Crc.sum a0.data.toList : Int) else none
theorem tab_at (n : Nat) (hn : n < 16) : (tabCells 16)[n]? = some (.int .u32 (Crc.steps 4 n : Int)) := by rw [tab_get 16 n hn, if_pos hn]
set_option maxHeartbeats 1000000 in
theorem guard_Sum.calls (a0 : ByteArray) (r : Int) (w : World) (h : guard_Sum.f a0 = some r) :
    Calls Try.prog 83 #[.string a0] w fun e w' => e = .returned (.int .u32 r) ∧ Below w.heap.size w w' := by
  unfold guard_Sum.f at h
  by_cases hs : a0.size ≤ 9223372036854775807
  · rw [if_pos hs] at h
    have hr := Aside0.mk (Option.some.inj h)
    clear h
    have kb := fun W => print_bytes (P := Try.prog) 9 48 5 Try.underlying9 Try.underlying48 Try.underlying5 a0 W
    have HT := Aside0.mk table_at
    go_enter Try.func83, Try.ntmps83
    go_wp2_with (first
      | (go_at_call 91; refine (HT.out _).mono ?_; rintro e w1 ⟨rfl, hb⟩; have HB1 := Aside0.mk hb; clear hb)
      | ((with_reducible refine gate_dst (N := 3) rfl ?_); refine box_event ?hg (N := 3) ?hd (cs := (List.replicate 16 (Value.int .u32 0)).toArray) (t := 133) ?hr ?_; (case hd => rfl); (case hg => rfl); (case hr => first | (go_simp; done) | (go_simp; rfl)); intro g hg w2 hb1 hB1; have G := Aside0.mk hg; have K1 := Aside0.mk hb1; have B2 := Aside0.mk hB1; clear hg hb1 hB1)
      | (refine wpList_store_row rfl 133 (.tmp 3) (.tmp 7) rfl g (tabCells 16) rfl rfl 133 (List.replicate 16 (Value.int .u32 0)).toArray K1.out (tab_info 16) (by rw [tab_size]; rfl) (tab_one 16) ?_; have L0 : w.heap.size ≤ g := (by rw [G.out]; exact HB1.out.size); have hK := Aside0.mk (setRow_heap w2 g _ (tabCells 16) 133 (0, 0) K1.out); have hB := Aside0.mk (below_setRow (below_step HB1.out B2.out) L0 (tabCells 16)); generalize w2.setRow g (tabCells 16) = w3 at hK hB ⊢))
    have hge : w3.heap.size ≤ (Lib.bytesWorld w3 5 a0).heap.size := by rw [Lib.bytesWorld_size]; omega
    have hR := Aside0.mk (bytes_reads w3 5 a0 hs)
    have hK4 : Aside0 ((Lib.bytesWorld w3 5 a0).heap[g]? = some (.cells (tabCells 16) 133 (0, 0))) := ⟨(Lib.bytesWorld_at_old w3 5 a0 g (blk_lt hK.out)).trans hK.out⟩
    have hB4 := Aside0.mk (bytes_below hB.out hB.out.size 5 a0)
    obtain ⟨gb, hgb⟩ : ∃ gb, gb = w3.heap.size := ⟨_, rfl⟩
    rw [← hgb] at hR ⊢
    obtain ⟨cap, hcap⟩ : ∃ cap, cap = grownCap w3 a0.size 0 5 := ⟨_, rfl⟩
    rw [← hcap]
    generalize Lib.bytesWorld w3 5 a0 = w4 at hR hK4 hB4 hge ⊢
    have hl : a0.data.toList.length = a0.size := data_length a0
    obtain ⟨l, hll⟩ : ∃ l, l = a0.data.toList := ⟨_, rfl⟩
    have hcell : ∀ k (hk : k < l.length), w4.cell? ⟨gb, k, none⟩ = some (.int .u8 ((l[k]).toNat : Int)) := by
      intro k hk
      obtain ⟨ad, e, hc⟩ := hR.out.2.2 (by rw [← hl, ← hll]; omega)
      have := hc k (by rw [← hl, ← hll]; omega)
      injection e with e
      subst e
      rw [add_plain] at this
      rw [this]
      subst hll
      simp [bytesOf, List.getD_eq_getElem?_getD, List.getElem?_eq_getElem hk]
    rw [← hll] at hr hl
    have hsz : (a0.size : Int) = (l.length : Int) := by rw [hl]
    clear hR hK hB hgb hcap hge K1 B2 G kb HB1 hll
    rw [hsz, ← hl]
    have HCELL := Aside0.mk hcell
    clear hcell
    rw [← hl] at hs
    clear hsz hl
    go_loopw [4, 11] (fun n i wr => ∃ k m : Nat, i = .int .i64 k ∧ n = .int .u32 m ∧ Aside0 (k ≤ l.length) ∧ Aside0 (m < 4294967296) ∧ Aside0 (Crc.run (l.drop k) m ^^^ 4294967295 = Crc.sum l) ∧ w4 = wr)
      (fun _ i _ => l.length - (intOf i).toNat)
    case atStart => exact ⟨0, 4294967295, rfl, rfl, ⟨Nat.zero_le _⟩, ⟨by decide⟩, ⟨by rw [List.drop_zero]; rfl⟩, rfl⟩
    case round =>
      obtain ⟨k, m, rfl, rfl, hk, hm, hinv, rfl⟩ := hrel
      by_cases hlt : k < l.length
      · have hc := HCELL.out k hlt
        obtain ⟨c, hcc⟩ : ∃ c, c = (l[k]).toNat := ⟨_, rfl⟩
        have hcb : c < 256 := by rw [hcc]; exact (l[k]).toNat_lt
        have hinv' : Aside0 (Crc.run (l.drop (k + 1)) (Crc.feed m c) ^^^ 4294967295 = Crc.sum l) := ⟨by
          have h := hinv.out
          rw [List.drop_eq_getElem_cons hlt] at h
          rw [hcc]
          exact h⟩
        rw [← hcc] at hc
        clear hinv hcc
        obtain ⟨m1, hm1⟩ : ∃ m1, m1 = m ^^^ c := ⟨_, rfl⟩
        have b1 : m1 < 4294967296 := by rw [hm1]; exact Nat.xor_lt_two_pow (n := 32) hm.out (by omega)
        have hX : bits .xor .u32 (m : Int) (c : Int) = (m1 : Int) := by rw [hm1]; exact xor32 m c hm.out (by omega)
        obtain ⟨q1, hq1⟩ : ∃ q1, q1 = m1 % 16 := ⟨_, rfl⟩
        have hA1 : bits .and .u32 (m1 : Int) 15 = (q1 : Int) := by rw [hq1]; exact and15 m1 b1
        have c1 : q1 < 16 := by omega
        obtain ⟨m2, hm2⟩ : ∃ m2, m2 = Crc.steps 4 m1 := ⟨_, rfl⟩
        have b2 : m2 < 4294967296 := by rw [hm2]; exact Crc.steps_lt 4 m1 b1
        have b1' : Crc.steps 4 q1 < 4294967296 := Crc.steps_lt 4 q1 (by omega)
        have hX1 : bits .xor .u32 ((m1 : Int) / 16) (Crc.steps 4 q1 : Int) = (m2 : Int) := by
          rw [div16, xor32 _ _ (by omega) b1', hq1, Crc.half, hm2]
        obtain ⟨q2, hq2⟩ : ∃ q2, q2 = m2 % 16 := ⟨_, rfl⟩
        have hA2 : bits .and .u32 (m2 : Int) 15 = (q2 : Int) := by rw [hq2]; exact and15 m2 b2
        have c2 : q2 < 16 := by omega
        obtain ⟨m3, hm3⟩ : ∃ m3, m3 = Crc.steps 4 m2 := ⟨_, rfl⟩
        have b3 : m3 < 4294967296 := by rw [hm3]; exact Crc.steps_lt 4 m2 b2
        have b2' : Crc.steps 4 q2 < 4294967296 := Crc.steps_lt 4 q2 (by omega)
        have hX2 : bits .xor .u32 ((m2 : Int) / 16) (Crc.steps 4 q2 : Int) = (m3 : Int) := by
          rw [div16, xor32 _ _ (by omega) b2', hq2, Crc.half, hm3]
        have hf : Crc.feed m c = m3 := by rw [Crc.feed_half, hm3, hm2, hm1]
        rw [hf] at hinv'
        have hc1 : w4.cell? ⟨g, q1, none⟩ = some (.int .u32 (Crc.steps 4 q1 : Int)) := (blk_cell hK4.out q1).trans (tab_at q1 c1)
        have hc2 : w4.cell? ⟨g, q2, none⟩ = some (.int .u32 (Crc.steps 4 q2 : Int)) := (blk_cell hK4.out q2).trans (tab_at q2 c2)
        have B3 := Aside0.mk b3
        have d1 : (q1 : Int) < 16 := by omega
        have d2 : (q2 : Int) < 16 := by omega
        have wc : IntKind.u32.wrap (c : Int) = (c : Int) := by rw [IntKind.wrap_u32']; omega
        clear hf hm3 hm2 hm1 hq1 hq2 b1 b2 b3 b1' b2'
        go_wp2
        refine ⟨⟨k + 1, m3, by go_num, rfl, ⟨hlt⟩, B3, hinv', trivial⟩, by simp [intOf]; omega⟩
      · obtain rfl : k = l.length := by have := hk.out; omega
        have hfin : (Crc.sum l : Int) = ((m ^^^ 4294967295 : Nat) : Int) := by
          have h := hinv.out
          rw [List.drop_length] at h
          rw [← h]
          rfl
        have hX : bits .xor .u32 IntKind.u32.max (m : Int) = r := by
          rw [show IntKind.u32.max = 4294967295 by decide]
          rw [← hr.out, hfin, Nat.xor_comm]
          exact xor32 4294967295 m (by omega) hm.out
        clear hfin hinv hr
        have hns : ¬ IntKind.u32.signed = true := by decide
        go_wp2
        go_ret
        exact ⟨rfl, hB4.out⟩
  · rw [if_neg hs] at h; cases h
end Go.Proofs.YtondgoabnmgcaaaG.B
end
section
namespace Go.Proofs.YtondgoabnmgcaaaG.B
open Go.RowKit Go.Proofs.YtondgoabnmgcaaaW.PrintWords Go.Proofs.YtondgoabnmgcaaaW.PrintLast Go.Proofs.YtondgoabnmgcaaaW.PrintMore
attribute [local go_sem] max2_int min2_int max_two min_two max_three min_three max_four min_four   -- for this text's walks alone
set_option linter.unusedVariables false
set_option linter.unusedSimpArgs false

-- NOT PRINTED: function 18 (guard_table)

/-! ### guard_Seal: function 14 -/
def guard_Seal.f (a0 : ByteArray) : Option (ByteArray) := (guard_Sum.f a0).bind fun t102 => ((some (([(t102) % 256, (t102 / 256) % 256, (t102 / 65536) % 256, (t102 / 16777216) % 256] : List Int) : List Int)).bind fun y103 => (if a0.size + (strOfNums y103).size ≤ 9223372036854775807 then (some (a0 ++ (strOfNums y103))) else (none)))
set_option maxHeartbeats 8000000 in
set_option maxRecDepth 100000 in
theorem guard_Seal.calls (a0 : ByteArray) (r : ByteArray) (w : World) (h : guard_Seal.f a0 = some r) :
    Calls Try.prog 53 #[.string a0] w fun e w' => e = .returned (.string r) ∧ Below w.heap.size w w' := by
  have HB := Aside0.mk (Below.refl w.heap.size w)
  have H : ((guard_Sum.f a0).bind fun t102 => ((some (([(t102) % 256, (t102 / 256) % 256, (t102 / 65536) % 256, (t102 / 16777216) % 256] : List Int) : List Int)).bind fun y103 => (if a0.size + (strOfNums y103).size ≤ 9223372036854775807 then (some (a0 ++ (strOfNums y103))) else (none)))) = some r := h
  clear h
  replace H := Option.bind_eq_some_iff.mp H
  obtain ⟨t102, A20, H⟩ := H
  replace H : ((some (([(t102) % 256, (t102 / 256) % 256, (t102 / 65536) % 256, (t102 / 16777216) % 256] : List Int) : List Int)).bind fun y103 => (if a0.size + (strOfNums y103).size ≤ 9223372036854775807 then (some (a0 ++ (strOfNums y103))) else (none))) = some r := H
  have A2 := Aside0.mk A20
  clear A20
  obtain ⟨y103, hy103⟩ : ∃ y_ : List Int, y_ = (([(t102) % 256, (t102 / 256) % 256, (t102 / 65536) % 256, (t102 / 16777216) % 256] : List Int)) := ⟨_, rfl⟩
  replace H : (if a0.size + (strOfNums y103).size ≤ 9223372036854775807 then (some (a0 ++ (strOfNums y103))) else (none)) = some r := by first | (rw [hy103]; with_reducible exact H) | (have H2_ := (Option.bind_some _ _).symm.trans H; rw [hy103]; with_reducible exact H2_) | (have H2_ := (Option.bind_some _ _).symm.trans H; with_reducible exact H2_) | with_reducible exact H | (rw [hy103]; exact H) | exact H
  have Ny103 := Aside0.mk hy103
  clear hy103
  by_cases c3 : a0.size + (strOfNums y103).size ≤ 9223372036854775807
  · rw [if_pos c3] at H
    have c3b0 := eq_true c3
    have c3b1 : decide (a0.size + (strOfNums y103).size ≤ 9223372036854775807) = true := decide_eq_true c3
    try have c3b2 : (9223372036854775807 < a0.size + (strOfNums y103).size) = False := eq_false (Nat.not_lt.2 c3)
    obtain rfl := Option.some.inj H
    go_enter Try.func53, Try.ntmps53
    go_wp2_with (first | ((with_reducible refine gate_callee (f := 83) rfl ?_); refine goesL_ (some 5) rfl rfl Try.func83 (by kernel_rfl) rfl #[.string a0] rfl (by (try simp only [List.map_toArray, List.map_cons, List.map_nil]); first | done | rfl | (simp only [List.length_drop, List.length_take]; rfl)) ?_; (with_reducible refine (guard_Sum.calls a0 t102 _ A2.out).mono ?_); rintro e w4 ⟨rfl, hb⟩; refine ⟨_, rfl, ?_⟩; have n0_ := Aside0.mk (below_step (by repeat (first | (with_reducible first | exact HB.out | apply below_alloc | apply pw_below_drewN | apply below_drew1) | exact HB.out)) hb); clear HB; have HB := n0_; clear n0_; (try clear hb); (try clear hb2); (try clear hk); (try clear hi)) | ((with_reducible refine gate_dst (N := 18) rfl ?_); refine Kd.R_lit (Kd.int .u8) _ 5 ?hg (N := 18) ?hd (xs := ([(t102) % 256, (t102 / 256) % 256, (t102 / 65536) % 256, (t102 / 16777216) % 256] : List Int)) (inner := [.int .u8 ((t102) % 256), .int .u8 ((t102 / 256) % 256), .int .u8 ((t102 / 65536) % 256), .int .u8 ((t102 / 16777216) % 256)]) (ok := fun _ => True) (okp := fun _ => True) ?hr ?hp (fun _ hk => hk) trivial (Below.refl _ _) (Nat.le_refl _) (by simp) ?_; (case hd => rfl); (case hg => rfl); (case hr => first | (go_simp; done) | (go_simp; rfl)); (case hp => exact (Reps.one (show Kd.M (Kd.int .u8) _ _ _ ((t102) % 256) [.int .u8 ((t102) % 256)] from rfl) (Reps.one (show Kd.M (Kd.int .u8) _ _ _ ((t102 / 256) % 256) [.int .u8 ((t102 / 256) % 256)] from rfl) (Reps.one (show Kd.M (Kd.int .u8) _ _ _ ((t102 / 65536) % 256) [.int .u8 ((t102 / 65536) % 256)] from rfl) (Reps.one (show Kd.M (Kd.int .u8) _ _ _ ((t102 / 16777216) % 256) [.int .u8 ((t102 / 16777216) % 256)] from rfl) (Reps.none _ _)))))); intro v104 w5 ho6 hb hg_ hnew_; clear hg_ hnew_; (first | rw [← Ny103.out] at ho6 | (simp only [Int.reduceToNat] at ho6; rw [← Ny103.out] at ho6)); have n0_ := Aside0.mk (Kd.R_lower ho6 (below_size (by repeat (first | (with_reducible first | exact HB.out | apply below_alloc | apply pw_below_drewN | apply below_drew1) | exact HB.out)))); have n1_ := Aside0.mk (below_step (by repeat (first | (with_reducible first | exact HB.out | apply below_alloc | apply pw_below_drewN | apply below_drew1) | exact HB.out)) hb); clear HB; have HO105 := n0_; have HB := n1_; clear n0_ n1_; clear hb ho6; have hcv7 := own_string (P := Try.prog) Try.underlying48 Try.underlying5 Try.underlying9 (Kd.own_of_R HO105.out)))
    go_ret
    exact ⟨by first | rfl | (simp [errW_none, errW_some] <;> rfl) | (simp [*, errW_none, errW_some] <;> rfl), by repeat (first | (with_reducible first | exact HB.out | apply below_alloc | apply pw_below_drewN | apply below_drew1) | exact HB.out)⟩
  · rw [if_neg c3] at H
    exact absurd H (by simp)

/-! ### guard_Open: function 11 -/
def guard_Open.f (a0 : ByteArray) : Option (ByteArray × Int) := if (wrap64 ((a0.size : Int) - 4)) < 0 then (some ((⟨#[]⟩ : ByteArray), 10)) else (if 0 ≤ (wrap64 ((a0.size : Int) - 4)) then (if (wrap64 ((a0.size : Int) - 4)) ≤ (a0.size : Int) then ((guard_Seal.f (a0.extract 0 ((wrap64 ((a0.size : Int) - 4)) : Int).toNat)).bind fun t106 => (if t106.toList = a0.toList then (some (a0.extract 0 ((wrap64 ((a0.size : Int) - 4)) : Int).toNat, 0)) else (some ((⟨#[]⟩ : ByteArray), 20)))) else (none)) else (none))
set_option maxHeartbeats 8000000 in
set_option maxRecDepth 100000 in
theorem guard_Open.calls (a0 : ByteArray) (r1 : ByteArray) (r2 : Int) (w : World) (h : guard_Open.f a0 = some (r1, r2)) :
    Calls Try.prog 26 #[.string a0] w fun e w' => e = .returned (.tuple #[.string r1, .int .i64 r2]) ∧ Below w.heap.size w w' := by
  have HB := Aside0.mk (Below.refl w.heap.size w)
  have H : (if (wrap64 ((a0.size : Int) - 4)) < 0 then (some ((⟨#[]⟩ : ByteArray), 10)) else (if 0 ≤ (wrap64 ((a0.size : Int) - 4)) then (if (wrap64 ((a0.size : Int) - 4)) ≤ (a0.size : Int) then ((guard_Seal.f (a0.extract 0 ((wrap64 ((a0.size : Int) - 4)) : Int).toNat)).bind fun t106 => (if t106.toList = a0.toList then (some (a0.extract 0 ((wrap64 ((a0.size : Int) - 4)) : Int).toNat, 0)) else (some ((⟨#[]⟩ : ByteArray), 20)))) else (none)) else (none))) = some (r1, r2) := h
  clear h
  by_cases c2 : (wrap64 ((a0.size : Int) - 4)) < 0
  · rw [if_pos c2] at H
    have c2b0 : decide ((wrap64 ((a0.size : Int) - 4)) < 0) = true := decide_eq_true c2
    clear c2
    simp only [Option.some.injEq, Prod.mk.injEq] at H
    obtain ⟨rfl, rfl⟩ := H
    go_enter Try.func26, Try.ntmps26
    go_wp2
    go_ret2
    exact ⟨by first | rfl | (simp [errW_none, errW_some] <;> rfl) | (simp [*, errW_none, errW_some] <;> rfl), by repeat (first | (with_reducible first | exact HB.out | apply below_alloc | apply pw_below_drewN | apply below_drew1) | exact HB.out)⟩
  · rw [if_neg c2] at H
    have c2b0 : decide ((wrap64 ((a0.size : Int) - 4)) < 0) = false := decide_eq_false c2
    clear c2
    obtain ⟨ji3, hji3⟩ : ∃ j_ : Int, (wrap64 ((a0.size : Int) - 4)) = j_ := ⟨_, rfl⟩
    replace H : (if 0 ≤ (ji3) then (if (ji3) ≤ (a0.size : Int) then ((guard_Seal.f (a0.extract 0 ((ji3) : Int).toNat)).bind fun t106 => (if t106.toList = a0.toList then (some (a0.extract 0 ((ji3) : Int).toNat, 0)) else (some ((⟨#[]⟩ : ByteArray), 20)))) else (none)) else (none)) = some (r1, r2) := by first | (rw [hji3] at H; exact H) | (simp only [hji3] at H ⊢; exact H)
    (try rw [hji3] at c2b0)
    have hji3w : (IntKind.i64.wrap ((a0.size : Int) - 4)) = ji3 := (i64_w _).trans hji3
    by_cases c4 : 0 ≤ (ji3)
    · rw [if_pos c4] at H
      have c4b0 := eq_true c4
      have c4b1 : decide (0 ≤ (ji3)) = true := decide_eq_true c4
      clear c4
      by_cases c5 : (ji3) ≤ (a0.size : Int)
      · rw [if_pos c5] at H
        have c5b0 := eq_true c5
        have c5b1 : decide ((ji3) ≤ (a0.size : Int)) = true := decide_eq_true c5
        clear c5
        replace H := Option.bind_eq_some_iff.mp H
        obtain ⟨t106, A60, H⟩ := H
        replace H : (if t106.toList = a0.toList then (some (a0.extract 0 ((ji3) : Int).toNat, 0)) else (some ((⟨#[]⟩ : ByteArray), 20))) = some (r1, r2) := H
        have A6 := Aside0.mk A60
        clear A60
        by_cases c7 : t106.toList = a0.toList
        · rw [if_pos c7] at H
          have c7b0 : (t106.toList == a0.toList) = true := beq_iff_eq.mpr c7
          have c7b1 : (t106.toList != a0.toList) = false := bne_eq_false_iff_eq.mpr c7
          clear c7
          have c8b0 := eq_true (of_decide_eq_true (by first | (with_reducible assumption) | assumption) : 0 ≤ (ji3))
          have c9b0 := eq_true (of_decide_eq_true (by first | (with_reducible assumption) | assumption) : (ji3) ≤ (a0.size : Int))
          simp only [Option.some.injEq, Prod.mk.injEq] at H
          obtain ⟨rfl, rfl⟩ := H
          go_enter Try.func26, Try.ntmps26
          go_wp2_with (first | ((with_reducible refine gate_callee (f := 53) rfl ?_); refine goesL_ (some 15) rfl rfl Try.func53 (by kernel_rfl) rfl #[.string (a0.extract 0 ((ji3) : Int).toNat)] rfl (by (try simp only [List.map_toArray, List.map_cons, List.map_nil]); first | done | (simp only [hji3]; rfl) | rfl | (simp only [List.length_drop, List.length_take]; rfl)) ?_; (with_reducible refine (guard_Seal.calls (a0.extract 0 ((ji3) : Int).toNat) t106 _ A6.out).mono ?_); rintro e w10 ⟨rfl, hb⟩; refine ⟨_, rfl, ?_⟩; have n0_ := Aside0.mk (below_step (by repeat (first | (with_reducible first | exact HB.out | apply below_alloc | apply pw_below_drewN | apply below_drew1) | exact HB.out)) hb); clear HB; have HB := n0_; clear n0_; (try clear hb); (try clear hb2); (try clear hk); (try clear hi)))
          go_ret2
          exact ⟨by first | rfl | (simp [errW_none, errW_some] <;> rfl) | (simp only [← hji3]; first | rfl | (simp [errW_none, errW_some] <;> rfl)) | (simp [*, errW_none, errW_some] <;> rfl), by repeat (first | (with_reducible first | exact HB.out | apply below_alloc | apply pw_below_drewN | apply below_drew1) | exact HB.out)⟩
        · rw [if_neg c7] at H
          have c7b0 : (t106.toList == a0.toList) = false := beq_eq_false_iff_ne.mpr c7
          have c7b1 : (t106.toList != a0.toList) = true := bne_iff_ne.mpr c7
          simp only [Option.some.injEq, Prod.mk.injEq] at H
          obtain ⟨rfl, rfl⟩ := H
          go_enter Try.func26, Try.ntmps26
          go_wp2_with (first | ((with_reducible refine gate_callee (f := 53) rfl ?_); refine goesL_ (some 15) rfl rfl Try.func53 (by kernel_rfl) rfl #[.string (a0.extract 0 ((ji3) : Int).toNat)] rfl (by (try simp only [List.map_toArray, List.map_cons, List.map_nil]); first | done | (simp only [hji3]; rfl) | rfl | (simp only [List.length_drop, List.length_take]; rfl)) ?_; (with_reducible refine (guard_Seal.calls (a0.extract 0 ((ji3) : Int).toNat) t106 _ A6.out).mono ?_); rintro e w11 ⟨rfl, hb⟩; refine ⟨_, rfl, ?_⟩; have n0_ := Aside0.mk (below_step (by repeat (first | (with_reducible first | exact HB.out | apply below_alloc | apply pw_below_drewN | apply below_drew1) | exact HB.out)) hb); clear HB; have HB := n0_; clear n0_; (try clear hb); (try clear hb2); (try clear hk); (try clear hi)))
          go_ret2
          exact ⟨by first | rfl | (simp [errW_none, errW_some] <;> rfl) | (simp only [← hji3]; first | rfl | (simp [errW_none, errW_some] <;> rfl)) | (simp [*, errW_none, errW_some] <;> rfl), by repeat (first | (with_reducible first | exact HB.out | apply below_alloc | apply pw_below_drewN | apply below_drew1) | exact HB.out)⟩
      · rw [if_neg c5] at H
        exact absurd H (by simp)
    · rw [if_neg c4] at H
      exact absurd H (by simp)

/-! ### conventicleref02_Step: function 20 -/
def conventicleref02_Step.f (a0 : Int) : Option (Int) := if (Go.bits .and .u32 a0 1) = 1 then (some (Go.bits .xor .u32 (a0 / 2) 2197175160)) else (some (a0 / 2))
set_option maxHeartbeats 8000000 in
set_option maxRecDepth 100000 in
theorem conventicleref02_Step.calls (a0 : Int) (r : Int) (w : World) (h : conventicleref02_Step.f a0 = some r) :
    Calls Try.prog 89 #[.int .u32 a0] w fun e w' => e = .returned (.int .u32 r) ∧ Drawn0 w w' := by
  have H : (if (Go.bits .and .u32 a0 1) = 1 then (some (Go.bits .xor .u32 (a0 / 2) 2197175160)) else (some (a0 / 2))) = some r := h
  clear h
  by_cases c2 : (Go.bits .and .u32 a0 1) = 1
  · rw [if_pos c2] at H
    have c2b0 : ((Go.bits .and .u32 a0 1) == 1) = true := beq_iff_eq.mpr c2
    have c2b1 : ((Go.bits .and .u32 a0 1) != 1) = false := bne_eq_false_iff_eq.mpr c2
    clear c2
    obtain rfl := Option.some.inj H
    go_enter Try.func89, Try.ntmps89
    go_wp2
    go_ret
    exact ⟨by first | rfl | (simp; done) | (simp [*]; done), by repeat (first | exact Drawn0.refl _ | apply Drawn0.step)⟩
  · rw [if_neg c2] at H
    have c2b0 : ((Go.bits .and .u32 a0 1) == 1) = false := beq_eq_false_iff_ne.mpr c2
    have c2b1 : ((Go.bits .and .u32 a0 1) != 1) = true := bne_iff_ne.mpr c2
    obtain rfl := Option.some.inj H
    go_enter Try.func89, Try.ntmps89
    go_wp2
    go_ret
    exact ⟨by first | rfl | (simp; done) | (simp [*]; done), by repeat (first | exact Drawn0.refl _ | apply Drawn0.step)⟩

/-! ### conventicleref02_Sum: function 13 -/
mutual
def conventicleref02_Sum.l0 : Nat → ByteArray → Int → Int → Option (Int)
  | 0, _, _, _ => none
  | k + 1, x0, x3, x4 => if x4 < (x0.size : Int) then (if 0 ≤ x4 then (conventicleref02_Sum.l1 k x0 (Go.bits .xor .u32 x3 ((bt x0 x4) % 4294967296)) x4 0) else (none)) else (some (Go.bits .xor .u32 x3 4294967295))
def conventicleref02_Sum.l1 : Nat → ByteArray → Int → Int → Int → Option (Int)
  | 0, _, _, _, _ => none
  | k + 1, x0, x3, x4, x5 => if x5 < 8 then ((conventicleref02_Step.f x3).bind fun t107 => (conventicleref02_Sum.l1 k x0 t107 x4 (wrap64 (x5 + 1)))) else (conventicleref02_Sum.l0 k x0 x3 (wrap64 (x4 + 1)))
end
def conventicleref02_Sum.f (k : Nat) (a0 : ByteArray) : Option (Int) := conventicleref02_Sum.l0 k a0 4294967295 0
theorem conventicleref02_Sum.mono_l : ∀ k, (∀ y0 y1 y2, LeO (conventicleref02_Sum.l0 k y0 y1 y2) (conventicleref02_Sum.l0 (k + 1) y0 y1 y2)) ∧ (∀ y0 y1 y2 y3, LeO (conventicleref02_Sum.l1 k y0 y1 y2 y3) (conventicleref02_Sum.l1 (k + 1) y0 y1 y2 y3))
  | 0 => ⟨fun _ _ _ r h => by simp [conventicleref02_Sum.l0] at h, fun _ _ _ _ r h => by simp [conventicleref02_Sum.l1] at h⟩
  | k + 1 => by
    obtain ⟨ih0, ih1⟩ := conventicleref02_Sum.mono_l k
    refine ⟨?_, ?_⟩
    · intro y0 y1 y2
      unfold conventicleref02_Sum.l0
      repeat' first
      | (with_reducible exact ih0 _ _ _)
      | (with_reducible exact ih1 _ _ _ _)
      | (with_reducible exact LeO.refl _)
      | (with_reducible exact LeO.none _)
      | (with_reducible refine LeO.ite ?_ ?_)
      | (with_reducible refine LeO.bind ?_ (fun _ => ?_))
      | exact ih0 _ _ _
      | exact ih1 _ _ _ _
      | exact LeO.none _
      | refine LeO.ite ?_ ?_
      | refine LeO.bind ?_ (fun _ => ?_)
    · intro y0 y1 y2 y3
      unfold conventicleref02_Sum.l1
      repeat' first
      | (with_reducible exact ih0 _ _ _)
      | (with_reducible exact ih1 _ _ _ _)
      | (with_reducible exact LeO.refl _)
      | (with_reducible exact LeO.none _)
      | (with_reducible refine LeO.ite ?_ ?_)
      | (with_reducible refine LeO.bind ?_ (fun _ => ?_))
      | exact ih0 _ _ _
      | exact ih1 _ _ _ _
      | exact LeO.none _
      | refine LeO.ite ?_ ?_
      | refine LeO.bind ?_ (fun _ => ?_)
theorem conventicleref02_Sum.mono : ∀ a0 k, LeO (conventicleref02_Sum.f k a0) (conventicleref02_Sum.f (k + 1) a0) := by
  intro a0 k
  obtain ⟨ih0, ih1⟩ := conventicleref02_Sum.mono_l k
  unfold conventicleref02_Sum.f
  repeat' first
      | (with_reducible exact ih0 _ _ _)
      | (with_reducible exact ih1 _ _ _ _)
      | (with_reducible exact LeO.refl _)
      | (with_reducible exact LeO.none _)
      | (with_reducible refine LeO.ite ?_ ?_)
      | (with_reducible refine LeO.bind ?_ (fun _ => ?_))
      | exact ih0 _ _ _
      | exact ih1 _ _ _ _
      | exact LeO.none _
      | refine LeO.ite ?_ ?_
      | refine LeO.bind ?_ (fun _ => ?_)
set_option maxHeartbeats 8000000 in
set_option maxRecDepth 100000 in
theorem conventicleref02_Sum.calls (k : Nat) (a0 : ByteArray) (r : Int) (w : World) (h : conventicleref02_Sum.f k a0 = some r) :
    Calls Try.prog 73 #[.string a0] w fun e w' => e = .returned (.int .u32 r) ∧ Drawn0 w w' := by
  have H : (conventicleref02_Sum.l0 k a0 4294967295 0) = some r := h
  clear h
  have H' := Aside0.mk H
  clear H
  go_enter Try.func73, Try.ntmps73
  go_wp2
  go_loopg [3, 4] k (fun kq v3 v4 w' => ∃ (x3_1 : Int) (x4_1 : Int), v3 = .int .u32 x3_1 ∧ v4 = .int .i64 x4_1 ∧ Aside0 (conventicleref02_Sum.l0 kq a0 x3_1 x4_1 = some r) ∧ Aside0 (kq ≤ k) ∧ Drawn0 w w')
  case atStart => exact ⟨(4294967295), (0), (by first | rfl | (simp; done) | (simp [*]; done)), (by first | rfl | (simp; done) | (simp [*]; done)), H', ⟨Nat.le_refl _⟩, by repeat (first | exact Drawn0.refl _ | apply Drawn0.step)⟩
  case round =>
    clear H'
    try clear c1
    obtain ⟨x3_1, x4_1, rfl, rfl, HA, HK1, ⟨m1, rfl⟩⟩ := hrel
    cases gk with
    | zero => exact absurd HA.out (by simp [conventicleref02_Sum.l0])
    | succ k1 =>
      have H := HA.out
      clear HA
      simp only [conventicleref02_Sum.l0] at H
      by_cases c2 : x4_1 < (a0.size : Int)
      · rw [if_pos c2] at H
        have c2b0 : decide (x4_1 < (a0.size : Int)) = true := decide_eq_true c2
        clear c2
        by_cases c3 : 0 ≤ x4_1
        · rw [if_pos c3] at H
          have c3b0 : decide (0 ≤ x4_1) = true := decide_eq_true c3
          clear c3
          have H' := Aside0.mk H
          clear H
          have p4 : 0 ≤ (x4_1 : Int) := of_decide_eq_true (by first | (with_reducible assumption) | assumption)
          have q4 : x4_1 < (a0.size : Int) := of_decide_eq_true (by first | (with_reducible assumption) | assumption)
          have hx4 := bt_at a0 x4_1
          replace p4 := eq_true p4
          replace q4 := eq_true q4
          go_wp2
          go_loopg [3, 5] k1 (fun kq v3 v5 w' => ∃ (x3_2 : Int) (x5_2 : Int), v3 = .int .u32 x3_2 ∧ v5 = .int .i64 x5_2 ∧ Aside0 (conventicleref02_Sum.l1 kq a0 x3_2 x4_1 x5_2 = some r) ∧ Aside0 (kq ≤ k1) ∧ Drawn0 w w')
          case atStart => exact ⟨(Go.bits .xor .u32 x3_1 ((bt a0 x4_1) % 4294967296)), (0), (by first | rfl | (simp; done) | (simp [*]; done)), (by first | rfl | (simp; done) | (simp [*]; done)), H', ⟨Nat.le_refl _⟩, by repeat (first | exact Drawn0.refl _ | apply Drawn0.step)⟩
          case round =>
            clear H'
            try clear c1
            try clear c2
            try clear c2b0
            try clear p2
            try clear c3
            try clear c3b0
            try clear p4
            try clear q4
            try clear hx4
            try clear p4
            try clear q4
            obtain ⟨x3_2, x5_2, rfl, rfl, HA, HK2, ⟨m2, rfl⟩⟩ := hrel
            cases gk with
            | zero => exact absurd HA.out (by simp [conventicleref02_Sum.l1])
            | succ k2 =>
              have H := HA.out
              clear HA
              simp only [conventicleref02_Sum.l1] at H
              by_cases c5 : x5_2 < 8
              · rw [if_pos c5] at H
                have c5b0 : decide (x5_2 < 8) = true := decide_eq_true c5
                clear c5
                replace H := Option.bind_eq_some_iff.mp H
                obtain ⟨t107, A60, H⟩ := H
                replace H : (conventicleref02_Sum.l1 k2 a0 t107 x4_1 (wrap64 (x5_2 + 1))) = some r := H
                have A6 := Aside0.mk A60
                clear A60
                have H' := Aside0.mk H
                clear H
                go_wp2_with (first | ((with_reducible refine gate_callee (f := 89) rfl ?_); refine goesL_ (some 23) rfl rfl Try.func89 (by kernel_rfl) rfl #[.int .u32 x3_2] rfl (by (try simp only [List.map_toArray, List.map_cons, List.map_nil]); first | done | rfl | (simp only [List.length_drop, List.length_take]; rfl)) ?_; (with_reducible refine (conventicleref02_Step.calls x3_2 t107 _ A6.out).mono ?_); rintro e w' ⟨rfl, ⟨nd, rfl⟩⟩; refine ⟨_, rfl, ?_⟩))
                go_roundg k2
                case measure => have := HK1.out; have := HK2.out; omega
                case rel => exact ⟨(t107), (wrap64 (x5_2 + 1)), (by first | rfl | (simp; done) | (simp [*]; done)), (by first | rfl | (simp; done) | (simp [*]; done)), H', ⟨by have := HK1.out; have := HK2.out; omega⟩, by repeat (first | exact Drawn0.refl _ | apply Drawn0.step)⟩
              · rw [if_neg c5] at H
                have c5b0 : decide (x5_2 < 8) = false := decide_eq_false c5
                clear c5
                have H' := Aside0.mk H
                clear H
                go_wp2
                go_roundg k2
                case measure => have := HK1.out; have := HK2.out; omega
                case rel => exact ⟨(x3_2), (wrap64 (x4_1 + 1)), (by first | rfl | (simp; done) | (simp [*]; done)), (by first | rfl | (simp; done) | (simp [*]; done)), H', ⟨by have := HK1.out; have := HK2.out; omega⟩, by repeat (first | exact Drawn0.refl _ | apply Drawn0.step)⟩
        · rw [if_neg c3] at H
          exact absurd H (by simp)
      · rw [if_neg c2] at H
        have c2b0 : decide (x4_1 < (a0.size : Int)) = false := decide_eq_false c2
        clear c2
        obtain rfl := Option.some.inj H
        go_wp2
        go_ret
        exact ⟨by first | rfl | (simp; done) | (simp [*]; done), by repeat (first | exact Drawn0.refl _ | apply Drawn0.step)⟩

/-! ### conventicleref02_four: function 19 -/
def conventicleref02_four.f (a0 : Int) : Option (ByteArray) := some (strOfNums (([(a0) % 256, (a0 / 256) % 256, (a0 / 65536) % 256, (a0 / 16777216) % 256] : List Int)))
set_option maxHeartbeats 8000000 in
set_option maxRecDepth 100000 in
theorem conventicleref02_four.calls (a0 : Int) (r : ByteArray) (w : World) (h : conventicleref02_four.f a0 = some r) :
    Calls Try.prog 72 #[.int .u32 a0] w fun e w' => e = .returned (.string r) ∧ Below w.heap.size w w' := by
  have HB := Aside0.mk (Below.refl w.heap.size w)
  have H : (some (strOfNums (([(a0) % 256, (a0 / 256) % 256, (a0 / 65536) % 256, (a0 / 16777216) % 256] : List Int)))) = some r := h
  clear h
  obtain ⟨y108, hy108⟩ : ∃ y_ : List Int, y_ = (([(a0) % 256, (a0 / 256) % 256, (a0 / 65536) % 256, (a0 / 16777216) % 256] : List Int)) := ⟨_, rfl⟩
  replace H : (some (strOfNums y108)) = some r := by first | (rw [hy108]; with_reducible exact H) | (have H2_ := (Option.bind_some _ _).symm.trans H; rw [hy108]; with_reducible exact H2_) | (have H2_ := (Option.bind_some _ _).symm.trans H; with_reducible exact H2_) | with_reducible exact H | (rw [hy108]; exact H) | exact H
  have Ny108 := Aside0.mk hy108
  clear hy108
  obtain rfl := Option.some.inj H
  go_enter Try.func72, Try.ntmps72
  go_wp2_with (first | ((with_reducible refine gate_dst (N := 14) rfl ?_); refine Kd.R_lit (Kd.int .u8) _ 5 ?hg (N := 14) ?hd (xs := ([(a0) % 256, (a0 / 256) % 256, (a0 / 65536) % 256, (a0 / 16777216) % 256] : List Int)) (inner := [.int .u8 ((a0) % 256), .int .u8 ((a0 / 256) % 256), .int .u8 ((a0 / 65536) % 256), .int .u8 ((a0 / 16777216) % 256)]) (ok := fun _ => True) (okp := fun _ => True) ?hr ?hp (fun _ hk => hk) trivial (Below.refl _ _) (Nat.le_refl _) (by simp) ?_; (case hd => rfl); (case hg => rfl); (case hr => first | (go_simp; done) | (go_simp; rfl)); (case hp => exact (Reps.one (show Kd.M (Kd.int .u8) _ _ _ ((a0) % 256) [.int .u8 ((a0) % 256)] from rfl) (Reps.one (show Kd.M (Kd.int .u8) _ _ _ ((a0 / 256) % 256) [.int .u8 ((a0 / 256) % 256)] from rfl) (Reps.one (show Kd.M (Kd.int .u8) _ _ _ ((a0 / 65536) % 256) [.int .u8 ((a0 / 65536) % 256)] from rfl) (Reps.one (show Kd.M (Kd.int .u8) _ _ _ ((a0 / 16777216) % 256) [.int .u8 ((a0 / 16777216) % 256)] from rfl) (Reps.none _ _)))))); intro v109 w2 ho3 hb hg_ hnew_; clear hg_ hnew_; (first | rw [← Ny108.out] at ho3 | (simp only [Int.reduceToNat] at ho3; rw [← Ny108.out] at ho3)); have n0_ := Aside0.mk (Kd.R_lower ho3 (below_size (by repeat (first | (with_reducible first | exact HB.out | apply below_alloc | apply pw_below_drewN | apply below_drew1) | exact HB.out)))); have n1_ := Aside0.mk (below_step (by repeat (first | (with_reducible first | exact HB.out | apply below_alloc | apply pw_below_drewN | apply below_drew1) | exact HB.out)) hb); clear HB; have HO110 := n0_; have HB := n1_; clear n0_ n1_; clear hb ho3; have hcv4 := own_string (P := Try.prog) Try.underlying48 Try.underlying5 Try.underlying9 (Kd.own_of_R HO110.out)))
  go_ret
  exact ⟨by first | rfl | (simp [errW_none, errW_some] <;> rfl) | (simp [*, errW_none, errW_some] <;> rfl), by repeat (first | (with_reducible first | exact HB.out | apply below_alloc | apply pw_below_drewN | apply below_drew1) | exact HB.out)⟩

def conventicleref02_Open.T4 : Bool × List (List Nat × List Nat) := (true, [([], []), ([], []), ([0, 1], [0, 1]), ([2], [2]), ([3, 3], [3]), ([], []), ([], []), ([5, 6], [5, 6]), ([4, 7], [4, 7])])
def conventicleref02_Open.B4 : List Nat := [0, 0, 3, 7, 15, 0, 0, 96, 255]
/-! ### conventicleref02_Seal: function 15 -/
def conventicleref02_Seal.f (k : Nat) (a0 : ByteArray) : Option (ByteArray) := (conventicleref02_Sum.f k a0).bind fun t113 => ((conventicleref02_four.f t113).bind fun t114 => (if a0.size + t114.size ≤ 9223372036854775807 then (some (a0 ++ t114)) else (none)))
theorem conventicleref02_Seal.mono : ∀ a0 k, LeO (conventicleref02_Seal.f k a0) (conventicleref02_Seal.f (k + 1) a0) := by
  intro a0 k
  unfold conventicleref02_Seal.f
  repeat' first
      | (with_reducible exact conventicleref02_Sum.mono _ _)
      | (with_reducible exact LeO.refl _)
      | (with_reducible exact LeO.none _)
      | (with_reducible refine LeO.ite ?_ ?_)
      | (with_reducible refine LeO.bind ?_ (fun _ => ?_))
      | exact conventicleref02_Sum.mono _ _
      | exact LeO.none _
      | refine LeO.ite ?_ ?_
      | refine LeO.bind ?_ (fun _ => ?_)
set_option maxHeartbeats 8000000 in
set_option maxRecDepth 100000 in
theorem conventicleref02_Seal.calls (k : Nat) (a0 : ByteArray) (r : ByteArray) (w : World) (h : conventicleref02_Seal.f k a0 = some r) :
    Calls Try.prog 22 #[.string a0] w fun e w' => e = .returned (.string r) ∧ Below w.heap.size w w' := by
  have HB := Aside0.mk (Below.refl w.heap.size w)
  have H : ((conventicleref02_Sum.f k a0).bind fun t113 => ((conventicleref02_four.f t113).bind fun t114 => (if a0.size + t114.size ≤ 9223372036854775807 then (some (a0 ++ t114)) else (none)))) = some r := h
  clear h
  replace H := Option.bind_eq_some_iff.mp H
  obtain ⟨t113, A20, H⟩ := H
  replace H : ((conventicleref02_four.f t113).bind fun t114 => (if a0.size + t114.size ≤ 9223372036854775807 then (some (a0 ++ t114)) else (none))) = some r := H
  have A2 := Aside0.mk A20
  clear A20
  replace H := Option.bind_eq_some_iff.mp H
  obtain ⟨t114, A30, H⟩ := H
  replace H : (if a0.size + t114.size ≤ 9223372036854775807 then (some (a0 ++ t114)) else (none)) = some r := H
  have A3 := Aside0.mk A30
  clear A30
  by_cases c4 : a0.size + t114.size ≤ 9223372036854775807
  · rw [if_pos c4] at H
    have c4b0 := eq_true c4
    have c4b1 : decide (a0.size + t114.size ≤ 9223372036854775807) = true := decide_eq_true c4
    try have c4b2 : (9223372036854775807 < a0.size + t114.size) = False := eq_false (Nat.not_lt.2 c4)
    obtain rfl := Option.some.inj H
    go_enter Try.func22, Try.ntmps22
    go_wp2_with (first | ((with_reducible refine gate_callee (f := 73) rfl ?_); refine goesL_ (some 5) rfl rfl Try.func73 (by kernel_rfl) rfl #[.string a0] rfl (by (try simp only [List.map_toArray, List.map_cons, List.map_nil]); first | done | rfl | (simp only [List.length_drop, List.length_take]; rfl)) ?_; (with_reducible refine (conventicleref02_Sum.calls k a0 t113 _ A2.out).mono ?_); rintro e w' ⟨rfl, ⟨nd, rfl⟩⟩; refine ⟨_, rfl, ?_⟩) | ((with_reducible refine gate_callee (f := 72) rfl ?_); refine goesL_ (some 6) rfl rfl Try.func72 (by kernel_rfl) rfl #[.int .u32 t113] rfl (by (try simp only [List.map_toArray, List.map_cons, List.map_nil]); first | done | rfl | (simp only [List.length_drop, List.length_take]; rfl)) ?_; (with_reducible refine (conventicleref02_four.calls t113 t114 _ A3.out).mono ?_); rintro e w5 ⟨rfl, hb⟩; refine ⟨_, rfl, ?_⟩; have n0_ := Aside0.mk (below_step (by repeat (first | (with_reducible first | exact HB.out | apply below_alloc | apply pw_below_drewN | apply below_drew1) | exact HB.out)) hb); clear HB; have HB := n0_; clear n0_; (try clear hb); (try clear hb2); (try clear hk); (try clear hi)))
    go_ret
    exact ⟨by first | rfl | (simp [errW_none, errW_some] <;> rfl) | (simp [*, errW_none, errW_some] <;> rfl), by repeat (first | (with_reducible first | exact HB.out | apply below_alloc | apply pw_below_drewN | apply below_drew1) | exact HB.out)⟩
  · rw [if_neg c4] at H
    exact absurd H (by simp)

end Go.Proofs.YtondgoabnmgcaaaG.B
end
section
/- What guard's functions, and the document's, come to, in plain words. -/
namespace Go.Proofs.YtondgoabnmgcaaaG.Pure
open Go.RowKit Go.Proofs.YtondgoabnmgcaaaG.B Go.Proofs.YtondgoabnmgcaaaW.PrintWords Go.Proofs.YtondgoabnmgcaaaW.PrintLast

theorem wrap_is (a : Int) (h : -9223372036854775808 ≤ a ∧ a < 9223372036854775808) : wrap64 a = a := by unfold wrap64; omega
theorem bt_is (s : ByteArray) (i : Nat) (h : i < s.data.toList.length) : bt s (i : Int) = ((s.data.toList[i]).toNat : Int) := by
  have h' : i < s.size := by rwa [data_length] at h
  unfold bt
  rw [dif_pos (by simpa using h')]
  simp
  rfl
theorem sum_run (s : ByteArray) (h : s.size ≤ 9223372036854775807) : guard_Sum.f s = some (Crc.sum s.data.toList : Int) := by unfold guard_Sum.f; rw [if_pos h]
def four (n : Nat) : ByteArray := strOfNums [(n : Int) % 256, (n : Int) / 256 % 256, (n : Int) / 65536 % 256, (n : Int) / 16777216 % 256]
theorem four_size (n : Nat) : (four n).size = 4 := by unfold four; rw [strOfNums_size]; rfl
theorem seal_run (s : ByteArray) (h : s.size ≤ 9223372036854775803) : guard_Seal.f s = some (s ++ four (Crc.sum s.data.toList)) := by
  unfold guard_Seal.f
  rw [sum_run s (by omega)]
  simp only [Option.bind_some]
  have hf := four_size (Crc.sum s.data.toList)
  unfold four at hf
  rw [if_pos (by rw [hf]; omega)]
  rfl
theorem cut_size (s : ByteArray) (n : Nat) (h : n ≤ s.size) : (s.extract 0 n).size = n := by rw [ByteArray.size_extract]; omega
theorem cut_list (s : ByteArray) (n : Nat) : (s.extract 0 n).data.toList = s.data.toList.take n := by
  rw [ByteArray.data_extract, Array.toList_extract]
  simp
theorem open_run (s : ByteArray) (h : s.size ≤ 9223372036854775803) : guard_Open.f s = some (if s.size < 4 then ((⟨#[]⟩ : ByteArray), 10) else if s.extract 0 (s.size - 4) ++ four (Crc.sum (s.extract 0 (s.size - 4)).data.toList) = s then (s.extract 0 (s.size - 4), 0) else ((⟨#[]⟩ : ByteArray), 20)) := by
  unfold guard_Open.f
  by_cases h4 : s.size < 4
  · rw [wrap_is _ (by omega), if_pos (by omega), if_pos h4]
  · rw [wrap_is _ (by omega), if_neg (by omega), if_pos (by omega), if_pos (by omega), if_neg h4]
    have e : ((s.size : Int) - 4).toNat = s.size - 4 := by omega
    rw [e, seal_run _ (by rw [cut_size _ _ (by omega)]; omega)]
    simp only [Option.bind_some]
    by_cases hq : s.extract 0 (s.size - 4) ++ four (Crc.sum (s.extract 0 (s.size - 4)).data.toList) = s
    · rw [if_pos hq, if_pos (by rw [hq])]
    · rw [if_neg hq, if_neg]
      intro hl
      rw [ByteArray.toList_eq, ByteArray.toList_eq] at hl
      exact hq (ByteArray.ext (Array.toList_inj.1 hl))
theorem rstep (n : Nat) (hn : n < 4294967296) : conventicleref02_Step.f (n : Int) = some (Crc.step n : Int) := by
  unfold conventicleref02_Step.f Crc.step
  rw [and1 n hn]
  by_cases h : n % 2 = 1
  · rw [if_pos (by omega), if_pos h, div2]
    have := xor32 (n / 2) 2197175160 (by omega) (by omega)
    rw [show ((2197175160 : Nat) : Int) = 2197175160 from rfl] at this
    rw [this]
    rfl
  · rw [if_neg (by omega), if_neg h, div2]
theorem l1_run (x0 : ByteArray) (i : Int) : ∀ (e k m : Nat), e ≤ 8 → m < 4294967296 → conventicleref02_Sum.l1 (k + e + 1) x0 m i ((8 - e : Nat) : Int) = conventicleref02_Sum.l0 k x0 (Crc.steps e m : Int) (wrap64 (i + 1)) := by
  intro e
  induction e with
  | zero =>
    intro k m _ _
    simp only [conventicleref02_Sum.l1]
    rw [if_neg (by omega)]
    rfl
  | succ e ih =>
    intro k m he hm
    have h := ih k (Crc.step m) (by omega) (Crc.step_lt m hm)
    obtain ⟨kk, hkk⟩ : ∃ kk, kk = k + e + 1 := ⟨_, rfl⟩
    rw [← hkk] at h
    rw [show k + (e + 1) + 1 = kk + 1 by omega]
    simp only [conventicleref02_Sum.l1]
    rw [if_pos (by omega), rstep m hm, Option.bind_some, wrap_is _ (by omega), show ((8 - (e + 1) : Nat) : Int) + 1 = ((8 - e : Nat) : Int) by omega, h]
    rfl
theorem l0_run (x0 : ByteArray) (hx : x0.size < 9223372036854775807) : ∀ (d k i m : Nat), i + d = x0.data.toList.length → m < 4294967296 →
    conventicleref02_Sum.l0 (k + 10 * d + 1) x0 m i = some ((Crc.run (x0.data.toList.drop i) m ^^^ 4294967295 : Nat) : Int) := by
  have hl := data_length x0
  intro d
  induction d with
  | zero =>
    intro k i m hi hm
    simp only [conventicleref02_Sum.l0]
    rw [if_neg (by omega), show i = x0.data.toList.length by omega, List.drop_length]
    have := xor32 m 4294967295 hm (by omega)
    rw [show ((4294967295 : Nat) : Int) = 4294967295 from rfl] at this
    rw [this]
    rfl
  | succ d ih =>
    intro k i m hi hm
    have hlt : i < x0.data.toList.length := by omega
    have hc := (x0.data.toList[i]).toNat_lt
    have hm' : m ^^^ (x0.data.toList[i]).toNat < 4294967296 := Nat.xor_lt_two_pow (n := 32) hm (by omega)
    have h := l1_run x0 i 8 (k + 10 * d + 1) (m ^^^ (x0.data.toList[i]).toNat) (Nat.le_refl _) hm'
    rw [show k + 10 * (d + 1) + 1 = ((k + 10 * d + 1) + 8 + 1) + 1 by omega]
    obtain ⟨kk, hkk⟩ : ∃ kk, kk = (k + 10 * d + 1) + 8 + 1 := ⟨_, rfl⟩
    rw [← hkk] at h ⊢
    simp only [conventicleref02_Sum.l0]
    rw [if_pos (by omega), if_pos (by omega), bt_is x0 i hlt, Int.emod_eq_of_lt (by omega) (by omega), xor32 m _ hm (by omega)]
    refine Eq.trans h ?_
    rw [wrap_is _ (by omega), show ((i : Int) + 1) = ((i + 1 : Nat) : Int) by omega, ih k (i + 1) _ (by omega) (Crc.steps_lt 8 _ hm'), List.drop_eq_getElem_cons hlt]
    rfl
theorem rsum_run (s : ByteArray) (hs : s.size ≤ 4000) (k : Nat) : conventicleref02_Sum.f (k + 40001) s = some (Crc.sum s.data.toList : Int) := by
  have hl := data_length s
  have := l0_run s (by omega) s.data.toList.length (k + (40000 - 10 * s.data.toList.length)) 0 4294967295 (by omega) (by omega)
  rw [show k + (40000 - 10 * s.data.toList.length) + 10 * s.data.toList.length + 1 = k + 40001 by omega] at this
  simpa [conventicleref02_Sum.f, Crc.sum] using this
theorem rfour_run (n : Nat) : conventicleref02_four.f (n : Int) = some (four n) := rfl
theorem rseal_run (s : ByteArray) (hs : s.size ≤ 4000) (k : Nat) : conventicleref02_Seal.f (k + 40001) s = some (s ++ four (Crc.sum s.data.toList)) := by
  unfold conventicleref02_Seal.f
  rw [rsum_run s hs, Option.bind_some, rfour_run, Option.bind_some, if_pos (by rw [four_size]; omega)]
/-- what was sealed is opened -/
theorem open_seal (s : ByteArray) (h : s.size ≤ 9223372036854775000) : guard_Open.f (s ++ four (Crc.sum s.data.toList)) = some (s, 0) := by
  have hz : (s ++ four (Crc.sum s.data.toList)).size = s.size + 4 := by rw [ByteArray.size_append, four_size]
  rw [open_run _ (by omega), if_neg (by omega)]
  have e : (s ++ four (Crc.sum s.data.toList)).extract 0 ((s ++ four (Crc.sum s.data.toList)).size - 4) = s := by
    refine ByteArray.ext (Array.toList_inj.1 ?_)
    rw [cut_list, hz, ByteArray.data_append, Array.toList_append, show s.size + 4 - 4 = s.data.toList.length by rw [data_length]; omega, List.take_left']
    rfl
  rw [e, if_pos rfl]
end Go.Proofs.YtondgoabnmgcaaaG.Pure
end
section
/- What was sealed, with some bits turned, is not opened. -/
namespace Go.Proofs.YtondgoabnmgcaaaG.Pure
open Go.RowKit Go.Proofs.YtondgoabnmgcaaaG.B Go.Proofs.YtondgoabnmgcaaaW.PrintWords Go.Proofs.YtondgoabnmgcaaaW.PrintLast

end Go.Proofs.YtondgoabnmgcaaaG.Pure
end
