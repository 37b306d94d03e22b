/- Texts of this claim, one behind the other (joined by pack.py): OFrames ORealLaw Ext B10 B6 Ext2 RefSame. -/
import Derived.Test.YtondgoabnmgcaaaKLetterEncodes10
import Derived.Test.YtondgoabnmgcaaaKLetterEncodes7
section
/- By hand: writers beside writers; the closed run that each law of layer 1 asks for. -/
namespace Go.Proofs.YtondgoabnmgcaaaO.R
open Go.RowKit Go.Proofs.YtondgoabnmgcaaaW.PrintWords Go.Proofs.YtondgoabnmgcaaaW.PrintLast Go.Proofs.YtondgoabnmgcaaaW.PrintMore Go.Proofs.YtondgoabnmgcaaaO.B

section
variable {w w' : World} {base g : Nat} {A : Option Addr} {c : Nat} {l : List Int}
theorem Wr.lt (h : Wr w base g A c l) : g < w.heap.size := (Array.getElem?_eq_some_iff.1 h.cell).1
theorem Wr.row_lt (h : Wr w base g A c l) (k : Nat) (hk : A.map (·.block) = some k) : base ≤ k ∧ k < w.heap.size := h.own.lt k (by rw [ownBlock_map]; exact hk)
theorem Wr.move (h : Wr w base g A c l) (hm : ∀ k, (k = g ∨ A.map (·.block) = some k) → w'.heap[k]? = w.heap[k]?) : Wr w' base g A c l :=
  ⟨(hm g (.inl rfl)).trans h.cell, own_move h.own (fun k hk => hm k (.inr (by rw [← ownBlock_map]; exact hk))), h.far⟩
theorem Wr.keep (h : Wr w base g A c l) (hb : Below w.heap.size w w') : Wr w' base g A c l := h.move fun k hk => hb.block k (by
  rcases hk with rfl | hk
  · exact h.lt
  · exact (h.row_lt k hk).2)
theorem Wr.new (hb : w.heap[g]? = some (.cells #[.slice none 0 0] 98 (0, 0))) (hg : base ≤ g) : Wr w base g none 0 [] := ⟨hb, World.ownsRow_nil w base 5 1, hg⟩
/-- no row of the one is the other's -/
def Apart (A B : Option Addr) : Prop := ∀ k, A.map (·.block) = some k → B.map (·.block) ≠ some k
theorem Apart.none (B : Option Addr) : Apart none B := fun _ h => by cases h
theorem Apart.symm {A B : Option Addr} (h : Apart A B) : Apart B A := fun k hk hA => h k hA hk
theorem Wr.other {base2 g2 : Nat} {A2 B2 : Option Addr} {c2 : Nat} {l2 : List Int} (h : Wr w base g A c l) (h2 : Wr w base2 g2 A2 c2 l2) (hg : g ≠ g2) (ha : Apart A A2) (s : Stp w w' g2 A2 B2) : Wr w' base g A c l ∧ Apart A B2 := by
  have typed : ∀ (u : World) (b : Nat) (D : Option Addr) (n d : Nat) (xs : List Value), u.ownsRow b 5 1 (.slice D n d) n xs → ∀ k, D.map (·.block) = some k → ∃ cells, u.heap[k]? = some (.cells cells 5 (0, 0)) :=
    fun u b D n d xs ho k hk => own_typed ho k (by rw [ownBlock_map]; exact hk)
  refine ⟨h.move fun k hk => s.block k ?_ ?_ ?_, fun k hk => ?_⟩
  · rcases hk with rfl | hk
    · exact h.lt
    · exact (h.row_lt k hk).2
  · rcases hk with rfl | hk
    · exact hg
    · rintro rfl
      obtain ⟨cells, hc⟩ := typed _ _ _ _ _ _ h.own k hk
      rw [h2.cell] at hc
      injection hc with hc
      injection hc with _ ht
      exact absurd ht (by decide)
  · rcases hk with rfl | hk
    · intro e
      obtain ⟨cells, hc⟩ := typed _ _ _ _ _ _ h2.own k e
      rw [h.cell] at hc
      injection hc with hc
      injection hc with _ ht
      exact absurd ht (by decide)
    · exact ha k hk
  · have hl := (h.row_lt k hk).2
    rcases s.row with e | ⟨b, e, hb⟩
    · rw [e]; exact ha k hk
    · rw [e]; intro h'; injection h' with h'; omega
/-- all that lies below base lives on -/
theorem Stp.below {base : Nat} {w0 : World} (h : Wr w base g A c l) {B : Option Addr} (s : Stp w w' g A B) (hb : Below base w0 w) : Below base w0 w' := hb.trans (h.below s)
end
end Go.Proofs.YtondgoabnmgcaaaO.R
end
section
/- OctetReal, by hand: the law's own walk. -/
namespace Go.Proofs.YtondgoabnmgcaaaO.R
open Go.RowKit Go.Proofs.YtondgoabnmgcaaaW.PrintWords Go.Proofs.YtondgoabnmgcaaaW.PrintLast Go.Proofs.YtondgoabnmgcaaaW.PrintMore Go.Proofs.YtondgoabnmgcaaaO.B

theorem le_byte : ∀ (k : Nat) (n : Int), ∀ x ∈ le k n, 0 ≤ x ∧ x < 256
  | 0, _, x, h => by simp [le] at h
  | k + 1, n, x, h => by
    rw [le] at h
    rcases List.mem_cons.1 h with rfl | h
    · omega
    · exact le_byte k _ x h
theorem rbits_lt (x : Nat) (hx : x < 18446744073709551616) : rbits x < 18446744073709551616 := by unfold rbits; split <;> omega
end Go.Proofs.YtondgoabnmgcaaaO.R
end
section
/- By hand: Signbit. -/
namespace Go.Proofs.Ytondgoabnmgcaaa.B
open Go.RowKit Go.Proofs.YtondgoabnmgcaaaW.PrintWords Go.Proofs.YtondgoabnmgcaaaW.PrintLast Go.Proofs.YtondgoabnmgcaaaW.PrintMore
set_option linter.unusedSimpArgs false
set_option linter.unusedVariables false
def math_Signbit.f (x : Nat) : Option Bool := some (decide (wrap64 (x : Int) < 0))
theorem math_Signbit.calls (x : Nat) (r : Bool) (w : World) (h : math_Signbit.f x = some r) :
    Calls Try.prog 55 #[.float .f64 x] w fun e w' => e = .returned (.bool r) ∧ Drawn0 w w' := by
  obtain rfl := Option.some.inj h
  clear h
  have HF := Go.Proofs.YtondgoabnmgcaaaO.R.bits_run x
  go_enter Try.func55, Try.ntmps55
  go_wp2
  go_ret
  exact ⟨rfl, Drawn0.refl _⟩
end Go.Proofs.Ytondgoabnmgcaaa.B
end
section
namespace Go.Proofs.Ytondgoabnmgcaaa.B
open Go.RowKit Go.Proofs.YtondgoabnmgcaaaW.PrintWords Go.Proofs.YtondgoabnmgcaaaW.PrintLast Go.Proofs.YtondgoabnmgcaaaW.PrintMore
attribute [local go_sem] max2_int min2_int max_two min_two max_three min_three max_four min_four   -- for this text's walks alone
set_option linter.unusedVariables false
set_option linter.unusedSimpArgs false

/-! ### conventiclelaw15_heavy: function 15 -/
mutual
def conventiclelaw15_heavy.j0 : Nat → Bool → Int → Int → Int → Int → Int → List (S70) → Int → Int → Int → Int → Int → Int → Int → List (S53) → List (S77) → Nat → Option (Bool)
  | 0, _, _, _, _, _, _, _, _, _, _, _, _, _, _, _, _, _ => none
  | k + 1, x19, x224000, x224001, x224002, x224003, x224004, x224005, x224006, x224007, x224008, x224009, x224010, x224011, x224012, x224013, x224014, x224015 => if x19 = true then (some true) else (conventiclelaw15_heavy.l0 k 0 x224000 x224001 x224002 x224003 x224004 x224005 x224006 x224007 x224008 x224009 x224010 x224011 x224012 x224013 x224014 x224015)
def conventiclelaw15_heavy.l0 : Nat → Int → Int → Int → Int → Int → Int → List (S70) → Int → Int → Int → Int → Int → Int → Int → List (S53) → List (S77) → Nat → Option (Bool)
  | 0, _, _, _, _, _, _, _, _, _, _, _, _, _, _, _, _, _ => none
  | k + 1, x3, x224000, x224001, x224002, x224003, x224004, x224005, x224006, x224007, x224008, x224009, x224010, x224011, x224012, x224013, x224014, x224015 => if x3 < (x224013.length : Int) then (if 0 ≤ x3 then (if (((rd_T53 x224013 x3).f1.f2).size : Int) > 100 then (some true) else (conventiclelaw15_heavy.l0 k (wrap64 (x3 + 1)) x224000 x224001 x224002 x224003 x224004 x224005 x224006 x224007 x224008 x224009 x224010 x224011 x224012 x224013 x224014 x224015)) else (none)) else (some false)
end
def conventiclelaw15_heavy.f (k : Nat) (a0_0 : Int) (a0_1 : Int) (a0_2 : Int) (a0_3 : Int) (a0_4 : Int) (l0_5 : List (S70)) (a0_6 : Int) (a0_7 : Int) (a0_8 : Int) (a0_9 : Int) (a0_10 : Int) (a0_11 : Int) (a0_12 : Int) (l0_13 : List (S53)) (l0_14 : List (S77)) (a0_15 : Nat) : Option (Bool) := if (l0_5.length : Int) > 30 then (conventiclelaw15_heavy.j0 k true a0_0 a0_1 a0_2 a0_3 a0_4 l0_5 a0_6 a0_7 a0_8 a0_9 a0_10 a0_11 a0_12 l0_13 l0_14 a0_15) else (if (l0_13.length : Int) > 30 then (conventiclelaw15_heavy.j0 k true a0_0 a0_1 a0_2 a0_3 a0_4 l0_5 a0_6 a0_7 a0_8 a0_9 a0_10 a0_11 a0_12 l0_13 l0_14 a0_15) else (conventiclelaw15_heavy.j0 k (decide ((l0_14.length : Int) > 40)) a0_0 a0_1 a0_2 a0_3 a0_4 l0_5 a0_6 a0_7 a0_8 a0_9 a0_10 a0_11 a0_12 l0_13 l0_14 a0_15))
set_option maxHeartbeats 8000000 in
set_option maxRecDepth 100000 in
theorem conventiclelaw15_heavy.calls (k : Nat) (a0_0 : Int) (a0_1 : Int) (a0_2 : Int) (a0_3 : Int) (a0_4 : Int) (A0_5 : Option Addr) (c0_5 : Nat) (l0_5 : List (S70)) (a0_6 : Int) (a0_7 : Int) (a0_8 : Int) (a0_9 : Int) (a0_10 : Int) (a0_11 : Int) (a0_12 : Int) (A0_13 : Option Addr) (c0_13 : Nat) (l0_13 : List (S53)) (A0_14 : Option Addr) (c0_14 : Nat) (l0_14 : List (S77)) (a0_15 : Nat) (r : Bool) (w : World) (hr0_5 : Kd.C k70 w A0_5 l0_5.length l0_5) (hc0_5 : l0_5.length ≤ c0_5) (hr0_13 : Kd.C k53 w A0_13 l0_13.length l0_13) (hc0_13 : l0_13.length ≤ c0_13) (hr0_14 : Kd.C k77 w A0_14 l0_14.length l0_14) (hc0_14 : l0_14.length ≤ c0_14) (h : conventiclelaw15_heavy.f k a0_0 a0_1 a0_2 a0_3 a0_4 l0_5 a0_6 a0_7 a0_8 a0_9 a0_10 a0_11 a0_12 l0_13 l0_14 a0_15 = some r) :
    Calls Try.prog 15 #[.agg #[.int .i64 a0_0, .int .i64 a0_1, .int .i64 a0_2, .int .u64 a0_3, .int .i64 a0_4, .slice A0_5 l0_5.length c0_5, .int .u64 a0_6, .int .u64 a0_7, .int .u64 a0_8, .int .u64 a0_9, .int .u64 a0_10, .int .u64 a0_11, .int .u64 a0_12, .slice A0_13 l0_13.length c0_13, .slice A0_14 l0_14.length c0_14, .float .f64 a0_15]] w fun e w' => e = .returned (.bool r) ∧ Below w.heap.size w w' := by
  have hu32 := Try.underlying32
  have HR0_5 := Aside0.mk hr0_5
  have HC0_5 := Aside0.mk hc0_5
  clear hr0_5 hc0_5
  have HR0_13 := Aside0.mk hr0_13
  have HC0_13 := Aside0.mk hc0_13
  clear hr0_13 hc0_13
  have HR0_14 := Aside0.mk hr0_14
  have HC0_14 := Aside0.mk hc0_14
  clear hr0_14 hc0_14
  have HB := Aside0.mk (Below.refl w.heap.size w)
  have H : (if (l0_5.length : Int) > 30 then (conventiclelaw15_heavy.j0 k true a0_0 a0_1 a0_2 a0_3 a0_4 l0_5 a0_6 a0_7 a0_8 a0_9 a0_10 a0_11 a0_12 l0_13 l0_14 a0_15) else (if (l0_13.length : Int) > 30 then (conventiclelaw15_heavy.j0 k true a0_0 a0_1 a0_2 a0_3 a0_4 l0_5 a0_6 a0_7 a0_8 a0_9 a0_10 a0_11 a0_12 l0_13 l0_14 a0_15) else (conventiclelaw15_heavy.j0 k (decide ((l0_14.length : Int) > 40)) a0_0 a0_1 a0_2 a0_3 a0_4 l0_5 a0_6 a0_7 a0_8 a0_9 a0_10 a0_11 a0_12 l0_13 l0_14 a0_15))) = some r := h
  clear h
  have HC2 := Aside0.mk H
  clear H
  go_enter Try.func15, Try.ntmps15
  go_upto_region 1 with (first | ((with_reducible refine gate_dst (N := 1) rfl ?_); (try (refine gate_guard (by rfl) ?_; dsimp only)); refine box_event ?hg (N := 1) ?hd (cs := #[.int .i64 a0_0, .int .i64 a0_1, .int .i64 a0_2, .int .u64 a0_3, .int .i64 a0_4, .slice A0_5 l0_5.length c0_5, .int .u64 a0_6, .int .u64 a0_7, .int .u64 a0_8, .int .u64 a0_9, .int .u64 a0_10, .int .u64 a0_11, .int .u64 a0_12, .slice A0_13 l0_13.length c0_13, .slice A0_14 l0_14.length c0_14, .float .f64 a0_15]) (t := 32) ?hr ?_; (case hd => rfl); (case hg => rfl); (case hr => first | (go_simp; done) | (go_simp; rfl)); intro gb223 hg w3 hbox hb; have n0_ := Aside0.mk (below_step (by repeat (first | (with_reducible first | exact HB.out | apply below_alloc | apply pw_below_drewN | apply below_drew1) | exact HB.out)) hb); have n1_ := Aside0.mk (hbox); have n2_ := Aside0.mk ((by rw [hg]; exact (below_size (by repeat (first | (with_reducible first | exact HB.out | apply below_alloc | apply pw_below_drewN | apply below_drew1) | exact HB.out))) : w.heap.size ≤ gb223)); have n3_ := Aside0.mk ((by rw [hg]; exact (below_size (by repeat (first | (with_reducible first | exact HB.out | apply below_alloc | apply pw_below_drewN | apply below_drew1) | exact HB.out))) : w.heap.size ≤ gb223)); clear HB; have HB := n0_; have BK223 := n1_; have GW223 := n2_; have GE223 := n3_; clear n0_ n1_ n2_ n3_; clear hb hbox hg))
  (try simp only [Act.put, List.setIfInBounds_toArray, List.set_cons_zero, List.set_cons_succ])
  go_cut [19] (fun v19 wc => ∃ (kq : Nat) (x19_1 : Bool), v19 = .bool x19_1 ∧ Aside0 (conventiclelaw15_heavy.j0 kq x19_1 a0_0 a0_1 a0_2 a0_3 a0_4 l0_5 a0_6 a0_7 a0_8 a0_9 a0_10 a0_11 a0_12 l0_13 l0_14 a0_15 = some r) ∧ Aside0 (kq ≤ k) ∧ Aside0 (wc.heap[gb223]? = some (.cells #[.int .i64 a0_0, .int .i64 a0_1, .int .i64 a0_2, .int .u64 a0_3, .int .i64 a0_4, (.slice A0_5 l0_5.length c0_5), .int .u64 a0_6, .int .u64 a0_7, .int .u64 a0_8, .int .u64 a0_9, .int .u64 a0_10, .int .u64 a0_11, .int .u64 a0_12, (.slice A0_13 l0_13.length c0_13), (.slice A0_14 l0_14.length c0_14), .float .f64 a0_15] 32 (0, 0))) ∧ Aside0 (Below w.heap.size w wc))
  case first =>
    have H := HC2.out
    clear HC2
    by_cases c4 : (l0_5.length : Int) > 30
    · rw [if_pos c4] at H
      have c4b0 : decide (30 < (l0_5.length : Int)) = true := decide_eq_true c4
      have c4b1 : decide (30 < l0_5.length) = true := decide_eq_true (by omega)
      clear c4
      (first | rw [c4b0] | (simp only [i64_w, i32_w]; rw [c4b0]) | skip)
      have H' := Aside0.mk H
      clear H
      have hcz5_0 : w3.cell? ⟨gb223, 0, none⟩ = some (.int .i64 a0_0) := (blk_cell BK223.out 0).trans rfl
      have hcz5_1 : w3.cell? ⟨gb223, 1, none⟩ = some (.int .i64 a0_1) := (blk_cell BK223.out 1).trans rfl
      have hcz5_2 : w3.cell? ⟨gb223, 2, none⟩ = some (.int .i64 a0_2) := (blk_cell BK223.out 2).trans rfl
      have hcz5_3 : w3.cell? ⟨gb223, 3, none⟩ = some (.int .u64 a0_3) := (blk_cell BK223.out 3).trans rfl
      have hcz5_4 : w3.cell? ⟨gb223, 4, none⟩ = some (.int .i64 a0_4) := (blk_cell BK223.out 4).trans rfl
      have hcz5_5 : w3.cell? ⟨gb223, 5, none⟩ = some (.slice A0_5 l0_5.length c0_5) := (blk_cell BK223.out 5).trans rfl
      have hcz5_6 : w3.cell? ⟨gb223, 6, none⟩ = some (.int .u64 a0_6) := (blk_cell BK223.out 6).trans rfl
      have hcz5_7 : w3.cell? ⟨gb223, 7, none⟩ = some (.int .u64 a0_7) := (blk_cell BK223.out 7).trans rfl
      have hcz5_8 : w3.cell? ⟨gb223, 8, none⟩ = some (.int .u64 a0_8) := (blk_cell BK223.out 8).trans rfl
      have hcz5_9 : w3.cell? ⟨gb223, 9, none⟩ = some (.int .u64 a0_9) := (blk_cell BK223.out 9).trans rfl
      have hcz5_10 : w3.cell? ⟨gb223, 10, none⟩ = some (.int .u64 a0_10) := (blk_cell BK223.out 10).trans rfl
      have hcz5_11 : w3.cell? ⟨gb223, 11, none⟩ = some (.int .u64 a0_11) := (blk_cell BK223.out 11).trans rfl
      have hcz5_12 : w3.cell? ⟨gb223, 12, none⟩ = some (.int .u64 a0_12) := (blk_cell BK223.out 12).trans rfl
      have hcz5_13 : w3.cell? ⟨gb223, 13, none⟩ = some (.slice A0_13 l0_13.length c0_13) := (blk_cell BK223.out 13).trans rfl
      have hcz5_14 : w3.cell? ⟨gb223, 14, none⟩ = some (.slice A0_14 l0_14.length c0_14) := (blk_cell BK223.out 14).trans rfl
      have hcz5_15 : w3.cell? ⟨gb223, 15, none⟩ = some (.float .f64 a0_15) := (blk_cell BK223.out 15).trans rfl
      have hfz5_0 := blk_frozen BK223.out 0
      have hfz5_1 := blk_frozen BK223.out 1
      have hfz5_2 := blk_frozen BK223.out 2
      have hfz5_3 := blk_frozen BK223.out 3
      have hfz5_4 := blk_frozen BK223.out 4
      have hfz5_5 := blk_frozen BK223.out 5
      have hfz5_6 := blk_frozen BK223.out 6
      have hfz5_7 := blk_frozen BK223.out 7
      have hfz5_8 := blk_frozen BK223.out 8
      have hfz5_9 := blk_frozen BK223.out 9
      have hfz5_10 := blk_frozen BK223.out 10
      have hfz5_11 := blk_frozen BK223.out 11
      have hfz5_12 := blk_frozen BK223.out 12
      have hfz5_13 := blk_frozen BK223.out 13
      have hfz5_14 := blk_frozen BK223.out 14
      have hfz5_15 := blk_frozen BK223.out 15
      go_wp2
      go_meet
      case rel => exact ⟨_, (true), (by first | rfl | (simp; done) | (simp [*]; done)), H', ⟨by first | omega | exact Nat.le_refl _⟩, ⟨by (with_reducible repeat (first | refine blk_drewN ?_ _ | refine blk_drew ?_ | refine blk_alloc ?_ _)); exact BK223.out⟩, ⟨by repeat (first | (with_reducible first | exact HB.out | apply below_alloc | apply pw_below_drewN | apply below_drew1 | refine below_set ?_ GE223.out) | exact HB.out)⟩⟩
    · rw [if_neg c4] at H
      have c4b0 : decide (30 < (l0_5.length : Int)) = false := decide_eq_false c4
      have c4b1 : decide (30 < l0_5.length) = false := decide_eq_false (by omega)
      clear c4
      (first | rw [c4b0] | (simp only [i64_w, i32_w]; rw [c4b0]) | skip)
      by_cases c6 : (l0_13.length : Int) > 30
      · rw [if_pos c6] at H
        have c6b0 : decide (30 < (l0_13.length : Int)) = true := decide_eq_true c6
        have c6b1 : decide (30 < l0_13.length) = true := decide_eq_true (by omega)
        clear c6
        have H' := Aside0.mk H
        clear H
        have hcz7_0 : w3.cell? ⟨gb223, 0, none⟩ = some (.int .i64 a0_0) := (blk_cell BK223.out 0).trans rfl
        have hcz7_1 : w3.cell? ⟨gb223, 1, none⟩ = some (.int .i64 a0_1) := (blk_cell BK223.out 1).trans rfl
        have hcz7_2 : w3.cell? ⟨gb223, 2, none⟩ = some (.int .i64 a0_2) := (blk_cell BK223.out 2).trans rfl
        have hcz7_3 : w3.cell? ⟨gb223, 3, none⟩ = some (.int .u64 a0_3) := (blk_cell BK223.out 3).trans rfl
        have hcz7_4 : w3.cell? ⟨gb223, 4, none⟩ = some (.int .i64 a0_4) := (blk_cell BK223.out 4).trans rfl
        have hcz7_5 : w3.cell? ⟨gb223, 5, none⟩ = some (.slice A0_5 l0_5.length c0_5) := (blk_cell BK223.out 5).trans rfl
        have hcz7_6 : w3.cell? ⟨gb223, 6, none⟩ = some (.int .u64 a0_6) := (blk_cell BK223.out 6).trans rfl
        have hcz7_7 : w3.cell? ⟨gb223, 7, none⟩ = some (.int .u64 a0_7) := (blk_cell BK223.out 7).trans rfl
        have hcz7_8 : w3.cell? ⟨gb223, 8, none⟩ = some (.int .u64 a0_8) := (blk_cell BK223.out 8).trans rfl
        have hcz7_9 : w3.cell? ⟨gb223, 9, none⟩ = some (.int .u64 a0_9) := (blk_cell BK223.out 9).trans rfl
        have hcz7_10 : w3.cell? ⟨gb223, 10, none⟩ = some (.int .u64 a0_10) := (blk_cell BK223.out 10).trans rfl
        have hcz7_11 : w3.cell? ⟨gb223, 11, none⟩ = some (.int .u64 a0_11) := (blk_cell BK223.out 11).trans rfl
        have hcz7_12 : w3.cell? ⟨gb223, 12, none⟩ = some (.int .u64 a0_12) := (blk_cell BK223.out 12).trans rfl
        have hcz7_13 : w3.cell? ⟨gb223, 13, none⟩ = some (.slice A0_13 l0_13.length c0_13) := (blk_cell BK223.out 13).trans rfl
        have hcz7_14 : w3.cell? ⟨gb223, 14, none⟩ = some (.slice A0_14 l0_14.length c0_14) := (blk_cell BK223.out 14).trans rfl
        have hcz7_15 : w3.cell? ⟨gb223, 15, none⟩ = some (.float .f64 a0_15) := (blk_cell BK223.out 15).trans rfl
        have hfz7_0 := blk_frozen BK223.out 0
        have hfz7_1 := blk_frozen BK223.out 1
        have hfz7_2 := blk_frozen BK223.out 2
        have hfz7_3 := blk_frozen BK223.out 3
        have hfz7_4 := blk_frozen BK223.out 4
        have hfz7_5 := blk_frozen BK223.out 5
        have hfz7_6 := blk_frozen BK223.out 6
        have hfz7_7 := blk_frozen BK223.out 7
        have hfz7_8 := blk_frozen BK223.out 8
        have hfz7_9 := blk_frozen BK223.out 9
        have hfz7_10 := blk_frozen BK223.out 10
        have hfz7_11 := blk_frozen BK223.out 11
        have hfz7_12 := blk_frozen BK223.out 12
        have hfz7_13 := blk_frozen BK223.out 13
        have hfz7_14 := blk_frozen BK223.out 14
        have hfz7_15 := blk_frozen BK223.out 15
        go_wp2
        go_meet
        case rel => exact ⟨_, (true), (by first | rfl | (simp; done) | (simp [*]; done)), H', ⟨by first | omega | exact Nat.le_refl _⟩, ⟨by (with_reducible repeat (first | refine blk_drewN ?_ _ | refine blk_drew ?_ | refine blk_alloc ?_ _)); exact BK223.out⟩, ⟨by repeat (first | (with_reducible first | exact HB.out | apply below_alloc | apply pw_below_drewN | apply below_drew1 | refine below_set ?_ GE223.out) | exact HB.out)⟩⟩
      · rw [if_neg c6] at H
        have c6b0 : decide (30 < (l0_13.length : Int)) = false := decide_eq_false c6
        have c6b1 : decide (30 < l0_13.length) = false := decide_eq_false (by omega)
        clear c6
        have H' := Aside0.mk H
        clear H
        have hcz8_0 : w3.cell? ⟨gb223, 0, none⟩ = some (.int .i64 a0_0) := (blk_cell BK223.out 0).trans rfl
        have hcz8_1 : w3.cell? ⟨gb223, 1, none⟩ = some (.int .i64 a0_1) := (blk_cell BK223.out 1).trans rfl
        have hcz8_2 : w3.cell? ⟨gb223, 2, none⟩ = some (.int .i64 a0_2) := (blk_cell BK223.out 2).trans rfl
        have hcz8_3 : w3.cell? ⟨gb223, 3, none⟩ = some (.int .u64 a0_3) := (blk_cell BK223.out 3).trans rfl
        have hcz8_4 : w3.cell? ⟨gb223, 4, none⟩ = some (.int .i64 a0_4) := (blk_cell BK223.out 4).trans rfl
        have hcz8_5 : w3.cell? ⟨gb223, 5, none⟩ = some (.slice A0_5 l0_5.length c0_5) := (blk_cell BK223.out 5).trans rfl
        have hcz8_6 : w3.cell? ⟨gb223, 6, none⟩ = some (.int .u64 a0_6) := (blk_cell BK223.out 6).trans rfl
        have hcz8_7 : w3.cell? ⟨gb223, 7, none⟩ = some (.int .u64 a0_7) := (blk_cell BK223.out 7).trans rfl
        have hcz8_8 : w3.cell? ⟨gb223, 8, none⟩ = some (.int .u64 a0_8) := (blk_cell BK223.out 8).trans rfl
        have hcz8_9 : w3.cell? ⟨gb223, 9, none⟩ = some (.int .u64 a0_9) := (blk_cell BK223.out 9).trans rfl
        have hcz8_10 : w3.cell? ⟨gb223, 10, none⟩ = some (.int .u64 a0_10) := (blk_cell BK223.out 10).trans rfl
        have hcz8_11 : w3.cell? ⟨gb223, 11, none⟩ = some (.int .u64 a0_11) := (blk_cell BK223.out 11).trans rfl
        have hcz8_12 : w3.cell? ⟨gb223, 12, none⟩ = some (.int .u64 a0_12) := (blk_cell BK223.out 12).trans rfl
        have hcz8_13 : w3.cell? ⟨gb223, 13, none⟩ = some (.slice A0_13 l0_13.length c0_13) := (blk_cell BK223.out 13).trans rfl
        have hcz8_14 : w3.cell? ⟨gb223, 14, none⟩ = some (.slice A0_14 l0_14.length c0_14) := (blk_cell BK223.out 14).trans rfl
        have hcz8_15 : w3.cell? ⟨gb223, 15, none⟩ = some (.float .f64 a0_15) := (blk_cell BK223.out 15).trans rfl
        have hfz8_0 := blk_frozen BK223.out 0
        have hfz8_1 := blk_frozen BK223.out 1
        have hfz8_2 := blk_frozen BK223.out 2
        have hfz8_3 := blk_frozen BK223.out 3
        have hfz8_4 := blk_frozen BK223.out 4
        have hfz8_5 := blk_frozen BK223.out 5
        have hfz8_6 := blk_frozen BK223.out 6
        have hfz8_7 := blk_frozen BK223.out 7
        have hfz8_8 := blk_frozen BK223.out 8
        have hfz8_9 := blk_frozen BK223.out 9
        have hfz8_10 := blk_frozen BK223.out 10
        have hfz8_11 := blk_frozen BK223.out 11
        have hfz8_12 := blk_frozen BK223.out 12
        have hfz8_13 := blk_frozen BK223.out 13
        have hfz8_14 := blk_frozen BK223.out 14
        have hfz8_15 := blk_frozen BK223.out 15
        go_wp2
        go_meet
        case rel => exact ⟨_, (decide ((l0_14.length : Int) > 40)), (by first | rfl | (simp; done) | (simp [*]; done)), H', ⟨by first | omega | exact Nat.le_refl _⟩, ⟨by (with_reducible repeat (first | refine blk_drewN ?_ _ | refine blk_drew ?_ | refine blk_alloc ?_ _)); exact BK223.out⟩, ⟨by repeat (first | (with_reducible first | exact HB.out | apply below_alloc | apply pw_below_drewN | apply below_drew1 | refine below_set ?_ GE223.out) | exact HB.out)⟩⟩
  case rest =>
    clear HC2
    try clear c1
    try clear p2
    try clear c4
    try clear c4b0
    try clear c4b1
    try clear c6
    try clear c6b0
    try clear c6b1
    try clear hcz5_0
    try clear hcz5_1
    try clear hcz5_10
    try clear hcz5_11
    try clear hcz5_12
    try clear hcz5_13
    try clear hcz5_14
    try clear hcz5_15
    try clear hcz5_2
    try clear hcz5_3
    try clear hcz5_4
    try clear hcz5_5
    try clear hcz5_6
    try clear hcz5_7
    try clear hcz5_8
    try clear hcz5_9
    try clear hcz7_0
    try clear hcz7_1
    try clear hcz7_10
    try clear hcz7_11
    try clear hcz7_12
    try clear hcz7_13
    try clear hcz7_14
    try clear hcz7_15
    try clear hcz7_2
    try clear hcz7_3
    try clear hcz7_4
    try clear hcz7_5
    try clear hcz7_6
    try clear hcz7_7
    try clear hcz7_8
    try clear hcz7_9
    try clear hcz8_0
    try clear hcz8_1
    try clear hcz8_10
    try clear hcz8_11
    try clear hcz8_12
    try clear hcz8_13
    try clear hcz8_14
    try clear hcz8_15
    try clear hcz8_2
    try clear hcz8_3
    try clear hcz8_4
    try clear hcz8_5
    try clear hcz8_6
    try clear hcz8_7
    try clear hcz8_8
    try clear hcz8_9
    try clear hfz5_0
    try clear hfz5_1
    try clear hfz5_10
    try clear hfz5_11
    try clear hfz5_12
    try clear hfz5_13
    try clear hfz5_14
    try clear hfz5_15
    try clear hfz5_2
    try clear hfz5_3
    try clear hfz5_4
    try clear hfz5_5
    try clear hfz5_6
    try clear hfz5_7
    try clear hfz5_8
    try clear hfz5_9
    try clear hfz7_0
    try clear hfz7_1
    try clear hfz7_10
    try clear hfz7_11
    try clear hfz7_12
    try clear hfz7_13
    try clear hfz7_14
    try clear hfz7_15
    try clear hfz7_2
    try clear hfz7_3
    try clear hfz7_4
    try clear hfz7_5
    try clear hfz7_6
    try clear hfz7_7
    try clear hfz7_8
    try clear hfz7_9
    try clear hfz8_0
    try clear hfz8_1
    try clear hfz8_10
    try clear hfz8_11
    try clear hfz8_12
    try clear hfz8_13
    try clear hfz8_14
    try clear hfz8_15
    try clear hfz8_2
    try clear hfz8_3
    try clear hfz8_4
    try clear hfz8_5
    try clear hfz8_6
    try clear hfz8_7
    try clear hfz8_8
    try clear hfz8_9
    obtain ⟨kq, x19_1, rfl, HA, HJ1, BK223, HB⟩ := hcut
    cases kq with
    | zero => exact absurd HA.out (by simp [conventiclelaw15_heavy.j0])
    | succ kj1 =>
      have H := HA.out
      clear HA
      simp only [conventiclelaw15_heavy.j0] at H
      by_cases c9 : x19_1 = true
      · subst c9
        have H1 : (some true) = some r := by rw [if_pos rfl] at H; exact H
        clear H
        have H := H1
        clear H1
        obtain rfl := Option.some.inj H
        go_wp2
        go_ret
        exact ⟨by first | rfl | (simp [errW_none, errW_some] <;> rfl) | (simp [*, errW_none, errW_some] <;> rfl), by repeat (first | (with_reducible first | exact HB.out | apply below_alloc | apply pw_below_drewN | apply below_drew1 | refine below_set ?_ GE223.out) | exact HB.out)⟩
      · replace c9 := Bool.eq_false_iff.mpr c9
        subst c9
        have H1 : (conventiclelaw15_heavy.l0 kj1 0 a0_0 a0_1 a0_2 a0_3 a0_4 l0_5 a0_6 a0_7 a0_8 a0_9 a0_10 a0_11 a0_12 l0_13 l0_14 a0_15) = some r := by rw [if_neg (show ¬ (false = true) by decide)] at H; exact H
        clear H
        have H := H1
        clear H1
        have H' := Aside0.mk H
        clear H
        go_wp2
        go_loopg [3] kj1 (fun kq v3 w' => ∃ (x3_2 : Int), v3 = .int .i64 x3_2 ∧ Aside0 (conventiclelaw15_heavy.l0 kq x3_2 a0_0 a0_1 a0_2 a0_3 a0_4 l0_5 a0_6 a0_7 a0_8 a0_9 a0_10 a0_11 a0_12 l0_13 l0_14 a0_15 = some r) ∧ Aside0 (kq ≤ kj1) ∧ Aside0 (w'.heap[gb223]? = some (.cells #[.int .i64 a0_0, .int .i64 a0_1, .int .i64 a0_2, .int .u64 a0_3, .int .i64 a0_4, (.slice A0_5 l0_5.length c0_5), .int .u64 a0_6, .int .u64 a0_7, .int .u64 a0_8, .int .u64 a0_9, .int .u64 a0_10, .int .u64 a0_11, .int .u64 a0_12, (.slice A0_13 l0_13.length c0_13), (.slice A0_14 l0_14.length c0_14), .float .f64 a0_15] 32 (0, 0))) ∧ Aside0 (Below w.heap.size w w'))
        case atStart => exact ⟨(0), (by first | rfl | (simp; done) | (simp [*]; done)), H', ⟨Nat.le_refl _⟩, ⟨by (with_reducible repeat (first | refine blk_drewN ?_ _ | refine blk_drew ?_ | refine blk_alloc ?_ _)); exact BK223.out⟩, ⟨by repeat (first | (with_reducible first | exact HB.out | apply below_alloc | apply pw_below_drewN | apply below_drew1 | refine below_set ?_ GE223.out) | exact HB.out)⟩⟩
        case round =>
          clear H'
          try clear c1
          try clear p2
          try clear c4
          try clear c4b0
          try clear c4b1
          try clear c6
          try clear c6b0
          try clear c6b1
          try clear c9
          try clear hcz5_0
          try clear hcz5_1
          try clear hcz5_10
          try clear hcz5_11
          try clear hcz5_12
          try clear hcz5_13
          try clear hcz5_14
          try clear hcz5_15
          try clear hcz5_2
          try clear hcz5_3
          try clear hcz5_4
          try clear hcz5_5
          try clear hcz5_6
          try clear hcz5_7
          try clear hcz5_8
          try clear hcz5_9
          try clear hcz7_0
          try clear hcz7_1
          try clear hcz7_10
          try clear hcz7_11
          try clear hcz7_12
          try clear hcz7_13
          try clear hcz7_14
          try clear hcz7_15
          try clear hcz7_2
          try clear hcz7_3
          try clear hcz7_4
          try clear hcz7_5
          try clear hcz7_6
          try clear hcz7_7
          try clear hcz7_8
          try clear hcz7_9
          try clear hcz8_0
          try clear hcz8_1
          try clear hcz8_10
          try clear hcz8_11
          try clear hcz8_12
          try clear hcz8_13
          try clear hcz8_14
          try clear hcz8_15
          try clear hcz8_2
          try clear hcz8_3
          try clear hcz8_4
          try clear hcz8_5
          try clear hcz8_6
          try clear hcz8_7
          try clear hcz8_8
          try clear hcz8_9
          try clear hfz5_0
          try clear hfz5_1
          try clear hfz5_10
          try clear hfz5_11
          try clear hfz5_12
          try clear hfz5_13
          try clear hfz5_14
          try clear hfz5_15
          try clear hfz5_2
          try clear hfz5_3
          try clear hfz5_4
          try clear hfz5_5
          try clear hfz5_6
          try clear hfz5_7
          try clear hfz5_8
          try clear hfz5_9
          try clear hfz7_0
          try clear hfz7_1
          try clear hfz7_10
          try clear hfz7_11
          try clear hfz7_12
          try clear hfz7_13
          try clear hfz7_14
          try clear hfz7_15
          try clear hfz7_2
          try clear hfz7_3
          try clear hfz7_4
          try clear hfz7_5
          try clear hfz7_6
          try clear hfz7_7
          try clear hfz7_8
          try clear hfz7_9
          try clear hfz8_0
          try clear hfz8_1
          try clear hfz8_10
          try clear hfz8_11
          try clear hfz8_12
          try clear hfz8_13
          try clear hfz8_14
          try clear hfz8_15
          try clear hfz8_2
          try clear hfz8_3
          try clear hfz8_4
          try clear hfz8_5
          try clear hfz8_6
          try clear hfz8_7
          try clear hfz8_8
          try clear hfz8_9
          try clear p2
          obtain ⟨x3_2, rfl, HA, HK2, BK223, HB⟩ := hrel
          cases gk with
          | zero => exact absurd HA.out (by simp [conventiclelaw15_heavy.l0])
          | succ k2 =>
            have H := HA.out
            clear HA
            simp only [conventiclelaw15_heavy.l0] at H
            by_cases c10 : x3_2 < (l0_13.length : Int)
            · rw [if_pos c10] at H
              have c10b0 : decide (x3_2 < (l0_13.length : Int)) = true := decide_eq_true c10
              clear c10
              by_cases c11 : 0 ≤ x3_2
              · rw [if_pos c11] at H
                have c11b0 : decide (0 ≤ x3_2) = true := decide_eq_true c11
                clear c11
                by_cases c12 : (((rd_T53 l0_13 x3_2).f1.f2).size : Int) > 100
                · rw [if_pos c12] at H
                  have c12b0 : decide (100 < (((rd_T53 l0_13 x3_2).f1.f2).size : Int)) = true := decide_eq_true c12
                  have c12b1 : decide (100 < ((rd_T53 l0_13 x3_2).f1.f2).size) = true := decide_eq_true (by omega)
                  clear c12
                  obtain rfl := Option.some.inj H
                  have hcz13_0 : wr.cell? ⟨gb223, 0, none⟩ = some (.int .i64 a0_0) := (blk_cell BK223.out 0).trans rfl
                  have hcz13_1 : wr.cell? ⟨gb223, 1, none⟩ = some (.int .i64 a0_1) := (blk_cell BK223.out 1).trans rfl
                  have hcz13_2 : wr.cell? ⟨gb223, 2, none⟩ = some (.int .i64 a0_2) := (blk_cell BK223.out 2).trans rfl
                  have hcz13_3 : wr.cell? ⟨gb223, 3, none⟩ = some (.int .u64 a0_3) := (blk_cell BK223.out 3).trans rfl
                  have hcz13_4 : wr.cell? ⟨gb223, 4, none⟩ = some (.int .i64 a0_4) := (blk_cell BK223.out 4).trans rfl
                  have hcz13_5 : wr.cell? ⟨gb223, 5, none⟩ = some (.slice A0_5 l0_5.length c0_5) := (blk_cell BK223.out 5).trans rfl
                  have hcz13_6 : wr.cell? ⟨gb223, 6, none⟩ = some (.int .u64 a0_6) := (blk_cell BK223.out 6).trans rfl
                  have hcz13_7 : wr.cell? ⟨gb223, 7, none⟩ = some (.int .u64 a0_7) := (blk_cell BK223.out 7).trans rfl
                  have hcz13_8 : wr.cell? ⟨gb223, 8, none⟩ = some (.int .u64 a0_8) := (blk_cell BK223.out 8).trans rfl
                  have hcz13_9 : wr.cell? ⟨gb223, 9, none⟩ = some (.int .u64 a0_9) := (blk_cell BK223.out 9).trans rfl
                  have hcz13_10 : wr.cell? ⟨gb223, 10, none⟩ = some (.int .u64 a0_10) := (blk_cell BK223.out 10).trans rfl
                  have hcz13_11 : wr.cell? ⟨gb223, 11, none⟩ = some (.int .u64 a0_11) := (blk_cell BK223.out 11).trans rfl
                  have hcz13_12 : wr.cell? ⟨gb223, 12, none⟩ = some (.int .u64 a0_12) := (blk_cell BK223.out 12).trans rfl
                  have hcz13_13 : wr.cell? ⟨gb223, 13, none⟩ = some (.slice A0_13 l0_13.length c0_13) := (blk_cell BK223.out 13).trans rfl
                  have hcz13_14 : wr.cell? ⟨gb223, 14, none⟩ = some (.slice A0_14 l0_14.length c0_14) := (blk_cell BK223.out 14).trans rfl
                  have hcz13_15 : wr.cell? ⟨gb223, 15, none⟩ = some (.float .f64 a0_15) := (blk_cell BK223.out 15).trans rfl
                  have hfz13_0 := blk_frozen BK223.out 0
                  have hfz13_1 := blk_frozen BK223.out 1
                  have hfz13_2 := blk_frozen BK223.out 2
                  have hfz13_3 := blk_frozen BK223.out 3
                  have hfz13_4 := blk_frozen BK223.out 4
                  have hfz13_5 := blk_frozen BK223.out 5
                  have hfz13_6 := blk_frozen BK223.out 6
                  have hfz13_7 := blk_frozen BK223.out 7
                  have hfz13_8 := blk_frozen BK223.out 8
                  have hfz13_9 := blk_frozen BK223.out 9
                  have hfz13_10 := blk_frozen BK223.out 10
                  have hfz13_11 := blk_frozen BK223.out 11
                  have hfz13_12 := blk_frozen BK223.out 12
                  have hfz13_13 := blk_frozen BK223.out 13
                  have hfz13_14 := blk_frozen BK223.out 14
                  have hfz13_15 := blk_frozen BK223.out 15
                  have p224 : 0 ≤ (x3_2 : Int) := of_decide_eq_true (by first | (with_reducible assumption) | assumption)
                  have q224 : x3_2 < (l0_13.length : Int) := of_decide_eq_true (by first | (with_reducible assumption) | assumption)
                  obtain ⟨ad224, e224, hx224_0, hx224_1, hx224_2, hx224_3⟩ := at_T53 HR0_13.out x3_2 p224 q224
                  cases e224
                  replace hx224_0 := (HB.out.cell (World.block_lt_of_cell? w _ hx224_0)).trans hx224_0
                  replace hx224_1 := (HB.out.cell (World.block_lt_of_cell? w _ hx224_1)).trans hx224_1
                  replace hx224_2 := (HB.out.cell (World.block_lt_of_cell? w _ hx224_2)).trans hx224_2
                  replace hx224_3 := (HB.out.cell (World.block_lt_of_cell? w _ hx224_3)).trans hx224_3
                  replace p224 := eq_true p224
                  replace q224 := eq_true q224
                  go_wp2
                  go_ret
                  exact ⟨by first | rfl | (simp [errW_none, errW_some] <;> rfl) | (simp [*, errW_none, errW_some] <;> rfl), by repeat (first | (with_reducible first | exact HB.out | apply below_alloc | apply pw_below_drewN | apply below_drew1 | refine below_set ?_ GE223.out) | exact HB.out)⟩
                · rw [if_neg c12] at H
                  have c12b0 : decide (100 < (((rd_T53 l0_13 x3_2).f1.f2).size : Int)) = false := decide_eq_false c12
                  have c12b1 : decide (100 < ((rd_T53 l0_13 x3_2).f1.f2).size) = false := decide_eq_false (by omega)
                  clear c12
                  have H' := Aside0.mk H
                  clear H
                  have hcz14_0 : wr.cell? ⟨gb223, 0, none⟩ = some (.int .i64 a0_0) := (blk_cell BK223.out 0).trans rfl
                  have hcz14_1 : wr.cell? ⟨gb223, 1, none⟩ = some (.int .i64 a0_1) := (blk_cell BK223.out 1).trans rfl
                  have hcz14_2 : wr.cell? ⟨gb223, 2, none⟩ = some (.int .i64 a0_2) := (blk_cell BK223.out 2).trans rfl
                  have hcz14_3 : wr.cell? ⟨gb223, 3, none⟩ = some (.int .u64 a0_3) := (blk_cell BK223.out 3).trans rfl
                  have hcz14_4 : wr.cell? ⟨gb223, 4, none⟩ = some (.int .i64 a0_4) := (blk_cell BK223.out 4).trans rfl
                  have hcz14_5 : wr.cell? ⟨gb223, 5, none⟩ = some (.slice A0_5 l0_5.length c0_5) := (blk_cell BK223.out 5).trans rfl
                  have hcz14_6 : wr.cell? ⟨gb223, 6, none⟩ = some (.int .u64 a0_6) := (blk_cell BK223.out 6).trans rfl
                  have hcz14_7 : wr.cell? ⟨gb223, 7, none⟩ = some (.int .u64 a0_7) := (blk_cell BK223.out 7).trans rfl
                  have hcz14_8 : wr.cell? ⟨gb223, 8, none⟩ = some (.int .u64 a0_8) := (blk_cell BK223.out 8).trans rfl
                  have hcz14_9 : wr.cell? ⟨gb223, 9, none⟩ = some (.int .u64 a0_9) := (blk_cell BK223.out 9).trans rfl
                  have hcz14_10 : wr.cell? ⟨gb223, 10, none⟩ = some (.int .u64 a0_10) := (blk_cell BK223.out 10).trans rfl
                  have hcz14_11 : wr.cell? ⟨gb223, 11, none⟩ = some (.int .u64 a0_11) := (blk_cell BK223.out 11).trans rfl
                  have hcz14_12 : wr.cell? ⟨gb223, 12, none⟩ = some (.int .u64 a0_12) := (blk_cell BK223.out 12).trans rfl
                  have hcz14_13 : wr.cell? ⟨gb223, 13, none⟩ = some (.slice A0_13 l0_13.length c0_13) := (blk_cell BK223.out 13).trans rfl
                  have hcz14_14 : wr.cell? ⟨gb223, 14, none⟩ = some (.slice A0_14 l0_14.length c0_14) := (blk_cell BK223.out 14).trans rfl
                  have hcz14_15 : wr.cell? ⟨gb223, 15, none⟩ = some (.float .f64 a0_15) := (blk_cell BK223.out 15).trans rfl
                  have hfz14_0 := blk_frozen BK223.out 0
                  have hfz14_1 := blk_frozen BK223.out 1
                  have hfz14_2 := blk_frozen BK223.out 2
                  have hfz14_3 := blk_frozen BK223.out 3
                  have hfz14_4 := blk_frozen BK223.out 4
                  have hfz14_5 := blk_frozen BK223.out 5
                  have hfz14_6 := blk_frozen BK223.out 6
                  have hfz14_7 := blk_frozen BK223.out 7
                  have hfz14_8 := blk_frozen BK223.out 8
                  have hfz14_9 := blk_frozen BK223.out 9
                  have hfz14_10 := blk_frozen BK223.out 10
                  have hfz14_11 := blk_frozen BK223.out 11
                  have hfz14_12 := blk_frozen BK223.out 12
                  have hfz14_13 := blk_frozen BK223.out 13
                  have hfz14_14 := blk_frozen BK223.out 14
                  have hfz14_15 := blk_frozen BK223.out 15
                  have p224 : 0 ≤ (x3_2 : Int) := of_decide_eq_true (by first | (with_reducible assumption) | assumption)
                  have q224 : x3_2 < (l0_13.length : Int) := of_decide_eq_true (by first | (with_reducible assumption) | assumption)
                  obtain ⟨ad224, e224, hx224_0, hx224_1, hx224_2, hx224_3⟩ := at_T53 HR0_13.out x3_2 p224 q224
                  cases e224
                  replace hx224_0 := (HB.out.cell (World.block_lt_of_cell? w _ hx224_0)).trans hx224_0
                  replace hx224_1 := (HB.out.cell (World.block_lt_of_cell? w _ hx224_1)).trans hx224_1
                  replace hx224_2 := (HB.out.cell (World.block_lt_of_cell? w _ hx224_2)).trans hx224_2
                  replace hx224_3 := (HB.out.cell (World.block_lt_of_cell? w _ hx224_3)).trans hx224_3
                  replace p224 := eq_true p224
                  replace q224 := eq_true q224
                  go_wp2
                  go_roundg k2
                  case measure => have := HJ1.out; have := HK2.out; omega
                  case rel => exact ⟨(wrap64 (x3_2 + 1)), (by first | rfl | (simp; done) | (simp [*]; done)), H', ⟨by have := HJ1.out; have := HK2.out; omega⟩, ⟨by (with_reducible repeat (first | refine blk_drewN ?_ _ | refine blk_drew ?_ | refine blk_alloc ?_ _)); exact BK223.out⟩, ⟨by repeat (first | (with_reducible first | exact HB.out | apply below_alloc | apply pw_below_drewN | apply below_drew1 | refine below_set ?_ GE223.out) | exact HB.out)⟩⟩
              · rw [if_neg c11] at H
                exact absurd H (by simp)
            · rw [if_neg c10] at H
              have c10b0 : decide (x3_2 < (l0_13.length : Int)) = false := decide_eq_false c10
              clear c10
              obtain rfl := Option.some.inj H
              have hcz15_0 : wr.cell? ⟨gb223, 0, none⟩ = some (.int .i64 a0_0) := (blk_cell BK223.out 0).trans rfl
              have hcz15_1 : wr.cell? ⟨gb223, 1, none⟩ = some (.int .i64 a0_1) := (blk_cell BK223.out 1).trans rfl
              have hcz15_2 : wr.cell? ⟨gb223, 2, none⟩ = some (.int .i64 a0_2) := (blk_cell BK223.out 2).trans rfl
              have hcz15_3 : wr.cell? ⟨gb223, 3, none⟩ = some (.int .u64 a0_3) := (blk_cell BK223.out 3).trans rfl
              have hcz15_4 : wr.cell? ⟨gb223, 4, none⟩ = some (.int .i64 a0_4) := (blk_cell BK223.out 4).trans rfl
              have hcz15_5 : wr.cell? ⟨gb223, 5, none⟩ = some (.slice A0_5 l0_5.length c0_5) := (blk_cell BK223.out 5).trans rfl
              have hcz15_6 : wr.cell? ⟨gb223, 6, none⟩ = some (.int .u64 a0_6) := (blk_cell BK223.out 6).trans rfl
              have hcz15_7 : wr.cell? ⟨gb223, 7, none⟩ = some (.int .u64 a0_7) := (blk_cell BK223.out 7).trans rfl
              have hcz15_8 : wr.cell? ⟨gb223, 8, none⟩ = some (.int .u64 a0_8) := (blk_cell BK223.out 8).trans rfl
              have hcz15_9 : wr.cell? ⟨gb223, 9, none⟩ = some (.int .u64 a0_9) := (blk_cell BK223.out 9).trans rfl
              have hcz15_10 : wr.cell? ⟨gb223, 10, none⟩ = some (.int .u64 a0_10) := (blk_cell BK223.out 10).trans rfl
              have hcz15_11 : wr.cell? ⟨gb223, 11, none⟩ = some (.int .u64 a0_11) := (blk_cell BK223.out 11).trans rfl
              have hcz15_12 : wr.cell? ⟨gb223, 12, none⟩ = some (.int .u64 a0_12) := (blk_cell BK223.out 12).trans rfl
              have hcz15_13 : wr.cell? ⟨gb223, 13, none⟩ = some (.slice A0_13 l0_13.length c0_13) := (blk_cell BK223.out 13).trans rfl
              have hcz15_14 : wr.cell? ⟨gb223, 14, none⟩ = some (.slice A0_14 l0_14.length c0_14) := (blk_cell BK223.out 14).trans rfl
              have hcz15_15 : wr.cell? ⟨gb223, 15, none⟩ = some (.float .f64 a0_15) := (blk_cell BK223.out 15).trans rfl
              have hfz15_0 := blk_frozen BK223.out 0
              have hfz15_1 := blk_frozen BK223.out 1
              have hfz15_2 := blk_frozen BK223.out 2
              have hfz15_3 := blk_frozen BK223.out 3
              have hfz15_4 := blk_frozen BK223.out 4
              have hfz15_5 := blk_frozen BK223.out 5
              have hfz15_6 := blk_frozen BK223.out 6
              have hfz15_7 := blk_frozen BK223.out 7
              have hfz15_8 := blk_frozen BK223.out 8
              have hfz15_9 := blk_frozen BK223.out 9
              have hfz15_10 := blk_frozen BK223.out 10
              have hfz15_11 := blk_frozen BK223.out 11
              have hfz15_12 := blk_frozen BK223.out 12
              have hfz15_13 := blk_frozen BK223.out 13
              have hfz15_14 := blk_frozen BK223.out 14
              have hfz15_15 := blk_frozen BK223.out 15
              go_wp2
              go_ret
              exact ⟨by first | rfl | (simp [errW_none, errW_some] <;> rfl) | (simp [*, errW_none, errW_some] <;> rfl), by repeat (first | (with_reducible first | exact HB.out | apply below_alloc | apply pw_below_drewN | apply below_drew1 | refine below_set ?_ GE223.out) | exact HB.out)⟩

-- NOT PRINTED: function 4 (conventiclelaw15_LetterBack)

-- NOT PRINTED: function 5 (conventiclelaw15_LetterMay)

end Go.Proofs.Ytondgoabnmgcaaa.B
end
section
namespace Go.Proofs.Ytondgoabnmgcaaa.B
open Go.RowKit Go.Proofs.YtondgoabnmgcaaaW.PrintWords Go.Proofs.YtondgoabnmgcaaaW.PrintLast Go.Proofs.YtondgoabnmgcaaaW.PrintMore
attribute [local go_sem] max2_int min2_int max_two min_two max_three min_three max_four min_four   -- for this text's walks alone
set_option linter.unusedVariables false
set_option linter.unusedSimpArgs false

/-! ### conventicleref15_May: function 20 -/
mutual
def conventicleref15_May.j0 : Nat → Bool → Int → Int → Int → Int → Int → List (S70) → Int → Int → Int → Int → Int → Int → Int → List (S90) → List (S77) → Nat → Option (Bool)
  | 0, _, _, _, _, _, _, _, _, _, _, _, _, _, _, _, _, _ => none
  | k + 1, x71, x121000, x121001, x121002, x121003, x121004, x121005, x121006, x121007, x121008, x121009, x121010, x121011, x121012, x121013, x121014, x121015 => if x71 = true then (some false) else (conventicleref15_May.l0 k 0 x121000 x121001 x121002 x121003 x121004 x121005 x121006 x121007 x121008 x121009 x121010 x121011 x121012 x121013 x121014 x121015)
def conventicleref15_May.l0 : Nat → Int → Int → Int → Int → Int → Int → List (S70) → Int → Int → Int → Int → Int → Int → Int → List (S90) → List (S77) → Nat → Option (Bool)
  | 0, _, _, _, _, _, _, _, _, _, _, _, _, _, _, _, _, _ => none
  | k + 1, x3, x121000, x121001, x121002, x121003, x121004, x121005, x121006, x121007, x121008, x121009, x121010, x121011, x121012, x121013, x121014, x121015 => if x3 < (x121005.length : Int) then (if 0 ≤ x3 then ((conventicleref06_May.f ((rd_T70 x121005 x3).f0) ((rd_T70 x121005 x3).f1) ((rd_T70 x121005 x3).f2)).bind fun t127 => (if t127 = true then (conventicleref15_May.l0 k (wrap64 (x3 + 1)) x121000 x121001 x121002 x121003 x121004 x121005 x121006 x121007 x121008 x121009 x121010 x121011 x121012 x121013 x121014 x121015) else (some false))) else (none)) else (conventicleref15_May.l1 k 0 x121000 x121001 x121002 x121003 x121004 x121005 x121006 x121007 x121008 x121009 x121010 x121011 x121012 x121013 x121014 x121015)
def conventicleref15_May.l1 : Nat → Int → Int → Int → Int → Int → Int → List (S70) → Int → Int → Int → Int → Int → Int → Int → List (S90) → List (S77) → Nat → Option (Bool)
  | 0, _, _, _, _, _, _, _, _, _, _, _, _, _, _, _, _, _ => none
  | k + 1, x4, x121000, x121001, x121002, x121003, x121004, x121005, x121006, x121007, x121008, x121009, x121010, x121011, x121012, x121013, x121014, x121015 => if x4 < (x121013.length : Int) then (if 0 ≤ x4 then ((conventicleref15_node.f ((rd_T90 x121013 x4).f1.f0)).bind fun t129 => (if t129 = true then (if (((rd_T90 x121013 x4).f1.f2).size : Int) > 64 then (some false) else (conventicleref15_May.l1 k (wrap64 (x4 + 1)) x121000 x121001 x121002 x121003 x121004 x121005 x121006 x121007 x121008 x121009 x121010 x121011 x121012 x121013 x121014 x121015)) else (some false))) else (none)) else (some true)
end
def conventicleref15_May.f (k : Nat) (a0_0 : Int) (a0_1 : Int) (a0_2 : Int) (a0_3 : Int) (a0_4 : Int) (l0_5 : List (S70)) (a0_6 : Int) (a0_7 : Int) (a0_8 : Int) (a0_9 : Int) (a0_10 : Int) (a0_11 : Int) (a0_12 : Int) (l0_13 : List (S90)) (l0_14 : List (S77)) (a0_15 : Nat) : Option (Bool) := if a0_0 < 1 then (conventicleref15_May.j0 k true a0_0 a0_1 a0_2 a0_3 a0_4 l0_5 a0_6 a0_7 a0_8 a0_9 a0_10 a0_11 a0_12 l0_13 l0_14 a0_15) else (if a0_0 > 14 then (conventicleref15_May.j0 k true a0_0 a0_1 a0_2 a0_3 a0_4 l0_5 a0_6 a0_7 a0_8 a0_9 a0_10 a0_11 a0_12 l0_13 l0_14 a0_15) else ((conventicleref15_node.f a0_1).bind fun t121 => (if t121 = true then ((conventicleref15_node.f a0_2).bind fun t122 => (if t122 = true then ((conventicleref15_node.f a0_4).bind fun t123 => (if t123 = true then (if (l0_5.length : Int) > 8 then (conventicleref15_May.j0 k true a0_0 a0_1 a0_2 a0_3 a0_4 l0_5 a0_6 a0_7 a0_8 a0_9 a0_10 a0_11 a0_12 l0_13 l0_14 a0_15) else (if (l0_13.length : Int) > 6 then (conventicleref15_May.j0 k true a0_0 a0_1 a0_2 a0_3 a0_4 l0_5 a0_6 a0_7 a0_8 a0_9 a0_10 a0_11 a0_12 l0_13 l0_14 a0_15) else (if (l0_14.length : Int) > 16 then (conventicleref15_May.j0 k true a0_0 a0_1 a0_2 a0_3 a0_4 l0_5 a0_6 a0_7 a0_8 a0_9 a0_10 a0_11 a0_12 l0_13 l0_14 a0_15) else ((conventicleref12_May.f k l0_14).bind fun t124 => (if t124 = true then (if (FloatKind.f64.format.order a0_15 a0_15 != some Ordering.eq) = true then (conventicleref15_May.j0 k true a0_0 a0_1 a0_2 a0_3 a0_4 l0_5 a0_6 a0_7 a0_8 a0_9 a0_10 a0_11 a0_12 l0_13 l0_14 a0_15) else (if (FloatKind.f64.format.order a0_15 0 == some Ordering.lt) = true then (conventicleref15_May.j0 k true a0_0 a0_1 a0_2 a0_3 a0_4 l0_5 a0_6 a0_7 a0_8 a0_9 a0_10 a0_11 a0_12 l0_13 l0_14 a0_15) else ((math_Signbit.f a0_15).bind fun t125 => (conventicleref15_May.j0 k t125 a0_0 a0_1 a0_2 a0_3 a0_4 l0_5 a0_6 a0_7 a0_8 a0_9 a0_10 a0_11 a0_12 l0_13 l0_14 a0_15)))) else (conventicleref15_May.j0 k true a0_0 a0_1 a0_2 a0_3 a0_4 l0_5 a0_6 a0_7 a0_8 a0_9 a0_10 a0_11 a0_12 l0_13 l0_14 a0_15)))))) else (conventicleref15_May.j0 k true a0_0 a0_1 a0_2 a0_3 a0_4 l0_5 a0_6 a0_7 a0_8 a0_9 a0_10 a0_11 a0_12 l0_13 l0_14 a0_15))) else (conventicleref15_May.j0 k true a0_0 a0_1 a0_2 a0_3 a0_4 l0_5 a0_6 a0_7 a0_8 a0_9 a0_10 a0_11 a0_12 l0_13 l0_14 a0_15))) else (conventicleref15_May.j0 k true a0_0 a0_1 a0_2 a0_3 a0_4 l0_5 a0_6 a0_7 a0_8 a0_9 a0_10 a0_11 a0_12 l0_13 l0_14 a0_15))))
set_option maxHeartbeats 8000000 in
set_option maxRecDepth 100000 in
theorem conventicleref15_May.calls (k : Nat) (a0_0 : Int) (a0_1 : Int) (a0_2 : Int) (a0_3 : Int) (a0_4 : Int) (A0_5 : Option Addr) (c0_5 : Nat) (l0_5 : List (S70)) (a0_6 : Int) (a0_7 : Int) (a0_8 : Int) (a0_9 : Int) (a0_10 : Int) (a0_11 : Int) (a0_12 : Int) (A0_13 : Option Addr) (c0_13 : Nat) (l0_13 : List (S90)) (A0_14 : Option Addr) (c0_14 : Nat) (l0_14 : List (S77)) (a0_15 : Nat) (r : Bool) (w : World) (hr0_5 : Kd.C k70 w A0_5 l0_5.length l0_5) (hc0_5 : l0_5.length ≤ c0_5) (hr0_13 : Kd.C k90 w A0_13 l0_13.length l0_13) (hc0_13 : l0_13.length ≤ c0_13) (hr0_14 : Kd.C k77 w A0_14 l0_14.length l0_14) (hc0_14 : l0_14.length ≤ c0_14) (h : conventicleref15_May.f k a0_0 a0_1 a0_2 a0_3 a0_4 l0_5 a0_6 a0_7 a0_8 a0_9 a0_10 a0_11 a0_12 l0_13 l0_14 a0_15 = some r) :
    Calls Try.prog 20 #[.agg #[.int .i64 a0_0, .int .i64 a0_1, .int .i64 a0_2, .int .u64 a0_3, .int .i64 a0_4, .slice A0_5 l0_5.length c0_5, .int .u64 a0_6, .int .u64 a0_7, .int .u64 a0_8, .int .u64 a0_9, .int .u64 a0_10, .int .u64 a0_11, .int .u64 a0_12, .slice A0_13 l0_13.length c0_13, .slice A0_14 l0_14.length c0_14, .float .f64 a0_15]] w fun e w' => e = .returned (.bool r) ∧ Below w.heap.size w w' := by
  have hu38 := Try.underlying38
  have hu70 := Try.underlying70
  have HR0_5 := Aside0.mk hr0_5
  have HC0_5 := Aside0.mk hc0_5
  clear hr0_5 hc0_5
  have HR0_13 := Aside0.mk hr0_13
  have HC0_13 := Aside0.mk hc0_13
  clear hr0_13 hc0_13
  have HR0_14 := Aside0.mk hr0_14
  have HC0_14 := Aside0.mk hc0_14
  clear hr0_14 hc0_14
  have HB := Aside0.mk (Below.refl w.heap.size w)
  have H : (if a0_0 < 1 then (conventicleref15_May.j0 k true a0_0 a0_1 a0_2 a0_3 a0_4 l0_5 a0_6 a0_7 a0_8 a0_9 a0_10 a0_11 a0_12 l0_13 l0_14 a0_15) else (if a0_0 > 14 then (conventicleref15_May.j0 k true a0_0 a0_1 a0_2 a0_3 a0_4 l0_5 a0_6 a0_7 a0_8 a0_9 a0_10 a0_11 a0_12 l0_13 l0_14 a0_15) else ((conventicleref15_node.f a0_1).bind fun t121 => (if t121 = true then ((conventicleref15_node.f a0_2).bind fun t122 => (if t122 = true then ((conventicleref15_node.f a0_4).bind fun t123 => (if t123 = true then (if (l0_5.length : Int) > 8 then (conventicleref15_May.j0 k true a0_0 a0_1 a0_2 a0_3 a0_4 l0_5 a0_6 a0_7 a0_8 a0_9 a0_10 a0_11 a0_12 l0_13 l0_14 a0_15) else (if (l0_13.length : Int) > 6 then (conventicleref15_May.j0 k true a0_0 a0_1 a0_2 a0_3 a0_4 l0_5 a0_6 a0_7 a0_8 a0_9 a0_10 a0_11 a0_12 l0_13 l0_14 a0_15) else (if (l0_14.length : Int) > 16 then (conventicleref15_May.j0 k true a0_0 a0_1 a0_2 a0_3 a0_4 l0_5 a0_6 a0_7 a0_8 a0_9 a0_10 a0_11 a0_12 l0_13 l0_14 a0_15) else ((conventicleref12_May.f k l0_14).bind fun t124 => (if t124 = true then (if (FloatKind.f64.format.order a0_15 a0_15 != some Ordering.eq) = true then (conventicleref15_May.j0 k true a0_0 a0_1 a0_2 a0_3 a0_4 l0_5 a0_6 a0_7 a0_8 a0_9 a0_10 a0_11 a0_12 l0_13 l0_14 a0_15) else (if (FloatKind.f64.format.order a0_15 0 == some Ordering.lt) = true then (conventicleref15_May.j0 k true a0_0 a0_1 a0_2 a0_3 a0_4 l0_5 a0_6 a0_7 a0_8 a0_9 a0_10 a0_11 a0_12 l0_13 l0_14 a0_15) else ((math_Signbit.f a0_15).bind fun t125 => (conventicleref15_May.j0 k t125 a0_0 a0_1 a0_2 a0_3 a0_4 l0_5 a0_6 a0_7 a0_8 a0_9 a0_10 a0_11 a0_12 l0_13 l0_14 a0_15)))) else (conventicleref15_May.j0 k true a0_0 a0_1 a0_2 a0_3 a0_4 l0_5 a0_6 a0_7 a0_8 a0_9 a0_10 a0_11 a0_12 l0_13 l0_14 a0_15)))))) else (conventicleref15_May.j0 k true a0_0 a0_1 a0_2 a0_3 a0_4 l0_5 a0_6 a0_7 a0_8 a0_9 a0_10 a0_11 a0_12 l0_13 l0_14 a0_15))) else (conventicleref15_May.j0 k true a0_0 a0_1 a0_2 a0_3 a0_4 l0_5 a0_6 a0_7 a0_8 a0_9 a0_10 a0_11 a0_12 l0_13 l0_14 a0_15))) else (conventicleref15_May.j0 k true a0_0 a0_1 a0_2 a0_3 a0_4 l0_5 a0_6 a0_7 a0_8 a0_9 a0_10 a0_11 a0_12 l0_13 l0_14 a0_15))))) = some r := h
  clear h
  have HC2 := Aside0.mk H
  clear H
  go_enter Try.func20, Try.ntmps20
  go_upto_region 1 with (first | ((with_reducible refine gate_dst (N := 1) rfl ?_); (try (refine gate_guard (by rfl) ?_; dsimp only)); refine box_event ?hg (N := 1) ?hd (cs := #[.int .i64 a0_0, .int .i64 a0_1, .int .i64 a0_2, .int .u64 a0_3, .int .i64 a0_4, .slice A0_5 l0_5.length c0_5, .int .u64 a0_6, .int .u64 a0_7, .int .u64 a0_8, .int .u64 a0_9, .int .u64 a0_10, .int .u64 a0_11, .int .u64 a0_12, .slice A0_13 l0_13.length c0_13, .slice A0_14 l0_14.length c0_14, .float .f64 a0_15]) (t := 38) ?hr ?_; (case hd => rfl); (case hg => rfl); (case hr => first | (go_simp; done) | (go_simp; rfl)); intro gb120 hg w3 hbox hb; have n0_ := Aside0.mk (below_step (by repeat (first | (with_reducible first | exact HB.out | apply below_alloc | apply pw_below_drewN | apply below_drew1) | exact HB.out)) hb); have n1_ := Aside0.mk (hbox); have n2_ := Aside0.mk ((by rw [hg]; exact (below_size (by repeat (first | (with_reducible first | exact HB.out | apply below_alloc | apply pw_below_drewN | apply below_drew1) | exact HB.out))) : w.heap.size ≤ gb120)); have n3_ := Aside0.mk ((by rw [hg]; exact (below_size (by repeat (first | (with_reducible first | exact HB.out | apply below_alloc | apply pw_below_drewN | apply below_drew1) | exact HB.out))) : w.heap.size ≤ gb120)); clear HB; have HB := n0_; have BK120 := n1_; have GW120 := n2_; have GE120 := n3_; clear n0_ n1_ n2_ n3_; clear hb hbox hg))
  (try simp only [Act.put, List.setIfInBounds_toArray, List.set_cons_zero, List.set_cons_succ])
  go_cut [71] (fun v71 wc => ∃ (kq : Nat) (x71_1 : Bool), v71 = .bool x71_1 ∧ Aside0 (conventicleref15_May.j0 kq x71_1 a0_0 a0_1 a0_2 a0_3 a0_4 l0_5 a0_6 a0_7 a0_8 a0_9 a0_10 a0_11 a0_12 l0_13 l0_14 a0_15 = some r) ∧ Aside0 (kq ≤ k) ∧ Aside0 (wc.heap[gb120]? = some (.cells #[.int .i64 a0_0, .int .i64 a0_1, .int .i64 a0_2, .int .u64 a0_3, .int .i64 a0_4, (.slice A0_5 l0_5.length c0_5), .int .u64 a0_6, .int .u64 a0_7, .int .u64 a0_8, .int .u64 a0_9, .int .u64 a0_10, .int .u64 a0_11, .int .u64 a0_12, (.slice A0_13 l0_13.length c0_13), (.slice A0_14 l0_14.length c0_14), .float .f64 a0_15] 38 (0, 0))) ∧ Aside0 (Below w.heap.size w wc))
  case first =>
    have H := HC2.out
    clear HC2
    by_cases c4 : a0_0 < 1
    · rw [if_pos c4] at H
      have c4b0 : decide (a0_0 < 1) = true := decide_eq_true c4
      clear c4
      (first | rw [c4b0] | (simp only [i64_w, i32_w]; rw [c4b0]) | skip)
      have H' := Aside0.mk H
      clear H
      have hcz5_0 : w3.cell? ⟨gb120, 0, none⟩ = some (.int .i64 a0_0) := (blk_cell BK120.out 0).trans rfl
      have hcz5_1 : w3.cell? ⟨gb120, 1, none⟩ = some (.int .i64 a0_1) := (blk_cell BK120.out 1).trans rfl
      have hcz5_2 : w3.cell? ⟨gb120, 2, none⟩ = some (.int .i64 a0_2) := (blk_cell BK120.out 2).trans rfl
      have hcz5_3 : w3.cell? ⟨gb120, 3, none⟩ = some (.int .u64 a0_3) := (blk_cell BK120.out 3).trans rfl
      have hcz5_4 : w3.cell? ⟨gb120, 4, none⟩ = some (.int .i64 a0_4) := (blk_cell BK120.out 4).trans rfl
      have hcz5_5 : w3.cell? ⟨gb120, 5, none⟩ = some (.slice A0_5 l0_5.length c0_5) := (blk_cell BK120.out 5).trans rfl
      have hcz5_6 : w3.cell? ⟨gb120, 6, none⟩ = some (.int .u64 a0_6) := (blk_cell BK120.out 6).trans rfl
      have hcz5_7 : w3.cell? ⟨gb120, 7, none⟩ = some (.int .u64 a0_7) := (blk_cell BK120.out 7).trans rfl
      have hcz5_8 : w3.cell? ⟨gb120, 8, none⟩ = some (.int .u64 a0_8) := (blk_cell BK120.out 8).trans rfl
      have hcz5_9 : w3.cell? ⟨gb120, 9, none⟩ = some (.int .u64 a0_9) := (blk_cell BK120.out 9).trans rfl
      have hcz5_10 : w3.cell? ⟨gb120, 10, none⟩ = some (.int .u64 a0_10) := (blk_cell BK120.out 10).trans rfl
      have hcz5_11 : w3.cell? ⟨gb120, 11, none⟩ = some (.int .u64 a0_11) := (blk_cell BK120.out 11).trans rfl
      have hcz5_12 : w3.cell? ⟨gb120, 12, none⟩ = some (.int .u64 a0_12) := (blk_cell BK120.out 12).trans rfl
      have hcz5_13 : w3.cell? ⟨gb120, 13, none⟩ = some (.slice A0_13 l0_13.length c0_13) := (blk_cell BK120.out 13).trans rfl
      have hcz5_14 : w3.cell? ⟨gb120, 14, none⟩ = some (.slice A0_14 l0_14.length c0_14) := (blk_cell BK120.out 14).trans rfl
      have hcz5_15 : w3.cell? ⟨gb120, 15, none⟩ = some (.float .f64 a0_15) := (blk_cell BK120.out 15).trans rfl
      have hfz5_0 := blk_frozen BK120.out 0
      have hfz5_1 := blk_frozen BK120.out 1
      have hfz5_2 := blk_frozen BK120.out 2
      have hfz5_3 := blk_frozen BK120.out 3
      have hfz5_4 := blk_frozen BK120.out 4
      have hfz5_5 := blk_frozen BK120.out 5
      have hfz5_6 := blk_frozen BK120.out 6
      have hfz5_7 := blk_frozen BK120.out 7
      have hfz5_8 := blk_frozen BK120.out 8
      have hfz5_9 := blk_frozen BK120.out 9
      have hfz5_10 := blk_frozen BK120.out 10
      have hfz5_11 := blk_frozen BK120.out 11
      have hfz5_12 := blk_frozen BK120.out 12
      have hfz5_13 := blk_frozen BK120.out 13
      have hfz5_14 := blk_frozen BK120.out 14
      have hfz5_15 := blk_frozen BK120.out 15
      go_wp2
      go_meet
      case rel => exact ⟨_, (true), (by first | rfl | (simp; done) | (simp [*]; done)), H', ⟨by first | omega | exact Nat.le_refl _⟩, ⟨by (with_reducible repeat (first | refine blk_drewN ?_ _ | refine blk_drew ?_ | refine blk_alloc ?_ _)); exact BK120.out⟩, ⟨by repeat (first | (with_reducible first | exact HB.out | apply below_alloc | apply pw_below_drewN | apply below_drew1 | refine below_set ?_ GE120.out) | exact HB.out)⟩⟩
    · rw [if_neg c4] at H
      have c4b0 : decide (a0_0 < 1) = false := decide_eq_false c4
      clear c4
      (first | rw [c4b0] | (simp only [i64_w, i32_w]; rw [c4b0]) | skip)
      by_cases c6 : a0_0 > 14
      · rw [if_pos c6] at H
        have c6b0 : decide (14 < a0_0) = true := decide_eq_true c6
        clear c6
        have H' := Aside0.mk H
        clear H
        have hcz7_0 : w3.cell? ⟨gb120, 0, none⟩ = some (.int .i64 a0_0) := (blk_cell BK120.out 0).trans rfl
        have hcz7_1 : w3.cell? ⟨gb120, 1, none⟩ = some (.int .i64 a0_1) := (blk_cell BK120.out 1).trans rfl
        have hcz7_2 : w3.cell? ⟨gb120, 2, none⟩ = some (.int .i64 a0_2) := (blk_cell BK120.out 2).trans rfl
        have hcz7_3 : w3.cell? ⟨gb120, 3, none⟩ = some (.int .u64 a0_3) := (blk_cell BK120.out 3).trans rfl
        have hcz7_4 : w3.cell? ⟨gb120, 4, none⟩ = some (.int .i64 a0_4) := (blk_cell BK120.out 4).trans rfl
        have hcz7_5 : w3.cell? ⟨gb120, 5, none⟩ = some (.slice A0_5 l0_5.length c0_5) := (blk_cell BK120.out 5).trans rfl
        have hcz7_6 : w3.cell? ⟨gb120, 6, none⟩ = some (.int .u64 a0_6) := (blk_cell BK120.out 6).trans rfl
        have hcz7_7 : w3.cell? ⟨gb120, 7, none⟩ = some (.int .u64 a0_7) := (blk_cell BK120.out 7).trans rfl
        have hcz7_8 : w3.cell? ⟨gb120, 8, none⟩ = some (.int .u64 a0_8) := (blk_cell BK120.out 8).trans rfl
        have hcz7_9 : w3.cell? ⟨gb120, 9, none⟩ = some (.int .u64 a0_9) := (blk_cell BK120.out 9).trans rfl
        have hcz7_10 : w3.cell? ⟨gb120, 10, none⟩ = some (.int .u64 a0_10) := (blk_cell BK120.out 10).trans rfl
        have hcz7_11 : w3.cell? ⟨gb120, 11, none⟩ = some (.int .u64 a0_11) := (blk_cell BK120.out 11).trans rfl
        have hcz7_12 : w3.cell? ⟨gb120, 12, none⟩ = some (.int .u64 a0_12) := (blk_cell BK120.out 12).trans rfl
        have hcz7_13 : w3.cell? ⟨gb120, 13, none⟩ = some (.slice A0_13 l0_13.length c0_13) := (blk_cell BK120.out 13).trans rfl
        have hcz7_14 : w3.cell? ⟨gb120, 14, none⟩ = some (.slice A0_14 l0_14.length c0_14) := (blk_cell BK120.out 14).trans rfl
        have hcz7_15 : w3.cell? ⟨gb120, 15, none⟩ = some (.float .f64 a0_15) := (blk_cell BK120.out 15).trans rfl
        have hfz7_0 := blk_frozen BK120.out 0
        have hfz7_1 := blk_frozen BK120.out 1
        have hfz7_2 := blk_frozen BK120.out 2
        have hfz7_3 := blk_frozen BK120.out 3
        have hfz7_4 := blk_frozen BK120.out 4
        have hfz7_5 := blk_frozen BK120.out 5
        have hfz7_6 := blk_frozen BK120.out 6
        have hfz7_7 := blk_frozen BK120.out 7
        have hfz7_8 := blk_frozen BK120.out 8
        have hfz7_9 := blk_frozen BK120.out 9
        have hfz7_10 := blk_frozen BK120.out 10
        have hfz7_11 := blk_frozen BK120.out 11
        have hfz7_12 := blk_frozen BK120.out 12
        have hfz7_13 := blk_frozen BK120.out 13
        have hfz7_14 := blk_frozen BK120.out 14
        have hfz7_15 := blk_frozen BK120.out 15
        go_wp2
        go_meet
        case rel => exact ⟨_, (true), (by first | rfl | (simp; done) | (simp [*]; done)), H', ⟨by first | omega | exact Nat.le_refl _⟩, ⟨by (with_reducible repeat (first | refine blk_drewN ?_ _ | refine blk_drew ?_ | refine blk_alloc ?_ _)); exact BK120.out⟩, ⟨by repeat (first | (with_reducible first | exact HB.out | apply below_alloc | apply pw_below_drewN | apply below_drew1 | refine below_set ?_ GE120.out) | exact HB.out)⟩⟩
      · rw [if_neg c6] at H
        have c6b0 : decide (14 < a0_0) = false := decide_eq_false c6
        clear c6
        replace H := Option.bind_eq_some_iff.mp H
        obtain ⟨t121, A80, H⟩ := H
        replace H : (if t121 = true then ((conventicleref15_node.f a0_2).bind fun t122 => (if t122 = true then ((conventicleref15_node.f a0_4).bind fun t123 => (if t123 = true then (if (l0_5.length : Int) > 8 then (conventicleref15_May.j0 k true a0_0 a0_1 a0_2 a0_3 a0_4 l0_5 a0_6 a0_7 a0_8 a0_9 a0_10 a0_11 a0_12 l0_13 l0_14 a0_15) else (if (l0_13.length : Int) > 6 then (conventicleref15_May.j0 k true a0_0 a0_1 a0_2 a0_3 a0_4 l0_5 a0_6 a0_7 a0_8 a0_9 a0_10 a0_11 a0_12 l0_13 l0_14 a0_15) else (if (l0_14.length : Int) > 16 then (conventicleref15_May.j0 k true a0_0 a0_1 a0_2 a0_3 a0_4 l0_5 a0_6 a0_7 a0_8 a0_9 a0_10 a0_11 a0_12 l0_13 l0_14 a0_15) else ((conventicleref12_May.f k l0_14).bind fun t124 => (if t124 = true then (if (FloatKind.f64.format.order a0_15 a0_15 != some Ordering.eq) = true then (conventicleref15_May.j0 k true a0_0 a0_1 a0_2 a0_3 a0_4 l0_5 a0_6 a0_7 a0_8 a0_9 a0_10 a0_11 a0_12 l0_13 l0_14 a0_15) else (if (FloatKind.f64.format.order a0_15 0 == some Ordering.lt) = true then (conventicleref15_May.j0 k true a0_0 a0_1 a0_2 a0_3 a0_4 l0_5 a0_6 a0_7 a0_8 a0_9 a0_10 a0_11 a0_12 l0_13 l0_14 a0_15) else ((math_Signbit.f a0_15).bind fun t125 => (conventicleref15_May.j0 k t125 a0_0 a0_1 a0_2 a0_3 a0_4 l0_5 a0_6 a0_7 a0_8 a0_9 a0_10 a0_11 a0_12 l0_13 l0_14 a0_15)))) else (conventicleref15_May.j0 k true a0_0 a0_1 a0_2 a0_3 a0_4 l0_5 a0_6 a0_7 a0_8 a0_9 a0_10 a0_11 a0_12 l0_13 l0_14 a0_15)))))) else (conventicleref15_May.j0 k true a0_0 a0_1 a0_2 a0_3 a0_4 l0_5 a0_6 a0_7 a0_8 a0_9 a0_10 a0_11 a0_12 l0_13 l0_14 a0_15))) else (conventicleref15_May.j0 k true a0_0 a0_1 a0_2 a0_3 a0_4 l0_5 a0_6 a0_7 a0_8 a0_9 a0_10 a0_11 a0_12 l0_13 l0_14 a0_15))) else (conventicleref15_May.j0 k true a0_0 a0_1 a0_2 a0_3 a0_4 l0_5 a0_6 a0_7 a0_8 a0_9 a0_10 a0_11 a0_12 l0_13 l0_14 a0_15)) = some r := H
        have A8 := Aside0.mk A80
        clear A80
        by_cases c9 : t121 = true
        · subst c9
          have H1 : ((conventicleref15_node.f a0_2).bind fun t122 => (if t122 = true then ((conventicleref15_node.f a0_4).bind fun t123 => (if t123 = true then (if (l0_5.length : Int) > 8 then (conventicleref15_May.j0 k true a0_0 a0_1 a0_2 a0_3 a0_4 l0_5 a0_6 a0_7 a0_8 a0_9 a0_10 a0_11 a0_12 l0_13 l0_14 a0_15) else (if (l0_13.length : Int) > 6 then (conventicleref15_May.j0 k true a0_0 a0_1 a0_2 a0_3 a0_4 l0_5 a0_6 a0_7 a0_8 a0_9 a0_10 a0_11 a0_12 l0_13 l0_14 a0_15) else (if (l0_14.length : Int) > 16 then (conventicleref15_May.j0 k true a0_0 a0_1 a0_2 a0_3 a0_4 l0_5 a0_6 a0_7 a0_8 a0_9 a0_10 a0_11 a0_12 l0_13 l0_14 a0_15) else ((conventicleref12_May.f k l0_14).bind fun t124 => (if t124 = true then (if (FloatKind.f64.format.order a0_15 a0_15 != some Ordering.eq) = true then (conventicleref15_May.j0 k true a0_0 a0_1 a0_2 a0_3 a0_4 l0_5 a0_6 a0_7 a0_8 a0_9 a0_10 a0_11 a0_12 l0_13 l0_14 a0_15) else (if (FloatKind.f64.format.order a0_15 0 == some Ordering.lt) = true then (conventicleref15_May.j0 k true a0_0 a0_1 a0_2 a0_3 a0_4 l0_5 a0_6 a0_7 a0_8 a0_9 a0_10 a0_11 a0_12 l0_13 l0_14 a0_15) else ((math_Signbit.f a0_15).bind fun t125 => (conventicleref15_May.j0 k t125 a0_0 a0_1 a0_2 a0_3 a0_4 l0_5 a0_6 a0_7 a0_8 a0_9 a0_10 a0_11 a0_12 l0_13 l0_14 a0_15)))) else (conventicleref15_May.j0 k true a0_0 a0_1 a0_2 a0_3 a0_4 l0_5 a0_6 a0_7 a0_8 a0_9 a0_10 a0_11 a0_12 l0_13 l0_14 a0_15)))))) else (conventicleref15_May.j0 k true a0_0 a0_1 a0_2 a0_3 a0_4 l0_5 a0_6 a0_7 a0_8 a0_9 a0_10 a0_11 a0_12 l0_13 l0_14 a0_15))) else (conventicleref15_May.j0 k true a0_0 a0_1 a0_2 a0_3 a0_4 l0_5 a0_6 a0_7 a0_8 a0_9 a0_10 a0_11 a0_12 l0_13 l0_14 a0_15))) = some r := by rw [if_pos rfl] at H; exact H
          clear H
          have H := H1
          clear H1
          replace H := Option.bind_eq_some_iff.mp H
          obtain ⟨t122, A100, H⟩ := H
          replace H : (if t122 = true then ((conventicleref15_node.f a0_4).bind fun t123 => (if t123 = true then (if (l0_5.length : Int) > 8 then (conventicleref15_May.j0 k true a0_0 a0_1 a0_2 a0_3 a0_4 l0_5 a0_6 a0_7 a0_8 a0_9 a0_10 a0_11 a0_12 l0_13 l0_14 a0_15) else (if (l0_13.length : Int) > 6 then (conventicleref15_May.j0 k true a0_0 a0_1 a0_2 a0_3 a0_4 l0_5 a0_6 a0_7 a0_8 a0_9 a0_10 a0_11 a0_12 l0_13 l0_14 a0_15) else (if (l0_14.length : Int) > 16 then (conventicleref15_May.j0 k true a0_0 a0_1 a0_2 a0_3 a0_4 l0_5 a0_6 a0_7 a0_8 a0_9 a0_10 a0_11 a0_12 l0_13 l0_14 a0_15) else ((conventicleref12_May.f k l0_14).bind fun t124 => (if t124 = true then (if (FloatKind.f64.format.order a0_15 a0_15 != some Ordering.eq) = true then (conventicleref15_May.j0 k true a0_0 a0_1 a0_2 a0_3 a0_4 l0_5 a0_6 a0_7 a0_8 a0_9 a0_10 a0_11 a0_12 l0_13 l0_14 a0_15) else (if (FloatKind.f64.format.order a0_15 0 == some Ordering.lt) = true then (conventicleref15_May.j0 k true a0_0 a0_1 a0_2 a0_3 a0_4 l0_5 a0_6 a0_7 a0_8 a0_9 a0_10 a0_11 a0_12 l0_13 l0_14 a0_15) else ((math_Signbit.f a0_15).bind fun t125 => (conventicleref15_May.j0 k t125 a0_0 a0_1 a0_2 a0_3 a0_4 l0_5 a0_6 a0_7 a0_8 a0_9 a0_10 a0_11 a0_12 l0_13 l0_14 a0_15)))) else (conventicleref15_May.j0 k true a0_0 a0_1 a0_2 a0_3 a0_4 l0_5 a0_6 a0_7 a0_8 a0_9 a0_10 a0_11 a0_12 l0_13 l0_14 a0_15)))))) else (conventicleref15_May.j0 k true a0_0 a0_1 a0_2 a0_3 a0_4 l0_5 a0_6 a0_7 a0_8 a0_9 a0_10 a0_11 a0_12 l0_13 l0_14 a0_15))) else (conventicleref15_May.j0 k true a0_0 a0_1 a0_2 a0_3 a0_4 l0_5 a0_6 a0_7 a0_8 a0_9 a0_10 a0_11 a0_12 l0_13 l0_14 a0_15)) = some r := H
          have A10 := Aside0.mk A100
          clear A100
          by_cases c11 : t122 = true
          · subst c11
            have H1 : ((conventicleref15_node.f a0_4).bind fun t123 => (if t123 = true then (if (l0_5.length : Int) > 8 then (conventicleref15_May.j0 k true a0_0 a0_1 a0_2 a0_3 a0_4 l0_5 a0_6 a0_7 a0_8 a0_9 a0_10 a0_11 a0_12 l0_13 l0_14 a0_15) else (if (l0_13.length : Int) > 6 then (conventicleref15_May.j0 k true a0_0 a0_1 a0_2 a0_3 a0_4 l0_5 a0_6 a0_7 a0_8 a0_9 a0_10 a0_11 a0_12 l0_13 l0_14 a0_15) else (if (l0_14.length : Int) > 16 then (conventicleref15_May.j0 k true a0_0 a0_1 a0_2 a0_3 a0_4 l0_5 a0_6 a0_7 a0_8 a0_9 a0_10 a0_11 a0_12 l0_13 l0_14 a0_15) else ((conventicleref12_May.f k l0_14).bind fun t124 => (if t124 = true then (if (FloatKind.f64.format.order a0_15 a0_15 != some Ordering.eq) = true then (conventicleref15_May.j0 k true a0_0 a0_1 a0_2 a0_3 a0_4 l0_5 a0_6 a0_7 a0_8 a0_9 a0_10 a0_11 a0_12 l0_13 l0_14 a0_15) else (if (FloatKind.f64.format.order a0_15 0 == some Ordering.lt) = true then (conventicleref15_May.j0 k true a0_0 a0_1 a0_2 a0_3 a0_4 l0_5 a0_6 a0_7 a0_8 a0_9 a0_10 a0_11 a0_12 l0_13 l0_14 a0_15) else ((math_Signbit.f a0_15).bind fun t125 => (conventicleref15_May.j0 k t125 a0_0 a0_1 a0_2 a0_3 a0_4 l0_5 a0_6 a0_7 a0_8 a0_9 a0_10 a0_11 a0_12 l0_13 l0_14 a0_15)))) else (conventicleref15_May.j0 k true a0_0 a0_1 a0_2 a0_3 a0_4 l0_5 a0_6 a0_7 a0_8 a0_9 a0_10 a0_11 a0_12 l0_13 l0_14 a0_15)))))) else (conventicleref15_May.j0 k true a0_0 a0_1 a0_2 a0_3 a0_4 l0_5 a0_6 a0_7 a0_8 a0_9 a0_10 a0_11 a0_12 l0_13 l0_14 a0_15))) = some r := by rw [if_pos rfl] at H; exact H
            clear H
            have H := H1
            clear H1
            replace H := Option.bind_eq_some_iff.mp H
            obtain ⟨t123, A120, H⟩ := H
            replace H : (if t123 = true then (if (l0_5.length : Int) > 8 then (conventicleref15_May.j0 k true a0_0 a0_1 a0_2 a0_3 a0_4 l0_5 a0_6 a0_7 a0_8 a0_9 a0_10 a0_11 a0_12 l0_13 l0_14 a0_15) else (if (l0_13.length : Int) > 6 then (conventicleref15_May.j0 k true a0_0 a0_1 a0_2 a0_3 a0_4 l0_5 a0_6 a0_7 a0_8 a0_9 a0_10 a0_11 a0_12 l0_13 l0_14 a0_15) else (if (l0_14.length : Int) > 16 then (conventicleref15_May.j0 k true a0_0 a0_1 a0_2 a0_3 a0_4 l0_5 a0_6 a0_7 a0_8 a0_9 a0_10 a0_11 a0_12 l0_13 l0_14 a0_15) else ((conventicleref12_May.f k l0_14).bind fun t124 => (if t124 = true then (if (FloatKind.f64.format.order a0_15 a0_15 != some Ordering.eq) = true then (conventicleref15_May.j0 k true a0_0 a0_1 a0_2 a0_3 a0_4 l0_5 a0_6 a0_7 a0_8 a0_9 a0_10 a0_11 a0_12 l0_13 l0_14 a0_15) else (if (FloatKind.f64.format.order a0_15 0 == some Ordering.lt) = true then (conventicleref15_May.j0 k true a0_0 a0_1 a0_2 a0_3 a0_4 l0_5 a0_6 a0_7 a0_8 a0_9 a0_10 a0_11 a0_12 l0_13 l0_14 a0_15) else ((math_Signbit.f a0_15).bind fun t125 => (conventicleref15_May.j0 k t125 a0_0 a0_1 a0_2 a0_3 a0_4 l0_5 a0_6 a0_7 a0_8 a0_9 a0_10 a0_11 a0_12 l0_13 l0_14 a0_15)))) else (conventicleref15_May.j0 k true a0_0 a0_1 a0_2 a0_3 a0_4 l0_5 a0_6 a0_7 a0_8 a0_9 a0_10 a0_11 a0_12 l0_13 l0_14 a0_15)))))) else (conventicleref15_May.j0 k true a0_0 a0_1 a0_2 a0_3 a0_4 l0_5 a0_6 a0_7 a0_8 a0_9 a0_10 a0_11 a0_12 l0_13 l0_14 a0_15)) = some r := H
            have A12 := Aside0.mk A120
            clear A120
            by_cases c13 : t123 = true
            · subst c13
              have H1 : (if (l0_5.length : Int) > 8 then (conventicleref15_May.j0 k true a0_0 a0_1 a0_2 a0_3 a0_4 l0_5 a0_6 a0_7 a0_8 a0_9 a0_10 a0_11 a0_12 l0_13 l0_14 a0_15) else (if (l0_13.length : Int) > 6 then (conventicleref15_May.j0 k true a0_0 a0_1 a0_2 a0_3 a0_4 l0_5 a0_6 a0_7 a0_8 a0_9 a0_10 a0_11 a0_12 l0_13 l0_14 a0_15) else (if (l0_14.length : Int) > 16 then (conventicleref15_May.j0 k true a0_0 a0_1 a0_2 a0_3 a0_4 l0_5 a0_6 a0_7 a0_8 a0_9 a0_10 a0_11 a0_12 l0_13 l0_14 a0_15) else ((conventicleref12_May.f k l0_14).bind fun t124 => (if t124 = true then (if (FloatKind.f64.format.order a0_15 a0_15 != some Ordering.eq) = true then (conventicleref15_May.j0 k true a0_0 a0_1 a0_2 a0_3 a0_4 l0_5 a0_6 a0_7 a0_8 a0_9 a0_10 a0_11 a0_12 l0_13 l0_14 a0_15) else (if (FloatKind.f64.format.order a0_15 0 == some Ordering.lt) = true then (conventicleref15_May.j0 k true a0_0 a0_1 a0_2 a0_3 a0_4 l0_5 a0_6 a0_7 a0_8 a0_9 a0_10 a0_11 a0_12 l0_13 l0_14 a0_15) else ((math_Signbit.f a0_15).bind fun t125 => (conventicleref15_May.j0 k t125 a0_0 a0_1 a0_2 a0_3 a0_4 l0_5 a0_6 a0_7 a0_8 a0_9 a0_10 a0_11 a0_12 l0_13 l0_14 a0_15)))) else (conventicleref15_May.j0 k true a0_0 a0_1 a0_2 a0_3 a0_4 l0_5 a0_6 a0_7 a0_8 a0_9 a0_10 a0_11 a0_12 l0_13 l0_14 a0_15)))))) = some r := by rw [if_pos rfl] at H; exact H
              clear H
              have H := H1
              clear H1
              by_cases c14 : (l0_5.length : Int) > 8
              · rw [if_pos c14] at H
                have c14b0 : decide (8 < (l0_5.length : Int)) = true := decide_eq_true c14
                have c14b1 : decide (8 < l0_5.length) = true := decide_eq_true (by omega)
                clear c14
                have H' := Aside0.mk H
                clear H
                have hcz15_0 : w3.cell? ⟨gb120, 0, none⟩ = some (.int .i64 a0_0) := (blk_cell BK120.out 0).trans rfl
                have hcz15_1 : w3.cell? ⟨gb120, 1, none⟩ = some (.int .i64 a0_1) := (blk_cell BK120.out 1).trans rfl
                have hcz15_2 : w3.cell? ⟨gb120, 2, none⟩ = some (.int .i64 a0_2) := (blk_cell BK120.out 2).trans rfl
                have hcz15_3 : w3.cell? ⟨gb120, 3, none⟩ = some (.int .u64 a0_3) := (blk_cell BK120.out 3).trans rfl
                have hcz15_4 : w3.cell? ⟨gb120, 4, none⟩ = some (.int .i64 a0_4) := (blk_cell BK120.out 4).trans rfl
                have hcz15_5 : w3.cell? ⟨gb120, 5, none⟩ = some (.slice A0_5 l0_5.length c0_5) := (blk_cell BK120.out 5).trans rfl
                have hcz15_6 : w3.cell? ⟨gb120, 6, none⟩ = some (.int .u64 a0_6) := (blk_cell BK120.out 6).trans rfl
                have hcz15_7 : w3.cell? ⟨gb120, 7, none⟩ = some (.int .u64 a0_7) := (blk_cell BK120.out 7).trans rfl
                have hcz15_8 : w3.cell? ⟨gb120, 8, none⟩ = some (.int .u64 a0_8) := (blk_cell BK120.out 8).trans rfl
                have hcz15_9 : w3.cell? ⟨gb120, 9, none⟩ = some (.int .u64 a0_9) := (blk_cell BK120.out 9).trans rfl
                have hcz15_10 : w3.cell? ⟨gb120, 10, none⟩ = some (.int .u64 a0_10) := (blk_cell BK120.out 10).trans rfl
                have hcz15_11 : w3.cell? ⟨gb120, 11, none⟩ = some (.int .u64 a0_11) := (blk_cell BK120.out 11).trans rfl
                have hcz15_12 : w3.cell? ⟨gb120, 12, none⟩ = some (.int .u64 a0_12) := (blk_cell BK120.out 12).trans rfl
                have hcz15_13 : w3.cell? ⟨gb120, 13, none⟩ = some (.slice A0_13 l0_13.length c0_13) := (blk_cell BK120.out 13).trans rfl
                have hcz15_14 : w3.cell? ⟨gb120, 14, none⟩ = some (.slice A0_14 l0_14.length c0_14) := (blk_cell BK120.out 14).trans rfl
                have hcz15_15 : w3.cell? ⟨gb120, 15, none⟩ = some (.float .f64 a0_15) := (blk_cell BK120.out 15).trans rfl
                have hfz15_0 := blk_frozen BK120.out 0
                have hfz15_1 := blk_frozen BK120.out 1
                have hfz15_2 := blk_frozen BK120.out 2
                have hfz15_3 := blk_frozen BK120.out 3
                have hfz15_4 := blk_frozen BK120.out 4
                have hfz15_5 := blk_frozen BK120.out 5
                have hfz15_6 := blk_frozen BK120.out 6
                have hfz15_7 := blk_frozen BK120.out 7
                have hfz15_8 := blk_frozen BK120.out 8
                have hfz15_9 := blk_frozen BK120.out 9
                have hfz15_10 := blk_frozen BK120.out 10
                have hfz15_11 := blk_frozen BK120.out 11
                have hfz15_12 := blk_frozen BK120.out 12
                have hfz15_13 := blk_frozen BK120.out 13
                have hfz15_14 := blk_frozen BK120.out 14
                have hfz15_15 := blk_frozen BK120.out 15
                go_wp2_with (first | (go_at_call 66; (with_reducible refine (conventicleref15_node.calls a0_1 true _ A8.out).mono ?_); rintro e w' ⟨rfl, ⟨nd, rfl⟩⟩) | (go_at_call 66; (with_reducible refine (conventicleref15_node.calls a0_2 true _ A10.out).mono ?_); rintro e w' ⟨rfl, ⟨nd, rfl⟩⟩) | (go_at_call 66; (with_reducible refine (conventicleref15_node.calls a0_4 true _ A12.out).mono ?_); rintro e w' ⟨rfl, ⟨nd, rfl⟩⟩))
                go_meet
                case rel => exact ⟨_, (true), (by first | rfl | (simp; done) | (simp [*]; done)), H', ⟨by first | omega | exact Nat.le_refl _⟩, ⟨by (with_reducible repeat (first | refine blk_drewN ?_ _ | refine blk_drew ?_ | refine blk_alloc ?_ _)); exact BK120.out⟩, ⟨by repeat (first | (with_reducible first | exact HB.out | apply below_alloc | apply pw_below_drewN | apply below_drew1 | refine below_set ?_ GE120.out) | exact HB.out)⟩⟩
              · rw [if_neg c14] at H
                have c14b0 : decide (8 < (l0_5.length : Int)) = false := decide_eq_false c14
                have c14b1 : decide (8 < l0_5.length) = false := decide_eq_false (by omega)
                clear c14
                by_cases c16 : (l0_13.length : Int) > 6
                · rw [if_pos c16] at H
                  have c16b0 : decide (6 < (l0_13.length : Int)) = true := decide_eq_true c16
                  have c16b1 : decide (6 < l0_13.length) = true := decide_eq_true (by omega)
                  clear c16
                  have H' := Aside0.mk H
                  clear H
                  have hcz17_0 : w3.cell? ⟨gb120, 0, none⟩ = some (.int .i64 a0_0) := (blk_cell BK120.out 0).trans rfl
                  have hcz17_1 : w3.cell? ⟨gb120, 1, none⟩ = some (.int .i64 a0_1) := (blk_cell BK120.out 1).trans rfl
                  have hcz17_2 : w3.cell? ⟨gb120, 2, none⟩ = some (.int .i64 a0_2) := (blk_cell BK120.out 2).trans rfl
                  have hcz17_3 : w3.cell? ⟨gb120, 3, none⟩ = some (.int .u64 a0_3) := (blk_cell BK120.out 3).trans rfl
                  have hcz17_4 : w3.cell? ⟨gb120, 4, none⟩ = some (.int .i64 a0_4) := (blk_cell BK120.out 4).trans rfl
                  have hcz17_5 : w3.cell? ⟨gb120, 5, none⟩ = some (.slice A0_5 l0_5.length c0_5) := (blk_cell BK120.out 5).trans rfl
                  have hcz17_6 : w3.cell? ⟨gb120, 6, none⟩ = some (.int .u64 a0_6) := (blk_cell BK120.out 6).trans rfl
                  have hcz17_7 : w3.cell? ⟨gb120, 7, none⟩ = some (.int .u64 a0_7) := (blk_cell BK120.out 7).trans rfl
                  have hcz17_8 : w3.cell? ⟨gb120, 8, none⟩ = some (.int .u64 a0_8) := (blk_cell BK120.out 8).trans rfl
                  have hcz17_9 : w3.cell? ⟨gb120, 9, none⟩ = some (.int .u64 a0_9) := (blk_cell BK120.out 9).trans rfl
                  have hcz17_10 : w3.cell? ⟨gb120, 10, none⟩ = some (.int .u64 a0_10) := (blk_cell BK120.out 10).trans rfl
                  have hcz17_11 : w3.cell? ⟨gb120, 11, none⟩ = some (.int .u64 a0_11) := (blk_cell BK120.out 11).trans rfl
                  have hcz17_12 : w3.cell? ⟨gb120, 12, none⟩ = some (.int .u64 a0_12) := (blk_cell BK120.out 12).trans rfl
                  have hcz17_13 : w3.cell? ⟨gb120, 13, none⟩ = some (.slice A0_13 l0_13.length c0_13) := (blk_cell BK120.out 13).trans rfl
                  have hcz17_14 : w3.cell? ⟨gb120, 14, none⟩ = some (.slice A0_14 l0_14.length c0_14) := (blk_cell BK120.out 14).trans rfl
                  have hcz17_15 : w3.cell? ⟨gb120, 15, none⟩ = some (.float .f64 a0_15) := (blk_cell BK120.out 15).trans rfl
                  have hfz17_0 := blk_frozen BK120.out 0
                  have hfz17_1 := blk_frozen BK120.out 1
                  have hfz17_2 := blk_frozen BK120.out 2
                  have hfz17_3 := blk_frozen BK120.out 3
                  have hfz17_4 := blk_frozen BK120.out 4
                  have hfz17_5 := blk_frozen BK120.out 5
                  have hfz17_6 := blk_frozen BK120.out 6
                  have hfz17_7 := blk_frozen BK120.out 7
                  have hfz17_8 := blk_frozen BK120.out 8
                  have hfz17_9 := blk_frozen BK120.out 9
                  have hfz17_10 := blk_frozen BK120.out 10
                  have hfz17_11 := blk_frozen BK120.out 11
                  have hfz17_12 := blk_frozen BK120.out 12
                  have hfz17_13 := blk_frozen BK120.out 13
                  have hfz17_14 := blk_frozen BK120.out 14
                  have hfz17_15 := blk_frozen BK120.out 15
                  go_wp2_with (first | (go_at_call 66; (with_reducible refine (conventicleref15_node.calls a0_1 true _ A8.out).mono ?_); rintro e w' ⟨rfl, ⟨nd, rfl⟩⟩) | (go_at_call 66; (with_reducible refine (conventicleref15_node.calls a0_2 true _ A10.out).mono ?_); rintro e w' ⟨rfl, ⟨nd, rfl⟩⟩) | (go_at_call 66; (with_reducible refine (conventicleref15_node.calls a0_4 true _ A12.out).mono ?_); rintro e w' ⟨rfl, ⟨nd, rfl⟩⟩))
                  go_meet
                  case rel => exact ⟨_, (true), (by first | rfl | (simp; done) | (simp [*]; done)), H', ⟨by first | omega | exact Nat.le_refl _⟩, ⟨by (with_reducible repeat (first | refine blk_drewN ?_ _ | refine blk_drew ?_ | refine blk_alloc ?_ _)); exact BK120.out⟩, ⟨by repeat (first | (with_reducible first | exact HB.out | apply below_alloc | apply pw_below_drewN | apply below_drew1 | refine below_set ?_ GE120.out) | exact HB.out)⟩⟩
                · rw [if_neg c16] at H
                  have c16b0 : decide (6 < (l0_13.length : Int)) = false := decide_eq_false c16
                  have c16b1 : decide (6 < l0_13.length) = false := decide_eq_false (by omega)
                  clear c16
                  by_cases c18 : (l0_14.length : Int) > 16
                  · rw [if_pos c18] at H
                    have c18b0 : decide (16 < (l0_14.length : Int)) = true := decide_eq_true c18
                    have c18b1 : decide (16 < l0_14.length) = true := decide_eq_true (by omega)
                    clear c18
                    have H' := Aside0.mk H
                    clear H
                    have hcz19_0 : w3.cell? ⟨gb120, 0, none⟩ = some (.int .i64 a0_0) := (blk_cell BK120.out 0).trans rfl
                    have hcz19_1 : w3.cell? ⟨gb120, 1, none⟩ = some (.int .i64 a0_1) := (blk_cell BK120.out 1).trans rfl
                    have hcz19_2 : w3.cell? ⟨gb120, 2, none⟩ = some (.int .i64 a0_2) := (blk_cell BK120.out 2).trans rfl
                    have hcz19_3 : w3.cell? ⟨gb120, 3, none⟩ = some (.int .u64 a0_3) := (blk_cell BK120.out 3).trans rfl
                    have hcz19_4 : w3.cell? ⟨gb120, 4, none⟩ = some (.int .i64 a0_4) := (blk_cell BK120.out 4).trans rfl
                    have hcz19_5 : w3.cell? ⟨gb120, 5, none⟩ = some (.slice A0_5 l0_5.length c0_5) := (blk_cell BK120.out 5).trans rfl
                    have hcz19_6 : w3.cell? ⟨gb120, 6, none⟩ = some (.int .u64 a0_6) := (blk_cell BK120.out 6).trans rfl
                    have hcz19_7 : w3.cell? ⟨gb120, 7, none⟩ = some (.int .u64 a0_7) := (blk_cell BK120.out 7).trans rfl
                    have hcz19_8 : w3.cell? ⟨gb120, 8, none⟩ = some (.int .u64 a0_8) := (blk_cell BK120.out 8).trans rfl
                    have hcz19_9 : w3.cell? ⟨gb120, 9, none⟩ = some (.int .u64 a0_9) := (blk_cell BK120.out 9).trans rfl
                    have hcz19_10 : w3.cell? ⟨gb120, 10, none⟩ = some (.int .u64 a0_10) := (blk_cell BK120.out 10).trans rfl
                    have hcz19_11 : w3.cell? ⟨gb120, 11, none⟩ = some (.int .u64 a0_11) := (blk_cell BK120.out 11).trans rfl
                    have hcz19_12 : w3.cell? ⟨gb120, 12, none⟩ = some (.int .u64 a0_12) := (blk_cell BK120.out 12).trans rfl
                    have hcz19_13 : w3.cell? ⟨gb120, 13, none⟩ = some (.slice A0_13 l0_13.length c0_13) := (blk_cell BK120.out 13).trans rfl
                    have hcz19_14 : w3.cell? ⟨gb120, 14, none⟩ = some (.slice A0_14 l0_14.length c0_14) := (blk_cell BK120.out 14).trans rfl
                    have hcz19_15 : w3.cell? ⟨gb120, 15, none⟩ = some (.float .f64 a0_15) := (blk_cell BK120.out 15).trans rfl
                    have hfz19_0 := blk_frozen BK120.out 0
                    have hfz19_1 := blk_frozen BK120.out 1
                    have hfz19_2 := blk_frozen BK120.out 2
                    have hfz19_3 := blk_frozen BK120.out 3
                    have hfz19_4 := blk_frozen BK120.out 4
                    have hfz19_5 := blk_frozen BK120.out 5
                    have hfz19_6 := blk_frozen BK120.out 6
                    have hfz19_7 := blk_frozen BK120.out 7
                    have hfz19_8 := blk_frozen BK120.out 8
                    have hfz19_9 := blk_frozen BK120.out 9
                    have hfz19_10 := blk_frozen BK120.out 10
                    have hfz19_11 := blk_frozen BK120.out 11
                    have hfz19_12 := blk_frozen BK120.out 12
                    have hfz19_13 := blk_frozen BK120.out 13
                    have hfz19_14 := blk_frozen BK120.out 14
                    have hfz19_15 := blk_frozen BK120.out 15
                    go_wp2_with (first | (go_at_call 66; (with_reducible refine (conventicleref15_node.calls a0_1 true _ A8.out).mono ?_); rintro e w' ⟨rfl, ⟨nd, rfl⟩⟩) | (go_at_call 66; (with_reducible refine (conventicleref15_node.calls a0_2 true _ A10.out).mono ?_); rintro e w' ⟨rfl, ⟨nd, rfl⟩⟩) | (go_at_call 66; (with_reducible refine (conventicleref15_node.calls a0_4 true _ A12.out).mono ?_); rintro e w' ⟨rfl, ⟨nd, rfl⟩⟩))
                    go_meet
                    case rel => exact ⟨_, (true), (by first | rfl | (simp; done) | (simp [*]; done)), H', ⟨by first | omega | exact Nat.le_refl _⟩, ⟨by (with_reducible repeat (first | refine blk_drewN ?_ _ | refine blk_drew ?_ | refine blk_alloc ?_ _)); exact BK120.out⟩, ⟨by repeat (first | (with_reducible first | exact HB.out | apply below_alloc | apply pw_below_drewN | apply below_drew1 | refine below_set ?_ GE120.out) | exact HB.out)⟩⟩
                  · rw [if_neg c18] at H
                    have c18b0 : decide (16 < (l0_14.length : Int)) = false := decide_eq_false c18
                    have c18b1 : decide (16 < l0_14.length) = false := decide_eq_false (by omega)
                    clear c18
                    replace H := Option.bind_eq_some_iff.mp H
                    obtain ⟨t124, A200, H⟩ := H
                    replace H : (if t124 = true then (if (FloatKind.f64.format.order a0_15 a0_15 != some Ordering.eq) = true then (conventicleref15_May.j0 k true a0_0 a0_1 a0_2 a0_3 a0_4 l0_5 a0_6 a0_7 a0_8 a0_9 a0_10 a0_11 a0_12 l0_13 l0_14 a0_15) else (if (FloatKind.f64.format.order a0_15 0 == some Ordering.lt) = true then (conventicleref15_May.j0 k true a0_0 a0_1 a0_2 a0_3 a0_4 l0_5 a0_6 a0_7 a0_8 a0_9 a0_10 a0_11 a0_12 l0_13 l0_14 a0_15) else ((math_Signbit.f a0_15).bind fun t125 => (conventicleref15_May.j0 k t125 a0_0 a0_1 a0_2 a0_3 a0_4 l0_5 a0_6 a0_7 a0_8 a0_9 a0_10 a0_11 a0_12 l0_13 l0_14 a0_15)))) else (conventicleref15_May.j0 k true a0_0 a0_1 a0_2 a0_3 a0_4 l0_5 a0_6 a0_7 a0_8 a0_9 a0_10 a0_11 a0_12 l0_13 l0_14 a0_15)) = some r := H
                    have A20 := Aside0.mk A200
                    clear A200
                    by_cases c21 : t124 = true
                    · subst c21
                      have H1 : (if (FloatKind.f64.format.order a0_15 a0_15 != some Ordering.eq) = true then (conventicleref15_May.j0 k true a0_0 a0_1 a0_2 a0_3 a0_4 l0_5 a0_6 a0_7 a0_8 a0_9 a0_10 a0_11 a0_12 l0_13 l0_14 a0_15) else (if (FloatKind.f64.format.order a0_15 0 == some Ordering.lt) = true then (conventicleref15_May.j0 k true a0_0 a0_1 a0_2 a0_3 a0_4 l0_5 a0_6 a0_7 a0_8 a0_9 a0_10 a0_11 a0_12 l0_13 l0_14 a0_15) else ((math_Signbit.f a0_15).bind fun t125 => (conventicleref15_May.j0 k t125 a0_0 a0_1 a0_2 a0_3 a0_4 l0_5 a0_6 a0_7 a0_8 a0_9 a0_10 a0_11 a0_12 l0_13 l0_14 a0_15)))) = some r := by rw [if_pos rfl] at H; exact H
                      clear H
                      have H := H1
                      clear H1
                      by_cases c22 : (FloatKind.f64.format.order a0_15 a0_15 != some Ordering.eq) = true
                      · rw [if_pos c22] at H
                        have c22b0 : (FloatKind.f64.format.order a0_15 a0_15 != some Ordering.eq) = true := c22
                        (try (have c22b1 : decide (FloatKind.f64.format.order a0_15 a0_15 = some Ordering.eq) = false := by simpa using c22))
                        (try (have c22b2 : (FloatKind.f64.format.order a0_15 a0_15 == some Ordering.eq) = false := by simpa using c22))
                        (try (have c22b3 : ¬ (FloatKind.f64.format.order a0_15 a0_15 = some Ordering.eq) := by simpa using c22))
                        clear c22
                        have H' := Aside0.mk H
                        clear H
                        have hcz23_0 : w3.cell? ⟨gb120, 0, none⟩ = some (.int .i64 a0_0) := (blk_cell BK120.out 0).trans rfl
                        have hcz23_1 : w3.cell? ⟨gb120, 1, none⟩ = some (.int .i64 a0_1) := (blk_cell BK120.out 1).trans rfl
                        have hcz23_2 : w3.cell? ⟨gb120, 2, none⟩ = some (.int .i64 a0_2) := (blk_cell BK120.out 2).trans rfl
                        have hcz23_3 : w3.cell? ⟨gb120, 3, none⟩ = some (.int .u64 a0_3) := (blk_cell BK120.out 3).trans rfl
                        have hcz23_4 : w3.cell? ⟨gb120, 4, none⟩ = some (.int .i64 a0_4) := (blk_cell BK120.out 4).trans rfl
                        have hcz23_5 : w3.cell? ⟨gb120, 5, none⟩ = some (.slice A0_5 l0_5.length c0_5) := (blk_cell BK120.out 5).trans rfl
                        have hcz23_6 : w3.cell? ⟨gb120, 6, none⟩ = some (.int .u64 a0_6) := (blk_cell BK120.out 6).trans rfl
                        have hcz23_7 : w3.cell? ⟨gb120, 7, none⟩ = some (.int .u64 a0_7) := (blk_cell BK120.out 7).trans rfl
                        have hcz23_8 : w3.cell? ⟨gb120, 8, none⟩ = some (.int .u64 a0_8) := (blk_cell BK120.out 8).trans rfl
                        have hcz23_9 : w3.cell? ⟨gb120, 9, none⟩ = some (.int .u64 a0_9) := (blk_cell BK120.out 9).trans rfl
                        have hcz23_10 : w3.cell? ⟨gb120, 10, none⟩ = some (.int .u64 a0_10) := (blk_cell BK120.out 10).trans rfl
                        have hcz23_11 : w3.cell? ⟨gb120, 11, none⟩ = some (.int .u64 a0_11) := (blk_cell BK120.out 11).trans rfl
                        have hcz23_12 : w3.cell? ⟨gb120, 12, none⟩ = some (.int .u64 a0_12) := (blk_cell BK120.out 12).trans rfl
                        have hcz23_13 : w3.cell? ⟨gb120, 13, none⟩ = some (.slice A0_13 l0_13.length c0_13) := (blk_cell BK120.out 13).trans rfl
                        have hcz23_14 : w3.cell? ⟨gb120, 14, none⟩ = some (.slice A0_14 l0_14.length c0_14) := (blk_cell BK120.out 14).trans rfl
                        have hcz23_15 : w3.cell? ⟨gb120, 15, none⟩ = some (.float .f64 a0_15) := (blk_cell BK120.out 15).trans rfl
                        have hfz23_0 := blk_frozen BK120.out 0
                        have hfz23_1 := blk_frozen BK120.out 1
                        have hfz23_2 := blk_frozen BK120.out 2
                        have hfz23_3 := blk_frozen BK120.out 3
                        have hfz23_4 := blk_frozen BK120.out 4
                        have hfz23_5 := blk_frozen BK120.out 5
                        have hfz23_6 := blk_frozen BK120.out 6
                        have hfz23_7 := blk_frozen BK120.out 7
                        have hfz23_8 := blk_frozen BK120.out 8
                        have hfz23_9 := blk_frozen BK120.out 9
                        have hfz23_10 := blk_frozen BK120.out 10
                        have hfz23_11 := blk_frozen BK120.out 11
                        have hfz23_12 := blk_frozen BK120.out 12
                        have hfz23_13 := blk_frozen BK120.out 13
                        have hfz23_14 := blk_frozen BK120.out 14
                        have hfz23_15 := blk_frozen BK120.out 15
                        go_wp2_with (first | (go_at_call 66; (with_reducible refine (conventicleref15_node.calls a0_1 true _ A8.out).mono ?_); rintro e w' ⟨rfl, ⟨nd, rfl⟩⟩) | (go_at_call 66; (with_reducible refine (conventicleref15_node.calls a0_2 true _ A10.out).mono ?_); rintro e w' ⟨rfl, ⟨nd, rfl⟩⟩) | (go_at_call 66; (with_reducible refine (conventicleref15_node.calls a0_4 true _ A12.out).mono ?_); rintro e w' ⟨rfl, ⟨nd, rfl⟩⟩) | (go_at_call 67; (with_reducible refine (conventicleref12_May.calls k _ _ l0_14 true _ ?side1 ?side2 A20.out).mono ?_); (case side1 => repeat (first | exact (Kd.C_below HR0_14.out (by repeat (first | (with_reducible first | exact HB.out | apply below_alloc | apply pw_below_drewN | apply below_drew1 | refine below_set ?_ GE120.out) | exact HB.out))) | (with_reducible refine Kd.C_alloc ?_ _) | (with_reducible refine Kd.C_drewN ?_ _) | (with_reducible refine Kd.C_drew ?_))); (case side2 => exact HC0_14.out); rintro e w' ⟨rfl, ⟨nd, rfl⟩⟩))
                        go_meet
                        case rel => exact ⟨_, (true), (by first | rfl | (simp; done) | (simp [*]; done)), H', ⟨by first | omega | exact Nat.le_refl _⟩, ⟨by (with_reducible repeat (first | refine blk_drewN ?_ _ | refine blk_drew ?_ | refine blk_alloc ?_ _)); exact BK120.out⟩, ⟨by repeat (first | (with_reducible first | exact HB.out | apply below_alloc | apply pw_below_drewN | apply below_drew1 | refine below_set ?_ GE120.out) | exact HB.out)⟩⟩
                      · rw [if_neg c22] at H
                        have c22b0 : (FloatKind.f64.format.order a0_15 a0_15 != some Ordering.eq) = false := by simpa using c22
                        (try (have c22b1 : decide (FloatKind.f64.format.order a0_15 a0_15 = some Ordering.eq) = true := by simpa using c22))
                        (try (have c22b2 : (FloatKind.f64.format.order a0_15 a0_15 == some Ordering.eq) = true := by simpa using c22))
                        clear c22
                        by_cases c24 : (FloatKind.f64.format.order a0_15 0 == some Ordering.lt) = true
                        · rw [if_pos c24] at H
                          have c24b0 : (FloatKind.f64.format.order a0_15 0 == some Ordering.lt) = true := c24
                          (try (have c24b1 : decide (FloatKind.f64.format.order a0_15 0 = some Ordering.lt) = true := by simpa using c24))
                          (try (have c24b2 : (FloatKind.f64.format.order a0_15 0 == some Ordering.lt) = true := by simpa using c24))
                          clear c24
                          have H' := Aside0.mk H
                          clear H
                          have hcz25_0 : w3.cell? ⟨gb120, 0, none⟩ = some (.int .i64 a0_0) := (blk_cell BK120.out 0).trans rfl
                          have hcz25_1 : w3.cell? ⟨gb120, 1, none⟩ = some (.int .i64 a0_1) := (blk_cell BK120.out 1).trans rfl
                          have hcz25_2 : w3.cell? ⟨gb120, 2, none⟩ = some (.int .i64 a0_2) := (blk_cell BK120.out 2).trans rfl
                          have hcz25_3 : w3.cell? ⟨gb120, 3, none⟩ = some (.int .u64 a0_3) := (blk_cell BK120.out 3).trans rfl
                          have hcz25_4 : w3.cell? ⟨gb120, 4, none⟩ = some (.int .i64 a0_4) := (blk_cell BK120.out 4).trans rfl
                          have hcz25_5 : w3.cell? ⟨gb120, 5, none⟩ = some (.slice A0_5 l0_5.length c0_5) := (blk_cell BK120.out 5).trans rfl
                          have hcz25_6 : w3.cell? ⟨gb120, 6, none⟩ = some (.int .u64 a0_6) := (blk_cell BK120.out 6).trans rfl
                          have hcz25_7 : w3.cell? ⟨gb120, 7, none⟩ = some (.int .u64 a0_7) := (blk_cell BK120.out 7).trans rfl
                          have hcz25_8 : w3.cell? ⟨gb120, 8, none⟩ = some (.int .u64 a0_8) := (blk_cell BK120.out 8).trans rfl
                          have hcz25_9 : w3.cell? ⟨gb120, 9, none⟩ = some (.int .u64 a0_9) := (blk_cell BK120.out 9).trans rfl
                          have hcz25_10 : w3.cell? ⟨gb120, 10, none⟩ = some (.int .u64 a0_10) := (blk_cell BK120.out 10).trans rfl
                          have hcz25_11 : w3.cell? ⟨gb120, 11, none⟩ = some (.int .u64 a0_11) := (blk_cell BK120.out 11).trans rfl
                          have hcz25_12 : w3.cell? ⟨gb120, 12, none⟩ = some (.int .u64 a0_12) := (blk_cell BK120.out 12).trans rfl
                          have hcz25_13 : w3.cell? ⟨gb120, 13, none⟩ = some (.slice A0_13 l0_13.length c0_13) := (blk_cell BK120.out 13).trans rfl
                          have hcz25_14 : w3.cell? ⟨gb120, 14, none⟩ = some (.slice A0_14 l0_14.length c0_14) := (blk_cell BK120.out 14).trans rfl
                          have hcz25_15 : w3.cell? ⟨gb120, 15, none⟩ = some (.float .f64 a0_15) := (blk_cell BK120.out 15).trans rfl
                          have hfz25_0 := blk_frozen BK120.out 0
                          have hfz25_1 := blk_frozen BK120.out 1
                          have hfz25_2 := blk_frozen BK120.out 2
                          have hfz25_3 := blk_frozen BK120.out 3
                          have hfz25_4 := blk_frozen BK120.out 4
                          have hfz25_5 := blk_frozen BK120.out 5
                          have hfz25_6 := blk_frozen BK120.out 6
                          have hfz25_7 := blk_frozen BK120.out 7
                          have hfz25_8 := blk_frozen BK120.out 8
                          have hfz25_9 := blk_frozen BK120.out 9
                          have hfz25_10 := blk_frozen BK120.out 10
                          have hfz25_11 := blk_frozen BK120.out 11
                          have hfz25_12 := blk_frozen BK120.out 12
                          have hfz25_13 := blk_frozen BK120.out 13
                          have hfz25_14 := blk_frozen BK120.out 14
                          have hfz25_15 := blk_frozen BK120.out 15
                          go_wp2_with (first | (go_at_call 66; (with_reducible refine (conventicleref15_node.calls a0_1 true _ A8.out).mono ?_); rintro e w' ⟨rfl, ⟨nd, rfl⟩⟩) | (go_at_call 66; (with_reducible refine (conventicleref15_node.calls a0_2 true _ A10.out).mono ?_); rintro e w' ⟨rfl, ⟨nd, rfl⟩⟩) | (go_at_call 66; (with_reducible refine (conventicleref15_node.calls a0_4 true _ A12.out).mono ?_); rintro e w' ⟨rfl, ⟨nd, rfl⟩⟩) | (go_at_call 67; (with_reducible refine (conventicleref12_May.calls k _ _ l0_14 true _ ?side1 ?side2 A20.out).mono ?_); (case side1 => repeat (first | exact (Kd.C_below HR0_14.out (by repeat (first | (with_reducible first | exact HB.out | apply below_alloc | apply pw_below_drewN | apply below_drew1 | refine below_set ?_ GE120.out) | exact HB.out))) | (with_reducible refine Kd.C_alloc ?_ _) | (with_reducible refine Kd.C_drewN ?_ _) | (with_reducible refine Kd.C_drew ?_))); (case side2 => exact HC0_14.out); rintro e w' ⟨rfl, ⟨nd, rfl⟩⟩))
                          go_meet
                          case rel => exact ⟨_, (true), (by first | rfl | (simp; done) | (simp [*]; done)), H', ⟨by first | omega | exact Nat.le_refl _⟩, ⟨by (with_reducible repeat (first | refine blk_drewN ?_ _ | refine blk_drew ?_ | refine blk_alloc ?_ _)); exact BK120.out⟩, ⟨by repeat (first | (with_reducible first | exact HB.out | apply below_alloc | apply pw_below_drewN | apply below_drew1 | refine below_set ?_ GE120.out) | exact HB.out)⟩⟩
                        · rw [if_neg c24] at H
                          have c24b0 : (FloatKind.f64.format.order a0_15 0 == some Ordering.lt) = false := by simpa using c24
                          (try (have c24b1 : decide (FloatKind.f64.format.order a0_15 0 = some Ordering.lt) = false := by simpa using c24))
                          (try (have c24b2 : (FloatKind.f64.format.order a0_15 0 == some Ordering.lt) = false := by simpa using c24))
                          (try (have c24b3 : ¬ (FloatKind.f64.format.order a0_15 0 = some Ordering.lt) := by simpa using c24))
                          clear c24
                          replace H := Option.bind_eq_some_iff.mp H
                          obtain ⟨t125, A260, H⟩ := H
                          replace H : (conventicleref15_May.j0 k t125 a0_0 a0_1 a0_2 a0_3 a0_4 l0_5 a0_6 a0_7 a0_8 a0_9 a0_10 a0_11 a0_12 l0_13 l0_14 a0_15) = some r := H
                          have A26 := Aside0.mk A260
                          clear A260
                          have H' := Aside0.mk H
                          clear H
                          have hcz27_0 : w3.cell? ⟨gb120, 0, none⟩ = some (.int .i64 a0_0) := (blk_cell BK120.out 0).trans rfl
                          have hcz27_1 : w3.cell? ⟨gb120, 1, none⟩ = some (.int .i64 a0_1) := (blk_cell BK120.out 1).trans rfl
                          have hcz27_2 : w3.cell? ⟨gb120, 2, none⟩ = some (.int .i64 a0_2) := (blk_cell BK120.out 2).trans rfl
                          have hcz27_3 : w3.cell? ⟨gb120, 3, none⟩ = some (.int .u64 a0_3) := (blk_cell BK120.out 3).trans rfl
                          have hcz27_4 : w3.cell? ⟨gb120, 4, none⟩ = some (.int .i64 a0_4) := (blk_cell BK120.out 4).trans rfl
                          have hcz27_5 : w3.cell? ⟨gb120, 5, none⟩ = some (.slice A0_5 l0_5.length c0_5) := (blk_cell BK120.out 5).trans rfl
                          have hcz27_6 : w3.cell? ⟨gb120, 6, none⟩ = some (.int .u64 a0_6) := (blk_cell BK120.out 6).trans rfl
                          have hcz27_7 : w3.cell? ⟨gb120, 7, none⟩ = some (.int .u64 a0_7) := (blk_cell BK120.out 7).trans rfl
                          have hcz27_8 : w3.cell? ⟨gb120, 8, none⟩ = some (.int .u64 a0_8) := (blk_cell BK120.out 8).trans rfl
                          have hcz27_9 : w3.cell? ⟨gb120, 9, none⟩ = some (.int .u64 a0_9) := (blk_cell BK120.out 9).trans rfl
                          have hcz27_10 : w3.cell? ⟨gb120, 10, none⟩ = some (.int .u64 a0_10) := (blk_cell BK120.out 10).trans rfl
                          have hcz27_11 : w3.cell? ⟨gb120, 11, none⟩ = some (.int .u64 a0_11) := (blk_cell BK120.out 11).trans rfl
                          have hcz27_12 : w3.cell? ⟨gb120, 12, none⟩ = some (.int .u64 a0_12) := (blk_cell BK120.out 12).trans rfl
                          have hcz27_13 : w3.cell? ⟨gb120, 13, none⟩ = some (.slice A0_13 l0_13.length c0_13) := (blk_cell BK120.out 13).trans rfl
                          have hcz27_14 : w3.cell? ⟨gb120, 14, none⟩ = some (.slice A0_14 l0_14.length c0_14) := (blk_cell BK120.out 14).trans rfl
                          have hcz27_15 : w3.cell? ⟨gb120, 15, none⟩ = some (.float .f64 a0_15) := (blk_cell BK120.out 15).trans rfl
                          have hfz27_0 := blk_frozen BK120.out 0
                          have hfz27_1 := blk_frozen BK120.out 1
                          have hfz27_2 := blk_frozen BK120.out 2
                          have hfz27_3 := blk_frozen BK120.out 3
                          have hfz27_4 := blk_frozen BK120.out 4
                          have hfz27_5 := blk_frozen BK120.out 5
                          have hfz27_6 := blk_frozen BK120.out 6
                          have hfz27_7 := blk_frozen BK120.out 7
                          have hfz27_8 := blk_frozen BK120.out 8
                          have hfz27_9 := blk_frozen BK120.out 9
                          have hfz27_10 := blk_frozen BK120.out 10
                          have hfz27_11 := blk_frozen BK120.out 11
                          have hfz27_12 := blk_frozen BK120.out 12
                          have hfz27_13 := blk_frozen BK120.out 13
                          have hfz27_14 := blk_frozen BK120.out 14
                          have hfz27_15 := blk_frozen BK120.out 15
                          go_wp2_with (first | (go_at_call 66; (with_reducible refine (conventicleref15_node.calls a0_1 true _ A8.out).mono ?_); rintro e w' ⟨rfl, ⟨nd, rfl⟩⟩) | (go_at_call 66; (with_reducible refine (conventicleref15_node.calls a0_2 true _ A10.out).mono ?_); rintro e w' ⟨rfl, ⟨nd, rfl⟩⟩) | (go_at_call 66; (with_reducible refine (conventicleref15_node.calls a0_4 true _ A12.out).mono ?_); rintro e w' ⟨rfl, ⟨nd, rfl⟩⟩) | (go_at_call 67; (with_reducible refine (conventicleref12_May.calls k _ _ l0_14 true _ ?side1 ?side2 A20.out).mono ?_); (case side1 => repeat (first | exact (Kd.C_below HR0_14.out (by repeat (first | (with_reducible first | exact HB.out | apply below_alloc | apply pw_below_drewN | apply below_drew1 | refine below_set ?_ GE120.out) | exact HB.out))) | (with_reducible refine Kd.C_alloc ?_ _) | (with_reducible refine Kd.C_drewN ?_ _) | (with_reducible refine Kd.C_drew ?_))); (case side2 => exact HC0_14.out); rintro e w' ⟨rfl, ⟨nd, rfl⟩⟩) | (go_at_call 55; (with_reducible refine (math_Signbit.calls a0_15 t125 _ A26.out).mono ?_); rintro e w' ⟨rfl, ⟨nd, rfl⟩⟩))
                          go_meet
                          case rel => exact ⟨_, (t125), (by first | rfl | (simp; done) | (simp [*]; done)), H', ⟨by first | omega | exact Nat.le_refl _⟩, ⟨by (with_reducible repeat (first | refine blk_drewN ?_ _ | refine blk_drew ?_ | refine blk_alloc ?_ _)); exact BK120.out⟩, ⟨by repeat (first | (with_reducible first | exact HB.out | apply below_alloc | apply pw_below_drewN | apply below_drew1 | refine below_set ?_ GE120.out) | exact HB.out)⟩⟩
                    · replace c21 := Bool.eq_false_iff.mpr c21
                      subst c21
                      have H1 : (conventicleref15_May.j0 k true a0_0 a0_1 a0_2 a0_3 a0_4 l0_5 a0_6 a0_7 a0_8 a0_9 a0_10 a0_11 a0_12 l0_13 l0_14 a0_15) = some r := by rw [if_neg (show ¬ (false = true) by decide)] at H; exact H
                      clear H
                      have H := H1
                      clear H1
                      have H' := Aside0.mk H
                      clear H
                      have hcz28_0 : w3.cell? ⟨gb120, 0, none⟩ = some (.int .i64 a0_0) := (blk_cell BK120.out 0).trans rfl
                      have hcz28_1 : w3.cell? ⟨gb120, 1, none⟩ = some (.int .i64 a0_1) := (blk_cell BK120.out 1).trans rfl
                      have hcz28_2 : w3.cell? ⟨gb120, 2, none⟩ = some (.int .i64 a0_2) := (blk_cell BK120.out 2).trans rfl
                      have hcz28_3 : w3.cell? ⟨gb120, 3, none⟩ = some (.int .u64 a0_3) := (blk_cell BK120.out 3).trans rfl
                      have hcz28_4 : w3.cell? ⟨gb120, 4, none⟩ = some (.int .i64 a0_4) := (blk_cell BK120.out 4).trans rfl
                      have hcz28_5 : w3.cell? ⟨gb120, 5, none⟩ = some (.slice A0_5 l0_5.length c0_5) := (blk_cell BK120.out 5).trans rfl
                      have hcz28_6 : w3.cell? ⟨gb120, 6, none⟩ = some (.int .u64 a0_6) := (blk_cell BK120.out 6).trans rfl
                      have hcz28_7 : w3.cell? ⟨gb120, 7, none⟩ = some (.int .u64 a0_7) := (blk_cell BK120.out 7).trans rfl
                      have hcz28_8 : w3.cell? ⟨gb120, 8, none⟩ = some (.int .u64 a0_8) := (blk_cell BK120.out 8).trans rfl
                      have hcz28_9 : w3.cell? ⟨gb120, 9, none⟩ = some (.int .u64 a0_9) := (blk_cell BK120.out 9).trans rfl
                      have hcz28_10 : w3.cell? ⟨gb120, 10, none⟩ = some (.int .u64 a0_10) := (blk_cell BK120.out 10).trans rfl
                      have hcz28_11 : w3.cell? ⟨gb120, 11, none⟩ = some (.int .u64 a0_11) := (blk_cell BK120.out 11).trans rfl
                      have hcz28_12 : w3.cell? ⟨gb120, 12, none⟩ = some (.int .u64 a0_12) := (blk_cell BK120.out 12).trans rfl
                      have hcz28_13 : w3.cell? ⟨gb120, 13, none⟩ = some (.slice A0_13 l0_13.length c0_13) := (blk_cell BK120.out 13).trans rfl
                      have hcz28_14 : w3.cell? ⟨gb120, 14, none⟩ = some (.slice A0_14 l0_14.length c0_14) := (blk_cell BK120.out 14).trans rfl
                      have hcz28_15 : w3.cell? ⟨gb120, 15, none⟩ = some (.float .f64 a0_15) := (blk_cell BK120.out 15).trans rfl
                      have hfz28_0 := blk_frozen BK120.out 0
                      have hfz28_1 := blk_frozen BK120.out 1
                      have hfz28_2 := blk_frozen BK120.out 2
                      have hfz28_3 := blk_frozen BK120.out 3
                      have hfz28_4 := blk_frozen BK120.out 4
                      have hfz28_5 := blk_frozen BK120.out 5
                      have hfz28_6 := blk_frozen BK120.out 6
                      have hfz28_7 := blk_frozen BK120.out 7
                      have hfz28_8 := blk_frozen BK120.out 8
                      have hfz28_9 := blk_frozen BK120.out 9
                      have hfz28_10 := blk_frozen BK120.out 10
                      have hfz28_11 := blk_frozen BK120.out 11
                      have hfz28_12 := blk_frozen BK120.out 12
                      have hfz28_13 := blk_frozen BK120.out 13
                      have hfz28_14 := blk_frozen BK120.out 14
                      have hfz28_15 := blk_frozen BK120.out 15
                      go_wp2_with (first | (go_at_call 66; (with_reducible refine (conventicleref15_node.calls a0_1 true _ A8.out).mono ?_); rintro e w' ⟨rfl, ⟨nd, rfl⟩⟩) | (go_at_call 66; (with_reducible refine (conventicleref15_node.calls a0_2 true _ A10.out).mono ?_); rintro e w' ⟨rfl, ⟨nd, rfl⟩⟩) | (go_at_call 66; (with_reducible refine (conventicleref15_node.calls a0_4 true _ A12.out).mono ?_); rintro e w' ⟨rfl, ⟨nd, rfl⟩⟩) | (go_at_call 67; (with_reducible refine (conventicleref12_May.calls k _ _ l0_14 false _ ?side1 ?side2 A20.out).mono ?_); (case side1 => repeat (first | exact (Kd.C_below HR0_14.out (by repeat (first | (with_reducible first | exact HB.out | apply below_alloc | apply pw_below_drewN | apply below_drew1 | refine below_set ?_ GE120.out) | exact HB.out))) | (with_reducible refine Kd.C_alloc ?_ _) | (with_reducible refine Kd.C_drewN ?_ _) | (with_reducible refine Kd.C_drew ?_))); (case side2 => exact HC0_14.out); rintro e w' ⟨rfl, ⟨nd, rfl⟩⟩))
                      go_meet
                      case rel => exact ⟨_, (true), (by first | rfl | (simp; done) | (simp [*]; done)), H', ⟨by first | omega | exact Nat.le_refl _⟩, ⟨by (with_reducible repeat (first | refine blk_drewN ?_ _ | refine blk_drew ?_ | refine blk_alloc ?_ _)); exact BK120.out⟩, ⟨by repeat (first | (with_reducible first | exact HB.out | apply below_alloc | apply pw_below_drewN | apply below_drew1 | refine below_set ?_ GE120.out) | exact HB.out)⟩⟩
            · replace c13 := Bool.eq_false_iff.mpr c13
              subst c13
              have H1 : (conventicleref15_May.j0 k true a0_0 a0_1 a0_2 a0_3 a0_4 l0_5 a0_6 a0_7 a0_8 a0_9 a0_10 a0_11 a0_12 l0_13 l0_14 a0_15) = some r := by rw [if_neg (show ¬ (false = true) by decide)] at H; exact H
              clear H
              have H := H1
              clear H1
              have H' := Aside0.mk H
              clear H
              have hcz29_0 : w3.cell? ⟨gb120, 0, none⟩ = some (.int .i64 a0_0) := (blk_cell BK120.out 0).trans rfl
              have hcz29_1 : w3.cell? ⟨gb120, 1, none⟩ = some (.int .i64 a0_1) := (blk_cell BK120.out 1).trans rfl
              have hcz29_2 : w3.cell? ⟨gb120, 2, none⟩ = some (.int .i64 a0_2) := (blk_cell BK120.out 2).trans rfl
              have hcz29_3 : w3.cell? ⟨gb120, 3, none⟩ = some (.int .u64 a0_3) := (blk_cell BK120.out 3).trans rfl
              have hcz29_4 : w3.cell? ⟨gb120, 4, none⟩ = some (.int .i64 a0_4) := (blk_cell BK120.out 4).trans rfl
              have hcz29_5 : w3.cell? ⟨gb120, 5, none⟩ = some (.slice A0_5 l0_5.length c0_5) := (blk_cell BK120.out 5).trans rfl
              have hcz29_6 : w3.cell? ⟨gb120, 6, none⟩ = some (.int .u64 a0_6) := (blk_cell BK120.out 6).trans rfl
              have hcz29_7 : w3.cell? ⟨gb120, 7, none⟩ = some (.int .u64 a0_7) := (blk_cell BK120.out 7).trans rfl
              have hcz29_8 : w3.cell? ⟨gb120, 8, none⟩ = some (.int .u64 a0_8) := (blk_cell BK120.out 8).trans rfl
              have hcz29_9 : w3.cell? ⟨gb120, 9, none⟩ = some (.int .u64 a0_9) := (blk_cell BK120.out 9).trans rfl
              have hcz29_10 : w3.cell? ⟨gb120, 10, none⟩ = some (.int .u64 a0_10) := (blk_cell BK120.out 10).trans rfl
              have hcz29_11 : w3.cell? ⟨gb120, 11, none⟩ = some (.int .u64 a0_11) := (blk_cell BK120.out 11).trans rfl
              have hcz29_12 : w3.cell? ⟨gb120, 12, none⟩ = some (.int .u64 a0_12) := (blk_cell BK120.out 12).trans rfl
              have hcz29_13 : w3.cell? ⟨gb120, 13, none⟩ = some (.slice A0_13 l0_13.length c0_13) := (blk_cell BK120.out 13).trans rfl
              have hcz29_14 : w3.cell? ⟨gb120, 14, none⟩ = some (.slice A0_14 l0_14.length c0_14) := (blk_cell BK120.out 14).trans rfl
              have hcz29_15 : w3.cell? ⟨gb120, 15, none⟩ = some (.float .f64 a0_15) := (blk_cell BK120.out 15).trans rfl
              have hfz29_0 := blk_frozen BK120.out 0
              have hfz29_1 := blk_frozen BK120.out 1
              have hfz29_2 := blk_frozen BK120.out 2
              have hfz29_3 := blk_frozen BK120.out 3
              have hfz29_4 := blk_frozen BK120.out 4
              have hfz29_5 := blk_frozen BK120.out 5
              have hfz29_6 := blk_frozen BK120.out 6
              have hfz29_7 := blk_frozen BK120.out 7
              have hfz29_8 := blk_frozen BK120.out 8
              have hfz29_9 := blk_frozen BK120.out 9
              have hfz29_10 := blk_frozen BK120.out 10
              have hfz29_11 := blk_frozen BK120.out 11
              have hfz29_12 := blk_frozen BK120.out 12
              have hfz29_13 := blk_frozen BK120.out 13
              have hfz29_14 := blk_frozen BK120.out 14
              have hfz29_15 := blk_frozen BK120.out 15
              go_wp2_with (first | (go_at_call 66; (with_reducible refine (conventicleref15_node.calls a0_1 true _ A8.out).mono ?_); rintro e w' ⟨rfl, ⟨nd, rfl⟩⟩) | (go_at_call 66; (with_reducible refine (conventicleref15_node.calls a0_2 true _ A10.out).mono ?_); rintro e w' ⟨rfl, ⟨nd, rfl⟩⟩) | (go_at_call 66; (with_reducible refine (conventicleref15_node.calls a0_4 false _ A12.out).mono ?_); rintro e w' ⟨rfl, ⟨nd, rfl⟩⟩))
              go_meet
              case rel => exact ⟨_, (true), (by first | rfl | (simp; done) | (simp [*]; done)), H', ⟨by first | omega | exact Nat.le_refl _⟩, ⟨by (with_reducible repeat (first | refine blk_drewN ?_ _ | refine blk_drew ?_ | refine blk_alloc ?_ _)); exact BK120.out⟩, ⟨by repeat (first | (with_reducible first | exact HB.out | apply below_alloc | apply pw_below_drewN | apply below_drew1 | refine below_set ?_ GE120.out) | exact HB.out)⟩⟩
          · replace c11 := Bool.eq_false_iff.mpr c11
            subst c11
            have H1 : (conventicleref15_May.j0 k true a0_0 a0_1 a0_2 a0_3 a0_4 l0_5 a0_6 a0_7 a0_8 a0_9 a0_10 a0_11 a0_12 l0_13 l0_14 a0_15) = some r := by rw [if_neg (show ¬ (false = true) by decide)] at H; exact H
            clear H
            have H := H1
            clear H1
            have H' := Aside0.mk H
            clear H
            have hcz30_0 : w3.cell? ⟨gb120, 0, none⟩ = some (.int .i64 a0_0) := (blk_cell BK120.out 0).trans rfl
            have hcz30_1 : w3.cell? ⟨gb120, 1, none⟩ = some (.int .i64 a0_1) := (blk_cell BK120.out 1).trans rfl
            have hcz30_2 : w3.cell? ⟨gb120, 2, none⟩ = some (.int .i64 a0_2) := (blk_cell BK120.out 2).trans rfl
            have hcz30_3 : w3.cell? ⟨gb120, 3, none⟩ = some (.int .u64 a0_3) := (blk_cell BK120.out 3).trans rfl
            have hcz30_4 : w3.cell? ⟨gb120, 4, none⟩ = some (.int .i64 a0_4) := (blk_cell BK120.out 4).trans rfl
            have hcz30_5 : w3.cell? ⟨gb120, 5, none⟩ = some (.slice A0_5 l0_5.length c0_5) := (blk_cell BK120.out 5).trans rfl
            have hcz30_6 : w3.cell? ⟨gb120, 6, none⟩ = some (.int .u64 a0_6) := (blk_cell BK120.out 6).trans rfl
            have hcz30_7 : w3.cell? ⟨gb120, 7, none⟩ = some (.int .u64 a0_7) := (blk_cell BK120.out 7).trans rfl
            have hcz30_8 : w3.cell? ⟨gb120, 8, none⟩ = some (.int .u64 a0_8) := (blk_cell BK120.out 8).trans rfl
            have hcz30_9 : w3.cell? ⟨gb120, 9, none⟩ = some (.int .u64 a0_9) := (blk_cell BK120.out 9).trans rfl
            have hcz30_10 : w3.cell? ⟨gb120, 10, none⟩ = some (.int .u64 a0_10) := (blk_cell BK120.out 10).trans rfl
            have hcz30_11 : w3.cell? ⟨gb120, 11, none⟩ = some (.int .u64 a0_11) := (blk_cell BK120.out 11).trans rfl
            have hcz30_12 : w3.cell? ⟨gb120, 12, none⟩ = some (.int .u64 a0_12) := (blk_cell BK120.out 12).trans rfl
            have hcz30_13 : w3.cell? ⟨gb120, 13, none⟩ = some (.slice A0_13 l0_13.length c0_13) := (blk_cell BK120.out 13).trans rfl
            have hcz30_14 : w3.cell? ⟨gb120, 14, none⟩ = some (.slice A0_14 l0_14.length c0_14) := (blk_cell BK120.out 14).trans rfl
            have hcz30_15 : w3.cell? ⟨gb120, 15, none⟩ = some (.float .f64 a0_15) := (blk_cell BK120.out 15).trans rfl
            have hfz30_0 := blk_frozen BK120.out 0
            have hfz30_1 := blk_frozen BK120.out 1
            have hfz30_2 := blk_frozen BK120.out 2
            have hfz30_3 := blk_frozen BK120.out 3
            have hfz30_4 := blk_frozen BK120.out 4
            have hfz30_5 := blk_frozen BK120.out 5
            have hfz30_6 := blk_frozen BK120.out 6
            have hfz30_7 := blk_frozen BK120.out 7
            have hfz30_8 := blk_frozen BK120.out 8
            have hfz30_9 := blk_frozen BK120.out 9
            have hfz30_10 := blk_frozen BK120.out 10
            have hfz30_11 := blk_frozen BK120.out 11
            have hfz30_12 := blk_frozen BK120.out 12
            have hfz30_13 := blk_frozen BK120.out 13
            have hfz30_14 := blk_frozen BK120.out 14
            have hfz30_15 := blk_frozen BK120.out 15
            go_wp2_with (first | (go_at_call 66; (with_reducible refine (conventicleref15_node.calls a0_1 true _ A8.out).mono ?_); rintro e w' ⟨rfl, ⟨nd, rfl⟩⟩) | (go_at_call 66; (with_reducible refine (conventicleref15_node.calls a0_2 false _ A10.out).mono ?_); rintro e w' ⟨rfl, ⟨nd, rfl⟩⟩))
            go_meet
            case rel => exact ⟨_, (true), (by first | rfl | (simp; done) | (simp [*]; done)), H', ⟨by first | omega | exact Nat.le_refl _⟩, ⟨by (with_reducible repeat (first | refine blk_drewN ?_ _ | refine blk_drew ?_ | refine blk_alloc ?_ _)); exact BK120.out⟩, ⟨by repeat (first | (with_reducible first | exact HB.out | apply below_alloc | apply pw_below_drewN | apply below_drew1 | refine below_set ?_ GE120.out) | exact HB.out)⟩⟩
        · replace c9 := Bool.eq_false_iff.mpr c9
          subst c9
          have H1 : (conventicleref15_May.j0 k true a0_0 a0_1 a0_2 a0_3 a0_4 l0_5 a0_6 a0_7 a0_8 a0_9 a0_10 a0_11 a0_12 l0_13 l0_14 a0_15) = some r := by rw [if_neg (show ¬ (false = true) by decide)] at H; exact H
          clear H
          have H := H1
          clear H1
          have H' := Aside0.mk H
          clear H
          have hcz31_0 : w3.cell? ⟨gb120, 0, none⟩ = some (.int .i64 a0_0) := (blk_cell BK120.out 0).trans rfl
          have hcz31_1 : w3.cell? ⟨gb120, 1, none⟩ = some (.int .i64 a0_1) := (blk_cell BK120.out 1).trans rfl
          have hcz31_2 : w3.cell? ⟨gb120, 2, none⟩ = some (.int .i64 a0_2) := (blk_cell BK120.out 2).trans rfl
          have hcz31_3 : w3.cell? ⟨gb120, 3, none⟩ = some (.int .u64 a0_3) := (blk_cell BK120.out 3).trans rfl
          have hcz31_4 : w3.cell? ⟨gb120, 4, none⟩ = some (.int .i64 a0_4) := (blk_cell BK120.out 4).trans rfl
          have hcz31_5 : w3.cell? ⟨gb120, 5, none⟩ = some (.slice A0_5 l0_5.length c0_5) := (blk_cell BK120.out 5).trans rfl
          have hcz31_6 : w3.cell? ⟨gb120, 6, none⟩ = some (.int .u64 a0_6) := (blk_cell BK120.out 6).trans rfl
          have hcz31_7 : w3.cell? ⟨gb120, 7, none⟩ = some (.int .u64 a0_7) := (blk_cell BK120.out 7).trans rfl
          have hcz31_8 : w3.cell? ⟨gb120, 8, none⟩ = some (.int .u64 a0_8) := (blk_cell BK120.out 8).trans rfl
          have hcz31_9 : w3.cell? ⟨gb120, 9, none⟩ = some (.int .u64 a0_9) := (blk_cell BK120.out 9).trans rfl
          have hcz31_10 : w3.cell? ⟨gb120, 10, none⟩ = some (.int .u64 a0_10) := (blk_cell BK120.out 10).trans rfl
          have hcz31_11 : w3.cell? ⟨gb120, 11, none⟩ = some (.int .u64 a0_11) := (blk_cell BK120.out 11).trans rfl
          have hcz31_12 : w3.cell? ⟨gb120, 12, none⟩ = some (.int .u64 a0_12) := (blk_cell BK120.out 12).trans rfl
          have hcz31_13 : w3.cell? ⟨gb120, 13, none⟩ = some (.slice A0_13 l0_13.length c0_13) := (blk_cell BK120.out 13).trans rfl
          have hcz31_14 : w3.cell? ⟨gb120, 14, none⟩ = some (.slice A0_14 l0_14.length c0_14) := (blk_cell BK120.out 14).trans rfl
          have hcz31_15 : w3.cell? ⟨gb120, 15, none⟩ = some (.float .f64 a0_15) := (blk_cell BK120.out 15).trans rfl
          have hfz31_0 := blk_frozen BK120.out 0
          have hfz31_1 := blk_frozen BK120.out 1
          have hfz31_2 := blk_frozen BK120.out 2
          have hfz31_3 := blk_frozen BK120.out 3
          have hfz31_4 := blk_frozen BK120.out 4
          have hfz31_5 := blk_frozen BK120.out 5
          have hfz31_6 := blk_frozen BK120.out 6
          have hfz31_7 := blk_frozen BK120.out 7
          have hfz31_8 := blk_frozen BK120.out 8
          have hfz31_9 := blk_frozen BK120.out 9
          have hfz31_10 := blk_frozen BK120.out 10
          have hfz31_11 := blk_frozen BK120.out 11
          have hfz31_12 := blk_frozen BK120.out 12
          have hfz31_13 := blk_frozen BK120.out 13
          have hfz31_14 := blk_frozen BK120.out 14
          have hfz31_15 := blk_frozen BK120.out 15
          go_wp2_with (first | (go_at_call 66; (with_reducible refine (conventicleref15_node.calls a0_1 false _ A8.out).mono ?_); rintro e w' ⟨rfl, ⟨nd, rfl⟩⟩))
          go_meet
          case rel => exact ⟨_, (true), (by first | rfl | (simp; done) | (simp [*]; done)), H', ⟨by first | omega | exact Nat.le_refl _⟩, ⟨by (with_reducible repeat (first | refine blk_drewN ?_ _ | refine blk_drew ?_ | refine blk_alloc ?_ _)); exact BK120.out⟩, ⟨by repeat (first | (with_reducible first | exact HB.out | apply below_alloc | apply pw_below_drewN | apply below_drew1 | refine below_set ?_ GE120.out) | exact HB.out)⟩⟩
  case rest =>
    clear HC2
    try clear c1
    try clear c2
    try clear p2
    try clear c4
    try clear c4b0
    try clear c6
    try clear c6b0
    try clear c9
    try clear c11
    try clear c13
    try clear c14
    try clear c14b0
    try clear c14b1
    try clear c16
    try clear c16b0
    try clear c16b1
    try clear c18
    try clear c18b0
    try clear c18b1
    try clear c20
    try clear c21
    try clear c22
    try clear c22b0
    try clear c22b1
    try clear c22b2
    try clear c24
    try clear c24b0
    try clear c24b1
    try clear c24b2
    try clear hcz15_0
    try clear hcz15_1
    try clear hcz15_10
    try clear hcz15_11
    try clear hcz15_12
    try clear hcz15_13
    try clear hcz15_14
    try clear hcz15_15
    try clear hcz15_2
    try clear hcz15_3
    try clear hcz15_4
    try clear hcz15_5
    try clear hcz15_6
    try clear hcz15_7
    try clear hcz15_8
    try clear hcz15_9
    try clear hcz17_0
    try clear hcz17_1
    try clear hcz17_10
    try clear hcz17_11
    try clear hcz17_12
    try clear hcz17_13
    try clear hcz17_14
    try clear hcz17_15
    try clear hcz17_2
    try clear hcz17_3
    try clear hcz17_4
    try clear hcz17_5
    try clear hcz17_6
    try clear hcz17_7
    try clear hcz17_8
    try clear hcz17_9
    try clear hcz19_0
    try clear hcz19_1
    try clear hcz19_10
    try clear hcz19_11
    try clear hcz19_12
    try clear hcz19_13
    try clear hcz19_14
    try clear hcz19_15
    try clear hcz19_2
    try clear hcz19_3
    try clear hcz19_4
    try clear hcz19_5
    try clear hcz19_6
    try clear hcz19_7
    try clear hcz19_8
    try clear hcz19_9
    try clear hcz23_0
    try clear hcz23_1
    try clear hcz23_10
    try clear hcz23_11
    try clear hcz23_12
    try clear hcz23_13
    try clear hcz23_14
    try clear hcz23_15
    try clear hcz23_2
    try clear hcz23_3
    try clear hcz23_4
    try clear hcz23_5
    try clear hcz23_6
    try clear hcz23_7
    try clear hcz23_8
    try clear hcz23_9
    try clear hcz25_0
    try clear hcz25_1
    try clear hcz25_10
    try clear hcz25_11
    try clear hcz25_12
    try clear hcz25_13
    try clear hcz25_14
    try clear hcz25_15
    try clear hcz25_2
    try clear hcz25_3
    try clear hcz25_4
    try clear hcz25_5
    try clear hcz25_6
    try clear hcz25_7
    try clear hcz25_8
    try clear hcz25_9
    try clear hcz27_0
    try clear hcz27_1
    try clear hcz27_10
    try clear hcz27_11
    try clear hcz27_12
    try clear hcz27_13
    try clear hcz27_14
    try clear hcz27_15
    try clear hcz27_2
    try clear hcz27_3
    try clear hcz27_4
    try clear hcz27_5
    try clear hcz27_6
    try clear hcz27_7
    try clear hcz27_8
    try clear hcz27_9
    try clear hcz28_0
    try clear hcz28_1
    try clear hcz28_10
    try clear hcz28_11
    try clear hcz28_12
    try clear hcz28_13
    try clear hcz28_14
    try clear hcz28_15
    try clear hcz28_2
    try clear hcz28_3
    try clear hcz28_4
    try clear hcz28_5
    try clear hcz28_6
    try clear hcz28_7
    try clear hcz28_8
    try clear hcz28_9
    try clear hcz29_0
    try clear hcz29_1
    try clear hcz29_10
    try clear hcz29_11
    try clear hcz29_12
    try clear hcz29_13
    try clear hcz29_14
    try clear hcz29_15
    try clear hcz29_2
    try clear hcz29_3
    try clear hcz29_4
    try clear hcz29_5
    try clear hcz29_6
    try clear hcz29_7
    try clear hcz29_8
    try clear hcz29_9
    try clear hcz30_0
    try clear hcz30_1
    try clear hcz30_10
    try clear hcz30_11
    try clear hcz30_12
    try clear hcz30_13
    try clear hcz30_14
    try clear hcz30_15
    try clear hcz30_2
    try clear hcz30_3
    try clear hcz30_4
    try clear hcz30_5
    try clear hcz30_6
    try clear hcz30_7
    try clear hcz30_8
    try clear hcz30_9
    try clear hcz31_0
    try clear hcz31_1
    try clear hcz31_10
    try clear hcz31_11
    try clear hcz31_12
    try clear hcz31_13
    try clear hcz31_14
    try clear hcz31_15
    try clear hcz31_2
    try clear hcz31_3
    try clear hcz31_4
    try clear hcz31_5
    try clear hcz31_6
    try clear hcz31_7
    try clear hcz31_8
    try clear hcz31_9
    try clear hcz5_0
    try clear hcz5_1
    try clear hcz5_10
    try clear hcz5_11
    try clear hcz5_12
    try clear hcz5_13
    try clear hcz5_14
    try clear hcz5_15
    try clear hcz5_2
    try clear hcz5_3
    try clear hcz5_4
    try clear hcz5_5
    try clear hcz5_6
    try clear hcz5_7
    try clear hcz5_8
    try clear hcz5_9
    try clear hcz7_0
    try clear hcz7_1
    try clear hcz7_10
    try clear hcz7_11
    try clear hcz7_12
    try clear hcz7_13
    try clear hcz7_14
    try clear hcz7_15
    try clear hcz7_2
    try clear hcz7_3
    try clear hcz7_4
    try clear hcz7_5
    try clear hcz7_6
    try clear hcz7_7
    try clear hcz7_8
    try clear hcz7_9
    try clear hfz15_0
    try clear hfz15_1
    try clear hfz15_10
    try clear hfz15_11
    try clear hfz15_12
    try clear hfz15_13
    try clear hfz15_14
    try clear hfz15_15
    try clear hfz15_2
    try clear hfz15_3
    try clear hfz15_4
    try clear hfz15_5
    try clear hfz15_6
    try clear hfz15_7
    try clear hfz15_8
    try clear hfz15_9
    try clear hfz17_0
    try clear hfz17_1
    try clear hfz17_10
    try clear hfz17_11
    try clear hfz17_12
    try clear hfz17_13
    try clear hfz17_14
    try clear hfz17_15
    try clear hfz17_2
    try clear hfz17_3
    try clear hfz17_4
    try clear hfz17_5
    try clear hfz17_6
    try clear hfz17_7
    try clear hfz17_8
    try clear hfz17_9
    try clear hfz19_0
    try clear hfz19_1
    try clear hfz19_10
    try clear hfz19_11
    try clear hfz19_12
    try clear hfz19_13
    try clear hfz19_14
    try clear hfz19_15
    try clear hfz19_2
    try clear hfz19_3
    try clear hfz19_4
    try clear hfz19_5
    try clear hfz19_6
    try clear hfz19_7
    try clear hfz19_8
    try clear hfz19_9
    try clear hfz23_0
    try clear hfz23_1
    try clear hfz23_10
    try clear hfz23_11
    try clear hfz23_12
    try clear hfz23_13
    try clear hfz23_14
    try clear hfz23_15
    try clear hfz23_2
    try clear hfz23_3
    try clear hfz23_4
    try clear hfz23_5
    try clear hfz23_6
    try clear hfz23_7
    try clear hfz23_8
    try clear hfz23_9
    try clear hfz25_0
    try clear hfz25_1
    try clear hfz25_10
    try clear hfz25_11
    try clear hfz25_12
    try clear hfz25_13
    try clear hfz25_14
    try clear hfz25_15
    try clear hfz25_2
    try clear hfz25_3
    try clear hfz25_4
    try clear hfz25_5
    try clear hfz25_6
    try clear hfz25_7
    try clear hfz25_8
    try clear hfz25_9
    try clear hfz27_0
    try clear hfz27_1
    try clear hfz27_10
    try clear hfz27_11
    try clear hfz27_12
    try clear hfz27_13
    try clear hfz27_14
    try clear hfz27_15
    try clear hfz27_2
    try clear hfz27_3
    try clear hfz27_4
    try clear hfz27_5
    try clear hfz27_6
    try clear hfz27_7
    try clear hfz27_8
    try clear hfz27_9
    try clear hfz28_0
    try clear hfz28_1
    try clear hfz28_10
    try clear hfz28_11
    try clear hfz28_12
    try clear hfz28_13
    try clear hfz28_14
    try clear hfz28_15
    try clear hfz28_2
    try clear hfz28_3
    try clear hfz28_4
    try clear hfz28_5
    try clear hfz28_6
    try clear hfz28_7
    try clear hfz28_8
    try clear hfz28_9
    try clear hfz29_0
    try clear hfz29_1
    try clear hfz29_10
    try clear hfz29_11
    try clear hfz29_12
    try clear hfz29_13
    try clear hfz29_14
    try clear hfz29_15
    try clear hfz29_2
    try clear hfz29_3
    try clear hfz29_4
    try clear hfz29_5
    try clear hfz29_6
    try clear hfz29_7
    try clear hfz29_8
    try clear hfz29_9
    try clear hfz30_0
    try clear hfz30_1
    try clear hfz30_10
    try clear hfz30_11
    try clear hfz30_12
    try clear hfz30_13
    try clear hfz30_14
    try clear hfz30_15
    try clear hfz30_2
    try clear hfz30_3
    try clear hfz30_4
    try clear hfz30_5
    try clear hfz30_6
    try clear hfz30_7
    try clear hfz30_8
    try clear hfz30_9
    try clear hfz31_0
    try clear hfz31_1
    try clear hfz31_10
    try clear hfz31_11
    try clear hfz31_12
    try clear hfz31_13
    try clear hfz31_14
    try clear hfz31_15
    try clear hfz31_2
    try clear hfz31_3
    try clear hfz31_4
    try clear hfz31_5
    try clear hfz31_6
    try clear hfz31_7
    try clear hfz31_8
    try clear hfz31_9
    try clear hfz5_0
    try clear hfz5_1
    try clear hfz5_10
    try clear hfz5_11
    try clear hfz5_12
    try clear hfz5_13
    try clear hfz5_14
    try clear hfz5_15
    try clear hfz5_2
    try clear hfz5_3
    try clear hfz5_4
    try clear hfz5_5
    try clear hfz5_6
    try clear hfz5_7
    try clear hfz5_8
    try clear hfz5_9
    try clear hfz7_0
    try clear hfz7_1
    try clear hfz7_10
    try clear hfz7_11
    try clear hfz7_12
    try clear hfz7_13
    try clear hfz7_14
    try clear hfz7_15
    try clear hfz7_2
    try clear hfz7_3
    try clear hfz7_4
    try clear hfz7_5
    try clear hfz7_6
    try clear hfz7_7
    try clear hfz7_8
    try clear hfz7_9
    obtain ⟨kq, x71_1, rfl, HA, HJ1, BK120, HB⟩ := hcut
    cases kq with
    | zero => exact absurd HA.out (by simp [conventicleref15_May.j0])
    | succ kj1 =>
      have H := HA.out
      clear HA
      simp only [conventicleref15_May.j0] at H
      by_cases c32 : x71_1 = true
      · subst c32
        have H1 : (some false) = some r := by rw [if_pos rfl] at H; exact H
        clear H
        have H := H1
        clear H1
        obtain rfl := Option.some.inj H
        go_wp2
        go_ret
        exact ⟨by first | rfl | (simp [errW_none, errW_some] <;> rfl) | (simp [*, errW_none, errW_some] <;> rfl), by repeat (first | (with_reducible first | exact HB.out | apply below_alloc | apply pw_below_drewN | apply below_drew1 | refine below_set ?_ GE120.out) | exact HB.out)⟩
      · replace c32 := Bool.eq_false_iff.mpr c32
        subst c32
        have H1 : (conventicleref15_May.l0 kj1 0 a0_0 a0_1 a0_2 a0_3 a0_4 l0_5 a0_6 a0_7 a0_8 a0_9 a0_10 a0_11 a0_12 l0_13 l0_14 a0_15) = some r := by rw [if_neg (show ¬ (false = true) by decide)] at H; exact H
        clear H
        have H := H1
        clear H1
        have H' := Aside0.mk H
        clear H
        go_wp2
        go_loopg [3] kj1 (fun kq v3 w' => ∃ (x3_2 : Int), v3 = .int .i64 x3_2 ∧ Aside0 (conventicleref15_May.l0 kq x3_2 a0_0 a0_1 a0_2 a0_3 a0_4 l0_5 a0_6 a0_7 a0_8 a0_9 a0_10 a0_11 a0_12 l0_13 l0_14 a0_15 = some r) ∧ Aside0 (kq ≤ kj1) ∧ Aside0 (w'.heap[gb120]? = some (.cells #[.int .i64 a0_0, .int .i64 a0_1, .int .i64 a0_2, .int .u64 a0_3, .int .i64 a0_4, (.slice A0_5 l0_5.length c0_5), .int .u64 a0_6, .int .u64 a0_7, .int .u64 a0_8, .int .u64 a0_9, .int .u64 a0_10, .int .u64 a0_11, .int .u64 a0_12, (.slice A0_13 l0_13.length c0_13), (.slice A0_14 l0_14.length c0_14), .float .f64 a0_15] 38 (0, 0))) ∧ Aside0 (Below w.heap.size w w'))
        case atStart => exact ⟨(0), (by first | rfl | (simp; done) | (simp [*]; done)), H', ⟨Nat.le_refl _⟩, ⟨by (with_reducible repeat (first | refine blk_drewN ?_ _ | refine blk_drew ?_ | refine blk_alloc ?_ _)); exact BK120.out⟩, ⟨by repeat (first | (with_reducible first | exact HB.out | apply below_alloc | apply pw_below_drewN | apply below_drew1 | refine below_set ?_ GE120.out) | exact HB.out)⟩⟩
        case round =>
          clear H'
          try clear c1
          try clear c2
          try clear p2
          try clear c3
          try clear c4
          try clear c4b0
          try clear c6
          try clear c6b0
          try clear c9
          try clear c11
          try clear c13
          try clear c14
          try clear c14b0
          try clear c14b1
          try clear c16
          try clear c16b0
          try clear c16b1
          try clear c18
          try clear c18b0
          try clear c18b1
          try clear c20
          try clear c21
          try clear c22
          try clear c22b0
          try clear c22b1
          try clear c22b2
          try clear c24
          try clear c24b0
          try clear c24b1
          try clear c24b2
          try clear c32
          try clear hcz15_0
          try clear hcz15_1
          try clear hcz15_10
          try clear hcz15_11
          try clear hcz15_12
          try clear hcz15_13
          try clear hcz15_14
          try clear hcz15_15
          try clear hcz15_2
          try clear hcz15_3
          try clear hcz15_4
          try clear hcz15_5
          try clear hcz15_6
          try clear hcz15_7
          try clear hcz15_8
          try clear hcz15_9
          try clear hcz17_0
          try clear hcz17_1
          try clear hcz17_10
          try clear hcz17_11
          try clear hcz17_12
          try clear hcz17_13
          try clear hcz17_14
          try clear hcz17_15
          try clear hcz17_2
          try clear hcz17_3
          try clear hcz17_4
          try clear hcz17_5
          try clear hcz17_6
          try clear hcz17_7
          try clear hcz17_8
          try clear hcz17_9
          try clear hcz19_0
          try clear hcz19_1
          try clear hcz19_10
          try clear hcz19_11
          try clear hcz19_12
          try clear hcz19_13
          try clear hcz19_14
          try clear hcz19_15
          try clear hcz19_2
          try clear hcz19_3
          try clear hcz19_4
          try clear hcz19_5
          try clear hcz19_6
          try clear hcz19_7
          try clear hcz19_8
          try clear hcz19_9
          try clear hcz23_0
          try clear hcz23_1
          try clear hcz23_10
          try clear hcz23_11
          try clear hcz23_12
          try clear hcz23_13
          try clear hcz23_14
          try clear hcz23_15
          try clear hcz23_2
          try clear hcz23_3
          try clear hcz23_4
          try clear hcz23_5
          try clear hcz23_6
          try clear hcz23_7
          try clear hcz23_8
          try clear hcz23_9
          try clear hcz25_0
          try clear hcz25_1
          try clear hcz25_10
          try clear hcz25_11
          try clear hcz25_12
          try clear hcz25_13
          try clear hcz25_14
          try clear hcz25_15
          try clear hcz25_2
          try clear hcz25_3
          try clear hcz25_4
          try clear hcz25_5
          try clear hcz25_6
          try clear hcz25_7
          try clear hcz25_8
          try clear hcz25_9
          try clear hcz27_0
          try clear hcz27_1
          try clear hcz27_10
          try clear hcz27_11
          try clear hcz27_12
          try clear hcz27_13
          try clear hcz27_14
          try clear hcz27_15
          try clear hcz27_2
          try clear hcz27_3
          try clear hcz27_4
          try clear hcz27_5
          try clear hcz27_6
          try clear hcz27_7
          try clear hcz27_8
          try clear hcz27_9
          try clear hcz28_0
          try clear hcz28_1
          try clear hcz28_10
          try clear hcz28_11
          try clear hcz28_12
          try clear hcz28_13
          try clear hcz28_14
          try clear hcz28_15
          try clear hcz28_2
          try clear hcz28_3
          try clear hcz28_4
          try clear hcz28_5
          try clear hcz28_6
          try clear hcz28_7
          try clear hcz28_8
          try clear hcz28_9
          try clear hcz29_0
          try clear hcz29_1
          try clear hcz29_10
          try clear hcz29_11
          try clear hcz29_12
          try clear hcz29_13
          try clear hcz29_14
          try clear hcz29_15
          try clear hcz29_2
          try clear hcz29_3
          try clear hcz29_4
          try clear hcz29_5
          try clear hcz29_6
          try clear hcz29_7
          try clear hcz29_8
          try clear hcz29_9
          try clear hcz30_0
          try clear hcz30_1
          try clear hcz30_10
          try clear hcz30_11
          try clear hcz30_12
          try clear hcz30_13
          try clear hcz30_14
          try clear hcz30_15
          try clear hcz30_2
          try clear hcz30_3
          try clear hcz30_4
          try clear hcz30_5
          try clear hcz30_6
          try clear hcz30_7
          try clear hcz30_8
          try clear hcz30_9
          try clear hcz31_0
          try clear hcz31_1
          try clear hcz31_10
          try clear hcz31_11
          try clear hcz31_12
          try clear hcz31_13
          try clear hcz31_14
          try clear hcz31_15
          try clear hcz31_2
          try clear hcz31_3
          try clear hcz31_4
          try clear hcz31_5
          try clear hcz31_6
          try clear hcz31_7
          try clear hcz31_8
          try clear hcz31_9
          try clear hcz5_0
          try clear hcz5_1
          try clear hcz5_10
          try clear hcz5_11
          try clear hcz5_12
          try clear hcz5_13
          try clear hcz5_14
          try clear hcz5_15
          try clear hcz5_2
          try clear hcz5_3
          try clear hcz5_4
          try clear hcz5_5
          try clear hcz5_6
          try clear hcz5_7
          try clear hcz5_8
          try clear hcz5_9
          try clear hcz7_0
          try clear hcz7_1
          try clear hcz7_10
          try clear hcz7_11
          try clear hcz7_12
          try clear hcz7_13
          try clear hcz7_14
          try clear hcz7_15
          try clear hcz7_2
          try clear hcz7_3
          try clear hcz7_4
          try clear hcz7_5
          try clear hcz7_6
          try clear hcz7_7
          try clear hcz7_8
          try clear hcz7_9
          try clear hfz15_0
          try clear hfz15_1
          try clear hfz15_10
          try clear hfz15_11
          try clear hfz15_12
          try clear hfz15_13
          try clear hfz15_14
          try clear hfz15_15
          try clear hfz15_2
          try clear hfz15_3
          try clear hfz15_4
          try clear hfz15_5
          try clear hfz15_6
          try clear hfz15_7
          try clear hfz15_8
          try clear hfz15_9
          try clear hfz17_0
          try clear hfz17_1
          try clear hfz17_10
          try clear hfz17_11
          try clear hfz17_12
          try clear hfz17_13
          try clear hfz17_14
          try clear hfz17_15
          try clear hfz17_2
          try clear hfz17_3
          try clear hfz17_4
          try clear hfz17_5
          try clear hfz17_6
          try clear hfz17_7
          try clear hfz17_8
          try clear hfz17_9
          try clear hfz19_0
          try clear hfz19_1
          try clear hfz19_10
          try clear hfz19_11
          try clear hfz19_12
          try clear hfz19_13
          try clear hfz19_14
          try clear hfz19_15
          try clear hfz19_2
          try clear hfz19_3
          try clear hfz19_4
          try clear hfz19_5
          try clear hfz19_6
          try clear hfz19_7
          try clear hfz19_8
          try clear hfz19_9
          try clear hfz23_0
          try clear hfz23_1
          try clear hfz23_10
          try clear hfz23_11
          try clear hfz23_12
          try clear hfz23_13
          try clear hfz23_14
          try clear hfz23_15
          try clear hfz23_2
          try clear hfz23_3
          try clear hfz23_4
          try clear hfz23_5
          try clear hfz23_6
          try clear hfz23_7
          try clear hfz23_8
          try clear hfz23_9
          try clear hfz25_0
          try clear hfz25_1
          try clear hfz25_10
          try clear hfz25_11
          try clear hfz25_12
          try clear hfz25_13
          try clear hfz25_14
          try clear hfz25_15
          try clear hfz25_2
          try clear hfz25_3
          try clear hfz25_4
          try clear hfz25_5
          try clear hfz25_6
          try clear hfz25_7
          try clear hfz25_8
          try clear hfz25_9
          try clear hfz27_0
          try clear hfz27_1
          try clear hfz27_10
          try clear hfz27_11
          try clear hfz27_12
          try clear hfz27_13
          try clear hfz27_14
          try clear hfz27_15
          try clear hfz27_2
          try clear hfz27_3
          try clear hfz27_4
          try clear hfz27_5
          try clear hfz27_6
          try clear hfz27_7
          try clear hfz27_8
          try clear hfz27_9
          try clear hfz28_0
          try clear hfz28_1
          try clear hfz28_10
          try clear hfz28_11
          try clear hfz28_12
          try clear hfz28_13
          try clear hfz28_14
          try clear hfz28_15
          try clear hfz28_2
          try clear hfz28_3
          try clear hfz28_4
          try clear hfz28_5
          try clear hfz28_6
          try clear hfz28_7
          try clear hfz28_8
          try clear hfz28_9
          try clear hfz29_0
          try clear hfz29_1
          try clear hfz29_10
          try clear hfz29_11
          try clear hfz29_12
          try clear hfz29_13
          try clear hfz29_14
          try clear hfz29_15
          try clear hfz29_2
          try clear hfz29_3
          try clear hfz29_4
          try clear hfz29_5
          try clear hfz29_6
          try clear hfz29_7
          try clear hfz29_8
          try clear hfz29_9
          try clear hfz30_0
          try clear hfz30_1
          try clear hfz30_10
          try clear hfz30_11
          try clear hfz30_12
          try clear hfz30_13
          try clear hfz30_14
          try clear hfz30_15
          try clear hfz30_2
          try clear hfz30_3
          try clear hfz30_4
          try clear hfz30_5
          try clear hfz30_6
          try clear hfz30_7
          try clear hfz30_8
          try clear hfz30_9
          try clear hfz31_0
          try clear hfz31_1
          try clear hfz31_10
          try clear hfz31_11
          try clear hfz31_12
          try clear hfz31_13
          try clear hfz31_14
          try clear hfz31_15
          try clear hfz31_2
          try clear hfz31_3
          try clear hfz31_4
          try clear hfz31_5
          try clear hfz31_6
          try clear hfz31_7
          try clear hfz31_8
          try clear hfz31_9
          try clear hfz5_0
          try clear hfz5_1
          try clear hfz5_10
          try clear hfz5_11
          try clear hfz5_12
          try clear hfz5_13
          try clear hfz5_14
          try clear hfz5_15
          try clear hfz5_2
          try clear hfz5_3
          try clear hfz5_4
          try clear hfz5_5
          try clear hfz5_6
          try clear hfz5_7
          try clear hfz5_8
          try clear hfz5_9
          try clear hfz7_0
          try clear hfz7_1
          try clear hfz7_10
          try clear hfz7_11
          try clear hfz7_12
          try clear hfz7_13
          try clear hfz7_14
          try clear hfz7_15
          try clear hfz7_2
          try clear hfz7_3
          try clear hfz7_4
          try clear hfz7_5
          try clear hfz7_6
          try clear hfz7_7
          try clear hfz7_8
          try clear hfz7_9
          try clear p2
          obtain ⟨x3_2, rfl, HA, HK2, BK120, HB⟩ := hrel
          cases gk with
          | zero => exact absurd HA.out (by simp [conventicleref15_May.l0])
          | succ k2 =>
            have H := HA.out
            clear HA
            simp only [conventicleref15_May.l0] at H
            by_cases c33 : x3_2 < (l0_5.length : Int)
            · rw [if_pos c33] at H
              have c33b0 : decide (x3_2 < (l0_5.length : Int)) = true := decide_eq_true c33
              clear c33
              by_cases c34 : 0 ≤ x3_2
              · rw [if_pos c34] at H
                have c34b0 : decide (0 ≤ x3_2) = true := decide_eq_true c34
                clear c34
                replace H := Option.bind_eq_some_iff.mp H
                obtain ⟨t127, A350, H⟩ := H
                replace H : (if t127 = true then (conventicleref15_May.l0 k2 (wrap64 (x3_2 + 1)) a0_0 a0_1 a0_2 a0_3 a0_4 l0_5 a0_6 a0_7 a0_8 a0_9 a0_10 a0_11 a0_12 l0_13 l0_14 a0_15) else (some false)) = some r := H
                have A35 := Aside0.mk A350
                clear A350
                by_cases c36 : t127 = true
                · subst c36
                  have H1 : (conventicleref15_May.l0 k2 (wrap64 (x3_2 + 1)) a0_0 a0_1 a0_2 a0_3 a0_4 l0_5 a0_6 a0_7 a0_8 a0_9 a0_10 a0_11 a0_12 l0_13 l0_14 a0_15) = some r := by rw [if_pos rfl] at H; exact H
                  clear H
                  have H := H1
                  clear H1
                  have H' := Aside0.mk H
                  clear H
                  have hcz37_0 : wr.cell? ⟨gb120, 0, none⟩ = some (.int .i64 a0_0) := (blk_cell BK120.out 0).trans rfl
                  have hcz37_1 : wr.cell? ⟨gb120, 1, none⟩ = some (.int .i64 a0_1) := (blk_cell BK120.out 1).trans rfl
                  have hcz37_2 : wr.cell? ⟨gb120, 2, none⟩ = some (.int .i64 a0_2) := (blk_cell BK120.out 2).trans rfl
                  have hcz37_3 : wr.cell? ⟨gb120, 3, none⟩ = some (.int .u64 a0_3) := (blk_cell BK120.out 3).trans rfl
                  have hcz37_4 : wr.cell? ⟨gb120, 4, none⟩ = some (.int .i64 a0_4) := (blk_cell BK120.out 4).trans rfl
                  have hcz37_5 : wr.cell? ⟨gb120, 5, none⟩ = some (.slice A0_5 l0_5.length c0_5) := (blk_cell BK120.out 5).trans rfl
                  have hcz37_6 : wr.cell? ⟨gb120, 6, none⟩ = some (.int .u64 a0_6) := (blk_cell BK120.out 6).trans rfl
                  have hcz37_7 : wr.cell? ⟨gb120, 7, none⟩ = some (.int .u64 a0_7) := (blk_cell BK120.out 7).trans rfl
                  have hcz37_8 : wr.cell? ⟨gb120, 8, none⟩ = some (.int .u64 a0_8) := (blk_cell BK120.out 8).trans rfl
                  have hcz37_9 : wr.cell? ⟨gb120, 9, none⟩ = some (.int .u64 a0_9) := (blk_cell BK120.out 9).trans rfl
                  have hcz37_10 : wr.cell? ⟨gb120, 10, none⟩ = some (.int .u64 a0_10) := (blk_cell BK120.out 10).trans rfl
                  have hcz37_11 : wr.cell? ⟨gb120, 11, none⟩ = some (.int .u64 a0_11) := (blk_cell BK120.out 11).trans rfl
                  have hcz37_12 : wr.cell? ⟨gb120, 12, none⟩ = some (.int .u64 a0_12) := (blk_cell BK120.out 12).trans rfl
                  have hcz37_13 : wr.cell? ⟨gb120, 13, none⟩ = some (.slice A0_13 l0_13.length c0_13) := (blk_cell BK120.out 13).trans rfl
                  have hcz37_14 : wr.cell? ⟨gb120, 14, none⟩ = some (.slice A0_14 l0_14.length c0_14) := (blk_cell BK120.out 14).trans rfl
                  have hcz37_15 : wr.cell? ⟨gb120, 15, none⟩ = some (.float .f64 a0_15) := (blk_cell BK120.out 15).trans rfl
                  have hfz37_0 := blk_frozen BK120.out 0
                  have hfz37_1 := blk_frozen BK120.out 1
                  have hfz37_2 := blk_frozen BK120.out 2
                  have hfz37_3 := blk_frozen BK120.out 3
                  have hfz37_4 := blk_frozen BK120.out 4
                  have hfz37_5 := blk_frozen BK120.out 5
                  have hfz37_6 := blk_frozen BK120.out 6
                  have hfz37_7 := blk_frozen BK120.out 7
                  have hfz37_8 := blk_frozen BK120.out 8
                  have hfz37_9 := blk_frozen BK120.out 9
                  have hfz37_10 := blk_frozen BK120.out 10
                  have hfz37_11 := blk_frozen BK120.out 11
                  have hfz37_12 := blk_frozen BK120.out 12
                  have hfz37_13 := blk_frozen BK120.out 13
                  have hfz37_14 := blk_frozen BK120.out 14
                  have hfz37_15 := blk_frozen BK120.out 15
                  have p126 : 0 ≤ (x3_2 : Int) := of_decide_eq_true (by first | (with_reducible assumption) | assumption)
                  have q126 : x3_2 < (l0_5.length : Int) := of_decide_eq_true (by first | (with_reducible assumption) | assumption)
                  obtain ⟨ad126, e126, hx126_0, hx126_1, hx126_2⟩ := at_T70 HR0_5.out x3_2 p126 q126
                  cases e126
                  replace hx126_0 := (HB.out.cell (World.block_lt_of_cell? w _ hx126_0)).trans hx126_0
                  replace hx126_1 := (HB.out.cell (World.block_lt_of_cell? w _ hx126_1)).trans hx126_1
                  replace hx126_2 := (HB.out.cell (World.block_lt_of_cell? w _ hx126_2)).trans hx126_2
                  replace p126 := eq_true p126
                  replace q126 := eq_true q126
                  go_wp2_with (first | ((with_reducible refine gate_callee (f := 68) rfl ?_); refine goesL_ (some 84) rfl rfl Try.func68 (by kernel_rfl) rfl #[.agg #[.int .i64 ((rd_T70 l0_5 x3_2).f0), .int .u64 ((rd_T70 l0_5 x3_2).f1), .int .i64 ((rd_T70 l0_5 x3_2).f2)]] rfl (by (try simp only [List.map_toArray, List.map_cons, List.map_nil]); first | done | rfl | (simp only [List.length_drop, List.length_take]; rfl)) ?_; (with_reducible refine (conventicleref06_May.calls ((rd_T70 l0_5 x3_2).f0) ((rd_T70 l0_5 x3_2).f1) ((rd_T70 l0_5 x3_2).f2) true _ A35.out).mono ?_); rintro e w38 ⟨rfl, hb⟩; refine ⟨_, rfl, ?_⟩; have n0_ := Aside0.mk (blk_below (g := gb120) (o := .cells #[.int .i64 a0_0, .int .i64 a0_1, .int .i64 a0_2, .int .u64 a0_3, .int .i64 a0_4, .slice (some ad126) l0_5.length c0_5, .int .u64 a0_6, .int .u64 a0_7, .int .u64 a0_8, .int .u64 a0_9, .int .u64 a0_10, .int .u64 a0_11, .int .u64 a0_12, .slice A0_13 l0_13.length c0_13, .slice A0_14 l0_14.length c0_14, .float .f64 a0_15] 38 (0, 0)) (by (with_reducible repeat (first | refine blk_drewN ?_ _ | refine blk_drew ?_ | refine blk_alloc ?_ _)); exact BK120.out) hb); have n1_ := Aside0.mk (below_step (by repeat (first | (with_reducible first | exact HB.out | apply below_alloc | apply pw_below_drewN | apply below_drew1 | refine below_set ?_ GE120.out) | exact HB.out)) hb); clear BK120; clear HB; have BK120 := n0_; have HB := n1_; clear n0_ n1_; (try clear hb); (try clear hb2); (try clear hk); (try clear hi)))
                  go_roundg k2
                  case measure => have := HJ1.out; have := HK2.out; omega
                  case rel => exact ⟨(wrap64 (x3_2 + 1)), (by first | rfl | (simp; done) | (simp [*]; done)), H', ⟨by have := HJ1.out; have := HK2.out; omega⟩, ⟨by (with_reducible repeat (first | refine blk_drewN ?_ _ | refine blk_drew ?_ | refine blk_alloc ?_ _)); exact BK120.out⟩, ⟨by repeat (first | (with_reducible first | exact HB.out | apply below_alloc | apply pw_below_drewN | apply below_drew1 | refine below_set ?_ GE120.out) | exact HB.out)⟩⟩
                · replace c36 := Bool.eq_false_iff.mpr c36
                  subst c36
                  have H1 : (some false) = some r := by rw [if_neg (show ¬ (false = true) by decide)] at H; exact H
                  clear H
                  have H := H1
                  clear H1
                  obtain rfl := Option.some.inj H
                  have hcz39_0 : wr.cell? ⟨gb120, 0, none⟩ = some (.int .i64 a0_0) := (blk_cell BK120.out 0).trans rfl
                  have hcz39_1 : wr.cell? ⟨gb120, 1, none⟩ = some (.int .i64 a0_1) := (blk_cell BK120.out 1).trans rfl
                  have hcz39_2 : wr.cell? ⟨gb120, 2, none⟩ = some (.int .i64 a0_2) := (blk_cell BK120.out 2).trans rfl
                  have hcz39_3 : wr.cell? ⟨gb120, 3, none⟩ = some (.int .u64 a0_3) := (blk_cell BK120.out 3).trans rfl
                  have hcz39_4 : wr.cell? ⟨gb120, 4, none⟩ = some (.int .i64 a0_4) := (blk_cell BK120.out 4).trans rfl
                  have hcz39_5 : wr.cell? ⟨gb120, 5, none⟩ = some (.slice A0_5 l0_5.length c0_5) := (blk_cell BK120.out 5).trans rfl
                  have hcz39_6 : wr.cell? ⟨gb120, 6, none⟩ = some (.int .u64 a0_6) := (blk_cell BK120.out 6).trans rfl
                  have hcz39_7 : wr.cell? ⟨gb120, 7, none⟩ = some (.int .u64 a0_7) := (blk_cell BK120.out 7).trans rfl
                  have hcz39_8 : wr.cell? ⟨gb120, 8, none⟩ = some (.int .u64 a0_8) := (blk_cell BK120.out 8).trans rfl
                  have hcz39_9 : wr.cell? ⟨gb120, 9, none⟩ = some (.int .u64 a0_9) := (blk_cell BK120.out 9).trans rfl
                  have hcz39_10 : wr.cell? ⟨gb120, 10, none⟩ = some (.int .u64 a0_10) := (blk_cell BK120.out 10).trans rfl
                  have hcz39_11 : wr.cell? ⟨gb120, 11, none⟩ = some (.int .u64 a0_11) := (blk_cell BK120.out 11).trans rfl
                  have hcz39_12 : wr.cell? ⟨gb120, 12, none⟩ = some (.int .u64 a0_12) := (blk_cell BK120.out 12).trans rfl
                  have hcz39_13 : wr.cell? ⟨gb120, 13, none⟩ = some (.slice A0_13 l0_13.length c0_13) := (blk_cell BK120.out 13).trans rfl
                  have hcz39_14 : wr.cell? ⟨gb120, 14, none⟩ = some (.slice A0_14 l0_14.length c0_14) := (blk_cell BK120.out 14).trans rfl
                  have hcz39_15 : wr.cell? ⟨gb120, 15, none⟩ = some (.float .f64 a0_15) := (blk_cell BK120.out 15).trans rfl
                  have hfz39_0 := blk_frozen BK120.out 0
                  have hfz39_1 := blk_frozen BK120.out 1
                  have hfz39_2 := blk_frozen BK120.out 2
                  have hfz39_3 := blk_frozen BK120.out 3
                  have hfz39_4 := blk_frozen BK120.out 4
                  have hfz39_5 := blk_frozen BK120.out 5
                  have hfz39_6 := blk_frozen BK120.out 6
                  have hfz39_7 := blk_frozen BK120.out 7
                  have hfz39_8 := blk_frozen BK120.out 8
                  have hfz39_9 := blk_frozen BK120.out 9
                  have hfz39_10 := blk_frozen BK120.out 10
                  have hfz39_11 := blk_frozen BK120.out 11
                  have hfz39_12 := blk_frozen BK120.out 12
                  have hfz39_13 := blk_frozen BK120.out 13
                  have hfz39_14 := blk_frozen BK120.out 14
                  have hfz39_15 := blk_frozen BK120.out 15
                  have p126 : 0 ≤ (x3_2 : Int) := of_decide_eq_true (by first | (with_reducible assumption) | assumption)
                  have q126 : x3_2 < (l0_5.length : Int) := of_decide_eq_true (by first | (with_reducible assumption) | assumption)
                  obtain ⟨ad126, e126, hx126_0, hx126_1, hx126_2⟩ := at_T70 HR0_5.out x3_2 p126 q126
                  cases e126
                  replace hx126_0 := (HB.out.cell (World.block_lt_of_cell? w _ hx126_0)).trans hx126_0
                  replace hx126_1 := (HB.out.cell (World.block_lt_of_cell? w _ hx126_1)).trans hx126_1
                  replace hx126_2 := (HB.out.cell (World.block_lt_of_cell? w _ hx126_2)).trans hx126_2
                  replace p126 := eq_true p126
                  replace q126 := eq_true q126
                  go_wp2_with (first | ((with_reducible refine gate_callee (f := 68) rfl ?_); refine goesL_ (some 84) rfl rfl Try.func68 (by kernel_rfl) rfl #[.agg #[.int .i64 ((rd_T70 l0_5 x3_2).f0), .int .u64 ((rd_T70 l0_5 x3_2).f1), .int .i64 ((rd_T70 l0_5 x3_2).f2)]] rfl (by (try simp only [List.map_toArray, List.map_cons, List.map_nil]); first | done | rfl | (simp only [List.length_drop, List.length_take]; rfl)) ?_; (with_reducible refine (conventicleref06_May.calls ((rd_T70 l0_5 x3_2).f0) ((rd_T70 l0_5 x3_2).f1) ((rd_T70 l0_5 x3_2).f2) false _ A35.out).mono ?_); rintro e w40 ⟨rfl, hb⟩; refine ⟨_, rfl, ?_⟩; have n0_ := Aside0.mk (blk_below (g := gb120) (o := .cells #[.int .i64 a0_0, .int .i64 a0_1, .int .i64 a0_2, .int .u64 a0_3, .int .i64 a0_4, .slice (some ad126) l0_5.length c0_5, .int .u64 a0_6, .int .u64 a0_7, .int .u64 a0_8, .int .u64 a0_9, .int .u64 a0_10, .int .u64 a0_11, .int .u64 a0_12, .slice A0_13 l0_13.length c0_13, .slice A0_14 l0_14.length c0_14, .float .f64 a0_15] 38 (0, 0)) (by (with_reducible repeat (first | refine blk_drewN ?_ _ | refine blk_drew ?_ | refine blk_alloc ?_ _)); exact BK120.out) hb); have n1_ := Aside0.mk (below_step (by repeat (first | (with_reducible first | exact HB.out | apply below_alloc | apply pw_below_drewN | apply below_drew1 | refine below_set ?_ GE120.out) | exact HB.out)) hb); clear BK120; clear HB; have BK120 := n0_; have HB := n1_; clear n0_ n1_; (try clear hb); (try clear hb2); (try clear hk); (try clear hi)))
                  go_ret
                  exact ⟨by first | rfl | (simp [errW_none, errW_some] <;> rfl) | (simp [*, errW_none, errW_some] <;> rfl), by repeat (first | (with_reducible first | exact HB.out | apply below_alloc | apply pw_below_drewN | apply below_drew1 | refine below_set ?_ GE120.out) | exact HB.out)⟩
              · rw [if_neg c34] at H
                exact absurd H (by simp)
            · rw [if_neg c33] at H
              have c33b0 : decide (x3_2 < (l0_5.length : Int)) = false := decide_eq_false c33
              clear c33
              have H' := Aside0.mk H
              clear H
              have hcz41_0 : wr.cell? ⟨gb120, 0, none⟩ = some (.int .i64 a0_0) := (blk_cell BK120.out 0).trans rfl
              have hcz41_1 : wr.cell? ⟨gb120, 1, none⟩ = some (.int .i64 a0_1) := (blk_cell BK120.out 1).trans rfl
              have hcz41_2 : wr.cell? ⟨gb120, 2, none⟩ = some (.int .i64 a0_2) := (blk_cell BK120.out 2).trans rfl
              have hcz41_3 : wr.cell? ⟨gb120, 3, none⟩ = some (.int .u64 a0_3) := (blk_cell BK120.out 3).trans rfl
              have hcz41_4 : wr.cell? ⟨gb120, 4, none⟩ = some (.int .i64 a0_4) := (blk_cell BK120.out 4).trans rfl
              have hcz41_5 : wr.cell? ⟨gb120, 5, none⟩ = some (.slice A0_5 l0_5.length c0_5) := (blk_cell BK120.out 5).trans rfl
              have hcz41_6 : wr.cell? ⟨gb120, 6, none⟩ = some (.int .u64 a0_6) := (blk_cell BK120.out 6).trans rfl
              have hcz41_7 : wr.cell? ⟨gb120, 7, none⟩ = some (.int .u64 a0_7) := (blk_cell BK120.out 7).trans rfl
              have hcz41_8 : wr.cell? ⟨gb120, 8, none⟩ = some (.int .u64 a0_8) := (blk_cell BK120.out 8).trans rfl
              have hcz41_9 : wr.cell? ⟨gb120, 9, none⟩ = some (.int .u64 a0_9) := (blk_cell BK120.out 9).trans rfl
              have hcz41_10 : wr.cell? ⟨gb120, 10, none⟩ = some (.int .u64 a0_10) := (blk_cell BK120.out 10).trans rfl
              have hcz41_11 : wr.cell? ⟨gb120, 11, none⟩ = some (.int .u64 a0_11) := (blk_cell BK120.out 11).trans rfl
              have hcz41_12 : wr.cell? ⟨gb120, 12, none⟩ = some (.int .u64 a0_12) := (blk_cell BK120.out 12).trans rfl
              have hcz41_13 : wr.cell? ⟨gb120, 13, none⟩ = some (.slice A0_13 l0_13.length c0_13) := (blk_cell BK120.out 13).trans rfl
              have hcz41_14 : wr.cell? ⟨gb120, 14, none⟩ = some (.slice A0_14 l0_14.length c0_14) := (blk_cell BK120.out 14).trans rfl
              have hcz41_15 : wr.cell? ⟨gb120, 15, none⟩ = some (.float .f64 a0_15) := (blk_cell BK120.out 15).trans rfl
              have hfz41_0 := blk_frozen BK120.out 0
              have hfz41_1 := blk_frozen BK120.out 1
              have hfz41_2 := blk_frozen BK120.out 2
              have hfz41_3 := blk_frozen BK120.out 3
              have hfz41_4 := blk_frozen BK120.out 4
              have hfz41_5 := blk_frozen BK120.out 5
              have hfz41_6 := blk_frozen BK120.out 6
              have hfz41_7 := blk_frozen BK120.out 7
              have hfz41_8 := blk_frozen BK120.out 8
              have hfz41_9 := blk_frozen BK120.out 9
              have hfz41_10 := blk_frozen BK120.out 10
              have hfz41_11 := blk_frozen BK120.out 11
              have hfz41_12 := blk_frozen BK120.out 12
              have hfz41_13 := blk_frozen BK120.out 13
              have hfz41_14 := blk_frozen BK120.out 14
              have hfz41_15 := blk_frozen BK120.out 15
              go_wp2
              go_loopg [4] k2 (fun kq v4 w' => ∃ (x4_3 : Int), v4 = .int .i64 x4_3 ∧ Aside0 (conventicleref15_May.l1 kq x4_3 a0_0 a0_1 a0_2 a0_3 a0_4 l0_5 a0_6 a0_7 a0_8 a0_9 a0_10 a0_11 a0_12 l0_13 l0_14 a0_15 = some r) ∧ Aside0 (kq ≤ k2) ∧ Aside0 (w'.heap[gb120]? = some (.cells #[.int .i64 a0_0, .int .i64 a0_1, .int .i64 a0_2, .int .u64 a0_3, .int .i64 a0_4, (.slice A0_5 l0_5.length c0_5), .int .u64 a0_6, .int .u64 a0_7, .int .u64 a0_8, .int .u64 a0_9, .int .u64 a0_10, .int .u64 a0_11, .int .u64 a0_12, (.slice A0_13 l0_13.length c0_13), (.slice A0_14 l0_14.length c0_14), .float .f64 a0_15] 38 (0, 0))) ∧ Aside0 (Below w.heap.size w w'))
              case atStart => exact ⟨(0), (by first | rfl | (simp; done) | (simp [*]; done)), H', ⟨Nat.le_refl _⟩, ⟨by (with_reducible repeat (first | refine blk_drewN ?_ _ | refine blk_drew ?_ | refine blk_alloc ?_ _)); exact BK120.out⟩, ⟨by repeat (first | (with_reducible first | exact HB.out | apply below_alloc | apply pw_below_drewN | apply below_drew1 | refine below_set ?_ GE120.out) | exact HB.out)⟩⟩
              case round =>
                clear H'
                try clear c1
                try clear p1
                try clear q1
                try clear hx1
                try clear c2
                try clear p2
                try clear c3
                try clear c4
                try clear c4b0
                try clear c6
                try clear c6b0
                try clear p6
                try clear c9
                try clear c11
                try clear p12
                try clear q12
                try clear hx12
                try clear c13
                try clear c14
                try clear c14b0
                try clear c14b1
                try clear c16
                try clear c16b0
                try clear c16b1
                try clear c18
                try clear c18b0
                try clear c18b1
                try clear c20
                try clear c21
                try clear c22
                try clear c22b0
                try clear c22b1
                try clear c22b2
                try clear c24
                try clear c24b0
                try clear c24b1
                try clear c24b2
                try clear c32
                try clear c33
                try clear c33b0
                try clear c34
                try clear c34b0
                try clear c36
                try clear hcz15_0
                try clear hcz15_1
                try clear hcz15_10
                try clear hcz15_11
                try clear hcz15_12
                try clear hcz15_13
                try clear hcz15_14
                try clear hcz15_15
                try clear hcz15_2
                try clear hcz15_3
                try clear hcz15_4
                try clear hcz15_5
                try clear hcz15_6
                try clear hcz15_7
                try clear hcz15_8
                try clear hcz15_9
                try clear hcz17_0
                try clear hcz17_1
                try clear hcz17_10
                try clear hcz17_11
                try clear hcz17_12
                try clear hcz17_13
                try clear hcz17_14
                try clear hcz17_15
                try clear hcz17_2
                try clear hcz17_3
                try clear hcz17_4
                try clear hcz17_5
                try clear hcz17_6
                try clear hcz17_7
                try clear hcz17_8
                try clear hcz17_9
                try clear hcz19_0
                try clear hcz19_1
                try clear hcz19_10
                try clear hcz19_11
                try clear hcz19_12
                try clear hcz19_13
                try clear hcz19_14
                try clear hcz19_15
                try clear hcz19_2
                try clear hcz19_3
                try clear hcz19_4
                try clear hcz19_5
                try clear hcz19_6
                try clear hcz19_7
                try clear hcz19_8
                try clear hcz19_9
                try clear hcz23_0
                try clear hcz23_1
                try clear hcz23_10
                try clear hcz23_11
                try clear hcz23_12
                try clear hcz23_13
                try clear hcz23_14
                try clear hcz23_15
                try clear hcz23_2
                try clear hcz23_3
                try clear hcz23_4
                try clear hcz23_5
                try clear hcz23_6
                try clear hcz23_7
                try clear hcz23_8
                try clear hcz23_9
                try clear hcz25_0
                try clear hcz25_1
                try clear hcz25_10
                try clear hcz25_11
                try clear hcz25_12
                try clear hcz25_13
                try clear hcz25_14
                try clear hcz25_15
                try clear hcz25_2
                try clear hcz25_3
                try clear hcz25_4
                try clear hcz25_5
                try clear hcz25_6
                try clear hcz25_7
                try clear hcz25_8
                try clear hcz25_9
                try clear hcz27_0
                try clear hcz27_1
                try clear hcz27_10
                try clear hcz27_11
                try clear hcz27_12
                try clear hcz27_13
                try clear hcz27_14
                try clear hcz27_15
                try clear hcz27_2
                try clear hcz27_3
                try clear hcz27_4
                try clear hcz27_5
                try clear hcz27_6
                try clear hcz27_7
                try clear hcz27_8
                try clear hcz27_9
                try clear hcz28_0
                try clear hcz28_1
                try clear hcz28_10
                try clear hcz28_11
                try clear hcz28_12
                try clear hcz28_13
                try clear hcz28_14
                try clear hcz28_15
                try clear hcz28_2
                try clear hcz28_3
                try clear hcz28_4
                try clear hcz28_5
                try clear hcz28_6
                try clear hcz28_7
                try clear hcz28_8
                try clear hcz28_9
                try clear hcz29_0
                try clear hcz29_1
                try clear hcz29_10
                try clear hcz29_11
                try clear hcz29_12
                try clear hcz29_13
                try clear hcz29_14
                try clear hcz29_15
                try clear hcz29_2
                try clear hcz29_3
                try clear hcz29_4
                try clear hcz29_5
                try clear hcz29_6
                try clear hcz29_7
                try clear hcz29_8
                try clear hcz29_9
                try clear hcz30_0
                try clear hcz30_1
                try clear hcz30_10
                try clear hcz30_11
                try clear hcz30_12
                try clear hcz30_13
                try clear hcz30_14
                try clear hcz30_15
                try clear hcz30_2
                try clear hcz30_3
                try clear hcz30_4
                try clear hcz30_5
                try clear hcz30_6
                try clear hcz30_7
                try clear hcz30_8
                try clear hcz30_9
                try clear hcz31_0
                try clear hcz31_1
                try clear hcz31_10
                try clear hcz31_11
                try clear hcz31_12
                try clear hcz31_13
                try clear hcz31_14
                try clear hcz31_15
                try clear hcz31_2
                try clear hcz31_3
                try clear hcz31_4
                try clear hcz31_5
                try clear hcz31_6
                try clear hcz31_7
                try clear hcz31_8
                try clear hcz31_9
                try clear hcz37_0
                try clear hcz37_1
                try clear hcz37_10
                try clear hcz37_11
                try clear hcz37_12
                try clear hcz37_13
                try clear hcz37_14
                try clear hcz37_15
                try clear hcz37_2
                try clear hcz37_3
                try clear hcz37_4
                try clear hcz37_5
                try clear hcz37_6
                try clear hcz37_7
                try clear hcz37_8
                try clear hcz37_9
                try clear hcz39_0
                try clear hcz39_1
                try clear hcz39_10
                try clear hcz39_11
                try clear hcz39_12
                try clear hcz39_13
                try clear hcz39_14
                try clear hcz39_15
                try clear hcz39_2
                try clear hcz39_3
                try clear hcz39_4
                try clear hcz39_5
                try clear hcz39_6
                try clear hcz39_7
                try clear hcz39_8
                try clear hcz39_9
                try clear hcz41_0
                try clear hcz41_1
                try clear hcz41_10
                try clear hcz41_11
                try clear hcz41_12
                try clear hcz41_13
                try clear hcz41_14
                try clear hcz41_15
                try clear hcz41_2
                try clear hcz41_3
                try clear hcz41_4
                try clear hcz41_5
                try clear hcz41_6
                try clear hcz41_7
                try clear hcz41_8
                try clear hcz41_9
                try clear hcz5_0
                try clear hcz5_1
                try clear hcz5_10
                try clear hcz5_11
                try clear hcz5_12
                try clear hcz5_13
                try clear hcz5_14
                try clear hcz5_15
                try clear hcz5_2
                try clear hcz5_3
                try clear hcz5_4
                try clear hcz5_5
                try clear hcz5_6
                try clear hcz5_7
                try clear hcz5_8
                try clear hcz5_9
                try clear hcz7_0
                try clear hcz7_1
                try clear hcz7_10
                try clear hcz7_11
                try clear hcz7_12
                try clear hcz7_13
                try clear hcz7_14
                try clear hcz7_15
                try clear hcz7_2
                try clear hcz7_3
                try clear hcz7_4
                try clear hcz7_5
                try clear hcz7_6
                try clear hcz7_7
                try clear hcz7_8
                try clear hcz7_9
                try clear hfz15_0
                try clear hfz15_1
                try clear hfz15_10
                try clear hfz15_11
                try clear hfz15_12
                try clear hfz15_13
                try clear hfz15_14
                try clear hfz15_15
                try clear hfz15_2
                try clear hfz15_3
                try clear hfz15_4
                try clear hfz15_5
                try clear hfz15_6
                try clear hfz15_7
                try clear hfz15_8
                try clear hfz15_9
                try clear hfz17_0
                try clear hfz17_1
                try clear hfz17_10
                try clear hfz17_11
                try clear hfz17_12
                try clear hfz17_13
                try clear hfz17_14
                try clear hfz17_15
                try clear hfz17_2
                try clear hfz17_3
                try clear hfz17_4
                try clear hfz17_5
                try clear hfz17_6
                try clear hfz17_7
                try clear hfz17_8
                try clear hfz17_9
                try clear hfz19_0
                try clear hfz19_1
                try clear hfz19_10
                try clear hfz19_11
                try clear hfz19_12
                try clear hfz19_13
                try clear hfz19_14
                try clear hfz19_15
                try clear hfz19_2
                try clear hfz19_3
                try clear hfz19_4
                try clear hfz19_5
                try clear hfz19_6
                try clear hfz19_7
                try clear hfz19_8
                try clear hfz19_9
                try clear hfz23_0
                try clear hfz23_1
                try clear hfz23_10
                try clear hfz23_11
                try clear hfz23_12
                try clear hfz23_13
                try clear hfz23_14
                try clear hfz23_15
                try clear hfz23_2
                try clear hfz23_3
                try clear hfz23_4
                try clear hfz23_5
                try clear hfz23_6
                try clear hfz23_7
                try clear hfz23_8
                try clear hfz23_9
                try clear hfz25_0
                try clear hfz25_1
                try clear hfz25_10
                try clear hfz25_11
                try clear hfz25_12
                try clear hfz25_13
                try clear hfz25_14
                try clear hfz25_15
                try clear hfz25_2
                try clear hfz25_3
                try clear hfz25_4
                try clear hfz25_5
                try clear hfz25_6
                try clear hfz25_7
                try clear hfz25_8
                try clear hfz25_9
                try clear hfz27_0
                try clear hfz27_1
                try clear hfz27_10
                try clear hfz27_11
                try clear hfz27_12
                try clear hfz27_13
                try clear hfz27_14
                try clear hfz27_15
                try clear hfz27_2
                try clear hfz27_3
                try clear hfz27_4
                try clear hfz27_5
                try clear hfz27_6
                try clear hfz27_7
                try clear hfz27_8
                try clear hfz27_9
                try clear hfz28_0
                try clear hfz28_1
                try clear hfz28_10
                try clear hfz28_11
                try clear hfz28_12
                try clear hfz28_13
                try clear hfz28_14
                try clear hfz28_15
                try clear hfz28_2
                try clear hfz28_3
                try clear hfz28_4
                try clear hfz28_5
                try clear hfz28_6
                try clear hfz28_7
                try clear hfz28_8
                try clear hfz28_9
                try clear hfz29_0
                try clear hfz29_1
                try clear hfz29_10
                try clear hfz29_11
                try clear hfz29_12
                try clear hfz29_13
                try clear hfz29_14
                try clear hfz29_15
                try clear hfz29_2
                try clear hfz29_3
                try clear hfz29_4
                try clear hfz29_5
                try clear hfz29_6
                try clear hfz29_7
                try clear hfz29_8
                try clear hfz29_9
                try clear hfz30_0
                try clear hfz30_1
                try clear hfz30_10
                try clear hfz30_11
                try clear hfz30_12
                try clear hfz30_13
                try clear hfz30_14
                try clear hfz30_15
                try clear hfz30_2
                try clear hfz30_3
                try clear hfz30_4
                try clear hfz30_5
                try clear hfz30_6
                try clear hfz30_7
                try clear hfz30_8
                try clear hfz30_9
                try clear hfz31_0
                try clear hfz31_1
                try clear hfz31_10
                try clear hfz31_11
                try clear hfz31_12
                try clear hfz31_13
                try clear hfz31_14
                try clear hfz31_15
                try clear hfz31_2
                try clear hfz31_3
                try clear hfz31_4
                try clear hfz31_5
                try clear hfz31_6
                try clear hfz31_7
                try clear hfz31_8
                try clear hfz31_9
                try clear hfz37_0
                try clear hfz37_1
                try clear hfz37_10
                try clear hfz37_11
                try clear hfz37_12
                try clear hfz37_13
                try clear hfz37_14
                try clear hfz37_15
                try clear hfz37_2
                try clear hfz37_3
                try clear hfz37_4
                try clear hfz37_5
                try clear hfz37_6
                try clear hfz37_7
                try clear hfz37_8
                try clear hfz37_9
                try clear hfz39_0
                try clear hfz39_1
                try clear hfz39_10
                try clear hfz39_11
                try clear hfz39_12
                try clear hfz39_13
                try clear hfz39_14
                try clear hfz39_15
                try clear hfz39_2
                try clear hfz39_3
                try clear hfz39_4
                try clear hfz39_5
                try clear hfz39_6
                try clear hfz39_7
                try clear hfz39_8
                try clear hfz39_9
                try clear hfz41_0
                try clear hfz41_1
                try clear hfz41_10
                try clear hfz41_11
                try clear hfz41_12
                try clear hfz41_13
                try clear hfz41_14
                try clear hfz41_15
                try clear hfz41_2
                try clear hfz41_3
                try clear hfz41_4
                try clear hfz41_5
                try clear hfz41_6
                try clear hfz41_7
                try clear hfz41_8
                try clear hfz41_9
                try clear hfz5_0
                try clear hfz5_1
                try clear hfz5_10
                try clear hfz5_11
                try clear hfz5_12
                try clear hfz5_13
                try clear hfz5_14
                try clear hfz5_15
                try clear hfz5_2
                try clear hfz5_3
                try clear hfz5_4
                try clear hfz5_5
                try clear hfz5_6
                try clear hfz5_7
                try clear hfz5_8
                try clear hfz5_9
                try clear hfz7_0
                try clear hfz7_1
                try clear hfz7_10
                try clear hfz7_11
                try clear hfz7_12
                try clear hfz7_13
                try clear hfz7_14
                try clear hfz7_15
                try clear hfz7_2
                try clear hfz7_3
                try clear hfz7_4
                try clear hfz7_5
                try clear hfz7_6
                try clear hfz7_7
                try clear hfz7_8
                try clear hfz7_9
                try clear hx126_0
                try clear hx126_1
                try clear hx126_2
                try clear p126
                try clear p2
                try clear q126
                obtain ⟨x4_3, rfl, HA, HK3, BK120, HB⟩ := hrel
                cases gk with
                | zero => exact absurd HA.out (by simp [conventicleref15_May.l1])
                | succ k3 =>
                  have H := HA.out
                  clear HA
                  simp only [conventicleref15_May.l1] at H
                  by_cases c42 : x4_3 < (l0_13.length : Int)
                  · rw [if_pos c42] at H
                    have c42b0 : decide (x4_3 < (l0_13.length : Int)) = true := decide_eq_true c42
                    clear c42
                    by_cases c43 : 0 ≤ x4_3
                    · rw [if_pos c43] at H
                      have c43b0 : decide (0 ≤ x4_3) = true := decide_eq_true c43
                      clear c43
                      replace H := Option.bind_eq_some_iff.mp H
                      obtain ⟨t129, A440, H⟩ := H
                      replace H : (if t129 = true then (if (((rd_T90 l0_13 x4_3).f1.f2).size : Int) > 64 then (some false) else (conventicleref15_May.l1 k3 (wrap64 (x4_3 + 1)) a0_0 a0_1 a0_2 a0_3 a0_4 l0_5 a0_6 a0_7 a0_8 a0_9 a0_10 a0_11 a0_12 l0_13 l0_14 a0_15)) else (some false)) = some r := H
                      have A44 := Aside0.mk A440
                      clear A440
                      by_cases c45 : t129 = true
                      · subst c45
                        have H1 : (if (((rd_T90 l0_13 x4_3).f1.f2).size : Int) > 64 then (some false) else (conventicleref15_May.l1 k3 (wrap64 (x4_3 + 1)) a0_0 a0_1 a0_2 a0_3 a0_4 l0_5 a0_6 a0_7 a0_8 a0_9 a0_10 a0_11 a0_12 l0_13 l0_14 a0_15)) = some r := by rw [if_pos rfl] at H; exact H
                        clear H
                        have H := H1
                        clear H1
                        by_cases c46 : (((rd_T90 l0_13 x4_3).f1.f2).size : Int) > 64
                        · rw [if_pos c46] at H
                          have c46b0 : decide (64 < (((rd_T90 l0_13 x4_3).f1.f2).size : Int)) = true := decide_eq_true c46
                          have c46b1 : decide (64 < ((rd_T90 l0_13 x4_3).f1.f2).size) = true := decide_eq_true (by omega)
                          clear c46
                          obtain rfl := Option.some.inj H
                          have hcz47_0 : wr.cell? ⟨gb120, 0, none⟩ = some (.int .i64 a0_0) := (blk_cell BK120.out 0).trans rfl
                          have hcz47_1 : wr.cell? ⟨gb120, 1, none⟩ = some (.int .i64 a0_1) := (blk_cell BK120.out 1).trans rfl
                          have hcz47_2 : wr.cell? ⟨gb120, 2, none⟩ = some (.int .i64 a0_2) := (blk_cell BK120.out 2).trans rfl
                          have hcz47_3 : wr.cell? ⟨gb120, 3, none⟩ = some (.int .u64 a0_3) := (blk_cell BK120.out 3).trans rfl
                          have hcz47_4 : wr.cell? ⟨gb120, 4, none⟩ = some (.int .i64 a0_4) := (blk_cell BK120.out 4).trans rfl
                          have hcz47_5 : wr.cell? ⟨gb120, 5, none⟩ = some (.slice A0_5 l0_5.length c0_5) := (blk_cell BK120.out 5).trans rfl
                          have hcz47_6 : wr.cell? ⟨gb120, 6, none⟩ = some (.int .u64 a0_6) := (blk_cell BK120.out 6).trans rfl
                          have hcz47_7 : wr.cell? ⟨gb120, 7, none⟩ = some (.int .u64 a0_7) := (blk_cell BK120.out 7).trans rfl
                          have hcz47_8 : wr.cell? ⟨gb120, 8, none⟩ = some (.int .u64 a0_8) := (blk_cell BK120.out 8).trans rfl
                          have hcz47_9 : wr.cell? ⟨gb120, 9, none⟩ = some (.int .u64 a0_9) := (blk_cell BK120.out 9).trans rfl
                          have hcz47_10 : wr.cell? ⟨gb120, 10, none⟩ = some (.int .u64 a0_10) := (blk_cell BK120.out 10).trans rfl
                          have hcz47_11 : wr.cell? ⟨gb120, 11, none⟩ = some (.int .u64 a0_11) := (blk_cell BK120.out 11).trans rfl
                          have hcz47_12 : wr.cell? ⟨gb120, 12, none⟩ = some (.int .u64 a0_12) := (blk_cell BK120.out 12).trans rfl
                          have hcz47_13 : wr.cell? ⟨gb120, 13, none⟩ = some (.slice A0_13 l0_13.length c0_13) := (blk_cell BK120.out 13).trans rfl
                          have hcz47_14 : wr.cell? ⟨gb120, 14, none⟩ = some (.slice A0_14 l0_14.length c0_14) := (blk_cell BK120.out 14).trans rfl
                          have hcz47_15 : wr.cell? ⟨gb120, 15, none⟩ = some (.float .f64 a0_15) := (blk_cell BK120.out 15).trans rfl
                          have hfz47_0 := blk_frozen BK120.out 0
                          have hfz47_1 := blk_frozen BK120.out 1
                          have hfz47_2 := blk_frozen BK120.out 2
                          have hfz47_3 := blk_frozen BK120.out 3
                          have hfz47_4 := blk_frozen BK120.out 4
                          have hfz47_5 := blk_frozen BK120.out 5
                          have hfz47_6 := blk_frozen BK120.out 6
                          have hfz47_7 := blk_frozen BK120.out 7
                          have hfz47_8 := blk_frozen BK120.out 8
                          have hfz47_9 := blk_frozen BK120.out 9
                          have hfz47_10 := blk_frozen BK120.out 10
                          have hfz47_11 := blk_frozen BK120.out 11
                          have hfz47_12 := blk_frozen BK120.out 12
                          have hfz47_13 := blk_frozen BK120.out 13
                          have hfz47_14 := blk_frozen BK120.out 14
                          have hfz47_15 := blk_frozen BK120.out 15
                          have p128 : 0 ≤ (x4_3 : Int) := of_decide_eq_true (by first | (with_reducible assumption) | assumption)
                          have q128 : x4_3 < (l0_13.length : Int) := of_decide_eq_true (by first | (with_reducible assumption) | assumption)
                          obtain ⟨ad128, e128, hx128_0, hx128_1, hx128_2, hx128_3⟩ := at_T90 HR0_13.out x4_3 p128 q128
                          cases e128
                          replace hx128_0 := (HB.out.cell (World.block_lt_of_cell? w _ hx128_0)).trans hx128_0
                          replace hx128_1 := (HB.out.cell (World.block_lt_of_cell? w _ hx128_1)).trans hx128_1
                          replace hx128_2 := (HB.out.cell (World.block_lt_of_cell? w _ hx128_2)).trans hx128_2
                          replace hx128_3 := (HB.out.cell (World.block_lt_of_cell? w _ hx128_3)).trans hx128_3
                          replace p128 := eq_true p128
                          replace q128 := eq_true q128
                          go_wp2_with (first | ((with_reducible refine gate_callee (f := 66) rfl ?_); refine goesL_ (some 100) rfl rfl Try.func66 (by kernel_rfl) rfl #[.int .i64 ((rd_T90 l0_13 x4_3).f1.f0)] rfl (by (try simp only [List.map_toArray, List.map_cons, List.map_nil]); first | done | rfl | (simp only [List.length_drop, List.length_take]; rfl)) ?_; (with_reducible refine (conventicleref15_node.calls ((rd_T90 l0_13 x4_3).f1.f0) true _ A44.out).mono ?_); rintro e w' ⟨rfl, ⟨nd, rfl⟩⟩; refine ⟨_, rfl, ?_⟩; have p130 : 0 ≤ (x4_3 : Int) := of_decide_eq_true (by first | (with_reducible assumption) | assumption); have q130 : x4_3 < (l0_13.length : Int) := of_decide_eq_true (by first | (with_reducible assumption) | assumption); obtain ⟨ad130, e130, hx130_0, hx130_1, hx130_2, hx130_3⟩ := at_T90 HR0_13.out x4_3 p130 q130; obtain rfl : ad128 = ad130 := (by injection e130); replace hx130_0 := (HB.out.cell (World.block_lt_of_cell? w _ hx130_0)).trans hx130_0; replace hx130_1 := (HB.out.cell (World.block_lt_of_cell? w _ hx130_1)).trans hx130_1; replace hx130_2 := (HB.out.cell (World.block_lt_of_cell? w _ hx130_2)).trans hx130_2; replace hx130_3 := (HB.out.cell (World.block_lt_of_cell? w _ hx130_3)).trans hx130_3; replace p130 := eq_true p130; replace q130 := eq_true q130))
                          go_ret
                          exact ⟨by first | rfl | (simp [errW_none, errW_some] <;> rfl) | (simp [*, errW_none, errW_some] <;> rfl), by repeat (first | (with_reducible first | exact HB.out | apply below_alloc | apply pw_below_drewN | apply below_drew1 | refine below_set ?_ GE120.out) | exact HB.out)⟩
                        · rw [if_neg c46] at H
                          have c46b0 : decide (64 < (((rd_T90 l0_13 x4_3).f1.f2).size : Int)) = false := decide_eq_false c46
                          have c46b1 : decide (64 < ((rd_T90 l0_13 x4_3).f1.f2).size) = false := decide_eq_false (by omega)
                          clear c46
                          have H' := Aside0.mk H
                          clear H
                          have hcz48_0 : wr.cell? ⟨gb120, 0, none⟩ = some (.int .i64 a0_0) := (blk_cell BK120.out 0).trans rfl
                          have hcz48_1 : wr.cell? ⟨gb120, 1, none⟩ = some (.int .i64 a0_1) := (blk_cell BK120.out 1).trans rfl
                          have hcz48_2 : wr.cell? ⟨gb120, 2, none⟩ = some (.int .i64 a0_2) := (blk_cell BK120.out 2).trans rfl
                          have hcz48_3 : wr.cell? ⟨gb120, 3, none⟩ = some (.int .u64 a0_3) := (blk_cell BK120.out 3).trans rfl
                          have hcz48_4 : wr.cell? ⟨gb120, 4, none⟩ = some (.int .i64 a0_4) := (blk_cell BK120.out 4).trans rfl
                          have hcz48_5 : wr.cell? ⟨gb120, 5, none⟩ = some (.slice A0_5 l0_5.length c0_5) := (blk_cell BK120.out 5).trans rfl
                          have hcz48_6 : wr.cell? ⟨gb120, 6, none⟩ = some (.int .u64 a0_6) := (blk_cell BK120.out 6).trans rfl
                          have hcz48_7 : wr.cell? ⟨gb120, 7, none⟩ = some (.int .u64 a0_7) := (blk_cell BK120.out 7).trans rfl
                          have hcz48_8 : wr.cell? ⟨gb120, 8, none⟩ = some (.int .u64 a0_8) := (blk_cell BK120.out 8).trans rfl
                          have hcz48_9 : wr.cell? ⟨gb120, 9, none⟩ = some (.int .u64 a0_9) := (blk_cell BK120.out 9).trans rfl
                          have hcz48_10 : wr.cell? ⟨gb120, 10, none⟩ = some (.int .u64 a0_10) := (blk_cell BK120.out 10).trans rfl
                          have hcz48_11 : wr.cell? ⟨gb120, 11, none⟩ = some (.int .u64 a0_11) := (blk_cell BK120.out 11).trans rfl
                          have hcz48_12 : wr.cell? ⟨gb120, 12, none⟩ = some (.int .u64 a0_12) := (blk_cell BK120.out 12).trans rfl
                          have hcz48_13 : wr.cell? ⟨gb120, 13, none⟩ = some (.slice A0_13 l0_13.length c0_13) := (blk_cell BK120.out 13).trans rfl
                          have hcz48_14 : wr.cell? ⟨gb120, 14, none⟩ = some (.slice A0_14 l0_14.length c0_14) := (blk_cell BK120.out 14).trans rfl
                          have hcz48_15 : wr.cell? ⟨gb120, 15, none⟩ = some (.float .f64 a0_15) := (blk_cell BK120.out 15).trans rfl
                          have hfz48_0 := blk_frozen BK120.out 0
                          have hfz48_1 := blk_frozen BK120.out 1
                          have hfz48_2 := blk_frozen BK120.out 2
                          have hfz48_3 := blk_frozen BK120.out 3
                          have hfz48_4 := blk_frozen BK120.out 4
                          have hfz48_5 := blk_frozen BK120.out 5
                          have hfz48_6 := blk_frozen BK120.out 6
                          have hfz48_7 := blk_frozen BK120.out 7
                          have hfz48_8 := blk_frozen BK120.out 8
                          have hfz48_9 := blk_frozen BK120.out 9
                          have hfz48_10 := blk_frozen BK120.out 10
                          have hfz48_11 := blk_frozen BK120.out 11
                          have hfz48_12 := blk_frozen BK120.out 12
                          have hfz48_13 := blk_frozen BK120.out 13
                          have hfz48_14 := blk_frozen BK120.out 14
                          have hfz48_15 := blk_frozen BK120.out 15
                          have p128 : 0 ≤ (x4_3 : Int) := of_decide_eq_true (by first | (with_reducible assumption) | assumption)
                          have q128 : x4_3 < (l0_13.length : Int) := of_decide_eq_true (by first | (with_reducible assumption) | assumption)
                          obtain ⟨ad128, e128, hx128_0, hx128_1, hx128_2, hx128_3⟩ := at_T90 HR0_13.out x4_3 p128 q128
                          cases e128
                          replace hx128_0 := (HB.out.cell (World.block_lt_of_cell? w _ hx128_0)).trans hx128_0
                          replace hx128_1 := (HB.out.cell (World.block_lt_of_cell? w _ hx128_1)).trans hx128_1
                          replace hx128_2 := (HB.out.cell (World.block_lt_of_cell? w _ hx128_2)).trans hx128_2
                          replace hx128_3 := (HB.out.cell (World.block_lt_of_cell? w _ hx128_3)).trans hx128_3
                          replace p128 := eq_true p128
                          replace q128 := eq_true q128
                          go_wp2_with (first | ((with_reducible refine gate_callee (f := 66) rfl ?_); refine goesL_ (some 100) rfl rfl Try.func66 (by kernel_rfl) rfl #[.int .i64 ((rd_T90 l0_13 x4_3).f1.f0)] rfl (by (try simp only [List.map_toArray, List.map_cons, List.map_nil]); first | done | rfl | (simp only [List.length_drop, List.length_take]; rfl)) ?_; (with_reducible refine (conventicleref15_node.calls ((rd_T90 l0_13 x4_3).f1.f0) true _ A44.out).mono ?_); rintro e w' ⟨rfl, ⟨nd, rfl⟩⟩; refine ⟨_, rfl, ?_⟩; have p130 : 0 ≤ (x4_3 : Int) := of_decide_eq_true (by first | (with_reducible assumption) | assumption); have q130 : x4_3 < (l0_13.length : Int) := of_decide_eq_true (by first | (with_reducible assumption) | assumption); obtain ⟨ad130, e130, hx130_0, hx130_1, hx130_2, hx130_3⟩ := at_T90 HR0_13.out x4_3 p130 q130; obtain rfl : ad128 = ad130 := (by injection e130); replace hx130_0 := (HB.out.cell (World.block_lt_of_cell? w _ hx130_0)).trans hx130_0; replace hx130_1 := (HB.out.cell (World.block_lt_of_cell? w _ hx130_1)).trans hx130_1; replace hx130_2 := (HB.out.cell (World.block_lt_of_cell? w _ hx130_2)).trans hx130_2; replace hx130_3 := (HB.out.cell (World.block_lt_of_cell? w _ hx130_3)).trans hx130_3; replace p130 := eq_true p130; replace q130 := eq_true q130))
                          go_roundg k3
                          case measure => have := HJ1.out; have := HK2.out; have := HK3.out; omega
                          case rel => exact ⟨(wrap64 (x4_3 + 1)), (by first | rfl | (simp; done) | (simp [*]; done)), H', ⟨by have := HJ1.out; have := HK2.out; have := HK3.out; omega⟩, ⟨by (with_reducible repeat (first | refine blk_drewN ?_ _ | refine blk_drew ?_ | refine blk_alloc ?_ _)); exact BK120.out⟩, ⟨by repeat (first | (with_reducible first | exact HB.out | apply below_alloc | apply pw_below_drewN | apply below_drew1 | refine below_set ?_ GE120.out) | exact HB.out)⟩⟩
                      · replace c45 := Bool.eq_false_iff.mpr c45
                        subst c45
                        have H1 : (some false) = some r := by rw [if_neg (show ¬ (false = true) by decide)] at H; exact H
                        clear H
                        have H := H1
                        clear H1
                        obtain rfl := Option.some.inj H
                        have hcz49_0 : wr.cell? ⟨gb120, 0, none⟩ = some (.int .i64 a0_0) := (blk_cell BK120.out 0).trans rfl
                        have hcz49_1 : wr.cell? ⟨gb120, 1, none⟩ = some (.int .i64 a0_1) := (blk_cell BK120.out 1).trans rfl
                        have hcz49_2 : wr.cell? ⟨gb120, 2, none⟩ = some (.int .i64 a0_2) := (blk_cell BK120.out 2).trans rfl
                        have hcz49_3 : wr.cell? ⟨gb120, 3, none⟩ = some (.int .u64 a0_3) := (blk_cell BK120.out 3).trans rfl
                        have hcz49_4 : wr.cell? ⟨gb120, 4, none⟩ = some (.int .i64 a0_4) := (blk_cell BK120.out 4).trans rfl
                        have hcz49_5 : wr.cell? ⟨gb120, 5, none⟩ = some (.slice A0_5 l0_5.length c0_5) := (blk_cell BK120.out 5).trans rfl
                        have hcz49_6 : wr.cell? ⟨gb120, 6, none⟩ = some (.int .u64 a0_6) := (blk_cell BK120.out 6).trans rfl
                        have hcz49_7 : wr.cell? ⟨gb120, 7, none⟩ = some (.int .u64 a0_7) := (blk_cell BK120.out 7).trans rfl
                        have hcz49_8 : wr.cell? ⟨gb120, 8, none⟩ = some (.int .u64 a0_8) := (blk_cell BK120.out 8).trans rfl
                        have hcz49_9 : wr.cell? ⟨gb120, 9, none⟩ = some (.int .u64 a0_9) := (blk_cell BK120.out 9).trans rfl
                        have hcz49_10 : wr.cell? ⟨gb120, 10, none⟩ = some (.int .u64 a0_10) := (blk_cell BK120.out 10).trans rfl
                        have hcz49_11 : wr.cell? ⟨gb120, 11, none⟩ = some (.int .u64 a0_11) := (blk_cell BK120.out 11).trans rfl
                        have hcz49_12 : wr.cell? ⟨gb120, 12, none⟩ = some (.int .u64 a0_12) := (blk_cell BK120.out 12).trans rfl
                        have hcz49_13 : wr.cell? ⟨gb120, 13, none⟩ = some (.slice A0_13 l0_13.length c0_13) := (blk_cell BK120.out 13).trans rfl
                        have hcz49_14 : wr.cell? ⟨gb120, 14, none⟩ = some (.slice A0_14 l0_14.length c0_14) := (blk_cell BK120.out 14).trans rfl
                        have hcz49_15 : wr.cell? ⟨gb120, 15, none⟩ = some (.float .f64 a0_15) := (blk_cell BK120.out 15).trans rfl
                        have hfz49_0 := blk_frozen BK120.out 0
                        have hfz49_1 := blk_frozen BK120.out 1
                        have hfz49_2 := blk_frozen BK120.out 2
                        have hfz49_3 := blk_frozen BK120.out 3
                        have hfz49_4 := blk_frozen BK120.out 4
                        have hfz49_5 := blk_frozen BK120.out 5
                        have hfz49_6 := blk_frozen BK120.out 6
                        have hfz49_7 := blk_frozen BK120.out 7
                        have hfz49_8 := blk_frozen BK120.out 8
                        have hfz49_9 := blk_frozen BK120.out 9
                        have hfz49_10 := blk_frozen BK120.out 10
                        have hfz49_11 := blk_frozen BK120.out 11
                        have hfz49_12 := blk_frozen BK120.out 12
                        have hfz49_13 := blk_frozen BK120.out 13
                        have hfz49_14 := blk_frozen BK120.out 14
                        have hfz49_15 := blk_frozen BK120.out 15
                        have p128 : 0 ≤ (x4_3 : Int) := of_decide_eq_true (by first | (with_reducible assumption) | assumption)
                        have q128 : x4_3 < (l0_13.length : Int) := of_decide_eq_true (by first | (with_reducible assumption) | assumption)
                        obtain ⟨ad128, e128, hx128_0, hx128_1, hx128_2, hx128_3⟩ := at_T90 HR0_13.out x4_3 p128 q128
                        cases e128
                        replace hx128_0 := (HB.out.cell (World.block_lt_of_cell? w _ hx128_0)).trans hx128_0
                        replace hx128_1 := (HB.out.cell (World.block_lt_of_cell? w _ hx128_1)).trans hx128_1
                        replace hx128_2 := (HB.out.cell (World.block_lt_of_cell? w _ hx128_2)).trans hx128_2
                        replace hx128_3 := (HB.out.cell (World.block_lt_of_cell? w _ hx128_3)).trans hx128_3
                        replace p128 := eq_true p128
                        replace q128 := eq_true q128
                        go_wp2_with (first | ((with_reducible refine gate_callee (f := 66) rfl ?_); refine goesL_ (some 100) rfl rfl Try.func66 (by kernel_rfl) rfl #[.int .i64 ((rd_T90 l0_13 x4_3).f1.f0)] rfl (by (try simp only [List.map_toArray, List.map_cons, List.map_nil]); first | done | rfl | (simp only [List.length_drop, List.length_take]; rfl)) ?_; (with_reducible refine (conventicleref15_node.calls ((rd_T90 l0_13 x4_3).f1.f0) false _ A44.out).mono ?_); rintro e w' ⟨rfl, ⟨nd, rfl⟩⟩; refine ⟨_, rfl, ?_⟩))
                        go_ret
                        exact ⟨by first | rfl | (simp [errW_none, errW_some] <;> rfl) | (simp [*, errW_none, errW_some] <;> rfl), by repeat (first | (with_reducible first | exact HB.out | apply below_alloc | apply pw_below_drewN | apply below_drew1 | refine below_set ?_ GE120.out) | exact HB.out)⟩
                    · rw [if_neg c43] at H
                      exact absurd H (by simp)
                  · rw [if_neg c42] at H
                    have c42b0 : decide (x4_3 < (l0_13.length : Int)) = false := decide_eq_false c42
                    clear c42
                    obtain rfl := Option.some.inj H
                    have hcz50_0 : wr.cell? ⟨gb120, 0, none⟩ = some (.int .i64 a0_0) := (blk_cell BK120.out 0).trans rfl
                    have hcz50_1 : wr.cell? ⟨gb120, 1, none⟩ = some (.int .i64 a0_1) := (blk_cell BK120.out 1).trans rfl
                    have hcz50_2 : wr.cell? ⟨gb120, 2, none⟩ = some (.int .i64 a0_2) := (blk_cell BK120.out 2).trans rfl
                    have hcz50_3 : wr.cell? ⟨gb120, 3, none⟩ = some (.int .u64 a0_3) := (blk_cell BK120.out 3).trans rfl
                    have hcz50_4 : wr.cell? ⟨gb120, 4, none⟩ = some (.int .i64 a0_4) := (blk_cell BK120.out 4).trans rfl
                    have hcz50_5 : wr.cell? ⟨gb120, 5, none⟩ = some (.slice A0_5 l0_5.length c0_5) := (blk_cell BK120.out 5).trans rfl
                    have hcz50_6 : wr.cell? ⟨gb120, 6, none⟩ = some (.int .u64 a0_6) := (blk_cell BK120.out 6).trans rfl
                    have hcz50_7 : wr.cell? ⟨gb120, 7, none⟩ = some (.int .u64 a0_7) := (blk_cell BK120.out 7).trans rfl
                    have hcz50_8 : wr.cell? ⟨gb120, 8, none⟩ = some (.int .u64 a0_8) := (blk_cell BK120.out 8).trans rfl
                    have hcz50_9 : wr.cell? ⟨gb120, 9, none⟩ = some (.int .u64 a0_9) := (blk_cell BK120.out 9).trans rfl
                    have hcz50_10 : wr.cell? ⟨gb120, 10, none⟩ = some (.int .u64 a0_10) := (blk_cell BK120.out 10).trans rfl
                    have hcz50_11 : wr.cell? ⟨gb120, 11, none⟩ = some (.int .u64 a0_11) := (blk_cell BK120.out 11).trans rfl
                    have hcz50_12 : wr.cell? ⟨gb120, 12, none⟩ = some (.int .u64 a0_12) := (blk_cell BK120.out 12).trans rfl
                    have hcz50_13 : wr.cell? ⟨gb120, 13, none⟩ = some (.slice A0_13 l0_13.length c0_13) := (blk_cell BK120.out 13).trans rfl
                    have hcz50_14 : wr.cell? ⟨gb120, 14, none⟩ = some (.slice A0_14 l0_14.length c0_14) := (blk_cell BK120.out 14).trans rfl
                    have hcz50_15 : wr.cell? ⟨gb120, 15, none⟩ = some (.float .f64 a0_15) := (blk_cell BK120.out 15).trans rfl
                    have hfz50_0 := blk_frozen BK120.out 0
                    have hfz50_1 := blk_frozen BK120.out 1
                    have hfz50_2 := blk_frozen BK120.out 2
                    have hfz50_3 := blk_frozen BK120.out 3
                    have hfz50_4 := blk_frozen BK120.out 4
                    have hfz50_5 := blk_frozen BK120.out 5
                    have hfz50_6 := blk_frozen BK120.out 6
                    have hfz50_7 := blk_frozen BK120.out 7
                    have hfz50_8 := blk_frozen BK120.out 8
                    have hfz50_9 := blk_frozen BK120.out 9
                    have hfz50_10 := blk_frozen BK120.out 10
                    have hfz50_11 := blk_frozen BK120.out 11
                    have hfz50_12 := blk_frozen BK120.out 12
                    have hfz50_13 := blk_frozen BK120.out 13
                    have hfz50_14 := blk_frozen BK120.out 14
                    have hfz50_15 := blk_frozen BK120.out 15
                    go_wp2
                    go_ret
                    exact ⟨by first | rfl | (simp [errW_none, errW_some] <;> rfl) | (simp [*, errW_none, errW_some] <;> rfl), by repeat (first | (with_reducible first | exact HB.out | apply below_alloc | apply pw_below_drewN | apply below_drew1 | refine below_set ?_ GE120.out) | exact HB.out)⟩

end Go.Proofs.Ytondgoabnmgcaaa.B
end
section
/- By hand: Float64bits (it has no body) in a region that draws. -/
namespace Go.Proofs.Ytondgoabnmgcaaa.B
open Go.RowKit Go.Proofs.YtondgoabnmgcaaaW.PrintWords Go.Proofs.YtondgoabnmgcaaaW.PrintLast Go.Proofs.YtondgoabnmgcaaaW.PrintMore
def math_Float64bits.f (x : Nat) : Option Int := some (x : Int)
theorem fbits {x : Nat} {r : Int} (h : math_Float64bits.f x = some r) (w : World) : (callFunc 47 #[.float .f64 x]).run Try.prog w = .ok (.value (.int .u64 r)) w := by
  obtain rfl := Option.some.inj h
  exact Go.Proofs.YtondgoabnmgcaaaO.R.bits_run x w
theorem goesX_ {P : Program} {ops : Array Oper} {Q : Exit → Act → World → Prop} {oi : Oper} {N : Option Tmp} {a : Act} {w : World} {K : Act → World → Prop} {f : FuncId} {xs : Array Operand} {ts : Array TypeId} {v : Value} (args : Array Value)
    (hw : Region.wanted oi (yielded ops a.tmps) = true) (hN : oi.dst = N) (hop : oi.op = .call { callee := .value (.func f), args := xs, argTypes := ts }) (hargs : xs.map a.eval = args)
    (he : (callFunc f args).run P w = .ok (.value v) w)
    (h : K (a.put N v) w) : if Region.wanted oi (yielded ops a.tmps) = true then Oper.wp P oi a w K Q else K (a.put N undef) w := by
  refine value_ (w1 := w) (v := v) hw hN ?_ h
  unfold execOp
  simp [hop, resolve, Deferred.ofValue, invoke, Act.eval, hargs, he]
end Go.Proofs.Ytondgoabnmgcaaa.B
end
section
namespace Go.Proofs.Ytondgoabnmgcaaa.B
open Go.RowKit Go.Proofs.YtondgoabnmgcaaaW.PrintWords Go.Proofs.YtondgoabnmgcaaaW.PrintLast Go.Proofs.YtondgoabnmgcaaaW.PrintMore
attribute [local go_sem] max2_int min2_int max_two min_two max_three min_three max_four min_four   -- for this text's walks alone
set_option linter.unusedVariables false
set_option linter.unusedSimpArgs false

theorem eqA27 (d : Nat) (w : World) (x0 y0 : Int) (x1 y1 : Int) :
    (Op.equalIn (d + 2) 27 (.agg #[.int .u64 x0, .int .u64 x1]) (.agg #[.int .u64 y0, .int .u64 y1])).run Try.prog w = .ok (x0 == y0 && (x1 == y1)) w := by
  refine eqA_of Try.underlying27 (by kernel_rfl) ?_
  refine eqf_cons (by rfl) (by go_simp; rfl) (by go_simp; rfl) (by go_simp) ?_
  exact eqf_last (by rfl) (by go_simp; rfl) (by go_simp; rfl) (by go_simp)
theorem eqA90 (d : Nat) (w : World) (x0 y0 : Int) (x1 y1 : Int) (x2 y2 : Int) (x3 y3 : ByteArray) :
    (Op.equalIn (d + 3) 90 (.agg #[.int .u64 x0, .int .i64 x1, .int .u64 x2, .string x3]) (.agg #[.int .u64 y0, .int .i64 y1, .int .u64 y2, .string y3])).run Try.prog w = .ok (x0 == y0 && ((x1 == y1 && (x2 == y2 && (x3.toList == y3.toList))))) w := by
  refine eqA_of Try.underlying90 (by kernel_rfl) ?_
  refine eqf_cons (by rfl) (by go_simp; rfl) (by go_simp; rfl) (by go_simp) ?_
  exact eqf_last (by rfl) (by go_simp) (by go_simp) (eqA51 (d + 0) w _ _ _ _ _ _)
attribute [local go_sem high] eqA27 eqA90
/-! ### conventicleref15_Same: function 12 -/
mutual
def conventicleref15_Same.j0 : Nat → Bool → Int → Int → Int → Int → Int → List (S70) → Int → Int → Int → Int → Int → Int → Int → List (S90) → List (S77) → Nat → Int → Int → Int → Int → Int → List (S70) → Int → Int → Int → Int → Int → Int → Int → List (S90) → List (S77) → Nat → Option (Bool)
  | 0, _, _, _, _, _, _, _, _, _, _, _, _, _, _, _, _, _, _, _, _, _, _, _, _, _, _, _, _, _, _, _, _, _ => none
  | k + 1, x107, x148000, x148001, x148002, x148003, x148004, x148005, x148006, x148007, x148008, x148009, x148010, x148011, x148012, x148013, x148014, x148015, x149000, x149001, x149002, x149003, x149004, x149005, x149006, x149007, x149008, x149009, x149010, x149011, x149012, x149013, x149014, x149015 => if x107 = true then (none) else (conventicleref15_Same.l0 k 0 x148000 x148001 x148002 x148003 x148004 x148005 x148006 x148007 x148008 x148009 x148010 x148011 x148012 x148013 x148014 x148015 x149000 x149001 x149002 x149003 x149004 x149005 x149006 x149007 x149008 x149009 x149010 x149011 x149012 x149013 x149014 x149015)
def conventicleref15_Same.l0 : Nat → Int → Int → Int → Int → Int → Int → List (S70) → Int → Int → Int → Int → Int → Int → Int → List (S90) → List (S77) → Nat → Int → Int → Int → Int → Int → List (S70) → Int → Int → Int → Int → Int → Int → Int → List (S90) → List (S77) → Nat → Option (Bool)
  | 0, _, _, _, _, _, _, _, _, _, _, _, _, _, _, _, _, _, _, _, _, _, _, _, _, _, _, _, _, _, _, _, _, _ => none
  | k + 1, x5, x148000, x148001, x148002, x148003, x148004, x148005, x148006, x148007, x148008, x148009, x148010, x148011, x148012, x148013, x148014, x148015, x149000, x149001, x149002, x149003, x149004, x149005, x149006, x149007, x149008, x149009, x149010, x149011, x149012, x149013, x149014, x149015 => if x5 < (x148013.length : Int) then (if 0 ≤ x5 then (if x5 < (x149013.length : Int) then (if (!(((rd_T90 x148013 x5).f0) == ((rd_T90 x149013 x5).f0)) || ((!(((rd_T90 x148013 x5).f1.f0) == ((rd_T90 x149013 x5).f1.f0)) || (!(((rd_T90 x148013 x5).f1.f1) == ((rd_T90 x149013 x5).f1.f1)) || (!((((rd_T90 x148013 x5).f1.f2).toList) == (((rd_T90 x149013 x5).f1.f2).toList))))))) = true then (none) else (conventicleref15_Same.l0 k (wrap64 (x5 + 1)) x148000 x148001 x148002 x148003 x148004 x148005 x148006 x148007 x148008 x148009 x148010 x148011 x148012 x148013 x148014 x148015 x149000 x149001 x149002 x149003 x149004 x149005 x149006 x149007 x149008 x149009 x149010 x149011 x149012 x149013 x149014 x149015)) else (none)) else (none)) else (some true)
end
def conventicleref15_Same.T1 : Bool × List (List Nat × List Nat) := (true, [([], []), ([0], [0]), ([], []), ([2], [2]), ([1, 3], [1, 3]), ([4], [4]), ([5], [5]), ([6, 5], [5, 6]), ([5], [5]), ([8, 5], [5, 8]), ([7, 9, 5], [5, 7, 9]), ([5, 10], [5, 10]), ([11, 5], [11]), ([12], [12]), ([13, 12], [12, 13]), ([12], [12]), ([15, 12], [12, 15]), ([14, 16, 12], [12, 14, 16]), ([12, 17], [12, 17]), ([18, 12], [18]), ([19], [19]), ([20, 19], [19, 20]), ([19], [19]), ([22, 19], [19, 22]), ([21, 23, 19], [19, 21, 23]), ([19, 24], [19, 24]), ([25, 19], [25]), ([26], [26]), ([27, 26], [26, 27]), ([26], [26]), ([29, 26], [26, 29]), ([28, 30, 26], [26, 28, 30]), ([26, 31], [26, 31]), ([32, 26], [32]), ([33], [33]), ([34, 33], [33, 34]), ([33], [33]), ([36, 33], [33, 36]), ([35, 37, 33, 33], [33, 35, 37]), ([38, 33], [33, 38]), ([33, 39], [33, 39]), ([40, 38], [40]), ([41], [41]), ([42, 41], [41, 42]), ([41], [41]), ([44, 41], [41, 44]), ([43, 45, 41], [41, 43, 45]), ([41, 46], [41, 46]), ([47, 41], [47]), ([48], [48]), ([49, 48], [48, 49]), ([48], [48]), ([51, 48], [48, 51]), ([50, 52, 48], [48, 50, 52]), ([48, 53], [48, 53]), ([54, 48], [54]), ([55], [55]), ([56, 55], [55, 56]), ([55], [55]), ([58, 55], [55, 58]), ([57, 59, 55], [55, 57, 59]), ([55, 60], [55, 60]), ([61, 55], [61]), ([62], [62]), ([63, 62], [62, 63]), ([62], [62]), ([65, 62], [62, 65]), ([64, 66, 62], [62, 64, 66]), ([62, 67], [62, 67]), ([68, 62], [68]), ([69], [69]), ([70, 69], [69, 70]), ([69], [69]), ([72, 69], [69, 72]), ([71, 73, 69], [69, 71, 73]), ([69, 74], [69, 74]), ([75, 69], [75]), ([76], [76]), ([77, 76], [76, 77]), ([78, 76], [76, 78]), ([76], [76]), ([80, 76], [76, 80]), ([81, 76], [76, 81]), ([79, 82, 76], [76, 79, 82]), ([76, 83], [76, 83]), ([84, 76], [84]), ([85], [85]), ([86, 85], [85, 86]), ([85], [85]), ([88, 85], [85, 88]), ([87, 89, 85, 85], [85, 87, 89]), ([90, 85], [85, 90]), ([85, 91], [85, 91]), ([92, 90], [92]), ([93], [93]), ([94, 93], [93, 94]), ([95, 93, 93], [93, 95]), ([93], [93]), ([97, 93], [93, 97]), ([98, 96, 93], [93, 98]), ([96, 99, 93], [93, 96, 99]), ([93, 100], [93, 100])])
def conventicleref15_Same.B1 : List Nat := [0, 1, 0, 4, 15, 31, 63, 127, 63, 319, 1023, 2047, 4095, 8191, 16383, 8191, 40959, 131071, 262143, 524287, 1048575, 2097151, 1048575, 5242879, 16777215, 33554431, 67108863, 134217727, 268435455, 134217727, 671088639, 2147483647, 4294967295, 8589934591, 17179869183, 34359738367, 17179869183, 85899345919, 274877906943, 549755813887, 1099511627775, 2199023255551, 4398046511103, 8796093022207, 4398046511103, 21990232555519, 70368744177663, 140737488355327, 281474976710655, 562949953421311, 1125899906842623, 562949953421311, 2814749767106559, 9007199254740991, 18014398509481983, 36028797018963967, 72057594037927935, 144115188075855871, 72057594037927935, 360287970189639679, 1152921504606846975, 2305843009213693951, 4611686018427387903, 9223372036854775807, 18446744073709551615, 9223372036854775807, 46116860184273879039, 147573952589676412927, 295147905179352825855, 590295810358705651711, 1180591620717411303423, 2361183241434822606847, 1180591620717411303423, 5902958103587056517119, 18889465931478580854783, 37778931862957161709567, 75557863725914323419135, 151115727451828646838271, 302231454903657293676543, 604462909807314587353087, 151115727451828646838271, 1360041547066457821544447, 3777893186295716170956799, 9671406556917033397649407, 19342813113834066795298815, 38685626227668133590597631, 77371252455336267181195263, 154742504910672534362390527, 77371252455336267181195263, 386856262276681335905976319, 1237940039285380274899124223, 2475880078570760549798248447, 4951760157141521099596496895, 9903520314283042199192993791, 19807040628566084398385987583, 39614081257132168796771975167, 79228162514264337593543950335, 19807040628566084398385987583, 178263365657094759585473888255, 633825300114114700748351602687, 1267650600228229401496703205375, 2535301200456458802993406410751]
def conventicleref15_Same.T6 : Bool × List (List Nat × List Nat) := (true, [([], []), ([0], [0]), ([], []), ([1, 2], [1, 2]), ([3], [3]), ([], []), ([5], [5]), ([], []), ([6, 7], [6, 7]), ([8], [8]), ([4, 9], [4, 9])])
def conventicleref15_Same.B6 : List Nat := [0, 1, 0, 7, 15, 0, 32, 0, 224, 480, 1023]
end Go.Proofs.Ytondgoabnmgcaaa.B
end
