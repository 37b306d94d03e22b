/- Texts of this claim, one behind the other (joined by pack.py): DecW DecR. -/
import Derived.Test.YtondgoabnmgcaaaKLetterDecodes18
import Derived.Test.YtondgoabnmgcaaaKLetterDecodes11
import Derived.Test.YtondgoabnmgcaaaKLetterDecodes6
section
/- By hand: the walk of LetterDecodes (printed by decw.py). -/
namespace Go.Proofs.Ytondgoabnmgcaaa.B
open Go.RowKit Go.Proofs.YtondgoabnmgcaaaW.PrintWords Go.Proofs.YtondgoabnmgcaaaW.PrintLast Go.Proofs.YtondgoabnmgcaaaW.PrintMore
set_option linter.unusedSimpArgs false
set_option linter.unusedVariables false
theorem row_yields32 {o : Oper} {a : Act} {w : World} (x : Operand) (ho : o.op = .load 32 x)
    (g : Nat) (hx : a.eval x = .pointer (some ⟨g, 0, none⟩)) (t : TypeId) (cs : Array Value) (fr : Nat × Nat) (hg : w.heap[g]? = some (.cells cs t fr))
    (hi : (Try.prog.info? 32).map (·.size) = some cs.size) :
    (execOp a.eval o).run Try.prog w = .ok (.value (.agg cs)) w := by
  unfold execOp
  simp only [ho, hx, Instr.loadAt, Instr.sureAddr, Sem.run_bind, Sem.run_pure, Result.andThen_ok, run_loadVar_row w g t 32 cs fr _ hg Try.underlying32 rfl hi]
theorem row_yields38 {o : Oper} {a : Act} {w : World} (x : Operand) (ho : o.op = .load 38 x)
    (g : Nat) (hx : a.eval x = .pointer (some ⟨g, 0, none⟩)) (t : TypeId) (cs : Array Value) (fr : Nat × Nat) (hg : w.heap[g]? = some (.cells cs t fr))
    (hi : (Try.prog.info? 38).map (·.size) = some cs.size) :
    (execOp a.eval o).run Try.prog w = .ok (.value (.agg cs)) w := by
  unfold execOp
  simp only [ho, hx, Instr.loadAt, Instr.sureAddr, Sem.run_bind, Sem.run_pure, Result.andThen_ok, run_loadVar_row w g t 38 cs fr _ hg Try.underlying38 rfl hi]
theorem refdec_calls (t : ByteArray) (r0 r1 r2 r3 r4 : Int) (r5 : List S70) (r6 r7 r8 r9 r10 r11 r12 : Int) (r13 : List S53) (r14 : List S77) (r15 : Nat) (r16 : Int) (w : World) (ht : t.size ≤ 4000)
    (h : letter_Decode.f t = some (r0, r1, r2, r3, r4, r5, r6, r7, r8, r9, r10, r11, r12, r13, r14, r15, r16)) :
    Calls Try.prog 11 #[.string t] w fun e w' => ∃ v5 v13 v14, e = .returned (.tuple #[.agg #[.int .i64 r0, .int .i64 r1, .int .i64 r2, .int .u64 r3, .int .i64 r4, v5, .int .u64 r6, .int .u64 r7, .int .u64 r8, .int .u64 r9, .int .u64 r10, .int .u64 r11, .int .u64 r12, v13, v14, .float .f64 r15], .int .i64 r16]) ∧
      Kd.R k70 70 w' w.heap.size (fun _ => True) v5 r5 ∧ Kd.R k90 90 w' w.heap.size (fun _ => True) v13 (r13.map to90) ∧ Kd.R k77 77 w' w.heap.size (fun _ => True) v14 r14 ∧ Below w.heap.size w w' := by
  obtain ⟨D, hD, hf⟩ := Option.map_eq_some_iff.1 h
  unfold decT at hD
  obtain ⟨⟨s, er⟩, h1, h2⟩ := Option.bind_eq_some_iff.1 hD
  have hO := (Go.Proofs.YtondgoabnmgcaaaG.Pure.ropen_run t ht 0).trans h1
  dsimp only at h2
  by_cases he : er = 0
  · subst he
    rw [if_pos rfl] at h2
    by_cases hs : s.size < 4611686018427387904
    · rw [if_pos hs] at h2
      obtain rfl := Option.some.inj h2
      refine (refdec_walk t s _ w hO hs).mono ?_
      rw [refD_is]
      rintro e w' ⟨hb, hh⟩
      cases hP : decP s with
      | error er =>
        rw [hP] at hh hf
        simp only [flatD, Prod.mk.injEq] at hf
        obtain ⟨rfl, rfl, rfl, rfl, rfl, rfl, rfl, rfl, rfl, rfl, rfl, rfl, rfl, rfl, rfl, rfl, rfl⟩ := hf
        exact ⟨.slice none 0 0, .slice none 0 0, .slice none 0 0, hh, Kd.R_nil _ _ _ _ _, Kd.R_nil _ _ _ _ _, Kd.R_nil _ _ _ _ _, hb⟩
      | ok x =>
        rw [hP] at hh hf
        simp only [flatD, Prod.mk.injEq] at hf
        obtain ⟨rfl, rfl, rfl, rfl, rfl, rfl, rfl, rfl, rfl, rfl, rfl, rfl, rfl, rfl, rfl, rfl, rfl⟩ := hf
        obtain ⟨v5, v13, v14, e1, e2, e3, e4⟩ := hh
        exact ⟨v5, v13, v14, e1, e2, e3, e4, hb⟩
    · rw [if_neg hs] at h2; cases h2
  · rw [if_neg he] at h2
    obtain rfl := Option.some.inj h2
    simp only [flatD, Prod.mk.injEq] at hf
    obtain ⟨rfl, rfl, rfl, rfl, rfl, rfl, rfl, rfl, rfl, rfl, rfl, rfl, rfl, rfl, rfl, rfl, rfl⟩ := hf
    refine (refdec_shut t s _ _ w hO he).mono ?_
    rintro e w' ⟨e1, hb⟩
    exact ⟨.slice none 0 0, .slice none 0 0, .slice none 0 0, e1, Kd.R_nil _ _ _ _ _, Kd.R_nil _ _ _ _ _, Kd.R_nil _ _ _ _ _, hb⟩
set_option maxRecDepth 100000 in
set_option maxHeartbeats 4000000 in
theorem dec_long (s : ByteArray) (q : Bool) (w : World) (hl : 2000 < (s.size : Int)) : Calls Try.prog 3 #[.string s, .bool q] w fun e w' => e = .returned (.bool true) ∧ Below w.heap.size w w' := by
  go_enter Try.func3, Try.ntmps3
  go_wp2_with (go_at_call 8; refine (conventiclelaw15_shown.calls true _ rfl).mono ?_; rintro e w3 ⟨rfl, hb⟩)
  go_ret
  exact ⟨rfl, hb⟩
set_option maxRecDepth 100000 in
set_option maxHeartbeats 4000000 in
theorem dec_sealed (s t : ByteArray) (a0 a1 a2 a3 a4 : Int) (l5 : List S70) (a6 a7 a8 a9 a10 a11 a12 : Int) (l13 : List S53) (l14 : List S77) (a15 : Nat) (er : Int) (w : World) (hl : (s.size : Int) ≤ 2000) (ht : t.size ≤ 4000) (k : Nat) (hq : conventicleref15_Sealed.f k s = some t) (hd : letter_Decode.f t = some (a0, a1, a2, a3, a4, l5, a6, a7, a8, a9, a10, a11, a12, l13, l14, a15, er))
    (h5 : l5.length ≤ 1000) (h13 : l13.length ≤ 1000) (h14 : l14.length ≤ 1000) (he : er = 0 → letter_Encode.f a0 a1 a2 a3 a4 l5 a6 a7 a8 a9 a10 a11 a12 l13 l14 a15 = some (t, 0)) :
    Calls Try.prog 3 #[.string s, .bool true] w fun e w' => e = .returned (.bool true) ∧ Below w.heap.size w w' := by
  have HD := Aside0.mk hd
  have HT := Aside0.mk ht
  have HL := Aside0.mk h13
  have HE := Aside0.mk he
  have si32 := si32
  have si38 := si38
  have hl' : ¬ 2000 < (s.size : Int) := by omega
  have hS := same_self a0 a1 a2 a3 a4 l5 a6 a7 a8 a9 a10 a11 a12 (l13.map to90) l14 a15 (by omega) (by rw [List.length_map]; omega) (by omega)
  obtain ⟨r13, hr⟩ : ∃ r, r = l13.map to90 := ⟨_, rfl⟩
  rw [← hr] at hS
  have HS := Aside0.mk hS
  have HR := Aside0.mk hr
  have HQ := Aside0.mk hq
  clear hd ht hl h5 h13 h14 he hS hr hq
  go_enter Try.func3, Try.ntmps3
  go_upto_region 7 with (first
    | (go_at_call 8; refine (conventiclelaw15_shown.calls true _ rfl).mono ?_; rintro e w1 ⟨rfl, hb⟩; have B1 := Aside0.mk hb; clear hb)
    | (go_at_call 9; refine (conventicleref15_Sealed.calls k s t _ HQ.out).mono ?_; rintro e w2 ⟨rfl, hb⟩; have B2 := Aside0.mk (below_step B1.out hb); clear hb B1)
    | (go_at_call 10; refine (letter_Decode.calls t a0 a1 a2 a3 a4 l5 a6 a7 a8 a9 a10 a11 a12 l13 l14 a15 er _ HD.out).mono ?_; rintro e w3 ⟨v5, v13, v14, rfl, r5, r13_, r14, hb⟩; obtain ⟨A5, c5, rfl⟩ := Kd.R_slice r5; obtain ⟨A13, c13, rfl⟩ := Kd.R_slice r13_; obtain ⟨A14, c14, rfl⟩ := Kd.R_slice r14; have R5 := Aside0.mk r5; have R13 := Aside0.mk r13_; have R14 := Aside0.mk r14; have B3 := Aside0.mk (below_step B2.out hb); clear r5 r13_ r14 hb B2)
    | ((with_reducible refine gate_dst (N := 5) rfl ?_); refine box_event ?hg (N := 5) ?hd (cs := #[.int .i64 0, .int .i64 0, .int .i64 0, .int .u64 0, .int .i64 0, .slice none 0 0, .int .u64 0, .int .u64 0, .int .u64 0, .int .u64 0, .int .u64 0, .int .u64 0, .int .u64 0, .slice none 0 0, .slice none 0 0, .float .f64 0]) (t := 32) ?hr ?_; (case hd => rfl); (case hg => rfl); (case hr => first | (go_simp; done) | (go_simp; rfl)); intro g5 hg_ w4 hb_ hB_; have K5 := Aside0.mk hb_; have L5 := Aside0.mk (show w.heap.size ≤ g5 by rw [hg_]; exact B3.out.size); have B4 := Aside0.mk (below_step B3.out hB_); have R5b := Aside0.mk (Kd.R_below R5.out hB_); have R13b := Aside0.mk (Kd.R_below R13.out hB_); have R14b := Aside0.mk (Kd.R_below R14.out hB_); clear B3 R5 R13 R14 hg_ hb_ hB_)
    | ((with_reducible refine gate_store (t := 32) (p := 5) rfl ?_); go_loud (refine wpList_store_row rfl 32 (.tmp 5) (.tmp 25) rfl g5 #[.int .i64 a0, .int .i64 a1, .int .i64 a2, .int .u64 a3, .int .i64 a4, .slice A5 l5.length c5, .int .u64 a6, .int .u64 a7, .int .u64 a8, .int .u64 a9, .int .u64 a10, .int .u64 a11, .int .u64 a12, .slice A13 l13.length c13, .slice A14 l14.length c14, .float .f64 a15] rfl rfl 32 #[.int .i64 0, .int .i64 0, .int .i64 0, .int .u64 0, .int .i64 0, .slice none 0 0, .int .u64 0, .int .u64 0, .int .u64 0, .int .u64 0, .int .u64 0, .int .u64 0, .int .u64 0, .slice none 0 0, .slice none 0 0, .float .f64 0] K5.out si32 rfl (one_L _ _ _ _ _ _ _ _ _ _ _ _ _ _ _ _ _ _ _ _ _ _) ?_); have K5b := Aside0.mk (setRow_heap w4 g5 #[.int .i64 0, .int .i64 0, .int .i64 0, .int .u64 0, .int .i64 0, .slice none 0 0, .int .u64 0, .int .u64 0, .int .u64 0, .int .u64 0, .int .u64 0, .int .u64 0, .int .u64 0, .slice none 0 0, .slice none 0 0, .float .f64 0] #[.int .i64 a0, .int .i64 a1, .int .i64 a2, .int .u64 a3, .int .i64 a4, .slice A5 l5.length c5, .int .u64 a6, .int .u64 a7, .int .u64 a8, .int .u64 a9, .int .u64 a10, .int .u64 a11, .int .u64 a12, .slice A13 l13.length c13, .slice A14 l14.length c14, .float .f64 a15] 32 (0, 0) K5.out); have B5 := Aside0.mk (below_setRow B4.out L5.out #[.int .i64 a0, .int .i64 a1, .int .i64 a2, .int .u64 a3, .int .i64 a4, .slice A5 l5.length c5, .int .u64 a6, .int .u64 a7, .int .u64 a8, .int .u64 a9, .int .u64 a10, .int .u64 a11, .int .u64 a12, .slice A13 l13.length c13, .slice A14 l14.length c14, .float .f64 a15]); have R5 := Aside0.mk (row_step R5b.out K5.out (by decide) #[.int .i64 a0, .int .i64 a1, .int .i64 a2, .int .u64 a3, .int .i64 a4, .slice A5 l5.length c5, .int .u64 a6, .int .u64 a7, .int .u64 a8, .int .u64 a9, .int .u64 a10, .int .u64 a11, .int .u64 a12, .slice A13 l13.length c13, .slice A14 l14.length c14, .float .f64 a15]); have R13 := Aside0.mk (row_step R13b.out K5.out (by decide) #[.int .i64 a0, .int .i64 a1, .int .i64 a2, .int .u64 a3, .int .i64 a4, .slice A5 l5.length c5, .int .u64 a6, .int .u64 a7, .int .u64 a8, .int .u64 a9, .int .u64 a10, .int .u64 a11, .int .u64 a12, .slice A13 l13.length c13, .slice A14 l14.length c14, .float .f64 a15]); have R14 := Aside0.mk (row_step R14b.out K5.out (by decide) #[.int .i64 a0, .int .i64 a1, .int .i64 a2, .int .u64 a3, .int .i64 a4, .slice A5 l5.length c5, .int .u64 a6, .int .u64 a7, .int .u64 a8, .int .u64 a9, .int .u64 a10, .int .u64 a11, .int .u64 a12, .slice A13 l13.length c13, .slice A14 l14.length c14, .float .f64 a15]); generalize World.setRow w4 g5 _ = w5 at K5b B5 R5 R13 R14 ⊢; clear K5 B4 R5b R13b R14b)
    | (go_at_call 11; refine (refdec_calls t a0 a1 a2 a3 a4 l5 a6 a7 a8 a9 a10 a11 a12 l13 l14 a15 er _ HT.out HD.out).mono ?_; rintro e w7 ⟨v5, v13, v14, rfl, r5, r13_, r14, hb⟩; rw [← HR.out] at r13_; obtain ⟨B5_, d5, rfl⟩ := Kd.R_slice r5; obtain ⟨B13, d13, rfl⟩ := Kd.R_slice r13_; obtain ⟨B14, d14, rfl⟩ := Kd.R_slice r14; have Q5b := Aside0.mk r5; have Q13b := Aside0.mk r13_; have Q14b := Aside0.mk r14; have K5c := Aside0.mk (blk_below K5b.out hb); have B7 := Aside0.mk (below_step B5.out hb); have R5c := Aside0.mk (Kd.R_below R5.out hb); have R13c := Aside0.mk (Kd.R_below R13.out hb); have R14c := Aside0.mk (Kd.R_below R14.out hb); clear r5 r13_ r14 hb B5 K5b R5 R13 R14)
    | ((with_reducible refine gate_dst (N := 7) rfl ?_); refine box_event ?hg (N := 7) ?hd (cs := #[.int .i64 0, .int .i64 0, .int .i64 0, .int .u64 0, .int .i64 0, .slice none 0 0, .int .u64 0, .int .u64 0, .int .u64 0, .int .u64 0, .int .u64 0, .int .u64 0, .int .u64 0, .slice none 0 0, .slice none 0 0, .float .f64 0]) (t := 38) ?hr ?_; (case hd => rfl); (case hg => rfl); (case hr => first | (go_simp; done) | (go_simp; rfl)); intro g7 hg_ w8 hb_ hB_; have K7b := Aside0.mk hb_; have L7 := Aside0.mk (show w.heap.size ≤ g7 by rw [hg_]; exact B7.out.size); have N57 := Aside0.mk (show g5 ≠ g7 by have := blk_lt K5c.out; omega); have K5d_ := Aside0.mk (blk_below K5c.out hB_); have B8 := Aside0.mk (below_step B7.out hB_); have R5d := Aside0.mk (Kd.R_below R5c.out hB_); have R13d := Aside0.mk (Kd.R_below R13c.out hB_); have R14d := Aside0.mk (Kd.R_below R14c.out hB_); have Q5d := Aside0.mk (Kd.R_below Q5b.out hB_); have Q13d := Aside0.mk (Kd.R_below Q13b.out hB_); have Q14d := Aside0.mk (Kd.R_below Q14b.out hB_); clear K5c B7 R5c R13c R14c Q5b Q13b Q14b hg_ hb_ hB_)
    | ((with_reducible refine gate_store (t := 38) (p := 7) rfl ?_); go_loud (refine wpList_store_row rfl 38 (.tmp 7) (.tmp 30) rfl g7 #[.int .i64 a0, .int .i64 a1, .int .i64 a2, .int .u64 a3, .int .i64 a4, .slice B5_ l5.length d5, .int .u64 a6, .int .u64 a7, .int .u64 a8, .int .u64 a9, .int .u64 a10, .int .u64 a11, .int .u64 a12, .slice B13 r13.length d13, .slice B14 l14.length d14, .float .f64 a15] rfl rfl 38 #[.int .i64 0, .int .i64 0, .int .i64 0, .int .u64 0, .int .i64 0, .slice none 0 0, .int .u64 0, .int .u64 0, .int .u64 0, .int .u64 0, .int .u64 0, .int .u64 0, .int .u64 0, .slice none 0 0, .slice none 0 0, .float .f64 0] K7b.out si38 rfl (one_L _ _ _ _ _ _ _ _ _ _ _ _ _ _ _ _ _ _ _ _ _ _) ?_); have K7 := Aside0.mk (setRow_heap w8 g7 #[.int .i64 0, .int .i64 0, .int .i64 0, .int .u64 0, .int .i64 0, .slice none 0 0, .int .u64 0, .int .u64 0, .int .u64 0, .int .u64 0, .int .u64 0, .int .u64 0, .int .u64 0, .slice none 0 0, .slice none 0 0, .float .f64 0] #[.int .i64 a0, .int .i64 a1, .int .i64 a2, .int .u64 a3, .int .i64 a4, .slice B5_ l5.length d5, .int .u64 a6, .int .u64 a7, .int .u64 a8, .int .u64 a9, .int .u64 a10, .int .u64 a11, .int .u64 a12, .slice B13 r13.length d13, .slice B14 l14.length d14, .float .f64 a15] 38 (0, 0) K7b.out); have K5 := Aside0.mk ((setRow_other w8 g7 g5 #[.int .i64 a0, .int .i64 a1, .int .i64 a2, .int .u64 a3, .int .i64 a4, .slice B5_ l5.length d5, .int .u64 a6, .int .u64 a7, .int .u64 a8, .int .u64 a9, .int .u64 a10, .int .u64 a11, .int .u64 a12, .slice B13 r13.length d13, .slice B14 l14.length d14, .float .f64 a15] N57.out).trans K5d_.out); have B6 := Aside0.mk (below_setRow B8.out L7.out #[.int .i64 a0, .int .i64 a1, .int .i64 a2, .int .u64 a3, .int .i64 a4, .slice B5_ l5.length d5, .int .u64 a6, .int .u64 a7, .int .u64 a8, .int .u64 a9, .int .u64 a10, .int .u64 a11, .int .u64 a12, .slice B13 r13.length d13, .slice B14 l14.length d14, .float .f64 a15]); have R5 := Aside0.mk (row_step38 R5d.out K7b.out (by decide) #[.int .i64 a0, .int .i64 a1, .int .i64 a2, .int .u64 a3, .int .i64 a4, .slice B5_ l5.length d5, .int .u64 a6, .int .u64 a7, .int .u64 a8, .int .u64 a9, .int .u64 a10, .int .u64 a11, .int .u64 a12, .slice B13 r13.length d13, .slice B14 l14.length d14, .float .f64 a15]); have R13 := Aside0.mk (row_step38 R13d.out K7b.out (by decide) #[.int .i64 a0, .int .i64 a1, .int .i64 a2, .int .u64 a3, .int .i64 a4, .slice B5_ l5.length d5, .int .u64 a6, .int .u64 a7, .int .u64 a8, .int .u64 a9, .int .u64 a10, .int .u64 a11, .int .u64 a12, .slice B13 r13.length d13, .slice B14 l14.length d14, .float .f64 a15]); have R14 := Aside0.mk (row_step38 R14d.out K7b.out (by decide) #[.int .i64 a0, .int .i64 a1, .int .i64 a2, .int .u64 a3, .int .i64 a4, .slice B5_ l5.length d5, .int .u64 a6, .int .u64 a7, .int .u64 a8, .int .u64 a9, .int .u64 a10, .int .u64 a11, .int .u64 a12, .slice B13 r13.length d13, .slice B14 l14.length d14, .float .f64 a15]); have Q5 := Aside0.mk (row_step38 Q5d.out K7b.out (by decide) #[.int .i64 a0, .int .i64 a1, .int .i64 a2, .int .u64 a3, .int .i64 a4, .slice B5_ l5.length d5, .int .u64 a6, .int .u64 a7, .int .u64 a8, .int .u64 a9, .int .u64 a10, .int .u64 a11, .int .u64 a12, .slice B13 r13.length d13, .slice B14 l14.length d14, .float .f64 a15]); have Q13 := Aside0.mk (row_step38 Q13d.out K7b.out (by decide) #[.int .i64 a0, .int .i64 a1, .int .i64 a2, .int .u64 a3, .int .i64 a4, .slice B5_ l5.length d5, .int .u64 a6, .int .u64 a7, .int .u64 a8, .int .u64 a9, .int .u64 a10, .int .u64 a11, .int .u64 a12, .slice B13 r13.length d13, .slice B14 l14.length d14, .float .f64 a15]); have Q14 := Aside0.mk (row_step38 Q14d.out K7b.out (by decide) #[.int .i64 a0, .int .i64 a1, .int .i64 a2, .int .u64 a3, .int .i64 a4, .slice B5_ l5.length d5, .int .u64 a6, .int .u64 a7, .int .u64 a8, .int .u64 a9, .int .u64 a10, .int .u64 a11, .int .u64 a12, .slice B13 r13.length d13, .slice B14 l14.length d14, .float .f64 a15]); generalize World.setRow w8 g7 _ = w6 at K7 K5 B6 R5 R13 R14 Q5 Q13 Q14 ⊢; clear K7b K5d_ B8 R5d R13d R14d Q5d Q13d Q14d))
  obtain ⟨B5, hB5⟩ : ∃ b, b = B5_ := ⟨_, rfl⟩
  rw [← hB5] at K7 Q5 ⊢
  clear hB5
  refine start_ (n := 10) (S := fun w' => Below w6.drew.heap.size w6.drew w') (ds := []) #[false, false, false, false, false, false, false, false, false, false] (by kernel_rfl) rfl rfl (Below.refl _ _) (fun hHeld => ?_)
  have K5d := Aside0.mk (blk_drew K5.out)
  have K7d := Aside0.mk (blk_drew K7.out)
  have BD := Aside0.mk (below_drew1 B6.out)
  have HD5 := Aside0.mk (Kd.C_drew (Kd.R_reads' R5.out).2.2)
  have DC5 := Aside0.mk (Kd.R_reads' R5.out).2.1
  have HD13 := Aside0.mk (Kd.C_drew (Kd.R_reads' R13.out).2.2)
  have DC13 := Aside0.mk (Kd.R_reads' R13.out).2.1
  have HD14 := Aside0.mk (Kd.C_drew (Kd.R_reads' R14.out).2.2)
  have DC14 := Aside0.mk (Kd.R_reads' R14.out).2.1
  have HE5 := Aside0.mk (Kd.C_drew (Kd.R_reads' Q5.out).2.2)
  have EC5 := Aside0.mk (Kd.R_reads' Q5.out).2.1
  have HE13 := Aside0.mk (Kd.C_drew (Kd.R_reads' Q13.out).2.2)
  have EC13 := Aside0.mk (Kd.R_reads' Q13.out).2.1
  have HE14 := Aside0.mk (Kd.C_drew (Kd.R_reads' Q14.out).2.2)
  have EC14 := Aside0.mk (Kd.R_reads' Q14.out).2.1
  clear K5 K7 B6 R5 R13 R14 Q5 Q13 Q14
  generalize w6.drew = wd at K5d K7d BD HD5 HD13 HD14 HE5 HE13 HE14 hHeld ⊢
  refine take_ (i := 0) (N := some 32) (v := .agg #[.int .i64 a0, .int .i64 a1, .int .i64 a2, .int .u64 a3, .int .i64 a4, .slice A5 l5.length c5, .int .u64 a6, .int .u64 a7, .int .u64 a8, .int .u64 a9, .int .u64 a10, .int .u64 a11, .int .u64 a12, .slice A13 l13.length c13, .slice A14 l14.length c14, .float .f64 a15]) (a' := ?_) #[true, false, false, false, false, false, false, false, false, false] rfl rfl (by kernel_rfl) (fun _ _ _ h => h) (Or.inl ⟨by rfl, ?_⟩) hHeld ?_ ?_
  · rintro w' s0
    exact row_yields32 _ rfl g5 rfl 32 #[.int .i64 a0, .int .i64 a1, .int .i64 a2, .int .u64 a3, .int .i64 a4, .slice A5 l5.length c5, .int .u64 a6, .int .u64 a7, .int .u64 a8, .int .u64 a9, .int .u64 a10, .int .u64 a11, .int .u64 a12, .slice A13 l13.length c13, .slice A14 l14.length c14, .float .f64 a15] (0, 0) (blk_below K5d.out s0) si32
  rotate_left
  · simp only [Act.put, List.setIfInBounds_toArray, List.set_cons_zero, List.set_cons_succ, i64_w, i32_w]
    rfl
  refine take_ (i := 2) (N := some 34) (v := .agg #[.int .i64 a0, .int .i64 a1, .int .i64 a2, .int .u64 a3, .int .i64 a4, .slice B5 l5.length d5, .int .u64 a6, .int .u64 a7, .int .u64 a8, .int .u64 a9, .int .u64 a10, .int .u64 a11, .int .u64 a12, .slice B13 r13.length d13, .slice B14 l14.length d14, .float .f64 a15]) (a' := ?_) #[true, false, true, false, false, false, false, false, false, false] rfl rfl (by kernel_rfl) (fun _ _ _ h => h) (Or.inl ⟨by rfl, ?_⟩) hHeld ?_ ?_
  · rintro w' s0
    exact row_yields38 _ rfl g7 rfl 38 #[.int .i64 a0, .int .i64 a1, .int .i64 a2, .int .u64 a3, .int .i64 a4, .slice B5 l5.length d5, .int .u64 a6, .int .u64 a7, .int .u64 a8, .int .u64 a9, .int .u64 a10, .int .u64 a11, .int .u64 a12, .slice B13 r13.length d13, .slice B14 l14.length d14, .float .f64 a15] (0, 0) (blk_below K7d.out s0) si38
  rotate_left
  · simp only [Act.put, List.setIfInBounds_toArray, List.set_cons_zero, List.set_cons_succ, i64_w, i32_w]
    rfl
  refine one_ (i := 1) (N := some 33) #[true, true, true, false, false, false, false, false, false, false] rfl rfl (by kernel_rfl) (by decide) (fun K hK => ?_)
  refine goes_ Try.func13 (by kernel_rfl) rfl #[.agg #[.int .i64 a0, .int .i64 a1, .int .i64 a2, .int .u64 a3, .int .i64 a4, .slice A5 l5.length c5, .int .u64 a6, .int .u64 a7, .int .u64 a8, .int .u64 a9, .int .u64 a10, .int .u64 a11, .int .u64 a12, .slice A13 l13.length c13, .slice A14 l14.length c14, .float .f64 a15]] (by rfl) rfl rfl (by (try simp only [List.map_toArray, List.map_cons, List.map_nil]); first | done | rfl) ?_
  refine (theirs_at a0 a1 a2 a3 a4 A5 c5 l5 a6 a7 a8 a9 a10 a11 a12 A13 c13 l13 A14 c14 l14 a15 _ HD5.out HD13.out HD14.out HL.out).mono ?_
  rintro e w8 ⟨v8, rfl, ho8, hb8⟩
  rw [← HR.out] at ho8
  obtain ⟨E13, f13, rfl⟩ := Kd.R_slice ho8
  have HO8 := Aside0.mk (Kd.R_reads' ho8)
  have HB8 := Aside0.mk hb8
  clear ho8 hb8 hHeld
  refine ⟨_, rfl, ?_⟩
  refine hK _ _ HB8.out (fun hHeld => ?_)
  clear hK K
  refine norm_ (a' := ?_) ?_ ?_
  rotate_left
  · show Act.put _ (some 33) _ = _
    simp only [Act.put, List.setIfInBounds_toArray, List.set_cons_zero, List.set_cons_succ, i64_w, i32_w]
    rfl
  refine one_ (i := 3) (N := some 35) #[true, true, true, true, false, false, false, false, false, false] rfl rfl (by kernel_rfl) (by decide) (fun K hK => ?_)
  refine goes_ Try.func12 (by kernel_rfl) rfl #[.agg #[.int .i64 a0, .int .i64 a1, .int .i64 a2, .int .u64 a3, .int .i64 a4, .slice A5 l5.length c5, .int .u64 a6, .int .u64 a7, .int .u64 a8, .int .u64 a9, .int .u64 a10, .int .u64 a11, .int .u64 a12, .slice E13 r13.length f13, .slice A14 l14.length c14, .float .f64 a15], .agg #[.int .i64 a0, .int .i64 a1, .int .i64 a2, .int .u64 a3, .int .i64 a4, .slice B5 l5.length d5, .int .u64 a6, .int .u64 a7, .int .u64 a8, .int .u64 a9, .int .u64 a10, .int .u64 a11, .int .u64 a12, .slice B13 r13.length d13, .slice B14 l14.length d14, .float .f64 a15]] (by rfl) rfl rfl (by (try simp only [List.map_toArray, List.map_cons, List.map_nil]); first | done | rfl) ?_
  refine (conventicleref15_Same.calls _ a0 a1 a2 a3 a4 A5 c5 l5 a6 a7 a8 a9 a10 a11 a12 E13 f13 r13 A14 c14 l14 a15 a0 a1 a2 a3 a4 B5 d5 l5 a6 a7 a8 a9 a10 a11 a12 B13 d13 r13 B14 d14 l14 a15 true _ (Kd.C_below HD5.out HB8.out) DC5.out HO8.out.2.2 HO8.out.2.1 (Kd.C_below HD14.out HB8.out) DC14.out (Kd.C_below HE5.out HB8.out) EC5.out (Kd.C_below HE13.out HB8.out) EC13.out (Kd.C_below HE14.out HB8.out) EC14.out HS.out).mono ?_
  rintro e w9 ⟨rfl, hb9⟩
  have HB9 := Aside0.mk (below_step HB8.out hb9)
  clear hb9 hHeld
  refine ⟨_, rfl, ?_⟩
  refine hK _ _ HB9.out (fun hHeld => ?_)
  clear hK K
  refine norm_ (a' := ?_) ?_ ?_
  rotate_left
  · show Act.put _ (some 35) _ = _
    simp only [Act.put, List.setIfInBounds_toArray, List.set_cons_zero, List.set_cons_succ, i64_w, i32_w]
    rfl
  refine pure_ (i := 4) (N := some 36) (v := ?_) (a' := ?_) #[true, true, true, true, true, false, false, false, false, false] rfl rfl (by kernel_rfl) (fun _ _ _ h => h) (Or.inl ⟨by rfl, ?_⟩) ?_ ?_
  rotate_left
  · intro w'
    go_simp
    first | done | with_reducible rfl | rfl | (simp [Instr.field, go_sem]; rfl)
  rotate_left
  · simp only [Act.put, List.setIfInBounds_toArray, List.set_cons_zero, List.set_cons_succ, i64_w, i32_w]
    rfl
  refine pure_ (i := 5) (N := some 37) (v := ?_) (a' := ?_) #[true, true, true, true, true, true, false, false, false, false] rfl rfl (by kernel_rfl) (fun _ _ _ h => h) (Or.inl ⟨by rfl, ?_⟩) ?_ ?_
  rotate_left
  · intro w'
    go_simp
    first | done | with_reducible rfl | rfl | (simp [Instr.field, go_sem]; rfl)
  rotate_left
  · simp only [Act.put, List.setIfInBounds_toArray, List.set_cons_zero, List.set_cons_succ, i64_w, i32_w]
    rfl
  refine pure_ (i := 6) (N := some 38) (v := ?_) (a' := ?_) #[true, true, true, true, true, true, true, false, false, false] rfl rfl (by kernel_rfl) (fun _ _ _ h => h) (Or.inl ⟨by rfl, ?_⟩) ?_ ?_
  rotate_left
  · intro w'
    go_simp
    first | done | with_reducible rfl | rfl | (simp [Instr.field, go_sem]; rfl)
  rotate_left
  · simp only [Act.put, List.setIfInBounds_toArray, List.set_cons_zero, List.set_cons_succ, i64_w, i32_w]
    rfl
  refine pure_ (i := 7) (N := some 39) (v := ?_) (a' := ?_) #[true, true, true, true, true, true, true, true, false, false] rfl rfl (by kernel_rfl) (fun _ _ _ h => h) (Or.inl ⟨by rfl, ?_⟩) ?_ ?_
  rotate_left
  · intro w'
    go_simp
    first | done | with_reducible rfl | rfl | (simp [Instr.field, go_sem]; rfl)
  rotate_left
  · simp only [Act.put, List.setIfInBounds_toArray, List.set_cons_zero, List.set_cons_succ, i64_w, i32_w]
    rfl
  refine pure_ (i := 8) (N := some 40) (v := ?_) (a' := ?_) #[true, true, true, true, true, true, true, true, true, false] rfl rfl (by kernel_rfl) (fun _ _ _ h => h) (Or.inl ⟨by rfl, ?_⟩) ?_ ?_
  rotate_left
  · intro w'
    go_simp
    first | done | with_reducible rfl | rfl | (simp [Instr.field, go_sem]; rfl)
  rotate_left
  · simp only [Act.put, List.setIfInBounds_toArray, List.set_cons_zero, List.set_cons_succ, i64_w, i32_w]
    rfl
  refine pure_ (i := 9) (N := some 41) (v := ?_) (a' := ?_) #[true, true, true, true, true, true, true, true, true, true] rfl rfl (by kernel_rfl) (fun _ _ _ h => h) (Or.inl ⟨by rfl, ?_⟩) ?_ ?_
  rotate_left
  · intro w'
    go_simp
    first | done | with_reducible rfl | rfl | (simp [Instr.field, go_sem]; rfl)
  rotate_left
  · simp only [Act.put, List.setIfInBounds_toArray, List.set_cons_zero, List.set_cons_succ, i64_w, i32_w]
    rfl
  refine done_ (by kernel_rfl) ?_
  have BE := Aside0.mk (below_step BD.out HB9.out)
  have K5e := Aside0.mk (blk_below K5d.out HB9.out)
  have P5 := Aside0.mk (Kd.C_below HD5.out HB9.out)
  have P13 := Aside0.mk (Kd.C_below HD13.out HB9.out)
  have P14 := Aside0.mk (Kd.C_below HD14.out HB9.out)
  clear K5d K7d BD HD5 HD13 HD14 HE5 HE13 HE14 HB8 HB9 HO8
  by_cases he0 : er = 0
  · subst he0
    have HEN := Aside0.mk (HE.out rfl)
    go_wp2_with (first
      | (refine wpList_load_row rfl 32 (.tmp 5) rfl g5 rfl 32 #[.int .i64 a0, .int .i64 a1, .int .i64 a2, .int .u64 a3, .int .i64 a4, .slice A5 l5.length c5, .int .u64 a6, .int .u64 a7, .int .u64 a8, .int .u64 a9, .int .u64 a10, .int .u64 a11, .int .u64 a12, .slice A13 l13.length c13, .slice A14 l14.length c14, .float .f64 a15] (0, 0) _ K5e.out Try.underlying32 rfl si32 ?_)
      | (go_at_call 14; refine (letter_Encode.calls a0 a1 a2 a3 a4 A5 c5 l5 a6 a7 a8 a9 a10 a11 a12 A13 c13 l13 A14 c14 l14 a15 _ _ _ P5.out DC5.out P13.out DC13.out P14.out DC14.out HEN.out).mono ?_; rintro e w10 ⟨rfl, hb⟩; have BF := Aside0.mk (below_step BE.out hb); clear hb))
    go_ret
    exact ⟨by simp, BF.out⟩
  · go_wp2
    go_ret
    exact ⟨rfl, BE.out⟩
set_option maxRecDepth 100000 in
set_option maxHeartbeats 4000000 in
theorem dec_plain (t : ByteArray) (a0 a1 a2 a3 a4 : Int) (l5 : List S70) (a6 a7 a8 a9 a10 a11 a12 : Int) (l13 : List S53) (l14 : List S77) (a15 : Nat) (er : Int) (w : World) (hl : (t.size : Int) ≤ 2000) (ht : t.size ≤ 4000) (hd : letter_Decode.f t = some (a0, a1, a2, a3, a4, l5, a6, a7, a8, a9, a10, a11, a12, l13, l14, a15, er))
    (h5 : l5.length ≤ 1000) (h13 : l13.length ≤ 1000) (h14 : l14.length ≤ 1000) (he : er = 0 → letter_Encode.f a0 a1 a2 a3 a4 l5 a6 a7 a8 a9 a10 a11 a12 l13 l14 a15 = some (t, 0)) :
    Calls Try.prog 3 #[.string t, .bool false] w fun e w' => e = .returned (.bool true) ∧ Below w.heap.size w w' := by
  have HD := Aside0.mk hd
  have HT := Aside0.mk ht
  have HL := Aside0.mk h13
  have HE := Aside0.mk he
  have si32 := si32
  have si38 := si38
  have hl' : ¬ 2000 < (t.size : Int) := by omega
  have hS := same_self a0 a1 a2 a3 a4 l5 a6 a7 a8 a9 a10 a11 a12 (l13.map to90) l14 a15 (by omega) (by rw [List.length_map]; omega) (by omega)
  obtain ⟨r13, hr⟩ : ∃ r, r = l13.map to90 := ⟨_, rfl⟩
  rw [← hr] at hS
  have HS := Aside0.mk hS
  have HR := Aside0.mk hr

  clear hd ht hl h5 h13 h14 he hS hr
  go_enter Try.func3, Try.ntmps3
  go_upto_region 7 with (first
    | (go_at_call 8; refine (conventiclelaw15_shown.calls true _ rfl).mono ?_; rintro e w1 ⟨rfl, hb⟩; have B1 := Aside0.mk hb; clear hb)
    | (go_at_call 10; refine (letter_Decode.calls t a0 a1 a2 a3 a4 l5 a6 a7 a8 a9 a10 a11 a12 l13 l14 a15 er _ HD.out).mono ?_; rintro e w3 ⟨v5, v13, v14, rfl, r5, r13_, r14, hb⟩; obtain ⟨A5, c5, rfl⟩ := Kd.R_slice r5; obtain ⟨A13, c13, rfl⟩ := Kd.R_slice r13_; obtain ⟨A14, c14, rfl⟩ := Kd.R_slice r14; have R5 := Aside0.mk r5; have R13 := Aside0.mk r13_; have R14 := Aside0.mk r14; have B3 := Aside0.mk (below_step B1.out hb); clear r5 r13_ r14 hb B1)
    | ((with_reducible refine gate_dst (N := 5) rfl ?_); refine box_event ?hg (N := 5) ?hd (cs := #[.int .i64 0, .int .i64 0, .int .i64 0, .int .u64 0, .int .i64 0, .slice none 0 0, .int .u64 0, .int .u64 0, .int .u64 0, .int .u64 0, .int .u64 0, .int .u64 0, .int .u64 0, .slice none 0 0, .slice none 0 0, .float .f64 0]) (t := 32) ?hr ?_; (case hd => rfl); (case hg => rfl); (case hr => first | (go_simp; done) | (go_simp; rfl)); intro g5 hg_ w4 hb_ hB_; have K5 := Aside0.mk hb_; have L5 := Aside0.mk (show w.heap.size ≤ g5 by rw [hg_]; exact B3.out.size); have B4 := Aside0.mk (below_step B3.out hB_); have R5b := Aside0.mk (Kd.R_below R5.out hB_); have R13b := Aside0.mk (Kd.R_below R13.out hB_); have R14b := Aside0.mk (Kd.R_below R14.out hB_); clear B3 R5 R13 R14 hg_ hb_ hB_)
    | ((with_reducible refine gate_store (t := 32) (p := 5) rfl ?_); go_loud (refine wpList_store_row rfl 32 (.tmp 5) (.tmp 25) rfl g5 #[.int .i64 a0, .int .i64 a1, .int .i64 a2, .int .u64 a3, .int .i64 a4, .slice A5 l5.length c5, .int .u64 a6, .int .u64 a7, .int .u64 a8, .int .u64 a9, .int .u64 a10, .int .u64 a11, .int .u64 a12, .slice A13 l13.length c13, .slice A14 l14.length c14, .float .f64 a15] rfl rfl 32 #[.int .i64 0, .int .i64 0, .int .i64 0, .int .u64 0, .int .i64 0, .slice none 0 0, .int .u64 0, .int .u64 0, .int .u64 0, .int .u64 0, .int .u64 0, .int .u64 0, .int .u64 0, .slice none 0 0, .slice none 0 0, .float .f64 0] K5.out si32 rfl (one_L _ _ _ _ _ _ _ _ _ _ _ _ _ _ _ _ _ _ _ _ _ _) ?_); have K5b := Aside0.mk (setRow_heap w4 g5 #[.int .i64 0, .int .i64 0, .int .i64 0, .int .u64 0, .int .i64 0, .slice none 0 0, .int .u64 0, .int .u64 0, .int .u64 0, .int .u64 0, .int .u64 0, .int .u64 0, .int .u64 0, .slice none 0 0, .slice none 0 0, .float .f64 0] #[.int .i64 a0, .int .i64 a1, .int .i64 a2, .int .u64 a3, .int .i64 a4, .slice A5 l5.length c5, .int .u64 a6, .int .u64 a7, .int .u64 a8, .int .u64 a9, .int .u64 a10, .int .u64 a11, .int .u64 a12, .slice A13 l13.length c13, .slice A14 l14.length c14, .float .f64 a15] 32 (0, 0) K5.out); have B5 := Aside0.mk (below_setRow B4.out L5.out #[.int .i64 a0, .int .i64 a1, .int .i64 a2, .int .u64 a3, .int .i64 a4, .slice A5 l5.length c5, .int .u64 a6, .int .u64 a7, .int .u64 a8, .int .u64 a9, .int .u64 a10, .int .u64 a11, .int .u64 a12, .slice A13 l13.length c13, .slice A14 l14.length c14, .float .f64 a15]); have R5 := Aside0.mk (row_step R5b.out K5.out (by decide) #[.int .i64 a0, .int .i64 a1, .int .i64 a2, .int .u64 a3, .int .i64 a4, .slice A5 l5.length c5, .int .u64 a6, .int .u64 a7, .int .u64 a8, .int .u64 a9, .int .u64 a10, .int .u64 a11, .int .u64 a12, .slice A13 l13.length c13, .slice A14 l14.length c14, .float .f64 a15]); have R13 := Aside0.mk (row_step R13b.out K5.out (by decide) #[.int .i64 a0, .int .i64 a1, .int .i64 a2, .int .u64 a3, .int .i64 a4, .slice A5 l5.length c5, .int .u64 a6, .int .u64 a7, .int .u64 a8, .int .u64 a9, .int .u64 a10, .int .u64 a11, .int .u64 a12, .slice A13 l13.length c13, .slice A14 l14.length c14, .float .f64 a15]); have R14 := Aside0.mk (row_step R14b.out K5.out (by decide) #[.int .i64 a0, .int .i64 a1, .int .i64 a2, .int .u64 a3, .int .i64 a4, .slice A5 l5.length c5, .int .u64 a6, .int .u64 a7, .int .u64 a8, .int .u64 a9, .int .u64 a10, .int .u64 a11, .int .u64 a12, .slice A13 l13.length c13, .slice A14 l14.length c14, .float .f64 a15]); generalize World.setRow w4 g5 _ = w5 at K5b B5 R5 R13 R14 ⊢; clear K5 B4 R5b R13b R14b)
    | (go_at_call 11; refine (refdec_calls t a0 a1 a2 a3 a4 l5 a6 a7 a8 a9 a10 a11 a12 l13 l14 a15 er _ HT.out HD.out).mono ?_; rintro e w7 ⟨v5, v13, v14, rfl, r5, r13_, r14, hb⟩; rw [← HR.out] at r13_; obtain ⟨B5_, d5, rfl⟩ := Kd.R_slice r5; obtain ⟨B13, d13, rfl⟩ := Kd.R_slice r13_; obtain ⟨B14, d14, rfl⟩ := Kd.R_slice r14; have Q5b := Aside0.mk r5; have Q13b := Aside0.mk r13_; have Q14b := Aside0.mk r14; have K5c := Aside0.mk (blk_below K5b.out hb); have B7 := Aside0.mk (below_step B5.out hb); have R5c := Aside0.mk (Kd.R_below R5.out hb); have R13c := Aside0.mk (Kd.R_below R13.out hb); have R14c := Aside0.mk (Kd.R_below R14.out hb); clear r5 r13_ r14 hb B5 K5b R5 R13 R14)
    | ((with_reducible refine gate_dst (N := 7) rfl ?_); refine box_event ?hg (N := 7) ?hd (cs := #[.int .i64 0, .int .i64 0, .int .i64 0, .int .u64 0, .int .i64 0, .slice none 0 0, .int .u64 0, .int .u64 0, .int .u64 0, .int .u64 0, .int .u64 0, .int .u64 0, .int .u64 0, .slice none 0 0, .slice none 0 0, .float .f64 0]) (t := 38) ?hr ?_; (case hd => rfl); (case hg => rfl); (case hr => first | (go_simp; done) | (go_simp; rfl)); intro g7 hg_ w8 hb_ hB_; have K7b := Aside0.mk hb_; have L7 := Aside0.mk (show w.heap.size ≤ g7 by rw [hg_]; exact B7.out.size); have N57 := Aside0.mk (show g5 ≠ g7 by have := blk_lt K5c.out; omega); have K5d_ := Aside0.mk (blk_below K5c.out hB_); have B8 := Aside0.mk (below_step B7.out hB_); have R5d := Aside0.mk (Kd.R_below R5c.out hB_); have R13d := Aside0.mk (Kd.R_below R13c.out hB_); have R14d := Aside0.mk (Kd.R_below R14c.out hB_); have Q5d := Aside0.mk (Kd.R_below Q5b.out hB_); have Q13d := Aside0.mk (Kd.R_below Q13b.out hB_); have Q14d := Aside0.mk (Kd.R_below Q14b.out hB_); clear K5c B7 R5c R13c R14c Q5b Q13b Q14b hg_ hb_ hB_)
    | ((with_reducible refine gate_store (t := 38) (p := 7) rfl ?_); go_loud (refine wpList_store_row rfl 38 (.tmp 7) (.tmp 30) rfl g7 #[.int .i64 a0, .int .i64 a1, .int .i64 a2, .int .u64 a3, .int .i64 a4, .slice B5_ l5.length d5, .int .u64 a6, .int .u64 a7, .int .u64 a8, .int .u64 a9, .int .u64 a10, .int .u64 a11, .int .u64 a12, .slice B13 r13.length d13, .slice B14 l14.length d14, .float .f64 a15] rfl rfl 38 #[.int .i64 0, .int .i64 0, .int .i64 0, .int .u64 0, .int .i64 0, .slice none 0 0, .int .u64 0, .int .u64 0, .int .u64 0, .int .u64 0, .int .u64 0, .int .u64 0, .int .u64 0, .slice none 0 0, .slice none 0 0, .float .f64 0] K7b.out si38 rfl (one_L _ _ _ _ _ _ _ _ _ _ _ _ _ _ _ _ _ _ _ _ _ _) ?_); have K7 := Aside0.mk (setRow_heap w8 g7 #[.int .i64 0, .int .i64 0, .int .i64 0, .int .u64 0, .int .i64 0, .slice none 0 0, .int .u64 0, .int .u64 0, .int .u64 0, .int .u64 0, .int .u64 0, .int .u64 0, .int .u64 0, .slice none 0 0, .slice none 0 0, .float .f64 0] #[.int .i64 a0, .int .i64 a1, .int .i64 a2, .int .u64 a3, .int .i64 a4, .slice B5_ l5.length d5, .int .u64 a6, .int .u64 a7, .int .u64 a8, .int .u64 a9, .int .u64 a10, .int .u64 a11, .int .u64 a12, .slice B13 r13.length d13, .slice B14 l14.length d14, .float .f64 a15] 38 (0, 0) K7b.out); have K5 := Aside0.mk ((setRow_other w8 g7 g5 #[.int .i64 a0, .int .i64 a1, .int .i64 a2, .int .u64 a3, .int .i64 a4, .slice B5_ l5.length d5, .int .u64 a6, .int .u64 a7, .int .u64 a8, .int .u64 a9, .int .u64 a10, .int .u64 a11, .int .u64 a12, .slice B13 r13.length d13, .slice B14 l14.length d14, .float .f64 a15] N57.out).trans K5d_.out); have B6 := Aside0.mk (below_setRow B8.out L7.out #[.int .i64 a0, .int .i64 a1, .int .i64 a2, .int .u64 a3, .int .i64 a4, .slice B5_ l5.length d5, .int .u64 a6, .int .u64 a7, .int .u64 a8, .int .u64 a9, .int .u64 a10, .int .u64 a11, .int .u64 a12, .slice B13 r13.length d13, .slice B14 l14.length d14, .float .f64 a15]); have R5 := Aside0.mk (row_step38 R5d.out K7b.out (by decide) #[.int .i64 a0, .int .i64 a1, .int .i64 a2, .int .u64 a3, .int .i64 a4, .slice B5_ l5.length d5, .int .u64 a6, .int .u64 a7, .int .u64 a8, .int .u64 a9, .int .u64 a10, .int .u64 a11, .int .u64 a12, .slice B13 r13.length d13, .slice B14 l14.length d14, .float .f64 a15]); have R13 := Aside0.mk (row_step38 R13d.out K7b.out (by decide) #[.int .i64 a0, .int .i64 a1, .int .i64 a2, .int .u64 a3, .int .i64 a4, .slice B5_ l5.length d5, .int .u64 a6, .int .u64 a7, .int .u64 a8, .int .u64 a9, .int .u64 a10, .int .u64 a11, .int .u64 a12, .slice B13 r13.length d13, .slice B14 l14.length d14, .float .f64 a15]); have R14 := Aside0.mk (row_step38 R14d.out K7b.out (by decide) #[.int .i64 a0, .int .i64 a1, .int .i64 a2, .int .u64 a3, .int .i64 a4, .slice B5_ l5.length d5, .int .u64 a6, .int .u64 a7, .int .u64 a8, .int .u64 a9, .int .u64 a10, .int .u64 a11, .int .u64 a12, .slice B13 r13.length d13, .slice B14 l14.length d14, .float .f64 a15]); have Q5 := Aside0.mk (row_step38 Q5d.out K7b.out (by decide) #[.int .i64 a0, .int .i64 a1, .int .i64 a2, .int .u64 a3, .int .i64 a4, .slice B5_ l5.length d5, .int .u64 a6, .int .u64 a7, .int .u64 a8, .int .u64 a9, .int .u64 a10, .int .u64 a11, .int .u64 a12, .slice B13 r13.length d13, .slice B14 l14.length d14, .float .f64 a15]); have Q13 := Aside0.mk (row_step38 Q13d.out K7b.out (by decide) #[.int .i64 a0, .int .i64 a1, .int .i64 a2, .int .u64 a3, .int .i64 a4, .slice B5_ l5.length d5, .int .u64 a6, .int .u64 a7, .int .u64 a8, .int .u64 a9, .int .u64 a10, .int .u64 a11, .int .u64 a12, .slice B13 r13.length d13, .slice B14 l14.length d14, .float .f64 a15]); have Q14 := Aside0.mk (row_step38 Q14d.out K7b.out (by decide) #[.int .i64 a0, .int .i64 a1, .int .i64 a2, .int .u64 a3, .int .i64 a4, .slice B5_ l5.length d5, .int .u64 a6, .int .u64 a7, .int .u64 a8, .int .u64 a9, .int .u64 a10, .int .u64 a11, .int .u64 a12, .slice B13 r13.length d13, .slice B14 l14.length d14, .float .f64 a15]); generalize World.setRow w8 g7 _ = w6 at K7 K5 B6 R5 R13 R14 Q5 Q13 Q14 ⊢; clear K7b K5d_ B8 R5d R13d R14d Q5d Q13d Q14d))
  obtain ⟨B5, hB5⟩ : ∃ b, b = B5_ := ⟨_, rfl⟩
  rw [← hB5] at K7 Q5 ⊢
  clear hB5
  refine start_ (n := 10) (S := fun w' => Below w6.drew.heap.size w6.drew w') (ds := []) #[false, false, false, false, false, false, false, false, false, false] (by kernel_rfl) rfl rfl (Below.refl _ _) (fun hHeld => ?_)
  have K5d := Aside0.mk (blk_drew K5.out)
  have K7d := Aside0.mk (blk_drew K7.out)
  have BD := Aside0.mk (below_drew1 B6.out)
  have HD5 := Aside0.mk (Kd.C_drew (Kd.R_reads' R5.out).2.2)
  have DC5 := Aside0.mk (Kd.R_reads' R5.out).2.1
  have HD13 := Aside0.mk (Kd.C_drew (Kd.R_reads' R13.out).2.2)
  have DC13 := Aside0.mk (Kd.R_reads' R13.out).2.1
  have HD14 := Aside0.mk (Kd.C_drew (Kd.R_reads' R14.out).2.2)
  have DC14 := Aside0.mk (Kd.R_reads' R14.out).2.1
  have HE5 := Aside0.mk (Kd.C_drew (Kd.R_reads' Q5.out).2.2)
  have EC5 := Aside0.mk (Kd.R_reads' Q5.out).2.1
  have HE13 := Aside0.mk (Kd.C_drew (Kd.R_reads' Q13.out).2.2)
  have EC13 := Aside0.mk (Kd.R_reads' Q13.out).2.1
  have HE14 := Aside0.mk (Kd.C_drew (Kd.R_reads' Q14.out).2.2)
  have EC14 := Aside0.mk (Kd.R_reads' Q14.out).2.1
  clear K5 K7 B6 R5 R13 R14 Q5 Q13 Q14
  generalize w6.drew = wd at K5d K7d BD HD5 HD13 HD14 HE5 HE13 HE14 hHeld ⊢
  refine take_ (i := 0) (N := some 32) (v := .agg #[.int .i64 a0, .int .i64 a1, .int .i64 a2, .int .u64 a3, .int .i64 a4, .slice A5 l5.length c5, .int .u64 a6, .int .u64 a7, .int .u64 a8, .int .u64 a9, .int .u64 a10, .int .u64 a11, .int .u64 a12, .slice A13 l13.length c13, .slice A14 l14.length c14, .float .f64 a15]) (a' := ?_) #[true, false, false, false, false, false, false, false, false, false] rfl rfl (by kernel_rfl) (fun _ _ _ h => h) (Or.inl ⟨by rfl, ?_⟩) hHeld ?_ ?_
  · rintro w' s0
    exact row_yields32 _ rfl g5 rfl 32 #[.int .i64 a0, .int .i64 a1, .int .i64 a2, .int .u64 a3, .int .i64 a4, .slice A5 l5.length c5, .int .u64 a6, .int .u64 a7, .int .u64 a8, .int .u64 a9, .int .u64 a10, .int .u64 a11, .int .u64 a12, .slice A13 l13.length c13, .slice A14 l14.length c14, .float .f64 a15] (0, 0) (blk_below K5d.out s0) si32
  rotate_left
  · simp only [Act.put, List.setIfInBounds_toArray, List.set_cons_zero, List.set_cons_succ, i64_w, i32_w]
    rfl
  refine take_ (i := 2) (N := some 34) (v := .agg #[.int .i64 a0, .int .i64 a1, .int .i64 a2, .int .u64 a3, .int .i64 a4, .slice B5 l5.length d5, .int .u64 a6, .int .u64 a7, .int .u64 a8, .int .u64 a9, .int .u64 a10, .int .u64 a11, .int .u64 a12, .slice B13 r13.length d13, .slice B14 l14.length d14, .float .f64 a15]) (a' := ?_) #[true, false, true, false, false, false, false, false, false, false] rfl rfl (by kernel_rfl) (fun _ _ _ h => h) (Or.inl ⟨by rfl, ?_⟩) hHeld ?_ ?_
  · rintro w' s0
    exact row_yields38 _ rfl g7 rfl 38 #[.int .i64 a0, .int .i64 a1, .int .i64 a2, .int .u64 a3, .int .i64 a4, .slice B5 l5.length d5, .int .u64 a6, .int .u64 a7, .int .u64 a8, .int .u64 a9, .int .u64 a10, .int .u64 a11, .int .u64 a12, .slice B13 r13.length d13, .slice B14 l14.length d14, .float .f64 a15] (0, 0) (blk_below K7d.out s0) si38
  rotate_left
  · simp only [Act.put, List.setIfInBounds_toArray, List.set_cons_zero, List.set_cons_succ, i64_w, i32_w]
    rfl
  refine one_ (i := 1) (N := some 33) #[true, true, true, false, false, false, false, false, false, false] rfl rfl (by kernel_rfl) (by decide) (fun K hK => ?_)
  refine goes_ Try.func13 (by kernel_rfl) rfl #[.agg #[.int .i64 a0, .int .i64 a1, .int .i64 a2, .int .u64 a3, .int .i64 a4, .slice A5 l5.length c5, .int .u64 a6, .int .u64 a7, .int .u64 a8, .int .u64 a9, .int .u64 a10, .int .u64 a11, .int .u64 a12, .slice A13 l13.length c13, .slice A14 l14.length c14, .float .f64 a15]] (by rfl) rfl rfl (by (try simp only [List.map_toArray, List.map_cons, List.map_nil]); first | done | rfl) ?_
  refine (theirs_at a0 a1 a2 a3 a4 A5 c5 l5 a6 a7 a8 a9 a10 a11 a12 A13 c13 l13 A14 c14 l14 a15 _ HD5.out HD13.out HD14.out HL.out).mono ?_
  rintro e w8 ⟨v8, rfl, ho8, hb8⟩
  rw [← HR.out] at ho8
  obtain ⟨E13, f13, rfl⟩ := Kd.R_slice ho8
  have HO8 := Aside0.mk (Kd.R_reads' ho8)
  have HB8 := Aside0.mk hb8
  clear ho8 hb8 hHeld
  refine ⟨_, rfl, ?_⟩
  refine hK _ _ HB8.out (fun hHeld => ?_)
  clear hK K
  refine norm_ (a' := ?_) ?_ ?_
  rotate_left
  · show Act.put _ (some 33) _ = _
    simp only [Act.put, List.setIfInBounds_toArray, List.set_cons_zero, List.set_cons_succ, i64_w, i32_w]
    rfl
  refine one_ (i := 3) (N := some 35) #[true, true, true, true, false, false, false, false, false, false] rfl rfl (by kernel_rfl) (by decide) (fun K hK => ?_)
  refine goes_ Try.func12 (by kernel_rfl) rfl #[.agg #[.int .i64 a0, .int .i64 a1, .int .i64 a2, .int .u64 a3, .int .i64 a4, .slice A5 l5.length c5, .int .u64 a6, .int .u64 a7, .int .u64 a8, .int .u64 a9, .int .u64 a10, .int .u64 a11, .int .u64 a12, .slice E13 r13.length f13, .slice A14 l14.length c14, .float .f64 a15], .agg #[.int .i64 a0, .int .i64 a1, .int .i64 a2, .int .u64 a3, .int .i64 a4, .slice B5 l5.length d5, .int .u64 a6, .int .u64 a7, .int .u64 a8, .int .u64 a9, .int .u64 a10, .int .u64 a11, .int .u64 a12, .slice B13 r13.length d13, .slice B14 l14.length d14, .float .f64 a15]] (by rfl) rfl rfl (by (try simp only [List.map_toArray, List.map_cons, List.map_nil]); first | done | rfl) ?_
  refine (conventicleref15_Same.calls _ a0 a1 a2 a3 a4 A5 c5 l5 a6 a7 a8 a9 a10 a11 a12 E13 f13 r13 A14 c14 l14 a15 a0 a1 a2 a3 a4 B5 d5 l5 a6 a7 a8 a9 a10 a11 a12 B13 d13 r13 B14 d14 l14 a15 true _ (Kd.C_below HD5.out HB8.out) DC5.out HO8.out.2.2 HO8.out.2.1 (Kd.C_below HD14.out HB8.out) DC14.out (Kd.C_below HE5.out HB8.out) EC5.out (Kd.C_below HE13.out HB8.out) EC13.out (Kd.C_below HE14.out HB8.out) EC14.out HS.out).mono ?_
  rintro e w9 ⟨rfl, hb9⟩
  have HB9 := Aside0.mk (below_step HB8.out hb9)
  clear hb9 hHeld
  refine ⟨_, rfl, ?_⟩
  refine hK _ _ HB9.out (fun hHeld => ?_)
  clear hK K
  refine norm_ (a' := ?_) ?_ ?_
  rotate_left
  · show Act.put _ (some 35) _ = _
    simp only [Act.put, List.setIfInBounds_toArray, List.set_cons_zero, List.set_cons_succ, i64_w, i32_w]
    rfl
  refine pure_ (i := 4) (N := some 36) (v := ?_) (a' := ?_) #[true, true, true, true, true, false, false, false, false, false] rfl rfl (by kernel_rfl) (fun _ _ _ h => h) (Or.inl ⟨by rfl, ?_⟩) ?_ ?_
  rotate_left
  · intro w'
    go_simp
    first | done | with_reducible rfl | rfl | (simp [Instr.field, go_sem]; rfl)
  rotate_left
  · simp only [Act.put, List.setIfInBounds_toArray, List.set_cons_zero, List.set_cons_succ, i64_w, i32_w]
    rfl
  refine pure_ (i := 5) (N := some 37) (v := ?_) (a' := ?_) #[true, true, true, true, true, true, false, false, false, false] rfl rfl (by kernel_rfl) (fun _ _ _ h => h) (Or.inl ⟨by rfl, ?_⟩) ?_ ?_
  rotate_left
  · intro w'
    go_simp
    first | done | with_reducible rfl | rfl | (simp [Instr.field, go_sem]; rfl)
  rotate_left
  · simp only [Act.put, List.setIfInBounds_toArray, List.set_cons_zero, List.set_cons_succ, i64_w, i32_w]
    rfl
  refine pure_ (i := 6) (N := some 38) (v := ?_) (a' := ?_) #[true, true, true, true, true, true, true, false, false, false] rfl rfl (by kernel_rfl) (fun _ _ _ h => h) (Or.inl ⟨by rfl, ?_⟩) ?_ ?_
  rotate_left
  · intro w'
    go_simp
    first | done | with_reducible rfl | rfl | (simp [Instr.field, go_sem]; rfl)
  rotate_left
  · simp only [Act.put, List.setIfInBounds_toArray, List.set_cons_zero, List.set_cons_succ, i64_w, i32_w]
    rfl
  refine pure_ (i := 7) (N := some 39) (v := ?_) (a' := ?_) #[true, true, true, true, true, true, true, true, false, false] rfl rfl (by kernel_rfl) (fun _ _ _ h => h) (Or.inl ⟨by rfl, ?_⟩) ?_ ?_
  rotate_left
  · intro w'
    go_simp
    first | done | with_reducible rfl | rfl | (simp [Instr.field, go_sem]; rfl)
  rotate_left
  · simp only [Act.put, List.setIfInBounds_toArray, List.set_cons_zero, List.set_cons_succ, i64_w, i32_w]
    rfl
  refine pure_ (i := 8) (N := some 40) (v := ?_) (a' := ?_) #[true, true, true, true, true, true, true, true, true, false] rfl rfl (by kernel_rfl) (fun _ _ _ h => h) (Or.inl ⟨by rfl, ?_⟩) ?_ ?_
  rotate_left
  · intro w'
    go_simp
    first | done | with_reducible rfl | rfl | (simp [Instr.field, go_sem]; rfl)
  rotate_left
  · simp only [Act.put, List.setIfInBounds_toArray, List.set_cons_zero, List.set_cons_succ, i64_w, i32_w]
    rfl
  refine pure_ (i := 9) (N := some 41) (v := ?_) (a' := ?_) #[true, true, true, true, true, true, true, true, true, true] rfl rfl (by kernel_rfl) (fun _ _ _ h => h) (Or.inl ⟨by rfl, ?_⟩) ?_ ?_
  rotate_left
  · intro w'
    go_simp
    first | done | with_reducible rfl | rfl | (simp [Instr.field, go_sem]; rfl)
  rotate_left
  · simp only [Act.put, List.setIfInBounds_toArray, List.set_cons_zero, List.set_cons_succ, i64_w, i32_w]
    rfl
  refine done_ (by kernel_rfl) ?_
  have BE := Aside0.mk (below_step BD.out HB9.out)
  have K5e := Aside0.mk (blk_below K5d.out HB9.out)
  have P5 := Aside0.mk (Kd.C_below HD5.out HB9.out)
  have P13 := Aside0.mk (Kd.C_below HD13.out HB9.out)
  have P14 := Aside0.mk (Kd.C_below HD14.out HB9.out)
  clear K5d K7d BD HD5 HD13 HD14 HE5 HE13 HE14 HB8 HB9 HO8
  by_cases he0 : er = 0
  · subst he0
    have HEN := Aside0.mk (HE.out rfl)
    go_wp2_with (first
      | (refine wpList_load_row rfl 32 (.tmp 5) rfl g5 rfl 32 #[.int .i64 a0, .int .i64 a1, .int .i64 a2, .int .u64 a3, .int .i64 a4, .slice A5 l5.length c5, .int .u64 a6, .int .u64 a7, .int .u64 a8, .int .u64 a9, .int .u64 a10, .int .u64 a11, .int .u64 a12, .slice A13 l13.length c13, .slice A14 l14.length c14, .float .f64 a15] (0, 0) _ K5e.out Try.underlying32 rfl si32 ?_)
      | (go_at_call 14; refine (letter_Encode.calls a0 a1 a2 a3 a4 A5 c5 l5 a6 a7 a8 a9 a10 a11 a12 A13 c13 l13 A14 c14 l14 a15 _ _ _ P5.out DC5.out P13.out DC13.out P14.out DC14.out HEN.out).mono ?_; rintro e w10 ⟨rfl, hb⟩; have BF := Aside0.mk (below_step BE.out hb); clear hb))
    go_ret
    exact ⟨by simp, BF.out⟩
  · go_wp2
    go_ret
    exact ⟨rfl, BE.out⟩
end Go.Proofs.Ytondgoabnmgcaaa.B
end
section
/- By hand: LetterDecodes: the ways joined, for the row. -/
namespace Go.Proofs.Ytondgoabnmgcaaa.R
open Go.RowKit Go.Proofs.Ytondgoabnmgcaaa.B Go.Proofs.YtondgoabnmgcaaaW.PrintWords Go.Proofs.YtondgoabnmgcaaaW.PrintLast Go.Proofs.YtondgoabnmgcaaaW.PrintMore
open Go.Proofs.YtondgoabnmgcaaaO.R (rdv rdv_range rbits)
theorem peelE {c : Prop} [Decidable c] {e e' : Int} {y : Except Int S32} (h : (if c then .error e else y) = .error e') (he : e ≠ 0) : e' ≠ 0 ∨ y = .error e' := by
  by_cases hc : c
  · rw [if_pos hc] at h; exact .inl (by cases h; exact he)
  · rw [if_neg hc] at h; exact .inr h
theorem decP_ne (S : ByteArray) (e : Int) (h : decP S = .error e) : e ≠ 0 := by
  have t10 : (10 : Int) ≠ 0 := by decide
  unfold decP at h; rcases peelE h t10 with h | h; · exact h
  unfold d1 at h; rcases peelE h t10 with h | h; · exact h
  unfold d2 at h; rcases peelE h t10 with h | h; · exact h
  unfold d3 at h; rcases peelE h t10 with h | h; · exact h
  unfold d4 at h; rcases peelE h t10 with h | h; · exact h
  unfold d5 at h
  rcases except_or (listI S (itU S) 8 12) with ⟨e2, hL⟩ | ⟨⟨l5, q⟩, hL⟩
  · rw [hL] at h
    cases h
    exact ((list_is id S (itU S) (uS S) (uN S) (itU_is S).1 (itU_is S).2 (fun e he => uN_bad he) 8 12).2 _ hL).2
  rw [hL] at h
  replace h : d6 S l5 q = .error e := h
  unfold d6 at h; rcases peelE h t10 with h | h; · exact h
  unfold d7 at h; rcases peelE h t10 with h | h; · exact h
  unfold d8 at h; rcases peelE h t10 with h | h; · exact h
  unfold d9 at h; rcases peelE h t10 with h | h; · exact h
  unfold d10 at h; rcases peelE h t10 with h | h; · exact h
  unfold d11 at h
  rcases except_or (listI S (itP S) 6 (q + 56)) with ⟨e2, hL2⟩ | ⟨⟨l13, q2⟩, hL2⟩
  · rw [hL2] at h
    cases h
    exact ((list_is to90 S (itP S) (pS S) (pN S) (itP_is S).1 (itP_is S).2 (fun e he => pN_bad he) 6 (q + 56)).2 _ hL2).2
  rw [hL2] at h
  replace h : d12 S l5 q l13 q2 = .error e := h
  unfold d12 at h
  rcases except_or (listI S (itX S) 16 q2) with ⟨e2, hL3⟩ | ⟨⟨l14, q3⟩, hL3⟩
  · rw [hL3] at h
    cases h
    exact ((list_is id S (itX S) (xS S) (xN S) (itX_is S).1 (itX_is S).2 (fun e he => xN_bad he) 16 q2).2 _ hL3).2
  rw [hL3] at h
  replace h : d13 S l5 q l13 l14 q3 = .error e := h
  unfold d13 at h; rcases peelE h t10 with h | h; · exact h
  unfold d14 at h; rcases peelE h (by decide) with h | h; · exact h
  unfold d15 at h; rcases peelE h (by decide) with h | h; · exact h
  unfold d16 at h; rcases peelE h (by decide) with h | h; · exact h
  cases h
theorem run_all {α : Type} (it : Nat → Except Int (α × Nat)) (P : α → Prop) (hit : ∀ p q x, it p = .ok (x, q) → P x) : ∀ (n p q : Nat) (acc l : List α), (∀ x ∈ acc, P x) → runI it n p acc = .ok (l, q) → ∀ x ∈ l, P x
  | 0, p, q, acc, l, ha, h => by
    rw [runI] at h
    obtain ⟨rfl, rfl⟩ := Prod.mk.inj (Except.ok.inj h)
    exact ha
  | n + 1, p, q, acc, l, ha, h => by
    rw [runI] at h
    cases hi : it p with
    | error e => rw [hi] at h; cases h
    | ok r =>
      obtain ⟨x, p1⟩ := r
      rw [hi] at h
      refine run_all it P hit n p1 q (acc ++ [x]) l (fun y hy => ?_) h
      rcases List.mem_append.1 hy with hy | hy
      · exact ha y hy
      · rw [List.mem_singleton] at hy
        subst hy
        exact hit p p1 y hi
theorem list_all {α : Type} (s : ByteArray) (it : Nat → Except Int (α × Nat)) (P : α → Prop) (hit : ∀ p q x, it p = .ok (x, q) → P x) (most : Int) (p q : Nat) (l : List α) (h : listI s it most p = .ok (l, q)) : ∀ x ∈ l, P x := by
  unfold listI at h
  by_cases h1 : s.size < p + 1
  · rw [if_pos h1] at h; cases h
  rw [if_neg h1] at h
  by_cases h2 : most < rdv s p 1
  · rw [if_pos h2] at h; cases h
  rw [if_neg h2] at h
  exact run_all it P hit _ _ _ [] l (fun x hx => by cases hx) h
theorem u64_rdv (s : ByteArray) (p : Nat) : u64B (rdv s p 8) = true := by
  have h : 0 ≤ rdv s p 8 ∧ rdv s p 8 < 18446744073709551616 := rdv_range s 8 p
  unfold u64B
  rw [decide_eq_true h.1, decide_eq_true h.2]
  rfl
theorem okU (s : ByteArray) (p q : Nat) (x : S70) (h : itU s p = .ok (x, q)) : u64B x.f1 = true := by
  unfold itU at h
  by_cases h1 : s.size < p + 10
  · rw [if_pos h1] at h; cases h
  rw [if_neg h1] at h
  obtain ⟨rfl, rfl⟩ := Prod.mk.inj (Except.ok.inj h)
  exact u64_rdv _ _
theorem okX (s : ByteArray) (p q : Nat) (x : S77) (h : itX s p = .ok (x, q)) : (u64B x.f0 && u64B x.f1) = true := by
  unfold itX at h
  by_cases h1 : s.size < p + 16
  · rw [if_pos h1] at h; cases h
  rw [if_neg h1] at h
  obtain ⟨rfl, rfl⟩ := Prod.mk.inj (Except.ok.inj h)
  dsimp only
  rw [u64_rdv, u64_rdv]
  rfl
theorem okP (s : ByteArray) (p q : Nat) (x : S53) (h : itP s p = .ok (x, q)) : (u64B x.f0 && u64B x.f1.f1) = true := by
  unfold itP at h
  by_cases h1 : s.size < p + 17
  · rw [if_pos h1] at h; cases h
  rw [if_neg h1] at h
  by_cases h2 : textE s (p + 17) = 0
  · rw [if_pos h2] at h
    obtain ⟨rfl, rfl⟩ := Prod.mk.inj (Except.ok.inj h)
    dsimp only
    rw [u64_rdv, u64_rdv]
    rfl
  · rw [if_neg h2] at h; cases h
theorem okL_dec (S : ByteArray) (x : S32) (h : decP S = .ok x) : okL x.f0 x.f1 x.f2 x.f3 x.f4 x.f5 x.f6.f0 x.f6.f1 x.f7 x.f8 x.f9.f0 x.f9.f1 x.f10 x.f11 x.f12 x.f13 = true := by
  unfold decP at h; obtain ⟨h0, h⟩ := peel h
  unfold d1 at h; obtain ⟨h1, h⟩ := peel h
  unfold d2 at h; obtain ⟨h2, h⟩ := peel h
  unfold d3 at h; obtain ⟨h3, h⟩ := peel h
  unfold d4 at h; obtain ⟨h4, h⟩ := peel h
  unfold d5 at h
  rcases except_or (listI S (itU S) 8 12) with ⟨e, hL⟩ | ⟨⟨l5, q⟩, hL⟩
  · rw [hL] at h; cases h
  rw [hL] at h
  have k5 := list_all S _ _ (okU S) 8 12 q l5 hL
  replace h : d6 S l5 q = .ok x := h
  unfold d6 at h; obtain ⟨h6, h⟩ := peel h
  unfold d7 at h; obtain ⟨h7, h⟩ := peel h
  unfold d8 at h; obtain ⟨h8, h⟩ := peel h
  unfold d9 at h; obtain ⟨h9, h⟩ := peel h
  unfold d10 at h; obtain ⟨h10, h⟩ := peel h
  unfold d11 at h
  rcases except_or (listI S (itP S) 6 (q + 56)) with ⟨e, hL2⟩ | ⟨⟨l13, q2⟩, hL2⟩
  · rw [hL2] at h; cases h
  rw [hL2] at h
  have k13 := list_all S _ _ (okP S) 6 (q + 56) q2 l13 hL2
  replace h : d12 S l5 q l13 q2 = .ok x := h
  unfold d12 at h
  rcases except_or (listI S (itX S) 16 q2) with ⟨e, hL3⟩ | ⟨⟨l14, q3⟩, hL3⟩
  · rw [hL3] at h; cases h
  rw [hL3] at h
  have k14 := list_all S _ _ (okX S) 16 q2 q3 l14 hL3
  replace h : d13 S l5 q l13 l14 q3 = .ok x := h
  unfold d13 at h; obtain ⟨h13, h⟩ := peel h
  unfold d14 at h; obtain ⟨h14, h⟩ := peel h
  unfold d15 at h; obtain ⟨h15, h⟩ := peel h
  unfold d16 at h; obtain ⟨h16, h⟩ := peel h
  obtain rfl := Except.ok.inj h
  unfold letterOf
  simp only [okL, u64_rdv, Bool.true_and, Bool.and_eq_true, List.all_eq_true]
  exact ⟨k5, fun p hp => by simpa using k13 p hp, fun p hp => by simpa using k14 p hp⟩
/-- what the two ways of a text come to -/
theorem dec_all (t : ByteArray) (ht : t.size ≤ 4000) : ∃ (a0 a1 a2 a3 a4 : Int) (l5 : List S70) (a6 a7 a8 a9 a10 a11 a12 : Int) (l13 : List S53) (l14 : List S77) (a15 : Nat) (er : Int),
    letter_Decode.f t = some (a0, a1, a2, a3, a4, l5, a6, a7, a8, a9, a10, a11, a12, l13, l14, a15, er) ∧ l5.length ≤ 1000 ∧ l13.length ≤ 1000 ∧ l14.length ≤ 1000 ∧ (er = 0 → letter_Encode.f a0 a1 a2 a3 a4 l5 a6 a7 a8 a9 a10 a11 a12 l13 l14 a15 = some (t, 0)) := by
  have hO := Go.Proofs.YtondgoabnmgcaaaG.Pure.open_run t (by omega)
  by_cases h4 : t.size < 4
  · rw [if_pos h4] at hO
    refine ⟨0, 0, 0, 0, 0, [], 0, 0, 0, 0, 0, 0, 0, [], [], 0, 10, ?_, by decide, by decide, by decide, fun h => by cases h⟩
    unfold letter_Decode.f decT
    rw [hO, Option.bind_some, if_neg (by decide)]
    rfl
  rw [if_neg h4] at hO
  by_cases hs : t.extract 0 (t.size - 4) ++ Go.Proofs.YtondgoabnmgcaaaG.Pure.four (Go.Proofs.YtondgoabnmgcaaaG.Crc.sum (t.extract 0 (t.size - 4)).data.toList) = t
  · rw [if_pos hs] at hO
    have hz : (t.extract 0 (t.size - 4)).size ≤ 4000 := by rw [ByteArray.size_extract]; omega
    have hsl : sealS (t.extract 0 (t.size - 4)) = t := hs
    generalize t.extract 0 (t.size - 4) = S at hO hz hsl
    have hT : decT t = some (decP S) := by
      unfold decT
      rw [hO, Option.bind_some, if_pos rfl, if_pos (show S.size < 4611686018427387904 by omega)]
    rcases except_or (decP S) with ⟨e, hD⟩ | ⟨x, hD⟩
    · refine ⟨0, 0, 0, 0, 0, [], 0, 0, 0, 0, 0, 0, 0, [], [], 0, e, ?_, by decide, by decide, by decide, fun h => absurd h (decP_ne S e hD)⟩
      unfold letter_Decode.f
      rw [hT, hD]
      rfl
    · obtain ⟨hm, he⟩ := enc_dec S x hD
      have hok := okL_dec S x hD
      refine ⟨x.f0, x.f1, x.f2, x.f3, x.f4, x.f5, x.f6.f0, x.f6.f1, x.f7, x.f8, x.f9.f0, x.f9.f1, x.f10, x.f11, x.f12, x.f13, 0, ?_, ?_, ?_, ?_, fun _ => ?_⟩
      · unfold letter_Decode.f
        rw [hT, hD]
        rfl
      · have hm := hm
        simp only [mayL, Bool.and_eq_true, decide_eq_true_eq] at hm
        have := hm.2.2.2.2.2.1
        omega
      · have hm := hm
        simp only [mayL, Bool.and_eq_true, decide_eq_true_eq] at hm
        have := hm.2.2.2.2.2.2.1
        omega
      · have hm := hm
        simp only [mayL, Bool.and_eq_true, decide_eq_true_eq] at hm
        have := hm.2.2.2.2.2.2.2.1
        omega
      · unfold letter_Encode.f
        rw [if_neg (by rw [hm]; decide), if_pos hok, he, strOf_all, hsl]
  · rw [if_neg hs] at hO
    refine ⟨0, 0, 0, 0, 0, [], 0, 0, 0, 0, 0, 0, 0, [], [], 0, 20, ?_, by decide, by decide, by decide, fun h => by cases h⟩
    unfold letter_Decode.f decT
    rw [hO, Option.bind_some, if_neg (by decide)]
    rfl
theorem sum_same : ∀ k, (∀ x0 x3 x4, conventicleref02_Sum.l0 k x0 x3 x4 = Go.Proofs.YtondgoabnmgcaaaG.B.conventicleref02_Sum.l0 k x0 x3 x4) ∧ (∀ x0 x3 x4 x5, conventicleref02_Sum.l1 k x0 x3 x4 x5 = Go.Proofs.YtondgoabnmgcaaaG.B.conventicleref02_Sum.l1 k x0 x3 x4 x5)
  | 0 => ⟨fun _ _ _ => rfl, fun _ _ _ _ => rfl⟩
  | k + 1 => by
    obtain ⟨h0, h1⟩ := sum_same k
    have hs : ∀ x, conventicleref02_Step.f x = Go.Proofs.YtondgoabnmgcaaaG.B.conventicleref02_Step.f x := fun _ => rfl
    refine ⟨fun x0 x3 x4 => ?_, fun x0 x3 x4 x5 => ?_⟩
    · rw [conventicleref02_Sum.l0, Go.Proofs.YtondgoabnmgcaaaG.B.conventicleref02_Sum.l0, h1]
    · rw [conventicleref02_Sum.l1, Go.Proofs.YtondgoabnmgcaaaG.B.conventicleref02_Sum.l1, h0, hs]
      congr 2
      funext y
      exact h1 _ _ _ _
theorem sealed_is (s : ByteArray) (hs : s.size ≤ 4000) : conventicleref15_Sealed.f 40001 s = some (sealS s) := by
  have h := Go.Proofs.YtondgoabnmgcaaaG.Pure.rseal_run s hs 0
  have e : conventicleref02_Seal.f 40001 s = Go.Proofs.YtondgoabnmgcaaaG.B.conventicleref02_Seal.f 40001 s := by
    unfold conventicleref02_Seal.f Go.Proofs.YtondgoabnmgcaaaG.B.conventicleref02_Seal.f conventicleref02_Sum.f Go.Proofs.YtondgoabnmgcaaaG.B.conventicleref02_Sum.f
    rw [(sum_same 40001).1]
    rfl
  unfold conventicleref15_Sealed.f
  rw [e, h]
  rfl
theorem dec_row (s : ByteArray) (q : Bool) (w : World) : Calls Try.prog 3 #[.string s, .bool q] w fun e w' => e = .returned (.bool true) ∧ Below w.heap.size w w' := by
  by_cases hl : 2000 < (s.size : Int)
  · exact dec_long s q w hl
  cases q
  · obtain ⟨a0, a1, a2, a3, a4, l5, a6, a7, a8, a9, a10, a11, a12, l13, l14, a15, er, h1, h2, h3, h4, h5⟩ := dec_all s (by omega)
    exact dec_plain s a0 a1 a2 a3 a4 l5 a6 a7 a8 a9 a10 a11 a12 l13 l14 a15 er w (by omega) (by omega) h1 h2 h3 h4 h5
  · have hz : (sealS s).size = s.size + 4 := Go.Proofs.Ytondgoabnmgcaaa.Pure.sealS_size s
    obtain ⟨a0, a1, a2, a3, a4, l5, a6, a7, a8, a9, a10, a11, a12, l13, l14, a15, er, h1, h2, h3, h4, h5⟩ := dec_all (sealS s) (by omega)
    exact dec_sealed s (sealS s) a0 a1 a2 a3 a4 l5 a6 a7 a8 a9 a10 a11 a12 l13 l14 a15 er w (by omega) (by omega) 40001 (sealed_is s (by omega)) h1 h2 h3 h4 h5
end Go.Proofs.Ytondgoabnmgcaaa.R
end
