/- By hand: shown: a view of one member ends by itself (printed by shown.py). -/
import Derived.Test.YtkjjegakfceibaaDoorBegin
namespace Go.Proofs.YtkjjegakfceibaaDoor.B
open Go.RowKit Go.Proofs.YtkjjegakfceibaaDoorW.PrintWords Go.Proofs.YtkjjegakfceibaaDoorW.PrintLast Go.Proofs.YtkjjegakfceibaaDoorW.PrintMore
set_option linter.unusedSimpArgs false
set_option linter.unusedVariables false
def c1 : TS := ⟨0, 0, 0, 0, 3, 1, 8, true, 7, 68, 0, 8, 16, 0, 0, false, 0, 0, 0, false, 0, 0, false⟩
def c2 : TS := ⟨68, 0, 0, 0, 3, 1, 8, true, 7, 68, 0, 8, 16, 0, 0, false, 0, 0, 0, false, 0, 0, false⟩
def c3 : TS := ⟨68, 0, 0, 0, 3, 1, 8, true, 7, 68, 0, 8, 16, 8, 7, true, 24, 7, 0, false, 0, 0, false⟩
def c4 : TS := ⟨68, 68, 24, 7, 3, 1, 8, true, 7, 68, 0, 8, 16, 8, 7, true, 24, 7, 0, false, 0, 0, false⟩
def c5 : TS := ⟨68, 68, 24, 7, 3, 1, 8, true, 7, 68, 0, 8, 16, 8, 7, true, 24, 7, 8, true, 24, 7, true⟩
def lx : LT := ⟨9, 3, 4, 0, 1, 8, 0, 0, 2, 24, 7⟩
theorem k_has : band_Has.f 8 3 = some true := by kernel_rfl
theorem k_maj : band_Major.f 8 8 = some true := by kernel_rfl
theorem k_less : band_Less.f 8 3 = some 0 := by kernel_rfl
theorem k_list0 : band_List.f 0 = some [] := by kernel_rfl
theorem freeze_id (s : TS) (r : Int) (h : s.fr = true) : s.freeze r = s := by unfold TS.freeze; rw [if_pos h]
theorem hear7c (g : Nat) : HearTo g c4 c5 #[.int .i64 7, .int .i64 3, .int .i64 3, .int .u64 0, .int .i64 0, .slice none 0 0, .int .u64 1, .int .u64 8, .int .u64 68, .int .u64 0, .int .u64 0, .int .u64 0, .int .u64 0, .slice none 0 0, .slice none 0 0, .float .f64 0] [lx] := by
  intro w1 hT hTab
  refine hear7 w1 g c4 3 0 68 0 0 0 0 7 (fun v1 _ w' => RQ w1 g c5 [lx] v1 w') hT (by decide) (by decide) k_has ?_
  intro w2 hT2 hk
  refine (took_me w2 g c4 7 3 0 1 8 0 0 0 0 8 2 0 16 [4] hT2 (by decide) rfl rfl (by kernel_rfl) (by kernel_rfl) (tab_keep hTab hT hk) (by kernel_rfl) (by kernel_rfl) (by kernel_rfl) (by kernel_rfl) (by kernel_rfl) (by decide)).mono ?_
  rintro e w' ⟨v, he, hr, ht, hk2⟩
  exact ⟨v, _, he, rq_from hk ⟨hr, ht, hk2⟩⟩
theorem hear6c (g : Nat) : HearTo g c3 c5 #[.int .i64 6, .int .i64 3, .int .i64 3, .int .u64 0, .int .i64 0, .slice none 0 0, .int .u64 1, .int .u64 8, .int .u64 68, .int .u64 0, .int .u64 0, .int .u64 24, .int .u64 7, .slice none 0 0, .slice none 0 0, .float .f64 0] [lx] := by
  intro w1 hT hTab
  refine hear6 w1 g c3 3 0 68 0 0 24 7 7 (fun v1 _ w' => RQ w1 g c5 [lx] v1 w') hT (by decide) (by decide) k_has ?_
  intro w2 hT2 hk
  rw [freeze_id _ _ rfl] at hT2
  refine (accepted_me w2 g c3 6 3 0 1 8 68 0 0 24 7 (fun v1 _ w' => RQ w2 g c5 [lx] v1 w') hT2 (by decide) (by decide) (fun w3 ht3 hk3 => (hear7c g w3 ht3 (tab_keep hTab hT (hk.trans hk3 (.inl rfl)))).mono (fun e w' ⟨v1, v2, he, hq⟩ => ⟨v1, v2, he, rq_from hk3 hq⟩))).mono ?_
  rintro e w' ⟨v1, v2, he, hq⟩
  exact ⟨v1, _, he, rq_from hk hq⟩
theorem hear5c (g : Nat) : HearTo g c2 c5 #[.int .i64 5, .int .i64 3, .int .i64 3, .int .u64 7, .int .i64 0, .slice none 0 0, .int .u64 1, .int .u64 8, .int .u64 68, .int .u64 0, .int .u64 0, .int .u64 0, .int .u64 0, .slice none 0 0, .slice none 0 0, .float .f64 0] [lx] := by
  intro w1 hT hTab
  refine hear5 w1 g c2 3 7 68 0 0 0 0 7 (fun v1 _ w' => RQ w1 g c5 [lx] v1 w') hT (by decide) (by decide) k_has ?_
  intro w2 hT2 hk
  refine (promised_me w2 g c2 5 3 7 1 8 0 3 8 c5 0 [lx] hT2 (by decide) rfl (by decide) rfl rfl rfl (by decide) (by kernel_rfl) (by kernel_rfl) (by kernel_rfl) (by kernel_rfl) (by kernel_rfl) (by kernel_rfl) (tab_keep hTab hT hk) rfl rfl k_less k_list0 (by decide) (hear6c g)).mono ?_
  rintro e w' ⟨v, he, hq⟩
  exact ⟨v, _, he, rq_from hk hq⟩
theorem hear4c (g : Nat) : HearTo g c1 c5 #[.int .i64 4, .int .i64 3, .int .i64 3, .int .u64 0, .int .i64 0, .slice none 0 0, .int .u64 1, .int .u64 8, .int .u64 68, .int .u64 0, .int .u64 0, .int .u64 0, .int .u64 0, .slice none 0 0, .slice none 0 0, .float .f64 0] [lx] := by
  intro w1 hT hTab
  refine hear4 w1 g c1 3 0 68 0 0 0 0 7 (fun v1 _ w' => RQ w1 g c5 [lx] v1 w') hT (by decide) (by decide) k_has ?_
  intro w2 hT2 hk
  rw [freeze_id _ _ rfl] at hT2
  refine (prepared_me w2 g c1 4 3 0 1 8 68 0 0 0 0 (fun v1 _ w' => RQ w2 g c5 [lx] v1 w') hT2 (by decide) (by decide) (fun w3 ht3 hk3 => (hear5c g w3 ht3 (tab_keep hTab hT (hk.trans hk3 (.inl rfl)))).mono (fun e w' ⟨v1, v2, he, hq⟩ => ⟨v1, v2, he, rq_from hk3 hq⟩))).mono ?_
  rintro e w' ⟨v1, v2, he, hq⟩
  exact ⟨v1, _, he, rq_from hk hq⟩
theorem R_addr {w : World} {base : Nat} {ok : Nat → Prop} {v : Value} {x : LT} (h : kL.R 40 w base ok v [x]) : ∃ g2 c, v = .slice (some ⟨g2, 0, none⟩) 1 c ∧ base ≤ g2 ∧ ∀ j u, x.cells[j]? = some u → w.cell? ⟨g2, j, none⟩ = some u := by
  have h' := h
  obtain ⟨h0, inner, hown, hr⟩ := h
  rcases hown.2 with ⟨rfl, hz⟩ | ⟨g2, cap, cur, rfl, hg, hh, r⟩
  · exact absurd (Kd.R_reads' h').1 (by simp)
  · obtain ⟨h1, h2, h3⟩ := Kd.R_reads' h'
    refine ⟨g2, cap, rfl, hg, ?_⟩
    obtain ⟨ad, e, hc⟩ := h3.2.2 (by simp)
    obtain ⟨c, hl, hK, hcc⟩ := hc 0 x rfl
    have hK' : c = x.cells := hK
    subst hK'
    injection e with e
    subst e
    intro j u hu
    have := hcc j u hu
    rw [Addr.add_mid] at this
    simpa using this
theorem decided_c5 (w : World) (g : Nat) (h : TB w g c5) : Calls Tryd.prog 13 #[.pointer (some ⟨g, 0, none⟩)] w fun e w' => e = .returned (.tuple #[.agg #[.int .u64 24, .int .u64 7], .bool true]) ∧ Below w.heap.size w w' := decided_at w g c5 h
set_option maxRecDepth 100000 in
set_option maxHeartbeats 4000000 in
theorem shown_at (w : World) (hTab : TabT w) : Calls Tryd.prog 7 #[] w fun e w' => e = .returned (.bool true) ∧ Below w.heap.size w w' := by
  have HTab := Aside0.mk hTab
  clear hTab
  go_enter Tryd.func7, Tryd.ntmps7
  go_wp2_with (first
    | (go_at_call 8; refine (new_at 3 1 8 _ k_has (by decide)).mono ?_; rintro e w1 ⟨g, rfl, hg, hT, hb⟩; have GE := Aside0.mk hg; have KT := Aside0.mk hT; have B := Aside0.mk hb; clear hg hT hb)
    | (go_at_call 16; refine (begin_me _ g (newT 3 1 8) 8 16 7 68 8 c5 0 [lx] KT.out rfl rfl rfl rfl rfl k_maj (by kernel_rfl) (by kernel_rfl) (tab_belowN HTab.out (tab_pos HTab.out) B.out) rfl rfl k_less k_list0 (by decide) (hear4c g)).mono ?_; rintro e w2 ⟨v, rfl, hR, ht, hk⟩; obtain ⟨g2, c, rfl, hg2, hc⟩ := R_addr hR; have HC := Aside0.mk hc; have KU := Aside0.mk ht; have KK := Aside0.mk hk; clear hR ht hk hg2 hc)
    | (go_at_call 13; refine (decided_c5 _ g KU.out).mono ?_; rintro e w3 ⟨rfl, hb⟩; replace HC := Aside0.mk (fun j u hu => (hb.cell (World.block_lt_of_cell? _ _ (HC.out j u hu))).trans (HC.out j u hu)); replace KK := Aside0.mk (KK.out.trans (KeepBut.of_below hb g none) (.inl rfl)); clear hb)
    | ((with_reducible refine gate_dst (N := 4) rfl ?_); refine box_event ?hg (N := 4) ?hd (cs := #[.int .u64 0, .int .u64 0]) (t := 52) ?hr ?_; (case hd => rfl); (case hg => rfl); (case hr => first | (go_simp; done) | (go_simp; rfl)); intro g8 hg_ w4 hb_ hB_; have L8 := Aside0.mk hg_; have L9 := Aside0.mk (show w.heap.size ≤ g8 by rw [hg_]; exact Nat.le_trans B.out.size KK.out.1); have KZ := Aside0.mk hb_; have HC2 := Aside0.mk (fun j u hu => (hB_.cell (World.block_lt_of_cell? _ _ (HC.out j u hu))).trans (HC.out j u hu)); replace KK := Aside0.mk (KK.out.trans (KeepBut.of_below hB_ g none) (.inl rfl)); have fr := fun j => blk_frozen KZ.out j; have c0 := (blk_cell KZ.out 0).trans rfl; have c1 := (blk_cell KZ.out 1).trans rfl; have y0 : w4.cell? ⟨g2, 0, none⟩ = some (.int .i64 9) := HC2.out 0 _ rfl; have y2 : w4.cell? ⟨g2, 2, none⟩ = some (.int .i64 4) := HC2.out 2 _ rfl; have ne8 : g2 ≠ g8 := (by have := World.block_lt_of_cell? _ _ (HC.out 0 _ rfl); have := L8.out; dsimp only at *; omega); clear hg_ hb_ hB_))
  go_ret
  refine ⟨by first | rfl | (simp; done), ?_⟩
  exact below_set (below_set (KeepBut.fresh B.out KK.out GE.out) L9.out) L9.out
end Go.Proofs.YtkjjegakfceibaaDoor.B
