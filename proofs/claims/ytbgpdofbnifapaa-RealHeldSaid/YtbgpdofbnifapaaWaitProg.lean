/- By hand: how long is waited, by the program. -/
import Derived.Test.YtbgpdofbnifapaaRefWait
import Derived.Deep.RegionWith
namespace Go.Proofs.Ytbgpdofbnifapaa.R
open Go.RowKit Go.Proofs.YtbgpdofbnifapaaW.PrintWords Go.Proofs.YtbgpdofbnifapaaW.PrintLast Go.Proofs.YtbgpdofbnifapaaW.PrintMore
theorem run_store_float (P : Program) (w : World) (a : Addr) (m : Mode) (k : FloatKind) (n : Nat) : (store a (.float k n) m).run P w = stored P w a (.float k n) m := run_store P w a _ m rfl
attribute [local go_sem] max2_int min2_int max_two min_two run_store_float
/-- what the closure gives -/
theorem less_at (g1 g2 q G b d p x r : Nat) (w : World)
    (h1 : w.heap[g1]? = some (.cells #[.float .f64 G] 22 (0, 0))) (h2 : w.heap[g2]? = some (.cells #[.float .f64 b] 22 (0, 0)))
    (hd : ∀ t w, (binOp .sub t (.float .f64 G) (.float .f64 b)).run Try.prog w = .ok (.float .f64 d) w)
    (hp : ∀ t w, (binOp .mul t (.float .f64 q) (.float .f64 d)).run Try.prog w = .ok (.float .f64 p) w)
    (hx : ∀ t w, (binOp .sub t (.float .f64 G) (.float .f64 p)).run Try.prog w = .ok (.float .f64 x) w)
    (hmax : Builtin.max2 (.float .f64 x) (.float .f64 b) = pure (.float .f64 r)) :
    Calls Try.prog 37 #[.float .f64 q, .pointer (some ⟨g1, 0, none⟩), .pointer (some ⟨g2, 0, none⟩)] w fun e w' => e = .returned (.float .f64 r) ∧ w = w' := by
  have c1 := (blk_cell h1 0).trans rfl
  have c2 := (blk_cell h2 0).trans rfl
  clear h1 h2
  go_enter Try.func37, Try.ntmps37
  go_wp2
  go_ret
  exact ⟨rfl, rfl⟩
set_option maxHeartbeats 8000000 in
theorem wait_at' (base b f m G R : Nat) (nodes told most k : Int) (w : World)
    (HC : Aside0 (∀ w, Calls Try.prog 18 #[.float .f64 base, .float .f64 0, .float .f64 4652007308841189376] w fun e w' => e = .returned (.float .f64 b) ∧ w = w'))
    (HB : Aside0 (∀ w, Calls Try.prog 16 #[.int .i64 nodes] w fun e w' => e = .returned (.int .i64 k) ∧ w = w'))
    (hF : floatOfInt .f64 k = f) (hm : ∀ t w, (binOp .mul t (.float .f64 b) (.float .f64 f)).run Try.prog w = .ok (.float .f64 m) w)
    (hmax : Builtin.max2 (.float .f64 m) (.float .f64 b) = pure (.float .f64 G))
    (hN : Aside0 (told ≤ 0 → G = R)) (hL : Aside0 (¬ told ≤ 0 → most < 1 ∨ most ≤ told → b = R))
    (hR : Aside0 (¬ told ≤ 0 → ¬ most < 1 → ¬ most ≤ told → ∃ ft fm q, floatOfInt .f64 told = ft ∧ floatOfInt .f64 most = fm ∧ (∀ t w, (binOp .quo t (.float .f64 ft) (.float .f64 fm)).run Try.prog w = .ok (.float .f64 q) w) ∧
      ∀ g1 g2 w, w.heap[g1]? = some (.cells #[.float .f64 G] 22 (0, 0)) → w.heap[g2]? = some (.cells #[.float .f64 b] 22 (0, 0)) →
        Calls Try.prog 37 #[.float .f64 q, .pointer (some ⟨g1, 0, none⟩), .pointer (some ⟨g2, 0, none⟩)] w fun e w' => e = .returned (.float .f64 R) ∧ w = w')) :
    Calls Try.prog 19 #[.float .f64 base, .int .i64 nodes, .int .i64 told, .int .i64 most] w fun e w' => e = .returned (.float .f64 R) ∧ Below w.heap.size w w' := by
  go_enter Try.func19, Try.ntmps19
  go_wp2_with (first
    | (go_at_call 18; (with_reducible refine (HC.out _).mono ?_); rintro e w' ⟨rfl, rfl⟩)
    | (go_at_call 16; (with_reducible refine (HB.out _).mono ?_); rintro e w' ⟨rfl, rfl⟩))
  obtain ⟨g, hg⟩ : ∃ g, g = w.heap.size := ⟨_, rfl⟩
  have hk := blk_new w (.cells #[.float .f64 b] 22 (0, 0))
  have hbl := Aside0.mk (below_alloc (Below.refl w.heap.size w) (.cells #[.float .f64 b] 22 (0, 0)))
  rw [← hg] at hk hbl ⊢
  generalize w.alloc (.cells #[.float .f64 b] 22 (0, 0)) = w1 at hk hbl ⊢
  have hc0 := (blk_cell hk 0).trans rfl
  have hlt := blk_lt hk
  have hK := Aside0.mk hk
  have hG := Aside0.mk hg
  clear hk hg
  refine Code.wp_mono (Q := fun e a w' => match e with | .normal => w' = w1.drew.alloc (.cells #[.float .f64 G] 22 (0, 0)) ∧ a = { tmps := #[.float .f64 base, .int .i64 nodes, .int .i64 told, .int .i64 most, undef, undef, undef, undef, .float .f64 0, .pointer (some ⟨g, 0, none⟩), .pointer (some ⟨w1.drew.heap.size, 0, none⟩), undef, .float .f64 base, .float .f64 b, .float .f64 b, .int .i64 nodes, .int .i64 k, .float .f64 f, .float .f64 m, .float .f64 b, .float .f64 G, undef, undef, undef, undef, undef, undef, undef, undef, undef, undef, undef, undef, undef, undef, undef, undef, undef, undef, undef, undef, undef], defers := [] } | _ => False) ?_ ?_
  case refine_2 =>
    clear hbl hN hL hR hK hG HC
    go_region_with (go_at_call 16; (with_reducible refine (HB.out _).mono ?_); rintro e w' ⟨rfl, rfl⟩)
    all_goals exact ⟨rfl, rfl⟩
  intro e a w' h
  cases e
  case normal =>
   obtain ⟨rfl, rfl⟩ := h
   have hk1 : w1.drew.heap[g]? = some (.cells #[.float .f64 b] 22 (0, 0)) := hK.out
   have hb1 : Below g w1.drew (w1.drew.alloc (.cells #[.float .f64 G] 22 (0, 0))) := by
     have := below_alloc (Below.refl w1.drew.heap.size w1.drew) (.cells #[.float .f64 G] 22 (0, 0))
     exact ⟨this.os, this.tape, this.output, this.size, fun i hi => this.block i (by have : g < w1.drew.heap.size := hlt; omega)⟩
   have hk2 := blk_below hk1 (below_alloc (Below.refl w1.drew.heap.size w1.drew) (.cells #[.float .f64 G] 22 (0, 0)))
   have hk3 := blk_new w1.drew (.cells #[.float .f64 G] 22 (0, 0))
   have hB : Aside0 (Below g w (w1.drew.alloc (.cells #[.float .f64 G] 22 (0, 0)))) := ⟨(hbl.out.drew).trans hb1⟩
   obtain ⟨g2, hg2⟩ : ∃ g2, g2 = w1.drew.heap.size := ⟨_, rfl⟩
   rw [← hg2] at hk3 ⊢
   clear hc0 hlt hK hbl hk1 hb1 HC HB hm hF hg2
   generalize w1.drew.alloc (.cells #[.float .f64 G] 22 (0, 0)) = w2 at hk2 hk3 hB ⊢
   have c1 := (blk_cell hk2 0).trans rfl
   have c2 := (blk_cell hk3 0).trans rfl
   have K2 := Aside0.mk hk2
   have K3 := Aside0.mk hk3
   clear hk2 hk3
   by_cases ht : told ≤ 0
   · have hr := hN.out ht
     subst hr
     go_wp2
     go_ret
     exact ⟨rfl, hG.out ▸ hB.out⟩
   · by_cases hmo : most < 1
     · have hr := hL.out (by omega) (by omega)
       subst hr
       go_wp2
       go_ret
       exact ⟨rfl, hG.out ▸ hB.out⟩
     · by_cases hle : most ≤ told
       · have hr := hL.out (by omega) (by omega)
         subst hr
         go_wp2
         go_ret
         exact ⟨rfl, hG.out ▸ hB.out⟩
       · obtain ⟨ft, fm, q, h1, h2, h3, h4⟩ := hR.out (by omega) (by omega) (by omega)
         have H4 := Aside0.mk (h4 g2 g w2 K3.out K2.out)
         clear h4 hN hL hR
         go_wp2_with (go_at_call 37; (with_reducible refine H4.out.mono ?_); rintro e w' ⟨rfl, rfl⟩)
         go_ret
         exact ⟨rfl, hG.out ▸ hB.out⟩
  all_goals exact h.elim
end Go.Proofs.Ytbgpdofbnifapaa.R
