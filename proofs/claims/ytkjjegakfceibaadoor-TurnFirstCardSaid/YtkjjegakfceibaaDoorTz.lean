/- By hand: math/bits.TrailingZeros64 at this program, told as the printed functions tell their callees; the one thing it asks: that the library's table reads as its initialiser lays it (TabT). -/
import Derived.Test.YtkjjegakfceibaaDoorB0
import Derived.Shelf.Spec.TrailingZeros
namespace Go.Proofs.YtkjjegakfceibaaDoor.B
open Go.RowKit Go.Proofs.YtkjjegakfceibaaDoorW.PrintWords Go.Proofs.YtkjjegakfceibaaDoorW.PrintLast Go.Proofs.YtkjjegakfceibaaDoorW.PrintMore

/-- The table of math/bits.TrailingZeros64 lies in its variable. -/
def TabT (w : World) : Prop := TabAt 1 Lib.deBruijn64tab w
theorem tab_heap {w W : World} (h : Aside0 (TabT w)) (e : W.heap = w.heap) : Aside0 (TabT W) := ⟨fun j hj => by
  have := h.out j hj
  rw [← this]
  unfold World.cell?
  rw [e]⟩
theorem tab_drewN {w : World} {m : Nat} (h : Aside0 (TabT w)) : Aside0 (TabT (w.drewN m)) := tab_heap h rfl
theorem tab_drew {w : World} (h : Aside0 (TabT w)) : Aside0 (TabT w.drew) := tab_heap h rfl
theorem tab_below {w W : World} (h : Aside0 (TabT w)) (hb : Below w.heap.size w W) : Aside0 (TabT W) := ⟨fun j hj => by
  have := h.out j hj
  exact (hb.cell (World.block_lt_of_cell? w _ this)).trans this⟩
theorem tab_belowN {w W : World} {n : Nat} (h : TabT w) (h0 : 1 < n) (hb : Below n w W) : TabT W := fun j hj => by
  have := h j hj
  exact (hb.cell (p := ⟨1, j, none⟩) h0).trans this
theorem tab_pos {w : World} (h : TabT w) : 1 < w.heap.size := World.block_lt_of_cell? w _ (h 0 (by decide))

def bits_TrailingZeros64.f (a0 : Int) : Option Int := if 0 ≤ a0 ∧ a0 < 18446744073709551616 then some (Lib.ctz 64 a0.toNat : Nat) else none
set_option maxHeartbeats 1000000 in
theorem tz_core (x k idx : Nat) (w : World) (hx0 : ((x : Int) == 0) = false)
    (key : IntKind.u64.wrap (bits BinOp.and IntKind.u64 (x : Int) (IntKind.u64.wrap (-(x : Int))) * 285870213051353865) / 288230376151711744 = (idx : Int))
    (hi : idx < 64) (hk : k < 64) (hcell : w.cell? ⟨1, idx, none⟩ = some (.int .u8 k)) :
    Calls Tryd.prog 84 #[.int .u64 x] w fun e w' => e = .returned (.int .i64 k) ∧ w' = w := by
  go_enter Tryd.func84, Tryd.ntmps84
  go_wp2_with (simp only [key])
  go_ret
  exact ⟨rfl, rfl⟩
set_option maxHeartbeats 1000000 in
theorem tz_zero (w : World) : Calls Tryd.prog 84 #[.int .u64 0] w fun e w' => e = .returned (.int .i64 64) ∧ w' = w := by
  go_enter Tryd.func84, Tryd.ntmps84
  go_wp2
  go_ret
  exact ⟨rfl, rfl⟩
theorem tz_at (x : Nat) (hx : x < 18446744073709551616) (w : World) (hT : TabT w) : Calls Tryd.prog 84 #[.int .u64 x] w fun e w' => e = .returned (.int .i64 (Lib.ctz 64 x)) ∧ w' = w := by
  by_cases hx0 : x = 0
  · subst hx0
    exact tz_zero w
  · obtain ⟨hlow, hk⟩ := Lib.lowest_bit 64 x hx0 hx
    obtain ⟨hi, htab⟩ := Lib.deBruijn64_at _ hk
    have hcell := hT _ hi
    rw [htab] at hcell
    exact tz_core x _ _ w (by simp; omega) (tz64_key x _ hx hx0 hlow) hi hk hcell
theorem bits_TrailingZeros64.calls (a0 : Int) (r : Int) (w : World) (h : bits_TrailingZeros64.f a0 = some r) (hT : Aside0 (TabT w)) :
    Calls Tryd.prog 84 #[.int .u64 a0] w fun e w' => e = .returned (.int .i64 r) ∧ Drawn0 w w' := by
  unfold bits_TrailingZeros64.f at h
  by_cases hc : 0 ≤ a0 ∧ a0 < 18446744073709551616
  · rw [if_pos hc] at h
    obtain rfl := Option.some.inj h
    have := tz_at a0.toNat (by omega) w hT.out
    rw [show ((a0.toNat : Nat) : Int) = a0 from Int.toNat_of_nonneg hc.1] at this
    refine this.mono ?_
    rintro e w' ⟨rfl, rfl⟩
    exact ⟨rfl, Drawn0.refl _⟩
  · rw [if_neg hc] at h
    cases h
end Go.Proofs.YtkjjegakfceibaaDoor.B
