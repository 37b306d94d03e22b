/- By hand: roll.New. -/
import Derived.Test.YtkkcnhfbcophiaaDoorHear
namespace Go.Proofs.YtkkcnhfbcophiaaDoor.B
open Go.RowKit Go.Proofs.YtkkcnhfbcophiaaDoorW.PrintWords Go.Proofs.YtkkcnhfbcophiaaDoorW.PrintLast Go.Proofs.YtkkcnhfbcophiaaDoorW.PrintMore
set_option linter.unusedSimpArgs false
set_option linter.unusedVariables false

/-- what a new roll of n begins with -/
def roll0 (n : Int) : RollS := ⟨n, fun _ => z31, 0⟩
theorem roll_setMe (R : RollS) (n : Int) : (rollCells R).setIfInBounds 0 (.int .i64 n) = rollCells { R with me := n } := by
  apply Array.ext_getElem?
  intro i
  simp only [Array.getElem?_setIfInBounds, roll_size, roll_get]
  by_cases e : 0 = i
  · subst e
    rfl
  · rw [if_neg e]
    unfold rollAt
    by_cases h1 : i < 194
    · rw [if_pos h1, if_pos h1, if_neg (show ¬ i = 0 from fun h => e h.symm), if_neg (show ¬ i = 0 from fun h => e h.symm)]
    · rw [if_neg h1, if_neg h1]
theorem zero57 : Tryd.zeroCells57 = rollCells (roll0 0) := by
  unfold rollCells
  kernel_rfl
theorem new57 (n : Int) : Tryd.zeroCells57.setIfInBounds 0 (.int .i64 n) = rollCells (roll0 n) := by
  rw [zero57, roll_setMe]
  rfl
set_option maxRecDepth 100000 in
set_option maxHeartbeats 1000000 in
theorem new_no (w : World) (n : Int) (hn : n < 0 ∨ 64 ≤ n) : Calls Tryd.prog 11 #[.int .i64 n] w fun e w' => e = .returned (.pointer none) ∧ w' = w := by
  by_cases h : n < 0
  · have h1 : decide (n < 0) = true := decide_eq_true h
    go_enter Tryd.func11, Tryd.ntmps11
    go_wp2
    go_ret
    exact ⟨rfl, rfl⟩
  · have h1 : decide (n < 0) = false := decide_eq_false h
    have h2 : decide (64 ≤ n) = true := decide_eq_true (by omega)
    go_enter Tryd.func11, Tryd.ntmps11
    go_wp2
    go_ret
    exact ⟨rfl, rfl⟩
set_option maxRecDepth 100000 in
set_option maxHeartbeats 1000000 in
theorem new_yes (w : World) (n : Nat) (hn : n < 64) (h' : Nat) (hw : band_With.f 0 n = some (h' : Int)) :
    Calls Tryd.prog 11 #[.int .i64 n] w fun e w' => ∃ g, e = .returned (.pointer (some ⟨g, 0, none⟩)) ∧ RollB w' g { (roll0 n).setK n ⟨n, 0, 0⟩ with has := h' } ∧ w.heap.size ≤ g ∧ Below w.heap.size w w' := by
  have HW := Aside0.mk hw
  have h1 : decide ((n : Int) < 0) = false := decide_eq_false (by omega)
  have h2 : decide (64 ≤ (n : Int)) = false := decide_eq_false (by omega)
  clear hw
  go_enter Tryd.func11, Tryd.ntmps11
  go_wp2_with (go_at_call 28; refine (put_walk w _ w.heap.size (roll0 n) n 0 0 hn h' HW.out (by unfold RollB; rw [← new57]; exact World.alloc_heap_new w _) (Nat.le_refl _) (below_alloc (Below.refl _ _) _)).mono ?_; rintro e w7 ⟨⟨v, rfl⟩, hR7, hB7, -⟩; have HR7 := Aside0.mk hR7; have HB7 := Aside0.mk hB7; clear hR7 hB7)
  go_ret
  exact ⟨_, rfl, HR7.out, Nat.le_refl _, HB7.out⟩
end Go.Proofs.YtkkcnhfbcophiaaDoor.B
