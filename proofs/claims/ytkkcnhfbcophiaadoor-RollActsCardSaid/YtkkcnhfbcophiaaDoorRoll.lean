/- By hand: roll.Roll as a state (itself, what is known of 64 nodes, of whom something is known), and its methods. -/
import Derived.Test.YtkkcnhfbcophiaaDoorB3
import Derived.Test.YtkkcnhfbcophiaaDoorList
namespace Go.Proofs.YtkkcnhfbcophiaaDoor.B
open Go.RowKit Go.Proofs.YtkkcnhfbcophiaaDoorW.PrintWords Go.Proofs.YtkkcnhfbcophiaaDoorW.PrintLast Go.Proofs.YtkkcnhfbcophiaaDoorW.PrintMore

structure RollS where
  me : Int
  K : Nat → S31
  has : Nat
def updAt (u : S31) (j : Nat) : Value := match j with | 0 => .int .i64 u.f0 | 1 => .int .u64 u.f1 | _ => .int .i64 u.f2
def rollAt (R : RollS) (i : Nat) : Value := if i = 0 then .int .i64 R.me else if i = 193 then .int .u64 R.has else updAt (R.K ((i - 1) / 3)) ((i - 1) % 3)
def rollCells (R : RollS) : Array Value := Array.ofFn (n := 194) (fun i => rollAt R i)
theorem roll_get (R : RollS) (i : Nat) : (rollCells R)[i]? = if i < 194 then some (rollAt R i) else none := by
  unfold rollCells
  rw [Array.getElem?_ofFn]
  by_cases h : i < 194
  · rw [dif_pos h, if_pos h]
  · rw [dif_neg h, if_neg h]
theorem roll_size (R : RollS) : (rollCells R).size = 194 := by unfold rollCells; simp
/-- what is known of node n is u now -/
def RollS.setK (R : RollS) (n : Nat) (u : S31) : RollS := { R with K := fun i => if i = n then u else R.K i }
theorem roll_setK (R : RollS) (n : Nat) (hn : n < 64) (u : S31) :
    (((rollCells R).setIfInBounds (1 + n * 3) (.int .i64 u.f0)).setIfInBounds (1 + n * 3 + 1) (.int .u64 u.f1)).setIfInBounds (1 + n * 3 + 2) (.int .i64 u.f2) = rollCells (R.setK n u) := by
  apply Array.ext_getElem?
  intro i
  simp only [Array.getElem?_setIfInBounds, Array.size_setIfInBounds, roll_size, roll_get]
  by_cases h : i < 194
  · rw [if_pos h, if_pos h]
    unfold rollAt RollS.setK
    by_cases e2 : 1 + n * 3 + 2 = i
    · rw [if_pos e2, if_pos (by omega), if_neg (by omega), if_neg (by omega), show (i - 1) % 3 = 2 from by omega]
      dsimp only
      rw [if_pos (show (i - 1) / 3 = n by omega)]
      rfl
    · rw [if_neg e2]
      by_cases e1 : 1 + n * 3 + 1 = i
      · rw [if_pos e1, if_pos (by omega), if_neg (by omega), if_neg (by omega), show (i - 1) % 3 = 1 from by omega]
        dsimp only
        rw [if_pos (show (i - 1) / 3 = n by omega)]
        rfl
      · rw [if_neg e1]
        by_cases e0 : 1 + n * 3 = i
        · rw [if_pos e0, if_pos (by omega), if_neg (by omega), if_neg (by omega), show (i - 1) % 3 = 0 from by omega]
          dsimp only
          rw [if_pos (show (i - 1) / 3 = n by omega)]
          rfl
        · rw [if_neg e0]
          by_cases z : i = 0
          · rw [if_pos z, if_pos z]
          · rw [if_neg z, if_neg z]
            by_cases y : i = 193
            · rw [if_pos y, if_pos y]
            · rw [if_neg y, if_neg y]
              dsimp only
              rw [if_neg (show ¬ (i - 1) / 3 = n by omega)]
  · rw [if_neg h, if_neg h, if_neg (by omega), if_neg (by omega), if_neg (by omega)]
theorem roll_setHas (R : RollS) (h : Nat) : (rollCells R).setIfInBounds 193 (.int .u64 h) = rollCells { R with has := h } := by
  apply Array.ext_getElem?
  intro i
  simp only [Array.getElem?_setIfInBounds, roll_size, roll_get]
  by_cases e : 193 = i
  · subst e
    rfl
  · rw [if_neg e]
    unfold rollAt
    by_cases h1 : i < 194
    · rw [if_pos h1, if_pos h1]
      by_cases z : i = 0
      · rw [if_pos z, if_pos z]
      · rw [if_neg z, if_neg z, if_neg (by omega), if_neg (by omega)]
    · rw [if_neg h1, if_neg h1]
/-- block g is the roll R -/
def RollB (w : World) (g : Nat) (R : RollS) : Prop := w.heap[g]? = some (.cells (rollCells R) 57 (0, 0))
theorem RollB.cell {w : World} {g : Nat} {R : RollS} (h : RollB w g R) (i : Nat) (hi : i < 194) : w.cell? ⟨g, i, none⟩ = some (rollAt R i) := by
  have := blk_cell h i
  rw [this, roll_get, if_pos hi]
theorem RollB.me {w : World} {g : Nat} {R : RollS} (h : RollB w g R) : w.cell? ⟨g, 0, none⟩ = some (.int .i64 R.me) := h.cell 0 (by decide)
theorem RollB.has {w : World} {g : Nat} {R : RollS} (h : RollB w g R) : w.cell? ⟨g, 193, none⟩ = some (.int .u64 R.has) := h.cell 193 (by decide)
theorem RollB.k0 {w : World} {g : Nat} {R : RollS} (h : RollB w g R) (n : Nat) (hn : n < 64) : w.cell? ⟨g, 1 + n * 3, none⟩ = some (.int .i64 (R.K n).f0) := by
  rw [h.cell _ (by omega)]; unfold rollAt; rw [if_neg (by omega), if_neg (by omega), show (1 + n * 3 - 1) % 3 = 0 from by omega, show (1 + n * 3 - 1) / 3 = n from by omega]; rfl
theorem RollB.k1 {w : World} {g : Nat} {R : RollS} (h : RollB w g R) (n : Nat) (hn : n < 64) : w.cell? ⟨g, 1 + n * 3 + 1, none⟩ = some (.int .u64 (R.K n).f1) := by
  rw [h.cell _ (by omega)]; unfold rollAt; rw [if_neg (by omega), if_neg (by omega), show (1 + n * 3 + 1 - 1) % 3 = 1 from by omega, show (1 + n * 3 + 1 - 1) / 3 = n from by omega]; rfl
theorem RollB.k2 {w : World} {g : Nat} {R : RollS} (h : RollB w g R) (n : Nat) (hn : n < 64) : w.cell? ⟨g, 1 + n * 3 + 2, none⟩ = some (.int .i64 (R.K n).f2) := by
  rw [h.cell _ (by omega)]; unfold rollAt; rw [if_neg (by omega), if_neg (by omega), show (1 + n * 3 + 2 - 1) % 3 = 2 from by omega, show (1 + n * 3 + 2 - 1) / 3 = n from by omega]; rfl
attribute [irreducible] rollCells
theorem RollB.below {w W : World} {g : Nat} {R : RollS} (h : RollB w g R) (hb : Below w.heap.size w W) : RollB W g R := blk_below h hb
end Go.Proofs.YtkkcnhfbcophiaaDoor.B
