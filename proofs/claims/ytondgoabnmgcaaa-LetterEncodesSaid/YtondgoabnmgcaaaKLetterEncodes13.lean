/- Texts of this claim, one behind the other (joined by pack.py): OReadNum OReadRef. -/
import Derived.Test.YtondgoabnmgcaaaKLetterEncodes11
import Derived.Laws.BitsAllLaws
import Derived.Test.YtondgoabnmgcaaaKLetterEncodes7
section
/- By hand: what a reader reads as a number, in plain Lean (over the printed function). -/
namespace Go.Proofs.YtondgoabnmgcaaaO.R
open Go.RowKit Go.Proofs.YtondgoabnmgcaaaW.PrintWords Go.Proofs.YtondgoabnmgcaaaW.PrintLast Go.Proofs.YtondgoabnmgcaaaW.PrintMore Go.Proofs.YtondgoabnmgcaaaO.B

theorem or_byte (a b : Int) (h0 : 0 ≤ a) (h1 : a < 72057594037927936) (h2 : 0 ≤ b) (h3 : b < 256) : Go.bits .or .u64 (IntKind.u64.wrap (a * 256)) (IntKind.u64.wrap b) = b + 256 * a := by
  obtain ⟨A, rfl⟩ := Int.eq_ofNat_of_zero_le h0
  obtain ⟨B, rfl⟩ := Int.eq_ofNat_of_zero_le h2
  rw [IntKind.wrap_u64, IntKind.wrap_u64, Int.emod_eq_of_lt (by omega) (by omega), Int.emod_eq_of_lt (by omega) (by omega)]
  have e : (A : Int) * 256 = ((A * 256 : Nat) : Int) := by omega
  rw [e, u64_or_nat _ _ (by omega) (by omega)]
  have h := Nat.shiftLeft_add_eq_or_of_lt (i := 8) (b := B) (by omega) A
  rw [Nat.shiftLeft_eq] at h
  have h' : A * 256 ||| B = A * 256 + B := by
    have : (2 : Nat) ^ 8 = 256 := by decide
    rw [this] at h
    exact h.symm
  rw [h']
  omega
/-- the number that i bytes from p on are -/
def rdv (s : ByteArray) : Nat → Nat → Int
  | _, 0 => 0
  | p, i + 1 => bt s p + 256 * rdv s (p + 1) i
theorem rdv_range (s : ByteArray) : ∀ i p, 0 ≤ rdv s p i ∧ rdv s p i < 256 ^ i
  | 0, p => by simp [rdv]
  | i + 1, p => by
    have h1 := rdv_range s i (p + 1)
    have h2 := bt_range s (p : Int)
    have e : (256 : Int) ^ (i + 1) = 256 * 256 ^ i := by rw [Int.pow_succ, Int.mul_comm]
    rw [rdv, e]
    omega
theorem pow_le8 (i : Nat) (h : i < 8) : (256 : Int) ^ i ≤ 72057594037927936 := by
  have hk : i = 0 ∨ i = 1 ∨ i = 2 ∨ i = 3 ∨ i = 4 ∨ i = 5 ∨ i = 6 ∨ i = 7 := by omega
  rcases hk with rfl | rfl | rfl | rfl | rfl | rfl | rfl | rfl <;> decide
theorem l0_run (s : ByteArray) (a W : Nat) (hW : W ≤ 8) (ha : a ≤ s.size) (hs : s.size < 4611686018427387904) (hWa : W ≤ a) : ∀ (r j : Nat), j + r = W →
    octet_Reader_Number.l0 (r + 1) W (rdv s (a - j) j) ((j : Int) + 1) s a = some (rdv s (a - W) W, 0, s, (a : Int))
  | 0, j, h => by
    have hj : j = W := by omega
    subst hj
    unfold octet_Reader_Number.l0
    rw [if_neg (by omega)]
  | r + 1, j, h => by
    unfold octet_Reader_Number.l0
    have hw : wrap64 ((a : Int) - ((j : Int) + 1)) = ((a - (j + 1) : Nat) : Int) := by unfold wrap64; omega
    have hw2 : wrap64 ((j : Int) + 1 + 1) = ((j + 1 : Nat) : Int) + 1 := by unfold wrap64; omega
    rw [if_pos (by omega), hw, if_pos (by omega), if_pos (by omega), hw2]
    have hr := rdv_range s j (a - j)
    have hp := pow_le8 j (by omega)
    have hb := bt_range s ((a - (j + 1) : Nat) : Int)
    rw [or_byte _ _ hr.1 (by omega) hb.1 (by omega)]
    have e : bt s ((a - (j + 1) : Nat) : Int) + 256 * rdv s (a - j) j = rdv s (a - (j + 1)) (j + 1) := by
      rw [rdv, show a - (j + 1) + 1 = a - j by omega]
    rw [e]
    exact l0_run s a W hW ha hs hWa r (j + 1) (by omega)
theorem num_ok (s : ByteArray) (p W : Nat) (h1 : 1 ≤ W) (h8 : W ≤ 8) (hs : s.size < 4611686018427387904) (h : p + W ≤ s.size) : octet_Reader_Number.f (W + 2) s p W = some (rdv s p W, 0, s, (p : Int) + W) := by
  unfold octet_Reader_Number.f
  rw [if_neg (by omega), decide_eq_false (show ¬ (W : Int) > 8 by omega)]
  show octet_Reader_Number.j0 ((W + 1) + 1) _ _ _ _ _ = _
  unfold octet_Reader_Number.j0
  dsimp only
  rw [if_neg (by decide)]
  unfold octet_Reader_Left.f
  rw [Option.bind_some]
  have hw : wrap64 ((s.size : Int) - (p : Int)) = (s.size : Int) - p := by unfold wrap64; omega
  have hw2 : wrap64 ((p : Int) + (W : Int)) = ((p + W : Nat) : Int) := by unfold wrap64; omega
  dsimp only
  rw [hw, if_neg (by omega), hw2]
  have := l0_run s (p + W) W h8 h hs (by omega) W 0 (by omega)
  rw [show p + W - W = p by omega] at this
  have e0 : rdv s (p + W - 0) 0 = 0 := rfl
  rw [e0] at this
  rw [Int.natCast_add] at this ⊢
  exact this
theorem num_short (s : ByteArray) (p W : Nat) (h1 : 1 ≤ W) (h8 : W ≤ 8) (hp : p ≤ s.size) (h : s.size < p + W) : octet_Reader_Number.f (W + 2) s p W = some (0, 10, s, (p : Int)) := by
  unfold octet_Reader_Number.f
  rw [if_neg (by omega), decide_eq_false (show ¬ (W : Int) > 8 by omega)]
  show octet_Reader_Number.j0 ((W + 1) + 1) _ _ _ _ _ = _
  unfold octet_Reader_Number.j0
  dsimp only
  rw [if_neg (by decide)]
  unfold octet_Reader_Left.f
  rw [Option.bind_some]
  have hw : wrap64 ((s.size : Int) - (p : Int)) = (s.size : Int) - p := by unfold wrap64; omega
  dsimp only
  rw [hw, if_pos (by omega)]
end Go.Proofs.YtondgoabnmgcaaaO.R
end
section
/- By hand: what the document's reader reads as a number, in plain Lean (over the printed function). -/
namespace Go.Proofs.YtondgoabnmgcaaaO.R
open Go.RowKit Go.Proofs.YtondgoabnmgcaaaW.PrintWords Go.Proofs.YtondgoabnmgcaaaW.PrintLast Go.Proofs.YtondgoabnmgcaaaW.PrintMore Go.Proofs.YtondgoabnmgcaaaO.B

end Go.Proofs.YtondgoabnmgcaaaO.R
end
