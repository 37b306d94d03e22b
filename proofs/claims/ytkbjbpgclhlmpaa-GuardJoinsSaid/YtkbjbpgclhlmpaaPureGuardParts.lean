/- Joined with nothing a sum stays; joining goes part by part: for all numbers. -/
import Derived.Test.YtkbjbpgclhlmpaaB2
import Derived.Test.YtkbjbpgclhlmpaaPlain
namespace Go.Proofs.Ytkbjbpgclhlmpaa.Pure
open Go.RowKit Go.Proofs.Ytkbjbpgclhlmpaa.B Go.Proofs.YtkbjbpgclhlmpaaW.PrintWords Go.Proofs.YtkbjbpgclhlmpaaW.PrintLast

theorem wf_u32 {a : Int} (h : (Lit.int .u32 a).wf = true) : 0 ≤ a ∧ a < 4294967296 := by
  simp [Lit.wf, IntKind.min, IntKind.max, IntKind.signed, IntKind.bits] at h; omega
theorem wf_u8 {a : Int} (h : (Lit.int .u8 a).wf = true) : 0 ≤ a ∧ a ≤ 255 := by
  simp [Lit.wf, IntKind.min, IntKind.max, IntKind.signed, IntKind.bits] at h; omega
theorem join_run (a b : Nat) (n : Int) (ha : a < 4294967296) (hb : b < 4294967296) (h0 : -9223372036854775808 ≤ n) (h1 : n < 9223372036854775808) :
    guard_Join.f a b n = some ((Crc.steps (8 * n.toNat) a ^^^ b : Nat) : Int) := by
  unfold guard_Join.f
  rw [if_pos (by omega)]
  simp
theorem GuardParts : conventiclelaw02_GuardParts.Pure := by
  intro a b c n m ha hb hc hn hm
  obtain ⟨a0, a1⟩ := wf_u32 ha
  obtain ⟨b0, b1⟩ := wf_u32 hb
  obtain ⟨c0, c1⟩ := wf_u32 hc
  have n0 := wf_u8 hn
  have m0 := wf_u8 hm
  obtain ⟨A, rfl⟩ := Int.eq_ofNat_of_zero_le a0
  obtain ⟨B, rfl⟩ := Int.eq_ofNat_of_zero_le b0
  obtain ⟨C, rfl⟩ := Int.eq_ofNat_of_zero_le c0
  obtain ⟨N, rfl⟩ := Int.eq_ofNat_of_zero_le n0.1
  obtain ⟨M, rfl⟩ := Int.eq_ofNat_of_zero_le m0.1
  have hA : A < 4294967296 := by omega
  have hB : B < 4294967296 := by omega
  have hC : C < 4294967296 := by omega
  unfold conventiclelaw02_GuardParts.f
  rw [wrap_is N (by omega), wrap_is M (by omega), wrap_is ((N : Int) + M) (by omega)]
  have j0 := join_run A 0 0 hA (by omega) (by omega) (by omega)
  rw [show ((0 : Nat) : Int) = 0 from rfl] at j0
  have j1 := join_run A B (-1) hA hB (by omega) (by omega)
  have j2 := join_run A B N hA hB (by omega) (by omega)
  have hx : Crc.steps (8 * N) A ^^^ B < 4294967296 := Nat.xor_lt_two_pow (n := 32) (Crc.steps_lt _ _ hA) hB
  have j3 := join_run (Crc.steps (8 * N) A ^^^ B) C M hx hC (by omega) (by omega)
  have j4 := join_run B C M hB hC (by omega) (by omega)
  have hy : Crc.steps (8 * M) B ^^^ C < 4294967296 := Nat.xor_lt_two_pow (n := 32) (Crc.steps_lt _ _ hB) hC
  have j5 := join_run A (Crc.steps (8 * M) B ^^^ C) ((N : Int) + M) hA hy (by omega) (by omega)
  rw [Int.toNat_natCast] at j2 j3 j4
  rw [show ((N : Int) + M).toNat = N + M by omega] at j5
  have e1 : ((Crc.steps (8 * (0 : Int).toNat) A ^^^ 0 : Nat) : Int) = (A : Int) := by rw [Nat.xor_zero]; rfl
  have e2 : ((Crc.steps (8 * (-1 : Int).toNat) A ^^^ B : Nat) : Int) = Go.bits .xor .u32 (A : Int) (B : Int) := by rw [xor32 A B hA hB]; rfl
  rw [j0, Option.bind_some, if_pos e1, j1, Option.bind_some, if_pos e2, j2, Option.bind_some, j3, Option.bind_some, j4, Option.bind_some, j5, Option.bind_some]
  have e3 : Crc.steps (8 * M) (Crc.steps (8 * N) A ^^^ B) ^^^ C = Crc.steps (8 * (N + M)) A ^^^ (Crc.steps (8 * M) B ^^^ C) := by
    rw [Crc.steps_xor, ← Crc.steps_add, Nat.xor_assoc, Nat.mul_add]
  rw [if_pos (by rw [e3]), shown_run]
  rfl
end Go.Proofs.Ytkbjbpgclhlmpaa.Pure
