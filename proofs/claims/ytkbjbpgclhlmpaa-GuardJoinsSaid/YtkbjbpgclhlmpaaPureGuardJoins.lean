/- The sum of two texts, one behind the other, is joined of theirs: for all texts and numbers. -/
import Derived.Test.YtkbjbpgclhlmpaaPureGuardParts
namespace Go.Proofs.Ytkbjbpgclhlmpaa.Pure
open Go.RowKit Go.Proofs.Ytkbjbpgclhlmpaa.B Go.Proofs.YtkbjbpgclhlmpaaW.PrintWords Go.Proofs.YtkbjbpgclhlmpaaW.PrintLast

theorem rj1_run (b n i : Int) : ∀ (e k m : Nat), e ≤ 8 → m < 4294967296 → conventicleref02_Join.l1 (k + e + 1) m b n i ((8 - e : Nat) : Int) = conventicleref02_Join.l0 k (Crc.steps e m : Int) b n (wrap64 (i + 1)) := by
  intro e
  induction e with
  | zero =>
    intro k m _ _
    simp only [conventicleref02_Join.l1]
    rw [if_neg (by omega)]
    rfl
  | succ e ih =>
    intro k m he hm
    have h := ih k (Crc.step m) (by omega) (Crc.step_lt m hm)
    obtain ⟨kk, hkk⟩ : ∃ kk, kk = k + e + 1 := ⟨_, rfl⟩
    rw [← hkk] at h
    rw [show k + (e + 1) + 1 = kk + 1 by omega]
    simp only [conventicleref02_Join.l1]
    rw [if_pos (by omega), rstep m hm, Option.bind_some, wrap_is _ (by omega), show ((8 - (e + 1) : Nat) : Int) + 1 = ((8 - e : Nat) : Int) by omega, h]
    rfl
theorem rj0_run (B : Nat) (hB : B < 4294967296) (n : Int) (hn : n < 9223372036854775807) : ∀ (d k i m : Nat), d = (n - i).toNat → m < 4294967296 →
    conventicleref02_Join.l0 (k + 10 * d + 1) m B n i = some ((Crc.steps (8 * d) m ^^^ B : Nat) : Int) := by
  intro d
  induction d with
  | zero =>
    intro k i m hi hm
    simp only [conventicleref02_Join.l0]
    rw [if_neg (by omega), xor32 m B hm hB]
    rfl
  | succ d ih =>
    intro k i m hi hm
    have h := rj1_run B n i 8 (k + 10 * d + 1) m (Nat.le_refl _) hm
    rw [show k + 10 * (d + 1) + 1 = ((k + 10 * d + 1) + 8 + 1) + 1 by omega]
    obtain ⟨kk, hkk⟩ : ∃ kk, kk = (k + 10 * d + 1) + 8 + 1 := ⟨_, rfl⟩
    rw [← hkk] at h ⊢
    simp only [conventicleref02_Join.l0]
    rw [if_pos (by omega)]
    refine Eq.trans h ?_
    rw [wrap_is _ (by omega), show ((i : Int) + 1) = ((i + 1 : Nat) : Int) by omega, ih k (i + 1) _ (by omega) (Crc.steps_lt 8 _ hm), ← Crc.steps_add, show 8 + 8 * d = 8 * (d + 1) by omega]
theorem rjoin_run (A B : Nat) (hA : A < 4294967296) (hB : B < 4294967296) (n : Int) (hn : n < 1000) (k : Nat) (h0 : -9223372036854775808 ≤ n) : conventicleref02_Join.f (k + 10001) A B n = guard_Join.f A B n := by
  rw [join_run A B n hA hB h0 (by omega)]
  have := rj0_run B hB n (by omega) n.toNat (k + (10000 - 10 * n.toNat)) 0 A (by omega) hA
  rw [show k + (10000 - 10 * n.toNat) + 10 * n.toNat + 1 = k + 10001 by omega] at this
  exact this
theorem sum_append (s t : List UInt8) : Crc.steps (8 * t.length) (Crc.sum s) ^^^ Crc.sum t = Crc.sum (s ++ t) := by
  unfold Crc.sum
  rw [Crc.run_append]
  have h := Crc.run_xor t 4294967295 (Crc.run s 4294967295 ^^^ 4294967295)
  rw [show (4294967295 : Nat) ^^^ (Crc.run s 4294967295 ^^^ 4294967295) = Crc.run s 4294967295 by rw [Nat.xor_comm (Crc.run s 4294967295), ← Nat.xor_assoc, Nat.xor_self, Nat.zero_xor]] at h
  rw [h, ← Nat.xor_assoc, Nat.xor_comm (Crc.steps _ _)]
theorem wf_i16 {n : Int} (hn : (Lit.int .i16 n).wf = true) : -32768 ≤ n ∧ n ≤ 32767 := by
  simp [Lit.wf, IntKind.min, IntKind.max, IntKind.signed, IntKind.bits] at hn; omega
theorem sums_is (s t : ByteArray) : ((Crc.steps (8 * (t.size : Int).toNat) (Crc.sum s.data.toList) ^^^ Crc.sum t.data.toList : Nat) : Int) = (Crc.sum (s ++ t).data.toList : Int) := by
  rw [ByteArray.data_append, Array.toList_append, ← sum_append, Int.toNat_natCast, data_length]
theorem body_run (k : Nat) (s t : ByteArray) (A B : Nat) (n : Int) (hA : A < 4294967296) (hB : B < 4294967296) (n0 : -32768 ≤ n ∧ n ≤ 32767) (h1 : s.size ≤ 1000) (h2 : t.size ≤ 1000) :
    conventiclelaw02_GuardJoins.j0 (k + 10001 + 1) s t A B n false = some true := by
  have hz : (s ++ t).size = s.size + t.size := ByteArray.size_append
  have hm : Int.tmod n 300 < 300 := Int.tmod_lt_of_pos _ (by omega)
  have hm2 : -300 < Int.tmod n 300 := Int.lt_tmod_of_pos _ (by omega)
  have q1 := sum_run s (by omega)
  have q2 := sum_run t (by omega)
  have q3 := sum_run (s ++ t) (by omega)
  have q4 := join_run (Crc.sum s.data.toList) (Crc.sum t.data.toList) (t.size : Int) (Crc.sum_lt _) (Crc.sum_lt _) (by omega) (by omega)
  have q5 := join_run A B (Int.tmod n 300) hA hB (by omega) (by omega)
  have q6 := rjoin_run A B hA hB (Int.tmod n 300) (by omega) k (by omega)
  have q7 : s.size + t.size ≤ 9223372036854775807 := by omega
  obtain ⟨kk, hkk⟩ : ∃ kk, kk = k + 10001 := ⟨_, rfl⟩
  rw [← hkk] at q6 ⊢
  simp only [conventiclelaw02_GuardJoins.j0, Bool.false_eq_true, if_false]
  rw [wrap_is n (by omega), q1, Option.bind_some, q2, Option.bind_some, q4, Option.bind_some, if_pos q7, q3, Option.bind_some, if_pos (sums_is s t), q6, q5, Option.bind_some, Option.bind_some, beq_self_eq_true]
theorem joins_run (kk k : Nat) (hkk : kk = k + 10001) (s t : ByteArray) (a b n : Int) (ha : (Lit.int .u32 a).wf = true) (hb : (Lit.int .u32 b).wf = true) (hn : (Lit.int .i16 n).wf = true) : conventiclelaw02_GuardJoins.f (kk + 1) s t a b n = some true := by
  obtain ⟨a0, a1⟩ := wf_u32 ha
  obtain ⟨b0, b1⟩ := wf_u32 hb
  have n0 := wf_i16 hn
  obtain ⟨A, rfl⟩ := Int.eq_ofNat_of_zero_le a0
  obtain ⟨B, rfl⟩ := Int.eq_ofNat_of_zero_le b0
  unfold conventiclelaw02_GuardJoins.f
  by_cases h1 : (s.size : Int) > 1000
  · rw [if_pos h1]
    simp only [conventiclelaw02_GuardJoins.j0, if_true, shown_run, Option.bind_some]
  · rw [if_neg h1]
    by_cases h2 : (t.size : Int) > 1000
    · rw [if_pos h2]
      simp only [conventiclelaw02_GuardJoins.j0, if_true, shown_run, Option.bind_some]
    · rw [if_neg h2, shown_run, Option.bind_some]
      rw [hkk]
      exact body_run k s t A B n (by omega) (by omega) n0 (by omega) (by omega)
theorem GuardJoins : conventiclelaw02_GuardJoins.Pure := fun s t a b n _ _ ha hb hn => ⟨_, joins_run _ 0 rfl s t a b n ha hb hn⟩
end Go.Proofs.Ytkbjbpgclhlmpaa.Pure
