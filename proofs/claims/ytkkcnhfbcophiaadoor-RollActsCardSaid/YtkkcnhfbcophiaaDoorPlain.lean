/- What rank's functions come to, in plain words (as at layer 6). -/
import Derived.Test.YtkkcnhfbcophiaaDoorB3
namespace Go.Proofs.YtkkcnhfbcophiaaDoor.Pure
open Go.RowKit Go.Proofs.YtkkcnhfbcophiaaDoor.B Go.Proofs.YtkkcnhfbcophiaaDoorW.PrintWords Go.Proofs.YtkkcnhfbcophiaaDoorW.PrintLast

/-- what is told with incarnation i0, state s0 counts more than with i1, s1 -/
def newer (i0 s0 i1 s1 : Int) : Bool := decide (i1 < i0 ∨ i0 = i1 ∧ s1 < s0)
def may (n s : Int) : Bool := decide (0 ≤ n ∧ n < 64 ∧ 0 ≤ s ∧ s ≤ 3)
theorem newer_iff {i0 s0 i1 s1 : Int} : newer i0 s0 i1 s1 = true ↔ (i1 < i0 ∨ i0 = i1 ∧ s1 < s0) := by unfold newer; simp
theorem newer_not {i0 s0 i1 s1 : Int} : newer i0 s0 i1 s1 = false ↔ ¬ (i1 < i0 ∨ i0 = i1 ∧ s1 < s0) := by unfold newer; simp
theorem may_iff {n s : Int} : may n s = true ↔ (0 ≤ n ∧ n < 64 ∧ 0 ≤ s ∧ s ≤ 3) := by unfold may; simp
theorem may_not {n s : Int} : may n s = false ↔ ¬ (0 ≤ n ∧ n < 64 ∧ 0 ≤ s ∧ s ≤ 3) := by unfold may; simp

theorem comp64 (a b : Int) : cmp_Compare_uint64.f a b = some (if a < b then -1 else if a > b then 1 else 0) := by
  unfold cmp_Compare_uint64.f cmp_isNaN_uint64.f
  simp only [bne_self_eq_false, Option.bind_some, Bool.false_eq_true, if_false]
  by_cases h : a < b
  · rw [if_pos h, if_pos h]
  · rw [if_neg h, if_neg h]
    by_cases h1 : a > b
    · rw [if_pos h1, if_pos h1]
    · rw [if_neg h1, if_neg h1]
theorem compi (a b : Int) : cmp_Compare_int.f a b = some (if a < b then -1 else if a > b then 1 else 0) := by
  unfold cmp_Compare_int.f cmp_isNaN_int.f
  simp only [bne_self_eq_false, Option.bind_some, Bool.false_eq_true, if_false]
  by_cases h : a < b
  · rw [if_pos h, if_pos h]
  · rw [if_neg h, if_neg h]
    by_cases h1 : a > b
    · rw [if_pos h1, if_pos h1]
    · rw [if_neg h1, if_neg h1]
theorem or_run (k : Nat) (x y : Int) : cmp_Or_int.f (k + 3) [x, y] = some (if x = 0 then y else x) := by
  unfold cmp_Or_int.f
  have r0 : rd [x, y] 0 = x := rfl
  have r1 : rd [x, y] 1 = y := rfl
  have w0 : wrap64 1 = 1 := by unfold wrap64; omega
  have w1 : wrap64 2 = 2 := by unfold wrap64; omega
  by_cases hx : x = 0
  · subst hx
    by_cases hy : y = 0
    · subst hy
      simp [cmp_Or_int.l0, r0, w0, w1, show rd [(0 : Int), 0] 1 = 0 from rfl]
    · simp [cmp_Or_int.l0, r0, r1, w0, hy]
  · simp [cmp_Or_int.l0, r0, hx]
theorem newer_run (k : Nat) (n0 i0 s0 n1 i1 s1 : Int) : rank_Newer.f (k + 3) n0 i0 s0 n1 i1 s1 = some (newer i0 s0 i1 s1) := by
  unfold rank_Newer.f rank_told_against.f
  rw [comp64, compi]
  simp only [Option.bind_some]
  rw [or_run]
  simp only [Option.bind_some, Option.some.injEq]
  unfold newer
  rw [decide_eq_decide]
  by_cases h : i0 < i1
  · rw [if_pos h]; simp; omega
  · rw [if_neg h]
    by_cases h1 : i0 > i1
    · rw [if_pos h1]; simp; omega
    · rw [if_neg h1]; simp only [if_true]
      by_cases h2 : s0 < s1
      · rw [if_pos h2]; omega
      · rw [if_neg h2]
        by_cases h3 : s0 > s1
        · rw [if_pos h3]; omega
        · rw [if_neg h3]; omega
theorem may_run (n i s : Int) : rank_May.f n i s = some (may n s) := by
  unfold rank_May.f rank_told_may.f may
  by_cases h0 : n ≥ 0
  · by_cases h1 : n < 64
    · by_cases h2 : s ≥ 0
      · simp [h0, h1, h2]
      · simp [h0, h1, h2]
    · simp [h0, h1]
  · simp [h0]
/-- what a refutation comes to: the incarnation, is it one, the error -/
def refute (me inc n i s : Int) : Int × Bool × Int :=
  if may n s = true ∧ n = me ∧ newer i s inc 0 = true then (if i = 18446744073709551615 then (inc, false, 60) else (i + 1, true, 0)) else (inc, false, 0)
theorem up_run (i : Int) (h0 : 0 ≤ i) (h1 : i ≤ 18446744073709551615) : rank_Up.f i = some (if i = 18446744073709551615 then (0, 60) else (i + 1, 0)) := by
  unfold rank_Up.f
  by_cases h : i = 18446744073709551615
  · rw [if_pos h, if_pos h]
  · rw [if_neg h, if_neg h]
    have : IntKind.u64.wrap (i + 1) = i + 1 := by rw [IntKind.wrap_u64]; omega
    rw [this]
theorem refute_run (k : Nat) (me inc n i s : Int) (h0 : 0 ≤ i) (h1 : i ≤ 18446744073709551615) : rank_Refute.f (k + 4) me inc n i s = some (refute me inc n i s) := by
  unfold rank_Refute.f refute
  rw [may_run]
  simp only [Option.bind_some]
  by_cases hm : may n s = true
  · rw [if_pos hm]
    by_cases hn : n = me
    · rw [if_pos hn, show k + 4 = (k + 1) + 3 from rfl, newer_run]
      simp only [Option.bind_some, rank_Refute.j0]
      by_cases hc : newer i s inc 0 = true
      · rw [if_neg (by simp [hc]), up_run i h0 h1, if_pos (show may n s = true ∧ n = me ∧ newer i s inc 0 = true from ⟨hm, hn, hc⟩)]
        by_cases hi : i = 18446744073709551615
        · simp [hi]
        · simp [hi]
      · rw [if_pos (by simp at hc; simp [hc]), if_neg (show ¬ (may n s = true ∧ n = me ∧ newer i s inc 0 = true) from fun h => hc h.2.2)]
    · rw [if_neg hn]
      simp only [rank_Refute.j0, if_true]
      rw [if_neg (show ¬ (may n s = true ∧ n = me ∧ newer i s inc 0 = true) from fun h => hn h.2.1)]
  · rw [if_neg hm]
    simp only [rank_Refute.j0, if_true]
    rw [if_neg (show ¬ (may n s = true ∧ n = me ∧ newer i s inc 0 = true) from fun h => hm h.1)]
theorem wf_u8 {a : Int} (h : (Lit.int .u8 a).wf = true) : 0 ≤ a ∧ a ≤ 255 := by
  simp [Lit.wf, IntKind.min, IntKind.max, IntKind.signed, IntKind.bits] at h; omega
theorem wf_u64 {a : Int} (h : (Lit.int .u64 a).wf = true) : 0 ≤ a ∧ a ≤ 18446744073709551615 := by
  simp [Lit.wf, IntKind.min, IntKind.max, IntKind.signed, IntKind.bits] at h; omega
theorem mod_u8 {a : Int} (h : 0 ≤ a ∧ a ≤ 255) (m : Int) : Int.tmod (wrap64 a) m = a % m := by
  rw [show wrap64 a = a by unfold wrap64; omega, Int.tmod_eq_emod_of_nonneg h.1]
end Go.Proofs.YtkkcnhfbcophiaaDoor.Pure
