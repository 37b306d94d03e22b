/- A ballot's number is owned by its round and its node; of two nodes, and of two rounds, no two are the same; those of later rounds are above: for all numbers. -/
import Derived.Test.YtnlppniejeemlaaB3
namespace Go.Proofs.Ytnlppniejeemlaa.Pure
open Go.RowKit Go.Proofs.Ytnlppniejeemlaa.B Go.Proofs.YtnlppniejeemlaaW.PrintWords Go.Proofs.YtnlppniejeemlaaW.PrintLast

theorem wf_u32 {a : Int} (h : (Lit.int .u32 a).wf = true) : 0 ≤ a ∧ a ≤ 4294967295 := by
  simp [Lit.wf, IntKind.min, IntKind.max, IntKind.signed, IntKind.bits] at h; omega
theorem wf_u8 {a : Int} (h : (Lit.int .u8 a).wf = true) : 0 ≤ a ∧ a ≤ 255 := by
  simp [Lit.wf, IntKind.min, IntKind.max, IntKind.signed, IntKind.bits] at h; omega
theorem number_in (a n : Int) (h0 : 0 ≤ a) (h1 : a ≤ 4294967295) (h2 : 0 ≤ n) (h3 : n < 64) : ballot_Number.f a n = some (a * 64 + n + 1, 0) := by
  unfold ballot_Number.f
  rw [if_pos (by omega), if_neg (by omega), if_pos (by omega)]
theorem owner_of (a n : Int) (h0 : 0 ≤ a) (h1 : a ≤ 4294967295) (h2 : 0 ≤ n) (h3 : n < 64) : ballot_Owner.f (a * 64 + n + 1) = some (a, n, true) := by
  unfold ballot_Owner.f
  rw [if_neg (by omega)]
  have e : IntKind.u64.wrap (a * 64 + n + 1 - 1) = a * 64 + n := by rw [IntKind.wrap_u64]; omega
  rw [e, Int.tdiv_eq_ediv_of_nonneg (by omega), Int.tmod_eq_emod_of_nonneg (by omega)]
  have e1 : (a * 64 + n) / 64 = a := by omega
  have e2 : (a * 64 + n) % 64 = n := by omega
  rw [e1, e2]
  have e3 : IntKind.u64.wrap a = a := by rw [IntKind.wrap_u64]; omega
  have e4 : wrap64 n = n := by unfold wrap64; omega
  rw [e3, e4]

theorem BallotOwns : conventiclelaw16_BallotOwns.Pure := by
  intro a b x y ha hb hx hy
  obtain ⟨a0, a1⟩ := wf_u32 ha
  obtain ⟨b0, b1⟩ := wf_u32 hb
  obtain ⟨x0, x1⟩ := wf_u8 hx
  obtain ⟨y0, y1⟩ := wf_u8 hy
  clear ha hb hx hy
  have ea : IntKind.u64.wrap a = a := by rw [IntKind.wrap_u64]; omega
  have eb : IntKind.u64.wrap b = b := by rw [IntKind.wrap_u64]; omega
  have ex : Int.tmod (wrap64 x) 64 = x % 64 := by rw [show wrap64 x = x by unfold wrap64; omega, Int.tmod_eq_emod_of_nonneg x0]
  have ey : Int.tmod (wrap64 y) 64 = y % 64 := by rw [show wrap64 y = y by unfold wrap64; omega, Int.tmod_eq_emod_of_nonneg y0]
  have ex' : Int.tmod x 64 = x % 64 := Int.tmod_eq_emod_of_nonneg x0
  have ey' : Int.tmod y 64 = y % 64 := Int.tmod_eq_emod_of_nonneg y0
  unfold conventiclelaw16_BallotOwns.f
  rw [ea, eb, ex, ey, ex', ey', number_in a _ a0 a1 (by omega) (by omega), number_in b _ b0 b1 (by omega) (by omega)]
  simp only [Option.bind_some]
  rw [owner_of a _ a0 a1 (by omega) (by omega)]
  simp only [Option.bind_some, conventiclelaw16_shown.f, if_true]
  by_cases hab : a = b
  · subst hab
    rw [if_pos rfl]
    have h : ((a * 64 + x % 64 + 1 == a * 64 + y % 64 + 1) == (x % 64 == y % 64)) = true := by
      by_cases hxy : x % 64 = y % 64
      · simp [hxy]
      · have : ¬ a * 64 + x % 64 + 1 = a * 64 + y % 64 + 1 := by omega
        rw [beq_eq_false_iff_ne.2 this, beq_eq_false_iff_ne.2 hxy]
        rfl
    rw [if_pos h, if_pos (Int.le_refl _)]
  · rw [if_neg hab]
    have h : ((a * 64 + x % 64 + 1 == b * 64 + y % 64 + 1) == false) = true := by
      have : ¬ a * 64 + x % 64 + 1 = b * 64 + y % 64 + 1 := by omega
      simp [this]
    rw [if_pos h]
    by_cases hle : a ≤ b
    · rw [if_pos hle]
    · rw [if_neg hle]
      have : a * 64 + x % 64 + 1 > b * 64 + y % 64 + 1 := by omega
      rw [decide_eq_true this]
end Go.Proofs.Ytnlppniejeemlaa.Pure
