/- What has no room for a sum is too short; what has just that is nothing, sealed: for every text. -/
import Derived.Test.YtkbjbpgclhlmpaaB2
import Derived.Test.YtkbjbpgclhlmpaaPlain
namespace Go.Proofs.Ytkbjbpgclhlmpaa.Pure
open Go.RowKit Go.Proofs.Ytkbjbpgclhlmpaa.B Go.Proofs.YtkbjbpgclhlmpaaW.PrintWords Go.Proofs.YtkbjbpgclhlmpaaW.PrintLast

theorem GuardShort : conventiclelaw02_GuardShort.Pure := by
  intro s _
  refine ⟨0 + 1, ?_⟩
  unfold conventiclelaw02_GuardShort.f
  by_cases h : (s.size : Int) > 300
  · rw [if_pos h]
    simp only [conventiclelaw02_GuardShort.j0, if_true, shown_run, Option.bind_some]
  · rw [if_neg h, shown_run, Option.bind_some]
    simp only [conventiclelaw02_GuardShort.j0, Bool.not_true, Bool.false_eq_true, if_false]
    have he := open_seal (⟨#[]⟩ : ByteArray) (by decide)
    have hs := seal_run (⟨#[]⟩ : ByteArray) (by decide)
    rw [open_run s (by omega), hs]
    simp only [Option.bind_some]
    rw [he, seal_run s (by omega)]
    simp only [Option.bind_some]
    have hz : (s ++ four (Crc.sum s.data.toList)).size = s.size + 4 := by rw [ByteArray.size_append, four_size]
    have hnil : (⟨#[]⟩ : ByteArray).toList = [] := by rw [ByteArray.toList_eq]
    rw [hz, wrap_is _ (by omega)]
    by_cases h4 : s.size < 4
    · rw [if_pos h4]
      have h4' : (s.size : Int) < 4 := by omega
      simp [h4', hnil]
    · rw [if_neg h4]
      have h4' : ¬ (s.size : Int) < 4 := by omega
      split
      · simp [h4']
      · simp [h4']
end Go.Proofs.Ytkbjbpgclhlmpaa.Pure
