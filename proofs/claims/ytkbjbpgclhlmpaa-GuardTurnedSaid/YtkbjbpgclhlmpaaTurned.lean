/- What was sealed, with some bits turned, is not opened. -/
import Derived.Test.YtkbjbpgclhlmpaaPlain
import Derived.Test.YtkbjbpgclhlmpaaBurst
namespace Go.Proofs.Ytkbjbpgclhlmpaa.Pure
open Go.RowKit Go.Proofs.Ytkbjbpgclhlmpaa.B Go.Proofs.YtkbjbpgclhlmpaaW.PrintWords Go.Proofs.YtkbjbpgclhlmpaaW.PrintLast

theorem ofNat_mod (m : Nat) (h : m < 256) : (UInt8.ofNat m).toNat = m := by
  simp [UInt8.toNat_ofNat']
  omega
theorem four_last (r n : Nat) (hn : n < 4294967296) : Crc.run (four n).data.toList r = Crc.steps 32 (r ^^^ n) := by
  have e0 : ((n : Int) % 256).toNat = n % 256 := by omega
  have e1 : ((n : Int) / 256 % 256).toNat = n / 256 % 256 := by omega
  have e2 : ((n : Int) / 65536 % 256).toNat = n / 65536 % 256 := by omega
  have e3 : ((n : Int) / 16777216 % 256).toNat = n / 16777216 % 256 := by omega
  have hl : (four n).data.toList = [UInt8.ofNat (n % 256), UInt8.ofNat (n / 256 % 256), UInt8.ofNat (n / 65536 % 256), UInt8.ofNat (n / 16777216 % 256)] := by
    unfold four
    rw [strOfNums_data]
    simp only [List.map_cons, List.map_nil, e0, e1, e2, e3]
  rw [hl]
  exact Crc.four_run r n hn _ _ _ _ (ofNat_mod _ (by omega)) (ofNat_mod _ (by omega)) (ofNat_mod _ (by omega)) (ofNat_mod _ (by omega))
theorem sealed_last (s : ByteArray) : Crc.run (s ++ four (Crc.sum s.data.toList)).data.toList 4294967295 = Crc.steps 32 4294967295 := by
  rw [ByteArray.data_append, Array.toList_append, Crc.run_append, four_last _ _ (Crc.sum_lt _)]
  congr 1
  unfold Crc.sum
  rw [← Nat.xor_assoc, Nat.xor_self, Nat.zero_xor]
theorem open_turned (t : ByteArray) (E : Nat) (h4 : 4 ≤ t.size) (hs : t.size ≤ 4000) (hr : Crc.run t.data.toList 4294967295 = Crc.steps 32 4294967295 ^^^ E) (hE : E ≠ 0) : guard_Open.f t = some ((⟨#[]⟩ : ByteArray), 20) := by
  rw [open_run t (by omega), if_neg (by omega), if_neg]
  intro h
  have hl := sealed_last (t.extract 0 (t.size - 4))
  rw [h, hr] at hl
  apply hE
  have := congrArg (Crc.steps 32 4294967295 ^^^ ·) hl
  simp only [← Nat.xor_assoc, Nat.xor_self, Nat.zero_xor] at this
  exact this
end Go.Proofs.Ytkbjbpgclhlmpaa.Pure
