/- What guard's functions, and the document's, come to, in plain words. -/
import Derived.Test.YtkbjbpgclhlmpaaB1
import Derived.Laws.BitsAllLaws
namespace Go.Proofs.Ytkbjbpgclhlmpaa.Pure
open Go.RowKit Go.Proofs.Ytkbjbpgclhlmpaa.B Go.Proofs.YtkbjbpgclhlmpaaW.PrintWords Go.Proofs.YtkbjbpgclhlmpaaW.PrintLast

theorem wrap_is (a : Int) (h : -9223372036854775808 ≤ a ∧ a < 9223372036854775808) : wrap64 a = a := by unfold wrap64; omega
theorem bt_is (s : ByteArray) (i : Nat) (h : i < s.data.toList.length) : bt s (i : Int) = ((s.data.toList[i]).toNat : Int) := by
  have h' : i < s.size := by rwa [data_length] at h
  unfold bt
  rw [dif_pos (by simpa using h')]
  simp
  rfl
theorem sum_run (s : ByteArray) (h : s.size ≤ 9223372036854775807) : guard_Sum.f s = some (Crc.sum s.data.toList : Int) := by unfold guard_Sum.f; rw [if_pos h]
theorem sum9 : Crc.sum [49, 50, 51, 52, 53, 54, 55, 56, 57] = 3808858755 := by decide +kernel
theorem shown_run : conventiclelaw02_shown.f = some true := by
  unfold conventiclelaw02_shown.f
  rw [sum_run _ (by decide)]
  show some ((Crc.sum [49, 50, 51, 52, 53, 54, 55, 56, 57] : Int) == 3808858755) = some true
  rw [sum9]
  rfl
def four (n : Nat) : ByteArray := strOfNums [(n : Int) % 256, (n : Int) / 256 % 256, (n : Int) / 65536 % 256, (n : Int) / 16777216 % 256]
theorem four_size (n : Nat) : (four n).size = 4 := by unfold four; rw [strOfNums_size]; rfl
theorem seal_run (s : ByteArray) (h : s.size ≤ 9223372036854775803) : guard_Seal.f s = some (s ++ four (Crc.sum s.data.toList)) := by
  unfold guard_Seal.f
  rw [sum_run s (by omega)]
  simp only [Option.bind_some]
  have hf := four_size (Crc.sum s.data.toList)
  unfold four at hf
  rw [if_pos (by rw [hf]; omega)]
  rfl
theorem cut_size (s : ByteArray) (n : Nat) (h : n ≤ s.size) : (s.extract 0 n).size = n := by rw [ByteArray.size_extract]; omega
theorem cut_list (s : ByteArray) (n : Nat) : (s.extract 0 n).data.toList = s.data.toList.take n := by
  rw [ByteArray.data_extract, Array.toList_extract]
  simp
theorem rest_list (s : ByteArray) (n : Nat) : (s.extract n s.size).data.toList = s.data.toList.drop n := by
  rw [ByteArray.data_extract, Array.toList_extract]
  rw [show s.size = s.data.toList.length from (data_length s).symm]
  simp
  rw [List.take_of_length_le (by simp)]
theorem open_run (s : ByteArray) (h : s.size ≤ 9223372036854775803) : guard_Open.f s = some (if s.size < 4 then ((⟨#[]⟩ : ByteArray), 10) else if s.extract 0 (s.size - 4) ++ four (Crc.sum (s.extract 0 (s.size - 4)).data.toList) = s then (s.extract 0 (s.size - 4), 0) else ((⟨#[]⟩ : ByteArray), 20)) := by
  unfold guard_Open.f
  by_cases h4 : s.size < 4
  · rw [wrap_is _ (by omega), if_pos (by omega), if_pos h4]
  · rw [wrap_is _ (by omega), if_neg (by omega), if_pos (by omega), if_pos (by omega), if_neg h4]
    have e : ((s.size : Int) - 4).toNat = s.size - 4 := by omega
    rw [e, seal_run _ (by rw [cut_size _ _ (by omega)]; omega)]
    simp only [Option.bind_some]
    by_cases hq : s.extract 0 (s.size - 4) ++ four (Crc.sum (s.extract 0 (s.size - 4)).data.toList) = s
    · rw [if_pos hq, if_pos (by rw [hq])]
    · rw [if_neg hq, if_neg]
      intro hl
      rw [ByteArray.toList_eq, ByteArray.toList_eq] at hl
      exact hq (ByteArray.ext (Array.toList_inj.1 hl))
theorem rstep (n : Nat) (hn : n < 4294967296) : conventicleref02_Step.f (n : Int) = some (Crc.step n : Int) := by
  unfold conventicleref02_Step.f Crc.step
  rw [and1 n hn]
  by_cases h : n % 2 = 1
  · rw [if_pos (by omega), if_pos h, div2]
    have := xor32 (n / 2) 2197175160 (by omega) (by omega)
    rw [show ((2197175160 : Nat) : Int) = 2197175160 from rfl] at this
    rw [this]
    rfl
  · rw [if_neg (by omega), if_neg h, div2]
theorem l1_run (x0 : ByteArray) (i : Int) : ∀ (e k m : Nat), e ≤ 8 → m < 4294967296 → conventicleref02_Sum.l1 (k + e + 1) x0 m i ((8 - e : Nat) : Int) = conventicleref02_Sum.l0 k x0 (Crc.steps e m : Int) (wrap64 (i + 1)) := by
  intro e
  induction e with
  | zero =>
    intro k m _ _
    simp only [conventicleref02_Sum.l1]
    rw [if_neg (by omega)]
    rfl
  | succ e ih =>
    intro k m he hm
    have h := ih k (Crc.step m) (by omega) (Crc.step_lt m hm)
    obtain ⟨kk, hkk⟩ : ∃ kk, kk = k + e + 1 := ⟨_, rfl⟩
    rw [← hkk] at h
    rw [show k + (e + 1) + 1 = kk + 1 by omega]
    simp only [conventicleref02_Sum.l1]
    rw [if_pos (by omega), rstep m hm, Option.bind_some, wrap_is _ (by omega), show ((8 - (e + 1) : Nat) : Int) + 1 = ((8 - e : Nat) : Int) by omega, h]
    rfl
theorem l0_run (x0 : ByteArray) (hx : x0.size < 9223372036854775807) : ∀ (d k i m : Nat), i + d = x0.data.toList.length → m < 4294967296 →
    conventicleref02_Sum.l0 (k + 10 * d + 1) x0 m i = some ((Crc.run (x0.data.toList.drop i) m ^^^ 4294967295 : Nat) : Int) := by
  have hl := data_length x0
  intro d
  induction d with
  | zero =>
    intro k i m hi hm
    simp only [conventicleref02_Sum.l0]
    rw [if_neg (by omega), show i = x0.data.toList.length by omega, List.drop_length]
    have := xor32 m 4294967295 hm (by omega)
    rw [show ((4294967295 : Nat) : Int) = 4294967295 from rfl] at this
    rw [this]
    rfl
  | succ d ih =>
    intro k i m hi hm
    have hlt : i < x0.data.toList.length := by omega
    have hc := (x0.data.toList[i]).toNat_lt
    have hm' : m ^^^ (x0.data.toList[i]).toNat < 4294967296 := Nat.xor_lt_two_pow (n := 32) hm (by omega)
    have h := l1_run x0 i 8 (k + 10 * d + 1) (m ^^^ (x0.data.toList[i]).toNat) (Nat.le_refl _) hm'
    rw [show k + 10 * (d + 1) + 1 = ((k + 10 * d + 1) + 8 + 1) + 1 by omega]
    obtain ⟨kk, hkk⟩ : ∃ kk, kk = (k + 10 * d + 1) + 8 + 1 := ⟨_, rfl⟩
    rw [← hkk] at h ⊢
    simp only [conventicleref02_Sum.l0]
    rw [if_pos (by omega), if_pos (by omega), bt_is x0 i hlt, Int.emod_eq_of_lt (by omega) (by omega), xor32 m _ hm (by omega)]
    refine Eq.trans h ?_
    rw [wrap_is _ (by omega), show ((i : Int) + 1) = ((i + 1 : Nat) : Int) by omega, ih k (i + 1) _ (by omega) (Crc.steps_lt 8 _ hm'), List.drop_eq_getElem_cons hlt]
    rfl
theorem rsum_run (s : ByteArray) (hs : s.size ≤ 4000) (k : Nat) : conventicleref02_Sum.f (k + 40001) s = some (Crc.sum s.data.toList : Int) := by
  have hl := data_length s
  have := l0_run s (by omega) s.data.toList.length (k + (40000 - 10 * s.data.toList.length)) 0 4294967295 (by omega) (by omega)
  rw [show k + (40000 - 10 * s.data.toList.length) + 10 * s.data.toList.length + 1 = k + 40001 by omega] at this
  simpa [conventicleref02_Sum.f, Crc.sum] using this
theorem rfour_run (n : Nat) : conventicleref02_four.f (n : Int) = some (four n) := rfl
theorem rseal_run (s : ByteArray) (hs : s.size ≤ 4000) (k : Nat) : conventicleref02_Seal.f (k + 40001) s = some (s ++ four (Crc.sum s.data.toList)) := by
  unfold conventicleref02_Seal.f
  rw [rsum_run s hs, Option.bind_some, rfour_run, Option.bind_some, if_pos (by rw [four_size]; omega)]
theorem cut_is (s f : ByteArray) (n : Nat) : (s.extract 0 n ++ f = s) ↔ f.data.toList = (s.extract n s.size).data.toList := by
  rw [rest_list]
  have e : (s.extract 0 n ++ f = s) ↔ (s.data.toList.take n ++ f.data.toList = s.data.toList) := by
    constructor
    · intro h
      have := congrArg (fun x : ByteArray => x.data.toList) h
      simp only [ByteArray.data_append, Array.toList_append] at this
      rwa [cut_list] at this
    · intro h
      refine ByteArray.ext (Array.toList_inj.1 ?_)
      rw [ByteArray.data_append, Array.toList_append, cut_list]
      exact h
  rw [e]
  conv => lhs; rhs; rw [← List.take_append_drop n s.data.toList]
  exact ⟨List.append_cancel_left, fun h => by rw [h]⟩
theorem ropen_run (s : ByteArray) (hs : s.size ≤ 4000) (k : Nat) : conventicleref02_Open.f (k + 40001) s = guard_Open.f s := by
  rw [open_run s (by omega)]
  unfold conventicleref02_Open.f
  by_cases h4 : s.size < 4
  · rw [wrap_is _ (by omega), if_pos (by omega), if_pos h4]
  · rw [wrap_is _ (by omega), if_neg (by omega), if_pos (by omega), if_pos (by omega), if_neg h4]
    have e : ((s.size : Int) - 4).toNat = s.size - 4 := by omega
    rw [e, rsum_run _ (by rw [cut_size _ _ (by omega)]; omega), Option.bind_some, rfour_run, Option.bind_some, ByteArray.toList_eq, ByteArray.toList_eq]
    have hc := cut_is s (four (Crc.sum (s.extract 0 (s.size - 4)).data.toList)) (s.size - 4)
    by_cases hq : s.extract 0 (s.size - 4) ++ four (Crc.sum (s.extract 0 (s.size - 4)).data.toList) = s
    · rw [if_pos (hc.1 hq), if_pos hq]
    · rw [if_neg (fun h => hq (hc.2 h)), if_neg hq]
/-- what was sealed is opened -/
theorem open_seal (s : ByteArray) (h : s.size ≤ 9223372036854775000) : guard_Open.f (s ++ four (Crc.sum s.data.toList)) = some (s, 0) := by
  have hz : (s ++ four (Crc.sum s.data.toList)).size = s.size + 4 := by rw [ByteArray.size_append, four_size]
  rw [open_run _ (by omega), if_neg (by omega)]
  have e : (s ++ four (Crc.sum s.data.toList)).extract 0 ((s ++ four (Crc.sum s.data.toList)).size - 4) = s := by
    refine ByteArray.ext (Array.toList_inj.1 ?_)
    rw [cut_list, hz, ByteArray.data_append, Array.toList_append, show s.size + 4 - 4 = s.data.toList.length by rw [data_length]; omega, List.take_left']
    rfl
  rw [e, if_pos rfl]
end Go.Proofs.Ytkbjbpgclhlmpaa.Pure
