/- Of three texts of one length, whose bytes come to a fourth one, the sums do, too: for all texts. -/
import Derived.Test.YtkbjbpgclhlmpaaB3
import Derived.Test.YtkbjbpgclhlmpaaPlain
namespace Go.Proofs.Ytkbjbpgclhlmpaa.Pure
open Go.RowKit Go.Proofs.Ytkbjbpgclhlmpaa.B Go.Proofs.YtkbjbpgclhlmpaaW.PrintWords Go.Proofs.YtkbjbpgclhlmpaaW.PrintLast

/-- the bytes of three texts, one with the other -/
def x3 : List UInt8 → List UInt8 → List UInt8 → List UInt8
  | a :: xs, b :: bs, c :: cs => (a ^^^ b ^^^ c) :: x3 xs bs cs
  | _, _, _ => []
theorem x3_snoc (a b c : UInt8) : ∀ (xs bs cs : List UInt8), xs.length = bs.length → bs.length = cs.length → x3 (xs ++ [a]) (bs ++ [b]) (cs ++ [c]) = x3 xs bs cs ++ [a ^^^ b ^^^ c]
  | [], [], [], _, _ => rfl
  | x :: xs, y :: bs, z :: cs, h1, h2 => by
    simp only [List.cons_append, x3]
    rw [x3_snoc a b c xs bs cs (by simpa using h1) (by simpa using h2)]
  | [], _ :: _, _, h, _ => by simp at h
  | _ :: _, [], _, h, _ => by simp at h
  | [], [], _ :: _, _, h => by simp at h
  | _ :: _, _ :: _, [], _, h => by simp at h
theorem feed3 (x y z : Nat) (a b c : UInt8) : Crc.feed (x ^^^ y ^^^ z) (a ^^^ b ^^^ c).toNat = Crc.feed x a.toNat ^^^ Crc.feed y b.toNat ^^^ Crc.feed z c.toNat := by
  unfold Crc.feed
  rw [← Crc.steps_xor, ← Crc.steps_xor, UInt8.toNat_xor, UInt8.toNat_xor]
  congr 1
  ac_rfl
theorem run3 : ∀ (xs bs cs : List UInt8) (x y z : Nat), xs.length = bs.length → bs.length = cs.length → Crc.run (x3 xs bs cs) (x ^^^ y ^^^ z) = Crc.run xs x ^^^ Crc.run bs y ^^^ Crc.run cs z
  | [], [], [], _, _, _, _, _ => rfl
  | a :: xs, b :: bs, c :: cs, x, y, z, h1, h2 => by
    show Crc.run (x3 xs bs cs) (Crc.feed (x ^^^ y ^^^ z) (a ^^^ b ^^^ c).toNat) = _
    rw [feed3, run3 xs bs cs _ _ _ (by simpa using h1) (by simpa using h2)]
    rfl
  | [], _ :: _, _, _, _, _, h, _ => by simp at h
  | _ :: _, [], _, _, _, _, h, _ => by simp at h
  | [], [], _ :: _, _, _, _, _, h => by simp at h
  | _ :: _, _ :: _, [], _, _, _, _, h => by simp at h
theorem sum3 (xs bs cs : List UInt8) (h1 : xs.length = bs.length) (h2 : bs.length = cs.length) : Crc.sum xs ^^^ Crc.sum bs ^^^ Crc.sum cs = Crc.sum (x3 xs bs cs) := by
  have h := run3 xs bs cs 4294967295 4294967295 4294967295 h1 h2
  rw [Nat.xor_self, Nat.zero_xor] at h
  unfold Crc.sum
  rw [h]
  obtain ⟨p, hp⟩ : ∃ p : Nat, p = 4294967295 := ⟨_, rfl⟩
  rw [← hp]
  obtain ⟨u, hu⟩ : ∃ u, u = Crc.run xs p := ⟨_, rfl⟩
  obtain ⟨v, hv⟩ : ∃ v, v = Crc.run bs p := ⟨_, rfl⟩
  obtain ⟨t, ht⟩ : ∃ t, t = Crc.run cs p := ⟨_, rfl⟩
  rw [← hu, ← hv, ← ht, Crc.xor_cancel, Nat.xor_assoc, Nat.xor_assoc, Nat.xor_assoc]
theorem nums_snoc (l : List Int) (n : Int) : (strOfNums (l ++ [n])).data.toList = (strOfNums l).data.toList ++ [UInt8.ofNat n.toNat] := by
  rw [strOfNums_data, strOfNums_data, List.map_append]
  rfl
theorem byte3 (a b c : UInt8) : UInt8.ofNat (Go.bits .xor .u8 (Go.bits .xor .u8 (a.toNat : Int) (b.toNat : Int)) (c.toNat : Int)).toNat = a ^^^ b ^^^ c := by
  have ha := a.toNat_lt
  have hb := b.toNat_lt
  have hc := c.toNat_lt
  rw [u8_xor_nat a.toNat b.toNat (by omega) (by omega), u8_xor_nat (a.toNat ^^^ b.toNat) c.toNat (Nat.xor_lt_two_pow (n := 8) (by omega) (by omega)) (by omega), Int.toNat_natCast]
  apply UInt8.toNat_inj.1
  rw [UInt8.toNat_xor, UInt8.toNat_xor]
  have : a.toNat ^^^ b.toNat ^^^ c.toNat < 2 ^ 8 := Nat.xor_lt_two_pow (Nat.xor_lt_two_pow (by omega) (by omega)) (by omega)
  simp
theorem take_snoc {α : Type} (l : List α) (i : Nat) (h : i < l.length) : l.take (i + 1) = l.take i ++ [l[i]] := List.take_succ_eq_append_getElem h
theorem linear_run (a b c : ByteArray) (n : Nat) (hn : n ≤ 500) (ha : n ≤ a.size) (hb : n ≤ b.size) (hc : n ≤ c.size) : ∀ (d k i : Nat) (l : List Int), i + d = n → l.length = i →
    (strOfNums l).data.toList = x3 (a.data.toList.take i) (b.data.toList.take i) (c.data.toList.take i) →
    conventiclelaw02_GuardLinear.l0 (k + d + 1) a b c n l i = some true := by
  have la := data_length a
  have lb := data_length b
  have lc := data_length c
  intro d
  induction d with
  | zero =>
    intro k i l hi hll hl
    obtain rfl : i = n := by omega
    have ea := cut_list a i
    have eb := cut_list b i
    have ec := cut_list c i
    have za := cut_size a i ha
    have zb := cut_size b i hb
    have zc := cut_size c i hc
    have zl := strOfNums_size l
    have q1 := sum_run (a.extract 0 i) (by omega)
    have q2 := sum_run (b.extract 0 i) (by omega)
    have q3 := sum_run (c.extract 0 i) (by omega)
    have q4 := sum_run (strOfNums l) (by omega)
    rw [ea] at q1
    rw [eb] at q2
    rw [ec] at q3
    rw [hl] at q4
    have hs := sum3 (a.data.toList.take i) (b.data.toList.take i) (c.data.toList.take i) (by rw [List.length_take, List.length_take]; omega) (by rw [List.length_take, List.length_take]; omega)
    have hX : Go.bits .xor .u32 (Go.bits .xor .u32 (Crc.sum (a.data.toList.take i) : Int) (Crc.sum (b.data.toList.take i) : Int)) (Crc.sum (c.data.toList.take i) : Int) = (Crc.sum (x3 (a.data.toList.take i) (b.data.toList.take i) (c.data.toList.take i)) : Int) := by
      rw [xor32 _ _ (Crc.sum_lt _) (Crc.sum_lt _), xor32 _ _ (Nat.xor_lt_two_pow (n := 32) (Crc.sum_lt _) (Crc.sum_lt _)) (Crc.sum_lt _), hs]
    simp only [conventiclelaw02_GuardLinear.l0]
    rw [if_neg (by omega), if_pos (by omega), if_pos (by omega), Int.toNat_natCast, q1, Option.bind_some, if_pos (by omega), q2, Option.bind_some, if_pos (by omega), q3, Option.bind_some, q4, Option.bind_some, hX, beq_self_eq_true]
  | succ d ih =>
    intro k i l hi hll hl
    have h := ih k (i + 1) (l ++ [Go.bits .xor .u8 (Go.bits .xor .u8 (bt a i) (bt b i)) (bt c i)]) (by omega) (by simp [hll]) (by
      rw [nums_snoc, hl, take_snoc _ i (by omega), take_snoc _ i (by omega), take_snoc _ i (by omega), x3_snoc _ _ _ _ _ _ (by rw [List.length_take, List.length_take]; omega) (by rw [List.length_take, List.length_take]; omega),
        bt_is a i (by omega), bt_is b i (by omega), bt_is c i (by omega), byte3])
    obtain ⟨kk, hkk⟩ : ∃ kk, kk = k + d + 1 := ⟨_, rfl⟩
    rw [← hkk] at h
    rw [show k + (d + 1) + 1 = kk + 1 by omega]
    simp only [conventiclelaw02_GuardLinear.l0]
    rw [if_pos (by omega), if_pos (by omega), if_pos (by omega), if_pos (by omega), if_pos (by omega), if_pos (by omega), wrap_is _ (by omega)]
    exact h
theorem GuardLinear : conventiclelaw02_GuardLinear.Pure := by
  intro a b c _ _ _
  obtain ⟨m, hm⟩ : ∃ m : Nat, (m : Int) = mn (mn (a.size : Int) (b.size : Int)) (c.size : Int) := by
    refine ⟨(mn (mn (a.size : Int) (b.size : Int)) (c.size : Int)).toNat, ?_⟩
    unfold mn
    split <;> split <;> omega
  have h1 : m ≤ a.size ∧ m ≤ b.size ∧ m ≤ c.size := by
    unfold mn at hm
    split at hm <;> split at hm <;> omega
  refine ⟨(0 + m + 1) + 1, ?_⟩
  unfold conventiclelaw02_GuardLinear.f
  rw [← hm]
  by_cases h : (m : Int) > 500
  · rw [if_pos h]
    obtain ⟨kk, hkk⟩ : ∃ kk, kk = 0 + m + 1 := ⟨_, rfl⟩
    rw [← hkk]
    simp only [conventiclelaw02_GuardLinear.j0, if_true, shown_run, Option.bind_some]
  · rw [if_neg h, shown_run, Option.bind_some]
    have := linear_run a b c m (by omega) h1.1 h1.2.1 h1.2.2 m 0 0 [] (by omega) rfl (by simp [strOfNums, x3])
    obtain ⟨kk, hkk⟩ : ∃ kk, kk = 0 + m + 1 := ⟨_, rfl⟩
    rw [← hkk] at this ⊢
    simp only [conventiclelaw02_GuardLinear.j0, Bool.not_true, Bool.false_eq_true, if_false]
    exact this
end Go.Proofs.Ytkbjbpgclhlmpaa.Pure
