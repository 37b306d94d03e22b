/- OctetOrder, by hand. -/
import Derived.Test.YtaegblhfhgiapaaOrderWalks
import Derived.Laws.BitsAllLaws
namespace Go.Proofs.Ytaegblhfhgiapaa.R
open Go.RowKit Go.Proofs.YtaegblhfhgiapaaW.PrintWords Go.Proofs.YtaegblhfhgiapaaW.PrintLast Go.Proofs.YtaegblhfhgiapaaW.PrintMore Go.Proofs.Ytaegblhfhgiapaa.B

theorem str_snoc (xs : List Int) : strOfNums xs ++ ⟨#[0]⟩ = strOfNums (xs ++ [0]) := by
  apply ByteArray.ext
  apply Array.toList_inj.1
  rw [ByteArray.data_append, Array.toList_append, strOfNums_data, strOfNums_data, List.map_append]
  rfl
theorem le_more (k : Nat) (n : Int) (h0 : 0 ≤ n) (h : n < 256 ^ k) : le (k + 1) n = le k n ++ [0] := by
  rw [le_snoc, Int.ediv_eq_zero_of_lt h0 h]
  rfl
theorem and_mask (a k : Nat) (ha : a < 18446744073709551616) (hk : k < 8) : bits .and .u64 (a : Int) ((256 ^ k - 1 : Nat) : Int) = ((a % 256 ^ k : Nat) : Int) := by
  have hm : 256 ^ k - 1 < 18446744073709551616 := by
    have : 256 ^ k ≤ 256 ^ 7 := Nat.pow_le_pow_right (by decide) (by omega)
    omega
  rw [u64_and_nat a _ ha hm, show 256 ^ k = 2 ^ (8 * k) by rw [Nat.pow_mul], Nat.and_two_pow_sub_one_eq_mod]
theorem pow_cast (k : Nat) : ((256 ^ k : Nat) : Int) = (256 : Int) ^ k := by rw [Int.natCast_pow]; rfl
theorem lt_pow (k p : Nat) (h : p < 256 ^ k) : (p : Int) < 256 ^ k := by rw [← pow_cast]; exact Int.ofNat_lt.2 h
theorem order_facts (k : Nat) (hk : k < 8) (hk1 : 1 ≤ k) (p : Nat) (hp : p < 256 ^ k) : fits p k = true ∧ fits p ((k : Int) + 1) = true := by
  have h1 : (p : Int) / 256 ^ k = 0 := Int.ediv_eq_zero_of_lt (by omega) (lt_pow k p hp)
  have h2 : (p : Int) / 256 ^ (k + 1) = 0 := by
    rw [Int.pow_succ, ← Int.ediv_ediv_of_nonneg (Int.le_of_lt (Int.pow_pos (by decide))), h1]
    rfl
  constructor
  · simp only [fits, Int.toNat_natCast, h1]
    rw [decide_eq_true (by omega), decide_eq_true (by omega)]
    rfl
  · have e : ((k : Int) + 1).toNat = k + 1 := by omega
    simp only [fits, e, h2]
    rw [decide_eq_true (by omega), decide_eq_true (by omega)]
    rfl
theorem order_law (a b z : Int) (ha : (Lit.int .u64 a).wf = true) (hb : (Lit.int .u64 b).wf = true) (hz : (Lit.int .u8 z).wf = true) (w : World) :
    Calls Try.prog 3 #[.int .u64 a, .int .u64 b, .int .u8 z] w fun e w' => e = .returned (.bool true) ∧ Below w.heap.size w w' := by
  have a0 : 0 ≤ a ∧ a < 18446744073709551616 := by simp [Lit.wf, IntKind.min, IntKind.max, IntKind.signed, IntKind.bits] at ha; omega
  have b0 : 0 ≤ b ∧ b < 18446744073709551616 := by simp [Lit.wf, IntKind.min, IntKind.max, IntKind.signed, IntKind.bits] at hb; omega
  have z0 : 0 ≤ z ∧ z < 256 := by simp [Lit.wf, IntKind.min, IntKind.max, IntKind.signed, IntKind.bits] at hz; omega
  obtain ⟨a, rfl⟩ := Int.eq_ofNat_of_zero_le a0.1
  obtain ⟨b, rfl⟩ := Int.eq_ofNat_of_zero_le b0.1
  obtain ⟨z, rfl⟩ := Int.eq_ofNat_of_zero_le z0.1
  have go : ∀ (k p q : Nat), k < 8 → 1 ≤ k → p < 256 ^ k → q < 256 ^ k →
      ((strOfNums ([] ++ le k p)).size : Int) = k ∧ ((strOfNums ([] ++ le k p)).toList == (strOfNums ([] ++ le k q)).toList) = ((p : Int) == (q : Int)) ∧
      ((strOfNums ([] ++ le (k + 1) p)).toList == (strOfNums ([] ++ le k p) ++ ⟨#[0]⟩).toList) = true := by
    intro k p q _ _ hp hq
    have hp' : (p : Int) < 256 ^ k := lt_pow k p hp
    have hq' : (q : Int) < 256 ^ k := lt_pow k q hq
    refine ⟨by rw [strOfNums_size, List.nil_append, le_length], ?_, ?_⟩
    · rw [List.nil_append, List.nil_append, str_beq _ _ (le_byte k _) (le_byte k _), Bool.eq_iff_iff]
      simp only [decide_eq_true_eq, beq_iff_eq]
      exact ⟨fun h => le_inj k _ _ (by omega) (by omega) hp' hq' h, fun h => by rw [h]⟩
    · rw [List.nil_append, List.nil_append, str_snoc, le_more k p (by omega) hp']
      exact beq_self_eq_true _
  have Y : ∀ (k : Nat) (n : Int), Aside0 (∀ (g c : Nat) (A : Option Addr) (u : World), Wr u w.heap.size g A c ([] ++ le k n) → Calls Try.prog 11 #[.pointer (some ⟨g, 0, none⟩)] u fun e w' => e = .returned (.string (strOfNums ([] ++ le k n))) ∧ u = w') :=
    fun k n => ⟨fun g c A u h => bytes_at _ g A c _ u h⟩
  have hr : Int.tmod (z : Int) 7 = ((z % 7 : Nat) : Int) := (Int.ofNat_tmod z 7).symm
  have h7 : z % 7 = 0 ∨ z % 7 = 1 ∨ z % 7 = 2 ∨ z % 7 = 3 ∨ z % 7 = 4 ∨ z % 7 = 5 ∨ z % 7 = 6 := by omega
  rcases h7 with h7 | h7 | h7 | h7 | h7 | h7 | h7 <;> rw [h7] at hr
  · obtain ⟨s1, s2, s3⟩ := go 1 (a % 256 ^ 1) (b % 256 ^ 1) (by decide) (by decide) (Nat.mod_lt _ (by decide)) (Nat.mod_lt _ (by decide))
    obtain ⟨f1, f2⟩ := order_facts 1 (by decide) (by decide) (a % 256 ^ 1) (Nat.mod_lt _ (by decide))
    obtain ⟨f3, _⟩ := order_facts 1 (by decide) (by decide) (b % 256 ^ 1) (Nat.mod_lt _ (by decide))
    exact order_walk1 a b z _ _ _ _ _ w _ z0.2 hr (and_mask a 1 (by omega) (by decide)) (and_mask b 1 (by omega) (by decide)) ⟨f1⟩ ⟨f3⟩ ⟨f2⟩ ⟨by omega⟩ ⟨by omega⟩ (Y 1 _) (Y 1 _) (Y 2 _) s1 s2 rfl s3
  · obtain ⟨s1, s2, s3⟩ := go 2 (a % 256 ^ 2) (b % 256 ^ 2) (by decide) (by decide) (Nat.mod_lt _ (by decide)) (Nat.mod_lt _ (by decide))
    obtain ⟨f1, f2⟩ := order_facts 2 (by decide) (by decide) (a % 256 ^ 2) (Nat.mod_lt _ (by decide))
    obtain ⟨f3, _⟩ := order_facts 2 (by decide) (by decide) (b % 256 ^ 2) (Nat.mod_lt _ (by decide))
    exact order_walk2 a b z _ _ _ _ _ w _ z0.2 hr (and_mask a 2 (by omega) (by decide)) (and_mask b 2 (by omega) (by decide)) ⟨f1⟩ ⟨f3⟩ ⟨f2⟩ ⟨by omega⟩ ⟨by omega⟩ (Y 2 _) (Y 2 _) (Y 3 _) s1 s2 rfl s3
  · obtain ⟨s1, s2, s3⟩ := go 3 (a % 256 ^ 3) (b % 256 ^ 3) (by decide) (by decide) (Nat.mod_lt _ (by decide)) (Nat.mod_lt _ (by decide))
    obtain ⟨f1, f2⟩ := order_facts 3 (by decide) (by decide) (a % 256 ^ 3) (Nat.mod_lt _ (by decide))
    obtain ⟨f3, _⟩ := order_facts 3 (by decide) (by decide) (b % 256 ^ 3) (Nat.mod_lt _ (by decide))
    exact order_walk3 a b z _ _ _ _ _ w _ z0.2 hr (and_mask a 3 (by omega) (by decide)) (and_mask b 3 (by omega) (by decide)) ⟨f1⟩ ⟨f3⟩ ⟨f2⟩ ⟨by omega⟩ ⟨by omega⟩ (Y 3 _) (Y 3 _) (Y 4 _) s1 s2 rfl s3
  · obtain ⟨s1, s2, s3⟩ := go 4 (a % 256 ^ 4) (b % 256 ^ 4) (by decide) (by decide) (Nat.mod_lt _ (by decide)) (Nat.mod_lt _ (by decide))
    obtain ⟨f1, f2⟩ := order_facts 4 (by decide) (by decide) (a % 256 ^ 4) (Nat.mod_lt _ (by decide))
    obtain ⟨f3, _⟩ := order_facts 4 (by decide) (by decide) (b % 256 ^ 4) (Nat.mod_lt _ (by decide))
    exact order_walk4 a b z _ _ _ _ _ w _ z0.2 hr (and_mask a 4 (by omega) (by decide)) (and_mask b 4 (by omega) (by decide)) ⟨f1⟩ ⟨f3⟩ ⟨f2⟩ ⟨by omega⟩ ⟨by omega⟩ (Y 4 _) (Y 4 _) (Y 5 _) s1 s2 rfl s3
  · obtain ⟨s1, s2, s3⟩ := go 5 (a % 256 ^ 5) (b % 256 ^ 5) (by decide) (by decide) (Nat.mod_lt _ (by decide)) (Nat.mod_lt _ (by decide))
    obtain ⟨f1, f2⟩ := order_facts 5 (by decide) (by decide) (a % 256 ^ 5) (Nat.mod_lt _ (by decide))
    obtain ⟨f3, _⟩ := order_facts 5 (by decide) (by decide) (b % 256 ^ 5) (Nat.mod_lt _ (by decide))
    exact order_walk5 a b z _ _ _ _ _ w _ z0.2 hr (and_mask a 5 (by omega) (by decide)) (and_mask b 5 (by omega) (by decide)) ⟨f1⟩ ⟨f3⟩ ⟨f2⟩ ⟨by omega⟩ ⟨by omega⟩ (Y 5 _) (Y 5 _) (Y 6 _) s1 s2 rfl s3
  · obtain ⟨s1, s2, s3⟩ := go 6 (a % 256 ^ 6) (b % 256 ^ 6) (by decide) (by decide) (Nat.mod_lt _ (by decide)) (Nat.mod_lt _ (by decide))
    obtain ⟨f1, f2⟩ := order_facts 6 (by decide) (by decide) (a % 256 ^ 6) (Nat.mod_lt _ (by decide))
    obtain ⟨f3, _⟩ := order_facts 6 (by decide) (by decide) (b % 256 ^ 6) (Nat.mod_lt _ (by decide))
    exact order_walk6 a b z _ _ _ _ _ w _ z0.2 hr (and_mask a 6 (by omega) (by decide)) (and_mask b 6 (by omega) (by decide)) ⟨f1⟩ ⟨f3⟩ ⟨f2⟩ ⟨by omega⟩ ⟨by omega⟩ (Y 6 _) (Y 6 _) (Y 7 _) s1 s2 rfl s3
  · obtain ⟨s1, s2, s3⟩ := go 7 (a % 256 ^ 7) (b % 256 ^ 7) (by decide) (by decide) (Nat.mod_lt _ (by decide)) (Nat.mod_lt _ (by decide))
    obtain ⟨f1, f2⟩ := order_facts 7 (by decide) (by decide) (a % 256 ^ 7) (Nat.mod_lt _ (by decide))
    obtain ⟨f3, _⟩ := order_facts 7 (by decide) (by decide) (b % 256 ^ 7) (Nat.mod_lt _ (by decide))
    exact order_walk7 a b z _ _ _ _ _ w _ z0.2 hr (and_mask a 7 (by omega) (by decide)) (and_mask b 7 (by omega) (by decide)) ⟨f1⟩ ⟨f3⟩ ⟨f2⟩ ⟨by omega⟩ ⟨by omega⟩ (Y 7 _) (Y 7 _) (Y 8 _) s1 s2 rfl s3
end Go.Proofs.Ytaegblhfhgiapaa.R
