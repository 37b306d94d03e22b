/- math/bits.OnesCount64 counts the set bits: the bytes are summed up. -/
import Derived.Test.YtidofbloppcpfaaDoorPop
namespace Go.Proofs.YtidofbloppcpfaaDoor.Band
open Go Go.RowKit Go.Proofs.YtidofbloppcpfaaDoor.B Go.Proofs.YtidofbloppcpfaaDoorW.PrintWords
theorem u64_cast (n : Nat) (h : n < 18446744073709551616) : IntKind.u64.wrap (n : Int) = (n : Int) := by rw [IntKind.wrap_u64]; omega
theorem s3_bytes (x : Nat) : s3 8 x = pb (x % 256) + 256 * (pb (x / 256 % 256) + 256 * (pb (x / 65536 % 256) + 256 * (pb (x / 16777216 % 256) + 256 * (pb (x / 4294967296 % 256) + 256 * (pb (x / 1099511627776 % 256) + 256 * (pb (x / 281474976710656 % 256) + 256 * pb (x / 72057594037927936 % 256))))))) := by
  have h0 : ∀ y, s3 0 y = 0 := fun y => by simp [s3, m3]
  simp only [s3_byte, h0, Nat.div_div_eq_div_mul, Nat.reduceMul]
  omega
theorem cnt_bytes (x : Nat) : cnt 64 x = pb (x % 256) + (pb (x / 256 % 256) + (pb (x / 65536 % 256) + (pb (x / 16777216 % 256) + (pb (x / 4294967296 % 256) + (pb (x / 1099511627776 % 256) + (pb (x / 281474976710656 % 256) + pb (x / 72057594037927936 % 256))))))) := by
  have h0 : ∀ y, cnt 0 y = 0 := fun y => rfl
  have hb : ∀ n y, cnt (n + 8) y = pb (y % 256) + cnt n (y / 256) := cnt_byte
  rw [show (64 : Nat) = ((((((((0 + 8) + 8) + 8) + 8) + 8) + 8) + 8) + 8) from rfl]
  simp only [cnt_byte, h0, Nat.div_div_eq_div_mul, Nat.reduceMul, Nat.add_zero]
theorem div_step (a R m : Nat) (h : a < m) : (a + m * R) / m = R := by
  rw [Nat.add_mul_div_left _ _ (by omega), Nat.div_eq_of_lt h, Nat.zero_add]
/-- the three last steps: the bytes are summed up -/
theorem last_steps (p0 p1 p2 p3 p4 p5 p6 p7 C D E F : Nat) (h0 : p0 ≤ 8) (h1 : p1 ≤ 8) (h2 : p2 ≤ 8) (h3 : p3 ≤ 8) (h4 : p4 ≤ 8) (h5 : p5 ≤ 8) (h6 : p6 ≤ 8) (h7 : p7 ≤ 8)
    (hC : C = p0 + 256 * (p1 + 256 * (p2 + 256 * (p3 + 256 * (p4 + 256 * (p5 + 256 * (p6 + 256 * p7)))))))
    (hD : D = C / 256 + C) (hE : E = D / 65536 + D) (hF : F = E / 4294967296 + E) : D < 18446744073709551616 ∧ E < 18446744073709551616 ∧ F < 9223372036854775808 ∧ F % 128 = p0 + (p1 + (p2 + (p3 + (p4 + (p5 + (p6 + p7)))))) := by
  have eC : C / 256 = p1 + 256 * (p2 + 256 * (p3 + 256 * (p4 + 256 * (p5 + 256 * (p6 + 256 * p7))))) := by rw [hC]; exact div_step _ _ _ (by omega)
  rw [eC, hC] at hD
  clear eC hC
  have eD : D = ((p0 + p1) + 256 * (p1 + p2)) + 65536 * ((p2 + p3) + 256 * ((p3 + p4) + 256 * ((p4 + p5) + 256 * ((p5 + p6) + 256 * ((p6 + p7) + 256 * p7))))) := by
    rw [hD]; clear hD hE hF h0 h1 h2 h3 h4 h5 h6 h7; omega
  clear hD
  have eD2 : D / 65536 = (p2 + p3) + 256 * ((p3 + p4) + 256 * ((p4 + p5) + 256 * ((p5 + p6) + 256 * ((p6 + p7) + 256 * p7)))) := by rw [eD]; exact div_step _ _ _ (by clear eD hE hF; omega)
  have bD : D < 18446744073709551616 := by rw [eD]; clear eD eD2 hE hF; omega
  rw [eD2, eD] at hE
  clear eD2 eD
  have eE : E = ((p0 + p1 + p2 + p3) + 256 * ((p1 + p2 + p3 + p4) + 256 * ((p2 + p3 + p4 + p5) + 256 * (p3 + p4 + p5 + p6)))) + 4294967296 * ((p4 + p5 + p6 + p7) + 256 * ((p5 + p6 + p7) + 256 * ((p6 + p7) + 256 * p7))) := by
    rw [hE]; clear hE hF h0 h1 h2 h3 h4 h5 h6 h7 bD; omega
  clear hE
  have eE2 : E / 4294967296 = (p4 + p5 + p6 + p7) + 256 * ((p5 + p6 + p7) + 256 * ((p6 + p7) + 256 * p7)) := by rw [eE]; exact div_step _ _ _ (by clear eE hF bD; omega)
  have bE : E < 18446744073709551616 := by rw [eE]; clear eE eE2 hF bD; omega
  rw [eE2, eE] at hF
  clear eE2 eE
  have bF : F < 9223372036854775808 := by rw [hF]; clear hF bD bE; omega
  have eF : F = (p0 + (p1 + (p2 + (p3 + (p4 + (p5 + (p6 + p7))))))) + 128 * (2 * (((p1 + p2 + p3 + p4) + 256 * ((p2 + p3 + p4 + p5) + 256 * (p3 + p4 + p5 + p6))) + ((p5 + p6 + p7) + 256 * ((p6 + p7) + 256 * p7)) + 16777216 * ((p4 + p5 + p6 + p7) + 256 * ((p5 + p6 + p7) + 256 * ((p6 + p7) + 256 * p7))))) := by
    rw [hF]; clear hF h0 h1 h2 h3 h4 h5 h6 h7 bD bE bF; omega
  refine ⟨bD, bE, bF, ?_⟩
  rw [eF, Nat.add_mul_mod_self_left]
  exact Nat.mod_eq_of_lt (by clear eF hF bD bE bF; omega)
theorem pow8 : (256 : Nat) ^ 8 = 18446744073709551616 := by decide +kernel
theorem m1_8 : m1 8 = 6148914691236517205 := by decide +kernel
theorem m2_8 : m2 8 = 3689348814741910323 := by decide +kernel
theorem m3_8 : m3 8 = 1085102592571150095 := by decide +kernel
/-- a masked half and the masked whole, without a wrap -/
theorem step_at (x k M r : Nat) (hx : x < 18446744073709551616) (hM : M < 18446744073709551616) (hr : (x / k &&& M) + (x &&& M) = r) (hl : r < 18446744073709551616) :
    IntKind.u64.wrap ((Go.bits .and .u64 ((x : Int) / (k : Int)) (M : Int)) + (Go.bits .and .u64 (x : Int) (M : Int))) = (r : Int) := by
  have hd : x / k < 18446744073709551616 := Nat.lt_of_le_of_lt (Nat.div_le_self _ _) hx
  rw [← Int.natCast_ediv, bits_and_u64_nat _ _ hd hM, bits_and_u64_nat _ _ hx hM, ← Int.natCast_add, hr]
  exact u64_cast r hl
theorem sum_at (x k : Nat) (h : x / k + x < 18446744073709551616) : IntKind.u64.wrap ((x : Int) / (k : Int) + (x : Int)) = ((x / k + x : Nat) : Int) := by
  rw [← Int.natCast_ediv, ← Int.natCast_add]
  exact u64_cast _ h
theorem step_A (c : Nat) (hc : c < 18446744073709551616) : IntKind.u64.wrap ((Go.bits .and .u64 ((c : Int) / 2) 6148914691236517205) + (Go.bits .and .u64 (c : Int) 6148914691236517205)) = ((s1 8 c : Nat) : Int) := by
  have h := step_at c 2 (m1 8) (s1 8 c) hc (by rw [m1_8]; decide) rfl (by have := s1_lt 8 c; rwa [pow8] at this)
  rw [m1_8] at h
  exact h
theorem step_B (c : Nat) : IntKind.u64.wrap ((Go.bits .and .u64 (((s1 8 c : Nat) : Int) / 4) 3689348814741910323) + (Go.bits .and .u64 ((s1 8 c : Nat) : Int) 3689348814741910323)) = ((s2 8 c : Nat) : Int) := by
  have h := step_at (s1 8 c) 4 (m2 8) (s2 8 c) (by have := s1_lt 8 c; rwa [pow8] at this) (by rw [m2_8]; decide) rfl (by have := s2_lt 8 c; rwa [pow8] at this)
  rw [m2_8] at h
  exact h
theorem step_C (c : Nat) : Go.bits .and .u64 (IntKind.u64.wrap (((s2 8 c : Nat) : Int) / 16 + ((s2 8 c : Nat) : Int))) 1085102592571150095 = ((s3 8 c : Nat) : Int) := by
  have h := sum_at (s2 8 c) 16 (s2_top c)
  rw [show ((16 : Nat) : Int) = 16 from rfl] at h
  rw [h]
  have h2 := bits_and_u64_nat (s2 8 c / 16 + s2 8 c) (m3 8) (s2_top c) (by rw [m3_8]; decide)
  rw [m3_8] at h2
  rw [show (1085102592571150095 : Int) = ((1085102592571150095 : Nat) : Int) from rfl, h2, ← m3_8]
  rfl
theorem and127 (F : Nat) (h : F < 9223372036854775808) : Go.bits .and .i64 (wrap64 (F : Int)) 127 = ((F % 128 : Nat) : Int) := by
  have := bits_mask .i64 63 (by decide) (fun n h0 h1 => by rw [IntKind.wrap_i64]; omega) 7 (by decide) (F : Int) (by omega) (by omega)
  rw [show wrap64 (F : Int) = F from by unfold wrap64; omega]
  rw [show ((2 : Int) ^ 7 - 1) = 127 from rfl] at this
  rw [this]
  omega
theorem ones_run (c : Nat) (hc : c < 18446744073709551616) : bits_OnesCount64.f (c : Int) = some ((cnt 64 c : Nat) : Int) := by
  have hA := step_A c hc
  have hB := step_B c
  have hC := step_C c
  have h8 := s3_bytes c
  have hc8 := cnt_bytes c
  obtain ⟨hD, hE, hF, hR⟩ := last_steps _ _ _ _ _ _ _ _ (s3 8 c) _ _ _ (pb_le _) (pb_le _) (pb_le _) (pb_le _) (pb_le _) (pb_le _) (pb_le _) (pb_le _) h8 rfl rfl rfl
  rw [← hc8] at hR
  clear h8 hc8
  generalize s3 8 c = C at hC hD hE hF hR
  have eD := sum_at C 256 hD
  generalize C / 256 + C = D at hD hE hF hR eD
  have eE := sum_at D 65536 hE
  generalize D / 65536 + D = E at hE hF hR eE
  have eF := sum_at E 4294967296 (by omega)
  generalize E / 4294967296 + E = F at hF hR eF
  have eR := and127 F hF
  rw [show ((256 : Nat) : Int) = 256 from rfl, Int.add_comm] at eD
  rw [show ((65536 : Nat) : Int) = 65536 from rfl, Int.add_comm] at eE
  rw [show ((4294967296 : Nat) : Int) = 4294967296 from rfl, Int.add_comm] at eF
  unfold bits_OnesCount64.f
  rw [hA, hB, hC, eD, eE, eF, eR, hR]
end Go.Proofs.YtidofbloppcpfaaDoor.Band
