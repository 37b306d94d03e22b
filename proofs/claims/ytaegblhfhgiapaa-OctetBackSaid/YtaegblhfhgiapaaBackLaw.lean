/- OctetBack, by hand. -/
import Derived.Test.YtaegblhfhgiapaaBackWalks
import Derived.Test.YtaegblhfhgiapaaOrderLaw
namespace Go.Proofs.Ytaegblhfhgiapaa.R
open Go.RowKit Go.Proofs.YtaegblhfhgiapaaW.PrintWords Go.Proofs.YtaegblhfhgiapaaW.PrintLast Go.Proofs.YtaegblhfhgiapaaW.PrintMore Go.Proofs.Ytaegblhfhgiapaa.B

/-- what is read of what was written, and of what is behind it -/
structure Facts (w : World) (k : Nat) (v : Int) (x : Nat) (s rest sb : ByteArray) (y : Nat) (q1 q2 q3 : Int) : Prop where
  ov : ¬ 9223372036854775807 < sb.size + rest.size
  fv : fits v k = true
  Y : ∀ (g c : Nat) (A : Option Addr) (u : World), Wr u w.heap.size g A c ((([] ++ le k v) ++ le 8 (rbits x)) ++ le 2 (s.size : Int) ++ bytesOf s) → Calls Try.prog 11 #[.pointer (some ⟨g, 0, none⟩)] u fun e w' => e = .returned (.string sb) ∧ u = w'
  K1 : ∀ g w1, IsS63 w w1 g (sb ++ rest) 0 → Below w.heap.size w w1 → Calls Try.prog 15 #[.pointer (some ⟨g, 0, none⟩), .int .i64 k] w1 fun e w2 => e = .returned (.tuple #[.int .u64 v, .int .i64 0]) ∧ IsS63 w w2 g (sb ++ rest) q1 ∧ Below w.heap.size w w2
  K2 : ∀ g w1, IsS63 w w1 g (sb ++ rest) q1 → Below w.heap.size w w1 → Calls Try.prog 23 #[.pointer (some ⟨g, 0, none⟩)] w1 fun e w2 => e = .returned (.tuple #[.float .f64 y, .int .i64 0]) ∧ IsS63 w w2 g (sb ++ rest) q2 ∧ Below w.heap.size w w2
  K3 : ∀ g w1, IsS63 w w1 g (sb ++ rest) q2 → Below w.heap.size w w1 → Calls Try.prog 17 #[.pointer (some ⟨g, 0, none⟩), .int .i64 s.size] w1 fun e w2 => e = .returned (.tuple #[.string s, .int .i64 0]) ∧ IsS63 w w2 g (sb ++ rest) q3 ∧ Below w.heap.size w w2
  K4 : ∀ g w1, IsS63 w w1 g (sb ++ rest) q3 → Below w.heap.size w w1 → Calls Try.prog 16 #[.pointer (some ⟨g, 0, none⟩)] w1 fun e w2 => e = .returned (.int .i64 rest.size) ∧ IsS63 w w2 g (sb ++ rest) q3 ∧ Below w.heap.size w w2
theorem facts_of (w : World) (k : Nat) (hk1 : 1 ≤ k) (hk8 : k ≤ 8) (v : Int) (v0 : 0 ≤ v) (v1 : v < 256 ^ k) (x : Nat) (hx : x < 18446744073709551616) (s rest : ByteArray) (hs : s.size ≤ 300) (hr : rest.size ≤ 300) :
    Facts w k v x s rest (strOfNums ((([] ++ le k v) ++ le 8 (rbits x)) ++ le 2 (s.size : Int) ++ bytesOf s)) (rbits x).toNat k ((k : Int) + 8) ((k : Int) + 8 + 2 + s.size) := by
  have hL : ∀ z ∈ (([] ++ le k v) ++ le 8 (rbits x)) ++ le 2 (s.size : Int) ++ bytesOf s, 0 ≤ z ∧ z < 256 := by
    intro z hz
    simp only [List.nil_append, List.mem_append] at hz
    rcases hz with ((hz | hz) | hz) | hz
    · exact le_byte _ _ z hz
    · exact le_byte _ _ z hz
    · exact le_byte _ _ z hz
    · exact bytesOf_byte s z hz
  have hlen : ((([] ++ le k v) ++ le 8 (rbits x)) ++ le 2 (s.size : Int) ++ bytesOf s).length = k + 8 + 2 + s.size := by
    simp only [List.nil_append, List.length_append, le_length, bytesOf_length]
  have hsz : (strOfNums ((([] ++ le k v) ++ le 8 (rbits x)) ++ le 2 (s.size : Int) ++ bytesOf s) ++ rest).size = k + 8 + 2 + s.size + rest.size := by
    rw [ByteArray.size_append, strOfNums_size, hlen]
  have r1 : rdv (strOfNums ((([] ++ le k v) ++ le 8 (rbits x)) ++ le 2 (s.size : Int) ++ bytesOf s) ++ rest) 0 k = v := by
    have e : (([] ++ le k v) ++ le 8 (rbits x)) ++ le 2 (s.size : Int) ++ bytesOf s = [] ++ le k v ++ (le 8 (rbits x) ++ le 2 (s.size : Int) ++ bytesOf s) := by simp
    have := rdv_front rest k [] (le 8 (rbits x) ++ le 2 (s.size : Int) ++ bytesOf s) v (by rw [← e]; exact hL) v0 v1
    rw [← e] at this
    exact this
  have r2 : rdv (strOfNums ((([] ++ le k v) ++ le 8 (rbits x)) ++ le 2 (s.size : Int) ++ bytesOf s) ++ rest) k 8 = rbits x := by
    have e : (([] ++ le k v) ++ le 8 (rbits x)) ++ le 2 (s.size : Int) ++ bytesOf s = le k v ++ le 8 (rbits x) ++ (le 2 (s.size : Int) ++ bytesOf s) := by simp
    have := rdv_front rest 8 (le k v) (le 2 (s.size : Int) ++ bytesOf s) (rbits x) (by rw [← e]; exact hL) (rbits_pos x) (rbits_lt x hx)
    rw [← e, le_length] at this
    exact this
  have r3 : rdv (strOfNums ((([] ++ le k v) ++ le 8 (rbits x)) ++ le 2 (s.size : Int) ++ bytesOf s) ++ rest) (k + 8) 2 = s.size := by
    have := rdv_front rest 2 (([] ++ le k v) ++ le 8 (rbits x)) (bytesOf s) (s.size : Int) hL (by omega) (by show (s.size : Int) < 65536; omega)
    rw [List.length_append, List.nil_append, le_length, le_length] at this
    exact this
  have r4 : (strOfNums ((([] ++ le k v) ++ le 8 (rbits x)) ++ le 2 (s.size : Int) ++ bytesOf s) ++ rest).extract (k + 8 + 2) (k + 8 + 2 + s.size) = s := by
    have := cut_back ((([] ++ le k v) ++ le 8 (rbits x)) ++ le 2 (s.size : Int)) s rest
    have hl : (((([] : List Int) ++ le k v) ++ le 8 (rbits x)) ++ le 2 (s.size : Int)).length = k + 8 + 2 := by simp only [List.nil_append, List.length_append, le_length]
    rw [hl] at this
    exact this
  have hY : ∀ (g c : Nat) (A : Option Addr) (u : World), Wr u w.heap.size g A c ((([] ++ le k v) ++ le 8 (rbits x)) ++ le 2 (s.size : Int) ++ bytesOf s) → Calls Try.prog 11 #[.pointer (some ⟨g, 0, none⟩)] u fun e w' => e = .returned (.string (strOfNums ((([] ++ le k v) ++ le 8 (rbits x)) ++ le 2 (s.size : Int) ++ bytesOf s))) ∧ u = w' := fun g c A u h => bytes_at _ g A c _ u h
  have hss : (strOfNums ((([] ++ le k v) ++ le 8 (rbits x)) ++ le 2 (s.size : Int) ++ bytesOf s)).size = k + 8 + 2 + s.size := by rw [strOfNums_size, hlen]
  generalize strOfNums ((([] ++ le k v) ++ le 8 (rbits x)) ++ le 2 (s.size : Int) ++ bytesOf s) = sb at hsz r1 r2 r3 r4 hY hss ⊢
  have hfv : fits v k = true := by
    simp only [fits, Int.toNat_natCast]
    rw [decide_eq_true (by omega), decide_eq_true (by omega), decide_eq_true (Int.ediv_eq_zero_of_lt v0 v1)]
    rfl
  have hbig : (sb ++ rest).size < 4611686018427387904 := by omega
  refine ⟨by omega, hfv, hY, fun g w1 hI hB => ?_, fun g w1 hI hB => ?_, fun g w1 hI hB => ?_, fun g w1 hI hB => ?_⟩
  · have hn := num_ok (sb ++ rest) 0 k hk1 hk8 hbig (by omega)
    rw [r1, show ((0 : Nat) : Int) + (k : Int) = k by omega] at hn
    exact (octet_Reader_Number.calls (k + 2) g (sb ++ rest) 0 k _ _ _ _ w w1 hI hB hn).mono fun e w' h => ⟨h.1, h.2.1, h.2.2.1⟩
  · have hn := num_ok (sb ++ rest) k 8 (by decide) (by decide) hbig (by omega)
    rw [r2] at hn
    exact rreal_at w w1 g (sb ++ rest) k x hI hB hn
  · have hI' : IsS63 w w1 g (sb ++ rest) ((k + 8 : Nat) : Int) := by rw [Int.natCast_add]; exact hI
    have ht := text_ok w w1 g (sb ++ rest) (k + 8) (s.size : Int) hI' hB hbig (by omega) (by rw [r3]; omega) (by rw [r3, hsz]; omega)
    rw [r3, show (((k + 8 : Nat) : Int) + 2).toNat = k + 8 + 2 by omega, show (((k + 8 : Nat) : Int) + 2 + (s.size : Int)).toNat = k + 8 + 2 + s.size by omega, r4] at ht
    refine ht.mono fun e w' h => ⟨h.1, ?_, h.2.2.1⟩
    have := h.2.1
    rwa [Int.natCast_add] at this
  · have hl := left_says w (sb ++ rest) ((k : Int) + 8 + 2 + s.size) hbig (by omega) (by rw [hsz]; omega) g w1 hI hB
    rw [show ((sb ++ rest).size : Int) - ((k : Int) + 8 + 2 + (s.size : Int)) = (rest.size : Int) by rw [hsz]; omega] at hl
    exact hl
theorem alike_facts (x : Nat) : ((x : Int) == ((rbits x).toNat : Int)) = true ∨ ((FloatKind.f64.format.order x x != some .eq) = true ∧ (FloatKind.f64.format.order (rbits x).toNat (rbits x).toNat != some .eq) = true ∧ ∀ w, Calls Try.prog 13 #[.float .f64 (rbits x).toNat, .float .f64 9221120237041090561] w fun e w' => e = .returned (.bool true) ∧ w = w') := by
  cases hx : Flt.nan x
  · left
    have e : rbits x = (x : Int) := by unfold rbits; rw [hx]; rfl
    rw [e, Int.toNat_natCast]
    exact beq_self_eq_true _
  · right
    have e : (rbits x).toNat = 9221120237041090561 := by unfold rbits; rw [hx]; rfl
    have odd : Flt.nan 9221120237041090561 = true := by decide
    rw [e, ord_self, ord_self, hx, odd]
    refine ⟨rfl, rfl, fun w => ?_⟩
    have h := alike_at 9221120237041090561 9221120237041090561 w
    rw [beq_self_eq_true] at h
    exact h
theorem back_law (n z : Int) (x : Nat) (s rest : ByteArray) (hn : (Lit.int .u64 n).wf = true) (hz : (Lit.int .u8 z).wf = true) (hx : x < 18446744073709551616) (_ : s.size ≤ maxLen) (_ : rest.size ≤ maxLen) (w : World) :
    Calls Try.prog 8 #[.int .u64 n, .int .u8 z, .float .f64 x, .string s, .string rest] w fun e w' => e = .returned (.bool true) ∧ Below w.heap.size w w' := by
  have n0 : 0 ≤ n ∧ n < 18446744073709551616 := by simp [Lit.wf, IntKind.min, IntKind.max, IntKind.signed, IntKind.bits] at hn; omega
  have z0 : 0 ≤ z ∧ z < 256 := by simp [Lit.wf, IntKind.min, IntKind.max, IntKind.signed, IntKind.bits] at hz; omega
  by_cases h1 : (300 : Int) < s.size
  · exact back_long1 n z x s rest w h1
  by_cases h2 : (300 : Int) < rest.size
  · exact back_long2 n z x s rest w h1 h2
  obtain ⟨n, rfl⟩ := Int.eq_ofNat_of_zero_le n0.1
  obtain ⟨z, rfl⟩ := Int.eq_ofNat_of_zero_le z0.1
  have A1 : Aside0 (∀ w, Calls Try.prog 13 #[.float .f64 x, .float .f64 (rbits x).toNat] w fun e w' => e = .returned (.bool ((x : Int) == ((rbits x).toNat : Int))) ∧ w = w') := ⟨alike_at x (rbits x).toNat⟩
  have hal := alike_facts x
  have hr : Int.tmod (z : Int) 8 = ((z % 8 : Nat) : Int) := (Int.ofNat_tmod z 8).symm
  have h8 : z % 8 = 0 ∨ z % 8 = 1 ∨ z % 8 = 2 ∨ z % 8 = 3 ∨ z % 8 = 4 ∨ z % 8 = 5 ∨ z % 8 = 6 ∨ z % 8 = 7 := by omega
  rcases h8 with h8 | h8 | h8 | h8 | h8 | h8 | h8 | h8 <;> rw [h8] at hr
  · have hv : Int.tmod (n : Int) 256 = ((n % 256 ^ 1 : Nat) : Int) := (Int.ofNat_tmod n 256).symm
    have F := facts_of w 1 (by decide) (by decide) ((n % 256 ^ 1 : Nat) : Int) (by omega) (lt_pow 1 _ (Nat.mod_lt _ (by decide))) x hx s rest (by omega) (by omega)
    exact back_walk1 n z x _ _ _ _ _ s rest _ w _ z0.2 hr hv h1 h2 F.ov ⟨F.fv⟩ ⟨by omega⟩ ⟨F.Y⟩ ⟨rfl⟩ ⟨F.K1⟩ ⟨F.K2⟩ ⟨F.K3⟩ ⟨F.K4⟩ A1 hal
  · have hv : Int.tmod (n : Int) 65536 = ((n % 256 ^ 2 : Nat) : Int) := (Int.ofNat_tmod n 65536).symm
    have F := facts_of w 2 (by decide) (by decide) ((n % 256 ^ 2 : Nat) : Int) (by omega) (lt_pow 2 _ (Nat.mod_lt _ (by decide))) x hx s rest (by omega) (by omega)
    exact back_walk2 n z x _ _ _ _ _ s rest _ w _ z0.2 hr hv h1 h2 F.ov ⟨F.fv⟩ ⟨by omega⟩ ⟨F.Y⟩ ⟨rfl⟩ ⟨F.K1⟩ ⟨F.K2⟩ ⟨F.K3⟩ ⟨F.K4⟩ A1 hal
  · have hv : Int.tmod (n : Int) 16777216 = ((n % 256 ^ 3 : Nat) : Int) := (Int.ofNat_tmod n 16777216).symm
    have F := facts_of w 3 (by decide) (by decide) ((n % 256 ^ 3 : Nat) : Int) (by omega) (lt_pow 3 _ (Nat.mod_lt _ (by decide))) x hx s rest (by omega) (by omega)
    exact back_walk3 n z x _ _ _ _ _ s rest _ w _ z0.2 hr hv h1 h2 F.ov ⟨F.fv⟩ ⟨by omega⟩ ⟨F.Y⟩ ⟨rfl⟩ ⟨F.K1⟩ ⟨F.K2⟩ ⟨F.K3⟩ ⟨F.K4⟩ A1 hal
  · have hv : Int.tmod (n : Int) 4294967296 = ((n % 256 ^ 4 : Nat) : Int) := (Int.ofNat_tmod n 4294967296).symm
    have F := facts_of w 4 (by decide) (by decide) ((n % 256 ^ 4 : Nat) : Int) (by omega) (lt_pow 4 _ (Nat.mod_lt _ (by decide))) x hx s rest (by omega) (by omega)
    exact back_walk4 n z x _ _ _ _ _ s rest _ w _ z0.2 hr hv h1 h2 F.ov ⟨F.fv⟩ ⟨by omega⟩ ⟨F.Y⟩ ⟨rfl⟩ ⟨F.K1⟩ ⟨F.K2⟩ ⟨F.K3⟩ ⟨F.K4⟩ A1 hal
  · have hv : Int.tmod (n : Int) 1099511627776 = ((n % 256 ^ 5 : Nat) : Int) := (Int.ofNat_tmod n 1099511627776).symm
    have F := facts_of w 5 (by decide) (by decide) ((n % 256 ^ 5 : Nat) : Int) (by omega) (lt_pow 5 _ (Nat.mod_lt _ (by decide))) x hx s rest (by omega) (by omega)
    exact back_walk5 n z x _ _ _ _ _ s rest _ w _ z0.2 hr hv h1 h2 F.ov ⟨F.fv⟩ ⟨by omega⟩ ⟨F.Y⟩ ⟨rfl⟩ ⟨F.K1⟩ ⟨F.K2⟩ ⟨F.K3⟩ ⟨F.K4⟩ A1 hal
  · have hv : Int.tmod (n : Int) 281474976710656 = ((n % 256 ^ 6 : Nat) : Int) := (Int.ofNat_tmod n 281474976710656).symm
    have F := facts_of w 6 (by decide) (by decide) ((n % 256 ^ 6 : Nat) : Int) (by omega) (lt_pow 6 _ (Nat.mod_lt _ (by decide))) x hx s rest (by omega) (by omega)
    exact back_walk6 n z x _ _ _ _ _ s rest _ w _ z0.2 hr hv h1 h2 F.ov ⟨F.fv⟩ ⟨by omega⟩ ⟨F.Y⟩ ⟨rfl⟩ ⟨F.K1⟩ ⟨F.K2⟩ ⟨F.K3⟩ ⟨F.K4⟩ A1 hal
  · have hv : Int.tmod (n : Int) 72057594037927936 = ((n % 256 ^ 7 : Nat) : Int) := (Int.ofNat_tmod n 72057594037927936).symm
    have F := facts_of w 7 (by decide) (by decide) ((n % 256 ^ 7 : Nat) : Int) (by omega) (lt_pow 7 _ (Nat.mod_lt _ (by decide))) x hx s rest (by omega) (by omega)
    exact back_walk7 n z x _ _ _ _ _ s rest _ w _ z0.2 hr hv h1 h2 F.ov ⟨F.fv⟩ ⟨by omega⟩ ⟨F.Y⟩ ⟨rfl⟩ ⟨F.K1⟩ ⟨F.K2⟩ ⟨F.K3⟩ ⟨F.K4⟩ A1 hal
  · have hv : (n : Int) = (n : Int) := rfl
    have F := facts_of w 8 (by decide) (by decide) (n : Int) (by omega) (by show (n : Int) < 18446744073709551616; exact n0.2) x hx s rest (by omega) (by omega)
    exact back_walk8 n z x _ _ _ _ _ s rest _ w _ z0.2 hr hv h1 h2 F.ov ⟨F.fv⟩ ⟨by omega⟩ ⟨F.Y⟩ ⟨rfl⟩ ⟨F.K1⟩ ⟨F.K2⟩ ⟨F.K3⟩ ⟨F.K4⟩ A1 hal
end Go.Proofs.Ytaegblhfhgiapaa.R
