/- By hand: ballot.Pick, ballot.Number (out of layer 16's text, by from16.py). -/
import Derived.Test.YtkjjegakfceibaaDoorTurn
import Derived.Lib.Mul64
import Derived.Laws.Bits64b
namespace Go.Proofs.YtkjjegakfceibaaDoor.B
open Go.RowKit Go.Proofs.YtkjjegakfceibaaDoorW.PrintWords Go.Proofs.YtkjjegakfceibaaDoorW.PrintLast Go.Proofs.YtkjjegakfceibaaDoorW.PrintMore
set_option linter.unusedSimpArgs false
set_option linter.unusedVariables false
structure S52 where
  f0 : Int
  f1 : Int
def z52 : S52 := ⟨(0 : Int), (0 : Int)⟩
def k52 : Kd S52 := Kd.iso (Kd.pair (Kd.int .u64) (Kd.int .u64)) (fun x : S52 => (x.f0, x.f1))
theorem k27_open {w : World} {x : S52} {cs : List Value} (h : k52.K w x cs) : cs = [.int .u64 x.f0, .int .u64 x.f1] := by
  obtain ⟨_, _, rfl, rfl, rfl⟩ := h
  exact rfl
theorem k27_openM {w : World} {base : Nat} {ok : Nat → Prop} {x : S52} {cs : List Value} (h : k52.M w base ok x cs) : cs = [.int .u64 x.f0, .int .u64 x.f1] := by
  obtain ⟨_, _, rfl, rfl, rfl⟩ := h
  exact rfl
theorem k27_mk (w : World) (x : S52)  : k52.K w x [.int .u64 x.f0, .int .u64 x.f1] := ⟨[.int .u64 x.f0], [.int .u64 x.f1], rfl, rfl, rfl⟩
theorem k27_mkM (w : World) (base : Nat) (ok : Nat → Prop) (x : S52)  : k52.M w base ok x [.int .u64 x.f0, .int .u64 x.f1] := ⟨[.int .u64 x.f0], [.int .u64 x.f1], rfl, rfl, rfl⟩
def rd_T52 (xs : List S52) (i : Int) : S52 := xs.getD i.toNat z52
theorem at_T52 {w : World} {A : Option Addr} {n : Nat} {xs : List S52} (h : Kd.C k52 w A n xs) (i : Int) (h0 : 0 ≤ i) (h1 : i < n) : ∃ ad , A = some ad ∧ w.cell? (ad.add (i.toNat * 2)) = some (.int .u64 (rd_T52 xs i).f0) ∧ w.cell? ⟨(ad.add (i.toNat * 2)).block, (ad.add (i.toNat * 2)).off + 1, none⟩ = some (.int .u64 (rd_T52 xs i).f1) := by
  obtain ⟨ad, c, e, _, hK, hc0⟩ := Kd.C_get h z52 i h0 h1
  have hc : ∀ j u, c[j]? = some u → w.cell? (ad.add (i.toNat * 2 + j)) = some u := hc0
  obtain rfl := k27_open hK
  exact ⟨ad, e, hc 0 _ rfl, by rw [← add_field _ _ 1 (by omega)]; exact hc 1 _ rfl⟩

/-! #### struct type 36 -/
structure S36 where
  f0 : Bool
  f1 : Int
  f2 : S52
def z36 : S36 := ⟨false, (0 : Int), z52⟩
def k36 : Kd S36 := Kd.iso (Kd.pair Kd.bool (Kd.pair (Kd.int .u64) k52)) (fun x : S36 => (x.f0, x.f1, x.f2))
theorem k36_open {w : World} {x : S36} {cs : List Value} (h : k36.K w x cs) : cs = [.bool x.f0, .int .u64 x.f1, .int .u64 x.f2.f0, .int .u64 x.f2.f1] := by
  obtain ⟨_, _, rfl, rfl, ⟨_, _, rfl, rfl, s2⟩⟩ := h
  obtain rfl := k27_open s2
  exact rfl
theorem k36_openM {w : World} {base : Nat} {ok : Nat → Prop} {x : S36} {cs : List Value} (h : k36.M w base ok x cs) : cs = [.bool x.f0, .int .u64 x.f1, .int .u64 x.f2.f0, .int .u64 x.f2.f1] := by
  obtain ⟨_, _, rfl, rfl, ⟨_, _, rfl, rfl, s2⟩⟩ := h
  obtain rfl := k27_openM s2
  exact rfl
theorem k36_mk (w : World) (x : S36)  : k36.K w x [.bool x.f0, .int .u64 x.f1, .int .u64 x.f2.f0, .int .u64 x.f2.f1] := ⟨[.bool x.f0], [.int .u64 x.f1, .int .u64 x.f2.f0, .int .u64 x.f2.f1], rfl, rfl, ⟨[.int .u64 x.f1], [.int .u64 x.f2.f0, .int .u64 x.f2.f1], rfl, rfl, (k27_mk w x.f2 )⟩⟩
theorem k36_mkM (w : World) (base : Nat) (ok : Nat → Prop) (x : S36)  : k36.M w base ok x [.bool x.f0, .int .u64 x.f1, .int .u64 x.f2.f0, .int .u64 x.f2.f1] := ⟨[.bool x.f0], [.int .u64 x.f1, .int .u64 x.f2.f0, .int .u64 x.f2.f1], rfl, rfl, ⟨[.int .u64 x.f1], [.int .u64 x.f2.f0, .int .u64 x.f2.f1], rfl, rfl, (k27_mkM w base ok x.f2 )⟩⟩
def rd_T36 (xs : List S36) (i : Int) : S36 := xs.getD i.toNat z36
theorem at_T36 {w : World} {A : Option Addr} {n : Nat} {xs : List S36} (h : Kd.C k36 w A n xs) (i : Int) (h0 : 0 ≤ i) (h1 : i < n) : ∃ ad , A = some ad ∧ w.cell? (ad.add (i.toNat * 4)) = some (.bool (rd_T36 xs i).f0) ∧ w.cell? ⟨(ad.add (i.toNat * 4)).block, (ad.add (i.toNat * 4)).off + 1, none⟩ = some (.int .u64 (rd_T36 xs i).f1) ∧ w.cell? ⟨(ad.add (i.toNat * 4)).block, (ad.add (i.toNat * 4)).off + 2, none⟩ = some (.int .u64 (rd_T36 xs i).f2.f0) ∧ w.cell? ⟨(ad.add (i.toNat * 4)).block, (ad.add (i.toNat * 4)).off + 3, none⟩ = some (.int .u64 (rd_T36 xs i).f2.f1) := by
  obtain ⟨ad, c, e, _, hK, hc0⟩ := Kd.C_get h z36 i h0 h1
  have hc : ∀ j u, c[j]? = some u → w.cell? (ad.add (i.toNat * 4 + j)) = some u := hc0
  obtain rfl := k36_open hK
  exact ⟨ad, e, hc 0 _ rfl, by rw [← add_field _ _ 1 (by omega)]; exact hc 1 _ rfl, by rw [← add_field _ _ 2 (by omega)]; exact hc 2 _ rfl, by rw [← add_field _ _ 3 (by omega)]; exact hc 3 _ rfl⟩

/-! #### struct type 74 -/
structure S74 where
  f0 : Int
  f1 : S52
def z74 : S74 := ⟨(0 : Int), z52⟩
def k74 : Kd S74 := Kd.iso (Kd.pair (Kd.int .u64) k52) (fun x : S74 => (x.f0, x.f1))
theorem k29_open {w : World} {x : S74} {cs : List Value} (h : k74.K w x cs) : cs = [.int .u64 x.f0, .int .u64 x.f1.f0, .int .u64 x.f1.f1] := by
  obtain ⟨_, _, rfl, rfl, s1⟩ := h
  obtain rfl := k27_open s1
  exact rfl
theorem k29_openM {w : World} {base : Nat} {ok : Nat → Prop} {x : S74} {cs : List Value} (h : k74.M w base ok x cs) : cs = [.int .u64 x.f0, .int .u64 x.f1.f0, .int .u64 x.f1.f1] := by
  obtain ⟨_, _, rfl, rfl, s1⟩ := h
  obtain rfl := k27_openM s1
  exact rfl
theorem k29_mk (w : World) (x : S74)  : k74.K w x [.int .u64 x.f0, .int .u64 x.f1.f0, .int .u64 x.f1.f1] := ⟨[.int .u64 x.f0], [.int .u64 x.f1.f0, .int .u64 x.f1.f1], rfl, rfl, (k27_mk w x.f1 )⟩
theorem k29_mkM (w : World) (base : Nat) (ok : Nat → Prop) (x : S74)  : k74.M w base ok x [.int .u64 x.f0, .int .u64 x.f1.f0, .int .u64 x.f1.f1] := ⟨[.int .u64 x.f0], [.int .u64 x.f1.f0, .int .u64 x.f1.f1], rfl, rfl, (k27_mkM w base ok x.f1 )⟩
def rd_T74 (xs : List S74) (i : Int) : S74 := xs.getD i.toNat z74
theorem at_T74 {w : World} {A : Option Addr} {n : Nat} {xs : List S74} (h : Kd.C k74 w A n xs) (i : Int) (h0 : 0 ≤ i) (h1 : i < n) : ∃ ad , A = some ad ∧ w.cell? (ad.add (i.toNat * 3)) = some (.int .u64 (rd_T74 xs i).f0) ∧ w.cell? ⟨(ad.add (i.toNat * 3)).block, (ad.add (i.toNat * 3)).off + 1, none⟩ = some (.int .u64 (rd_T74 xs i).f1.f0) ∧ w.cell? ⟨(ad.add (i.toNat * 3)).block, (ad.add (i.toNat * 3)).off + 2, none⟩ = some (.int .u64 (rd_T74 xs i).f1.f1) := by
  obtain ⟨ad, c, e, _, hK, hc0⟩ := Kd.C_get h z74 i h0 h1
  have hc : ∀ j u, c[j]? = some u → w.cell? (ad.add (i.toNat * 3 + j)) = some u := hc0
  obtain rfl := k29_open hK
  exact ⟨ad, e, hc 0 _ rfl, by rw [← add_field _ _ 1 (by omega)]; exact hc 1 _ rfl, by rw [← add_field _ _ 2 (by omega)]; exact hc 2 _ rfl⟩

/-! ### math/bits.Mul64, Add64 -/
theorem maskN (a : Nat) (ha : a < 18446744073709551616) : bits .and .u64 (a : Int) 4294967295 = ((a % 4294967296 : Nat) : Int) := by
  have h := bits_and_u64_nat a 4294967295 ha (by omega)
  have e : a &&& 4294967295 = a % 4294967296 := Nat.and_two_pow_sub_one_eq_mod a 32
  rw [e] at h
  exact h
theorem divN (a : Nat) : (a : Int) / 4294967296 = ((a / 4294967296 : Nat) : Int) := by omega
theorem mulN (a b : Nat) : (a : Int) * (b : Int) = ((a * b : Nat) : Int) := (Int.natCast_mul a b).symm
theorem addN (a b : Nat) : (a : Int) + (b : Int) = ((a + b : Nat) : Int) := (Int.natCast_add a b).symm
theorem wrapN (a : Nat) (ha : a < 18446744073709551616) : IntKind.u64.wrap (a : Int) = (a : Int) := by rw [IntKind.wrap_u64]; omega
theorem wrapM (a : Nat) : IntKind.u64.wrap (a : Int) = ((a % 18446744073709551616 : Nat) : Int) := by rw [IntKind.wrap_u64]; omega
set_option maxHeartbeats 1000000 in
theorem mul64_any (x y : Nat) (hx : x < 18446744073709551616) (hy : y < 18446744073709551616) (w : World) :
    Calls Tryd.prog 65 #[.int .u64 x, .int .u64 y] w fun e w' => e = .returned (.tuple #[.int .u64 ((x * y / 18446744073709551616 : Nat) : Int), .int .u64 ((x * y % 18446744073709551616 : Nat) : Int)]) ∧ w = w' := by
  obtain ⟨bd, bt, bw, hhi⟩ := Lib.mul64_hi x y hx hy
  have ba := Lib.half_mul_le (a := x / 4294967296) (b := y / 4294967296) (by omega) (by omega)
  have bb := Lib.half_mul_le (a := x / 4294967296) (b := y % 4294967296) (by omega) (by omega)
  have bc := Lib.half_mul_le (a := x % 4294967296) (b := y / 4294967296) (by omega) (by omega)
  have ba' : x / 4294967296 * (y / 4294967296) < 18446744073709551616 := by omega
  have bb' : x / 4294967296 * (y % 4294967296) < 18446744073709551616 := by omega
  have bc' : x % 4294967296 * (y / 4294967296) < 18446744073709551616 := by omega
  have bh1 : x / 4294967296 * (y / 4294967296) + (x / 4294967296 * (y % 4294967296) + x % 4294967296 * (y % 4294967296) / 4294967296) / 4294967296 < 18446744073709551616 := by omega
  have bh : x / 4294967296 * (y / 4294967296) + (x / 4294967296 * (y % 4294967296) + x % 4294967296 * (y % 4294967296) / 4294967296) / 4294967296 + ((x / 4294967296 * (y % 4294967296) + x % 4294967296 * (y % 4294967296) / 4294967296) % 4294967296 + x % 4294967296 * (y / 4294967296)) / 4294967296 < 18446744073709551616 := by omega
  go_enter Tryd.func65, Tryd.ntmps65
  go_wp2
  simp only [maskN x hx, maskN y hy, divN, mulN, addN, wrapN _ bd, wrapN _ bb', wrapN _ bt, maskN _ bt, wrapN _ bc', wrapN _ bw, wrapN _ ba', wrapN _ bh1, wrapN _ bh, wrapM (x * y)]
  rw [hhi]
  go_ret2
  exact ⟨rfl, rfl⟩
theorem add64 (x y : Int) (hx : 0 ≤ x) (hy : 0 ≤ y) (w : World) : (callFunc 66 #[.int .u64 x, .int .u64 y, .int .u64 0]).run Tryd.prog w =
    .ok (.value (.tuple #[.int .u64 ((x + y) % 18446744073709551616), .int .u64 ((x + y) / 18446744073709551616)])) w := by
  rw [run_callFunc_extern Tryd.func66 (by kernel_rfl) (by kernel_rfl) (by kernel_rfl) (e := add64Entry) (by kernel_rfl), run_add64 x y 0 hx hy (by omega) (by omega)]
  simp [Result.andThen]

/-! ### ballot.Number -/
def ballot_Number.f (a0 a1 : Int) : Option (Int × Int) :=
  if 0 ≤ a0 ∧ a0 < 18446744073709551616 ∧ -9223372036854775808 ≤ a1 ∧ a1 < 9223372036854775808 then
    (if a1 < 0 ∨ 64 ≤ a1 then some (0, 1) else if a0 * 64 + a1 + 1 < 18446744073709551616 then some (a0 * 64 + a1 + 1, 0) else some (0, 60))
  else none
theorem mul_hi (n : Nat) : ((n * 64 / 18446744073709551616 : Nat) : Int) = (n : Int) * 64 / 18446744073709551616 := by omega
theorem mul_lo (n : Nat) : ((n * 64 % 18446744073709551616 : Nat) : Int) = (n : Int) * 64 % 18446744073709551616 := by omega
set_option maxHeartbeats 1000000 in
theorem ballot_Number.calls (a0 a1 r1 r2 : Int) (w : World) (h : ballot_Number.f a0 a1 = some (r1, r2)) :
    Calls Tryd.prog 37 #[.int .u64 a0, .int .i64 a1] w fun e w' => e = .returned (.tuple #[.int .u64 r1, .int .i64 r2]) ∧ Drawn0 w w' := by
  unfold ballot_Number.f at h
  by_cases hb : 0 ≤ a0 ∧ a0 < 18446744073709551616 ∧ -9223372036854775808 ≤ a1 ∧ a1 < 9223372036854775808
  · rw [if_pos hb] at h
    obtain ⟨b0, b1, b2, b3⟩ := hb
    by_cases n0 : a1 < 0
    · rw [if_pos (.inl n0)] at h
      obtain ⟨rfl, rfl⟩ : 0 = r1 ∧ 1 = r2 := by simpa using h
      clear h
      go_enter Tryd.func37, Tryd.ntmps37
      go_wp2
      go_ret2
      exact ⟨rfl, Drawn0.refl _⟩
    · by_cases n1 : 64 ≤ a1
      · rw [if_pos (.inr n1)] at h
        obtain ⟨rfl, rfl⟩ : 0 = r1 ∧ 1 = r2 := by simpa using h
        clear h
        go_enter Tryd.func37, Tryd.ntmps37
        go_wp2
        go_ret2
        exact ⟨rfl, Drawn0.refl _⟩
      · rw [if_neg (by omega)] at h
        obtain ⟨n, rfl⟩ := Int.eq_ofNat_of_zero_le b0
        have hm := mul64_any n 64 (by omega) (by omega)
        have H := Aside0.mk h
        clear h
        have HM := Aside0.mk hm
        clear hm
        have hs : (0 : Int) ≤ (n : Int) * 64 % 18446744073709551616 := by omega
        have hs1 : (n : Int) * 64 % 18446744073709551616 < 18446744073709551616 := by omega
        have hk : (0 : Int) ≤ a1 + 1 := by omega
        have hd := add64 ((n : Int) * 64 % 18446744073709551616) (a1 + 1) hs hk
        by_cases hh : (n : Int) * 64 / 18446744073709551616 = 0
        · have hhb : ((n : Int) * 64 / 18446744073709551616 != 0) = false := by simpa using hh
          by_cases hu : ((n : Int) * 64 % 18446744073709551616 + (a1 + 1)) / 18446744073709551616 = 0
          · have hub : (((n : Int) * 64 % 18446744073709551616 + (a1 + 1)) / 18446744073709551616 != 0) = false := by simpa using hu
            have e : r1 = ((n : Int) * 64 + (a1 + 1)) % 18446744073709551616 ∧ r2 = 0 := by
              have h := H.out
              rw [if_pos (by omega)] at h
              simp only [Option.some.injEq, Prod.mk.injEq] at h
              omega
            obtain ⟨rfl, rfl⟩ := e
            clear H hh hu
            go_enter Tryd.func37, Tryd.ntmps37
            go_wp2_with (go_at_call 65; refine (HM.out _).mono ?_; rintro e w' ⟨rfl, rfl⟩; rw [mul_hi, mul_lo])
            go_ret2
            exact ⟨rfl, Drawn0.refl _⟩
          · have hub : (((n : Int) * 64 % 18446744073709551616 + (a1 + 1)) / 18446744073709551616 != 0) = true := by simpa using hu
            have e : r1 = 0 ∧ r2 = 60 := by
              have h := H.out
              rw [if_neg (by omega)] at h
              simp only [Option.some.injEq, Prod.mk.injEq] at h
              omega
            obtain ⟨rfl, rfl⟩ := e
            clear H hh hu
            go_enter Tryd.func37, Tryd.ntmps37
            go_wp2_with (go_at_call 65; refine (HM.out _).mono ?_; rintro e w' ⟨rfl, rfl⟩; rw [mul_hi, mul_lo])
            go_ret2
            exact ⟨rfl, Drawn0.refl _⟩
        · have hhb : ((n : Int) * 64 / 18446744073709551616 != 0) = true := by simpa using hh
          have e : r1 = 0 ∧ r2 = 60 := by
            have h := H.out
            rw [if_neg (by omega)] at h
            simp only [Option.some.injEq, Prod.mk.injEq] at h
            omega
          obtain ⟨rfl, rfl⟩ := e
          clear H hh
          go_enter Tryd.func37, Tryd.ntmps37
          go_wp2_with (go_at_call 65; refine (HM.out _).mono ?_; rintro e w' ⟨rfl, rfl⟩; rw [mul_hi, mul_lo])
          go_ret2
          exact ⟨rfl, Drawn0.refl _⟩
  · rw [if_neg hb] at h
    cases h

/-! ### ballot.Pick -/
/-- the better one of two -/
def better (b p : S74) : S74 := if b.f0 < p.f0 then p else b
def bestOf (l : List S74) : S74 := l.foldl better z74
def ballot_Pick.f (l0 : List S74) : Option (Int × Int × Bool) :=
  some ((bestOf l0).f1.f0, (bestOf l0).f1.f1, (!((bestOf l0).f0 == 0) || ((!((bestOf l0).f1.f0 == 0) || (!((bestOf l0).f1.f1 == 0))))))
theorem bestOf_take (l : List S74) (k : Nat) (h : k < l.length) : bestOf (l.take (k + 1)) = better (bestOf (l.take k)) (rd_T74 l k) := by
  unfold bestOf
  rw [List.take_succ_eq_append_getElem h, List.foldl_append]
  simp [rd_T74, List.getD, List.getElem?_eq_getElem h]
abbrev cells74 (b : S74) : Array Value := #[.int .u64 b.f0, .int .u64 b.f1.f0, .int .u64 b.f1.f1]
theorem pick1_any (g : Nat) (b p : S74) (w : World) (hb : w.heap[g]? = some (.cells (cells74 b) 74 (0, 0))) :
    Calls Tryd.prog 70 #[.agg (cells74 p), .pointer (some ⟨g, 0, none⟩)] w fun e w' => e = .returned (.bool (decide (b.f0 < p.f0))) ∧ ∃ o, w' = w.alloc o := by
  have hc := (blk_cell hb 0).trans rfl
  have hc1 : ∀ o, (w.alloc o).cell? ⟨g, 0, none⟩ = some (.int .u64 b.f0) := fun o => (blk_cell (blk_alloc hb o) 0).trans rfl
  go_enter Tryd.func70, Tryd.ntmps70
  go_wp2
  go_ret
  exact ⟨rfl, _, rfl⟩
theorem neq74 (b : S74) (w : World) : (binOp .neq 74 (.agg (cells74 b)) (.agg #[.int .u64 0, .int .u64 0, .int .u64 0])).run Tryd.prog w = .ok (.bool (!(b.f0 == 0) || ((!(b.f1.f0 == 0) || (!(b.f1.f1 == 0)))))) w := by
  by_cases h0 : b.f0 = 0 <;> by_cases h1 : b.f1.f0 = 0 <;> by_cases h2 : b.f1.f1 = 0 <;> go_simp
set_option maxHeartbeats 1000000 in
theorem ballot_Pick.calls (A0 : Option Addr) (c0 : Nat) (l0 : List S74) (r1 r2 : Int) (r3 : Bool) (w : World) (hr0 : Kd.C k74 w A0 l0.length l0) (_hc0 : l0.length ≤ c0) (h : ballot_Pick.f l0 = some (r1, r2, r3)) :
    Calls Tryd.prog 45 #[.slice A0 l0.length c0] w fun e w' => e = .returned (.tuple #[.agg #[.int .u64 r1, .int .u64 r2], .bool r3]) ∧ Below w.heap.size w w' := by
  have H := Aside0.mk h
  clear h
  have HR := Aside0.mk hr0
  have hlen : (l0.length : Int) ≤ 9223372036854775807 := by have := hr0.2.1; omega
  clear hr0
  have hmf : ∀ (fn : Fn) (first cap : Array Value) (w : World), (Instr.makeFunc fn first cap).run Tryd.prog w = .ok (.func fn first cap) w := fun _ _ _ _ => rfl
  go_enter Tryd.func45, Tryd.ntmps45
  go_wp2_with (first
    | ((with_reducible refine gate_dst (N := 2) rfl ?_); refine box_event ?hg (N := 2) ?hd (cs := #[.int .u64 0, .int .u64 0]) (t := 52) ?hr ?_; (case hd => rfl); (case hg => rfl); (case hr => first | (go_simp; done) | (go_simp; rfl)); intro g1 hg1 w1 hb1 hB1; have G1 := Aside0.mk hg1; have K1 := Aside0.mk hb1; have B1 := Aside0.mk hB1; clear hg1 hb1 hB1)
    | ((with_reducible refine gate_dst (N := 4) rfl ?_); refine box_event ?hg (N := 4) ?hd (cs := #[.int .u64 0, .int .u64 0, .int .u64 0]) (t := 74) ?hr ?_; (case hd => rfl); (case hg => rfl); (case hr => first | (go_simp; done) | (go_simp; rfl)); intro g2 hg2 w2 hb2 hB2; have G2 := Aside0.mk hg2; have K2 := Aside0.mk hb2; have B2 := Aside0.mk hB2; clear hg2 hb2 hB2))
  have K1' := Aside0.mk (blk_below K1.out B2.out)
  have BW := Aside0.mk (below_step B1.out B2.out)
  have L1 : g1 < g2 := by rw [G2.out]; exact blk_lt K1.out
  have L0 : w.heap.size ≤ g1 := by rw [G1.out]; exact Nat.le_refl _
  have hne : g1 ≠ g2 := Nat.ne_of_lt L1
  have hge : w.heap.size ≤ g2 := Nat.le_trans L0 (Nat.le_of_lt L1)
  go_loopw [11] (fun i wr => ∃ k : Nat, i = .int .i64 k ∧ Aside0 (k ≤ l0.length) ∧ Aside0 (wr.heap[g1]? = some (.cells #[.int .u64 0, .int .u64 0] 52 (0, 0))) ∧ Aside0 (wr.heap[g2]? = some (.cells (cells74 (bestOf (l0.take k))) 74 (0, 0))) ∧ Aside0 (Below w.heap.size w wr))
    (fun i _ => l0.length - (intOf i).toNat)
  case atStart => exact ⟨0, rfl, ⟨Nat.zero_le _⟩, K1', K2, BW⟩
  case round =>
    obtain ⟨k, rfl, hk, R1, R2, RB⟩ := hrel
    clear K1 K2 B1 B2 K1' BW
    by_cases hlt : k < l0.length
    · have hst := Aside0.mk (bestOf_take l0 k hlt)
      obtain ⟨ad, e, hx0, hx1, hx2⟩ := at_T74 HR.out (k : Int) (by omega) (by omega)
      simp only [Int.toNat_natCast] at hx0 hx1 hx2
      obtain rfl := e
      obtain ⟨p, hp⟩ : ∃ p, p = rd_T74 l0 (k : Int) := ⟨_, rfl⟩
      obtain ⟨b, hb⟩ : ∃ b, b = bestOf (l0.take k) := ⟨_, rfl⟩
      rw [← hp] at hx0 hx1 hx2
      have hst' := Aside0.mk (hst.out.trans (by rw [← hp, ← hb]) : bestOf (l0.take (k + 1)) = better b p)
      clear hst
      have R2' : Aside0 (wr.heap[g2]? = some (.cells (cells74 b) 74 (0, 0))) := ⟨by rw [hb]; exact R2.out⟩
      clear hp hb R2
      replace hx0 := (RB.out.cell (World.block_lt_of_cell? w _ hx0)).trans hx0
      replace hx1 := (RB.out.cell (World.block_lt_of_cell? w _ hx1)).trans hx1
      replace hx2 := (RB.out.cell (World.block_lt_of_cell? w _ hx2)).trans hx2
      have hc0 : ∀ o1 o2, ((wr.alloc o1).alloc o2).cell? ⟨g2, 0, none⟩ = some (.int .u64 b.f0) := fun o1 o2 => (blk_cell (blk_alloc (blk_alloc R2'.out o1) o2) 0).trans rfl
      have hc1 : ∀ o1 o2, ((wr.alloc o1).alloc o2).cell? ⟨g2, 1, none⟩ = some (.int .u64 b.f1.f0) := fun o1 o2 => (blk_cell (blk_alloc (blk_alloc R2'.out o1) o2) 1).trans rfl
      have hc2 : ∀ o1 o2, ((wr.alloc o1).alloc o2).cell? ⟨g2, 2, none⟩ = some (.int .u64 b.f1.f1) := fun o1 o2 => (blk_cell (blk_alloc (blk_alloc R2'.out o1) o2) 2).trans rfl
      have hf : ∀ o1 o2 j, ((wr.alloc o1).alloc o2).frozen? ⟨g2, j, none⟩ = false := fun o1 o2 j => blk_frozen (blk_alloc (blk_alloc R2'.out o1) o2) j
      by_cases hd : b.f0 < p.f0
      · have hdb : decide (b.f0 < p.f0) = true := decide_eq_true hd
        have hbt := Aside0.mk (show better b p = p from by unfold better; rw [if_pos hd])
        clear hd
        go_wp2_with (go_at_call 70; refine (pick1_any g2 b p _ (blk_alloc R2'.out _)).mono ?_; rintro e w' ⟨rfl, o, rfl⟩)
        go_roundw
        case rel =>
          refine ⟨k + 1, by go_num, ⟨hlt⟩, ⟨?_⟩, ⟨?_⟩, ⟨?_⟩⟩
          · repeat (first | exact R1.out | refine blk_far ?_ hne _ | refine blk_alloc ?_ _)
          · rw [hst'.out, hbt.out]
            refine blk_put (cs := #[.int .u64 p.f0, .int .u64 p.f1.f0, .int .u64 b.f1.f1]) ?_ 2 _ rfl
            refine blk_put (cs := #[.int .u64 p.f0, .int .u64 b.f1.f0, .int .u64 b.f1.f1]) ?_ 1 _ rfl
            refine blk_put (cs := cells74 b) ?_ 0 _ rfl
            exact blk_alloc (blk_alloc R2'.out _) _
          · repeat (first | exact RB.out | refine below_set ?_ hge | refine below_alloc ?_ _)
        case measure => simp [intOf]; omega
      · have hdb : decide (b.f0 < p.f0) = false := decide_eq_false hd
        have hbt := Aside0.mk (show better b p = b from by unfold better; rw [if_neg hd])
        clear hd
        go_wp2_with (go_at_call 70; refine (pick1_any g2 b p _ (blk_alloc R2'.out _)).mono ?_; rintro e w' ⟨rfl, o, rfl⟩)
        go_roundw
        case rel =>
          refine ⟨k + 1, by go_num, ⟨hlt⟩, ⟨blk_alloc (blk_alloc R1.out _) _⟩, ⟨?_⟩, ⟨below_alloc (below_alloc RB.out _) _⟩⟩
          rw [hst'.out, hbt.out]
          exact blk_alloc (blk_alloc R2'.out _) _
        case measure => simp [intOf]; omega
    · obtain rfl : k = l0.length := by have := hk.out; omega
      rw [List.take_length] at R2
      obtain ⟨b, hb⟩ : ∃ b, b = bestOf l0 := ⟨_, rfl⟩
      have HB := Aside0.mk hb
      have R2' : Aside0 (wr.heap[g2]? = some (.cells (cells74 b) 74 (0, 0))) := ⟨by rw [hb]; exact R2.out⟩
      clear hb R2
      have hc0 : wr.cell? ⟨g2, 0, none⟩ = some (.int .u64 b.f0) := (blk_cell R2'.out 0).trans rfl
      have hc1 : wr.cell? ⟨g2, 1, none⟩ = some (.int .u64 b.f1.f0) := (blk_cell R2'.out 1).trans rfl
      have hc2 : wr.cell? ⟨g2, 2, none⟩ = some (.int .u64 b.f1.f1) := (blk_cell R2'.out 2).trans rfl
      have hd0 : wr.cell? ⟨g1, 0, none⟩ = some (.int .u64 0) := (blk_cell R1.out 0).trans rfl
      have hd1 : wr.cell? ⟨g1, 1, none⟩ = some (.int .u64 0) := (blk_cell R1.out 1).trans rfl
      have hf0 : wr.frozen? ⟨g1, 0, none⟩ = false := blk_frozen R1.out 0
      have hf1 : wr.frozen? ⟨g1, 1, none⟩ = false := blk_frozen R1.out 1
      have hr := H.out
      unfold ballot_Pick.f at hr
      rw [← HB.out] at hr
      simp only [Option.some.injEq, Prod.mk.injEq] at hr
      obtain ⟨rfl, rfl, rfl⟩ := hr
      clear H
      have hq := neq74 b
      go_wp2
      go_region
      all_goals go_wp2
      all_goals
        refine bodyPost_ret (results_ct rfl _ _ g1 52 #[.int .u64 b.f1.f0, .int .u64 b.f1.f1] (0, 0) _ rfl (by refine blk_put (cs := #[.int .u64 b.f1.f0, .int .u64 0]) ?_ 1 _ rfl; refine blk_put (cs := #[.int .u64 0, .int .u64 0]) ?_ 0 _ rfl; exact blk_drew R1.out) Tryd.underlying52 rfl (by kernel_rfl)) rfl ?_
        exact ⟨rfl, by repeat (first | exact RB.out | refine below_set ?_ L0 | refine below_drew1 ?_)⟩
end Go.Proofs.YtkjjegakfceibaaDoor.B
