/- OctetReal, by hand: the law's own walk. -/
import Derived.Test.YtaegblhfhgiapaaFrames
namespace Go.Proofs.Ytaegblhfhgiapaa.R
open Go.RowKit Go.Proofs.YtaegblhfhgiapaaW.PrintWords Go.Proofs.YtaegblhfhgiapaaW.PrintLast Go.Proofs.YtaegblhfhgiapaaW.PrintMore Go.Proofs.Ytaegblhfhgiapaa.B

theorem le_inj : ∀ (k : Nat) (a b : Int), 0 ≤ a → 0 ≤ b → a < 256 ^ k → b < 256 ^ k → le k a = le k b → a = b
  | 0, a, b, ha, hb, la, lb, _ => by simp at la lb; omega
  | k + 1, a, b, ha, hb, la, lb, h => by
    rw [le, le] at h
    injection h with h1 h2
    have e : (256 : Int) ^ (k + 1) = 256 * 256 ^ k := by rw [Int.pow_succ, Int.mul_comm]
    rw [e] at la lb
    have := le_inj k (a / 256) (b / 256) (by omega) (by omega) (by omega) (by omega) h2
    omega
theorem le_byte : ∀ (k : Nat) (n : Int), ∀ x ∈ le k n, 0 ≤ x ∧ x < 256
  | 0, _, x, h => by simp [le] at h
  | k + 1, n, x, h => by
    rw [le] at h
    rcases List.mem_cons.1 h with rfl | h
    · omega
    · exact le_byte k _ x h
theorem str_inj : ∀ (xs ys : List Int), (∀ x ∈ xs, 0 ≤ x ∧ x < 256) → (∀ x ∈ ys, 0 ≤ x ∧ x < 256) → strOfNums xs = strOfNums ys → xs = ys := by
  have key : ∀ (xs ys : List Int), (∀ x ∈ xs, 0 ≤ x ∧ x < 256) → (∀ x ∈ ys, 0 ≤ x ∧ x < 256) → (xs.map fun n => UInt8.ofNat n.toNat) = (ys.map fun n => UInt8.ofNat n.toNat) → xs = ys := by
    intro xs
    induction xs with
    | nil => intro ys _ _ h; cases ys with
      | nil => rfl
      | cons y ys => simp at h
    | cons x xs ih =>
      intro ys hx hy h
      cases ys with
      | nil => simp at h
      | cons y ys =>
        rw [List.map_cons, List.map_cons] at h
        injection h with h1 h2
        have bx := hx x (List.mem_cons_self ..)
        have bY := hy y (List.mem_cons_self ..)
        have e := congrArg UInt8.toNat h1
        rw [UInt8.toNat_ofNat', UInt8.toNat_ofNat'] at e
        have : x = y := by omega
        rw [this, ih ys (fun z hz => hx z (List.mem_cons_of_mem _ hz)) (fun z hz => hy z (List.mem_cons_of_mem _ hz)) h2]
  intro xs ys hx hy h
  refine key xs ys hx hy ?_
  have := congrArg (fun s : ByteArray => s.data.toList) h
  simpa [strOfNums_data] using this
theorem str_beq (xs ys : List Int) (hx : ∀ x ∈ xs, 0 ≤ x ∧ x < 256) (hy : ∀ y ∈ ys, 0 ≤ y ∧ y < 256) : ((strOfNums xs).toList == (strOfNums ys).toList) = decide (xs = ys) := by
  rw [Bool.eq_iff_iff, decide_eq_true_eq]
  constructor
  · intro h
    have h1 := eq_of_beq h
    rw [ByteArray.toList_eq, ByteArray.toList_eq] at h1
    exact str_inj xs ys hx hy (ByteArray.ext (Array.toList_inj.1 h1))
  · rintro rfl
    exact beq_self_eq_true _
theorem alike_at (x y : Nat) (w : World) : Calls Try.prog 13 #[.float .f64 x, .float .f64 y] w fun e w' => e = .returned (.bool ((x : Int) == (y : Int))) ∧ w = w' := by
  have HX := bits_run x
  have HY := bits_run y
  go_enter Try.func13, Try.ntmps13
  go_wp2
  go_ret
  exact ⟨rfl, rfl⟩
theorem rbits_lt (x : Nat) (hx : x < 18446744073709551616) : rbits x < 18446744073709551616 := by unfold rbits; split <;> omega
theorem rbits_eq (x y : Nat) : rbits x = rbits y ↔ (Flt.nan x = true ∧ Flt.nan y = true) ∨ x = y := by
  have odd : Flt.nan 9221120237041090561 = true := by decide
  unfold rbits
  constructor
  · intro h
    by_cases hx : Flt.nan x = true
    · by_cases hy : Flt.nan y = true
      · exact .inl ⟨hx, hy⟩
      · rw [if_pos hx, if_neg hy] at h
        have e : y = 9221120237041090561 := by omega
        rw [e] at hy
        exact absurd odd hy
    · by_cases hy : Flt.nan y = true
      · rw [if_neg hx, if_pos hy] at h
        have e : x = 9221120237041090561 := by omega
        rw [e] at hx
        exact absurd odd hx
      · rw [if_neg hx, if_neg hy] at h
        exact .inr (by omega)
  · rintro (⟨hx, hy⟩ | rfl)
    · rw [if_pos hx, if_pos hy]
    · rfl
set_option maxHeartbeats 2000000 in
theorem real_law (x y : Nat) (hx : x < 18446744073709551616) (hy : y < 18446744073709551616) (w : World) :
    Calls Try.prog 4 #[.float .f64 x, .float .f64 y] w fun e w' => e = .returned (.bool true) ∧ Below w.heap.size w w' := by
  have HS := Aside0.mk shown_at
  have nx := ord_self x
  have ny := ord_self y
  have HA := Aside0.mk (alike_at x y)
  have hb : ((strOfNums ([] ++ le 8 (rbits x))).toList == (strOfNums ([] ++ le 8 (rbits y))).toList) = ((Flt.nan x && Flt.nan y) || ((x : Int) == (y : Int))) := by
    rw [List.nil_append, List.nil_append, str_beq _ _ (le_byte 8 _) (le_byte 8 _), Bool.eq_iff_iff]
    simp only [decide_eq_true_eq, Bool.or_eq_true, Bool.and_eq_true, beq_iff_eq, Int.natCast_inj]
    rw [← rbits_eq]
    constructor
    · intro h
      exact le_inj 8 _ _ (rbits_pos x) (rbits_pos y) (rbits_lt x hx) (rbits_lt y hy) h
    · intro h; rw [h]
  have hsz : ((strOfNums ([] ++ le 8 (rbits x))).size : Int) = 8 := by rw [strOfNums_size, List.nil_append, le_length]; rfl
  have Y1 : Aside0 (∀ (g c : Nat) (A : Option Addr) (u : World), Wr u w.heap.size g A c ([] ++ le 8 (rbits x)) → Calls Try.prog 11 #[.pointer (some ⟨g, 0, none⟩)] u fun e w' => e = .returned (.string (strOfNums ([] ++ le 8 (rbits x)))) ∧ u = w') := ⟨fun g c A u h => bytes_at _ g A c _ u h⟩
  have Y2 : Aside0 (∀ (g c : Nat) (A : Option Addr) (u : World), Wr u w.heap.size g A c ([] ++ le 8 (rbits y)) → Calls Try.prog 11 #[.pointer (some ⟨g, 0, none⟩)] u fun e w' => e = .returned (.string (strOfNums ([] ++ le 8 (rbits y)))) ∧ u = w') := ⟨fun g c A u h => bytes_at _ g A c _ u h⟩
  generalize strOfNums ([] ++ le 8 (rbits x)) = sa at hb hsz Y1
  generalize strOfNums ([] ++ le 8 (rbits y)) = sb at hb Y2
  clear hx hy
  generalize ((x : Int) == (y : Int)) = al at hb HA
  generalize Flt.nan x = px at nx hb
  generalize Flt.nan y = py at ny hb
  have HBB := Aside0.mk hb
  clear hb
  cases px <;> cases py <;> cases al
  all_goals
    have hb := HBB.out
    simp only [Bool.and_self, Bool.and_false, Bool.and_true, Bool.or_true, Bool.or_false, Bool.or_self] at hb
    clear HBB
    go_enter Try.func4, Try.ntmps4
    go_wp2_with (first
      | ((with_reducible refine gate_dst (N := 9) rfl ?_); refine box_event ?hg (N := 9) ?hd (cs := #[.slice none 0 0]) (t := 26) ?hr ?_; (case hd => rfl); (case hg => rfl); (case hr => first | (go_simp; done) | (go_simp; rfl)); intro g1 hg w1 hb1 hB1; have V1 := Aside0.mk (Wr.new (base := w.heap.size) hb1 (by omega)); have B1 := Aside0.mk hB1; clear hg hb1 hB1)
      | ((with_reducible refine gate_dst (N := 11) rfl ?_); refine box_event ?hg (N := 11) ?hd (cs := #[.slice none 0 0]) (t := 26) ?hr ?_; (case hd => rfl); (case hg => rfl); (case hr => first | (go_simp; done) | (go_simp; rfl)); intro g2 hg w2 hb2 hB2; have hne := Aside0.mk (show g1 ≠ g2 by have := V1.out.lt; omega); have W2 := Aside0.mk (Wr.new (base := w.heap.size) hb2 (by have := B1.out.size; omega)); have V2 := Aside0.mk (V1.out.keep hB2); have B2 := Aside0.mk (below_step B1.out hB2); clear hg hb2 hB2)
      | (go_at_call 12; (with_reducible refine (real_at w.heap.size g1 none 0 [] x w2 (by decide) V2.out).mono ?_); rintro e w3 ⟨rfl, A1, c1, hW, hS⟩; have B3 := Aside0.mk (Stp.below V2.out hS B2.out); have W3 := Aside0.mk (W2.out.other V2.out hne.out.symm (Apart.none _) hS); have V3 := Aside0.mk hW; clear hW hS)
      | (go_at_call 12; (with_reducible refine (real_at w.heap.size g2 none 0 [] y w3 (by decide) W3.out.1).mono ?_); rintro e w4 ⟨rfl, A2, c2, hW, hS⟩; have B4 := Aside0.mk (Stp.below W3.out.1 hS B3.out); have V4 := Aside0.mk (V3.out.other W3.out.1 hne.out W3.out.2.symm hS).1; have W4 := Aside0.mk hW; clear hW hS)
      | (go_at_call 11; (with_reducible refine (Y1.out g1 c1 A1 w4 V4.out).mono ?_); rintro e w5 ⟨rfl, rfl⟩)
      | (go_at_call 11; (with_reducible refine (Y2.out g2 c2 A2 w4 W4.out).mono ?_); rintro e w5 ⟨rfl, rfl⟩)
      | (go_at_call 13; (with_reducible refine (HA.out _).mono ?_); rintro e w6 ⟨rfl, rfl⟩)
      | (go_at_call 10; (with_reducible refine (HS.out _).mono ?_); rintro e w7 ⟨rfl, hb7⟩; have B7 := Aside0.mk (below_step B4.out hb7); clear hb7))
    go_ret
    exact ⟨rfl, B7.out⟩
end Go.Proofs.Ytaegblhfhgiapaa.R
