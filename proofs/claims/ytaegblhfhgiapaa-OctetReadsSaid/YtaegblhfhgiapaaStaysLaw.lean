/- OctetStays, by hand: the law's own walk. -/
import Derived.Test.YtaegblhfhgiapaaTextOk
namespace Go.Proofs.Ytaegblhfhgiapaa.R
open Go.RowKit Go.Proofs.YtaegblhfhgiapaaW.PrintWords Go.Proofs.YtaegblhfhgiapaaW.PrintLast Go.Proofs.YtaegblhfhgiapaaW.PrintMore Go.Proofs.Ytaegblhfhgiapaa.B

/-- what a reader says, and where it stands then -/
def Says (f : Nat) (w0 : World) (s : ByteArray) (p : Int) (more : List Value) (r : Value) (q : Int) : Prop :=
  ∀ g w, IsS63 w0 w g s p → Below w0.heap.size w0 w → Calls Try.prog f (#[.pointer (some ⟨g, 0, none⟩)] ++ more.toArray) w fun e w' => e = .returned r ∧ IsS63 w0 w' g s q ∧ Below w0.heap.size w0 w'
theorem left_says (w0 : World) (s : ByteArray) (p : Int) (hs : s.size < 4611686018427387904) (h0 : 0 ≤ p) (h1 : p ≤ s.size) : Says 16 w0 s p [] (.int .i64 ((s.size : Int) - p)) p := by
  intro g w hI hB
  have hw : octet_Reader_Left.f s p = some ((s.size : Int) - p, s, p) := by
    have : wrap64 ((s.size : Int) - p) = (s.size : Int) - p := by unfold wrap64; omega
    unfold octet_Reader_Left.f
    rw [this]
  exact (octet_Reader_Left.calls g s p _ _ _ w0 w hI hB hw).mono fun e w' h => ⟨h.1, h.2.1, h.2.2.1⟩
/-- a number, as it is read at the start -/
theorem number_says (w0 : World) (s : ByteArray) (W : Int) (hs : s.size < 4611686018427387904) :
    (∃ v, Says 15 w0 s 0 [.int .i64 W] (.tuple #[.int .u64 v, .int .i64 0]) W ∧ 0 ≤ W ∧ W ≤ s.size) ∨ (∃ v er, ¬ er = 0 ∧ Says 15 w0 s 0 [.int .i64 W] (.tuple #[.int .u64 v, .int .i64 er]) 0) := by
  have go : ∀ k v er q, octet_Reader_Number.f k s 0 W = some (v, er, s, q) → Says 15 w0 s 0 [.int .i64 W] (.tuple #[.int .u64 v, .int .i64 er]) q :=
    fun k v er q h g w hI hB => (octet_Reader_Number.calls k g s 0 W v er s q w0 w hI hB h).mono fun e w' h => ⟨h.1, h.2.1, h.2.2.1⟩
  by_cases h : W < 1 ∨ 8 < W
  · exact .inr ⟨0, 1, by decide, go 1 _ _ _ (num_arg s 0 W h)⟩
  · obtain ⟨W, rfl⟩ := Int.eq_ofNat_of_zero_le (show 0 ≤ W by omega)
    by_cases hl : W ≤ s.size
    · have := num_ok s 0 W (by omega) (by omega) hs (by omega)
      have e0 : ((0 : Nat) : Int) + (W : Int) = W := by omega
      rw [e0] at this
      exact .inl ⟨_, go (W + 2) _ _ _ this, by omega, by omega⟩
    · exact .inr ⟨0, 10, by decide, go (W + 2) _ _ _ (num_short s 0 W (by omega) (by omega) (by omega) (by omega))⟩
/-- a text, as it is read at the start -/
theorem text_says (w0 : World) (s : ByteArray) (most : Int) (hs : s.size < 4611686018427387904) :
    (∃ r q, Says 17 w0 s 0 [.int .i64 most] (.tuple #[.string r, .int .i64 0]) q ∧ 0 ≤ q ∧ q ≤ s.size) ∨ (∃ er, ¬ er = 0 ∧ Says 17 w0 s 0 [.int .i64 most] (.tuple #[.string ⟨#[]⟩, .int .i64 er]) 0) := by
  by_cases h1 : s.size < 2
  · exact .inr ⟨10, by decide, fun g w hI hB => (text_short w0 w g s 0 most hI hB (Nat.zero_le _) (by omega)).mono fun e w' h => ⟨h.1, h.2.1, h.2.2.1⟩⟩
  · by_cases h2 : most < rdv s 0 2
    · exact .inr ⟨12, by decide, fun g w hI hB => (text_wide w0 w g s 0 most hI hB hs (by omega) h2).mono fun e w' h => ⟨h.1, h.2.1, h.2.2.1⟩⟩
    · by_cases h3 : (s.size : Int) - (((0 : Nat) : Int) + 2) < rdv s 0 2
      · exact .inr ⟨10, by decide, fun g w hI hB => (text_few w0 w g s 0 most hI hB hs (by omega) h2 h3).mono fun e w' h => ⟨h.1, h.2.1, h.2.2.1⟩⟩
      · have hr := (rdv_range s 2 0).1
        exact .inl ⟨_, _, fun g w hI hB => (text_ok w0 w g s 0 most hI hB hs (by omega) h2 h3).mono fun e w' h => ⟨h.1, h.2.1, h.2.2.1⟩, by omega, by omega⟩
theorem stays_long (s : ByteArray) (n W : Int) (w : World) (h : (300 : Int) < s.size) : Calls Try.prog 5 #[.string s, .int .u64 n, .int .i64 W] w fun e w' => e = .returned (.bool true) ∧ Below w.heap.size w w' := by
  have HS := Aside0.mk shown_at
  go_enter Try.func5, Try.ntmps5
  go_wp2_with (go_at_call 10; (with_reducible refine (HS.out _).mono ?_); rintro e w1 ⟨rfl, hb⟩; have B1 := Aside0.mk hb; clear hb)
  go_ret
  exact ⟨rfl, B1.out⟩
set_option maxHeartbeats 4000000 in
theorem stays_walk (s : ByteArray) (n W v1 e1 q1 e2 q2 L1 L2 : Int) (r2 : ByteArray) (w : World) (hs : ¬ (300 : Int) < s.size) (hW : -9223372036854775808 ≤ W ∧ W < 9223372036854775808)
    (HN : Aside0 (octet_New.f s = some (s, 0)))
    (H1 : Aside0 (Says 15 w s 0 [.int .i64 W] (.tuple #[.int .u64 v1, .int .i64 e1]) q1))
    (HL1 : Aside0 (Says 16 w s q1 [] (.int .i64 L1) q1))
    (H2 : Aside0 (Says 17 w s 0 [.int .i64 3] (.tuple #[.string r2, .int .i64 e2]) q2))
    (HL2 : Aside0 (Says 16 w s q2 [] (.int .i64 L2) q2))
    (c1 : (e1 = 0 ∧ L1 = (s.size : Int) - W ∧ 0 ≤ W ∧ W ≤ s.size) ∨ (¬ e1 = 0 ∧ L1 = (s.size : Int))) (c2 : e2 = 0 ∨ (¬ e2 = 0 ∧ L2 = (s.size : Int)))
    (hn : 0 ≤ n) (hn1 : n < 18446744073709551616) :
    Calls Try.prog 5 #[.string s, .int .u64 n, .int .i64 W] w fun e w' => e = .returned (.bool true) ∧ Below w.heap.size w w' := by
  have HS := Aside0.mk shown_at
  have K1 : Aside0 (∀ g w1, IsS63 w w1 g s 0 → Below w.heap.size w w1 → Calls Try.prog 15 #[.pointer (some ⟨g, 0, none⟩), .int .i64 W] w1 fun e w2 => e = .returned (.tuple #[.int .u64 v1, .int .i64 e1]) ∧ IsS63 w w2 g s q1 ∧ Below w.heap.size w w2) := ⟨H1.out⟩
  have K2 : Aside0 (∀ g w1, IsS63 w w1 g s q1 → Below w.heap.size w w1 → Calls Try.prog 16 #[.pointer (some ⟨g, 0, none⟩)] w1 fun e w2 => e = .returned (.int .i64 L1) ∧ IsS63 w w2 g s q1 ∧ Below w.heap.size w w2) := ⟨HL1.out⟩
  have K3 : Aside0 (∀ g w1, IsS63 w w1 g s 0 → Below w.heap.size w w1 → Calls Try.prog 17 #[.pointer (some ⟨g, 0, none⟩), .int .i64 3] w1 fun e w2 => e = .returned (.tuple #[.string r2, .int .i64 e2]) ∧ IsS63 w w2 g s q2 ∧ Below w.heap.size w w2) := ⟨H2.out⟩
  have K4 : Aside0 (∀ g w1, IsS63 w w1 g s q2 → Below w.heap.size w w1 → Calls Try.prog 16 #[.pointer (some ⟨g, 0, none⟩)] w1 fun e w2 => e = .returned (.int .i64 L2) ∧ IsS63 w w2 g s q2 ∧ Below w.heap.size w w2) := ⟨HL2.out⟩
  have hw : wrap64 ((s.size : Int) - W) = (s.size : Int) - W ∨ ¬ e1 = 0 := by
    rcases c1 with ⟨_, _, h0, h1⟩ | ⟨h, _⟩
    · left; unfold wrap64; omega
    · exact .inr h
  have hsb : fits n W = true → 0 < W ∧ ((strOfNums ([] ++ le W.toNat n)).size : Int) = W := fun h => by
    simp only [fits, Bool.and_eq_true, decide_eq_true_eq] at h
    refine ⟨by omega, ?_⟩
    rw [strOfNums_size, List.nil_append, le_length]
    omega
  have Y : Aside0 (∀ (k : Nat) (g c : Nat) (A : Option Addr) (u : World) (l : List Int), Wr u w.heap.size g A c l → Calls Try.prog 11 #[.pointer (some ⟨g, 0, none⟩)] u fun e w' => e = .returned (.string (strOfNums l)) ∧ u = w') := ⟨fun _ g c A u l h => bytes_at _ g A c l u h⟩
  have HW := Aside0.mk hW
  have HC1 := Aside0.mk c1
  have HC2 := Aside0.mk c2
  have Hw := Aside0.mk hw
  have HSB := Aside0.mk hsb
  have N0 := Aside0.mk hn
  have N1 := Aside0.mk hn1
  clear H1 HL1 H2 HL2 hw hsb hW c1 c2 hn hn1
  by_cases hf : fits n W = true
  · have HF := Aside0.mk hf
    obtain ⟨hp, hsz⟩ := HSB.out hf
    generalize hS : strOfNums ([] ++ le W.toNat n) = sb at hsz
    have HSS := Aside0.mk hS
    have Y' : Aside0 (∀ (g c : Nat) (A : Option Addr) (u : World), Wr u w.heap.size g A c ([] ++ le W.toNat n) → Calls Try.prog 11 #[.pointer (some ⟨g, 0, none⟩)] u fun e w' => e = .returned (.string sb) ∧ u = w') := ⟨fun g c A u h => hS ▸ Y.out 0 g c A u _ h⟩
    clear hf hS HSS
    rcases HC1.out with ⟨rfl, rfl, _, _⟩ | ⟨h1, rfl⟩ <;> rcases HC2.out with rfl | ⟨h2, rfl⟩
    ·
      have hw := Hw.out.resolve_right (by simp)
      clear HC1 HC2 Hw HSB
      go_enter Try.func5, Try.ntmps5
      go_wp2_with (first
      | (go_at_call 10; (with_reducible refine (HS.out _).mono ?_); rintro e w1 ⟨rfl, hb⟩; have B := Aside0.mk hb; clear hb)
      | (go_at_call 14; (with_reducible refine (octet_New.calls _ _ _ w _ B.out HN.out).mono ?_); rintro e w2 ⟨g, rfl, hI, hb, _⟩; replace B := Aside0.mk hb; have I := Aside0.mk hI; clear hI hb)
      | (go_at_call 15; (with_reducible refine (K1.out _ _ I.out B.out).mono ?_); rintro e w3 ⟨rfl, hI, hb⟩; replace B := Aside0.mk hb; have J := Aside0.mk hI; clear hI hb)
      | (go_at_call 17; (with_reducible refine (K3.out _ _ I.out B.out).mono ?_); rintro e w4 ⟨rfl, hI, hb⟩; replace B := Aside0.mk hb; have T := Aside0.mk hI; clear hI hb)
      | (go_at_call 16; (with_reducible refine (K4.out _ _ T.out B.out).mono ?_); rintro e w5 ⟨rfl, hI, hb⟩; replace B := Aside0.mk hb; clear hI hb)
      | (go_at_call 16; (with_reducible refine (K2.out _ _ J.out B.out).mono ?_); rintro e w6 ⟨rfl, hI, hb⟩; replace B := Aside0.mk hb; clear hI hb)
      | ((with_reducible refine gate_dst (N := 70) rfl ?_); refine box_event ?hg (N := 70) ?hd (cs := #[.slice none 0 0]) (t := 26) ?hr ?_; (case hd => rfl); (case hg => rfl); (case hr => first | (go_simp; done) | (go_simp; rfl)); intro g3 hg wn hbn hBn; have V := Aside0.mk (Wr.new (base := w.heap.size) hbn (by have := B.out.size; omega)); replace B := Aside0.mk (below_step B.out hBn); clear hg hbn hBn)
      | (go_at_call 9; (with_reducible refine (number_at w.heap.size g3 none 0 [] n W _ N0.out HF.out (by decide) V.out).mono ?_); rintro e w8 ⟨rfl, A, c, hW, hS⟩; replace B := Aside0.mk (Stp.below V.out hS B.out); replace V := Aside0.mk hW; have HY := Aside0.mk (Y'.out g3 c A w8 V.out); clear hW hS)
      | (go_at_call 11; (with_reducible refine HY.out.mono ?_); rintro e w9 ⟨rfl, rfl⟩))
      go_ret
      exact ⟨rfl, B.out⟩
    ·
      have hw := Hw.out.resolve_right (by simp)
      have h2' : (e2 == 0) = false := by simpa using h2
      have h2'' : (e2 != 0) = true := by simpa using h2
      clear HC1 HC2 Hw HSB
      go_enter Try.func5, Try.ntmps5
      go_wp2_with (first
      | (go_at_call 10; (with_reducible refine (HS.out _).mono ?_); rintro e w1 ⟨rfl, hb⟩; have B := Aside0.mk hb; clear hb)
      | (go_at_call 14; (with_reducible refine (octet_New.calls _ _ _ w _ B.out HN.out).mono ?_); rintro e w2 ⟨g, rfl, hI, hb, _⟩; replace B := Aside0.mk hb; have I := Aside0.mk hI; clear hI hb)
      | (go_at_call 15; (with_reducible refine (K1.out _ _ I.out B.out).mono ?_); rintro e w3 ⟨rfl, hI, hb⟩; replace B := Aside0.mk hb; have J := Aside0.mk hI; clear hI hb)
      | (go_at_call 17; (with_reducible refine (K3.out _ _ I.out B.out).mono ?_); rintro e w4 ⟨rfl, hI, hb⟩; replace B := Aside0.mk hb; have T := Aside0.mk hI; clear hI hb)
      | (go_at_call 16; (with_reducible refine (K4.out _ _ T.out B.out).mono ?_); rintro e w5 ⟨rfl, hI, hb⟩; replace B := Aside0.mk hb; clear hI hb)
      | (go_at_call 16; (with_reducible refine (K2.out _ _ J.out B.out).mono ?_); rintro e w6 ⟨rfl, hI, hb⟩; replace B := Aside0.mk hb; clear hI hb)
      | ((with_reducible refine gate_dst (N := 70) rfl ?_); refine box_event ?hg (N := 70) ?hd (cs := #[.slice none 0 0]) (t := 26) ?hr ?_; (case hd => rfl); (case hg => rfl); (case hr => first | (go_simp; done) | (go_simp; rfl)); intro g3 hg wn hbn hBn; have V := Aside0.mk (Wr.new (base := w.heap.size) hbn (by have := B.out.size; omega)); replace B := Aside0.mk (below_step B.out hBn); clear hg hbn hBn)
      | (go_at_call 9; (with_reducible refine (number_at w.heap.size g3 none 0 [] n W _ N0.out HF.out (by decide) V.out).mono ?_); rintro e w8 ⟨rfl, A, c, hW, hS⟩; replace B := Aside0.mk (Stp.below V.out hS B.out); replace V := Aside0.mk hW; have HY := Aside0.mk (Y'.out g3 c A w8 V.out); clear hW hS)
      | (go_at_call 11; (with_reducible refine HY.out.mono ?_); rintro e w9 ⟨rfl, rfl⟩))
      go_ret
      exact ⟨rfl, B.out⟩
    ·
      have h1' : (e1 == 0) = false := by simpa using h1
      have h1'' : (e1 != 0) = true := by simpa using h1
      clear HC1 HC2 Hw HSB
      go_enter Try.func5, Try.ntmps5
      go_wp2_with (first
      | (go_at_call 10; (with_reducible refine (HS.out _).mono ?_); rintro e w1 ⟨rfl, hb⟩; have B := Aside0.mk hb; clear hb)
      | (go_at_call 14; (with_reducible refine (octet_New.calls _ _ _ w _ B.out HN.out).mono ?_); rintro e w2 ⟨g, rfl, hI, hb, _⟩; replace B := Aside0.mk hb; have I := Aside0.mk hI; clear hI hb)
      | (go_at_call 15; (with_reducible refine (K1.out _ _ I.out B.out).mono ?_); rintro e w3 ⟨rfl, hI, hb⟩; replace B := Aside0.mk hb; have J := Aside0.mk hI; clear hI hb)
      | (go_at_call 17; (with_reducible refine (K3.out _ _ I.out B.out).mono ?_); rintro e w4 ⟨rfl, hI, hb⟩; replace B := Aside0.mk hb; have T := Aside0.mk hI; clear hI hb)
      | (go_at_call 16; (with_reducible refine (K4.out _ _ T.out B.out).mono ?_); rintro e w5 ⟨rfl, hI, hb⟩; replace B := Aside0.mk hb; clear hI hb)
      | (go_at_call 16; (with_reducible refine (K2.out _ _ J.out B.out).mono ?_); rintro e w6 ⟨rfl, hI, hb⟩; replace B := Aside0.mk hb; clear hI hb)
      | ((with_reducible refine gate_dst (N := 70) rfl ?_); refine box_event ?hg (N := 70) ?hd (cs := #[.slice none 0 0]) (t := 26) ?hr ?_; (case hd => rfl); (case hg => rfl); (case hr => first | (go_simp; done) | (go_simp; rfl)); intro g3 hg wn hbn hBn; have V := Aside0.mk (Wr.new (base := w.heap.size) hbn (by have := B.out.size; omega)); replace B := Aside0.mk (below_step B.out hBn); clear hg hbn hBn)
      | (go_at_call 9; (with_reducible refine (number_at w.heap.size g3 none 0 [] n W _ N0.out HF.out (by decide) V.out).mono ?_); rintro e w8 ⟨rfl, A, c, hW, hS⟩; replace B := Aside0.mk (Stp.below V.out hS B.out); replace V := Aside0.mk hW; have HY := Aside0.mk (Y'.out g3 c A w8 V.out); clear hW hS)
      | (go_at_call 11; (with_reducible refine HY.out.mono ?_); rintro e w9 ⟨rfl, rfl⟩))
      go_ret
      exact ⟨rfl, B.out⟩
    ·
      have h1' : (e1 == 0) = false := by simpa using h1
      have h1'' : (e1 != 0) = true := by simpa using h1
      have h2' : (e2 == 0) = false := by simpa using h2
      have h2'' : (e2 != 0) = true := by simpa using h2
      clear HC1 HC2 Hw HSB
      go_enter Try.func5, Try.ntmps5
      go_wp2_with (first
      | (go_at_call 10; (with_reducible refine (HS.out _).mono ?_); rintro e w1 ⟨rfl, hb⟩; have B := Aside0.mk hb; clear hb)
      | (go_at_call 14; (with_reducible refine (octet_New.calls _ _ _ w _ B.out HN.out).mono ?_); rintro e w2 ⟨g, rfl, hI, hb, _⟩; replace B := Aside0.mk hb; have I := Aside0.mk hI; clear hI hb)
      | (go_at_call 15; (with_reducible refine (K1.out _ _ I.out B.out).mono ?_); rintro e w3 ⟨rfl, hI, hb⟩; replace B := Aside0.mk hb; have J := Aside0.mk hI; clear hI hb)
      | (go_at_call 17; (with_reducible refine (K3.out _ _ I.out B.out).mono ?_); rintro e w4 ⟨rfl, hI, hb⟩; replace B := Aside0.mk hb; have T := Aside0.mk hI; clear hI hb)
      | (go_at_call 16; (with_reducible refine (K4.out _ _ T.out B.out).mono ?_); rintro e w5 ⟨rfl, hI, hb⟩; replace B := Aside0.mk hb; clear hI hb)
      | (go_at_call 16; (with_reducible refine (K2.out _ _ J.out B.out).mono ?_); rintro e w6 ⟨rfl, hI, hb⟩; replace B := Aside0.mk hb; clear hI hb)
      | ((with_reducible refine gate_dst (N := 70) rfl ?_); refine box_event ?hg (N := 70) ?hd (cs := #[.slice none 0 0]) (t := 26) ?hr ?_; (case hd => rfl); (case hg => rfl); (case hr => first | (go_simp; done) | (go_simp; rfl)); intro g3 hg wn hbn hBn; have V := Aside0.mk (Wr.new (base := w.heap.size) hbn (by have := B.out.size; omega)); replace B := Aside0.mk (below_step B.out hBn); clear hg hbn hBn)
      | (go_at_call 9; (with_reducible refine (number_at w.heap.size g3 none 0 [] n W _ N0.out HF.out (by decide) V.out).mono ?_); rintro e w8 ⟨rfl, A, c, hW, hS⟩; replace B := Aside0.mk (Stp.below V.out hS B.out); replace V := Aside0.mk hW; have HY := Aside0.mk (Y'.out g3 c A w8 V.out); clear hW hS)
      | (go_at_call 11; (with_reducible refine HY.out.mono ?_); rintro e w9 ⟨rfl, rfl⟩))
      go_ret
      exact ⟨rfl, B.out⟩
  · have HF : Aside0 (fits n W = false) := ⟨by simpa using hf⟩
    have hsz : ((strOfNums []).size : Int) = 0 := rfl
    clear hf
    rcases HC1.out with ⟨rfl, rfl, _, _⟩ | ⟨h1, rfl⟩ <;> rcases HC2.out with rfl | ⟨h2, rfl⟩
    ·
      have hw := Hw.out.resolve_right (by simp)
      clear HC1 HC2 Hw HSB
      go_enter Try.func5, Try.ntmps5
      go_wp2_with (first
      | (go_at_call 10; (with_reducible refine (HS.out _).mono ?_); rintro e w1 ⟨rfl, hb⟩; have B := Aside0.mk hb; clear hb)
      | (go_at_call 14; (with_reducible refine (octet_New.calls _ _ _ w _ B.out HN.out).mono ?_); rintro e w2 ⟨g, rfl, hI, hb, _⟩; replace B := Aside0.mk hb; have I := Aside0.mk hI; clear hI hb)
      | (go_at_call 15; (with_reducible refine (K1.out _ _ I.out B.out).mono ?_); rintro e w3 ⟨rfl, hI, hb⟩; replace B := Aside0.mk hb; have J := Aside0.mk hI; clear hI hb)
      | (go_at_call 17; (with_reducible refine (K3.out _ _ I.out B.out).mono ?_); rintro e w4 ⟨rfl, hI, hb⟩; replace B := Aside0.mk hb; have T := Aside0.mk hI; clear hI hb)
      | (go_at_call 16; (with_reducible refine (K4.out _ _ T.out B.out).mono ?_); rintro e w5 ⟨rfl, hI, hb⟩; replace B := Aside0.mk hb; clear hI hb)
      | (go_at_call 16; (with_reducible refine (K2.out _ _ J.out B.out).mono ?_); rintro e w6 ⟨rfl, hI, hb⟩; replace B := Aside0.mk hb; clear hI hb)
      | ((with_reducible refine gate_dst (N := 70) rfl ?_); refine box_event ?hg (N := 70) ?hd (cs := #[.slice none 0 0]) (t := 26) ?hr ?_; (case hd => rfl); (case hg => rfl); (case hr => first | (go_simp; done) | (go_simp; rfl)); intro g3 hg wn hbn hBn; have V := Aside0.mk (Wr.new (base := w.heap.size) hbn (by have := B.out.size; omega)); replace B := Aside0.mk (below_step B.out hBn); clear hg hbn hBn)
      | (go_at_call 9; (with_reducible refine (number_not g3 n W _ N0.out N1.out HF.out).mono ?_); rintro e w8 ⟨rfl, rfl⟩; have HY := Aside0.mk (Y.out 0 g3 0 none _ _ V.out))
      | (go_at_call 11; (with_reducible refine HY.out.mono ?_); rintro e w9 ⟨rfl, rfl⟩))
      go_ret
      exact ⟨rfl, B.out⟩
    ·
      have hw := Hw.out.resolve_right (by simp)
      have h2' : (e2 == 0) = false := by simpa using h2
      have h2'' : (e2 != 0) = true := by simpa using h2
      clear HC1 HC2 Hw HSB
      go_enter Try.func5, Try.ntmps5
      go_wp2_with (first
      | (go_at_call 10; (with_reducible refine (HS.out _).mono ?_); rintro e w1 ⟨rfl, hb⟩; have B := Aside0.mk hb; clear hb)
      | (go_at_call 14; (with_reducible refine (octet_New.calls _ _ _ w _ B.out HN.out).mono ?_); rintro e w2 ⟨g, rfl, hI, hb, _⟩; replace B := Aside0.mk hb; have I := Aside0.mk hI; clear hI hb)
      | (go_at_call 15; (with_reducible refine (K1.out _ _ I.out B.out).mono ?_); rintro e w3 ⟨rfl, hI, hb⟩; replace B := Aside0.mk hb; have J := Aside0.mk hI; clear hI hb)
      | (go_at_call 17; (with_reducible refine (K3.out _ _ I.out B.out).mono ?_); rintro e w4 ⟨rfl, hI, hb⟩; replace B := Aside0.mk hb; have T := Aside0.mk hI; clear hI hb)
      | (go_at_call 16; (with_reducible refine (K4.out _ _ T.out B.out).mono ?_); rintro e w5 ⟨rfl, hI, hb⟩; replace B := Aside0.mk hb; clear hI hb)
      | (go_at_call 16; (with_reducible refine (K2.out _ _ J.out B.out).mono ?_); rintro e w6 ⟨rfl, hI, hb⟩; replace B := Aside0.mk hb; clear hI hb)
      | ((with_reducible refine gate_dst (N := 70) rfl ?_); refine box_event ?hg (N := 70) ?hd (cs := #[.slice none 0 0]) (t := 26) ?hr ?_; (case hd => rfl); (case hg => rfl); (case hr => first | (go_simp; done) | (go_simp; rfl)); intro g3 hg wn hbn hBn; have V := Aside0.mk (Wr.new (base := w.heap.size) hbn (by have := B.out.size; omega)); replace B := Aside0.mk (below_step B.out hBn); clear hg hbn hBn)
      | (go_at_call 9; (with_reducible refine (number_not g3 n W _ N0.out N1.out HF.out).mono ?_); rintro e w8 ⟨rfl, rfl⟩; have HY := Aside0.mk (Y.out 0 g3 0 none _ _ V.out))
      | (go_at_call 11; (with_reducible refine HY.out.mono ?_); rintro e w9 ⟨rfl, rfl⟩))
      go_ret
      exact ⟨rfl, B.out⟩
    ·
      have h1' : (e1 == 0) = false := by simpa using h1
      have h1'' : (e1 != 0) = true := by simpa using h1
      clear HC1 HC2 Hw HSB
      go_enter Try.func5, Try.ntmps5
      go_wp2_with (first
      | (go_at_call 10; (with_reducible refine (HS.out _).mono ?_); rintro e w1 ⟨rfl, hb⟩; have B := Aside0.mk hb; clear hb)
      | (go_at_call 14; (with_reducible refine (octet_New.calls _ _ _ w _ B.out HN.out).mono ?_); rintro e w2 ⟨g, rfl, hI, hb, _⟩; replace B := Aside0.mk hb; have I := Aside0.mk hI; clear hI hb)
      | (go_at_call 15; (with_reducible refine (K1.out _ _ I.out B.out).mono ?_); rintro e w3 ⟨rfl, hI, hb⟩; replace B := Aside0.mk hb; have J := Aside0.mk hI; clear hI hb)
      | (go_at_call 17; (with_reducible refine (K3.out _ _ I.out B.out).mono ?_); rintro e w4 ⟨rfl, hI, hb⟩; replace B := Aside0.mk hb; have T := Aside0.mk hI; clear hI hb)
      | (go_at_call 16; (with_reducible refine (K4.out _ _ T.out B.out).mono ?_); rintro e w5 ⟨rfl, hI, hb⟩; replace B := Aside0.mk hb; clear hI hb)
      | (go_at_call 16; (with_reducible refine (K2.out _ _ J.out B.out).mono ?_); rintro e w6 ⟨rfl, hI, hb⟩; replace B := Aside0.mk hb; clear hI hb)
      | ((with_reducible refine gate_dst (N := 70) rfl ?_); refine box_event ?hg (N := 70) ?hd (cs := #[.slice none 0 0]) (t := 26) ?hr ?_; (case hd => rfl); (case hg => rfl); (case hr => first | (go_simp; done) | (go_simp; rfl)); intro g3 hg wn hbn hBn; have V := Aside0.mk (Wr.new (base := w.heap.size) hbn (by have := B.out.size; omega)); replace B := Aside0.mk (below_step B.out hBn); clear hg hbn hBn)
      | (go_at_call 9; (with_reducible refine (number_not g3 n W _ N0.out N1.out HF.out).mono ?_); rintro e w8 ⟨rfl, rfl⟩; have HY := Aside0.mk (Y.out 0 g3 0 none _ _ V.out))
      | (go_at_call 11; (with_reducible refine HY.out.mono ?_); rintro e w9 ⟨rfl, rfl⟩))
      go_ret
      exact ⟨rfl, B.out⟩
    ·
      have h1' : (e1 == 0) = false := by simpa using h1
      have h1'' : (e1 != 0) = true := by simpa using h1
      have h2' : (e2 == 0) = false := by simpa using h2
      have h2'' : (e2 != 0) = true := by simpa using h2
      clear HC1 HC2 Hw HSB
      go_enter Try.func5, Try.ntmps5
      go_wp2_with (first
      | (go_at_call 10; (with_reducible refine (HS.out _).mono ?_); rintro e w1 ⟨rfl, hb⟩; have B := Aside0.mk hb; clear hb)
      | (go_at_call 14; (with_reducible refine (octet_New.calls _ _ _ w _ B.out HN.out).mono ?_); rintro e w2 ⟨g, rfl, hI, hb, _⟩; replace B := Aside0.mk hb; have I := Aside0.mk hI; clear hI hb)
      | (go_at_call 15; (with_reducible refine (K1.out _ _ I.out B.out).mono ?_); rintro e w3 ⟨rfl, hI, hb⟩; replace B := Aside0.mk hb; have J := Aside0.mk hI; clear hI hb)
      | (go_at_call 17; (with_reducible refine (K3.out _ _ I.out B.out).mono ?_); rintro e w4 ⟨rfl, hI, hb⟩; replace B := Aside0.mk hb; have T := Aside0.mk hI; clear hI hb)
      | (go_at_call 16; (with_reducible refine (K4.out _ _ T.out B.out).mono ?_); rintro e w5 ⟨rfl, hI, hb⟩; replace B := Aside0.mk hb; clear hI hb)
      | (go_at_call 16; (with_reducible refine (K2.out _ _ J.out B.out).mono ?_); rintro e w6 ⟨rfl, hI, hb⟩; replace B := Aside0.mk hb; clear hI hb)
      | ((with_reducible refine gate_dst (N := 70) rfl ?_); refine box_event ?hg (N := 70) ?hd (cs := #[.slice none 0 0]) (t := 26) ?hr ?_; (case hd => rfl); (case hg => rfl); (case hr => first | (go_simp; done) | (go_simp; rfl)); intro g3 hg wn hbn hBn; have V := Aside0.mk (Wr.new (base := w.heap.size) hbn (by have := B.out.size; omega)); replace B := Aside0.mk (below_step B.out hBn); clear hg hbn hBn)
      | (go_at_call 9; (with_reducible refine (number_not g3 n W _ N0.out N1.out HF.out).mono ?_); rintro e w8 ⟨rfl, rfl⟩; have HY := Aside0.mk (Y.out 0 g3 0 none _ _ V.out))
      | (go_at_call 11; (with_reducible refine HY.out.mono ?_); rintro e w9 ⟨rfl, rfl⟩))
      go_ret
      exact ⟨rfl, B.out⟩
theorem stays_law (s : ByteArray) (n W : Int) (_ : s.size ≤ maxLen) (hn : (Lit.int .u64 n).wf = true) (hW : (Lit.int .i64 W).wf = true) (w : World) :
    Calls Try.prog 5 #[.string s, .int .u64 n, .int .i64 W] w fun e w' => e = .returned (.bool true) ∧ Below w.heap.size w w' := by
  have n0 : 0 ≤ n ∧ n < 18446744073709551616 := by simp [Lit.wf, IntKind.min, IntKind.max, IntKind.signed, IntKind.bits] at hn; omega
  have W0 : -9223372036854775808 ≤ W ∧ W < 9223372036854775808 := by simp [Lit.wf, IntKind.min, IntKind.max, IntKind.signed, IntKind.bits] at hW; omega
  by_cases hl : (300 : Int) < s.size
  · exact stays_long s n W w hl
  · have hs : s.size < 4611686018427387904 := by omega
    obtain ⟨v1, e1, q1, b0, b1, H1, c1⟩ : ∃ v1 e1 q1, 0 ≤ q1 ∧ q1 ≤ (s.size : Int) ∧ Says 15 w s 0 [.int .i64 W] (.tuple #[.int .u64 v1, .int .i64 e1]) q1 ∧
        ((e1 = 0 ∧ (s.size : Int) - q1 = (s.size : Int) - W ∧ 0 ≤ W ∧ W ≤ s.size) ∨ (¬ e1 = 0 ∧ (s.size : Int) - q1 = (s.size : Int))) := by
      rcases number_says w s W hs with ⟨v, h, h0, h1⟩ | ⟨v, er, he, h⟩
      · exact ⟨v, 0, W, h0, h1, h, .inl ⟨rfl, rfl, h0, h1⟩⟩
      · exact ⟨v, er, 0, by omega, by omega, h, .inr ⟨he, by omega⟩⟩
    obtain ⟨r2, e2, q2, d0, d1, H2, c2⟩ : ∃ r2 e2 q2, 0 ≤ q2 ∧ q2 ≤ (s.size : Int) ∧ Says 17 w s 0 [.int .i64 3] (.tuple #[.string r2, .int .i64 e2]) q2 ∧
        (e2 = 0 ∨ (¬ e2 = 0 ∧ (s.size : Int) - q2 = (s.size : Int))) := by
      rcases text_says w s 3 hs with ⟨r, q, h, h0, h1⟩ | ⟨er, he, h⟩
      · exact ⟨r, 0, q, h0, h1, h, .inl rfl⟩
      · exact ⟨_, er, 0, by omega, by omega, h, .inr ⟨he, by omega⟩⟩
    exact stays_walk s n W v1 e1 q1 e2 q2 _ _ r2 w hl W0 ⟨rfl⟩ ⟨H1⟩ ⟨left_says w s q1 hs b0 b1⟩ ⟨H2⟩ ⟨left_says w s q2 hs d0 d1⟩ c1 c2 n0.1 n0.2
end Go.Proofs.Ytaegblhfhgiapaa.R
