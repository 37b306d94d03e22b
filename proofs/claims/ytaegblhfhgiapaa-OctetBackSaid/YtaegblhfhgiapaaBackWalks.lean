/- OctetBack, by hand: the law's walk, width by width (printed by back_walks.py). -/
import Derived.Test.YtaegblhfhgiapaaBack
namespace Go.Proofs.Ytaegblhfhgiapaa.R
open Go.RowKit Go.Proofs.YtaegblhfhgiapaaW.PrintWords Go.Proofs.YtaegblhfhgiapaaW.PrintLast Go.Proofs.YtaegblhfhgiapaaW.PrintMore Go.Proofs.Ytaegblhfhgiapaa.B

theorem back_long1 (n z : Int) (x : Nat) (s rest : ByteArray) (w : World) (h : (300 : Int) < s.size) : Calls Try.prog 8 #[.int .u64 n, .int .u8 z, .float .f64 x, .string s, .string rest] w fun e w' => e = .returned (.bool true) ∧ Below w.heap.size w w' := by
  have HS := Aside0.mk shown_at
  go_enter Try.func8, Try.ntmps8
  go_wp2_with (go_at_call 10; (with_reducible refine (HS.out _).mono ?_); rintro e w1 ⟨rfl, hb⟩; have B1 := Aside0.mk hb; clear hb)
  go_ret
  exact ⟨rfl, B1.out⟩
theorem back_long2 (n z : Int) (x : Nat) (s rest : ByteArray) (w : World) (h1 : ¬ (300 : Int) < s.size) (h : (300 : Int) < rest.size) : Calls Try.prog 8 #[.int .u64 n, .int .u8 z, .float .f64 x, .string s, .string rest] w fun e w' => e = .returned (.bool true) ∧ Below w.heap.size w w' := by
  have HS := Aside0.mk shown_at
  go_enter Try.func8, Try.ntmps8
  go_wp2_with (go_at_call 10; (with_reducible refine (HS.out _).mono ?_); rintro e w1 ⟨rfl, hb⟩; have B1 := Aside0.mk hb; clear hb)
  go_ret
  exact ⟨rfl, B1.out⟩
set_option maxHeartbeats 4000000 in
set_option maxRecDepth 100000 in
theorem back_walk1 (n z x y : Nat) (v q1 q2 q3 : Int) (s rest sb : ByteArray) (w : World) (al : Bool) (hz8 : (z : Int) < 256) (hr : Int.tmod (z : Int) 8 = 0) (hv : Int.tmod (n : Int) 256 = v)
    (h1 : ¬ (300 : Int) < s.size) (h2 : ¬ (300 : Int) < rest.size) (hss : ¬ 9223372036854775807 < sb.size + rest.size) (fv : Aside0 (fits v 1 = true)) (v0 : Aside0 (0 ≤ v))
    (Y : Aside0 (∀ (g c : Nat) (A : Option Addr) (u : World), Wr u w.heap.size g A c ((([] ++ le (Int.toNat 1) v) ++ le 8 (rbits x)) ++ le 2 (s.size : Int) ++ bytesOf s) → Calls Try.prog 11 #[.pointer (some ⟨g, 0, none⟩)] u fun e w' => e = .returned (.string sb) ∧ u = w'))
    (HN : Aside0 (octet_New.f (sb ++ rest) = some (sb ++ rest, 0)))
    (K1 : Aside0 (∀ g w1, IsS63 w w1 g (sb ++ rest) 0 → Below w.heap.size w w1 → Calls Try.prog 15 #[.pointer (some ⟨g, 0, none⟩), .int .i64 1] w1 fun e w2 => e = .returned (.tuple #[.int .u64 v, .int .i64 0]) ∧ IsS63 w w2 g (sb ++ rest) q1 ∧ Below w.heap.size w w2))
    (K2 : Aside0 (∀ g w1, IsS63 w w1 g (sb ++ rest) q1 → Below w.heap.size w w1 → Calls Try.prog 23 #[.pointer (some ⟨g, 0, none⟩)] w1 fun e w2 => e = .returned (.tuple #[.float .f64 y, .int .i64 0]) ∧ IsS63 w w2 g (sb ++ rest) q2 ∧ Below w.heap.size w w2))
    (K3 : Aside0 (∀ g w1, IsS63 w w1 g (sb ++ rest) q2 → Below w.heap.size w w1 → Calls Try.prog 17 #[.pointer (some ⟨g, 0, none⟩), .int .i64 s.size] w1 fun e w2 => e = .returned (.tuple #[.string s, .int .i64 0]) ∧ IsS63 w w2 g (sb ++ rest) q3 ∧ Below w.heap.size w w2))
    (K4 : Aside0 (∀ g w1, IsS63 w w1 g (sb ++ rest) q3 → Below w.heap.size w w1 → Calls Try.prog 16 #[.pointer (some ⟨g, 0, none⟩)] w1 fun e w2 => e = .returned (.int .i64 rest.size) ∧ IsS63 w w2 g (sb ++ rest) q3 ∧ Below w.heap.size w w2))
    (A1 : Aside0 (∀ w, Calls Try.prog 13 #[.float .f64 x, .float .f64 y] w fun e w' => e = .returned (.bool al) ∧ w = w'))
    (hal : al = true ∨ ((FloatKind.f64.format.order x x != some .eq) = true ∧ (FloatKind.f64.format.order y y != some .eq) = true ∧ ∀ w, Calls Try.prog 13 #[.float .f64 y, .float .f64 9221120237041090561] w fun e w' => e = .returned (.bool true) ∧ w = w')) :
    Calls Try.prog 8 #[.int .u64 n, .int .u8 z, .float .f64 x, .string s, .string rest] w fun e w' => e = .returned (.bool true) ∧ Below w.heap.size w w' := by
  have HS := Aside0.mk shown_at
  have HF := frombits_run 9221120237041090561
  have H1 := Aside0.mk h1
  have L1 : Aside0 (([] ++ le (Int.toNat 1) v).length ≤ 1000000) := ⟨by rw [List.nil_append, le_length]; decide⟩
  have L2 : Aside0 ((([] ++ le (Int.toNat 1) v) ++ le 8 (rbits x)).length ≤ 100000) := ⟨by rw [List.length_append, List.nil_append, le_length, le_length]; decide⟩
  have HA := Aside0.mk hal
  clear hal
  rcases HA.out with rfl | ⟨nx, ny, a2⟩
  · clear HA
    go_enter Try.func8, Try.ntmps8
    go_wp2_with (first
      | (go_at_call 10; (with_reducible refine (HS.out _).mono ?_); rintro e w1 ⟨rfl, hb⟩; have B := Aside0.mk hb; clear hb)
      | ((with_reducible refine gate_dst (N := 48) rfl ?_); refine box_event ?hg (N := 48) ?hd (cs := #[.slice none 0 0]) (t := 26) ?hr ?_; (case hd => rfl); (case hg => rfl); (case hr => first | (go_simp; done) | (go_simp; rfl)); intro g3 hg wn hbn hBn; have V := Aside0.mk (Wr.new (base := w.heap.size) hbn (by have := B.out.size; omega)); replace B := Aside0.mk (below_step B.out hBn); clear hg hbn hBn)
      | (go_at_call 9; (with_reducible refine (number_at w.heap.size g3 none 0 [] v 1 _ v0.out fv.out (by decide) V.out).mono ?_); rintro e w8 ⟨rfl, A, c, hW, hS⟩; replace B := Aside0.mk (Stp.below V.out hS B.out); replace V := Aside0.mk hW; clear hW hS)
      | (go_at_call 12; (with_reducible refine (real_at w.heap.size g3 A c _ x _ L1.out V.out).mono ?_); rintro e w9 ⟨rfl, A2, c2, hW, hS⟩; replace B := Aside0.mk (Stp.below V.out hS B.out); replace V := Aside0.mk hW; clear hW hS)
      | (go_at_call 20; (with_reducible refine (wtext_at w.heap.size g3 A2 c2 _ s _ L2.out (by have := H1.out; omega) V.out).mono ?_); rintro e w10 ⟨rfl, hS, A3, c3, hW⟩; replace B := Aside0.mk (B.out.trans hS); replace V := Aside0.mk hW; clear hW hS)
      | (go_at_call 11; (with_reducible refine (Y.out g3 _ _ _ V.out).mono ?_); rintro e w11 ⟨rfl, rfl⟩)
      | (go_at_call 14; (with_reducible refine (octet_New.calls _ _ _ w _ B.out HN.out).mono ?_); rintro e w2 ⟨g, rfl, hI, hb, _⟩; replace B := Aside0.mk hb; have J := Aside0.mk hI; clear hI hb)
      | (go_at_call 15; (with_reducible refine (K1.out _ _ J.out B.out).mono ?_); rintro e w3 ⟨rfl, hI, hb⟩; replace B := Aside0.mk hb; replace J := Aside0.mk hI; clear hI hb)
      | (go_at_call 23; (with_reducible refine (K2.out _ _ J.out B.out).mono ?_); rintro e w4 ⟨rfl, hI, hb⟩; replace B := Aside0.mk hb; replace J := Aside0.mk hI; clear hI hb)
      | (go_at_call 17; (with_reducible refine (K3.out _ _ J.out B.out).mono ?_); rintro e w5 ⟨rfl, hI, hb⟩; replace B := Aside0.mk hb; replace J := Aside0.mk hI; clear hI hb)
      | (go_at_call 16; (with_reducible refine (K4.out _ _ J.out B.out).mono ?_); rintro e w6 ⟨rfl, hI, hb⟩; replace B := Aside0.mk hb; clear hI hb)
      | (go_at_call 13; (with_reducible refine (A1.out _).mono ?_); rintro e w7 ⟨rfl, rfl⟩))
    go_ret
    exact ⟨rfl, B.out⟩
  · have A2' := Aside0.mk a2
    clear HA a2
    cases al
    all_goals
      go_enter Try.func8, Try.ntmps8
      go_wp2_with (first
        | (go_at_call 10; (with_reducible refine (HS.out _).mono ?_); rintro e w1 ⟨rfl, hb⟩; have B := Aside0.mk hb; clear hb)
        | ((with_reducible refine gate_dst (N := 48) rfl ?_); refine box_event ?hg (N := 48) ?hd (cs := #[.slice none 0 0]) (t := 26) ?hr ?_; (case hd => rfl); (case hg => rfl); (case hr => first | (go_simp; done) | (go_simp; rfl)); intro g3 hg wn hbn hBn; have V := Aside0.mk (Wr.new (base := w.heap.size) hbn (by have := B.out.size; omega)); replace B := Aside0.mk (below_step B.out hBn); clear hg hbn hBn)
        | (go_at_call 9; (with_reducible refine (number_at w.heap.size g3 none 0 [] v 1 _ v0.out fv.out (by decide) V.out).mono ?_); rintro e w8 ⟨rfl, A, c, hW, hS⟩; replace B := Aside0.mk (Stp.below V.out hS B.out); replace V := Aside0.mk hW; clear hW hS)
        | (go_at_call 12; (with_reducible refine (real_at w.heap.size g3 A c _ x _ L1.out V.out).mono ?_); rintro e w9 ⟨rfl, A2, c2, hW, hS⟩; replace B := Aside0.mk (Stp.below V.out hS B.out); replace V := Aside0.mk hW; clear hW hS)
        | (go_at_call 20; (with_reducible refine (wtext_at w.heap.size g3 A2 c2 _ s _ L2.out (by have := H1.out; omega) V.out).mono ?_); rintro e w10 ⟨rfl, hS, A3, c3, hW⟩; replace B := Aside0.mk (B.out.trans hS); replace V := Aside0.mk hW; clear hW hS)
        | (go_at_call 11; (with_reducible refine (Y.out g3 _ _ _ V.out).mono ?_); rintro e w11 ⟨rfl, rfl⟩)
        | (go_at_call 14; (with_reducible refine (octet_New.calls _ _ _ w _ B.out HN.out).mono ?_); rintro e w2 ⟨g, rfl, hI, hb, _⟩; replace B := Aside0.mk hb; have J := Aside0.mk hI; clear hI hb)
        | (go_at_call 15; (with_reducible refine (K1.out _ _ J.out B.out).mono ?_); rintro e w3 ⟨rfl, hI, hb⟩; replace B := Aside0.mk hb; replace J := Aside0.mk hI; clear hI hb)
        | (go_at_call 23; (with_reducible refine (K2.out _ _ J.out B.out).mono ?_); rintro e w4 ⟨rfl, hI, hb⟩; replace B := Aside0.mk hb; replace J := Aside0.mk hI; clear hI hb)
        | (go_at_call 17; (with_reducible refine (K3.out _ _ J.out B.out).mono ?_); rintro e w5 ⟨rfl, hI, hb⟩; replace B := Aside0.mk hb; replace J := Aside0.mk hI; clear hI hb)
        | (go_at_call 16; (with_reducible refine (K4.out _ _ J.out B.out).mono ?_); rintro e w6 ⟨rfl, hI, hb⟩; replace B := Aside0.mk hb; clear hI hb)
        | (go_at_call 13; (with_reducible refine (A1.out _).mono ?_); rintro e w7 ⟨rfl, rfl⟩)
        | (go_at_call 13; (with_reducible refine (A2'.out _).mono ?_); rintro e w7 ⟨rfl, rfl⟩))
      go_ret
      exact ⟨rfl, B.out⟩
set_option maxHeartbeats 4000000 in
set_option maxRecDepth 100000 in
theorem back_walk2 (n z x y : Nat) (v q1 q2 q3 : Int) (s rest sb : ByteArray) (w : World) (al : Bool) (hz8 : (z : Int) < 256) (hr : Int.tmod (z : Int) 8 = 1) (hv : Int.tmod (n : Int) 65536 = v)
    (h1 : ¬ (300 : Int) < s.size) (h2 : ¬ (300 : Int) < rest.size) (hss : ¬ 9223372036854775807 < sb.size + rest.size) (fv : Aside0 (fits v 2 = true)) (v0 : Aside0 (0 ≤ v))
    (Y : Aside0 (∀ (g c : Nat) (A : Option Addr) (u : World), Wr u w.heap.size g A c ((([] ++ le (Int.toNat 2) v) ++ le 8 (rbits x)) ++ le 2 (s.size : Int) ++ bytesOf s) → Calls Try.prog 11 #[.pointer (some ⟨g, 0, none⟩)] u fun e w' => e = .returned (.string sb) ∧ u = w'))
    (HN : Aside0 (octet_New.f (sb ++ rest) = some (sb ++ rest, 0)))
    (K1 : Aside0 (∀ g w1, IsS63 w w1 g (sb ++ rest) 0 → Below w.heap.size w w1 → Calls Try.prog 15 #[.pointer (some ⟨g, 0, none⟩), .int .i64 2] w1 fun e w2 => e = .returned (.tuple #[.int .u64 v, .int .i64 0]) ∧ IsS63 w w2 g (sb ++ rest) q1 ∧ Below w.heap.size w w2))
    (K2 : Aside0 (∀ g w1, IsS63 w w1 g (sb ++ rest) q1 → Below w.heap.size w w1 → Calls Try.prog 23 #[.pointer (some ⟨g, 0, none⟩)] w1 fun e w2 => e = .returned (.tuple #[.float .f64 y, .int .i64 0]) ∧ IsS63 w w2 g (sb ++ rest) q2 ∧ Below w.heap.size w w2))
    (K3 : Aside0 (∀ g w1, IsS63 w w1 g (sb ++ rest) q2 → Below w.heap.size w w1 → Calls Try.prog 17 #[.pointer (some ⟨g, 0, none⟩), .int .i64 s.size] w1 fun e w2 => e = .returned (.tuple #[.string s, .int .i64 0]) ∧ IsS63 w w2 g (sb ++ rest) q3 ∧ Below w.heap.size w w2))
    (K4 : Aside0 (∀ g w1, IsS63 w w1 g (sb ++ rest) q3 → Below w.heap.size w w1 → Calls Try.prog 16 #[.pointer (some ⟨g, 0, none⟩)] w1 fun e w2 => e = .returned (.int .i64 rest.size) ∧ IsS63 w w2 g (sb ++ rest) q3 ∧ Below w.heap.size w w2))
    (A1 : Aside0 (∀ w, Calls Try.prog 13 #[.float .f64 x, .float .f64 y] w fun e w' => e = .returned (.bool al) ∧ w = w'))
    (hal : al = true ∨ ((FloatKind.f64.format.order x x != some .eq) = true ∧ (FloatKind.f64.format.order y y != some .eq) = true ∧ ∀ w, Calls Try.prog 13 #[.float .f64 y, .float .f64 9221120237041090561] w fun e w' => e = .returned (.bool true) ∧ w = w')) :
    Calls Try.prog 8 #[.int .u64 n, .int .u8 z, .float .f64 x, .string s, .string rest] w fun e w' => e = .returned (.bool true) ∧ Below w.heap.size w w' := by
  have HS := Aside0.mk shown_at
  have HF := frombits_run 9221120237041090561
  have H1 := Aside0.mk h1
  have L1 : Aside0 (([] ++ le (Int.toNat 2) v).length ≤ 1000000) := ⟨by rw [List.nil_append, le_length]; decide⟩
  have L2 : Aside0 ((([] ++ le (Int.toNat 2) v) ++ le 8 (rbits x)).length ≤ 100000) := ⟨by rw [List.length_append, List.nil_append, le_length, le_length]; decide⟩
  have HA := Aside0.mk hal
  clear hal
  rcases HA.out with rfl | ⟨nx, ny, a2⟩
  · clear HA
    go_enter Try.func8, Try.ntmps8
    go_wp2_with (first
      | (go_at_call 10; (with_reducible refine (HS.out _).mono ?_); rintro e w1 ⟨rfl, hb⟩; have B := Aside0.mk hb; clear hb)
      | ((with_reducible refine gate_dst (N := 48) rfl ?_); refine box_event ?hg (N := 48) ?hd (cs := #[.slice none 0 0]) (t := 26) ?hr ?_; (case hd => rfl); (case hg => rfl); (case hr => first | (go_simp; done) | (go_simp; rfl)); intro g3 hg wn hbn hBn; have V := Aside0.mk (Wr.new (base := w.heap.size) hbn (by have := B.out.size; omega)); replace B := Aside0.mk (below_step B.out hBn); clear hg hbn hBn)
      | (go_at_call 9; (with_reducible refine (number_at w.heap.size g3 none 0 [] v 2 _ v0.out fv.out (by decide) V.out).mono ?_); rintro e w8 ⟨rfl, A, c, hW, hS⟩; replace B := Aside0.mk (Stp.below V.out hS B.out); replace V := Aside0.mk hW; clear hW hS)
      | (go_at_call 12; (with_reducible refine (real_at w.heap.size g3 A c _ x _ L1.out V.out).mono ?_); rintro e w9 ⟨rfl, A2, c2, hW, hS⟩; replace B := Aside0.mk (Stp.below V.out hS B.out); replace V := Aside0.mk hW; clear hW hS)
      | (go_at_call 20; (with_reducible refine (wtext_at w.heap.size g3 A2 c2 _ s _ L2.out (by have := H1.out; omega) V.out).mono ?_); rintro e w10 ⟨rfl, hS, A3, c3, hW⟩; replace B := Aside0.mk (B.out.trans hS); replace V := Aside0.mk hW; clear hW hS)
      | (go_at_call 11; (with_reducible refine (Y.out g3 _ _ _ V.out).mono ?_); rintro e w11 ⟨rfl, rfl⟩)
      | (go_at_call 14; (with_reducible refine (octet_New.calls _ _ _ w _ B.out HN.out).mono ?_); rintro e w2 ⟨g, rfl, hI, hb, _⟩; replace B := Aside0.mk hb; have J := Aside0.mk hI; clear hI hb)
      | (go_at_call 15; (with_reducible refine (K1.out _ _ J.out B.out).mono ?_); rintro e w3 ⟨rfl, hI, hb⟩; replace B := Aside0.mk hb; replace J := Aside0.mk hI; clear hI hb)
      | (go_at_call 23; (with_reducible refine (K2.out _ _ J.out B.out).mono ?_); rintro e w4 ⟨rfl, hI, hb⟩; replace B := Aside0.mk hb; replace J := Aside0.mk hI; clear hI hb)
      | (go_at_call 17; (with_reducible refine (K3.out _ _ J.out B.out).mono ?_); rintro e w5 ⟨rfl, hI, hb⟩; replace B := Aside0.mk hb; replace J := Aside0.mk hI; clear hI hb)
      | (go_at_call 16; (with_reducible refine (K4.out _ _ J.out B.out).mono ?_); rintro e w6 ⟨rfl, hI, hb⟩; replace B := Aside0.mk hb; clear hI hb)
      | (go_at_call 13; (with_reducible refine (A1.out _).mono ?_); rintro e w7 ⟨rfl, rfl⟩))
    go_ret
    exact ⟨rfl, B.out⟩
  · have A2' := Aside0.mk a2
    clear HA a2
    cases al
    all_goals
      go_enter Try.func8, Try.ntmps8
      go_wp2_with (first
        | (go_at_call 10; (with_reducible refine (HS.out _).mono ?_); rintro e w1 ⟨rfl, hb⟩; have B := Aside0.mk hb; clear hb)
        | ((with_reducible refine gate_dst (N := 48) rfl ?_); refine box_event ?hg (N := 48) ?hd (cs := #[.slice none 0 0]) (t := 26) ?hr ?_; (case hd => rfl); (case hg => rfl); (case hr => first | (go_simp; done) | (go_simp; rfl)); intro g3 hg wn hbn hBn; have V := Aside0.mk (Wr.new (base := w.heap.size) hbn (by have := B.out.size; omega)); replace B := Aside0.mk (below_step B.out hBn); clear hg hbn hBn)
        | (go_at_call 9; (with_reducible refine (number_at w.heap.size g3 none 0 [] v 2 _ v0.out fv.out (by decide) V.out).mono ?_); rintro e w8 ⟨rfl, A, c, hW, hS⟩; replace B := Aside0.mk (Stp.below V.out hS B.out); replace V := Aside0.mk hW; clear hW hS)
        | (go_at_call 12; (with_reducible refine (real_at w.heap.size g3 A c _ x _ L1.out V.out).mono ?_); rintro e w9 ⟨rfl, A2, c2, hW, hS⟩; replace B := Aside0.mk (Stp.below V.out hS B.out); replace V := Aside0.mk hW; clear hW hS)
        | (go_at_call 20; (with_reducible refine (wtext_at w.heap.size g3 A2 c2 _ s _ L2.out (by have := H1.out; omega) V.out).mono ?_); rintro e w10 ⟨rfl, hS, A3, c3, hW⟩; replace B := Aside0.mk (B.out.trans hS); replace V := Aside0.mk hW; clear hW hS)
        | (go_at_call 11; (with_reducible refine (Y.out g3 _ _ _ V.out).mono ?_); rintro e w11 ⟨rfl, rfl⟩)
        | (go_at_call 14; (with_reducible refine (octet_New.calls _ _ _ w _ B.out HN.out).mono ?_); rintro e w2 ⟨g, rfl, hI, hb, _⟩; replace B := Aside0.mk hb; have J := Aside0.mk hI; clear hI hb)
        | (go_at_call 15; (with_reducible refine (K1.out _ _ J.out B.out).mono ?_); rintro e w3 ⟨rfl, hI, hb⟩; replace B := Aside0.mk hb; replace J := Aside0.mk hI; clear hI hb)
        | (go_at_call 23; (with_reducible refine (K2.out _ _ J.out B.out).mono ?_); rintro e w4 ⟨rfl, hI, hb⟩; replace B := Aside0.mk hb; replace J := Aside0.mk hI; clear hI hb)
        | (go_at_call 17; (with_reducible refine (K3.out _ _ J.out B.out).mono ?_); rintro e w5 ⟨rfl, hI, hb⟩; replace B := Aside0.mk hb; replace J := Aside0.mk hI; clear hI hb)
        | (go_at_call 16; (with_reducible refine (K4.out _ _ J.out B.out).mono ?_); rintro e w6 ⟨rfl, hI, hb⟩; replace B := Aside0.mk hb; clear hI hb)
        | (go_at_call 13; (with_reducible refine (A1.out _).mono ?_); rintro e w7 ⟨rfl, rfl⟩)
        | (go_at_call 13; (with_reducible refine (A2'.out _).mono ?_); rintro e w7 ⟨rfl, rfl⟩))
      go_ret
      exact ⟨rfl, B.out⟩
set_option maxHeartbeats 4000000 in
set_option maxRecDepth 100000 in
theorem back_walk3 (n z x y : Nat) (v q1 q2 q3 : Int) (s rest sb : ByteArray) (w : World) (al : Bool) (hz8 : (z : Int) < 256) (hr : Int.tmod (z : Int) 8 = 2) (hv : Int.tmod (n : Int) 16777216 = v)
    (h1 : ¬ (300 : Int) < s.size) (h2 : ¬ (300 : Int) < rest.size) (hss : ¬ 9223372036854775807 < sb.size + rest.size) (fv : Aside0 (fits v 3 = true)) (v0 : Aside0 (0 ≤ v))
    (Y : Aside0 (∀ (g c : Nat) (A : Option Addr) (u : World), Wr u w.heap.size g A c ((([] ++ le (Int.toNat 3) v) ++ le 8 (rbits x)) ++ le 2 (s.size : Int) ++ bytesOf s) → Calls Try.prog 11 #[.pointer (some ⟨g, 0, none⟩)] u fun e w' => e = .returned (.string sb) ∧ u = w'))
    (HN : Aside0 (octet_New.f (sb ++ rest) = some (sb ++ rest, 0)))
    (K1 : Aside0 (∀ g w1, IsS63 w w1 g (sb ++ rest) 0 → Below w.heap.size w w1 → Calls Try.prog 15 #[.pointer (some ⟨g, 0, none⟩), .int .i64 3] w1 fun e w2 => e = .returned (.tuple #[.int .u64 v, .int .i64 0]) ∧ IsS63 w w2 g (sb ++ rest) q1 ∧ Below w.heap.size w w2))
    (K2 : Aside0 (∀ g w1, IsS63 w w1 g (sb ++ rest) q1 → Below w.heap.size w w1 → Calls Try.prog 23 #[.pointer (some ⟨g, 0, none⟩)] w1 fun e w2 => e = .returned (.tuple #[.float .f64 y, .int .i64 0]) ∧ IsS63 w w2 g (sb ++ rest) q2 ∧ Below w.heap.size w w2))
    (K3 : Aside0 (∀ g w1, IsS63 w w1 g (sb ++ rest) q2 → Below w.heap.size w w1 → Calls Try.prog 17 #[.pointer (some ⟨g, 0, none⟩), .int .i64 s.size] w1 fun e w2 => e = .returned (.tuple #[.string s, .int .i64 0]) ∧ IsS63 w w2 g (sb ++ rest) q3 ∧ Below w.heap.size w w2))
    (K4 : Aside0 (∀ g w1, IsS63 w w1 g (sb ++ rest) q3 → Below w.heap.size w w1 → Calls Try.prog 16 #[.pointer (some ⟨g, 0, none⟩)] w1 fun e w2 => e = .returned (.int .i64 rest.size) ∧ IsS63 w w2 g (sb ++ rest) q3 ∧ Below w.heap.size w w2))
    (A1 : Aside0 (∀ w, Calls Try.prog 13 #[.float .f64 x, .float .f64 y] w fun e w' => e = .returned (.bool al) ∧ w = w'))
    (hal : al = true ∨ ((FloatKind.f64.format.order x x != some .eq) = true ∧ (FloatKind.f64.format.order y y != some .eq) = true ∧ ∀ w, Calls Try.prog 13 #[.float .f64 y, .float .f64 9221120237041090561] w fun e w' => e = .returned (.bool true) ∧ w = w')) :
    Calls Try.prog 8 #[.int .u64 n, .int .u8 z, .float .f64 x, .string s, .string rest] w fun e w' => e = .returned (.bool true) ∧ Below w.heap.size w w' := by
  have HS := Aside0.mk shown_at
  have HF := frombits_run 9221120237041090561
  have H1 := Aside0.mk h1
  have L1 : Aside0 (([] ++ le (Int.toNat 3) v).length ≤ 1000000) := ⟨by rw [List.nil_append, le_length]; decide⟩
  have L2 : Aside0 ((([] ++ le (Int.toNat 3) v) ++ le 8 (rbits x)).length ≤ 100000) := ⟨by rw [List.length_append, List.nil_append, le_length, le_length]; decide⟩
  have HA := Aside0.mk hal
  clear hal
  rcases HA.out with rfl | ⟨nx, ny, a2⟩
  · clear HA
    go_enter Try.func8, Try.ntmps8
    go_wp2_with (first
      | (go_at_call 10; (with_reducible refine (HS.out _).mono ?_); rintro e w1 ⟨rfl, hb⟩; have B := Aside0.mk hb; clear hb)
      | ((with_reducible refine gate_dst (N := 48) rfl ?_); refine box_event ?hg (N := 48) ?hd (cs := #[.slice none 0 0]) (t := 26) ?hr ?_; (case hd => rfl); (case hg => rfl); (case hr => first | (go_simp; done) | (go_simp; rfl)); intro g3 hg wn hbn hBn; have V := Aside0.mk (Wr.new (base := w.heap.size) hbn (by have := B.out.size; omega)); replace B := Aside0.mk (below_step B.out hBn); clear hg hbn hBn)
      | (go_at_call 9; (with_reducible refine (number_at w.heap.size g3 none 0 [] v 3 _ v0.out fv.out (by decide) V.out).mono ?_); rintro e w8 ⟨rfl, A, c, hW, hS⟩; replace B := Aside0.mk (Stp.below V.out hS B.out); replace V := Aside0.mk hW; clear hW hS)
      | (go_at_call 12; (with_reducible refine (real_at w.heap.size g3 A c _ x _ L1.out V.out).mono ?_); rintro e w9 ⟨rfl, A2, c2, hW, hS⟩; replace B := Aside0.mk (Stp.below V.out hS B.out); replace V := Aside0.mk hW; clear hW hS)
      | (go_at_call 20; (with_reducible refine (wtext_at w.heap.size g3 A2 c2 _ s _ L2.out (by have := H1.out; omega) V.out).mono ?_); rintro e w10 ⟨rfl, hS, A3, c3, hW⟩; replace B := Aside0.mk (B.out.trans hS); replace V := Aside0.mk hW; clear hW hS)
      | (go_at_call 11; (with_reducible refine (Y.out g3 _ _ _ V.out).mono ?_); rintro e w11 ⟨rfl, rfl⟩)
      | (go_at_call 14; (with_reducible refine (octet_New.calls _ _ _ w _ B.out HN.out).mono ?_); rintro e w2 ⟨g, rfl, hI, hb, _⟩; replace B := Aside0.mk hb; have J := Aside0.mk hI; clear hI hb)
      | (go_at_call 15; (with_reducible refine (K1.out _ _ J.out B.out).mono ?_); rintro e w3 ⟨rfl, hI, hb⟩; replace B := Aside0.mk hb; replace J := Aside0.mk hI; clear hI hb)
      | (go_at_call 23; (with_reducible refine (K2.out _ _ J.out B.out).mono ?_); rintro e w4 ⟨rfl, hI, hb⟩; replace B := Aside0.mk hb; replace J := Aside0.mk hI; clear hI hb)
      | (go_at_call 17; (with_reducible refine (K3.out _ _ J.out B.out).mono ?_); rintro e w5 ⟨rfl, hI, hb⟩; replace B := Aside0.mk hb; replace J := Aside0.mk hI; clear hI hb)
      | (go_at_call 16; (with_reducible refine (K4.out _ _ J.out B.out).mono ?_); rintro e w6 ⟨rfl, hI, hb⟩; replace B := Aside0.mk hb; clear hI hb)
      | (go_at_call 13; (with_reducible refine (A1.out _).mono ?_); rintro e w7 ⟨rfl, rfl⟩))
    go_ret
    exact ⟨rfl, B.out⟩
  · have A2' := Aside0.mk a2
    clear HA a2
    cases al
    all_goals
      go_enter Try.func8, Try.ntmps8
      go_wp2_with (first
        | (go_at_call 10; (with_reducible refine (HS.out _).mono ?_); rintro e w1 ⟨rfl, hb⟩; have B := Aside0.mk hb; clear hb)
        | ((with_reducible refine gate_dst (N := 48) rfl ?_); refine box_event ?hg (N := 48) ?hd (cs := #[.slice none 0 0]) (t := 26) ?hr ?_; (case hd => rfl); (case hg => rfl); (case hr => first | (go_simp; done) | (go_simp; rfl)); intro g3 hg wn hbn hBn; have V := Aside0.mk (Wr.new (base := w.heap.size) hbn (by have := B.out.size; omega)); replace B := Aside0.mk (below_step B.out hBn); clear hg hbn hBn)
        | (go_at_call 9; (with_reducible refine (number_at w.heap.size g3 none 0 [] v 3 _ v0.out fv.out (by decide) V.out).mono ?_); rintro e w8 ⟨rfl, A, c, hW, hS⟩; replace B := Aside0.mk (Stp.below V.out hS B.out); replace V := Aside0.mk hW; clear hW hS)
        | (go_at_call 12; (with_reducible refine (real_at w.heap.size g3 A c _ x _ L1.out V.out).mono ?_); rintro e w9 ⟨rfl, A2, c2, hW, hS⟩; replace B := Aside0.mk (Stp.below V.out hS B.out); replace V := Aside0.mk hW; clear hW hS)
        | (go_at_call 20; (with_reducible refine (wtext_at w.heap.size g3 A2 c2 _ s _ L2.out (by have := H1.out; omega) V.out).mono ?_); rintro e w10 ⟨rfl, hS, A3, c3, hW⟩; replace B := Aside0.mk (B.out.trans hS); replace V := Aside0.mk hW; clear hW hS)
        | (go_at_call 11; (with_reducible refine (Y.out g3 _ _ _ V.out).mono ?_); rintro e w11 ⟨rfl, rfl⟩)
        | (go_at_call 14; (with_reducible refine (octet_New.calls _ _ _ w _ B.out HN.out).mono ?_); rintro e w2 ⟨g, rfl, hI, hb, _⟩; replace B := Aside0.mk hb; have J := Aside0.mk hI; clear hI hb)
        | (go_at_call 15; (with_reducible refine (K1.out _ _ J.out B.out).mono ?_); rintro e w3 ⟨rfl, hI, hb⟩; replace B := Aside0.mk hb; replace J := Aside0.mk hI; clear hI hb)
        | (go_at_call 23; (with_reducible refine (K2.out _ _ J.out B.out).mono ?_); rintro e w4 ⟨rfl, hI, hb⟩; replace B := Aside0.mk hb; replace J := Aside0.mk hI; clear hI hb)
        | (go_at_call 17; (with_reducible refine (K3.out _ _ J.out B.out).mono ?_); rintro e w5 ⟨rfl, hI, hb⟩; replace B := Aside0.mk hb; replace J := Aside0.mk hI; clear hI hb)
        | (go_at_call 16; (with_reducible refine (K4.out _ _ J.out B.out).mono ?_); rintro e w6 ⟨rfl, hI, hb⟩; replace B := Aside0.mk hb; clear hI hb)
        | (go_at_call 13; (with_reducible refine (A1.out _).mono ?_); rintro e w7 ⟨rfl, rfl⟩)
        | (go_at_call 13; (with_reducible refine (A2'.out _).mono ?_); rintro e w7 ⟨rfl, rfl⟩))
      go_ret
      exact ⟨rfl, B.out⟩
set_option maxHeartbeats 4000000 in
set_option maxRecDepth 100000 in
theorem back_walk4 (n z x y : Nat) (v q1 q2 q3 : Int) (s rest sb : ByteArray) (w : World) (al : Bool) (hz8 : (z : Int) < 256) (hr : Int.tmod (z : Int) 8 = 3) (hv : Int.tmod (n : Int) 4294967296 = v)
    (h1 : ¬ (300 : Int) < s.size) (h2 : ¬ (300 : Int) < rest.size) (hss : ¬ 9223372036854775807 < sb.size + rest.size) (fv : Aside0 (fits v 4 = true)) (v0 : Aside0 (0 ≤ v))
    (Y : Aside0 (∀ (g c : Nat) (A : Option Addr) (u : World), Wr u w.heap.size g A c ((([] ++ le (Int.toNat 4) v) ++ le 8 (rbits x)) ++ le 2 (s.size : Int) ++ bytesOf s) → Calls Try.prog 11 #[.pointer (some ⟨g, 0, none⟩)] u fun e w' => e = .returned (.string sb) ∧ u = w'))
    (HN : Aside0 (octet_New.f (sb ++ rest) = some (sb ++ rest, 0)))
    (K1 : Aside0 (∀ g w1, IsS63 w w1 g (sb ++ rest) 0 → Below w.heap.size w w1 → Calls Try.prog 15 #[.pointer (some ⟨g, 0, none⟩), .int .i64 4] w1 fun e w2 => e = .returned (.tuple #[.int .u64 v, .int .i64 0]) ∧ IsS63 w w2 g (sb ++ rest) q1 ∧ Below w.heap.size w w2))
    (K2 : Aside0 (∀ g w1, IsS63 w w1 g (sb ++ rest) q1 → Below w.heap.size w w1 → Calls Try.prog 23 #[.pointer (some ⟨g, 0, none⟩)] w1 fun e w2 => e = .returned (.tuple #[.float .f64 y, .int .i64 0]) ∧ IsS63 w w2 g (sb ++ rest) q2 ∧ Below w.heap.size w w2))
    (K3 : Aside0 (∀ g w1, IsS63 w w1 g (sb ++ rest) q2 → Below w.heap.size w w1 → Calls Try.prog 17 #[.pointer (some ⟨g, 0, none⟩), .int .i64 s.size] w1 fun e w2 => e = .returned (.tuple #[.string s, .int .i64 0]) ∧ IsS63 w w2 g (sb ++ rest) q3 ∧ Below w.heap.size w w2))
    (K4 : Aside0 (∀ g w1, IsS63 w w1 g (sb ++ rest) q3 → Below w.heap.size w w1 → Calls Try.prog 16 #[.pointer (some ⟨g, 0, none⟩)] w1 fun e w2 => e = .returned (.int .i64 rest.size) ∧ IsS63 w w2 g (sb ++ rest) q3 ∧ Below w.heap.size w w2))
    (A1 : Aside0 (∀ w, Calls Try.prog 13 #[.float .f64 x, .float .f64 y] w fun e w' => e = .returned (.bool al) ∧ w = w'))
    (hal : al = true ∨ ((FloatKind.f64.format.order x x != some .eq) = true ∧ (FloatKind.f64.format.order y y != some .eq) = true ∧ ∀ w, Calls Try.prog 13 #[.float .f64 y, .float .f64 9221120237041090561] w fun e w' => e = .returned (.bool true) ∧ w = w')) :
    Calls Try.prog 8 #[.int .u64 n, .int .u8 z, .float .f64 x, .string s, .string rest] w fun e w' => e = .returned (.bool true) ∧ Below w.heap.size w w' := by
  have HS := Aside0.mk shown_at
  have HF := frombits_run 9221120237041090561
  have H1 := Aside0.mk h1
  have L1 : Aside0 (([] ++ le (Int.toNat 4) v).length ≤ 1000000) := ⟨by rw [List.nil_append, le_length]; decide⟩
  have L2 : Aside0 ((([] ++ le (Int.toNat 4) v) ++ le 8 (rbits x)).length ≤ 100000) := ⟨by rw [List.length_append, List.nil_append, le_length, le_length]; decide⟩
  have HA := Aside0.mk hal
  clear hal
  rcases HA.out with rfl | ⟨nx, ny, a2⟩
  · clear HA
    go_enter Try.func8, Try.ntmps8
    go_wp2_with (first
      | (go_at_call 10; (with_reducible refine (HS.out _).mono ?_); rintro e w1 ⟨rfl, hb⟩; have B := Aside0.mk hb; clear hb)
      | ((with_reducible refine gate_dst (N := 48) rfl ?_); refine box_event ?hg (N := 48) ?hd (cs := #[.slice none 0 0]) (t := 26) ?hr ?_; (case hd => rfl); (case hg => rfl); (case hr => first | (go_simp; done) | (go_simp; rfl)); intro g3 hg wn hbn hBn; have V := Aside0.mk (Wr.new (base := w.heap.size) hbn (by have := B.out.size; omega)); replace B := Aside0.mk (below_step B.out hBn); clear hg hbn hBn)
      | (go_at_call 9; (with_reducible refine (number_at w.heap.size g3 none 0 [] v 4 _ v0.out fv.out (by decide) V.out).mono ?_); rintro e w8 ⟨rfl, A, c, hW, hS⟩; replace B := Aside0.mk (Stp.below V.out hS B.out); replace V := Aside0.mk hW; clear hW hS)
      | (go_at_call 12; (with_reducible refine (real_at w.heap.size g3 A c _ x _ L1.out V.out).mono ?_); rintro e w9 ⟨rfl, A2, c2, hW, hS⟩; replace B := Aside0.mk (Stp.below V.out hS B.out); replace V := Aside0.mk hW; clear hW hS)
      | (go_at_call 20; (with_reducible refine (wtext_at w.heap.size g3 A2 c2 _ s _ L2.out (by have := H1.out; omega) V.out).mono ?_); rintro e w10 ⟨rfl, hS, A3, c3, hW⟩; replace B := Aside0.mk (B.out.trans hS); replace V := Aside0.mk hW; clear hW hS)
      | (go_at_call 11; (with_reducible refine (Y.out g3 _ _ _ V.out).mono ?_); rintro e w11 ⟨rfl, rfl⟩)
      | (go_at_call 14; (with_reducible refine (octet_New.calls _ _ _ w _ B.out HN.out).mono ?_); rintro e w2 ⟨g, rfl, hI, hb, _⟩; replace B := Aside0.mk hb; have J := Aside0.mk hI; clear hI hb)
      | (go_at_call 15; (with_reducible refine (K1.out _ _ J.out B.out).mono ?_); rintro e w3 ⟨rfl, hI, hb⟩; replace B := Aside0.mk hb; replace J := Aside0.mk hI; clear hI hb)
      | (go_at_call 23; (with_reducible refine (K2.out _ _ J.out B.out).mono ?_); rintro e w4 ⟨rfl, hI, hb⟩; replace B := Aside0.mk hb; replace J := Aside0.mk hI; clear hI hb)
      | (go_at_call 17; (with_reducible refine (K3.out _ _ J.out B.out).mono ?_); rintro e w5 ⟨rfl, hI, hb⟩; replace B := Aside0.mk hb; replace J := Aside0.mk hI; clear hI hb)
      | (go_at_call 16; (with_reducible refine (K4.out _ _ J.out B.out).mono ?_); rintro e w6 ⟨rfl, hI, hb⟩; replace B := Aside0.mk hb; clear hI hb)
      | (go_at_call 13; (with_reducible refine (A1.out _).mono ?_); rintro e w7 ⟨rfl, rfl⟩))
    go_ret
    exact ⟨rfl, B.out⟩
  · have A2' := Aside0.mk a2
    clear HA a2
    cases al
    all_goals
      go_enter Try.func8, Try.ntmps8
      go_wp2_with (first
        | (go_at_call 10; (with_reducible refine (HS.out _).mono ?_); rintro e w1 ⟨rfl, hb⟩; have B := Aside0.mk hb; clear hb)
        | ((with_reducible refine gate_dst (N := 48) rfl ?_); refine box_event ?hg (N := 48) ?hd (cs := #[.slice none 0 0]) (t := 26) ?hr ?_; (case hd => rfl); (case hg => rfl); (case hr => first | (go_simp; done) | (go_simp; rfl)); intro g3 hg wn hbn hBn; have V := Aside0.mk (Wr.new (base := w.heap.size) hbn (by have := B.out.size; omega)); replace B := Aside0.mk (below_step B.out hBn); clear hg hbn hBn)
        | (go_at_call 9; (with_reducible refine (number_at w.heap.size g3 none 0 [] v 4 _ v0.out fv.out (by decide) V.out).mono ?_); rintro e w8 ⟨rfl, A, c, hW, hS⟩; replace B := Aside0.mk (Stp.below V.out hS B.out); replace V := Aside0.mk hW; clear hW hS)
        | (go_at_call 12; (with_reducible refine (real_at w.heap.size g3 A c _ x _ L1.out V.out).mono ?_); rintro e w9 ⟨rfl, A2, c2, hW, hS⟩; replace B := Aside0.mk (Stp.below V.out hS B.out); replace V := Aside0.mk hW; clear hW hS)
        | (go_at_call 20; (with_reducible refine (wtext_at w.heap.size g3 A2 c2 _ s _ L2.out (by have := H1.out; omega) V.out).mono ?_); rintro e w10 ⟨rfl, hS, A3, c3, hW⟩; replace B := Aside0.mk (B.out.trans hS); replace V := Aside0.mk hW; clear hW hS)
        | (go_at_call 11; (with_reducible refine (Y.out g3 _ _ _ V.out).mono ?_); rintro e w11 ⟨rfl, rfl⟩)
        | (go_at_call 14; (with_reducible refine (octet_New.calls _ _ _ w _ B.out HN.out).mono ?_); rintro e w2 ⟨g, rfl, hI, hb, _⟩; replace B := Aside0.mk hb; have J := Aside0.mk hI; clear hI hb)
        | (go_at_call 15; (with_reducible refine (K1.out _ _ J.out B.out).mono ?_); rintro e w3 ⟨rfl, hI, hb⟩; replace B := Aside0.mk hb; replace J := Aside0.mk hI; clear hI hb)
        | (go_at_call 23; (with_reducible refine (K2.out _ _ J.out B.out).mono ?_); rintro e w4 ⟨rfl, hI, hb⟩; replace B := Aside0.mk hb; replace J := Aside0.mk hI; clear hI hb)
        | (go_at_call 17; (with_reducible refine (K3.out _ _ J.out B.out).mono ?_); rintro e w5 ⟨rfl, hI, hb⟩; replace B := Aside0.mk hb; replace J := Aside0.mk hI; clear hI hb)
        | (go_at_call 16; (with_reducible refine (K4.out _ _ J.out B.out).mono ?_); rintro e w6 ⟨rfl, hI, hb⟩; replace B := Aside0.mk hb; clear hI hb)
        | (go_at_call 13; (with_reducible refine (A1.out _).mono ?_); rintro e w7 ⟨rfl, rfl⟩)
        | (go_at_call 13; (with_reducible refine (A2'.out _).mono ?_); rintro e w7 ⟨rfl, rfl⟩))
      go_ret
      exact ⟨rfl, B.out⟩
set_option maxHeartbeats 4000000 in
set_option maxRecDepth 100000 in
theorem back_walk5 (n z x y : Nat) (v q1 q2 q3 : Int) (s rest sb : ByteArray) (w : World) (al : Bool) (hz8 : (z : Int) < 256) (hr : Int.tmod (z : Int) 8 = 4) (hv : Int.tmod (n : Int) 1099511627776 = v)
    (h1 : ¬ (300 : Int) < s.size) (h2 : ¬ (300 : Int) < rest.size) (hss : ¬ 9223372036854775807 < sb.size + rest.size) (fv : Aside0 (fits v 5 = true)) (v0 : Aside0 (0 ≤ v))
    (Y : Aside0 (∀ (g c : Nat) (A : Option Addr) (u : World), Wr u w.heap.size g A c ((([] ++ le (Int.toNat 5) v) ++ le 8 (rbits x)) ++ le 2 (s.size : Int) ++ bytesOf s) → Calls Try.prog 11 #[.pointer (some ⟨g, 0, none⟩)] u fun e w' => e = .returned (.string sb) ∧ u = w'))
    (HN : Aside0 (octet_New.f (sb ++ rest) = some (sb ++ rest, 0)))
    (K1 : Aside0 (∀ g w1, IsS63 w w1 g (sb ++ rest) 0 → Below w.heap.size w w1 → Calls Try.prog 15 #[.pointer (some ⟨g, 0, none⟩), .int .i64 5] w1 fun e w2 => e = .returned (.tuple #[.int .u64 v, .int .i64 0]) ∧ IsS63 w w2 g (sb ++ rest) q1 ∧ Below w.heap.size w w2))
    (K2 : Aside0 (∀ g w1, IsS63 w w1 g (sb ++ rest) q1 → Below w.heap.size w w1 → Calls Try.prog 23 #[.pointer (some ⟨g, 0, none⟩)] w1 fun e w2 => e = .returned (.tuple #[.float .f64 y, .int .i64 0]) ∧ IsS63 w w2 g (sb ++ rest) q2 ∧ Below w.heap.size w w2))
    (K3 : Aside0 (∀ g w1, IsS63 w w1 g (sb ++ rest) q2 → Below w.heap.size w w1 → Calls Try.prog 17 #[.pointer (some ⟨g, 0, none⟩), .int .i64 s.size] w1 fun e w2 => e = .returned (.tuple #[.string s, .int .i64 0]) ∧ IsS63 w w2 g (sb ++ rest) q3 ∧ Below w.heap.size w w2))
    (K4 : Aside0 (∀ g w1, IsS63 w w1 g (sb ++ rest) q3 → Below w.heap.size w w1 → Calls Try.prog 16 #[.pointer (some ⟨g, 0, none⟩)] w1 fun e w2 => e = .returned (.int .i64 rest.size) ∧ IsS63 w w2 g (sb ++ rest) q3 ∧ Below w.heap.size w w2))
    (A1 : Aside0 (∀ w, Calls Try.prog 13 #[.float .f64 x, .float .f64 y] w fun e w' => e = .returned (.bool al) ∧ w = w'))
    (hal : al = true ∨ ((FloatKind.f64.format.order x x != some .eq) = true ∧ (FloatKind.f64.format.order y y != some .eq) = true ∧ ∀ w, Calls Try.prog 13 #[.float .f64 y, .float .f64 9221120237041090561] w fun e w' => e = .returned (.bool true) ∧ w = w')) :
    Calls Try.prog 8 #[.int .u64 n, .int .u8 z, .float .f64 x, .string s, .string rest] w fun e w' => e = .returned (.bool true) ∧ Below w.heap.size w w' := by
  have HS := Aside0.mk shown_at
  have HF := frombits_run 9221120237041090561
  have H1 := Aside0.mk h1
  have L1 : Aside0 (([] ++ le (Int.toNat 5) v).length ≤ 1000000) := ⟨by rw [List.nil_append, le_length]; decide⟩
  have L2 : Aside0 ((([] ++ le (Int.toNat 5) v) ++ le 8 (rbits x)).length ≤ 100000) := ⟨by rw [List.length_append, List.nil_append, le_length, le_length]; decide⟩
  have HA := Aside0.mk hal
  clear hal
  rcases HA.out with rfl | ⟨nx, ny, a2⟩
  · clear HA
    go_enter Try.func8, Try.ntmps8
    go_wp2_with (first
      | (go_at_call 10; (with_reducible refine (HS.out _).mono ?_); rintro e w1 ⟨rfl, hb⟩; have B := Aside0.mk hb; clear hb)
      | ((with_reducible refine gate_dst (N := 48) rfl ?_); refine box_event ?hg (N := 48) ?hd (cs := #[.slice none 0 0]) (t := 26) ?hr ?_; (case hd => rfl); (case hg => rfl); (case hr => first | (go_simp; done) | (go_simp; rfl)); intro g3 hg wn hbn hBn; have V := Aside0.mk (Wr.new (base := w.heap.size) hbn (by have := B.out.size; omega)); replace B := Aside0.mk (below_step B.out hBn); clear hg hbn hBn)
      | (go_at_call 9; (with_reducible refine (number_at w.heap.size g3 none 0 [] v 5 _ v0.out fv.out (by decide) V.out).mono ?_); rintro e w8 ⟨rfl, A, c, hW, hS⟩; replace B := Aside0.mk (Stp.below V.out hS B.out); replace V := Aside0.mk hW; clear hW hS)
      | (go_at_call 12; (with_reducible refine (real_at w.heap.size g3 A c _ x _ L1.out V.out).mono ?_); rintro e w9 ⟨rfl, A2, c2, hW, hS⟩; replace B := Aside0.mk (Stp.below V.out hS B.out); replace V := Aside0.mk hW; clear hW hS)
      | (go_at_call 20; (with_reducible refine (wtext_at w.heap.size g3 A2 c2 _ s _ L2.out (by have := H1.out; omega) V.out).mono ?_); rintro e w10 ⟨rfl, hS, A3, c3, hW⟩; replace B := Aside0.mk (B.out.trans hS); replace V := Aside0.mk hW; clear hW hS)
      | (go_at_call 11; (with_reducible refine (Y.out g3 _ _ _ V.out).mono ?_); rintro e w11 ⟨rfl, rfl⟩)
      | (go_at_call 14; (with_reducible refine (octet_New.calls _ _ _ w _ B.out HN.out).mono ?_); rintro e w2 ⟨g, rfl, hI, hb, _⟩; replace B := Aside0.mk hb; have J := Aside0.mk hI; clear hI hb)
      | (go_at_call 15; (with_reducible refine (K1.out _ _ J.out B.out).mono ?_); rintro e w3 ⟨rfl, hI, hb⟩; replace B := Aside0.mk hb; replace J := Aside0.mk hI; clear hI hb)
      | (go_at_call 23; (with_reducible refine (K2.out _ _ J.out B.out).mono ?_); rintro e w4 ⟨rfl, hI, hb⟩; replace B := Aside0.mk hb; replace J := Aside0.mk hI; clear hI hb)
      | (go_at_call 17; (with_reducible refine (K3.out _ _ J.out B.out).mono ?_); rintro e w5 ⟨rfl, hI, hb⟩; replace B := Aside0.mk hb; replace J := Aside0.mk hI; clear hI hb)
      | (go_at_call 16; (with_reducible refine (K4.out _ _ J.out B.out).mono ?_); rintro e w6 ⟨rfl, hI, hb⟩; replace B := Aside0.mk hb; clear hI hb)
      | (go_at_call 13; (with_reducible refine (A1.out _).mono ?_); rintro e w7 ⟨rfl, rfl⟩))
    go_ret
    exact ⟨rfl, B.out⟩
  · have A2' := Aside0.mk a2
    clear HA a2
    cases al
    all_goals
      go_enter Try.func8, Try.ntmps8
      go_wp2_with (first
        | (go_at_call 10; (with_reducible refine (HS.out _).mono ?_); rintro e w1 ⟨rfl, hb⟩; have B := Aside0.mk hb; clear hb)
        | ((with_reducible refine gate_dst (N := 48) rfl ?_); refine box_event ?hg (N := 48) ?hd (cs := #[.slice none 0 0]) (t := 26) ?hr ?_; (case hd => rfl); (case hg => rfl); (case hr => first | (go_simp; done) | (go_simp; rfl)); intro g3 hg wn hbn hBn; have V := Aside0.mk (Wr.new (base := w.heap.size) hbn (by have := B.out.size; omega)); replace B := Aside0.mk (below_step B.out hBn); clear hg hbn hBn)
        | (go_at_call 9; (with_reducible refine (number_at w.heap.size g3 none 0 [] v 5 _ v0.out fv.out (by decide) V.out).mono ?_); rintro e w8 ⟨rfl, A, c, hW, hS⟩; replace B := Aside0.mk (Stp.below V.out hS B.out); replace V := Aside0.mk hW; clear hW hS)
        | (go_at_call 12; (with_reducible refine (real_at w.heap.size g3 A c _ x _ L1.out V.out).mono ?_); rintro e w9 ⟨rfl, A2, c2, hW, hS⟩; replace B := Aside0.mk (Stp.below V.out hS B.out); replace V := Aside0.mk hW; clear hW hS)
        | (go_at_call 20; (with_reducible refine (wtext_at w.heap.size g3 A2 c2 _ s _ L2.out (by have := H1.out; omega) V.out).mono ?_); rintro e w10 ⟨rfl, hS, A3, c3, hW⟩; replace B := Aside0.mk (B.out.trans hS); replace V := Aside0.mk hW; clear hW hS)
        | (go_at_call 11; (with_reducible refine (Y.out g3 _ _ _ V.out).mono ?_); rintro e w11 ⟨rfl, rfl⟩)
        | (go_at_call 14; (with_reducible refine (octet_New.calls _ _ _ w _ B.out HN.out).mono ?_); rintro e w2 ⟨g, rfl, hI, hb, _⟩; replace B := Aside0.mk hb; have J := Aside0.mk hI; clear hI hb)
        | (go_at_call 15; (with_reducible refine (K1.out _ _ J.out B.out).mono ?_); rintro e w3 ⟨rfl, hI, hb⟩; replace B := Aside0.mk hb; replace J := Aside0.mk hI; clear hI hb)
        | (go_at_call 23; (with_reducible refine (K2.out _ _ J.out B.out).mono ?_); rintro e w4 ⟨rfl, hI, hb⟩; replace B := Aside0.mk hb; replace J := Aside0.mk hI; clear hI hb)
        | (go_at_call 17; (with_reducible refine (K3.out _ _ J.out B.out).mono ?_); rintro e w5 ⟨rfl, hI, hb⟩; replace B := Aside0.mk hb; replace J := Aside0.mk hI; clear hI hb)
        | (go_at_call 16; (with_reducible refine (K4.out _ _ J.out B.out).mono ?_); rintro e w6 ⟨rfl, hI, hb⟩; replace B := Aside0.mk hb; clear hI hb)
        | (go_at_call 13; (with_reducible refine (A1.out _).mono ?_); rintro e w7 ⟨rfl, rfl⟩)
        | (go_at_call 13; (with_reducible refine (A2'.out _).mono ?_); rintro e w7 ⟨rfl, rfl⟩))
      go_ret
      exact ⟨rfl, B.out⟩
set_option maxHeartbeats 4000000 in
set_option maxRecDepth 100000 in
theorem back_walk6 (n z x y : Nat) (v q1 q2 q3 : Int) (s rest sb : ByteArray) (w : World) (al : Bool) (hz8 : (z : Int) < 256) (hr : Int.tmod (z : Int) 8 = 5) (hv : Int.tmod (n : Int) 281474976710656 = v)
    (h1 : ¬ (300 : Int) < s.size) (h2 : ¬ (300 : Int) < rest.size) (hss : ¬ 9223372036854775807 < sb.size + rest.size) (fv : Aside0 (fits v 6 = true)) (v0 : Aside0 (0 ≤ v))
    (Y : Aside0 (∀ (g c : Nat) (A : Option Addr) (u : World), Wr u w.heap.size g A c ((([] ++ le (Int.toNat 6) v) ++ le 8 (rbits x)) ++ le 2 (s.size : Int) ++ bytesOf s) → Calls Try.prog 11 #[.pointer (some ⟨g, 0, none⟩)] u fun e w' => e = .returned (.string sb) ∧ u = w'))
    (HN : Aside0 (octet_New.f (sb ++ rest) = some (sb ++ rest, 0)))
    (K1 : Aside0 (∀ g w1, IsS63 w w1 g (sb ++ rest) 0 → Below w.heap.size w w1 → Calls Try.prog 15 #[.pointer (some ⟨g, 0, none⟩), .int .i64 6] w1 fun e w2 => e = .returned (.tuple #[.int .u64 v, .int .i64 0]) ∧ IsS63 w w2 g (sb ++ rest) q1 ∧ Below w.heap.size w w2))
    (K2 : Aside0 (∀ g w1, IsS63 w w1 g (sb ++ rest) q1 → Below w.heap.size w w1 → Calls Try.prog 23 #[.pointer (some ⟨g, 0, none⟩)] w1 fun e w2 => e = .returned (.tuple #[.float .f64 y, .int .i64 0]) ∧ IsS63 w w2 g (sb ++ rest) q2 ∧ Below w.heap.size w w2))
    (K3 : Aside0 (∀ g w1, IsS63 w w1 g (sb ++ rest) q2 → Below w.heap.size w w1 → Calls Try.prog 17 #[.pointer (some ⟨g, 0, none⟩), .int .i64 s.size] w1 fun e w2 => e = .returned (.tuple #[.string s, .int .i64 0]) ∧ IsS63 w w2 g (sb ++ rest) q3 ∧ Below w.heap.size w w2))
    (K4 : Aside0 (∀ g w1, IsS63 w w1 g (sb ++ rest) q3 → Below w.heap.size w w1 → Calls Try.prog 16 #[.pointer (some ⟨g, 0, none⟩)] w1 fun e w2 => e = .returned (.int .i64 rest.size) ∧ IsS63 w w2 g (sb ++ rest) q3 ∧ Below w.heap.size w w2))
    (A1 : Aside0 (∀ w, Calls Try.prog 13 #[.float .f64 x, .float .f64 y] w fun e w' => e = .returned (.bool al) ∧ w = w'))
    (hal : al = true ∨ ((FloatKind.f64.format.order x x != some .eq) = true ∧ (FloatKind.f64.format.order y y != some .eq) = true ∧ ∀ w, Calls Try.prog 13 #[.float .f64 y, .float .f64 9221120237041090561] w fun e w' => e = .returned (.bool true) ∧ w = w')) :
    Calls Try.prog 8 #[.int .u64 n, .int .u8 z, .float .f64 x, .string s, .string rest] w fun e w' => e = .returned (.bool true) ∧ Below w.heap.size w w' := by
  have HS := Aside0.mk shown_at
  have HF := frombits_run 9221120237041090561
  have H1 := Aside0.mk h1
  have L1 : Aside0 (([] ++ le (Int.toNat 6) v).length ≤ 1000000) := ⟨by rw [List.nil_append, le_length]; decide⟩
  have L2 : Aside0 ((([] ++ le (Int.toNat 6) v) ++ le 8 (rbits x)).length ≤ 100000) := ⟨by rw [List.length_append, List.nil_append, le_length, le_length]; decide⟩
  have HA := Aside0.mk hal
  clear hal
  rcases HA.out with rfl | ⟨nx, ny, a2⟩
  · clear HA
    go_enter Try.func8, Try.ntmps8
    go_wp2_with (first
      | (go_at_call 10; (with_reducible refine (HS.out _).mono ?_); rintro e w1 ⟨rfl, hb⟩; have B := Aside0.mk hb; clear hb)
      | ((with_reducible refine gate_dst (N := 48) rfl ?_); refine box_event ?hg (N := 48) ?hd (cs := #[.slice none 0 0]) (t := 26) ?hr ?_; (case hd => rfl); (case hg => rfl); (case hr => first | (go_simp; done) | (go_simp; rfl)); intro g3 hg wn hbn hBn; have V := Aside0.mk (Wr.new (base := w.heap.size) hbn (by have := B.out.size; omega)); replace B := Aside0.mk (below_step B.out hBn); clear hg hbn hBn)
      | (go_at_call 9; (with_reducible refine (number_at w.heap.size g3 none 0 [] v 6 _ v0.out fv.out (by decide) V.out).mono ?_); rintro e w8 ⟨rfl, A, c, hW, hS⟩; replace B := Aside0.mk (Stp.below V.out hS B.out); replace V := Aside0.mk hW; clear hW hS)
      | (go_at_call 12; (with_reducible refine (real_at w.heap.size g3 A c _ x _ L1.out V.out).mono ?_); rintro e w9 ⟨rfl, A2, c2, hW, hS⟩; replace B := Aside0.mk (Stp.below V.out hS B.out); replace V := Aside0.mk hW; clear hW hS)
      | (go_at_call 20; (with_reducible refine (wtext_at w.heap.size g3 A2 c2 _ s _ L2.out (by have := H1.out; omega) V.out).mono ?_); rintro e w10 ⟨rfl, hS, A3, c3, hW⟩; replace B := Aside0.mk (B.out.trans hS); replace V := Aside0.mk hW; clear hW hS)
      | (go_at_call 11; (with_reducible refine (Y.out g3 _ _ _ V.out).mono ?_); rintro e w11 ⟨rfl, rfl⟩)
      | (go_at_call 14; (with_reducible refine (octet_New.calls _ _ _ w _ B.out HN.out).mono ?_); rintro e w2 ⟨g, rfl, hI, hb, _⟩; replace B := Aside0.mk hb; have J := Aside0.mk hI; clear hI hb)
      | (go_at_call 15; (with_reducible refine (K1.out _ _ J.out B.out).mono ?_); rintro e w3 ⟨rfl, hI, hb⟩; replace B := Aside0.mk hb; replace J := Aside0.mk hI; clear hI hb)
      | (go_at_call 23; (with_reducible refine (K2.out _ _ J.out B.out).mono ?_); rintro e w4 ⟨rfl, hI, hb⟩; replace B := Aside0.mk hb; replace J := Aside0.mk hI; clear hI hb)
      | (go_at_call 17; (with_reducible refine (K3.out _ _ J.out B.out).mono ?_); rintro e w5 ⟨rfl, hI, hb⟩; replace B := Aside0.mk hb; replace J := Aside0.mk hI; clear hI hb)
      | (go_at_call 16; (with_reducible refine (K4.out _ _ J.out B.out).mono ?_); rintro e w6 ⟨rfl, hI, hb⟩; replace B := Aside0.mk hb; clear hI hb)
      | (go_at_call 13; (with_reducible refine (A1.out _).mono ?_); rintro e w7 ⟨rfl, rfl⟩))
    go_ret
    exact ⟨rfl, B.out⟩
  · have A2' := Aside0.mk a2
    clear HA a2
    cases al
    all_goals
      go_enter Try.func8, Try.ntmps8
      go_wp2_with (first
        | (go_at_call 10; (with_reducible refine (HS.out _).mono ?_); rintro e w1 ⟨rfl, hb⟩; have B := Aside0.mk hb; clear hb)
        | ((with_reducible refine gate_dst (N := 48) rfl ?_); refine box_event ?hg (N := 48) ?hd (cs := #[.slice none 0 0]) (t := 26) ?hr ?_; (case hd => rfl); (case hg => rfl); (case hr => first | (go_simp; done) | (go_simp; rfl)); intro g3 hg wn hbn hBn; have V := Aside0.mk (Wr.new (base := w.heap.size) hbn (by have := B.out.size; omega)); replace B := Aside0.mk (below_step B.out hBn); clear hg hbn hBn)
        | (go_at_call 9; (with_reducible refine (number_at w.heap.size g3 none 0 [] v 6 _ v0.out fv.out (by decide) V.out).mono ?_); rintro e w8 ⟨rfl, A, c, hW, hS⟩; replace B := Aside0.mk (Stp.below V.out hS B.out); replace V := Aside0.mk hW; clear hW hS)
        | (go_at_call 12; (with_reducible refine (real_at w.heap.size g3 A c _ x _ L1.out V.out).mono ?_); rintro e w9 ⟨rfl, A2, c2, hW, hS⟩; replace B := Aside0.mk (Stp.below V.out hS B.out); replace V := Aside0.mk hW; clear hW hS)
        | (go_at_call 20; (with_reducible refine (wtext_at w.heap.size g3 A2 c2 _ s _ L2.out (by have := H1.out; omega) V.out).mono ?_); rintro e w10 ⟨rfl, hS, A3, c3, hW⟩; replace B := Aside0.mk (B.out.trans hS); replace V := Aside0.mk hW; clear hW hS)
        | (go_at_call 11; (with_reducible refine (Y.out g3 _ _ _ V.out).mono ?_); rintro e w11 ⟨rfl, rfl⟩)
        | (go_at_call 14; (with_reducible refine (octet_New.calls _ _ _ w _ B.out HN.out).mono ?_); rintro e w2 ⟨g, rfl, hI, hb, _⟩; replace B := Aside0.mk hb; have J := Aside0.mk hI; clear hI hb)
        | (go_at_call 15; (with_reducible refine (K1.out _ _ J.out B.out).mono ?_); rintro e w3 ⟨rfl, hI, hb⟩; replace B := Aside0.mk hb; replace J := Aside0.mk hI; clear hI hb)
        | (go_at_call 23; (with_reducible refine (K2.out _ _ J.out B.out).mono ?_); rintro e w4 ⟨rfl, hI, hb⟩; replace B := Aside0.mk hb; replace J := Aside0.mk hI; clear hI hb)
        | (go_at_call 17; (with_reducible refine (K3.out _ _ J.out B.out).mono ?_); rintro e w5 ⟨rfl, hI, hb⟩; replace B := Aside0.mk hb; replace J := Aside0.mk hI; clear hI hb)
        | (go_at_call 16; (with_reducible refine (K4.out _ _ J.out B.out).mono ?_); rintro e w6 ⟨rfl, hI, hb⟩; replace B := Aside0.mk hb; clear hI hb)
        | (go_at_call 13; (with_reducible refine (A1.out _).mono ?_); rintro e w7 ⟨rfl, rfl⟩)
        | (go_at_call 13; (with_reducible refine (A2'.out _).mono ?_); rintro e w7 ⟨rfl, rfl⟩))
      go_ret
      exact ⟨rfl, B.out⟩
set_option maxHeartbeats 4000000 in
set_option maxRecDepth 100000 in
theorem back_walk7 (n z x y : Nat) (v q1 q2 q3 : Int) (s rest sb : ByteArray) (w : World) (al : Bool) (hz8 : (z : Int) < 256) (hr : Int.tmod (z : Int) 8 = 6) (hv : Int.tmod (n : Int) 72057594037927936 = v)
    (h1 : ¬ (300 : Int) < s.size) (h2 : ¬ (300 : Int) < rest.size) (hss : ¬ 9223372036854775807 < sb.size + rest.size) (fv : Aside0 (fits v 7 = true)) (v0 : Aside0 (0 ≤ v))
    (Y : Aside0 (∀ (g c : Nat) (A : Option Addr) (u : World), Wr u w.heap.size g A c ((([] ++ le (Int.toNat 7) v) ++ le 8 (rbits x)) ++ le 2 (s.size : Int) ++ bytesOf s) → Calls Try.prog 11 #[.pointer (some ⟨g, 0, none⟩)] u fun e w' => e = .returned (.string sb) ∧ u = w'))
    (HN : Aside0 (octet_New.f (sb ++ rest) = some (sb ++ rest, 0)))
    (K1 : Aside0 (∀ g w1, IsS63 w w1 g (sb ++ rest) 0 → Below w.heap.size w w1 → Calls Try.prog 15 #[.pointer (some ⟨g, 0, none⟩), .int .i64 7] w1 fun e w2 => e = .returned (.tuple #[.int .u64 v, .int .i64 0]) ∧ IsS63 w w2 g (sb ++ rest) q1 ∧ Below w.heap.size w w2))
    (K2 : Aside0 (∀ g w1, IsS63 w w1 g (sb ++ rest) q1 → Below w.heap.size w w1 → Calls Try.prog 23 #[.pointer (some ⟨g, 0, none⟩)] w1 fun e w2 => e = .returned (.tuple #[.float .f64 y, .int .i64 0]) ∧ IsS63 w w2 g (sb ++ rest) q2 ∧ Below w.heap.size w w2))
    (K3 : Aside0 (∀ g w1, IsS63 w w1 g (sb ++ rest) q2 → Below w.heap.size w w1 → Calls Try.prog 17 #[.pointer (some ⟨g, 0, none⟩), .int .i64 s.size] w1 fun e w2 => e = .returned (.tuple #[.string s, .int .i64 0]) ∧ IsS63 w w2 g (sb ++ rest) q3 ∧ Below w.heap.size w w2))
    (K4 : Aside0 (∀ g w1, IsS63 w w1 g (sb ++ rest) q3 → Below w.heap.size w w1 → Calls Try.prog 16 #[.pointer (some ⟨g, 0, none⟩)] w1 fun e w2 => e = .returned (.int .i64 rest.size) ∧ IsS63 w w2 g (sb ++ rest) q3 ∧ Below w.heap.size w w2))
    (A1 : Aside0 (∀ w, Calls Try.prog 13 #[.float .f64 x, .float .f64 y] w fun e w' => e = .returned (.bool al) ∧ w = w'))
    (hal : al = true ∨ ((FloatKind.f64.format.order x x != some .eq) = true ∧ (FloatKind.f64.format.order y y != some .eq) = true ∧ ∀ w, Calls Try.prog 13 #[.float .f64 y, .float .f64 9221120237041090561] w fun e w' => e = .returned (.bool true) ∧ w = w')) :
    Calls Try.prog 8 #[.int .u64 n, .int .u8 z, .float .f64 x, .string s, .string rest] w fun e w' => e = .returned (.bool true) ∧ Below w.heap.size w w' := by
  have HS := Aside0.mk shown_at
  have HF := frombits_run 9221120237041090561
  have H1 := Aside0.mk h1
  have L1 : Aside0 (([] ++ le (Int.toNat 7) v).length ≤ 1000000) := ⟨by rw [List.nil_append, le_length]; decide⟩
  have L2 : Aside0 ((([] ++ le (Int.toNat 7) v) ++ le 8 (rbits x)).length ≤ 100000) := ⟨by rw [List.length_append, List.nil_append, le_length, le_length]; decide⟩
  have HA := Aside0.mk hal
  clear hal
  rcases HA.out with rfl | ⟨nx, ny, a2⟩
  · clear HA
    go_enter Try.func8, Try.ntmps8
    go_wp2_with (first
      | (go_at_call 10; (with_reducible refine (HS.out _).mono ?_); rintro e w1 ⟨rfl, hb⟩; have B := Aside0.mk hb; clear hb)
      | ((with_reducible refine gate_dst (N := 48) rfl ?_); refine box_event ?hg (N := 48) ?hd (cs := #[.slice none 0 0]) (t := 26) ?hr ?_; (case hd => rfl); (case hg => rfl); (case hr => first | (go_simp; done) | (go_simp; rfl)); intro g3 hg wn hbn hBn; have V := Aside0.mk (Wr.new (base := w.heap.size) hbn (by have := B.out.size; omega)); replace B := Aside0.mk (below_step B.out hBn); clear hg hbn hBn)
      | (go_at_call 9; (with_reducible refine (number_at w.heap.size g3 none 0 [] v 7 _ v0.out fv.out (by decide) V.out).mono ?_); rintro e w8 ⟨rfl, A, c, hW, hS⟩; replace B := Aside0.mk (Stp.below V.out hS B.out); replace V := Aside0.mk hW; clear hW hS)
      | (go_at_call 12; (with_reducible refine (real_at w.heap.size g3 A c _ x _ L1.out V.out).mono ?_); rintro e w9 ⟨rfl, A2, c2, hW, hS⟩; replace B := Aside0.mk (Stp.below V.out hS B.out); replace V := Aside0.mk hW; clear hW hS)
      | (go_at_call 20; (with_reducible refine (wtext_at w.heap.size g3 A2 c2 _ s _ L2.out (by have := H1.out; omega) V.out).mono ?_); rintro e w10 ⟨rfl, hS, A3, c3, hW⟩; replace B := Aside0.mk (B.out.trans hS); replace V := Aside0.mk hW; clear hW hS)
      | (go_at_call 11; (with_reducible refine (Y.out g3 _ _ _ V.out).mono ?_); rintro e w11 ⟨rfl, rfl⟩)
      | (go_at_call 14; (with_reducible refine (octet_New.calls _ _ _ w _ B.out HN.out).mono ?_); rintro e w2 ⟨g, rfl, hI, hb, _⟩; replace B := Aside0.mk hb; have J := Aside0.mk hI; clear hI hb)
      | (go_at_call 15; (with_reducible refine (K1.out _ _ J.out B.out).mono ?_); rintro e w3 ⟨rfl, hI, hb⟩; replace B := Aside0.mk hb; replace J := Aside0.mk hI; clear hI hb)
      | (go_at_call 23; (with_reducible refine (K2.out _ _ J.out B.out).mono ?_); rintro e w4 ⟨rfl, hI, hb⟩; replace B := Aside0.mk hb; replace J := Aside0.mk hI; clear hI hb)
      | (go_at_call 17; (with_reducible refine (K3.out _ _ J.out B.out).mono ?_); rintro e w5 ⟨rfl, hI, hb⟩; replace B := Aside0.mk hb; replace J := Aside0.mk hI; clear hI hb)
      | (go_at_call 16; (with_reducible refine (K4.out _ _ J.out B.out).mono ?_); rintro e w6 ⟨rfl, hI, hb⟩; replace B := Aside0.mk hb; clear hI hb)
      | (go_at_call 13; (with_reducible refine (A1.out _).mono ?_); rintro e w7 ⟨rfl, rfl⟩))
    go_ret
    exact ⟨rfl, B.out⟩
  · have A2' := Aside0.mk a2
    clear HA a2
    cases al
    all_goals
      go_enter Try.func8, Try.ntmps8
      go_wp2_with (first
        | (go_at_call 10; (with_reducible refine (HS.out _).mono ?_); rintro e w1 ⟨rfl, hb⟩; have B := Aside0.mk hb; clear hb)
        | ((with_reducible refine gate_dst (N := 48) rfl ?_); refine box_event ?hg (N := 48) ?hd (cs := #[.slice none 0 0]) (t := 26) ?hr ?_; (case hd => rfl); (case hg => rfl); (case hr => first | (go_simp; done) | (go_simp; rfl)); intro g3 hg wn hbn hBn; have V := Aside0.mk (Wr.new (base := w.heap.size) hbn (by have := B.out.size; omega)); replace B := Aside0.mk (below_step B.out hBn); clear hg hbn hBn)
        | (go_at_call 9; (with_reducible refine (number_at w.heap.size g3 none 0 [] v 7 _ v0.out fv.out (by decide) V.out).mono ?_); rintro e w8 ⟨rfl, A, c, hW, hS⟩; replace B := Aside0.mk (Stp.below V.out hS B.out); replace V := Aside0.mk hW; clear hW hS)
        | (go_at_call 12; (with_reducible refine (real_at w.heap.size g3 A c _ x _ L1.out V.out).mono ?_); rintro e w9 ⟨rfl, A2, c2, hW, hS⟩; replace B := Aside0.mk (Stp.below V.out hS B.out); replace V := Aside0.mk hW; clear hW hS)
        | (go_at_call 20; (with_reducible refine (wtext_at w.heap.size g3 A2 c2 _ s _ L2.out (by have := H1.out; omega) V.out).mono ?_); rintro e w10 ⟨rfl, hS, A3, c3, hW⟩; replace B := Aside0.mk (B.out.trans hS); replace V := Aside0.mk hW; clear hW hS)
        | (go_at_call 11; (with_reducible refine (Y.out g3 _ _ _ V.out).mono ?_); rintro e w11 ⟨rfl, rfl⟩)
        | (go_at_call 14; (with_reducible refine (octet_New.calls _ _ _ w _ B.out HN.out).mono ?_); rintro e w2 ⟨g, rfl, hI, hb, _⟩; replace B := Aside0.mk hb; have J := Aside0.mk hI; clear hI hb)
        | (go_at_call 15; (with_reducible refine (K1.out _ _ J.out B.out).mono ?_); rintro e w3 ⟨rfl, hI, hb⟩; replace B := Aside0.mk hb; replace J := Aside0.mk hI; clear hI hb)
        | (go_at_call 23; (with_reducible refine (K2.out _ _ J.out B.out).mono ?_); rintro e w4 ⟨rfl, hI, hb⟩; replace B := Aside0.mk hb; replace J := Aside0.mk hI; clear hI hb)
        | (go_at_call 17; (with_reducible refine (K3.out _ _ J.out B.out).mono ?_); rintro e w5 ⟨rfl, hI, hb⟩; replace B := Aside0.mk hb; replace J := Aside0.mk hI; clear hI hb)
        | (go_at_call 16; (with_reducible refine (K4.out _ _ J.out B.out).mono ?_); rintro e w6 ⟨rfl, hI, hb⟩; replace B := Aside0.mk hb; clear hI hb)
        | (go_at_call 13; (with_reducible refine (A1.out _).mono ?_); rintro e w7 ⟨rfl, rfl⟩)
        | (go_at_call 13; (with_reducible refine (A2'.out _).mono ?_); rintro e w7 ⟨rfl, rfl⟩))
      go_ret
      exact ⟨rfl, B.out⟩
set_option maxHeartbeats 4000000 in
set_option maxRecDepth 100000 in
theorem back_walk8 (n z x y : Nat) (v q1 q2 q3 : Int) (s rest sb : ByteArray) (w : World) (al : Bool) (hz8 : (z : Int) < 256) (hr : Int.tmod (z : Int) 8 = 7) (hv : (n : Int) = v)
    (h1 : ¬ (300 : Int) < s.size) (h2 : ¬ (300 : Int) < rest.size) (hss : ¬ 9223372036854775807 < sb.size + rest.size) (fv : Aside0 (fits v 8 = true)) (v0 : Aside0 (0 ≤ v))
    (Y : Aside0 (∀ (g c : Nat) (A : Option Addr) (u : World), Wr u w.heap.size g A c ((([] ++ le (Int.toNat 8) v) ++ le 8 (rbits x)) ++ le 2 (s.size : Int) ++ bytesOf s) → Calls Try.prog 11 #[.pointer (some ⟨g, 0, none⟩)] u fun e w' => e = .returned (.string sb) ∧ u = w'))
    (HN : Aside0 (octet_New.f (sb ++ rest) = some (sb ++ rest, 0)))
    (K1 : Aside0 (∀ g w1, IsS63 w w1 g (sb ++ rest) 0 → Below w.heap.size w w1 → Calls Try.prog 15 #[.pointer (some ⟨g, 0, none⟩), .int .i64 8] w1 fun e w2 => e = .returned (.tuple #[.int .u64 v, .int .i64 0]) ∧ IsS63 w w2 g (sb ++ rest) q1 ∧ Below w.heap.size w w2))
    (K2 : Aside0 (∀ g w1, IsS63 w w1 g (sb ++ rest) q1 → Below w.heap.size w w1 → Calls Try.prog 23 #[.pointer (some ⟨g, 0, none⟩)] w1 fun e w2 => e = .returned (.tuple #[.float .f64 y, .int .i64 0]) ∧ IsS63 w w2 g (sb ++ rest) q2 ∧ Below w.heap.size w w2))
    (K3 : Aside0 (∀ g w1, IsS63 w w1 g (sb ++ rest) q2 → Below w.heap.size w w1 → Calls Try.prog 17 #[.pointer (some ⟨g, 0, none⟩), .int .i64 s.size] w1 fun e w2 => e = .returned (.tuple #[.string s, .int .i64 0]) ∧ IsS63 w w2 g (sb ++ rest) q3 ∧ Below w.heap.size w w2))
    (K4 : Aside0 (∀ g w1, IsS63 w w1 g (sb ++ rest) q3 → Below w.heap.size w w1 → Calls Try.prog 16 #[.pointer (some ⟨g, 0, none⟩)] w1 fun e w2 => e = .returned (.int .i64 rest.size) ∧ IsS63 w w2 g (sb ++ rest) q3 ∧ Below w.heap.size w w2))
    (A1 : Aside0 (∀ w, Calls Try.prog 13 #[.float .f64 x, .float .f64 y] w fun e w' => e = .returned (.bool al) ∧ w = w'))
    (hal : al = true ∨ ((FloatKind.f64.format.order x x != some .eq) = true ∧ (FloatKind.f64.format.order y y != some .eq) = true ∧ ∀ w, Calls Try.prog 13 #[.float .f64 y, .float .f64 9221120237041090561] w fun e w' => e = .returned (.bool true) ∧ w = w')) :
    Calls Try.prog 8 #[.int .u64 n, .int .u8 z, .float .f64 x, .string s, .string rest] w fun e w' => e = .returned (.bool true) ∧ Below w.heap.size w w' := by
  have HS := Aside0.mk shown_at
  have HF := frombits_run 9221120237041090561
  have H1 := Aside0.mk h1
  have L1 : Aside0 (([] ++ le (Int.toNat 8) v).length ≤ 1000000) := ⟨by rw [List.nil_append, le_length]; decide⟩
  have L2 : Aside0 ((([] ++ le (Int.toNat 8) v) ++ le 8 (rbits x)).length ≤ 100000) := ⟨by rw [List.length_append, List.nil_append, le_length, le_length]; decide⟩
  have HA := Aside0.mk hal
  clear hal
  rcases HA.out with rfl | ⟨nx, ny, a2⟩
  · clear HA
    go_enter Try.func8, Try.ntmps8
    go_wp2_with (first
      | (go_at_call 10; (with_reducible refine (HS.out _).mono ?_); rintro e w1 ⟨rfl, hb⟩; have B := Aside0.mk hb; clear hb)
      | ((with_reducible refine gate_dst (N := 48) rfl ?_); refine box_event ?hg (N := 48) ?hd (cs := #[.slice none 0 0]) (t := 26) ?hr ?_; (case hd => rfl); (case hg => rfl); (case hr => first | (go_simp; done) | (go_simp; rfl)); intro g3 hg wn hbn hBn; have V := Aside0.mk (Wr.new (base := w.heap.size) hbn (by have := B.out.size; omega)); replace B := Aside0.mk (below_step B.out hBn); clear hg hbn hBn)
      | (go_at_call 9; (with_reducible refine (number_at w.heap.size g3 none 0 [] v 8 _ v0.out fv.out (by decide) V.out).mono ?_); rintro e w8 ⟨rfl, A, c, hW, hS⟩; replace B := Aside0.mk (Stp.below V.out hS B.out); replace V := Aside0.mk hW; clear hW hS)
      | (go_at_call 12; (with_reducible refine (real_at w.heap.size g3 A c _ x _ L1.out V.out).mono ?_); rintro e w9 ⟨rfl, A2, c2, hW, hS⟩; replace B := Aside0.mk (Stp.below V.out hS B.out); replace V := Aside0.mk hW; clear hW hS)
      | (go_at_call 20; (with_reducible refine (wtext_at w.heap.size g3 A2 c2 _ s _ L2.out (by have := H1.out; omega) V.out).mono ?_); rintro e w10 ⟨rfl, hS, A3, c3, hW⟩; replace B := Aside0.mk (B.out.trans hS); replace V := Aside0.mk hW; clear hW hS)
      | (go_at_call 11; (with_reducible refine (Y.out g3 _ _ _ V.out).mono ?_); rintro e w11 ⟨rfl, rfl⟩)
      | (go_at_call 14; (with_reducible refine (octet_New.calls _ _ _ w _ B.out HN.out).mono ?_); rintro e w2 ⟨g, rfl, hI, hb, _⟩; replace B := Aside0.mk hb; have J := Aside0.mk hI; clear hI hb)
      | (go_at_call 15; (with_reducible refine (K1.out _ _ J.out B.out).mono ?_); rintro e w3 ⟨rfl, hI, hb⟩; replace B := Aside0.mk hb; replace J := Aside0.mk hI; clear hI hb)
      | (go_at_call 23; (with_reducible refine (K2.out _ _ J.out B.out).mono ?_); rintro e w4 ⟨rfl, hI, hb⟩; replace B := Aside0.mk hb; replace J := Aside0.mk hI; clear hI hb)
      | (go_at_call 17; (with_reducible refine (K3.out _ _ J.out B.out).mono ?_); rintro e w5 ⟨rfl, hI, hb⟩; replace B := Aside0.mk hb; replace J := Aside0.mk hI; clear hI hb)
      | (go_at_call 16; (with_reducible refine (K4.out _ _ J.out B.out).mono ?_); rintro e w6 ⟨rfl, hI, hb⟩; replace B := Aside0.mk hb; clear hI hb)
      | (go_at_call 13; (with_reducible refine (A1.out _).mono ?_); rintro e w7 ⟨rfl, rfl⟩))
    go_ret
    exact ⟨rfl, B.out⟩
  · have A2' := Aside0.mk a2
    clear HA a2
    cases al
    all_goals
      go_enter Try.func8, Try.ntmps8
      go_wp2_with (first
        | (go_at_call 10; (with_reducible refine (HS.out _).mono ?_); rintro e w1 ⟨rfl, hb⟩; have B := Aside0.mk hb; clear hb)
        | ((with_reducible refine gate_dst (N := 48) rfl ?_); refine box_event ?hg (N := 48) ?hd (cs := #[.slice none 0 0]) (t := 26) ?hr ?_; (case hd => rfl); (case hg => rfl); (case hr => first | (go_simp; done) | (go_simp; rfl)); intro g3 hg wn hbn hBn; have V := Aside0.mk (Wr.new (base := w.heap.size) hbn (by have := B.out.size; omega)); replace B := Aside0.mk (below_step B.out hBn); clear hg hbn hBn)
        | (go_at_call 9; (with_reducible refine (number_at w.heap.size g3 none 0 [] v 8 _ v0.out fv.out (by decide) V.out).mono ?_); rintro e w8 ⟨rfl, A, c, hW, hS⟩; replace B := Aside0.mk (Stp.below V.out hS B.out); replace V := Aside0.mk hW; clear hW hS)
        | (go_at_call 12; (with_reducible refine (real_at w.heap.size g3 A c _ x _ L1.out V.out).mono ?_); rintro e w9 ⟨rfl, A2, c2, hW, hS⟩; replace B := Aside0.mk (Stp.below V.out hS B.out); replace V := Aside0.mk hW; clear hW hS)
        | (go_at_call 20; (with_reducible refine (wtext_at w.heap.size g3 A2 c2 _ s _ L2.out (by have := H1.out; omega) V.out).mono ?_); rintro e w10 ⟨rfl, hS, A3, c3, hW⟩; replace B := Aside0.mk (B.out.trans hS); replace V := Aside0.mk hW; clear hW hS)
        | (go_at_call 11; (with_reducible refine (Y.out g3 _ _ _ V.out).mono ?_); rintro e w11 ⟨rfl, rfl⟩)
        | (go_at_call 14; (with_reducible refine (octet_New.calls _ _ _ w _ B.out HN.out).mono ?_); rintro e w2 ⟨g, rfl, hI, hb, _⟩; replace B := Aside0.mk hb; have J := Aside0.mk hI; clear hI hb)
        | (go_at_call 15; (with_reducible refine (K1.out _ _ J.out B.out).mono ?_); rintro e w3 ⟨rfl, hI, hb⟩; replace B := Aside0.mk hb; replace J := Aside0.mk hI; clear hI hb)
        | (go_at_call 23; (with_reducible refine (K2.out _ _ J.out B.out).mono ?_); rintro e w4 ⟨rfl, hI, hb⟩; replace B := Aside0.mk hb; replace J := Aside0.mk hI; clear hI hb)
        | (go_at_call 17; (with_reducible refine (K3.out _ _ J.out B.out).mono ?_); rintro e w5 ⟨rfl, hI, hb⟩; replace B := Aside0.mk hb; replace J := Aside0.mk hI; clear hI hb)
        | (go_at_call 16; (with_reducible refine (K4.out _ _ J.out B.out).mono ?_); rintro e w6 ⟨rfl, hI, hb⟩; replace B := Aside0.mk hb; clear hI hb)
        | (go_at_call 13; (with_reducible refine (A1.out _).mono ?_); rintro e w7 ⟨rfl, rfl⟩)
        | (go_at_call 13; (with_reducible refine (A2'.out _).mono ?_); rintro e w7 ⟨rfl, rfl⟩))
      go_ret
      exact ⟨rfl, B.out⟩
end Go.Proofs.Ytaegblhfhgiapaa.R
