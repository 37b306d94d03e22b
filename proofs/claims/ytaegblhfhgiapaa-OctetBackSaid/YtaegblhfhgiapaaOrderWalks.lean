/- OctetOrder, by hand: the law's walk, width by width (printed by order_walks.py). -/
import Derived.Test.YtaegblhfhgiapaaRealLaw
namespace Go.Proofs.Ytaegblhfhgiapaa.R
open Go.RowKit Go.Proofs.YtaegblhfhgiapaaW.PrintWords Go.Proofs.YtaegblhfhgiapaaW.PrintLast Go.Proofs.YtaegblhfhgiapaaW.PrintMore Go.Proofs.Ytaegblhfhgiapaa.B

set_option maxHeartbeats 2000000 in
theorem order_walk1 (a b z : Nat) (p q : Int) (sx sy sz : ByteArray) (w : World) (e : Bool) (hz7 : (z : Int) < 256) (hr : Int.tmod (z : Int) 7 = 0)
    (hp : bits .and .u64 (a : Int) 255 = p) (hq : bits .and .u64 (b : Int) 255 = q) (fp : Aside0 (fits p 1 = true)) (fq : Aside0 (fits q 1 = true)) (fp1 : Aside0 (fits p 2 = true)) (p0 : Aside0 (0 ≤ p)) (q0 : Aside0 (0 ≤ q))
    (Yx : Aside0 (∀ (g c : Nat) (A : Option Addr) (u : World), Wr u w.heap.size g A c ([] ++ le (Int.toNat 1) p) → Calls Try.prog 11 #[.pointer (some ⟨g, 0, none⟩)] u fun e w' => e = .returned (.string sx) ∧ u = w'))
    (Yy : Aside0 (∀ (g c : Nat) (A : Option Addr) (u : World), Wr u w.heap.size g A c ([] ++ le (Int.toNat 1) q) → Calls Try.prog 11 #[.pointer (some ⟨g, 0, none⟩)] u fun e w' => e = .returned (.string sy) ∧ u = w'))
    (Yz : Aside0 (∀ (g c : Nat) (A : Option Addr) (u : World), Wr u w.heap.size g A c ([] ++ le (Int.toNat 2) p) → Calls Try.prog 11 #[.pointer (some ⟨g, 0, none⟩)] u fun e w' => e = .returned (.string sz) ∧ u = w'))
    (hsz : (sx.size : Int) = 1) (hxy : (sx.toList == sy.toList) = e) (hpq : (p == q) = e) (hzx : (sz.toList == (sx ++ ⟨#[0]⟩).toList) = true) :
    Calls Try.prog 3 #[.int .u64 a, .int .u64 b, .int .u8 z] w fun e w' => e = .returned (.bool true) ∧ Below w.heap.size w w' := by
  have HS := Aside0.mk shown_at
  cases e
  all_goals
    go_enter Try.func3, Try.ntmps3
    go_wp2_with (first
      | ((with_reducible refine gate_dst (N := 24) rfl ?_); refine box_event ?hg (N := 24) ?hd (cs := #[.slice none 0 0]) (t := 26) ?hr ?_; (case hd => rfl); (case hg => rfl); (case hr => first | (go_simp; done) | (go_simp; rfl)); intro g1 hg wn hbn hBn; have V1 := Aside0.mk (Wr.new (base := w.heap.size) hbn (by omega)); have B1 := Aside0.mk hBn; clear hg hbn hBn)
      | ((with_reducible refine gate_dst (N := 26) rfl ?_); refine box_event ?hg (N := 26) ?hd (cs := #[.slice none 0 0]) (t := 26) ?hr ?_; (case hd => rfl); (case hg => rfl); (case hr => first | (go_simp; done) | (go_simp; rfl)); intro g2 hg wn hbn hBn; have n12 := Aside0.mk (show g1 ≠ g2 by have := V1.out.lt; omega); have V2 := Aside0.mk (Wr.new (base := w.heap.size) hbn (by have := B1.out.size; omega)); replace V1 := Aside0.mk (V1.out.keep hBn); replace B1 := Aside0.mk (below_step B1.out hBn); clear hg hbn hBn)
      | ((with_reducible refine gate_dst (N := 28) rfl ?_); refine box_event ?hg (N := 28) ?hd (cs := #[.slice none 0 0]) (t := 26) ?hr ?_; (case hd => rfl); (case hg => rfl); (case hr => first | (go_simp; done) | (go_simp; rfl)); intro g3 hg wn hbn hBn; have n13 := Aside0.mk (show g1 ≠ g3 by have := V1.out.lt; omega); have n23 := Aside0.mk (show g2 ≠ g3 by have := V2.out.lt; omega); have V3 := Aside0.mk (Wr.new (base := w.heap.size) hbn (by have := B1.out.size; omega)); replace V1 := Aside0.mk (V1.out.keep hBn); replace V2 := Aside0.mk (V2.out.keep hBn); replace B1 := Aside0.mk (below_step B1.out hBn); clear hg hbn hBn)
      | (go_at_call 9; (with_reducible refine (number_at w.heap.size g1 none 0 [] p 1 _ p0.out fp.out (by decide) V1.out).mono ?_); rintro e w1 ⟨rfl, A1, c1, hW, hS⟩; replace B1 := Aside0.mk (Stp.below V1.out hS B1.out); replace V2 := Aside0.mk (V2.out.other V1.out n12.out.symm (Apart.none _) hS); replace V3 := Aside0.mk (V3.out.other V1.out n13.out.symm (Apart.none _) hS); replace V1 := Aside0.mk hW; clear hW hS)
      | (go_at_call 9; (with_reducible refine (number_at w.heap.size g2 none 0 [] q 1 _ q0.out fq.out (by decide) V2.out.1).mono ?_); rintro e w2 ⟨rfl, A2, c2, hW, hS⟩; replace B1 := Aside0.mk (Stp.below V2.out.1 hS B1.out); replace V1 := Aside0.mk (V1.out.other V2.out.1 n12.out V2.out.2.symm hS); replace V3 := Aside0.mk (V3.out.1.other V2.out.1 n23.out.symm (Apart.none _) hS); replace V2 := Aside0.mk hW; clear hW hS)
      | (go_at_call 9; (with_reducible refine (number_at w.heap.size g3 none 0 [] p 2 _ p0.out fp1.out (by decide) V3.out.1).mono ?_); rintro e w3 ⟨rfl, A3, c3, hW, hS⟩; replace B1 := Aside0.mk (Stp.below V3.out.1 hS B1.out); replace V1 := Aside0.mk (V1.out.1.other V3.out.1 n13.out (Apart.none _).symm hS).1; replace V2 := Aside0.mk (V2.out.other V3.out.1 n23.out (Apart.none _).symm hS).1; replace V3 := Aside0.mk hW; clear hW hS)
      | (go_at_call 10; (with_reducible refine (HS.out _).mono ?_); rintro e w4 ⟨rfl, hb4⟩; replace B1 := Aside0.mk (below_step B1.out hb4); replace V1 := Aside0.mk (V1.out.keep hb4); replace V2 := Aside0.mk (V2.out.keep hb4); replace V3 := Aside0.mk (V3.out.keep hb4); clear hb4)
      | (go_at_call 11; (with_reducible refine (Yx.out g1 _ _ _ V1.out).mono ?_); rintro e w5 ⟨rfl, rfl⟩)
      | (go_at_call 11; (with_reducible refine (Yy.out g2 _ _ _ V2.out).mono ?_); rintro e w5 ⟨rfl, rfl⟩)
      | (go_at_call 11; (with_reducible refine (Yz.out g3 _ _ _ V3.out).mono ?_); rintro e w5 ⟨rfl, rfl⟩))
    go_ret
    exact ⟨rfl, B1.out⟩
set_option maxHeartbeats 2000000 in
theorem order_walk2 (a b z : Nat) (p q : Int) (sx sy sz : ByteArray) (w : World) (e : Bool) (hz7 : (z : Int) < 256) (hr : Int.tmod (z : Int) 7 = 1)
    (hp : bits .and .u64 (a : Int) 65535 = p) (hq : bits .and .u64 (b : Int) 65535 = q) (fp : Aside0 (fits p 2 = true)) (fq : Aside0 (fits q 2 = true)) (fp1 : Aside0 (fits p 3 = true)) (p0 : Aside0 (0 ≤ p)) (q0 : Aside0 (0 ≤ q))
    (Yx : Aside0 (∀ (g c : Nat) (A : Option Addr) (u : World), Wr u w.heap.size g A c ([] ++ le (Int.toNat 2) p) → Calls Try.prog 11 #[.pointer (some ⟨g, 0, none⟩)] u fun e w' => e = .returned (.string sx) ∧ u = w'))
    (Yy : Aside0 (∀ (g c : Nat) (A : Option Addr) (u : World), Wr u w.heap.size g A c ([] ++ le (Int.toNat 2) q) → Calls Try.prog 11 #[.pointer (some ⟨g, 0, none⟩)] u fun e w' => e = .returned (.string sy) ∧ u = w'))
    (Yz : Aside0 (∀ (g c : Nat) (A : Option Addr) (u : World), Wr u w.heap.size g A c ([] ++ le (Int.toNat 3) p) → Calls Try.prog 11 #[.pointer (some ⟨g, 0, none⟩)] u fun e w' => e = .returned (.string sz) ∧ u = w'))
    (hsz : (sx.size : Int) = 2) (hxy : (sx.toList == sy.toList) = e) (hpq : (p == q) = e) (hzx : (sz.toList == (sx ++ ⟨#[0]⟩).toList) = true) :
    Calls Try.prog 3 #[.int .u64 a, .int .u64 b, .int .u8 z] w fun e w' => e = .returned (.bool true) ∧ Below w.heap.size w w' := by
  have HS := Aside0.mk shown_at
  cases e
  all_goals
    go_enter Try.func3, Try.ntmps3
    go_wp2_with (first
      | ((with_reducible refine gate_dst (N := 24) rfl ?_); refine box_event ?hg (N := 24) ?hd (cs := #[.slice none 0 0]) (t := 26) ?hr ?_; (case hd => rfl); (case hg => rfl); (case hr => first | (go_simp; done) | (go_simp; rfl)); intro g1 hg wn hbn hBn; have V1 := Aside0.mk (Wr.new (base := w.heap.size) hbn (by omega)); have B1 := Aside0.mk hBn; clear hg hbn hBn)
      | ((with_reducible refine gate_dst (N := 26) rfl ?_); refine box_event ?hg (N := 26) ?hd (cs := #[.slice none 0 0]) (t := 26) ?hr ?_; (case hd => rfl); (case hg => rfl); (case hr => first | (go_simp; done) | (go_simp; rfl)); intro g2 hg wn hbn hBn; have n12 := Aside0.mk (show g1 ≠ g2 by have := V1.out.lt; omega); have V2 := Aside0.mk (Wr.new (base := w.heap.size) hbn (by have := B1.out.size; omega)); replace V1 := Aside0.mk (V1.out.keep hBn); replace B1 := Aside0.mk (below_step B1.out hBn); clear hg hbn hBn)
      | ((with_reducible refine gate_dst (N := 28) rfl ?_); refine box_event ?hg (N := 28) ?hd (cs := #[.slice none 0 0]) (t := 26) ?hr ?_; (case hd => rfl); (case hg => rfl); (case hr => first | (go_simp; done) | (go_simp; rfl)); intro g3 hg wn hbn hBn; have n13 := Aside0.mk (show g1 ≠ g3 by have := V1.out.lt; omega); have n23 := Aside0.mk (show g2 ≠ g3 by have := V2.out.lt; omega); have V3 := Aside0.mk (Wr.new (base := w.heap.size) hbn (by have := B1.out.size; omega)); replace V1 := Aside0.mk (V1.out.keep hBn); replace V2 := Aside0.mk (V2.out.keep hBn); replace B1 := Aside0.mk (below_step B1.out hBn); clear hg hbn hBn)
      | (go_at_call 9; (with_reducible refine (number_at w.heap.size g1 none 0 [] p 2 _ p0.out fp.out (by decide) V1.out).mono ?_); rintro e w1 ⟨rfl, A1, c1, hW, hS⟩; replace B1 := Aside0.mk (Stp.below V1.out hS B1.out); replace V2 := Aside0.mk (V2.out.other V1.out n12.out.symm (Apart.none _) hS); replace V3 := Aside0.mk (V3.out.other V1.out n13.out.symm (Apart.none _) hS); replace V1 := Aside0.mk hW; clear hW hS)
      | (go_at_call 9; (with_reducible refine (number_at w.heap.size g2 none 0 [] q 2 _ q0.out fq.out (by decide) V2.out.1).mono ?_); rintro e w2 ⟨rfl, A2, c2, hW, hS⟩; replace B1 := Aside0.mk (Stp.below V2.out.1 hS B1.out); replace V1 := Aside0.mk (V1.out.other V2.out.1 n12.out V2.out.2.symm hS); replace V3 := Aside0.mk (V3.out.1.other V2.out.1 n23.out.symm (Apart.none _) hS); replace V2 := Aside0.mk hW; clear hW hS)
      | (go_at_call 9; (with_reducible refine (number_at w.heap.size g3 none 0 [] p 3 _ p0.out fp1.out (by decide) V3.out.1).mono ?_); rintro e w3 ⟨rfl, A3, c3, hW, hS⟩; replace B1 := Aside0.mk (Stp.below V3.out.1 hS B1.out); replace V1 := Aside0.mk (V1.out.1.other V3.out.1 n13.out (Apart.none _).symm hS).1; replace V2 := Aside0.mk (V2.out.other V3.out.1 n23.out (Apart.none _).symm hS).1; replace V3 := Aside0.mk hW; clear hW hS)
      | (go_at_call 10; (with_reducible refine (HS.out _).mono ?_); rintro e w4 ⟨rfl, hb4⟩; replace B1 := Aside0.mk (below_step B1.out hb4); replace V1 := Aside0.mk (V1.out.keep hb4); replace V2 := Aside0.mk (V2.out.keep hb4); replace V3 := Aside0.mk (V3.out.keep hb4); clear hb4)
      | (go_at_call 11; (with_reducible refine (Yx.out g1 _ _ _ V1.out).mono ?_); rintro e w5 ⟨rfl, rfl⟩)
      | (go_at_call 11; (with_reducible refine (Yy.out g2 _ _ _ V2.out).mono ?_); rintro e w5 ⟨rfl, rfl⟩)
      | (go_at_call 11; (with_reducible refine (Yz.out g3 _ _ _ V3.out).mono ?_); rintro e w5 ⟨rfl, rfl⟩))
    go_ret
    exact ⟨rfl, B1.out⟩
set_option maxHeartbeats 2000000 in
theorem order_walk3 (a b z : Nat) (p q : Int) (sx sy sz : ByteArray) (w : World) (e : Bool) (hz7 : (z : Int) < 256) (hr : Int.tmod (z : Int) 7 = 2)
    (hp : bits .and .u64 (a : Int) 16777215 = p) (hq : bits .and .u64 (b : Int) 16777215 = q) (fp : Aside0 (fits p 3 = true)) (fq : Aside0 (fits q 3 = true)) (fp1 : Aside0 (fits p 4 = true)) (p0 : Aside0 (0 ≤ p)) (q0 : Aside0 (0 ≤ q))
    (Yx : Aside0 (∀ (g c : Nat) (A : Option Addr) (u : World), Wr u w.heap.size g A c ([] ++ le (Int.toNat 3) p) → Calls Try.prog 11 #[.pointer (some ⟨g, 0, none⟩)] u fun e w' => e = .returned (.string sx) ∧ u = w'))
    (Yy : Aside0 (∀ (g c : Nat) (A : Option Addr) (u : World), Wr u w.heap.size g A c ([] ++ le (Int.toNat 3) q) → Calls Try.prog 11 #[.pointer (some ⟨g, 0, none⟩)] u fun e w' => e = .returned (.string sy) ∧ u = w'))
    (Yz : Aside0 (∀ (g c : Nat) (A : Option Addr) (u : World), Wr u w.heap.size g A c ([] ++ le (Int.toNat 4) p) → Calls Try.prog 11 #[.pointer (some ⟨g, 0, none⟩)] u fun e w' => e = .returned (.string sz) ∧ u = w'))
    (hsz : (sx.size : Int) = 3) (hxy : (sx.toList == sy.toList) = e) (hpq : (p == q) = e) (hzx : (sz.toList == (sx ++ ⟨#[0]⟩).toList) = true) :
    Calls Try.prog 3 #[.int .u64 a, .int .u64 b, .int .u8 z] w fun e w' => e = .returned (.bool true) ∧ Below w.heap.size w w' := by
  have HS := Aside0.mk shown_at
  cases e
  all_goals
    go_enter Try.func3, Try.ntmps3
    go_wp2_with (first
      | ((with_reducible refine gate_dst (N := 24) rfl ?_); refine box_event ?hg (N := 24) ?hd (cs := #[.slice none 0 0]) (t := 26) ?hr ?_; (case hd => rfl); (case hg => rfl); (case hr => first | (go_simp; done) | (go_simp; rfl)); intro g1 hg wn hbn hBn; have V1 := Aside0.mk (Wr.new (base := w.heap.size) hbn (by omega)); have B1 := Aside0.mk hBn; clear hg hbn hBn)
      | ((with_reducible refine gate_dst (N := 26) rfl ?_); refine box_event ?hg (N := 26) ?hd (cs := #[.slice none 0 0]) (t := 26) ?hr ?_; (case hd => rfl); (case hg => rfl); (case hr => first | (go_simp; done) | (go_simp; rfl)); intro g2 hg wn hbn hBn; have n12 := Aside0.mk (show g1 ≠ g2 by have := V1.out.lt; omega); have V2 := Aside0.mk (Wr.new (base := w.heap.size) hbn (by have := B1.out.size; omega)); replace V1 := Aside0.mk (V1.out.keep hBn); replace B1 := Aside0.mk (below_step B1.out hBn); clear hg hbn hBn)
      | ((with_reducible refine gate_dst (N := 28) rfl ?_); refine box_event ?hg (N := 28) ?hd (cs := #[.slice none 0 0]) (t := 26) ?hr ?_; (case hd => rfl); (case hg => rfl); (case hr => first | (go_simp; done) | (go_simp; rfl)); intro g3 hg wn hbn hBn; have n13 := Aside0.mk (show g1 ≠ g3 by have := V1.out.lt; omega); have n23 := Aside0.mk (show g2 ≠ g3 by have := V2.out.lt; omega); have V3 := Aside0.mk (Wr.new (base := w.heap.size) hbn (by have := B1.out.size; omega)); replace V1 := Aside0.mk (V1.out.keep hBn); replace V2 := Aside0.mk (V2.out.keep hBn); replace B1 := Aside0.mk (below_step B1.out hBn); clear hg hbn hBn)
      | (go_at_call 9; (with_reducible refine (number_at w.heap.size g1 none 0 [] p 3 _ p0.out fp.out (by decide) V1.out).mono ?_); rintro e w1 ⟨rfl, A1, c1, hW, hS⟩; replace B1 := Aside0.mk (Stp.below V1.out hS B1.out); replace V2 := Aside0.mk (V2.out.other V1.out n12.out.symm (Apart.none _) hS); replace V3 := Aside0.mk (V3.out.other V1.out n13.out.symm (Apart.none _) hS); replace V1 := Aside0.mk hW; clear hW hS)
      | (go_at_call 9; (with_reducible refine (number_at w.heap.size g2 none 0 [] q 3 _ q0.out fq.out (by decide) V2.out.1).mono ?_); rintro e w2 ⟨rfl, A2, c2, hW, hS⟩; replace B1 := Aside0.mk (Stp.below V2.out.1 hS B1.out); replace V1 := Aside0.mk (V1.out.other V2.out.1 n12.out V2.out.2.symm hS); replace V3 := Aside0.mk (V3.out.1.other V2.out.1 n23.out.symm (Apart.none _) hS); replace V2 := Aside0.mk hW; clear hW hS)
      | (go_at_call 9; (with_reducible refine (number_at w.heap.size g3 none 0 [] p 4 _ p0.out fp1.out (by decide) V3.out.1).mono ?_); rintro e w3 ⟨rfl, A3, c3, hW, hS⟩; replace B1 := Aside0.mk (Stp.below V3.out.1 hS B1.out); replace V1 := Aside0.mk (V1.out.1.other V3.out.1 n13.out (Apart.none _).symm hS).1; replace V2 := Aside0.mk (V2.out.other V3.out.1 n23.out (Apart.none _).symm hS).1; replace V3 := Aside0.mk hW; clear hW hS)
      | (go_at_call 10; (with_reducible refine (HS.out _).mono ?_); rintro e w4 ⟨rfl, hb4⟩; replace B1 := Aside0.mk (below_step B1.out hb4); replace V1 := Aside0.mk (V1.out.keep hb4); replace V2 := Aside0.mk (V2.out.keep hb4); replace V3 := Aside0.mk (V3.out.keep hb4); clear hb4)
      | (go_at_call 11; (with_reducible refine (Yx.out g1 _ _ _ V1.out).mono ?_); rintro e w5 ⟨rfl, rfl⟩)
      | (go_at_call 11; (with_reducible refine (Yy.out g2 _ _ _ V2.out).mono ?_); rintro e w5 ⟨rfl, rfl⟩)
      | (go_at_call 11; (with_reducible refine (Yz.out g3 _ _ _ V3.out).mono ?_); rintro e w5 ⟨rfl, rfl⟩))
    go_ret
    exact ⟨rfl, B1.out⟩
set_option maxHeartbeats 2000000 in
theorem order_walk4 (a b z : Nat) (p q : Int) (sx sy sz : ByteArray) (w : World) (e : Bool) (hz7 : (z : Int) < 256) (hr : Int.tmod (z : Int) 7 = 3)
    (hp : bits .and .u64 (a : Int) 4294967295 = p) (hq : bits .and .u64 (b : Int) 4294967295 = q) (fp : Aside0 (fits p 4 = true)) (fq : Aside0 (fits q 4 = true)) (fp1 : Aside0 (fits p 5 = true)) (p0 : Aside0 (0 ≤ p)) (q0 : Aside0 (0 ≤ q))
    (Yx : Aside0 (∀ (g c : Nat) (A : Option Addr) (u : World), Wr u w.heap.size g A c ([] ++ le (Int.toNat 4) p) → Calls Try.prog 11 #[.pointer (some ⟨g, 0, none⟩)] u fun e w' => e = .returned (.string sx) ∧ u = w'))
    (Yy : Aside0 (∀ (g c : Nat) (A : Option Addr) (u : World), Wr u w.heap.size g A c ([] ++ le (Int.toNat 4) q) → Calls Try.prog 11 #[.pointer (some ⟨g, 0, none⟩)] u fun e w' => e = .returned (.string sy) ∧ u = w'))
    (Yz : Aside0 (∀ (g c : Nat) (A : Option Addr) (u : World), Wr u w.heap.size g A c ([] ++ le (Int.toNat 5) p) → Calls Try.prog 11 #[.pointer (some ⟨g, 0, none⟩)] u fun e w' => e = .returned (.string sz) ∧ u = w'))
    (hsz : (sx.size : Int) = 4) (hxy : (sx.toList == sy.toList) = e) (hpq : (p == q) = e) (hzx : (sz.toList == (sx ++ ⟨#[0]⟩).toList) = true) :
    Calls Try.prog 3 #[.int .u64 a, .int .u64 b, .int .u8 z] w fun e w' => e = .returned (.bool true) ∧ Below w.heap.size w w' := by
  have HS := Aside0.mk shown_at
  cases e
  all_goals
    go_enter Try.func3, Try.ntmps3
    go_wp2_with (first
      | ((with_reducible refine gate_dst (N := 24) rfl ?_); refine box_event ?hg (N := 24) ?hd (cs := #[.slice none 0 0]) (t := 26) ?hr ?_; (case hd => rfl); (case hg => rfl); (case hr => first | (go_simp; done) | (go_simp; rfl)); intro g1 hg wn hbn hBn; have V1 := Aside0.mk (Wr.new (base := w.heap.size) hbn (by omega)); have B1 := Aside0.mk hBn; clear hg hbn hBn)
      | ((with_reducible refine gate_dst (N := 26) rfl ?_); refine box_event ?hg (N := 26) ?hd (cs := #[.slice none 0 0]) (t := 26) ?hr ?_; (case hd => rfl); (case hg => rfl); (case hr => first | (go_simp; done) | (go_simp; rfl)); intro g2 hg wn hbn hBn; have n12 := Aside0.mk (show g1 ≠ g2 by have := V1.out.lt; omega); have V2 := Aside0.mk (Wr.new (base := w.heap.size) hbn (by have := B1.out.size; omega)); replace V1 := Aside0.mk (V1.out.keep hBn); replace B1 := Aside0.mk (below_step B1.out hBn); clear hg hbn hBn)
      | ((with_reducible refine gate_dst (N := 28) rfl ?_); refine box_event ?hg (N := 28) ?hd (cs := #[.slice none 0 0]) (t := 26) ?hr ?_; (case hd => rfl); (case hg => rfl); (case hr => first | (go_simp; done) | (go_simp; rfl)); intro g3 hg wn hbn hBn; have n13 := Aside0.mk (show g1 ≠ g3 by have := V1.out.lt; omega); have n23 := Aside0.mk (show g2 ≠ g3 by have := V2.out.lt; omega); have V3 := Aside0.mk (Wr.new (base := w.heap.size) hbn (by have := B1.out.size; omega)); replace V1 := Aside0.mk (V1.out.keep hBn); replace V2 := Aside0.mk (V2.out.keep hBn); replace B1 := Aside0.mk (below_step B1.out hBn); clear hg hbn hBn)
      | (go_at_call 9; (with_reducible refine (number_at w.heap.size g1 none 0 [] p 4 _ p0.out fp.out (by decide) V1.out).mono ?_); rintro e w1 ⟨rfl, A1, c1, hW, hS⟩; replace B1 := Aside0.mk (Stp.below V1.out hS B1.out); replace V2 := Aside0.mk (V2.out.other V1.out n12.out.symm (Apart.none _) hS); replace V3 := Aside0.mk (V3.out.other V1.out n13.out.symm (Apart.none _) hS); replace V1 := Aside0.mk hW; clear hW hS)
      | (go_at_call 9; (with_reducible refine (number_at w.heap.size g2 none 0 [] q 4 _ q0.out fq.out (by decide) V2.out.1).mono ?_); rintro e w2 ⟨rfl, A2, c2, hW, hS⟩; replace B1 := Aside0.mk (Stp.below V2.out.1 hS B1.out); replace V1 := Aside0.mk (V1.out.other V2.out.1 n12.out V2.out.2.symm hS); replace V3 := Aside0.mk (V3.out.1.other V2.out.1 n23.out.symm (Apart.none _) hS); replace V2 := Aside0.mk hW; clear hW hS)
      | (go_at_call 9; (with_reducible refine (number_at w.heap.size g3 none 0 [] p 5 _ p0.out fp1.out (by decide) V3.out.1).mono ?_); rintro e w3 ⟨rfl, A3, c3, hW, hS⟩; replace B1 := Aside0.mk (Stp.below V3.out.1 hS B1.out); replace V1 := Aside0.mk (V1.out.1.other V3.out.1 n13.out (Apart.none _).symm hS).1; replace V2 := Aside0.mk (V2.out.other V3.out.1 n23.out (Apart.none _).symm hS).1; replace V3 := Aside0.mk hW; clear hW hS)
      | (go_at_call 10; (with_reducible refine (HS.out _).mono ?_); rintro e w4 ⟨rfl, hb4⟩; replace B1 := Aside0.mk (below_step B1.out hb4); replace V1 := Aside0.mk (V1.out.keep hb4); replace V2 := Aside0.mk (V2.out.keep hb4); replace V3 := Aside0.mk (V3.out.keep hb4); clear hb4)
      | (go_at_call 11; (with_reducible refine (Yx.out g1 _ _ _ V1.out).mono ?_); rintro e w5 ⟨rfl, rfl⟩)
      | (go_at_call 11; (with_reducible refine (Yy.out g2 _ _ _ V2.out).mono ?_); rintro e w5 ⟨rfl, rfl⟩)
      | (go_at_call 11; (with_reducible refine (Yz.out g3 _ _ _ V3.out).mono ?_); rintro e w5 ⟨rfl, rfl⟩))
    go_ret
    exact ⟨rfl, B1.out⟩
set_option maxHeartbeats 2000000 in
theorem order_walk5 (a b z : Nat) (p q : Int) (sx sy sz : ByteArray) (w : World) (e : Bool) (hz7 : (z : Int) < 256) (hr : Int.tmod (z : Int) 7 = 4)
    (hp : bits .and .u64 (a : Int) 1099511627775 = p) (hq : bits .and .u64 (b : Int) 1099511627775 = q) (fp : Aside0 (fits p 5 = true)) (fq : Aside0 (fits q 5 = true)) (fp1 : Aside0 (fits p 6 = true)) (p0 : Aside0 (0 ≤ p)) (q0 : Aside0 (0 ≤ q))
    (Yx : Aside0 (∀ (g c : Nat) (A : Option Addr) (u : World), Wr u w.heap.size g A c ([] ++ le (Int.toNat 5) p) → Calls Try.prog 11 #[.pointer (some ⟨g, 0, none⟩)] u fun e w' => e = .returned (.string sx) ∧ u = w'))
    (Yy : Aside0 (∀ (g c : Nat) (A : Option Addr) (u : World), Wr u w.heap.size g A c ([] ++ le (Int.toNat 5) q) → Calls Try.prog 11 #[.pointer (some ⟨g, 0, none⟩)] u fun e w' => e = .returned (.string sy) ∧ u = w'))
    (Yz : Aside0 (∀ (g c : Nat) (A : Option Addr) (u : World), Wr u w.heap.size g A c ([] ++ le (Int.toNat 6) p) → Calls Try.prog 11 #[.pointer (some ⟨g, 0, none⟩)] u fun e w' => e = .returned (.string sz) ∧ u = w'))
    (hsz : (sx.size : Int) = 5) (hxy : (sx.toList == sy.toList) = e) (hpq : (p == q) = e) (hzx : (sz.toList == (sx ++ ⟨#[0]⟩).toList) = true) :
    Calls Try.prog 3 #[.int .u64 a, .int .u64 b, .int .u8 z] w fun e w' => e = .returned (.bool true) ∧ Below w.heap.size w w' := by
  have HS := Aside0.mk shown_at
  cases e
  all_goals
    go_enter Try.func3, Try.ntmps3
    go_wp2_with (first
      | ((with_reducible refine gate_dst (N := 24) rfl ?_); refine box_event ?hg (N := 24) ?hd (cs := #[.slice none 0 0]) (t := 26) ?hr ?_; (case hd => rfl); (case hg => rfl); (case hr => first | (go_simp; done) | (go_simp; rfl)); intro g1 hg wn hbn hBn; have V1 := Aside0.mk (Wr.new (base := w.heap.size) hbn (by omega)); have B1 := Aside0.mk hBn; clear hg hbn hBn)
      | ((with_reducible refine gate_dst (N := 26) rfl ?_); refine box_event ?hg (N := 26) ?hd (cs := #[.slice none 0 0]) (t := 26) ?hr ?_; (case hd => rfl); (case hg => rfl); (case hr => first | (go_simp; done) | (go_simp; rfl)); intro g2 hg wn hbn hBn; have n12 := Aside0.mk (show g1 ≠ g2 by have := V1.out.lt; omega); have V2 := Aside0.mk (Wr.new (base := w.heap.size) hbn (by have := B1.out.size; omega)); replace V1 := Aside0.mk (V1.out.keep hBn); replace B1 := Aside0.mk (below_step B1.out hBn); clear hg hbn hBn)
      | ((with_reducible refine gate_dst (N := 28) rfl ?_); refine box_event ?hg (N := 28) ?hd (cs := #[.slice none 0 0]) (t := 26) ?hr ?_; (case hd => rfl); (case hg => rfl); (case hr => first | (go_simp; done) | (go_simp; rfl)); intro g3 hg wn hbn hBn; have n13 := Aside0.mk (show g1 ≠ g3 by have := V1.out.lt; omega); have n23 := Aside0.mk (show g2 ≠ g3 by have := V2.out.lt; omega); have V3 := Aside0.mk (Wr.new (base := w.heap.size) hbn (by have := B1.out.size; omega)); replace V1 := Aside0.mk (V1.out.keep hBn); replace V2 := Aside0.mk (V2.out.keep hBn); replace B1 := Aside0.mk (below_step B1.out hBn); clear hg hbn hBn)
      | (go_at_call 9; (with_reducible refine (number_at w.heap.size g1 none 0 [] p 5 _ p0.out fp.out (by decide) V1.out).mono ?_); rintro e w1 ⟨rfl, A1, c1, hW, hS⟩; replace B1 := Aside0.mk (Stp.below V1.out hS B1.out); replace V2 := Aside0.mk (V2.out.other V1.out n12.out.symm (Apart.none _) hS); replace V3 := Aside0.mk (V3.out.other V1.out n13.out.symm (Apart.none _) hS); replace V1 := Aside0.mk hW; clear hW hS)
      | (go_at_call 9; (with_reducible refine (number_at w.heap.size g2 none 0 [] q 5 _ q0.out fq.out (by decide) V2.out.1).mono ?_); rintro e w2 ⟨rfl, A2, c2, hW, hS⟩; replace B1 := Aside0.mk (Stp.below V2.out.1 hS B1.out); replace V1 := Aside0.mk (V1.out.other V2.out.1 n12.out V2.out.2.symm hS); replace V3 := Aside0.mk (V3.out.1.other V2.out.1 n23.out.symm (Apart.none _) hS); replace V2 := Aside0.mk hW; clear hW hS)
      | (go_at_call 9; (with_reducible refine (number_at w.heap.size g3 none 0 [] p 6 _ p0.out fp1.out (by decide) V3.out.1).mono ?_); rintro e w3 ⟨rfl, A3, c3, hW, hS⟩; replace B1 := Aside0.mk (Stp.below V3.out.1 hS B1.out); replace V1 := Aside0.mk (V1.out.1.other V3.out.1 n13.out (Apart.none _).symm hS).1; replace V2 := Aside0.mk (V2.out.other V3.out.1 n23.out (Apart.none _).symm hS).1; replace V3 := Aside0.mk hW; clear hW hS)
      | (go_at_call 10; (with_reducible refine (HS.out _).mono ?_); rintro e w4 ⟨rfl, hb4⟩; replace B1 := Aside0.mk (below_step B1.out hb4); replace V1 := Aside0.mk (V1.out.keep hb4); replace V2 := Aside0.mk (V2.out.keep hb4); replace V3 := Aside0.mk (V3.out.keep hb4); clear hb4)
      | (go_at_call 11; (with_reducible refine (Yx.out g1 _ _ _ V1.out).mono ?_); rintro e w5 ⟨rfl, rfl⟩)
      | (go_at_call 11; (with_reducible refine (Yy.out g2 _ _ _ V2.out).mono ?_); rintro e w5 ⟨rfl, rfl⟩)
      | (go_at_call 11; (with_reducible refine (Yz.out g3 _ _ _ V3.out).mono ?_); rintro e w5 ⟨rfl, rfl⟩))
    go_ret
    exact ⟨rfl, B1.out⟩
set_option maxHeartbeats 2000000 in
theorem order_walk6 (a b z : Nat) (p q : Int) (sx sy sz : ByteArray) (w : World) (e : Bool) (hz7 : (z : Int) < 256) (hr : Int.tmod (z : Int) 7 = 5)
    (hp : bits .and .u64 (a : Int) 281474976710655 = p) (hq : bits .and .u64 (b : Int) 281474976710655 = q) (fp : Aside0 (fits p 6 = true)) (fq : Aside0 (fits q 6 = true)) (fp1 : Aside0 (fits p 7 = true)) (p0 : Aside0 (0 ≤ p)) (q0 : Aside0 (0 ≤ q))
    (Yx : Aside0 (∀ (g c : Nat) (A : Option Addr) (u : World), Wr u w.heap.size g A c ([] ++ le (Int.toNat 6) p) → Calls Try.prog 11 #[.pointer (some ⟨g, 0, none⟩)] u fun e w' => e = .returned (.string sx) ∧ u = w'))
    (Yy : Aside0 (∀ (g c : Nat) (A : Option Addr) (u : World), Wr u w.heap.size g A c ([] ++ le (Int.toNat 6) q) → Calls Try.prog 11 #[.pointer (some ⟨g, 0, none⟩)] u fun e w' => e = .returned (.string sy) ∧ u = w'))
    (Yz : Aside0 (∀ (g c : Nat) (A : Option Addr) (u : World), Wr u w.heap.size g A c ([] ++ le (Int.toNat 7) p) → Calls Try.prog 11 #[.pointer (some ⟨g, 0, none⟩)] u fun e w' => e = .returned (.string sz) ∧ u = w'))
    (hsz : (sx.size : Int) = 6) (hxy : (sx.toList == sy.toList) = e) (hpq : (p == q) = e) (hzx : (sz.toList == (sx ++ ⟨#[0]⟩).toList) = true) :
    Calls Try.prog 3 #[.int .u64 a, .int .u64 b, .int .u8 z] w fun e w' => e = .returned (.bool true) ∧ Below w.heap.size w w' := by
  have HS := Aside0.mk shown_at
  cases e
  all_goals
    go_enter Try.func3, Try.ntmps3
    go_wp2_with (first
      | ((with_reducible refine gate_dst (N := 24) rfl ?_); refine box_event ?hg (N := 24) ?hd (cs := #[.slice none 0 0]) (t := 26) ?hr ?_; (case hd => rfl); (case hg => rfl); (case hr => first | (go_simp; done) | (go_simp; rfl)); intro g1 hg wn hbn hBn; have V1 := Aside0.mk (Wr.new (base := w.heap.size) hbn (by omega)); have B1 := Aside0.mk hBn; clear hg hbn hBn)
      | ((with_reducible refine gate_dst (N := 26) rfl ?_); refine box_event ?hg (N := 26) ?hd (cs := #[.slice none 0 0]) (t := 26) ?hr ?_; (case hd => rfl); (case hg => rfl); (case hr => first | (go_simp; done) | (go_simp; rfl)); intro g2 hg wn hbn hBn; have n12 := Aside0.mk (show g1 ≠ g2 by have := V1.out.lt; omega); have V2 := Aside0.mk (Wr.new (base := w.heap.size) hbn (by have := B1.out.size; omega)); replace V1 := Aside0.mk (V1.out.keep hBn); replace B1 := Aside0.mk (below_step B1.out hBn); clear hg hbn hBn)
      | ((with_reducible refine gate_dst (N := 28) rfl ?_); refine box_event ?hg (N := 28) ?hd (cs := #[.slice none 0 0]) (t := 26) ?hr ?_; (case hd => rfl); (case hg => rfl); (case hr => first | (go_simp; done) | (go_simp; rfl)); intro g3 hg wn hbn hBn; have n13 := Aside0.mk (show g1 ≠ g3 by have := V1.out.lt; omega); have n23 := Aside0.mk (show g2 ≠ g3 by have := V2.out.lt; omega); have V3 := Aside0.mk (Wr.new (base := w.heap.size) hbn (by have := B1.out.size; omega)); replace V1 := Aside0.mk (V1.out.keep hBn); replace V2 := Aside0.mk (V2.out.keep hBn); replace B1 := Aside0.mk (below_step B1.out hBn); clear hg hbn hBn)
      | (go_at_call 9; (with_reducible refine (number_at w.heap.size g1 none 0 [] p 6 _ p0.out fp.out (by decide) V1.out).mono ?_); rintro e w1 ⟨rfl, A1, c1, hW, hS⟩; replace B1 := Aside0.mk (Stp.below V1.out hS B1.out); replace V2 := Aside0.mk (V2.out.other V1.out n12.out.symm (Apart.none _) hS); replace V3 := Aside0.mk (V3.out.other V1.out n13.out.symm (Apart.none _) hS); replace V1 := Aside0.mk hW; clear hW hS)
      | (go_at_call 9; (with_reducible refine (number_at w.heap.size g2 none 0 [] q 6 _ q0.out fq.out (by decide) V2.out.1).mono ?_); rintro e w2 ⟨rfl, A2, c2, hW, hS⟩; replace B1 := Aside0.mk (Stp.below V2.out.1 hS B1.out); replace V1 := Aside0.mk (V1.out.other V2.out.1 n12.out V2.out.2.symm hS); replace V3 := Aside0.mk (V3.out.1.other V2.out.1 n23.out.symm (Apart.none _) hS); replace V2 := Aside0.mk hW; clear hW hS)
      | (go_at_call 9; (with_reducible refine (number_at w.heap.size g3 none 0 [] p 7 _ p0.out fp1.out (by decide) V3.out.1).mono ?_); rintro e w3 ⟨rfl, A3, c3, hW, hS⟩; replace B1 := Aside0.mk (Stp.below V3.out.1 hS B1.out); replace V1 := Aside0.mk (V1.out.1.other V3.out.1 n13.out (Apart.none _).symm hS).1; replace V2 := Aside0.mk (V2.out.other V3.out.1 n23.out (Apart.none _).symm hS).1; replace V3 := Aside0.mk hW; clear hW hS)
      | (go_at_call 10; (with_reducible refine (HS.out _).mono ?_); rintro e w4 ⟨rfl, hb4⟩; replace B1 := Aside0.mk (below_step B1.out hb4); replace V1 := Aside0.mk (V1.out.keep hb4); replace V2 := Aside0.mk (V2.out.keep hb4); replace V3 := Aside0.mk (V3.out.keep hb4); clear hb4)
      | (go_at_call 11; (with_reducible refine (Yx.out g1 _ _ _ V1.out).mono ?_); rintro e w5 ⟨rfl, rfl⟩)
      | (go_at_call 11; (with_reducible refine (Yy.out g2 _ _ _ V2.out).mono ?_); rintro e w5 ⟨rfl, rfl⟩)
      | (go_at_call 11; (with_reducible refine (Yz.out g3 _ _ _ V3.out).mono ?_); rintro e w5 ⟨rfl, rfl⟩))
    go_ret
    exact ⟨rfl, B1.out⟩
set_option maxHeartbeats 2000000 in
theorem order_walk7 (a b z : Nat) (p q : Int) (sx sy sz : ByteArray) (w : World) (e : Bool) (hz7 : (z : Int) < 256) (hr : Int.tmod (z : Int) 7 = 6)
    (hp : bits .and .u64 (a : Int) 72057594037927935 = p) (hq : bits .and .u64 (b : Int) 72057594037927935 = q) (fp : Aside0 (fits p 7 = true)) (fq : Aside0 (fits q 7 = true)) (fp1 : Aside0 (fits p 8 = true)) (p0 : Aside0 (0 ≤ p)) (q0 : Aside0 (0 ≤ q))
    (Yx : Aside0 (∀ (g c : Nat) (A : Option Addr) (u : World), Wr u w.heap.size g A c ([] ++ le (Int.toNat 7) p) → Calls Try.prog 11 #[.pointer (some ⟨g, 0, none⟩)] u fun e w' => e = .returned (.string sx) ∧ u = w'))
    (Yy : Aside0 (∀ (g c : Nat) (A : Option Addr) (u : World), Wr u w.heap.size g A c ([] ++ le (Int.toNat 7) q) → Calls Try.prog 11 #[.pointer (some ⟨g, 0, none⟩)] u fun e w' => e = .returned (.string sy) ∧ u = w'))
    (Yz : Aside0 (∀ (g c : Nat) (A : Option Addr) (u : World), Wr u w.heap.size g A c ([] ++ le (Int.toNat 8) p) → Calls Try.prog 11 #[.pointer (some ⟨g, 0, none⟩)] u fun e w' => e = .returned (.string sz) ∧ u = w'))
    (hsz : (sx.size : Int) = 7) (hxy : (sx.toList == sy.toList) = e) (hpq : (p == q) = e) (hzx : (sz.toList == (sx ++ ⟨#[0]⟩).toList) = true) :
    Calls Try.prog 3 #[.int .u64 a, .int .u64 b, .int .u8 z] w fun e w' => e = .returned (.bool true) ∧ Below w.heap.size w w' := by
  have HS := Aside0.mk shown_at
  cases e
  all_goals
    go_enter Try.func3, Try.ntmps3
    go_wp2_with (first
      | ((with_reducible refine gate_dst (N := 24) rfl ?_); refine box_event ?hg (N := 24) ?hd (cs := #[.slice none 0 0]) (t := 26) ?hr ?_; (case hd => rfl); (case hg => rfl); (case hr => first | (go_simp; done) | (go_simp; rfl)); intro g1 hg wn hbn hBn; have V1 := Aside0.mk (Wr.new (base := w.heap.size) hbn (by omega)); have B1 := Aside0.mk hBn; clear hg hbn hBn)
      | ((with_reducible refine gate_dst (N := 26) rfl ?_); refine box_event ?hg (N := 26) ?hd (cs := #[.slice none 0 0]) (t := 26) ?hr ?_; (case hd => rfl); (case hg => rfl); (case hr => first | (go_simp; done) | (go_simp; rfl)); intro g2 hg wn hbn hBn; have n12 := Aside0.mk (show g1 ≠ g2 by have := V1.out.lt; omega); have V2 := Aside0.mk (Wr.new (base := w.heap.size) hbn (by have := B1.out.size; omega)); replace V1 := Aside0.mk (V1.out.keep hBn); replace B1 := Aside0.mk (below_step B1.out hBn); clear hg hbn hBn)
      | ((with_reducible refine gate_dst (N := 28) rfl ?_); refine box_event ?hg (N := 28) ?hd (cs := #[.slice none 0 0]) (t := 26) ?hr ?_; (case hd => rfl); (case hg => rfl); (case hr => first | (go_simp; done) | (go_simp; rfl)); intro g3 hg wn hbn hBn; have n13 := Aside0.mk (show g1 ≠ g3 by have := V1.out.lt; omega); have n23 := Aside0.mk (show g2 ≠ g3 by have := V2.out.lt; omega); have V3 := Aside0.mk (Wr.new (base := w.heap.size) hbn (by have := B1.out.size; omega)); replace V1 := Aside0.mk (V1.out.keep hBn); replace V2 := Aside0.mk (V2.out.keep hBn); replace B1 := Aside0.mk (below_step B1.out hBn); clear hg hbn hBn)
      | (go_at_call 9; (with_reducible refine (number_at w.heap.size g1 none 0 [] p 7 _ p0.out fp.out (by decide) V1.out).mono ?_); rintro e w1 ⟨rfl, A1, c1, hW, hS⟩; replace B1 := Aside0.mk (Stp.below V1.out hS B1.out); replace V2 := Aside0.mk (V2.out.other V1.out n12.out.symm (Apart.none _) hS); replace V3 := Aside0.mk (V3.out.other V1.out n13.out.symm (Apart.none _) hS); replace V1 := Aside0.mk hW; clear hW hS)
      | (go_at_call 9; (with_reducible refine (number_at w.heap.size g2 none 0 [] q 7 _ q0.out fq.out (by decide) V2.out.1).mono ?_); rintro e w2 ⟨rfl, A2, c2, hW, hS⟩; replace B1 := Aside0.mk (Stp.below V2.out.1 hS B1.out); replace V1 := Aside0.mk (V1.out.other V2.out.1 n12.out V2.out.2.symm hS); replace V3 := Aside0.mk (V3.out.1.other V2.out.1 n23.out.symm (Apart.none _) hS); replace V2 := Aside0.mk hW; clear hW hS)
      | (go_at_call 9; (with_reducible refine (number_at w.heap.size g3 none 0 [] p 8 _ p0.out fp1.out (by decide) V3.out.1).mono ?_); rintro e w3 ⟨rfl, A3, c3, hW, hS⟩; replace B1 := Aside0.mk (Stp.below V3.out.1 hS B1.out); replace V1 := Aside0.mk (V1.out.1.other V3.out.1 n13.out (Apart.none _).symm hS).1; replace V2 := Aside0.mk (V2.out.other V3.out.1 n23.out (Apart.none _).symm hS).1; replace V3 := Aside0.mk hW; clear hW hS)
      | (go_at_call 10; (with_reducible refine (HS.out _).mono ?_); rintro e w4 ⟨rfl, hb4⟩; replace B1 := Aside0.mk (below_step B1.out hb4); replace V1 := Aside0.mk (V1.out.keep hb4); replace V2 := Aside0.mk (V2.out.keep hb4); replace V3 := Aside0.mk (V3.out.keep hb4); clear hb4)
      | (go_at_call 11; (with_reducible refine (Yx.out g1 _ _ _ V1.out).mono ?_); rintro e w5 ⟨rfl, rfl⟩)
      | (go_at_call 11; (with_reducible refine (Yy.out g2 _ _ _ V2.out).mono ?_); rintro e w5 ⟨rfl, rfl⟩)
      | (go_at_call 11; (with_reducible refine (Yz.out g3 _ _ _ V3.out).mono ?_); rintro e w5 ⟨rfl, rfl⟩))
    go_ret
    exact ⟨rfl, B1.out⟩
end Go.Proofs.Ytaegblhfhgiapaa.R
