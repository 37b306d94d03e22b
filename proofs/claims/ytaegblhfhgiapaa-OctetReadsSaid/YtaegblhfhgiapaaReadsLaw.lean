/- OctetReads, by hand: the law's own walk (printed by reads_law.py). -/
import Derived.Test.YtaegblhfhgiapaaReads1
import Derived.Test.YtaegblhfhgiapaaItems
namespace Go.Proofs.Ytaegblhfhgiapaa.R
open Go.RowKit Go.Proofs.YtaegblhfhgiapaaW.PrintWords Go.Proofs.YtaegblhfhgiapaaW.PrintLast Go.Proofs.YtaegblhfhgiapaaW.PrintMore Go.Proofs.Ytaegblhfhgiapaa.B

theorem keep52 {w0 w w' : World} {g g6 : Nat} {s : ByteArray} {p : Int} (h : IsS52 w0 w g6 s p) (hk : KeepBut w w' g none) (hne : g ≠ g6) : IsS52 w0 w' g6 s p := ⟨(hk.2 g6 (Array.getElem?_eq_some_iff.1 h.1).1 (Ne.symm hne) (by simp)).trans h.1, h.2⟩
theorem keep63 {w0 w w' : World} {g g6 : Nat} {s : ByteArray} {p : Int} (h : IsS63 w0 w g s p) (hk : KeepBut w w' g6 none) (hne : g ≠ g6) : IsS63 w0 w' g s p := ⟨(hk.2 g (Array.getElem?_eq_some_iff.1 h.1).1 hne (by simp)).trans h.1, h.2⟩
theorem s52 {w0 w : World} {g : Nat} {s : ByteArray} {p : Int} (h : w.heap[g]? = some (.cells #[.string s, .int .i64 p] 52 (0, 0))) (hg : w0.heap.size ≤ g) : IsS52 w0 w g s p := ⟨h, hg⟩
theorem reads_long (s : ByteArray) (A : Option Addr) (n c : Nat) (w : World) (h : (1000 : Int) < s.size) : Calls Try.prog 7 #[.string s, .slice A n c] w fun e w' => e = .returned (.bool true) ∧ Below w.heap.size w w' := by
  have HS := Aside0.mk shown_at
  go_enter Try.func7, Try.ntmps7
  go_wp2_with (go_at_call 10; (with_reducible refine (HS.out _).mono ?_); rintro e w1 ⟨rfl, hb⟩; have B := Aside0.mk hb; clear hb)
  go_ret
  exact ⟨rfl, B.out⟩
theorem reads_many (s : ByteArray) (A : Option Addr) (n c : Nat) (w : World) (h : ¬ (1000 : Int) < s.size) (h2 : (100 : Int) < n) : Calls Try.prog 7 #[.string s, .slice A n c] w fun e w' => e = .returned (.bool true) ∧ Below w.heap.size w w' := by
  have HS := Aside0.mk shown_at
  go_enter Try.func7, Try.ntmps7
  go_wp2_with (go_at_call 10; (with_reducible refine (HS.out _).mono ?_); rintro e w1 ⟨rfl, hb⟩; have B := Aside0.mk hb; clear hb)
  go_ret
  exact ⟨rfl, B.out⟩
set_option maxHeartbeats 8000000 in
set_option maxRecDepth 100000 in
theorem reads_walk (s : ByteArray) (A0 : Option Addr) (c0 : Nat) (l : List It) (w : World) (hs : ¬ (1000 : Int) < s.size) (hr : Kd.C k45 w A0 l.length l) (hl : ¬ (100 : Int) < l.length) :
    Calls Try.prog 7 #[.string s, .slice A0 l.length c0] w fun e w' => e = .returned (.bool true) ∧ Below w.heap.size w w' := by
  have HS := Aside0.mk shown_at
  have HR := Aside0.mk hr
  have HL := Aside0.mk hl
  have HSZ : Aside0 (s.size < 4611686018427387904) := ⟨by omega⟩
  have HN : Aside0 (octet_New.f s = some (s, 0)) := ⟨rfl⟩
  clear hr
  go_enter Try.func7, Try.ntmps7
  go_wp2_with (first
    | (go_at_call 10; (with_reducible refine (HS.out _).mono ?_); rintro e w1 ⟨rfl, hb⟩; have B0 := Aside0.mk hb; clear hb)
    | (go_at_call 14; (with_reducible refine (octet_New.calls _ _ _ w _ B0.out HN.out).mono ?_); rintro e w2 ⟨g, rfl, hI, hb, _⟩; replace B0 := Aside0.mk hb; have I0 := Aside0.mk hI; clear hI hb)
    | ((with_reducible refine gate_dst (N := 6) rfl ?_); refine box_event ?hg (N := 6) ?hd (cs := #[.string ⟨#[]⟩, .int .i64 0]) (t := 52) ?hr ?_; (case hd => rfl); (case hg => rfl); (case hr => first | (go_simp; done) | (go_simp; rfl)); intro g6 hg6 wn hbn hBn; have J0 := Aside0.mk hbn; have FAR := Aside0.mk (show w.heap.size ≤ g6 by have := B0.out.size; omega); have G := Aside0.mk (show g ≠ g6 by have := (Array.getElem?_eq_some_iff.1 I0.out.1).1; omega); replace I0 := Aside0.mk (s63 (blk_below I0.out.1 hBn) I0.out.2); replace B0 := Aside0.mk (below_step B0.out hBn); have hc0 : wn.cell? ⟨g6, 0, none⟩ = some (.string ⟨#[]⟩) := blk_cell J0.out 0; have hc1 : wn.cell? ⟨g6, 1, none⟩ = some (.int .i64 0) := blk_cell J0.out 1; have hf0 := blk_frozen J0.out 0; have hf1 := blk_frozen J0.out 1; clear hg6 hbn hBn))
  have P6 : ((wn.setCell ⟨g6, 0, none⟩ (.string s)).setCell ⟨g6, 1, none⟩ (.int .i64 0)).heap[g6]? = some (.cells #[.string s, .int .i64 0] 52 (0, 0)) := blk_put (blk_put J0.out 0 (.string s) rfl) 1 (.int .i64 0) rfl
  have PG := (Below.heap_setCell (wn.setCell ⟨g6, 0, none⟩ (.string s)) ⟨g6, 1, none⟩ (.int .i64 0) g (Ne.symm G.out).symm).trans ((Below.heap_setCell wn ⟨g6, 0, none⟩ (.string s) g (Ne.symm G.out).symm).trans I0.out.1)
  have PB := Aside0.mk (below_set (j := 1) (v := .int .i64 0) (below_set (j := 0) (v := .string s) B0.out FAR.out) FAR.out)
  have PJ := Aside0.mk (s52 (w0 := w) P6 FAR.out)
  have PI := Aside0.mk (s63 (w0 := w) PG I0.out.2)
  clear P6 PG hc0 hc1 hf0 hf1
  generalize (wn.setCell ⟨g6, 0, none⟩ (.string s)).setCell ⟨g6, 1, none⟩ (.int .i64 0) = wb at PB PJ PI ⊢
  have G' := Aside0.mk (Ne.symm G.out)
  go_loopw [7] (fun i wr => ∃ (k p : Nat), i = .int .i64 k ∧ Aside0 (k ≤ l.length) ∧ Aside0 (p ≤ s.size) ∧ Aside0 (IsS63 w wr g s p) ∧ Aside0 (IsS52 w wr g6 s p) ∧ Aside0 (Below w.heap.size w wr))
    (fun i _ => l.length - (intOf i).toNat)
  case atStart => exact ⟨0, 0, rfl, ⟨Nat.zero_le _⟩, ⟨Nat.zero_le _⟩, PI, PJ, PB⟩
  case round =>
    obtain ⟨k, p, rfl, hk, hp, I, J, B⟩ := hrel
    by_cases hlt : k < l.length
    · obtain ⟨ad, e, hx0, hx1, hx2, hx3, hx4, hx5⟩ := at_It HR.out k hlt
      subst e
      generalize l.getD k z45 = it at hx0 hx1 hx2 hx3 hx4 hx5
      obtain ⟨kd, wd, ms, nn, xx, ss⟩ := it
      dsimp only at hx0 hx1 hx2 hx3 hx4 hx5
      have HC : Aside0 (∀ u, Below w.heap.size w u → u.cell? (ad.add (k * 6)) = some (.int .i64 kd) ∧ u.cell? ⟨(ad.add (k * 6)).block, (ad.add (k * 6)).off + 1, none⟩ = some (.int .i64 wd) ∧ u.cell? ⟨(ad.add (k * 6)).block, (ad.add (k * 6)).off + 2, none⟩ = some (.int .i64 ms)) :=
        ⟨fun u hu => ⟨(hu.cell (World.block_lt_of_cell? w _ hx0)).trans hx0, (hu.cell (World.block_lt_of_cell? w _ hx1)).trans hx1, (hu.cell (World.block_lt_of_cell? w _ hx2)).trans hx2⟩⟩
      clear hx0 hx1 hx2 hx3 hx4 hx5
      obtain ⟨y0, y1, y2⟩ := HC.out wr B.out
      by_cases h1 : kd = 1
      · subst h1
        obtain ⟨v, e, q, KA, KB, hq⟩ := real_both w s p HSZ.out hp.out
        have FA : Aside0 (∀ g w1, IsS63 w w1 g s p → Below w.heap.size w w1 → Calls Try.prog 23 #[.pointer (some ⟨g, 0, none⟩)] w1 fun e1 w2 => e1 = .returned (.tuple #[.float .f64 v, .int .i64 e]) ∧ IsS63 w w2 g s q ∧ Below w.heap.size w w2 ∧ KeepBut w1 w2 g none) := ⟨KA⟩
        have FB : Aside0 (∀ g w1, IsS52 w w1 g s p → Below w.heap.size w w1 → Calls Try.prog 24 #[.pointer (some ⟨g, 0, none⟩)] w1 fun e1 w2 => e1 = .returned (.tuple #[.float .f64 v, .int .i64 e]) ∧ IsS52 w w2 g s q ∧ Below w.heap.size w w2 ∧ KeepBut w1 w2 g none) := ⟨KB⟩
        obtain ⟨K1, K2⟩ := left_both w s q HSZ.out hq
        obtain ⟨er, K3, K4⟩ := end_both w s q
        have F1 : Aside0 (∀ g w1, IsS63 w w1 g s q → Below w.heap.size w w1 → Calls Try.prog 16 #[.pointer (some ⟨g, 0, none⟩)] w1 fun e w2 => e = .returned (.int .i64 ((s.size : Int) - (q : Int))) ∧ IsS63 w w2 g s q ∧ Below w.heap.size w w2 ∧ KeepBut w1 w2 g none) := ⟨K1⟩
        have F2 : Aside0 (∀ g w1, IsS52 w w1 g s q → Below w.heap.size w w1 → Calls Try.prog 26 #[.pointer (some ⟨g, 0, none⟩)] w1 fun e w2 => e = .returned (.int .i64 ((s.size : Int) - (q : Int))) ∧ IsS52 w w2 g s q ∧ Below w.heap.size w w2 ∧ KeepBut w1 w2 g none) := ⟨K2⟩
        have F3 : Aside0 (∀ g w1, IsS63 w w1 g s q → Below w.heap.size w w1 → Calls Try.prog 27 #[.pointer (some ⟨g, 0, none⟩)] w1 fun e w2 => e = .returned (.int .i64 er) ∧ IsS63 w w2 g s q ∧ Below w.heap.size w w2 ∧ KeepBut w1 w2 g none) := ⟨K3⟩
        have F4 : Aside0 (∀ g w1, IsS52 w w1 g s q → Below w.heap.size w w1 → Calls Try.prog 28 #[.pointer (some ⟨g, 0, none⟩)] w1 fun e w2 => e = .returned (.int .i64 er) ∧ IsS52 w w2 g s q ∧ Below w.heap.size w w2 ∧ KeepBut w1 w2 g none) := ⟨K4⟩
        have HQ := Aside0.mk hq
        generalize ((s.size : Int) - (q : Int)) = lft at F1 F2 ⊢
        clear K1 K2 K3 K4 KA KB hq
        have HAL := Aside0.mk (alike_at v v)
        go_wp2_with (first
          | (go_at_call 23; (with_reducible refine (FA.out _ _ I.out B.out).mono ?_); rintro e u1 ⟨rfl, hI, hb, hk⟩; replace J := Aside0.mk (keep52 J.out hk G.out); replace I := Aside0.mk hI; replace B := Aside0.mk hb; clear hI hb hk; clear y0 y1 y2; obtain ⟨y0, y1, y2⟩ := HC.out _ B.out)
          | (go_at_call 24; (with_reducible refine (FB.out _ _ J.out B.out).mono ?_); rintro e u2 ⟨rfl, hJ, hb, hk⟩; replace I := Aside0.mk (keep63 I.out hk G.out); replace J := Aside0.mk hJ; replace B := Aside0.mk hb; clear hJ hb hk; clear y0 y1 y2; obtain ⟨y0, y1, y2⟩ := HC.out _ B.out)
          | (go_at_call 13; (with_reducible refine (HAL.out _).mono ?_); rintro e w3 ⟨rfl, rfl⟩)
          | (go_at_call 16; (with_reducible refine (F1.out _ _ I.out B.out).mono ?_); rintro e u5 ⟨rfl, hI, hb, hk⟩; replace J := Aside0.mk (keep52 J.out hk G.out); replace I := Aside0.mk hI; replace B := Aside0.mk hb; clear hI hb hk)
          | (go_at_call 26; (with_reducible refine (F2.out _ _ J.out B.out).mono ?_); rintro e u6 ⟨rfl, hJ, hb, hk⟩; replace I := Aside0.mk (keep63 I.out hk G.out); replace J := Aside0.mk hJ; replace B := Aside0.mk hb; clear hJ hb hk)
          | (go_at_call 27; (with_reducible refine (F3.out _ _ I.out B.out).mono ?_); rintro e u7 ⟨rfl, hI, hb, hk⟩; replace J := Aside0.mk (keep52 J.out hk G.out); replace I := Aside0.mk hI; replace B := Aside0.mk hb; clear hI hb hk)
          | (go_at_call 28; (with_reducible refine (F4.out _ _ J.out B.out).mono ?_); rintro e u8 ⟨rfl, hJ, hb, hk⟩; replace I := Aside0.mk (keep63 I.out hk G.out); replace J := Aside0.mk hJ; replace B := Aside0.mk hb; clear hJ hb hk))
        refine ⟨⟨k + 1, q, by go_num, ⟨hlt⟩, HQ, I, J, B⟩, by simp [intOf]; omega⟩
      · by_cases h2 : kd = 2
        · subst h2
          obtain ⟨v, e, q, KA, KB, hq⟩ := text_both w s p ms HSZ.out hp.out
          have FA : Aside0 (∀ g w1, IsS63 w w1 g s p → Below w.heap.size w w1 → Calls Try.prog 17 #[.pointer (some ⟨g, 0, none⟩), .int .i64 ms] w1 fun e1 w2 => e1 = .returned (.tuple #[.string v, .int .i64 e]) ∧ IsS63 w w2 g s q ∧ Below w.heap.size w w2 ∧ KeepBut w1 w2 g none) := ⟨KA⟩
          have FB : Aside0 (∀ g w1, IsS52 w w1 g s p → Below w.heap.size w w1 → Calls Try.prog 25 #[.pointer (some ⟨g, 0, none⟩), .int .i64 ms] w1 fun e1 w2 => e1 = .returned (.tuple #[.string v, .int .i64 e]) ∧ IsS52 w w2 g s q ∧ Below w.heap.size w w2 ∧ KeepBut w1 w2 g none) := ⟨KB⟩
          obtain ⟨K1, K2⟩ := left_both w s q HSZ.out hq
          obtain ⟨er, K3, K4⟩ := end_both w s q
          have F1 : Aside0 (∀ g w1, IsS63 w w1 g s q → Below w.heap.size w w1 → Calls Try.prog 16 #[.pointer (some ⟨g, 0, none⟩)] w1 fun e w2 => e = .returned (.int .i64 ((s.size : Int) - (q : Int))) ∧ IsS63 w w2 g s q ∧ Below w.heap.size w w2 ∧ KeepBut w1 w2 g none) := ⟨K1⟩
          have F2 : Aside0 (∀ g w1, IsS52 w w1 g s q → Below w.heap.size w w1 → Calls Try.prog 26 #[.pointer (some ⟨g, 0, none⟩)] w1 fun e w2 => e = .returned (.int .i64 ((s.size : Int) - (q : Int))) ∧ IsS52 w w2 g s q ∧ Below w.heap.size w w2 ∧ KeepBut w1 w2 g none) := ⟨K2⟩
          have F3 : Aside0 (∀ g w1, IsS63 w w1 g s q → Below w.heap.size w w1 → Calls Try.prog 27 #[.pointer (some ⟨g, 0, none⟩)] w1 fun e w2 => e = .returned (.int .i64 er) ∧ IsS63 w w2 g s q ∧ Below w.heap.size w w2 ∧ KeepBut w1 w2 g none) := ⟨K3⟩
          have F4 : Aside0 (∀ g w1, IsS52 w w1 g s q → Below w.heap.size w w1 → Calls Try.prog 28 #[.pointer (some ⟨g, 0, none⟩)] w1 fun e w2 => e = .returned (.int .i64 er) ∧ IsS52 w w2 g s q ∧ Below w.heap.size w w2 ∧ KeepBut w1 w2 g none) := ⟨K4⟩
          have HQ := Aside0.mk hq
          generalize ((s.size : Int) - (q : Int)) = lft at F1 F2 ⊢
          clear K1 K2 K3 K4 KA KB hq
          go_wp2_with (first
            | (go_at_call 17; (with_reducible refine (FA.out _ _ I.out B.out).mono ?_); rintro e u1 ⟨rfl, hI, hb, hk⟩; replace J := Aside0.mk (keep52 J.out hk G.out); replace I := Aside0.mk hI; replace B := Aside0.mk hb; clear hI hb hk; clear y0 y1 y2; obtain ⟨y0, y1, y2⟩ := HC.out _ B.out)
            | (go_at_call 25; (with_reducible refine (FB.out _ _ J.out B.out).mono ?_); rintro e u2 ⟨rfl, hJ, hb, hk⟩; replace I := Aside0.mk (keep63 I.out hk G.out); replace J := Aside0.mk hJ; replace B := Aside0.mk hb; clear hJ hb hk; clear y0 y1 y2; obtain ⟨y0, y1, y2⟩ := HC.out _ B.out)
            | (go_at_call 16; (with_reducible refine (F1.out _ _ I.out B.out).mono ?_); rintro e u5 ⟨rfl, hI, hb, hk⟩; replace J := Aside0.mk (keep52 J.out hk G.out); replace I := Aside0.mk hI; replace B := Aside0.mk hb; clear hI hb hk)
            | (go_at_call 26; (with_reducible refine (F2.out _ _ J.out B.out).mono ?_); rintro e u6 ⟨rfl, hJ, hb, hk⟩; replace I := Aside0.mk (keep63 I.out hk G.out); replace J := Aside0.mk hJ; replace B := Aside0.mk hb; clear hJ hb hk)
            | (go_at_call 27; (with_reducible refine (F3.out _ _ I.out B.out).mono ?_); rintro e u7 ⟨rfl, hI, hb, hk⟩; replace J := Aside0.mk (keep52 J.out hk G.out); replace I := Aside0.mk hI; replace B := Aside0.mk hb; clear hI hb hk)
            | (go_at_call 28; (with_reducible refine (F4.out _ _ J.out B.out).mono ?_); rintro e u8 ⟨rfl, hJ, hb, hk⟩; replace I := Aside0.mk (keep63 I.out hk G.out); replace J := Aside0.mk hJ; replace B := Aside0.mk hb; clear hJ hb hk))
          refine ⟨⟨k + 1, q, by go_num, ⟨hlt⟩, HQ, I, J, B⟩, by simp [intOf]; omega⟩
        · by_cases h0 : kd = 0
          · subst h0
            clear h1 h2
            obtain ⟨v, e, q, KA, KB, hq⟩ := number_both w s p wd HSZ.out hp.out
            have FA : Aside0 (∀ g w1, IsS63 w w1 g s p → Below w.heap.size w w1 → Calls Try.prog 15 #[.pointer (some ⟨g, 0, none⟩), .int .i64 wd] w1 fun e1 w2 => e1 = .returned (.tuple #[.int .u64 v, .int .i64 e]) ∧ IsS63 w w2 g s q ∧ Below w.heap.size w w2 ∧ KeepBut w1 w2 g none) := ⟨KA⟩
            have FB : Aside0 (∀ g w1, IsS52 w w1 g s p → Below w.heap.size w w1 → Calls Try.prog 22 #[.pointer (some ⟨g, 0, none⟩), .int .i64 wd] w1 fun e1 w2 => e1 = .returned (.tuple #[.int .u64 v, .int .i64 e]) ∧ IsS52 w w2 g s q ∧ Below w.heap.size w w2 ∧ KeepBut w1 w2 g none) := ⟨KB⟩
            obtain ⟨K1, K2⟩ := left_both w s q HSZ.out hq
            obtain ⟨er, K3, K4⟩ := end_both w s q
            have F1 : Aside0 (∀ g w1, IsS63 w w1 g s q → Below w.heap.size w w1 → Calls Try.prog 16 #[.pointer (some ⟨g, 0, none⟩)] w1 fun e w2 => e = .returned (.int .i64 ((s.size : Int) - (q : Int))) ∧ IsS63 w w2 g s q ∧ Below w.heap.size w w2 ∧ KeepBut w1 w2 g none) := ⟨K1⟩
            have F2 : Aside0 (∀ g w1, IsS52 w w1 g s q → Below w.heap.size w w1 → Calls Try.prog 26 #[.pointer (some ⟨g, 0, none⟩)] w1 fun e w2 => e = .returned (.int .i64 ((s.size : Int) - (q : Int))) ∧ IsS52 w w2 g s q ∧ Below w.heap.size w w2 ∧ KeepBut w1 w2 g none) := ⟨K2⟩
            have F3 : Aside0 (∀ g w1, IsS63 w w1 g s q → Below w.heap.size w w1 → Calls Try.prog 27 #[.pointer (some ⟨g, 0, none⟩)] w1 fun e w2 => e = .returned (.int .i64 er) ∧ IsS63 w w2 g s q ∧ Below w.heap.size w w2 ∧ KeepBut w1 w2 g none) := ⟨K3⟩
            have F4 : Aside0 (∀ g w1, IsS52 w w1 g s q → Below w.heap.size w w1 → Calls Try.prog 28 #[.pointer (some ⟨g, 0, none⟩)] w1 fun e w2 => e = .returned (.int .i64 er) ∧ IsS52 w w2 g s q ∧ Below w.heap.size w w2 ∧ KeepBut w1 w2 g none) := ⟨K4⟩
            have HQ := Aside0.mk hq
            generalize ((s.size : Int) - (q : Int)) = lft at F1 F2 ⊢
            clear K1 K2 K3 K4 KA KB hq
            go_wp2_with (first
              | (go_at_call 15; (with_reducible refine (FA.out _ _ I.out B.out).mono ?_); rintro e u1 ⟨rfl, hI, hb, hk⟩; replace J := Aside0.mk (keep52 J.out hk G.out); replace I := Aside0.mk hI; replace B := Aside0.mk hb; clear hI hb hk; clear y0 y1 y2; obtain ⟨y0, y1, y2⟩ := HC.out _ B.out)
              | (go_at_call 22; (with_reducible refine (FB.out _ _ J.out B.out).mono ?_); rintro e u2 ⟨rfl, hJ, hb, hk⟩; replace I := Aside0.mk (keep63 I.out hk G.out); replace J := Aside0.mk hJ; replace B := Aside0.mk hb; clear hJ hb hk; clear y0 y1 y2; obtain ⟨y0, y1, y2⟩ := HC.out _ B.out)
              | (go_at_call 16; (with_reducible refine (F1.out _ _ I.out B.out).mono ?_); rintro e u5 ⟨rfl, hI, hb, hk⟩; replace J := Aside0.mk (keep52 J.out hk G.out); replace I := Aside0.mk hI; replace B := Aside0.mk hb; clear hI hb hk)
              | (go_at_call 26; (with_reducible refine (F2.out _ _ J.out B.out).mono ?_); rintro e u6 ⟨rfl, hJ, hb, hk⟩; replace I := Aside0.mk (keep63 I.out hk G.out); replace J := Aside0.mk hJ; replace B := Aside0.mk hb; clear hJ hb hk)
              | (go_at_call 27; (with_reducible refine (F3.out _ _ I.out B.out).mono ?_); rintro e u7 ⟨rfl, hI, hb, hk⟩; replace J := Aside0.mk (keep52 J.out hk G.out); replace I := Aside0.mk hI; replace B := Aside0.mk hb; clear hI hb hk)
              | (go_at_call 28; (with_reducible refine (F4.out _ _ J.out B.out).mono ?_); rintro e u8 ⟨rfl, hJ, hb, hk⟩; replace I := Aside0.mk (keep63 I.out hk G.out); replace J := Aside0.mk hJ; replace B := Aside0.mk hb; clear hJ hb hk))
            refine ⟨⟨k + 1, q, by go_num, ⟨hlt⟩, HQ, I, J, B⟩, by simp [intOf]; omega⟩
          · have k0 : (kd == 0) = false := by simpa using h0
            have k1 : (kd == 1) = false := by simpa using h1
            have k2 : (kd == 2) = false := by simpa using h2
            clear h0 h1 h2
            obtain ⟨K1, K2⟩ := left_both w s p HSZ.out hp.out
            obtain ⟨er, K3, K4⟩ := end_both w s p
            have F1 : Aside0 (∀ g w1, IsS63 w w1 g s p → Below w.heap.size w w1 → Calls Try.prog 16 #[.pointer (some ⟨g, 0, none⟩)] w1 fun e w2 => e = .returned (.int .i64 ((s.size : Int) - (p : Int))) ∧ IsS63 w w2 g s p ∧ Below w.heap.size w w2 ∧ KeepBut w1 w2 g none) := ⟨K1⟩
            have F2 : Aside0 (∀ g w1, IsS52 w w1 g s p → Below w.heap.size w w1 → Calls Try.prog 26 #[.pointer (some ⟨g, 0, none⟩)] w1 fun e w2 => e = .returned (.int .i64 ((s.size : Int) - (p : Int))) ∧ IsS52 w w2 g s p ∧ Below w.heap.size w w2 ∧ KeepBut w1 w2 g none) := ⟨K2⟩
            have F3 : Aside0 (∀ g w1, IsS63 w w1 g s p → Below w.heap.size w w1 → Calls Try.prog 27 #[.pointer (some ⟨g, 0, none⟩)] w1 fun e w2 => e = .returned (.int .i64 er) ∧ IsS63 w w2 g s p ∧ Below w.heap.size w w2 ∧ KeepBut w1 w2 g none) := ⟨K3⟩
            have F4 : Aside0 (∀ g w1, IsS52 w w1 g s p → Below w.heap.size w w1 → Calls Try.prog 28 #[.pointer (some ⟨g, 0, none⟩)] w1 fun e w2 => e = .returned (.int .i64 er) ∧ IsS52 w w2 g s p ∧ Below w.heap.size w w2 ∧ KeepBut w1 w2 g none) := ⟨K4⟩
            generalize ((s.size : Int) - (p : Int)) = lft at F1 F2 ⊢
            clear K1 K2 K3 K4
            go_wp2_with (first
              | (go_at_call 16; (with_reducible refine (F1.out _ _ I.out B.out).mono ?_); rintro e u5 ⟨rfl, hI, hb, hk⟩; replace J := Aside0.mk (keep52 J.out hk G.out); replace I := Aside0.mk hI; replace B := Aside0.mk hb; clear hI hb hk)
              | (go_at_call 26; (with_reducible refine (F2.out _ _ J.out B.out).mono ?_); rintro e u6 ⟨rfl, hJ, hb, hk⟩; replace I := Aside0.mk (keep63 I.out hk G.out); replace J := Aside0.mk hJ; replace B := Aside0.mk hb; clear hJ hb hk)
              | (go_at_call 27; (with_reducible refine (F3.out _ _ I.out B.out).mono ?_); rintro e u7 ⟨rfl, hI, hb, hk⟩; replace J := Aside0.mk (keep52 J.out hk G.out); replace I := Aside0.mk hI; replace B := Aside0.mk hb; clear hI hb hk)
              | (go_at_call 28; (with_reducible refine (F4.out _ _ J.out B.out).mono ?_); rintro e u8 ⟨rfl, hJ, hb, hk⟩; replace I := Aside0.mk (keep63 I.out hk G.out); replace J := Aside0.mk hJ; replace B := Aside0.mk hb; clear hJ hb hk))
            refine ⟨⟨k + 1, p, by go_num, ⟨hlt⟩, hp, I, J, B⟩, by simp [intOf]; omega⟩
    · obtain rfl : k = l.length := by have := hk.out; omega
      obtain ⟨K1, K2⟩ := left_both w s p HSZ.out hp.out
      obtain ⟨er, K3, K4⟩ := end_both w s p
      have F1 : Aside0 (∀ g w1, IsS63 w w1 g s p → Below w.heap.size w w1 → Calls Try.prog 16 #[.pointer (some ⟨g, 0, none⟩)] w1 fun e w2 => e = .returned (.int .i64 ((s.size : Int) - (p : Int))) ∧ IsS63 w w2 g s p ∧ Below w.heap.size w w2 ∧ KeepBut w1 w2 g none) := ⟨K1⟩
      have F2 : Aside0 (∀ g w1, IsS52 w w1 g s p → Below w.heap.size w w1 → Calls Try.prog 26 #[.pointer (some ⟨g, 0, none⟩)] w1 fun e w2 => e = .returned (.int .i64 ((s.size : Int) - (p : Int))) ∧ IsS52 w w2 g s p ∧ Below w.heap.size w w2 ∧ KeepBut w1 w2 g none) := ⟨K2⟩
      have F3 : Aside0 (∀ g w1, IsS63 w w1 g s p → Below w.heap.size w w1 → Calls Try.prog 27 #[.pointer (some ⟨g, 0, none⟩)] w1 fun e w2 => e = .returned (.int .i64 er) ∧ IsS63 w w2 g s p ∧ Below w.heap.size w w2 ∧ KeepBut w1 w2 g none) := ⟨K3⟩
      have F4 : Aside0 (∀ g w1, IsS52 w w1 g s p → Below w.heap.size w w1 → Calls Try.prog 28 #[.pointer (some ⟨g, 0, none⟩)] w1 fun e w2 => e = .returned (.int .i64 er) ∧ IsS52 w w2 g s p ∧ Below w.heap.size w w2 ∧ KeepBut w1 w2 g none) := ⟨K4⟩
      generalize ((s.size : Int) - (p : Int)) = lft at F1 F2 ⊢
      clear K1 K2 K3 K4 hlt
      go_wp2_with (first
        | (go_at_call 16; (with_reducible refine (F1.out _ _ I.out B.out).mono ?_); rintro e u5 ⟨rfl, hI, hb, hk⟩; replace J := Aside0.mk (keep52 J.out hk G.out); replace I := Aside0.mk hI; replace B := Aside0.mk hb; clear hI hb hk)
        | (go_at_call 26; (with_reducible refine (F2.out _ _ J.out B.out).mono ?_); rintro e u6 ⟨rfl, hJ, hb, hk⟩; replace I := Aside0.mk (keep63 I.out hk G.out); replace J := Aside0.mk hJ; replace B := Aside0.mk hb; clear hJ hb hk)
        | (go_at_call 27; (with_reducible refine (F3.out _ _ I.out B.out).mono ?_); rintro e u7 ⟨rfl, hI, hb, hk⟩; replace J := Aside0.mk (keep52 J.out hk G.out); replace I := Aside0.mk hI; replace B := Aside0.mk hb; clear hI hb hk)
        | (go_at_call 28; (with_reducible refine (F4.out _ _ J.out B.out).mono ?_); rintro e u8 ⟨rfl, hJ, hb, hk⟩; replace I := Aside0.mk (keep63 I.out hk G.out); replace J := Aside0.mk hJ; replace B := Aside0.mk hb; clear hJ hb hk))
      go_ret
      exact ⟨rfl, B.out⟩
end Go.Proofs.Ytaegblhfhgiapaa.R
