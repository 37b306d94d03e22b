/- By hand: a number is written, width by width (printed by number_walks.py). -/
import Derived.Test.YtaegblhfhgiapaaPut
namespace Go.Proofs.Ytaegblhfhgiapaa.R
open Go.RowKit Go.Proofs.YtaegblhfhgiapaaW.PrintWords Go.Proofs.YtaegblhfhgiapaaW.PrintLast Go.Proofs.YtaegblhfhgiapaaW.PrintMore

set_option maxHeartbeats 1000000 in
theorem number_ok1 (base g : Nat) (A : Option Addr) (c : Nat) (l : List Int) (n : Int) (w : World) (hn0 : 0 ≤ n) (hz : n / 256 = 0) (hl : l.length ≤ 1000000) (h : Wr w base g A c l) :
    Calls Try.prog 9 #[.pointer (some ⟨g, 0, none⟩), .int .u64 n, .int .i64 1] w fun e w' => e = .returned (.int .i64 0) ∧ ∃ A' c', Wr w' base g A' c' (l ++ le 1 n) ∧ Stp w w' g A A' := by
  have HP := Aside0.mk (put_is base g A c l n 1 1 rfl w hn0 (by decide) hl h)
  clear h hl
  go_enter Try.func9, Try.ntmps9
  go_wp2_with (go_at_call 30; (with_reducible refine HP.out.mono ?_); rintro e w' ⟨rfl, hp⟩; have HQ := Aside0.mk hp; clear hp)
  go_ret
  exact ⟨rfl, HQ.out⟩
theorem number_bad1 (g : Nat) (n : Int) (w : World) (hz : ¬ n / 256 = 0) :
    Calls Try.prog 9 #[.pointer (some ⟨g, 0, none⟩), .int .u64 n, .int .i64 1] w fun e w' => e = .returned (.int .i64 1) ∧ w = w' := by
  go_enter Try.func9, Try.ntmps9
  go_wp2
  go_ret
  exact ⟨rfl, rfl⟩
set_option maxHeartbeats 1000000 in
theorem number_ok2 (base g : Nat) (A : Option Addr) (c : Nat) (l : List Int) (n : Int) (w : World) (hn0 : 0 ≤ n) (hz : n / 65536 = 0) (hl : l.length ≤ 1000000) (h : Wr w base g A c l) :
    Calls Try.prog 9 #[.pointer (some ⟨g, 0, none⟩), .int .u64 n, .int .i64 2] w fun e w' => e = .returned (.int .i64 0) ∧ ∃ A' c', Wr w' base g A' c' (l ++ le 2 n) ∧ Stp w w' g A A' := by
  have HP := Aside0.mk (put_is base g A c l n 2 2 rfl w hn0 (by decide) hl h)
  clear h hl
  go_enter Try.func9, Try.ntmps9
  go_wp2_with (go_at_call 30; (with_reducible refine HP.out.mono ?_); rintro e w' ⟨rfl, hp⟩; have HQ := Aside0.mk hp; clear hp)
  go_ret
  exact ⟨rfl, HQ.out⟩
theorem number_bad2 (g : Nat) (n : Int) (w : World) (hz : ¬ n / 65536 = 0) :
    Calls Try.prog 9 #[.pointer (some ⟨g, 0, none⟩), .int .u64 n, .int .i64 2] w fun e w' => e = .returned (.int .i64 1) ∧ w = w' := by
  go_enter Try.func9, Try.ntmps9
  go_wp2
  go_ret
  exact ⟨rfl, rfl⟩
set_option maxHeartbeats 1000000 in
theorem number_ok3 (base g : Nat) (A : Option Addr) (c : Nat) (l : List Int) (n : Int) (w : World) (hn0 : 0 ≤ n) (hz : n / 16777216 = 0) (hl : l.length ≤ 1000000) (h : Wr w base g A c l) :
    Calls Try.prog 9 #[.pointer (some ⟨g, 0, none⟩), .int .u64 n, .int .i64 3] w fun e w' => e = .returned (.int .i64 0) ∧ ∃ A' c', Wr w' base g A' c' (l ++ le 3 n) ∧ Stp w w' g A A' := by
  have HP := Aside0.mk (put_is base g A c l n 3 3 rfl w hn0 (by decide) hl h)
  clear h hl
  go_enter Try.func9, Try.ntmps9
  go_wp2_with (go_at_call 30; (with_reducible refine HP.out.mono ?_); rintro e w' ⟨rfl, hp⟩; have HQ := Aside0.mk hp; clear hp)
  go_ret
  exact ⟨rfl, HQ.out⟩
theorem number_bad3 (g : Nat) (n : Int) (w : World) (hz : ¬ n / 16777216 = 0) :
    Calls Try.prog 9 #[.pointer (some ⟨g, 0, none⟩), .int .u64 n, .int .i64 3] w fun e w' => e = .returned (.int .i64 1) ∧ w = w' := by
  go_enter Try.func9, Try.ntmps9
  go_wp2
  go_ret
  exact ⟨rfl, rfl⟩
set_option maxHeartbeats 1000000 in
theorem number_ok4 (base g : Nat) (A : Option Addr) (c : Nat) (l : List Int) (n : Int) (w : World) (hn0 : 0 ≤ n) (hz : n / 4294967296 = 0) (hl : l.length ≤ 1000000) (h : Wr w base g A c l) :
    Calls Try.prog 9 #[.pointer (some ⟨g, 0, none⟩), .int .u64 n, .int .i64 4] w fun e w' => e = .returned (.int .i64 0) ∧ ∃ A' c', Wr w' base g A' c' (l ++ le 4 n) ∧ Stp w w' g A A' := by
  have HP := Aside0.mk (put_is base g A c l n 4 4 rfl w hn0 (by decide) hl h)
  clear h hl
  go_enter Try.func9, Try.ntmps9
  go_wp2_with (go_at_call 30; (with_reducible refine HP.out.mono ?_); rintro e w' ⟨rfl, hp⟩; have HQ := Aside0.mk hp; clear hp)
  go_ret
  exact ⟨rfl, HQ.out⟩
theorem number_bad4 (g : Nat) (n : Int) (w : World) (hz : ¬ n / 4294967296 = 0) :
    Calls Try.prog 9 #[.pointer (some ⟨g, 0, none⟩), .int .u64 n, .int .i64 4] w fun e w' => e = .returned (.int .i64 1) ∧ w = w' := by
  go_enter Try.func9, Try.ntmps9
  go_wp2
  go_ret
  exact ⟨rfl, rfl⟩
set_option maxHeartbeats 1000000 in
theorem number_ok5 (base g : Nat) (A : Option Addr) (c : Nat) (l : List Int) (n : Int) (w : World) (hn0 : 0 ≤ n) (hz : n / 1099511627776 = 0) (hl : l.length ≤ 1000000) (h : Wr w base g A c l) :
    Calls Try.prog 9 #[.pointer (some ⟨g, 0, none⟩), .int .u64 n, .int .i64 5] w fun e w' => e = .returned (.int .i64 0) ∧ ∃ A' c', Wr w' base g A' c' (l ++ le 5 n) ∧ Stp w w' g A A' := by
  have HP := Aside0.mk (put_is base g A c l n 5 5 rfl w hn0 (by decide) hl h)
  clear h hl
  go_enter Try.func9, Try.ntmps9
  go_wp2_with (go_at_call 30; (with_reducible refine HP.out.mono ?_); rintro e w' ⟨rfl, hp⟩; have HQ := Aside0.mk hp; clear hp)
  go_ret
  exact ⟨rfl, HQ.out⟩
theorem number_bad5 (g : Nat) (n : Int) (w : World) (hz : ¬ n / 1099511627776 = 0) :
    Calls Try.prog 9 #[.pointer (some ⟨g, 0, none⟩), .int .u64 n, .int .i64 5] w fun e w' => e = .returned (.int .i64 1) ∧ w = w' := by
  go_enter Try.func9, Try.ntmps9
  go_wp2
  go_ret
  exact ⟨rfl, rfl⟩
set_option maxHeartbeats 1000000 in
theorem number_ok6 (base g : Nat) (A : Option Addr) (c : Nat) (l : List Int) (n : Int) (w : World) (hn0 : 0 ≤ n) (hz : n / 281474976710656 = 0) (hl : l.length ≤ 1000000) (h : Wr w base g A c l) :
    Calls Try.prog 9 #[.pointer (some ⟨g, 0, none⟩), .int .u64 n, .int .i64 6] w fun e w' => e = .returned (.int .i64 0) ∧ ∃ A' c', Wr w' base g A' c' (l ++ le 6 n) ∧ Stp w w' g A A' := by
  have HP := Aside0.mk (put_is base g A c l n 6 6 rfl w hn0 (by decide) hl h)
  clear h hl
  go_enter Try.func9, Try.ntmps9
  go_wp2_with (go_at_call 30; (with_reducible refine HP.out.mono ?_); rintro e w' ⟨rfl, hp⟩; have HQ := Aside0.mk hp; clear hp)
  go_ret
  exact ⟨rfl, HQ.out⟩
theorem number_bad6 (g : Nat) (n : Int) (w : World) (hz : ¬ n / 281474976710656 = 0) :
    Calls Try.prog 9 #[.pointer (some ⟨g, 0, none⟩), .int .u64 n, .int .i64 6] w fun e w' => e = .returned (.int .i64 1) ∧ w = w' := by
  go_enter Try.func9, Try.ntmps9
  go_wp2
  go_ret
  exact ⟨rfl, rfl⟩
set_option maxHeartbeats 1000000 in
theorem number_ok7 (base g : Nat) (A : Option Addr) (c : Nat) (l : List Int) (n : Int) (w : World) (hn0 : 0 ≤ n) (hz : n / 72057594037927936 = 0) (hl : l.length ≤ 1000000) (h : Wr w base g A c l) :
    Calls Try.prog 9 #[.pointer (some ⟨g, 0, none⟩), .int .u64 n, .int .i64 7] w fun e w' => e = .returned (.int .i64 0) ∧ ∃ A' c', Wr w' base g A' c' (l ++ le 7 n) ∧ Stp w w' g A A' := by
  have HP := Aside0.mk (put_is base g A c l n 7 7 rfl w hn0 (by decide) hl h)
  clear h hl
  go_enter Try.func9, Try.ntmps9
  go_wp2_with (go_at_call 30; (with_reducible refine HP.out.mono ?_); rintro e w' ⟨rfl, hp⟩; have HQ := Aside0.mk hp; clear hp)
  go_ret
  exact ⟨rfl, HQ.out⟩
theorem number_bad7 (g : Nat) (n : Int) (w : World) (hz : ¬ n / 72057594037927936 = 0) :
    Calls Try.prog 9 #[.pointer (some ⟨g, 0, none⟩), .int .u64 n, .int .i64 7] w fun e w' => e = .returned (.int .i64 1) ∧ w = w' := by
  go_enter Try.func9, Try.ntmps9
  go_wp2
  go_ret
  exact ⟨rfl, rfl⟩
set_option maxHeartbeats 1000000 in
theorem number_ok8 (base g : Nat) (A : Option Addr) (c : Nat) (l : List Int) (n : Int) (w : World) (hn0 : 0 ≤ n) (hl : l.length ≤ 1000000) (h : Wr w base g A c l) :
    Calls Try.prog 9 #[.pointer (some ⟨g, 0, none⟩), .int .u64 n, .int .i64 8] w fun e w' => e = .returned (.int .i64 0) ∧ ∃ A' c', Wr w' base g A' c' (l ++ le 8 n) ∧ Stp w w' g A A' := by
  have HP := Aside0.mk (put_is base g A c l n 8 8 rfl w hn0 (by decide) hl h)
  clear h hl
  go_enter Try.func9, Try.ntmps9
  go_wp2_with (go_at_call 30; (with_reducible refine HP.out.mono ?_); rintro e w' ⟨rfl, hp⟩; have HQ := Aside0.mk hp; clear hp)
  go_ret
  exact ⟨rfl, HQ.out⟩
theorem number_low (g : Nat) (n k : Int) (w : World) (h : k < 1) :
    Calls Try.prog 9 #[.pointer (some ⟨g, 0, none⟩), .int .u64 n, .int .i64 k] w fun e w' => e = .returned (.int .i64 1) ∧ w = w' := by
  go_enter Try.func9, Try.ntmps9
  go_wp2
  go_ret
  exact ⟨rfl, rfl⟩
theorem number_high (g : Nat) (n k : Int) (w : World) (h1 : ¬ k < 1) (h : 8 < k) :
    Calls Try.prog 9 #[.pointer (some ⟨g, 0, none⟩), .int .u64 n, .int .i64 k] w fun e w' => e = .returned (.int .i64 1) ∧ w = w' := by
  go_enter Try.func9, Try.ntmps9
  go_wp2
  go_ret
  exact ⟨rfl, rfl⟩
/-- whether a number may be written so wide -/
def fits (n k : Int) : Bool := decide (1 ≤ k) && decide (k ≤ 8) && decide (n / 256 ^ k.toNat = 0)
theorem le_zero (n : Int) (h : n < 18446744073709551616) (h0 : 0 ≤ n) : n / 256 ^ 8 = 0 := by omega
theorem number_at (base g : Nat) (A : Option Addr) (c : Nat) (l : List Int) (n k : Int) (w : World) (hn0 : 0 ≤ n) (hf : fits n k = true) (hl : l.length ≤ 1000000) (h : Wr w base g A c l) :
    Calls Try.prog 9 #[.pointer (some ⟨g, 0, none⟩), .int .u64 n, .int .i64 k] w fun e w' => e = .returned (.int .i64 0) ∧ ∃ A' c', Wr w' base g A' c' (l ++ le k.toNat n) ∧ Stp w w' g A A' := by
  simp only [fits, Bool.and_eq_true, decide_eq_true_eq] at hf
  obtain ⟨⟨h1, h2⟩, h3⟩ := hf
  have hk : k = 1 ∨ k = 2 ∨ k = 3 ∨ k = 4 ∨ k = 5 ∨ k = 6 ∨ k = 7 ∨ k = 8 := by omega
  rcases hk with rfl | rfl | rfl | rfl | rfl | rfl | rfl | rfl
  · exact number_ok1 base g A c l n w hn0 h3 hl h
  · exact number_ok2 base g A c l n w hn0 h3 hl h
  · exact number_ok3 base g A c l n w hn0 h3 hl h
  · exact number_ok4 base g A c l n w hn0 h3 hl h
  · exact number_ok5 base g A c l n w hn0 h3 hl h
  · exact number_ok6 base g A c l n w hn0 h3 hl h
  · exact number_ok7 base g A c l n w hn0 h3 hl h
  · exact number_ok8 base g A c l n w hn0 hl h
theorem number_not (g : Nat) (n k : Int) (w : World) (hn0 : 0 ≤ n) (hn1 : n < 18446744073709551616) (hf : fits n k = false) :
    Calls Try.prog 9 #[.pointer (some ⟨g, 0, none⟩), .int .u64 n, .int .i64 k] w fun e w' => e = .returned (.int .i64 1) ∧ w = w' := by
  by_cases h1 : k < 1
  · exact number_low g n k w h1
  · by_cases h2 : 8 < k
    · exact number_high g n k w h1 h2
    · have h3 : ¬ n / 256 ^ k.toNat = 0 := by
        intro h3
        simp only [fits, decide_eq_true h3, decide_eq_true (show 1 ≤ k by omega), decide_eq_true (show k ≤ 8 by omega)] at hf
        cases hf
      have hk : k = 1 ∨ k = 2 ∨ k = 3 ∨ k = 4 ∨ k = 5 ∨ k = 6 ∨ k = 7 ∨ k = 8 := by omega
      rcases hk with rfl | rfl | rfl | rfl | rfl | rfl | rfl | rfl
      · exact number_bad1 g n w h3
      · exact number_bad2 g n w h3
      · exact number_bad3 g n w h3
      · exact number_bad4 g n w h3
      · exact number_bad5 g n w h3
      · exact number_bad6 g n w h3
      · exact number_bad7 g n w h3
      · exact absurd (le_zero n hn1 hn0) h3
end Go.Proofs.Ytaegblhfhgiapaa.R
