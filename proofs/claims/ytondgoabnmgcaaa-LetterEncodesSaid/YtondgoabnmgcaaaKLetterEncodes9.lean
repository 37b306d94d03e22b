/- Texts of this claim, one behind the other (joined by pack.py): OPut ONumber. -/
import Derived.Test.YtondgoabnmgcaaaKLetterEncodes5
import Derived.Test.YtondgoabnmgcaaaKLetterEncodes2
import Derived.Test.YtondgoabnmgcaaaProg
import Derived.Laws.CopyOwn
import Derived.Laws.Cover2
import Derived.Laws.Externs
section
/- By hand: a writer's bytes. -/
namespace Go.Proofs.YtondgoabnmgcaaaO.R
open Go.RowKit Go.Proofs.YtondgoabnmgcaaaW.PrintWords Go.Proofs.YtondgoabnmgcaaaW.PrintLast Go.Proofs.YtondgoabnmgcaaaW.PrintMore

/-- the low bytes of a number, the lowest first -/
def le : Nat → Int → List Int
  | 0, _ => []
  | k + 1, n => n % 256 :: le k (n / 256)
theorem le_length : ∀ k n, (le k n).length = k
  | 0, _ => rfl
  | k + 1, n => by rw [le, List.length_cons, le_length k]
theorem le_snoc : ∀ k n, le (k + 1) n = le k n ++ [n / 256 ^ k % 256]
  | 0, n => by simp [le]
  | k + 1, n => by
    rw [le, le_snoc k (n / 256)]
    have : n / 256 / 256 ^ k = n / 256 ^ (k + 1) := by
      rw [Int.ediv_ediv_of_nonneg (by decide), Int.pow_succ, Int.mul_comm]
    rw [this]
    rfl
/-- a writer at block g: its bytes are a row of its own, behind base -/
structure Wr (w : World) (base g : Nat) (A : Option Addr) (c : Nat) (l : List Int) : Prop where
  cell : w.heap[g]? = some (.cells #[.slice A l.length c] 98 (0, 0))
  own : w.ownsRow base 5 1 (.slice A l.length c) l.length (nums .u8 l)
  far : base ≤ g
/-- what a step on the writer at g leaves: all but g and its row -/
structure Stp (w w' : World) (g : Nat) (A A' : Option Addr) : Prop where
  os : w'.os = w.os
  tape : w'.tape = w.tape
  output : w'.output = w.output
  size : w.heap.size ≤ w'.heap.size
  block : ∀ k, k < w.heap.size → k ≠ g → A.map (·.block) ≠ some k → w'.heap[k]? = w.heap[k]?
  row : A'.map (·.block) = A.map (·.block) ∨ ∃ b, A'.map (·.block) = some b ∧ w.heap.size ≤ b
theorem Stp.refl (w : World) (g : Nat) (A : Option Addr) : Stp w w g A A := ⟨rfl, rfl, rfl, Nat.le_refl _, fun _ _ _ _ => rfl, .inl rfl⟩
theorem Stp.trans {w w1 w2 : World} {g : Nat} {A B C : Option Addr} (h : Stp w w1 g A B) (k : Stp w1 w2 g B C) : Stp w w2 g A C := by
  refine ⟨k.os.trans h.os, k.tape.trans h.tape, k.output.trans h.output, Nat.le_trans h.size k.size, fun i hi hg hA => ?_, ?_⟩
  · refine (k.block i (Nat.lt_of_lt_of_le hi h.size) hg ?_).trans (h.block i hi hg hA)
    rcases h.row with e | ⟨b, e, hb⟩
    · rw [e]; exact hA
    · rw [e]; intro h'; injection h' with h'; omega
  · rcases k.row with e | ⟨b, e, hb⟩
    · rw [e]
      rcases h.row with e' | ⟨b, e', hb⟩
      · exact .inl e'
      · exact .inr ⟨b, e', hb⟩
    · exact .inr ⟨b, e, Nat.le_trans h.size hb⟩
theorem ownBlock_map (A : Option Addr) (n c : Nat) : (Value.slice A n c).ownBlock = A.map (·.block) := by cases A <;> rfl
theorem Wr.ne {w : World} {base g : Nat} {A : Option Addr} {c : Nat} {l : List Int} (h : Wr w base g A c l) : A.map (·.block) ≠ some g := by
  intro e
  obtain ⟨cells, hc⟩ := own_typed h.own g (by rw [ownBlock_map]; exact e)
  rw [h.cell] at hc
  injection hc with hc
  injection hc with _ ht
  exact absurd ht (by decide)
/-- all that lies below base lives on -/
theorem Wr.below {w w' : World} {base g : Nat} {A A' : Option Addr} {c : Nat} {l : List Int} (h : Wr w base g A c l) (s : Stp w w' g A A') : Below base w w' := by
  refine ⟨s.os, s.tape, s.output, s.size, fun k hk => ?_⟩
  rcases Nat.lt_or_ge k w.heap.size with hl | hl
  · refine s.block k hl (by have := h.far; omega) ?_
    intro e
    have := (h.own.lt k (by rw [ownBlock_map]; exact e)).1
    omega
  · have hg : g < w.heap.size := (Array.getElem?_eq_some_iff.1 h.cell).1
    have := h.far
    omega
/-- behind an append, and its store -/
theorem wr_put {wr w1 : World} {base g : Nat} {B B1 : Option Addr} {d d1 : Nat} {xs ys : List Int} (h : Wr wr base g B d xs) (hg : wr.grownBy w1 (Value.slice B xs.length d).ownBlock)
    (ho : w1.ownsRow base 5 1 (.slice B1 (xs ++ ys).length d1) (xs ++ ys).length (nums .u8 (xs ++ ys)))
    (hat : (Value.slice B1 (xs ++ ys).length d1).ownBlock = (Value.slice B xs.length d).ownBlock ∨ ∃ b, (Value.slice B1 (xs ++ ys).length d1).ownBlock = some b ∧ wr.heap.size ≤ b) :
    Wr (w1.setCell ⟨g, 0, none⟩ (.slice B1 (xs ++ ys).length d1)) base g B1 d1 (xs ++ ys) ∧ Stp wr (w1.setCell ⟨g, 0, none⟩ (.slice B1 (xs ++ ys).length d1)) g B B1 := by
  have hc1 : w1.heap[g]? = some (.cells #[.slice B xs.length d] 98 (0, 0)) := (hg.block g (Array.getElem?_eq_some_iff.1 h.cell).1 (by rw [ownBlock_map]; exact fun e => h.ne e.symm)).trans h.cell
  refine ⟨⟨blk_put hc1 0 _ rfl, own_move ho (fun k hk => Below.heap_setCell w1 _ _ k ?_), h.far⟩, ?_⟩
  · rintro rfl
    obtain ⟨cells, hc⟩ := own_typed ho _ hk
    rw [hc1] at hc
    injection hc with hc
    injection hc with _ ht
    exact absurd ht (by decide)
  · rw [ownBlock_map, ownBlock_map] at hat
    rw [ownBlock_map] at hg
    have hs : (w1.setCell ⟨g, 0, none⟩ (.slice B1 (xs ++ ys).length d1)).heap.size = w1.heap.size := by simp [World.setCell]
    exact ⟨hg.os, hg.tape, hg.output, by rw [hs]; exact hg.size, fun k hk hkg hB => (Below.heap_setCell w1 _ _ k hkg).trans (hg.block k hk fun e => hB e.symm), hat⟩
set_option maxHeartbeats 2000000 in
theorem put_at (base g : Nat) (A : Option Addr) (c : Nat) (l : List Int) (n : Int) (k : Nat) (w : World) (hn0 : 0 ≤ n) (hk : k ≤ 8) (hl : l.length ≤ 1000000)
    (h : Wr w base g A c l) :
    Calls Try.prog 82 #[.pointer (some ⟨g, 0, none⟩), .int .u64 n, .int .i64 k] w fun e w' => e = .returned (.tuple #[]) ∧ ∃ A' c', Wr w' base g A' c' (l ++ le k n) ∧ Stp w w' g A A' := by
  have H := Aside0.mk h
  have hu := Try.underlying48
  clear h
  go_enter Try.func82, Try.ntmps82
  go_wp2
  go_loopw [1, 7] (fun m i wr => ∃ (j : Nat) (z : Int) (B : Option Addr) (d : Nat), m = .int .u64 z ∧ i = .int .i64 j ∧ Aside0 (j ≤ k) ∧ Aside0 (z = n / 256 ^ j) ∧ Aside0 (Wr wr base g B d (l ++ le j n)) ∧ Aside0 (Stp w wr g A B))
    (fun _ i _ => k - (intOf i).toNat)
  case atStart => exact ⟨0, n, A, c, rfl, rfl, ⟨Nat.zero_le _⟩, ⟨by simp⟩, ⟨by rw [le, List.append_nil]; exact H.out⟩, ⟨Stp.refl _ _ _⟩⟩
  case round =>
    obtain ⟨j, z, B, d, rfl, rfl, hj, hz, HW, HS⟩ := hrel
    by_cases hlt : j < k
    · have hz0 : 0 ≤ z := by rw [hz.out]; exact Int.ediv_nonneg hn0 (Int.le_of_lt (Int.pow_pos (by decide)))
      have hZ0 := Aside0.mk hz0
      have hxl : (l ++ le j n).length ≤ 1000008 := by rw [List.length_append, le_length]; omega
      have hsn : Aside0 (l ++ le (j + 1) n = (l ++ le j n) ++ [z % 256]) := ⟨by rw [le_snoc, hz.out, List.append_assoc]⟩
      generalize l ++ le j n = xs at HW hxl hsn
      have hc : wr.cell? ⟨g, 0, none⟩ = some (.slice B xs.length d) := blk_cell HW.out.cell 0
      have hbase : base ≤ wr.heap.size := by
        have := (Array.getElem?_eq_some_iff.1 HW.out.cell).1
        have := HW.out.far
        omega
      have HBS := Aside0.mk hbase
      have HXL := Aside0.mk hxl
      clear hn0 hz0 hbase hxl
      go_wp2_with (at_builtin; go_loud (refine print_append_num base rfl (.tmp 13) (.tmp 16) 48 5 .u8 1 rfl Try.underlying48 (by kernel_rfl) (by decide) (.slice B xs.length d) xs (z % 256) rfl rfl HW.out.own (Below.refl base wr) HBS.out (by have := HXL.out; omega) ?_); intro v1 w1 hown hB hg hat; have HG := Aside0.mk hg; have HAT := Aside0.mk hat; obtain ⟨B1, d1, rfl⟩ := own_slice hown; have HO := Aside0.mk hown; have HC1 := Aside0.mk ((hg.block g (Array.getElem?_eq_some_iff.1 HW.out.cell).1 (by rw [ownBlock_map]; exact fun e => HW.out.ne e.symm)).trans HW.out.cell); have hc1 : w1.cell? ⟨g, 0, none⟩ = some (Value.slice B xs.length d) := blk_cell HC1.out 0; have hf1 := blk_frozen HC1.out 0; clear hown hg hat hB hc)
      have hlen : xs.length + 1 = (xs ++ [z % 256]).length := by simp
      rw [hlen]
      obtain ⟨P1, P2⟩ := wr_put HW.out HG.out HO.out HAT.out
      refine ⟨⟨j + 1, z / 256, B1, d1, rfl, by go_num, ⟨hlt⟩, ⟨?_⟩, ⟨by rw [hsn.out]; exact P1⟩, ⟨HS.out.trans P2⟩⟩, by simp [intOf]; omega⟩
      rw [hz.out, Int.ediv_ediv_of_nonneg (Int.le_of_lt (Int.pow_pos (by decide))), Int.pow_succ]
    · obtain rfl : j = k := by have := hj.out; omega
      clear hlt
      go_wp2
      go_end0
      exact ⟨rfl, _, _, HW.out, HS.out⟩
theorem put_is (base g : Nat) (A : Option Addr) (c : Nat) (l : List Int) (n : Int) (k : Nat) (K : Int) (hK : K = (k : Int)) (w : World) (hn0 : 0 ≤ n) (hk : k ≤ 8) (hl : l.length ≤ 1000000)
    (h : Wr w base g A c l) :
    Calls Try.prog 82 #[.pointer (some ⟨g, 0, none⟩), .int .u64 n, .int .i64 K] w fun e w' => e = .returned (.tuple #[]) ∧ ∃ A' c', Wr w' base g A' c' (l ++ le k n) ∧ Stp w w' g A A' := by
  subst hK
  exact put_at base g A c l n k w hn0 hk hl h
end Go.Proofs.YtondgoabnmgcaaaO.R
end
section
/- By hand: a number is written, width by width (printed by number_walks.py). -/
namespace Go.Proofs.YtondgoabnmgcaaaO.R
open Go.RowKit Go.Proofs.YtondgoabnmgcaaaW.PrintWords Go.Proofs.YtondgoabnmgcaaaW.PrintLast Go.Proofs.YtondgoabnmgcaaaW.PrintMore

set_option maxHeartbeats 1000000 in
theorem number_ok1 (base g : Nat) (A : Option Addr) (c : Nat) (l : List Int) (n : Int) (w : World) (hn0 : 0 ≤ n) (hz : n / 256 = 0) (hl : l.length ≤ 1000000) (h : Wr w base g A c l) :
    Calls Try.prog 49 #[.pointer (some ⟨g, 0, none⟩), .int .u64 n, .int .i64 1] w fun e w' => e = .returned (.int .i64 0) ∧ ∃ A' c', Wr w' base g A' c' (l ++ le 1 n) ∧ Stp w w' g A A' := by
  have HP := Aside0.mk (put_is base g A c l n 1 1 rfl w hn0 (by decide) hl h)
  clear h hl
  go_enter Try.func49, Try.ntmps49
  go_wp2_with (go_at_call 82; (with_reducible refine HP.out.mono ?_); rintro e w' ⟨rfl, hp⟩; have HQ := Aside0.mk hp; clear hp)
  go_ret
  exact ⟨rfl, HQ.out⟩
set_option maxHeartbeats 1000000 in
theorem number_ok8 (base g : Nat) (A : Option Addr) (c : Nat) (l : List Int) (n : Int) (w : World) (hn0 : 0 ≤ n) (hl : l.length ≤ 1000000) (h : Wr w base g A c l) :
    Calls Try.prog 49 #[.pointer (some ⟨g, 0, none⟩), .int .u64 n, .int .i64 8] w fun e w' => e = .returned (.int .i64 0) ∧ ∃ A' c', Wr w' base g A' c' (l ++ le 8 n) ∧ Stp w w' g A A' := by
  have HP := Aside0.mk (put_is base g A c l n 8 8 rfl w hn0 (by decide) hl h)
  clear h hl
  go_enter Try.func49, Try.ntmps49
  go_wp2_with (go_at_call 82; (with_reducible refine HP.out.mono ?_); rintro e w' ⟨rfl, hp⟩; have HQ := Aside0.mk hp; clear hp)
  go_ret
  exact ⟨rfl, HQ.out⟩
/-- whether a number may be written so wide -/
def fits (n k : Int) : Bool := decide (1 ≤ k) && decide (k ≤ 8) && decide (n / 256 ^ k.toNat = 0)
theorem le_zero (n : Int) (h : n < 18446744073709551616) (h0 : 0 ≤ n) : n / 256 ^ 8 = 0 := by omega
end Go.Proofs.YtondgoabnmgcaaaO.R
end
