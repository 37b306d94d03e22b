/- Texts of this claim, one behind the other (joined by pack.py): EncSmall Encode RPut Same. -/
import Derived.Test.YtondgoabnmgcaaaKLetterEncodes12
import Derived.Test.YtondgoabnmgcaaaKLetterEncodes14
import Derived.Laws.Pointers
import Derived.Test.YtondgoabnmgcaaaKLetterEncodes8
import Derived.Laws.CopyOwn
import Derived.Test.YtondgoabnmgcaaaKLetterEncodes7
import Derived.Test.YtondgoabnmgcaaaKLetterEncodes11
section
/- By hand: the closures of letter.Encode that write numbers. -/
namespace Go.Proofs.Ytondgoabnmgcaaa.B
open Go.RowKit Go.Proofs.YtondgoabnmgcaaaW.PrintWords Go.Proofs.YtondgoabnmgcaaaW.PrintLast Go.Proofs.YtondgoabnmgcaaaW.PrintMore
open Go.Proofs.YtondgoabnmgcaaaO.R (Wr Stp le le_length number_ok1 number_ok8)
set_option linter.unusedSimpArgs false
set_option linter.unusedVariables false
/-- what lies there and is no writer's, nor a row of bytes, stays -/
structure Kp (w w' : World) : Prop where
  size : w.heap.size ≤ w'.heap.size
  block : ∀ (k : Nat) (cs : Array Value) (t : TypeId), w.heap[k]? = some (.cells cs t (0, 0)) → t ≠ 5 → t ≠ 98 → w'.heap[k]? = some (.cells cs t (0, 0))
theorem Kp.refl (w : World) : Kp w w := ⟨Nat.le_refl _, fun _ _ _ h _ _ => h⟩
theorem Kp.trans {w w1 w2 : World} (h : Kp w w1) (k : Kp w1 w2) : Kp w w2 := ⟨Nat.le_trans h.size k.size, fun i cs t hi a b => k.block i cs t (h.block i cs t hi a b) a b⟩
theorem Kp.below {w w1 : World} (h : Below w.heap.size w w1) : Kp w w1 := ⟨h.size, fun k cs t hk _ _ => blk_below hk h⟩
theorem Kp.stp {w w' : World} {base g : Nat} {A A' : Option Addr} {c : Nat} {L : List Int} (h : Wr w base g A c L) (s : Stp w w' g A A') : Kp w w' := by
  refine ⟨s.size, fun k cs t hk h5 h98 => ?_⟩
  refine (s.block k (blk_lt hk) ?_ ?_).trans hk
  · rintro rfl
    rw [h.cell] at hk
    injection hk with hk
    injection hk with _ ht
    exact h98 ht.symm
  · intro e
    obtain ⟨cells, hc⟩ := own_typed h.own k (by rw [Go.Proofs.YtondgoabnmgcaaaO.R.ownBlock_map]; exact e)
    rw [hc] at hk
    injection hk with hk
    injection hk with _ ht
    exact h5 ht.symm
/-- where Encode stands: the letter's box, the writer, the box of the pointer to it -/
structure En (w0 w : World) (g g1 g4 : Nat) (cs : Array Value) (L : List Int) : Prop where
  wr : ∃ A c, Wr w w0.heap.size g A c L
  k1 : w.heap[g1]? = some (.cells cs 32 (0, 0))
  k4 : w.heap[g4]? = some (.cells #[.pointer (some ⟨g, 0, none⟩)] 96 (0, 0))
  B : Below w0.heap.size w0 w
theorem En.below {w0 w w1 : World} {g g1 g4 : Nat} {cs : Array Value} {L : List Int} (S : En w0 w g g1 g4 cs L) (hb : Below w.heap.size w w1) : En w0 w1 g g1 g4 cs L := by
  obtain ⟨A, c, h⟩ := S.wr
  exact ⟨⟨A, c, h.keep hb⟩, blk_below S.k1 hb, blk_below S.k4 hb, below_step S.B hb⟩
theorem En.stp {w0 w w1 : World} {g g1 g4 : Nat} {cs : Array Value} {L L' : List Int} (S : En w0 w g g1 g4 cs L) {A A' : Option Addr} {c c' : Nat} (h : Wr w w0.heap.size g A c L) (h' : Wr w1 w0.heap.size g A' c' L') (s : Stp w w1 g A A') : En w0 w1 g g1 g4 cs L' ∧ Kp w w1 := by
  have K := Kp.stp h s
  exact ⟨⟨⟨A', c', h'⟩, K.block _ _ _ S.k1 (by decide) (by decide), K.block _ _ _ S.k4 (by decide) (by decide), S.B.trans (h.below s)⟩, K⟩
theorem flat_take (f : Int → List Int) (ns : List Int) (j : Nat) (n : Int) (h : ns[j]? = some n) : (ns.take (j + 1)).flatMap f = (ns.take j).flatMap f ++ f n := by
  obtain ⟨hj, hx⟩ := List.getElem?_eq_some_iff.1 h
  rw [List.take_succ_eq_append_getElem hj, List.flatMap_append, hx]
  simp
theorem flat_len (W : Nat) (ns : List Int) : (ns.flatMap (le W)).length = W * ns.length := by
  induction ns with
  | nil => simp
  | cons n ns ih => rw [List.flatMap_cons, List.length_append, ih, le_length, List.length_cons, Nat.mul_succ]; omega

set_option maxHeartbeats 1000000 in
theorem small_at (w0 w : World) (g g1 g4 : Nat) (cs : Array Value) (L : List Int) (S : En w0 w g g1 g4 cs L) (ga : Nat) (ns : List Int) (ha : w.heap[ga]? = some (.cells (ns.map (Value.int .i64)).toArray 3 (0, 0)))
    (hn : ∀ n ∈ ns, 0 ≤ n ∧ n < 256) (hL : L.length + 1 * ns.length ≤ 100000) :
    Calls Try.prog 48 #[.slice (some ⟨ga, 0, none⟩) ns.length ns.length, .pointer (some ⟨g4, 0, none⟩)] w fun e w' => e = .returned (.tuple #[]) ∧ En w0 w' g g1 g4 cs (L ++ ns.flatMap (le 1)) ∧ Kp w w' := by
  have HS := Aside0.mk S
  have HA := Aside0.mk ha
  have HN := Aside0.mk hn
  have HL := Aside0.mk hL
  have hlen : (ns.length : Int) ≤ 9223372036854775807 := by omega
  clear S ha hn hL
  go_enter Try.func48, Try.ntmps48
  go_wp2
  go_loopw [7] (fun i wr => ∃ j : Nat, i = .int .i64 j ∧ Aside0 (j ≤ ns.length) ∧ Aside0 (En w0 wr g g1 g4 cs (L ++ (ns.take j).flatMap (le 1))) ∧ Aside0 (Kp w wr))
    (fun i _ => ns.length - (intOf i).toNat)
  case atStart => exact ⟨0, rfl, ⟨Nat.zero_le _⟩, ⟨by simpa using HS.out⟩, ⟨Kp.refl _⟩⟩
  case round =>
    obtain ⟨j, rfl, hj, hS, hK⟩ := hrel
    by_cases hlt : j < ns.length
    · have hka := hK.out.block _ _ _ HA.out (by decide) (by decide)
      obtain ⟨n, hjn⟩ : ∃ n, ns[j]? = some n := ⟨ns[j], List.getElem?_eq_getElem hlt⟩
      have hce : wr.cell? ⟨ga, j, none⟩ = some (.int .i64 n) := (blk_cell hka j).trans (by simp [hjn])
      obtain ⟨hn0, hn1⟩ := HN.out n (List.mem_of_getElem? hjn)
      have hz : n / 256 = 0 ∨ True := .inr trivial
      have hcv : IntKind.u64.wrap n = n := by rw [IntKind.wrap_u64]; omega
      have HJ := Aside0.mk hjn
      have c4 := blk_cell hS.out.k4 0
      obtain ⟨A, c, hW⟩ := hS.out.wr
      have HW := Aside0.mk hW
      have H0 := Aside0.mk (And.intro hn0 hn1)
      have HLL : Aside0 ((L ++ (ns.take j).flatMap (le 1)).length ≤ 1000000) := ⟨by rw [List.length_append, flat_len, List.length_take]; have := HL.out; have : 1 * min j ns.length ≤ 1 * ns.length := Nat.mul_le_mul_left _ (Nat.min_le_right _ _); omega⟩
      clear hka hjn hn0 hn1 hz hW
      go_wp2_with (go_at_call 49; refine (number_ok1 w0.heap.size g A c _ n _ H0.out.1 (by have := H0.out; omega) HLL.out HW.out).mono ?_; rintro e w' ⟨rfl, A', c', hW', hs⟩; have HE := Aside0.mk (hS.out.stp HW.out hW' hs); clear hW' hs)
      go_roundw
      case rel => exact ⟨j + 1, by go_num, ⟨hlt⟩, ⟨by rw [flat_take (le 1) ns j n HJ.out, ← List.append_assoc]; exact HE.out.1⟩, ⟨hK.out.trans HE.out.2⟩⟩
      case measure => simp [intOf]; omega
    · obtain rfl : j = ns.length := by have := hj.out; omega
      go_wp2
      go_end0
      have := hS.out
      rw [List.take_length] at this
      exact ⟨rfl, this, hK.out⟩

set_option maxHeartbeats 1000000 in
theorem large_at (w0 w : World) (g g1 g4 : Nat) (cs : Array Value) (L : List Int) (S : En w0 w g g1 g4 cs L) (ga : Nat) (ns : List Int) (ha : w.heap[ga]? = some (.cells (ns.map (Value.int .u64)).toArray 24 (0, 0)))
    (hn : ∀ n ∈ ns, 0 ≤ n ∧ n < 18446744073709551616) (hL : L.length + 8 * ns.length ≤ 100000) :
    Calls Try.prog 50 #[.slice (some ⟨ga, 0, none⟩) ns.length ns.length, .pointer (some ⟨g4, 0, none⟩)] w fun e w' => e = .returned (.tuple #[]) ∧ En w0 w' g g1 g4 cs (L ++ ns.flatMap (le 8)) ∧ Kp w w' := by
  have HS := Aside0.mk S
  have HA := Aside0.mk ha
  have HN := Aside0.mk hn
  have HL := Aside0.mk hL
  have hlen : (ns.length : Int) ≤ 9223372036854775807 := by omega
  clear S ha hn hL
  go_enter Try.func50, Try.ntmps50
  go_wp2
  go_loopw [7] (fun i wr => ∃ j : Nat, i = .int .i64 j ∧ Aside0 (j ≤ ns.length) ∧ Aside0 (En w0 wr g g1 g4 cs (L ++ (ns.take j).flatMap (le 8))) ∧ Aside0 (Kp w wr))
    (fun i _ => ns.length - (intOf i).toNat)
  case atStart => exact ⟨0, rfl, ⟨Nat.zero_le _⟩, ⟨by simpa using HS.out⟩, ⟨Kp.refl _⟩⟩
  case round =>
    obtain ⟨j, rfl, hj, hS, hK⟩ := hrel
    by_cases hlt : j < ns.length
    · have hka := hK.out.block _ _ _ HA.out (by decide) (by decide)
      obtain ⟨n, hjn⟩ : ∃ n, ns[j]? = some n := ⟨ns[j], List.getElem?_eq_getElem hlt⟩
      have hce : wr.cell? ⟨ga, j, none⟩ = some (.int .u64 n) := (blk_cell hka j).trans (by simp [hjn])
      obtain ⟨hn0, hn1⟩ := HN.out n (List.mem_of_getElem? hjn)
      have hz : n / 256 = 0 ∨ True := .inr trivial
      
      have HJ := Aside0.mk hjn
      have c4 := blk_cell hS.out.k4 0
      obtain ⟨A, c, hW⟩ := hS.out.wr
      have HW := Aside0.mk hW
      have H0 := Aside0.mk (And.intro hn0 hn1)
      have HLL : Aside0 ((L ++ (ns.take j).flatMap (le 8)).length ≤ 1000000) := ⟨by rw [List.length_append, flat_len, List.length_take]; have := HL.out; have : 8 * min j ns.length ≤ 8 * ns.length := Nat.mul_le_mul_left _ (Nat.min_le_right _ _); omega⟩
      clear hka hjn hn0 hn1 hz hW
      go_wp2_with (go_at_call 49; refine (number_ok8 w0.heap.size g A c _ n _ H0.out.1 HLL.out HW.out).mono ?_; rintro e w' ⟨rfl, A', c', hW', hs⟩; have HE := Aside0.mk (hS.out.stp HW.out hW' hs); clear hW' hs)
      go_roundw
      case rel => exact ⟨j + 1, by go_num, ⟨hlt⟩, ⟨by rw [flat_take (le 8) ns j n HJ.out, ← List.append_assoc]; exact HE.out.1⟩, ⟨hK.out.trans HE.out.2⟩⟩
      case measure => simp [intOf]; omega
    · obtain rfl : j = ns.length := by have := hj.out; omega
      go_wp2
      go_end0
      have := hS.out
      rw [List.take_length] at this
      exact ⟨rfl, this, hK.out⟩

theorem small_1 (w0 W : World) (g g1 g4 : Nat) (cs : Array Value) (L : List Int) (m : Nat) (S : En w0 W g g1 g4 cs L) (hm : L.length ≤ m) (hM : m ≤ 50000) (ga : Nat) (hga : ga = W.heap.size) (b0 : Int) (hb0 : 0 ≤ b0 ∧ b0 < 256) :
    Calls Try.prog 48 #[.slice (some ⟨ga, 0, none⟩) 1 1, .pointer (some ⟨g4, 0, none⟩)] (W.alloc (.cells #[.int .i64 b0] 3)) fun e w' => e = .returned (.tuple #[]) ∧ En w0 w' g g1 g4 cs (L ++ (le 1 b0)) ∧ (L ++ (le 1 b0)).length ≤ m + 1 ∧ Kp W w' := by
  have hb : Below W.heap.size W (W.alloc (.cells #[.int .i64 b0] 3)) := below_alloc (Below.refl _ _) _
  have := small_at w0 _ g g1 g4 cs L (S.below hb) ga [b0] (by subst hga; show (W.heap.push _)[W.heap.size]? = _; simp) (by intro n hn; simp only [List.mem_cons, List.not_mem_nil, or_false] at hn; rcases hn with rfl <;> assumption) (by simp; omega)
  refine this.mono ?_
  rintro e w' ⟨rfl, h, hk⟩
  rw [show [b0].flatMap (le 1) = le 1 b0 from by simp [List.flatMap_cons]] at h
  exact ⟨rfl, h, by simp [le_length]; omega, (Kp.below hb).trans hk⟩

theorem small_2 (w0 W : World) (g g1 g4 : Nat) (cs : Array Value) (L : List Int) (m : Nat) (S : En w0 W g g1 g4 cs L) (hm : L.length ≤ m) (hM : m ≤ 50000) (ga : Nat) (hga : ga = W.heap.size) (b0 b1 : Int) (hb0 : 0 ≤ b0 ∧ b0 < 256) (hb1 : 0 ≤ b1 ∧ b1 < 256) :
    Calls Try.prog 48 #[.slice (some ⟨ga, 0, none⟩) 2 2, .pointer (some ⟨g4, 0, none⟩)] (W.alloc (.cells #[.int .i64 b0, .int .i64 b1] 3)) fun e w' => e = .returned (.tuple #[]) ∧ En w0 w' g g1 g4 cs (L ++ (le 1 b0 ++ le 1 b1)) ∧ (L ++ (le 1 b0 ++ le 1 b1)).length ≤ m + 2 ∧ Kp W w' := by
  have hb : Below W.heap.size W (W.alloc (.cells #[.int .i64 b0, .int .i64 b1] 3)) := below_alloc (Below.refl _ _) _
  have := small_at w0 _ g g1 g4 cs L (S.below hb) ga [b0, b1] (by subst hga; show (W.heap.push _)[W.heap.size]? = _; simp) (by intro n hn; simp only [List.mem_cons, List.not_mem_nil, or_false] at hn; rcases hn with rfl | rfl <;> assumption) (by simp; omega)
  refine this.mono ?_
  rintro e w' ⟨rfl, h, hk⟩
  rw [show [b0, b1].flatMap (le 1) = le 1 b0 ++ le 1 b1 from by simp [List.flatMap_cons]] at h
  exact ⟨rfl, h, by simp [le_length]; omega, (Kp.below hb).trans hk⟩

theorem small_3 (w0 W : World) (g g1 g4 : Nat) (cs : Array Value) (L : List Int) (m : Nat) (S : En w0 W g g1 g4 cs L) (hm : L.length ≤ m) (hM : m ≤ 50000) (ga : Nat) (hga : ga = W.heap.size) (b0 b1 b2 : Int) (hb0 : 0 ≤ b0 ∧ b0 < 256) (hb1 : 0 ≤ b1 ∧ b1 < 256) (hb2 : 0 ≤ b2 ∧ b2 < 256) :
    Calls Try.prog 48 #[.slice (some ⟨ga, 0, none⟩) 3 3, .pointer (some ⟨g4, 0, none⟩)] (W.alloc (.cells #[.int .i64 b0, .int .i64 b1, .int .i64 b2] 3)) fun e w' => e = .returned (.tuple #[]) ∧ En w0 w' g g1 g4 cs (L ++ (le 1 b0 ++ le 1 b1 ++ le 1 b2)) ∧ (L ++ (le 1 b0 ++ le 1 b1 ++ le 1 b2)).length ≤ m + 3 ∧ Kp W w' := by
  have hb : Below W.heap.size W (W.alloc (.cells #[.int .i64 b0, .int .i64 b1, .int .i64 b2] 3)) := below_alloc (Below.refl _ _) _
  have := small_at w0 _ g g1 g4 cs L (S.below hb) ga [b0, b1, b2] (by subst hga; show (W.heap.push _)[W.heap.size]? = _; simp) (by intro n hn; simp only [List.mem_cons, List.not_mem_nil, or_false] at hn; rcases hn with rfl | rfl | rfl <;> assumption) (by simp; omega)
  refine this.mono ?_
  rintro e w' ⟨rfl, h, hk⟩
  rw [show [b0, b1, b2].flatMap (le 1) = le 1 b0 ++ le 1 b1 ++ le 1 b2 from by simp [List.flatMap_cons]] at h
  exact ⟨rfl, h, by simp [le_length]; omega, (Kp.below hb).trans hk⟩

theorem large_1 (w0 W : World) (g g1 g4 : Nat) (cs : Array Value) (L : List Int) (m : Nat) (S : En w0 W g g1 g4 cs L) (hm : L.length ≤ m) (hM : m ≤ 50000) (ga : Nat) (hga : ga = W.heap.size) (b0 : Int) (hb0 : 0 ≤ b0 ∧ b0 < 18446744073709551616) :
    Calls Try.prog 50 #[.slice (some ⟨ga, 0, none⟩) 1 1, .pointer (some ⟨g4, 0, none⟩)] (W.alloc (.cells #[.int .u64 b0] 24)) fun e w' => e = .returned (.tuple #[]) ∧ En w0 w' g g1 g4 cs (L ++ (le 8 b0)) ∧ (L ++ (le 8 b0)).length ≤ m + 8 ∧ Kp W w' := by
  have hb : Below W.heap.size W (W.alloc (.cells #[.int .u64 b0] 24)) := below_alloc (Below.refl _ _) _
  have := large_at w0 _ g g1 g4 cs L (S.below hb) ga [b0] (by subst hga; show (W.heap.push _)[W.heap.size]? = _; simp) (by intro n hn; simp only [List.mem_cons, List.not_mem_nil, or_false] at hn; rcases hn with rfl <;> assumption) (by simp; omega)
  refine this.mono ?_
  rintro e w' ⟨rfl, h, hk⟩
  rw [show [b0].flatMap (le 8) = le 8 b0 from by simp [List.flatMap_cons]] at h
  exact ⟨rfl, h, by simp [le_length]; omega, (Kp.below hb).trans hk⟩

theorem large_2 (w0 W : World) (g g1 g4 : Nat) (cs : Array Value) (L : List Int) (m : Nat) (S : En w0 W g g1 g4 cs L) (hm : L.length ≤ m) (hM : m ≤ 50000) (ga : Nat) (hga : ga = W.heap.size) (b0 b1 : Int) (hb0 : 0 ≤ b0 ∧ b0 < 18446744073709551616) (hb1 : 0 ≤ b1 ∧ b1 < 18446744073709551616) :
    Calls Try.prog 50 #[.slice (some ⟨ga, 0, none⟩) 2 2, .pointer (some ⟨g4, 0, none⟩)] (W.alloc (.cells #[.int .u64 b0, .int .u64 b1] 24)) fun e w' => e = .returned (.tuple #[]) ∧ En w0 w' g g1 g4 cs (L ++ (le 8 b0 ++ le 8 b1)) ∧ (L ++ (le 8 b0 ++ le 8 b1)).length ≤ m + 16 ∧ Kp W w' := by
  have hb : Below W.heap.size W (W.alloc (.cells #[.int .u64 b0, .int .u64 b1] 24)) := below_alloc (Below.refl _ _) _
  have := large_at w0 _ g g1 g4 cs L (S.below hb) ga [b0, b1] (by subst hga; show (W.heap.push _)[W.heap.size]? = _; simp) (by intro n hn; simp only [List.mem_cons, List.not_mem_nil, or_false] at hn; rcases hn with rfl | rfl <;> assumption) (by simp; omega)
  refine this.mono ?_
  rintro e w' ⟨rfl, h, hk⟩
  rw [show [b0, b1].flatMap (le 8) = le 8 b0 ++ le 8 b1 from by simp [List.flatMap_cons]] at h
  exact ⟨rfl, h, by simp [le_length]; omega, (Kp.below hb).trans hk⟩

theorem large_7 (w0 W : World) (g g1 g4 : Nat) (cs : Array Value) (L : List Int) (m : Nat) (S : En w0 W g g1 g4 cs L) (hm : L.length ≤ m) (hM : m ≤ 50000) (ga : Nat) (hga : ga = W.heap.size) (b0 b1 b2 b3 b4 b5 b6 : Int) (hb0 : 0 ≤ b0 ∧ b0 < 18446744073709551616) (hb1 : 0 ≤ b1 ∧ b1 < 18446744073709551616) (hb2 : 0 ≤ b2 ∧ b2 < 18446744073709551616) (hb3 : 0 ≤ b3 ∧ b3 < 18446744073709551616) (hb4 : 0 ≤ b4 ∧ b4 < 18446744073709551616) (hb5 : 0 ≤ b5 ∧ b5 < 18446744073709551616) (hb6 : 0 ≤ b6 ∧ b6 < 18446744073709551616) :
    Calls Try.prog 50 #[.slice (some ⟨ga, 0, none⟩) 7 7, .pointer (some ⟨g4, 0, none⟩)] (W.alloc (.cells #[.int .u64 b0, .int .u64 b1, .int .u64 b2, .int .u64 b3, .int .u64 b4, .int .u64 b5, .int .u64 b6] 24)) fun e w' => e = .returned (.tuple #[]) ∧ En w0 w' g g1 g4 cs (L ++ (le 8 b0 ++ le 8 b1 ++ le 8 b2 ++ le 8 b3 ++ le 8 b4 ++ le 8 b5 ++ le 8 b6)) ∧ (L ++ (le 8 b0 ++ le 8 b1 ++ le 8 b2 ++ le 8 b3 ++ le 8 b4 ++ le 8 b5 ++ le 8 b6)).length ≤ m + 56 ∧ Kp W w' := by
  have hb : Below W.heap.size W (W.alloc (.cells #[.int .u64 b0, .int .u64 b1, .int .u64 b2, .int .u64 b3, .int .u64 b4, .int .u64 b5, .int .u64 b6] 24)) := below_alloc (Below.refl _ _) _
  have := large_at w0 _ g g1 g4 cs L (S.below hb) ga [b0, b1, b2, b3, b4, b5, b6] (by subst hga; show (W.heap.push _)[W.heap.size]? = _; simp) (by intro n hn; simp only [List.mem_cons, List.not_mem_nil, or_false] at hn; rcases hn with rfl | rfl | rfl | rfl | rfl | rfl | rfl <;> assumption) (by simp; omega)
  refine this.mono ?_
  rintro e w' ⟨rfl, h, hk⟩
  rw [show [b0, b1, b2, b3, b4, b5, b6].flatMap (le 8) = le 8 b0 ++ le 8 b1 ++ le 8 b2 ++ le 8 b3 ++ le 8 b4 ++ le 8 b5 ++ le 8 b6 from by simp [List.flatMap_cons]] at h
  exact ⟨rfl, h, by simp [le_length]; omega, (Kp.below hb).trans hk⟩

theorem Kp.grown {w w1 : World} {b : Option Nat} (h : w.grownBy w1 b) (hb : ∀ k, b = some k → ∃ cells, w.heap[k]? = some (.cells cells 5 (0, 0))) : Kp w w1 := by
  refine ⟨h.size, fun k cs t hk h5 _ => ?_⟩
  refine (h.block k (blk_lt hk) ?_).trans hk
  intro e
  obtain ⟨cells, hc⟩ := hb k e.symm
  rw [hc] at hk
  injection hk with hk
  injection hk with _ ht
  exact h5 ht.symm
theorem Kp.set98 {w : World} {g : Nat} {cs : Array Value} (hg : w.heap[g]? = some (.cells cs 98 (0, 0))) (v : Value) : Kp w (w.setCell ⟨g, 0, none⟩ v) := by
  refine ⟨by simp [World.setCell], fun k cs' t hk _ h98 => ?_⟩
  refine (Below.heap_setCell w ⟨g, 0, none⟩ v k ?_).trans hk
  rintro rfl
  rw [hg] at hk
  injection hk with hk
  injection hk with _ ht
  exact h98 ht.symm
set_option maxHeartbeats 1000000 in
theorem text_at (w0 w : World) (g g1 g4 : Nat) (cs : Array Value) (L : List Int) (m : Nat) (S : En w0 w g g1 g4 cs L) (hm : L.length ≤ m) (hM : m ≤ 50000) (s : ByteArray) (hs : (s.size : Int) ≤ 64) :
    Calls Try.prog 51 #[.pointer (some ⟨g, 0, none⟩), .string s] w fun e w' => e = .returned (.int .i64 0) ∧ En w0 w' g g1 g4 cs (L ++ (le 2 s.size ++ bytesOf s)) ∧ (L ++ (le 2 s.size ++ bytesOf s)).length ≤ m + 66 ∧ Kp w w' := by
  obtain ⟨A, c, h⟩ := S.wr
  have HS := Aside0.mk S
  have HP := Aside0.mk (Go.Proofs.YtondgoabnmgcaaaO.R.put_is w0.heap.size g A c L s.size 2 2 rfl w (by omega) (by decide) (by omega) h)
  have H := Aside0.mk h
  have hs' : ¬ (65535 : Int) < s.size := by omega
  have HLL : Aside0 ((L ++ (le 2 s.size ++ bytesOf s)).length ≤ m + 66) := ⟨by rw [List.length_append, List.length_append, le_length, bytesOf_length]; omega⟩
  have hxl : (L ++ le 2 (s.size : Int)).length ≤ 100002 := by rw [List.length_append, le_length]; omega
  rw [← List.append_assoc] at HLL ⊢
  generalize L ++ le 2 (s.size : Int) = xs at HP hxl HLL ⊢
  have HX := Aside0.mk hxl
  have HSZ := Aside0.mk hs
  clear h S hm hM hs hxl
  go_enter Try.func51, Try.ntmps51
  go_wp2_with (first
    | (go_at_call 82; (with_reducible refine HP.out.mono ?_); rintro e w1 ⟨rfl, B, d, hW, hS⟩; have W1 := Aside0.mk hW; have E1 := Aside0.mk (HS.out.stp H.out hW hS); have hc : w1.cell? ⟨g, 0, none⟩ = some (.slice B xs.length d) := blk_cell hW.cell 0; clear hW hS)
    | (at_builtin; refine print_append_str w0.heap.size rfl (.tmp 17) (.tmp 18) 48 9 5 rfl Try.underlying48 Try.underlying9 (by kernel_rfl) (.slice B xs.length d) xs s rfl rfl W1.out.own (Below.refl w0.heap.size w1) (by have := W1.out.far; have := W1.out.lt; omega) (by have := HX.out; have := HSZ.out; omega) ?_; intro v1 w2 hown hB hg; have HG := Aside0.mk hg; have B2 := Aside0.mk hB; obtain ⟨B3, d3, rfl⟩ := own_slice hown; have HO := Aside0.mk hown; have HC1 := Aside0.mk ((hg.block g W1.out.lt (by rw [Go.Proofs.YtondgoabnmgcaaaO.R.ownBlock_map]; exact fun e => W1.out.ne e.symm)).trans W1.out.cell); have hc1 : w2.cell? ⟨g, 0, none⟩ = some (Value.slice B xs.length d) := blk_cell HC1.out 0; have hf1 := blk_frozen HC1.out 0; clear hown hg hB hc))
  go_ret
  have K2 : Kp w1 w2 := Kp.grown HG.out (fun k e => own_typed W1.out.own k e)
  have K3 := Kp.set98 HC1.out (.slice B3 (xs.length + (bytesOf s).length) d3)
  have KK := K2.trans K3
  refine ⟨rfl, ⟨⟨B3, d3, blk_put HC1.out 0 _ (by rw [List.length_append]; rfl), own_move HO.out (fun k hk => Below.heap_setCell w2 _ _ k ?_), W1.out.far⟩, KK.block _ _ _ E1.out.1.k1 (by decide) (by decide), KK.block _ _ _ E1.out.1.k4 (by decide) (by decide), (E1.out.1.B.trans B2.out).setCell W1.out.far _⟩, HLL.out, E1.out.2.trans KK⟩
  rintro rfl
  obtain ⟨cells, hc⟩ := own_typed HO.out _ hk
  rw [HC1.out] at hc
  injection hc with hc
  injection hc with _ ht
  exact absurd ht (by decide)
end Go.Proofs.Ytondgoabnmgcaaa.B
end
section
/- By hand: letter.Encode (printed by enc2.py). -/
namespace Go.Proofs.Ytondgoabnmgcaaa.B
open Go.RowKit Go.Proofs.YtondgoabnmgcaaaW.PrintWords Go.Proofs.YtondgoabnmgcaaaW.PrintLast Go.Proofs.YtondgoabnmgcaaaW.PrintMore
open Go.Proofs.YtondgoabnmgcaaaO.R (Wr Stp le le_length rbits rbits_pos real_at bytes_at)
set_option linter.unusedSimpArgs false
set_option linter.unusedVariables false
theorem en_start {w w4 : World} {g g1 g4 : Nat} {cs : Array Value} (GE : w.heap.size ≤ g) (HB : Below w.heap.size w w4) (K4 : w4.heap[g1]? = some (.cells cs 32 (0, 0))) (KW : w4.heap[g]? = some (.cells #[.slice none 0 0] 98 (0, 0)))
    (KP : w4.heap[g4]? = some (.cells #[.pointer none] 96 (0, 0))) (n1 : g ≠ g4) (n2 : g1 ≠ g4) (l4 : w.heap.size ≤ g4) : En w (w4.setCell ⟨g4, 0, none⟩ (.pointer (some ⟨g, 0, none⟩))) g g1 g4 cs [] :=
  ⟨⟨none, 0, Wr.new (blk_far (p := ⟨g4, 0, none⟩) KW n1 _) GE⟩, blk_far (p := ⟨g4, 0, none⟩) K4 n2 _, blk_put KP 0 _ rfl, below_set HB l4⟩
theorem flat_takeA {α : Type} (f : α → List Int) (ns : List α) (j : Nat) (n : α) (h : ns[j]? = some n) : (ns.take (j + 1)).flatMap f = (ns.take j).flatMap f ++ f n := by
  obtain ⟨hj, hx⟩ := List.getElem?_eq_some_iff.1 h
  rw [List.take_succ_eq_append_getElem hj, List.flatMap_append, hx]
  simp
theorem si32 : (Try.prog.info? 32).map (·.size) = some 16 := by kernel_rfl
theorem si70 : (Try.prog.info? 70).map (·.size) = some 3 := by kernel_rfl
theorem si53 : (Try.prog.info? 53).map (·.size) = some 4 := by kernel_rfl
theorem si77 : (Try.prog.info? 77).map (·.size) = some 2 := by kernel_rfl
theorem on2 {x y : Int} {k l : IntKind} : (#[Value.int k x, Value.int l y] : Array Value).all (·.oneCell') = true := by simp [Value.oneCell']
theorem on3 {x y z : Int} {k l m : IntKind} : (#[Value.int k x, Value.int l y, Value.int m z] : Array Value).all (·.oneCell') = true := by simp [Value.oneCell']
theorem on4 {x y z : Int} {k l m : IntKind} {u : ByteArray} : (#[Value.int k x, Value.int l y, Value.int m z, Value.string u] : Array Value).all (·.oneCell') = true := by simp [Value.oneCell']
def encU (u : S70) : List Int := le 1 u.f0 ++ le 8 u.f1 ++ le 1 u.f2
def encP (p : S53) : List Int := le 8 p.f0 ++ le 1 p.f1.f0 ++ le 8 p.f1.f1 ++ (le 2 p.f1.f2.size ++ bytesOf p.f1.f2)
def encX (x : S77) : List Int := le 8 x.f0 ++ le 8 x.f1
def encL (a0 a1 a2 a3 a4 : Int) (l5 : List S70) (a6 a7 a8 a9 a10 a11 a12 : Int) (l13 : List S53) (l14 : List S77) (a15 : Nat) : List Int :=
  [] ++ (le 1 a0 ++ le 1 a1 ++ le 1 a2) ++ le 8 a3 ++ (le 1 a4 ++ le 1 (l5.length : Int)) ++ l5.flatMap encU ++ (le 8 a6 ++ le 8 a7 ++ le 8 a8 ++ le 8 a9 ++ le 8 a10 ++ le 8 a11 ++ le 8 a12) ++ le 1 (l13.length : Int) ++ l13.flatMap encP ++ le 1 (l14.length : Int) ++ l14.flatMap encX ++ le 8 (rbits a15)
def u64B (n : Int) : Bool := decide (0 ≤ n) && decide (n < 18446744073709551616)
/-- its numbers are numbers of 64 bits -/
def okL (a0 a1 a2 a3 a4 : Int) (l5 : List S70) (a6 a7 a8 a9 a10 a11 a12 : Int) (l13 : List S53) (l14 : List S77) (a15 : Nat) : Bool :=
  u64B a3 && (u64B a6 && (u64B a7 && (u64B a8 && (u64B a9 && (u64B a10 && (u64B a11 && (u64B a12 && (l5.all (fun u => u64B u.f1) && (l13.all (fun p => u64B p.f0 && u64B p.f1.f1) && l14.all (fun x => u64B x.f0 && u64B x.f1))))))))))
theorem u64B_is {n : Int} (h : u64B n = true) : 0 ≤ n ∧ n < 18446744073709551616 := by simpa [u64B] using h
theorem nodeB_is {n : Int} (h : nodeB n = true) : 0 ≤ n ∧ n < 256 := by
  have : 0 ≤ n ∧ n < 64 := by simpa [nodeB] using h
  omega
theorem mayU_is {u : S70} (h : mayU u = true) : (0 ≤ u.f0 ∧ u.f0 < 256) ∧ (0 ≤ u.f2 ∧ u.f2 < 256) := by
  have : 0 ≤ u.f0 ∧ u.f0 < 64 ∧ 0 ≤ u.f2 ∧ u.f2 ≤ 3 := by simpa [mayU] using h
  omega
theorem mayP_is {p : S53} (h : mayP p = true) : (0 ≤ p.f1.f0 ∧ p.f1.f0 < 256) ∧ (p.f1.f2.size : Int) ≤ 64 := by
  have : nodeB p.f1.f0 = true ∧ (p.f1.f2.size : Int) ≤ 64 := by simpa [mayP] using h
  exact ⟨nodeB_is this.1, this.2⟩
/-- what is known of a letter that may be -/
structure Fine (a0 a1 a2 a3 a4 : Int) (l5 : List S70) (a6 a7 a8 a9 a10 a11 a12 : Int) (l13 : List S53) (l14 : List S77) (a15 : Nat) : Prop where
  r0 : 0 ≤ a0 ∧ a0 < 256
  r1 : 0 ≤ a1 ∧ a1 < 256
  r2 : 0 ≤ a2 ∧ a2 < 256
  r3 : 0 ≤ a3 ∧ a3 < 18446744073709551616
  r4 : 0 ≤ a4 ∧ a4 < 256
  n5 : l5.length ≤ 8
  n13 : l13.length ≤ 6
  n14 : l14.length ≤ 16
  r6 : 0 ≤ a6 ∧ a6 < 18446744073709551616
  r7 : 0 ≤ a7 ∧ a7 < 18446744073709551616
  r8 : 0 ≤ a8 ∧ a8 < 18446744073709551616
  r9 : 0 ≤ a9 ∧ a9 < 18446744073709551616
  r10 : 0 ≤ a10 ∧ a10 < 18446744073709551616
  r11 : 0 ≤ a11 ∧ a11 < 18446744073709551616
  r12 : 0 ≤ a12 ∧ a12 < 18446744073709551616
  u5 : ∀ u ∈ l5, (0 ≤ u.f0 ∧ u.f0 < 256) ∧ (0 ≤ u.f1 ∧ u.f1 < 18446744073709551616) ∧ (0 ≤ u.f2 ∧ u.f2 < 256)
  u13 : ∀ p ∈ l13, (0 ≤ p.f0 ∧ p.f0 < 18446744073709551616) ∧ (0 ≤ p.f1.f0 ∧ p.f1.f0 < 256) ∧ (0 ≤ p.f1.f1 ∧ p.f1.f1 < 18446744073709551616) ∧ (p.f1.f2.size : Int) ≤ 64
  u14 : ∀ x ∈ l14, (0 ≤ x.f0 ∧ x.f0 < 18446744073709551616) ∧ (0 ≤ x.f1 ∧ x.f1 < 18446744073709551616)
theorem fine (a0 a1 a2 a3 a4 : Int) (l5 : List S70) (a6 a7 a8 a9 a10 a11 a12 : Int) (l13 : List S53) (l14 : List S77) (a15 : Nat) (hm : mayL a0 a1 a2 a4 l5 l13 l14 a15 = true) (ho : okL a0 a1 a2 a3 a4 l5 a6 a7 a8 a9 a10 a11 a12 l13 l14 a15 = true) : Fine a0 a1 a2 a3 a4 l5 a6 a7 a8 a9 a10 a11 a12 l13 l14 a15 := by
  simp only [mayL, Bool.and_eq_true, decide_eq_true_eq] at hm
  simp only [okL, Bool.and_eq_true] at ho
  obtain ⟨h1, h2, h3, h4, h5, h6, h7, h8, h9, h10, h11, _⟩ := hm
  obtain ⟨o3, o6, o7, o8, o9, o10, o11, o12, p5, p13, p14⟩ := ho
  rw [List.all_eq_true] at h9 h10 p5 p13 p14
  refine ⟨by omega, nodeB_is h3, nodeB_is h4, u64B_is o3, nodeB_is h5, by omega, by omega, by omega, u64B_is o6, u64B_is o7, u64B_is o8, u64B_is o9, u64B_is o10, u64B_is o11, u64B_is o12, fun u hu => ?_, fun p hp => ?_, fun x hx => ?_⟩
  · have := mayU_is (h9 u hu)
    exact ⟨this.1, u64B_is (p5 u hu), this.2⟩
  · have := mayP_is (h10 p hp)
    have q := p13 p hp
    rw [Bool.and_eq_true] at q
    exact ⟨u64B_is q.1, this.1, u64B_is q.2, this.2⟩
  · have q := p14 x hx
    rw [Bool.and_eq_true] at q
    exact ⟨u64B_is q.1, u64B_is q.2⟩
def sealS (s : ByteArray) : ByteArray := s ++ Go.Proofs.YtondgoabnmgcaaaG.Pure.four (Go.Proofs.YtondgoabnmgcaaaG.Crc.sum s.data.toList)
set_option maxRecDepth 100000 in
set_option maxHeartbeats 4000000 in
theorem encode_no (a0 a1 a2 a3 a4 : Int) (A5 : Option Addr) (c5 : Nat) (l5 : List S70) (a6 a7 a8 a9 a10 a11 a12 : Int) (A13 : Option Addr) (c13 : Nat) (l13 : List S53) (A14 : Option Addr) (c14 : Nat) (l14 : List S77) (a15 : Nat) (w : World)
    (hr5 : Kd.C k70 w A5 l5.length l5) (hc5 : l5.length ≤ c5) (hr13 : Kd.C k53 w A13 l13.length l13) (hc13 : l13.length ≤ c13) (hr14 : Kd.C k77 w A14 l14.length l14) (hc14 : l14.length ≤ c14)
    (hm : mayL a0 a1 a2 a4 l5 l13 l14 a15 = false) :
    Calls Try.prog 14 #[.agg #[.int .i64 a0, .int .i64 a1, .int .i64 a2, .int .u64 a3, .int .i64 a4, .slice A5 l5.length c5, .int .u64 a6, .int .u64 a7, .int .u64 a8, .int .u64 a9, .int .u64 a10, .int .u64 a11, .int .u64 a12, .slice A13 l13.length c13, .slice A14 l14.length c14, .float .f64 a15]] w fun e w' => e = .returned (.tuple #[.string ⟨#[]⟩, .int .i64 1]) ∧ Below w.heap.size w w' := by
  have H5 := Aside0.mk hr5
  have H13 := Aside0.mk hr13
  have H14 := Aside0.mk hr14
  have C5 := Aside0.mk hc5
  have C13 := Aside0.mk hc13
  have C14 := Aside0.mk hc14
  have HM := Aside0.mk hm
  have hi32 := si32
  have hmf : ∀ (fn : Fn) (first cap : Array Value) (w : World), (Instr.makeFunc fn first cap).run Try.prog w = .ok (.func fn first cap) w := fun _ _ _ _ => rfl
  clear hr5 hc5 hr13 hc13 hr14 hc14 hm
  go_enter Try.func14, Try.ntmps14
  go_wp2_with (first
    | ((with_reducible refine gate_dst (N := 1) rfl ?_); refine box_event ?hg (N := 1) ?hd (cs := #[.int .i64 a0, .int .i64 a1, .int .i64 a2, .int .u64 a3, .int .i64 a4, .slice A5 l5.length c5, .int .u64 a6, .int .u64 a7, .int .u64 a8, .int .u64 a9, .int .u64 a10, .int .u64 a11, .int .u64 a12, .slice A13 l13.length c13, .slice A14 l14.length c14, .float .f64 a15]) (t := 32) ?hr ?_; (case hd => rfl); (case hg => rfl); (case hr => first | (go_simp; done) | (go_simp; rfl)); intro g1 hg_ w1 hb_ hB_; have K1 := Aside0.mk hb_; have HB1 := Aside0.mk hB_; have G5 := Aside0.mk (Kd.C_below H5.out hB_); have G13 := Aside0.mk (Kd.C_below H13.out hB_); have G14 := Aside0.mk (Kd.C_below H14.out hB_); clear hg_ hb_ hB_)
    | (refine wpList_load_row rfl 32 (.tmp 1) rfl g1 rfl 32 #[.int .i64 a0, .int .i64 a1, .int .i64 a2, .int .u64 a3, .int .i64 a4, .slice A5 l5.length c5, .int .u64 a6, .int .u64 a7, .int .u64 a8, .int .u64 a9, .int .u64 a10, .int .u64 a11, .int .u64 a12, .slice A13 l13.length c13, .slice A14 l14.length c14, .float .f64 a15] (0, 0) _ K1.out Try.underlying32 rfl hi32 ?_)
    | (go_at_call 18; refine (may_at a0 a1 a2 a3 a4 A5 c5 l5 a6 a7 a8 a9 a10 a11 a12 A13 c13 l13 A14 c14 l14 a15 _ G5.out C5.out G13.out C13.out G14.out C14.out).mono ?_; rintro e w2 ⟨rfl, hb⟩; rw [HM.out]; have HB2 := Aside0.mk (below_step HB1.out hb); have K2 := Aside0.mk (blk_below K1.out hb); clear hb K1 HB1 G5 G13 G14))
  go_ret2
  exact ⟨rfl, HB2.out⟩
set_option maxRecDepth 100000 in
set_option maxHeartbeats 3000000 in
theorem encode_ok (a0 a1 a2 a3 a4 : Int) (A5 : Option Addr) (c5 : Nat) (l5 : List S70) (a6 a7 a8 a9 a10 a11 a12 : Int) (A13 : Option Addr) (c13 : Nat) (l13 : List S53) (A14 : Option Addr) (c14 : Nat) (l14 : List S77) (a15 : Nat) (w : World)
    (hr5 : Kd.C k70 w A5 l5.length l5) (hc5 : l5.length ≤ c5) (hr13 : Kd.C k53 w A13 l13.length l13) (hc13 : l13.length ≤ c13) (hr14 : Kd.C k77 w A14 l14.length l14) (hc14 : l14.length ≤ c14)
    (hm : mayL a0 a1 a2 a4 l5 l13 l14 a15 = true) (ho : okL a0 a1 a2 a3 a4 l5 a6 a7 a8 a9 a10 a11 a12 l13 l14 a15 = true) :
    Calls Try.prog 14 #[.agg #[.int .i64 a0, .int .i64 a1, .int .i64 a2, .int .u64 a3, .int .i64 a4, .slice A5 l5.length c5, .int .u64 a6, .int .u64 a7, .int .u64 a8, .int .u64 a9, .int .u64 a10, .int .u64 a11, .int .u64 a12, .slice A13 l13.length c13, .slice A14 l14.length c14, .float .f64 a15]] w fun e w' => e = .returned (.tuple #[.string (sealS (strOfNums (encL a0 a1 a2 a3 a4 l5 a6 a7 a8 a9 a10 a11 a12 l13 l14 a15))), .int .i64 0]) ∧ Below w.heap.size w w' := by
  have H5 := Aside0.mk hr5
  have H13 := Aside0.mk hr13
  have H14 := Aside0.mk hr14
  have C5 := Aside0.mk hc5
  have C13 := Aside0.mk hc13
  have C14 := Aside0.mk hc14
  have HM := Aside0.mk hm
  have hi32 := si32
  have hmf : ∀ (fn : Fn) (first cap : Array Value) (w : World), (Instr.makeFunc fn first cap).run Try.prog w = .ok (.func fn first cap) w := fun _ _ _ _ => rfl
  have HF := Aside0.mk (fine a0 a1 a2 a3 a4 l5 a6 a7 a8 a9 a10 a11 a12 l13 l14 a15 hm ho)
  have hn5 : (l5.length : Int) ≤ 9223372036854775807 := by have := HF.out.n5; omega
  have hn13 : (l13.length : Int) ≤ 9223372036854775807 := by have := HF.out.n13; omega
  have hn14 : (l14.length : Int) ≤ 9223372036854775807 := by have := HF.out.n14; omega
  obtain ⟨RS, hRS⟩ : ∃ T_, T_ = sealS (strOfNums (encL a0 a1 a2 a3 a4 l5 a6 a7 a8 a9 a10 a11 a12 l13 l14 a15)) := ⟨_, rfl⟩
  rw [← hRS]
  have ERS := Aside0.mk hRS
  clear hr5 hc5 hr13 hc13 hr14 hc14 hm ho hRS
  go_enter Try.func14, Try.ntmps14
  go_wp2_with (first
    | ((with_reducible refine gate_dst (N := 1) rfl ?_); refine box_event ?hg (N := 1) ?hd (cs := #[.int .i64 a0, .int .i64 a1, .int .i64 a2, .int .u64 a3, .int .i64 a4, .slice A5 l5.length c5, .int .u64 a6, .int .u64 a7, .int .u64 a8, .int .u64 a9, .int .u64 a10, .int .u64 a11, .int .u64 a12, .slice A13 l13.length c13, .slice A14 l14.length c14, .float .f64 a15]) (t := 32) ?hr ?_; (case hd => rfl); (case hg => rfl); (case hr => first | (go_simp; done) | (go_simp; rfl)); intro g1 hg_ w1 hb_ hB_; have K1 := Aside0.mk hb_; have HB1 := Aside0.mk hB_; have G5 := Aside0.mk (Kd.C_below H5.out hB_); have G13 := Aside0.mk (Kd.C_below H13.out hB_); have G14 := Aside0.mk (Kd.C_below H14.out hB_); clear hg_ hb_ hB_)
    | (refine wpList_load_row rfl 32 (.tmp 1) rfl g1 rfl 32 #[.int .i64 a0, .int .i64 a1, .int .i64 a2, .int .u64 a3, .int .i64 a4, .slice A5 l5.length c5, .int .u64 a6, .int .u64 a7, .int .u64 a8, .int .u64 a9, .int .u64 a10, .int .u64 a11, .int .u64 a12, .slice A13 l13.length c13, .slice A14 l14.length c14, .float .f64 a15] (0, 0) _ K1.out Try.underlying32 rfl hi32 ?_)
    | (go_at_call 18; refine (may_at a0 a1 a2 a3 a4 A5 c5 l5 a6 a7 a8 a9 a10 a11 a12 A13 c13 l13 A14 c14 l14 a15 _ G5.out C5.out G13.out C13.out G14.out C14.out).mono ?_; rintro e w2 ⟨rfl, hb⟩; rw [HM.out]; have HB2 := Aside0.mk (below_step HB1.out hb); have K2 := Aside0.mk (blk_below K1.out hb); clear hb K1 HB1 G5 G13 G14)
    | ((with_reducible refine gate_dst (N := 17) rfl ?_); refine box_event ?hg (N := 17) ?hd (cs := #[.slice none 0 0]) (t := 98) ?hr ?_; (case hd => rfl); (case hg => rfl); (case hr => first | (go_simp; done) | (go_simp; rfl)); intro g hg_ w3 hb_ hB_; have KW := Aside0.mk hb_; have HB3 := Aside0.mk (below_step HB2.out hB_); have K3 := Aside0.mk (blk_below K2.out hB_); have GE := Aside0.mk (show w.heap.size ≤ g by rw [hg_]; exact HB2.out.size); clear K2 HB2 hg_ hb_ hB_)
    | ((with_reducible refine gate_dst (N := 4) rfl ?_); refine box_event ?hg (N := 4) ?hd (cs := #[.pointer none]) (t := 96) ?hr ?_; (case hd => rfl); (case hg => rfl); (case hr => first | (go_simp; done) | (go_simp; rfl)); intro g4 hg_ w4 hb_ hB_; have KP := Aside0.mk hb_; have HB4 := Aside0.mk (below_step HB3.out hB_); have K4 := Aside0.mk (blk_below K3.out hB_); have KW4 := Aside0.mk (blk_below KW.out hB_); have N4 := Aside0.mk (show g ≠ g4 ∧ g1 ≠ g4 ∧ w.heap.size ≤ g4 from ⟨by have := blk_lt KW.out; omega, by have := blk_lt K3.out; omega, by have := HB3.out.size; omega⟩); have p4 := blk_cell hb_ 0; have pf4 := blk_frozen hb_ 0; clear K3 HB3 KW hg_ hb_ hB_; have S0 := Aside0.mk (en_start GE.out HB4.out K4.out KW4.out KP.out N4.out.1 N4.out.2.1 N4.out.2.2); have HL0 := Aside0.mk (show ([] : List Int).length ≤ 0 from Nat.le_refl _); have x := fun j => blk_cell S0.out.k1 j; have x4 := blk_cell S0.out.k4 0)
    | ((with_reducible refine (small_3 w _ g g1 g4 _ _ (0) S0.out HL0.out (by first | omega | (have := HJ.out; omega)) _ ?hga a0 a1 a2 HF.out.r0 HF.out.r1 HF.out.r2).mono ?_); (case hga => first | rfl | simp [World.setCell]); rintro e w5 ⟨rfl, hs, hl, hk⟩; (try clear x x4); have S1 := Aside0.mk hs; have HL1 := Aside0.mk hl; have x := fun j => blk_cell S1.out.k1 j; have x4 := blk_cell S1.out.k4 0; clear hs hl hk S0 HL0)
    | ((with_reducible refine (large_1 w _ g g1 g4 _ _ (3) S1.out HL1.out (by first | omega | (have := HJ.out; omega)) _ ?hga a3 HF.out.r3).mono ?_); (case hga => first | rfl | simp [World.setCell]); rintro e w6 ⟨rfl, hs, hl, hk⟩; (try clear x x4); have S2 := Aside0.mk hs; have HL2 := Aside0.mk hl; have x := fun j => blk_cell S2.out.k1 j; have x4 := blk_cell S2.out.k4 0; clear hs hl hk S1 HL1)
    | ((with_reducible refine (small_2 w _ g g1 g4 _ _ (11) S2.out HL2.out (by first | omega | (have := HJ.out; omega)) _ ?hga a4 (l5.length : Int) HF.out.r4 (by have := HF.out.n5; omega)).mono ?_); (case hga => first | rfl | simp [World.setCell]); rintro e w7 ⟨rfl, hs, hl, hk⟩; (try clear x x4); have S3 := Aside0.mk hs; have HL3 := Aside0.mk hl; have x := fun j => blk_cell S3.out.k1 j; have x4 := blk_cell S3.out.k4 0; clear hs hl hk S2 HL2))
  obtain ⟨L3, hL3⟩ : ∃ L_, L_ = [] ++ (le 1 a0 ++ le 1 a1 ++ le 1 a2) ++ le 8 a3 ++ (le 1 a4 ++ le 1 (l5.length : Int)) := ⟨_, rfl⟩
  have EQ3 := Aside0.mk hL3
  have S3 : Aside0 (En w _ g g1 g4 #[.int .i64 a0, .int .i64 a1, .int .i64 a2, .int .u64 a3, .int .i64 a4, .slice A5 l5.length c5, .int .u64 a6, .int .u64 a7, .int .u64 a8, .int .u64 a9, .int .u64 a10, .int .u64 a11, .int .u64 a12, .slice A13 l13.length c13, .slice A14 l14.length c14, .float .f64 a15] L3) := ⟨by rw [hL3]; exact S3.out⟩
  have HL3 : Aside0 (L3.length ≤ 13) := ⟨by rw [hL3]; exact HL3.out⟩
  clear hL3
  go_loopw [45] (fun i wr => ∃ j : Nat, i = .int .i64 j ∧ Aside0 (j ≤ l5.length) ∧ Aside0 (En w wr g g1 g4 #[.int .i64 a0, .int .i64 a1, .int .i64 a2, .int .u64 a3, .int .i64 a4, .slice A5 l5.length c5, .int .u64 a6, .int .u64 a7, .int .u64 a8, .int .u64 a9, .int .u64 a10, .int .u64 a11, .int .u64 a12, .slice A13 l13.length c13, .slice A14 l14.length c14, .float .f64 a15] (L3 ++ (l5.take j).flatMap encU)) ∧ Aside0 ((L3 ++ (l5.take j).flatMap encU).length ≤ 13 + 10 * j))
    (fun i _ => l5.length - (intOf i).toNat)
  case atStart => exact ⟨0, rfl, ⟨Nat.zero_le _⟩, ⟨by simpa using S3.out⟩, ⟨by simpa using HL3.out⟩⟩
  case round =>
    obtain ⟨j, rfl, hj, hS, hL⟩ := hrel
    clear x x4 S3 HL3
    by_cases hlt : j < l5.length
    · have HRr := Kd.C_below H5.out hS.out.B
      obtain ⟨ad, e, hy0, hy1, hy2⟩ := at_T70 HRr (j : Int) (by omega) (by have := HRr.2.1; omega)
      simp only [Int.toNat_natCast] at hy0 hy1 hy2
      obtain rfl := e
      obtain ⟨p, hp⟩ : ∃ p, p = rd_T70 l5 (j : Int) := ⟨_, rfl⟩
      have hlp : l5[j]? = some p := by
        rw [hp]
        unfold rd_T70
        rw [Int.toNat_natCast, List.getD_eq_getElem?_getD, List.getElem?_eq_getElem hlt]; rfl
      have HQ := Aside0.mk (HF.out.u5 p (List.mem_of_getElem? hlp))
      have HT := Aside0.mk (flat_takeA encU l5 j p hlp)
      have HJ : Aside0 (j < 8) := ⟨by have := HF.out.n5; omega⟩
      rw [← hp] at hy0 hy1 hy2
      clear hp HRr hlp
      obtain ⟨f0, f1, f2⟩ := p
      dsimp only at hy0 hy1 hy2
      have x := fun j => blk_cell hS.out.k1 j
      have x4 := blk_cell hS.out.k4 0
      go_wp2_with (first
        | ((with_reducible refine gate_dst (N := 8) rfl ?_); refine box_event ?hg (N := 8) ?hd (cs := #[.int .i64 0, .int .u64 0, .int .i64 0]) (t := 70) ?hr ?_; (case hd => rfl); (case hg => rfl); (case hr => first | (go_simp; done) | (go_simp; rfl)); intro g8 hg_ w8 hb_ hB_; have K8 := Aside0.mk hb_; have B8 := Aside0.mk hB_; have GE8 := Aside0.mk (Nat.le_of_eq hg_.symm); clear hg_ hb_ hB_)
        | ((with_reducible refine gate_store (t := 70) (p := 8) rfl ?_); go_loud (refine wpList_store_row rfl 70 (.tmp 8) (.tmp 48) rfl g8 #[.int .i64 f0, .int .u64 f1, .int .i64 f2] rfl rfl 70 #[.int .i64 0, .int .u64 0, .int .i64 0] K8.out si70 rfl on3 ?_); have K20 := Aside0.mk (setRow_heap w8 g8 #[.int .i64 0, .int .u64 0, .int .i64 0] #[.int .i64 f0, .int .u64 f1, .int .i64 f2] 70 (0, 0) K8.out); have S20 := Aside0.mk (hS.out.below (below_setRow B8.out GE8.out #[.int .i64 f0, .int .u64 f1, .int .i64 f2])); have HL20 := Aside0.mk hL.out; generalize World.setRow w8 g8 _ = w20 at K20 S20 ⊢; clear K8 B8 x x4; have z := fun j => blk_cell K20.out j; have x := fun j => blk_cell S20.out.k1 j; have x4 := blk_cell S20.out.k4 0)
        | ((with_reducible refine (small_1 w _ g g1 g4 _ _ (13 + 10 * j) S20.out HL20.out (by first | omega | (have := HJ.out; omega)) _ ?hga f0 HQ.out.1).mono ?_); (case hga => first | rfl | simp [World.setCell]); rintro e w21 ⟨rfl, hs, hl, hk⟩; (try clear x x4); (try clear z); have S21 := Aside0.mk hs; have HL21 := Aside0.mk hl; have K21 := Aside0.mk (hk.block _ _ _ K20.out (by decide) (by decide)); have z := fun j => blk_cell K21.out j; clear K20; have x := fun j => blk_cell S21.out.k1 j; have x4 := blk_cell S21.out.k4 0; clear hs hl hk S20 HL20)
        | ((with_reducible refine (large_1 w _ g g1 g4 _ _ (13 + 10 * j + 1 * 1) S21.out HL21.out (by first | omega | (have := HJ.out; omega)) _ ?hga f1 HQ.out.2.1).mono ?_); (case hga => first | rfl | simp [World.setCell]); rintro e w22 ⟨rfl, hs, hl, hk⟩; (try clear x x4); (try clear z); have S22 := Aside0.mk hs; have HL22 := Aside0.mk hl; have K22 := Aside0.mk (hk.block _ _ _ K21.out (by decide) (by decide)); have z := fun j => blk_cell K22.out j; clear K21; have x := fun j => blk_cell S22.out.k1 j; have x4 := blk_cell S22.out.k4 0; clear hs hl hk S21 HL21)
        | ((with_reducible refine (small_1 w _ g g1 g4 _ _ (13 + 10 * j + 1 * 1 + 8 * 1) S22.out HL22.out (by first | omega | (have := HJ.out; omega)) _ ?hga f2 HQ.out.2.2).mono ?_); (case hga => first | rfl | simp [World.setCell]); rintro e w23 ⟨rfl, hs, hl, hk⟩; (try clear x x4); (try clear z); have S23 := Aside0.mk hs; have HL23 := Aside0.mk hl; have K23 := Aside0.mk (hk.block _ _ _ K22.out (by decide) (by decide)); have z := fun j => blk_cell K23.out j; clear K22; have x := fun j => blk_cell S23.out.k1 j; have x4 := blk_cell S23.out.k4 0; clear hs hl hk S22 HL22))
      go_roundw
      case rel => exact ⟨j + 1, by go_num, ⟨hlt⟩, ⟨by rw [HT.out]; have := S23.out; simp only [List.append_assoc] at this; simp only [encU, List.append_assoc]; exact this⟩, ⟨by rw [HT.out]; have := HL23.out; simp only [List.append_assoc] at this; simp only [encU, List.append_assoc]; refine Nat.le_trans this ?_; omega⟩⟩
      case measure => simp [intOf]; omega
    · obtain rfl : j = l5.length := by have := hj.out; omega
      have S4 : Aside0 (En w wr g g1 g4 #[.int .i64 a0, .int .i64 a1, .int .i64 a2, .int .u64 a3, .int .i64 a4, .slice A5 l5.length c5, .int .u64 a6, .int .u64 a7, .int .u64 a8, .int .u64 a9, .int .u64 a10, .int .u64 a11, .int .u64 a12, .slice A13 l13.length c13, .slice A14 l14.length c14, .float .f64 a15] (L3 ++ l5.flatMap encU)) := ⟨by have := hS.out; rwa [List.take_length] at this⟩
      have HL4 : Aside0 ((L3 ++ l5.flatMap encU).length ≤ 93) := ⟨by have := hL.out; rw [List.take_length] at this; have := HF.out.n5; omega⟩
      clear hS hL
      have x := fun j => blk_cell S4.out.k1 j
      have x4 := blk_cell S4.out.k4 0
      go_wp2_with (first
          | ((with_reducible refine (large_7 w _ g g1 g4 _ _ (93) S4.out HL4.out (by first | omega | (have := HJ.out; omega)) _ ?hga a6 a7 a8 a9 a10 a11 a12 HF.out.r6 HF.out.r7 HF.out.r8 HF.out.r9 HF.out.r10 HF.out.r11 HF.out.r12).mono ?_); (case hga => first | rfl | simp [World.setCell]); rintro e w8 ⟨rfl, hs, hl, hk⟩; (try clear x x4); have S5 := Aside0.mk hs; have HL5 := Aside0.mk hl; have x := fun j => blk_cell S5.out.k1 j; have x4 := blk_cell S5.out.k4 0; clear hs hl hk S4 HL4)
          | ((with_reducible refine (small_1 w _ g g1 g4 _ _ (93 + 8 * 7) S5.out HL5.out (by first | omega | (have := HJ.out; omega)) _ ?hga (l13.length : Int) (by have := HF.out.n13; omega)).mono ?_); (case hga => first | rfl | simp [World.setCell]); rintro e w9 ⟨rfl, hs, hl, hk⟩; (try clear x x4); have S6 := Aside0.mk hs; have HL6 := Aside0.mk hl; have x := fun j => blk_cell S6.out.k1 j; have x4 := blk_cell S6.out.k4 0; clear hs hl hk S5 HL5))
      obtain ⟨L6, hL6⟩ : ∃ L_, L_ = L3 ++ l5.flatMap encU ++ (le 8 a6 ++ le 8 a7 ++ le 8 a8 ++ le 8 a9 ++ le 8 a10 ++ le 8 a11 ++ le 8 a12) ++ (le 1 (l13.length : Int)) := ⟨_, rfl⟩
      have EQ6 := Aside0.mk hL6
      have S6 : Aside0 (En w _ g g1 g4 #[.int .i64 a0, .int .i64 a1, .int .i64 a2, .int .u64 a3, .int .i64 a4, .slice A5 l5.length c5, .int .u64 a6, .int .u64 a7, .int .u64 a8, .int .u64 a9, .int .u64 a10, .int .u64 a11, .int .u64 a12, .slice A13 l13.length c13, .slice A14 l14.length c14, .float .f64 a15] L6) := ⟨by rw [hL6]; exact S6.out⟩
      have HL6 : Aside0 (L6.length ≤ 150) := ⟨by rw [hL6]; exact HL6.out⟩
      clear hL6
      go_loopw [95] (fun i wr => ∃ j : Nat, i = .int .i64 j ∧ Aside0 (j ≤ l13.length) ∧ Aside0 (En w wr g g1 g4 #[.int .i64 a0, .int .i64 a1, .int .i64 a2, .int .u64 a3, .int .i64 a4, .slice A5 l5.length c5, .int .u64 a6, .int .u64 a7, .int .u64 a8, .int .u64 a9, .int .u64 a10, .int .u64 a11, .int .u64 a12, .slice A13 l13.length c13, .slice A14 l14.length c14, .float .f64 a15] (L6 ++ (l13.take j).flatMap encP)) ∧ Aside0 ((L6 ++ (l13.take j).flatMap encP).length ≤ 150 + 83 * j))
        (fun i _ => l13.length - (intOf i).toNat)
      case atStart => exact ⟨0, rfl, ⟨Nat.zero_le _⟩, ⟨by simpa using S6.out⟩, ⟨by simpa using HL6.out⟩⟩
      case round =>
        obtain ⟨j, rfl, hj, hS, hL⟩ := hrel
        clear x x4 S6 HL6
        by_cases hlt : j < l13.length
        · have HRr := Kd.C_below H13.out hS.out.B
          obtain ⟨ad, e, hy0, hy1, hy2, hy3⟩ := at_T53 HRr (j : Int) (by omega) (by have := HRr.2.1; omega)
          simp only [Int.toNat_natCast] at hy0 hy1 hy2 hy3
          obtain rfl := e
          obtain ⟨p, hp⟩ : ∃ p, p = rd_T53 l13 (j : Int) := ⟨_, rfl⟩
          have hlp : l13[j]? = some p := by
            rw [hp]
            unfold rd_T53
            rw [Int.toNat_natCast, List.getD_eq_getElem?_getD, List.getElem?_eq_getElem hlt]; rfl
          have HQ := Aside0.mk (HF.out.u13 p (List.mem_of_getElem? hlp))
          have HT := Aside0.mk (flat_takeA encP l13 j p hlp)
          have HJ : Aside0 (j < 6) := ⟨by have := HF.out.n13; omega⟩
          rw [← hp] at hy0 hy1 hy2 hy3
          clear hp HRr hlp
          obtain ⟨f0, f1, f2, f3⟩ := p
          dsimp only at hy0 hy1 hy2 hy3
          have x := fun j => blk_cell hS.out.k1 j
          have x4 := blk_cell hS.out.k4 0
          go_wp2_with (first
            | ((with_reducible refine gate_dst (N := 10) rfl ?_); refine box_event ?hg (N := 10) ?hd (cs := #[.int .u64 0, .int .i64 0, .int .u64 0, .string ⟨#[]⟩]) (t := 53) ?hr ?_; (case hd => rfl); (case hg => rfl); (case hr => first | (go_simp; done) | (go_simp; rfl)); intro g8 hg_ w8 hb_ hB_; have K8 := Aside0.mk hb_; have B8 := Aside0.mk hB_; have GE8 := Aside0.mk (Nat.le_of_eq hg_.symm); clear hg_ hb_ hB_)
            | ((with_reducible refine gate_store (t := 53) (p := 10) rfl ?_); go_loud (refine wpList_store_row rfl 53 (.tmp 10) (.tmp 98) rfl g8 #[.int .u64 f0, .int .i64 f1, .int .u64 f2, .string f3] rfl rfl 53 #[.int .u64 0, .int .i64 0, .int .u64 0, .string ⟨#[]⟩] K8.out si53 rfl on4 ?_); have K20 := Aside0.mk (setRow_heap w8 g8 #[.int .u64 0, .int .i64 0, .int .u64 0, .string ⟨#[]⟩] #[.int .u64 f0, .int .i64 f1, .int .u64 f2, .string f3] 53 (0, 0) K8.out); have S20 := Aside0.mk (hS.out.below (below_setRow B8.out GE8.out #[.int .u64 f0, .int .i64 f1, .int .u64 f2, .string f3])); have HL20 := Aside0.mk hL.out; generalize World.setRow w8 g8 _ = w20 at K20 S20 ⊢; clear K8 B8 x x4; have z := fun j => blk_cell K20.out j; have x := fun j => blk_cell S20.out.k1 j; have x4 := blk_cell S20.out.k4 0)
            | ((with_reducible refine (large_1 w _ g g1 g4 _ _ (150 + 83 * j) S20.out HL20.out (by first | omega | (have := HJ.out; omega)) _ ?hga f0 HQ.out.1).mono ?_); (case hga => first | rfl | simp [World.setCell]); rintro e w21 ⟨rfl, hs, hl, hk⟩; (try clear x x4); (try clear z); have S21 := Aside0.mk hs; have HL21 := Aside0.mk hl; have K21 := Aside0.mk (hk.block _ _ _ K20.out (by decide) (by decide)); have z := fun j => blk_cell K21.out j; clear K20; have x := fun j => blk_cell S21.out.k1 j; have x4 := blk_cell S21.out.k4 0; clear hs hl hk S20 HL20)
            | ((with_reducible refine (small_1 w _ g g1 g4 _ _ (150 + 83 * j + 8 * 1) S21.out HL21.out (by first | omega | (have := HJ.out; omega)) _ ?hga f1 HQ.out.2.1).mono ?_); (case hga => first | rfl | simp [World.setCell]); rintro e w22 ⟨rfl, hs, hl, hk⟩; (try clear x x4); (try clear z); have S22 := Aside0.mk hs; have HL22 := Aside0.mk hl; have K22 := Aside0.mk (hk.block _ _ _ K21.out (by decide) (by decide)); have z := fun j => blk_cell K22.out j; clear K21; have x := fun j => blk_cell S22.out.k1 j; have x4 := blk_cell S22.out.k4 0; clear hs hl hk S21 HL21)
            | ((with_reducible refine (large_1 w _ g g1 g4 _ _ (150 + 83 * j + 8 * 1 + 1 * 1) S22.out HL22.out (by first | omega | (have := HJ.out; omega)) _ ?hga f2 HQ.out.2.2.1).mono ?_); (case hga => first | rfl | simp [World.setCell]); rintro e w23 ⟨rfl, hs, hl, hk⟩; (try clear x x4); (try clear z); have S23 := Aside0.mk hs; have HL23 := Aside0.mk hl; have K23 := Aside0.mk (hk.block _ _ _ K22.out (by decide) (by decide)); have z := fun j => blk_cell K23.out j; clear K22; have x := fun j => blk_cell S23.out.k1 j; have x4 := blk_cell S23.out.k4 0; clear hs hl hk S22 HL22)
            | (go_at_call 51; refine (text_at w _ g g1 g4 _ _ (150 + 83 * j + 8 * 1 + 1 * 1 + 8 * 1) S23.out HL23.out (by have := HJ.out; omega) f3 HQ.out.2.2.2).mono ?_; rintro e w24 ⟨rfl, hs, hl, hk⟩; (try clear x x4); (try clear z); have S24 := Aside0.mk hs; have HL24 := Aside0.mk hl; clear hs hl hk S23 HL23 K23))
          go_roundw
          case rel => exact ⟨j + 1, by go_num, ⟨hlt⟩, ⟨by rw [HT.out]; have := S24.out; simp only [List.append_assoc] at this; simp only [encP, List.append_assoc]; exact this⟩, ⟨by rw [HT.out]; have := HL24.out; simp only [List.append_assoc] at this; simp only [encP, List.append_assoc]; refine Nat.le_trans this ?_; omega⟩⟩
          case measure => simp [intOf]; omega
        · obtain rfl : j = l13.length := by have := hj.out; omega
          have S7 : Aside0 (En w wr g g1 g4 #[.int .i64 a0, .int .i64 a1, .int .i64 a2, .int .u64 a3, .int .i64 a4, .slice A5 l5.length c5, .int .u64 a6, .int .u64 a7, .int .u64 a8, .int .u64 a9, .int .u64 a10, .int .u64 a11, .int .u64 a12, .slice A13 l13.length c13, .slice A14 l14.length c14, .float .f64 a15] (L6 ++ l13.flatMap encP)) := ⟨by have := hS.out; rwa [List.take_length] at this⟩
          have HL7 : Aside0 ((L6 ++ l13.flatMap encP).length ≤ 648) := ⟨by have := hL.out; rw [List.take_length] at this; have := HF.out.n13; omega⟩
          clear hS hL
          have x := fun j => blk_cell S7.out.k1 j
          have x4 := blk_cell S7.out.k4 0
          go_wp2_with (first
              | ((with_reducible refine (small_1 w _ g g1 g4 _ _ (648) S7.out HL7.out (by first | omega | (have := HJ.out; omega)) _ ?hga (l14.length : Int) (by have := HF.out.n14; omega)).mono ?_); (case hga => first | rfl | simp [World.setCell]); rintro e w10 ⟨rfl, hs, hl, hk⟩; (try clear x x4); have S8 := Aside0.mk hs; have HL8 := Aside0.mk hl; have x := fun j => blk_cell S8.out.k1 j; have x4 := blk_cell S8.out.k4 0; clear hs hl hk S7 HL7))
          obtain ⟨L8, hL8⟩ : ∃ L_, L_ = L6 ++ l13.flatMap encP ++ (le 1 (l14.length : Int)) := ⟨_, rfl⟩
          have EQ8 := Aside0.mk hL8
          have S8 : Aside0 (En w _ g g1 g4 #[.int .i64 a0, .int .i64 a1, .int .i64 a2, .int .u64 a3, .int .i64 a4, .slice A5 l5.length c5, .int .u64 a6, .int .u64 a7, .int .u64 a8, .int .u64 a9, .int .u64 a10, .int .u64 a11, .int .u64 a12, .slice A13 l13.length c13, .slice A14 l14.length c14, .float .f64 a15] L8) := ⟨by rw [hL8]; exact S8.out⟩
          have HL8 : Aside0 (L8.length ≤ 649) := ⟨by rw [hL8]; exact HL8.out⟩
          clear hL8
          go_loopw [131] (fun i wr => ∃ j : Nat, i = .int .i64 j ∧ Aside0 (j ≤ l14.length) ∧ Aside0 (En w wr g g1 g4 #[.int .i64 a0, .int .i64 a1, .int .i64 a2, .int .u64 a3, .int .i64 a4, .slice A5 l5.length c5, .int .u64 a6, .int .u64 a7, .int .u64 a8, .int .u64 a9, .int .u64 a10, .int .u64 a11, .int .u64 a12, .slice A13 l13.length c13, .slice A14 l14.length c14, .float .f64 a15] (L8 ++ (l14.take j).flatMap encX)) ∧ Aside0 ((L8 ++ (l14.take j).flatMap encX).length ≤ 649 + 16 * j))
            (fun i _ => l14.length - (intOf i).toNat)
          case atStart => exact ⟨0, rfl, ⟨Nat.zero_le _⟩, ⟨by simpa using S8.out⟩, ⟨by simpa using HL8.out⟩⟩
          case round =>
            obtain ⟨j, rfl, hj, hS, hL⟩ := hrel
            clear x x4 S8 HL8
            by_cases hlt : j < l14.length
            · have HRr := Kd.C_below H14.out hS.out.B
              obtain ⟨ad, e, hy0, hy1⟩ := at_T77 HRr (j : Int) (by omega) (by have := HRr.2.1; omega)
              simp only [Int.toNat_natCast] at hy0 hy1
              obtain rfl := e
              obtain ⟨p, hp⟩ : ∃ p, p = rd_T77 l14 (j : Int) := ⟨_, rfl⟩
              have hlp : l14[j]? = some p := by
                rw [hp]
                unfold rd_T77
                rw [Int.toNat_natCast, List.getD_eq_getElem?_getD, List.getElem?_eq_getElem hlt]; rfl
              have HQ := Aside0.mk (HF.out.u14 p (List.mem_of_getElem? hlp))
              have HT := Aside0.mk (flat_takeA encX l14 j p hlp)
              have HJ : Aside0 (j < 16) := ⟨by have := HF.out.n14; omega⟩
              rw [← hp] at hy0 hy1
              clear hp HRr hlp
              obtain ⟨f0, f1⟩ := p
              dsimp only at hy0 hy1
              have x := fun j => blk_cell hS.out.k1 j
              have x4 := blk_cell hS.out.k4 0
              go_wp2_with (first
                | ((with_reducible refine gate_dst (N := 12) rfl ?_); refine box_event ?hg (N := 12) ?hd (cs := #[.int .u64 0, .int .u64 0]) (t := 77) ?hr ?_; (case hd => rfl); (case hg => rfl); (case hr => first | (go_simp; done) | (go_simp; rfl)); intro g8 hg_ w8 hb_ hB_; have K8 := Aside0.mk hb_; have B8 := Aside0.mk hB_; have GE8 := Aside0.mk (Nat.le_of_eq hg_.symm); clear hg_ hb_ hB_)
                | ((with_reducible refine gate_store (t := 77) (p := 12) rfl ?_); go_loud (refine wpList_store_row rfl 77 (.tmp 12) (.tmp 134) rfl g8 #[.int .u64 f0, .int .u64 f1] rfl rfl 77 #[.int .u64 0, .int .u64 0] K8.out si77 rfl on2 ?_); have K20 := Aside0.mk (setRow_heap w8 g8 #[.int .u64 0, .int .u64 0] #[.int .u64 f0, .int .u64 f1] 77 (0, 0) K8.out); have S20 := Aside0.mk (hS.out.below (below_setRow B8.out GE8.out #[.int .u64 f0, .int .u64 f1])); have HL20 := Aside0.mk hL.out; generalize World.setRow w8 g8 _ = w20 at K20 S20 ⊢; clear K8 B8 x x4; have z := fun j => blk_cell K20.out j; have x := fun j => blk_cell S20.out.k1 j; have x4 := blk_cell S20.out.k4 0)
                | ((with_reducible refine (large_2 w _ g g1 g4 _ _ (649 + 16 * j) S20.out HL20.out (by first | omega | (have := HJ.out; omega)) _ ?hga f0 f1 HQ.out.1 HQ.out.2).mono ?_); (case hga => first | rfl | simp [World.setCell]); rintro e w21 ⟨rfl, hs, hl, hk⟩; (try clear x x4); (try clear z); have S21 := Aside0.mk hs; have HL21 := Aside0.mk hl; have K21 := Aside0.mk (hk.block _ _ _ K20.out (by decide) (by decide)); have z := fun j => blk_cell K21.out j; clear K20; have x := fun j => blk_cell S21.out.k1 j; have x4 := blk_cell S21.out.k4 0; clear hs hl hk S20 HL20))
              go_roundw
              case rel => exact ⟨j + 1, by go_num, ⟨hlt⟩, ⟨by rw [HT.out]; have := S21.out; simp only [List.append_assoc] at this; simp only [encX, List.append_assoc]; exact this⟩, ⟨by rw [HT.out]; have := HL21.out; simp only [List.append_assoc] at this; simp only [encX, List.append_assoc]; refine Nat.le_trans this ?_; omega⟩⟩
              case measure => simp [intOf]; omega
            · obtain rfl : j = l14.length := by have := hj.out; omega
              have S9 : Aside0 (En w wr g g1 g4 #[.int .i64 a0, .int .i64 a1, .int .i64 a2, .int .u64 a3, .int .i64 a4, .slice A5 l5.length c5, .int .u64 a6, .int .u64 a7, .int .u64 a8, .int .u64 a9, .int .u64 a10, .int .u64 a11, .int .u64 a12, .slice A13 l13.length c13, .slice A14 l14.length c14, .float .f64 a15] (L8 ++ l14.flatMap encX)) := ⟨by have := hS.out; rwa [List.take_length] at this⟩
              have HL9 : Aside0 ((L8 ++ l14.flatMap encX).length ≤ 905) := ⟨by have := hL.out; rw [List.take_length] at this; have := HF.out.n14; omega⟩
              clear hS hL
              have x := fun j => blk_cell S9.out.k1 j
              have x4 := blk_cell S9.out.k4 0
              obtain ⟨A_, c_, hW_⟩ := S9.out.wr
              have HW := Aside0.mk hW_
              clear hW_
              obtain ⟨T, hT⟩ : ∃ T, T = strOfNums (L8 ++ l14.flatMap encX ++ le 8 (rbits a15)) := ⟨_, rfl⟩
              have ET := Aside0.mk hT
              have HS : Aside0 (Go.Proofs.YtondgoabnmgcaaaG.B.guard_Seal.f T = some (sealS (strOfNums (encL a0 a1 a2 a3 a4 l5 a6 a7 a8 a9 a10 a11 a12 l13 l14 a15)))) := ⟨by
                rw [show encL a0 a1 a2 a3 a4 l5 a6 a7 a8 a9 a10 a11 a12 l13 l14 a15 = L8 ++ l14.flatMap encX ++ le 8 (rbits a15) from by rw [EQ8.out, EQ6.out, EQ3.out]; rfl, hT]
                refine Go.Proofs.YtondgoabnmgcaaaG.Pure.seal_run _ ?_
                rw [strOfNums_size, List.length_append, le_length]
                have := HL9.out
                omega⟩
              rw [← ERS.out] at HS
              clear hT
              go_wp2_with (first
                | (go_at_call 52; refine (real_at w.heap.size g A_ c_ _ a15 _ (by have := HL9.out; omega) HW.out).mono ?_; rintro e w30 ⟨rfl, A2, c2, hW2, hs⟩; clear x x4; have S10 := Aside0.mk (S9.out.stp HW.out hW2 hs).1; have HW2 := Aside0.mk hW2; have x4 := blk_cell S10.out.k4 0; clear hW2 hs)
                | (go_at_call 54; refine (bytes_at w.heap.size g A2 c2 _ _ HW2.out).mono ?_; rintro e w31 ⟨rfl, rfl⟩; rw [← ET.out])
                | (go_at_call 53; with_reducible refine (Go.Proofs.YtondgoabnmgcaaaG.B.guard_Seal.calls T RS _ HS.out).mono ?_; rintro e w32 ⟨rfl, hb⟩; have B32 := Aside0.mk (below_step S10.out.B hb); clear hb))
              go_ret2
              exact ⟨rfl, B32.out⟩
def letter_Encode.f (a0 a1 a2 a3 a4 : Int) (l5 : List S70) (a6 a7 a8 a9 a10 a11 a12 : Int) (l13 : List S53) (l14 : List S77) (a15 : Nat) : Option (ByteArray × Int) :=
  if mayL a0 a1 a2 a4 l5 l13 l14 a15 = false then some (⟨#[]⟩, 1) else if okL a0 a1 a2 a3 a4 l5 a6 a7 a8 a9 a10 a11 a12 l13 l14 a15 = true then some (sealS (strOfNums (encL a0 a1 a2 a3 a4 l5 a6 a7 a8 a9 a10 a11 a12 l13 l14 a15)), 0) else none
theorem letter_Encode.calls (a0 a1 a2 a3 a4 : Int) (A5 : Option Addr) (c5 : Nat) (l5 : List S70) (a6 a7 a8 a9 a10 a11 a12 : Int) (A13 : Option Addr) (c13 : Nat) (l13 : List S53) (A14 : Option Addr) (c14 : Nat) (l14 : List S77) (a15 : Nat) (r1 : ByteArray) (r2 : Int) (w : World)
    (hr5 : Kd.C k70 w A5 l5.length l5) (hc5 : l5.length ≤ c5) (hr13 : Kd.C k53 w A13 l13.length l13) (hc13 : l13.length ≤ c13) (hr14 : Kd.C k77 w A14 l14.length l14) (hc14 : l14.length ≤ c14) (h : letter_Encode.f a0 a1 a2 a3 a4 l5 a6 a7 a8 a9 a10 a11 a12 l13 l14 a15 = some (r1, r2)) :
    Calls Try.prog 14 #[.agg #[.int .i64 a0, .int .i64 a1, .int .i64 a2, .int .u64 a3, .int .i64 a4, .slice A5 l5.length c5, .int .u64 a6, .int .u64 a7, .int .u64 a8, .int .u64 a9, .int .u64 a10, .int .u64 a11, .int .u64 a12, .slice A13 l13.length c13, .slice A14 l14.length c14, .float .f64 a15]] w fun e w' => e = .returned (.tuple #[.string r1, .int .i64 r2]) ∧ Below w.heap.size w w' := by
  unfold letter_Encode.f at h
  by_cases hm : mayL a0 a1 a2 a4 l5 l13 l14 a15 = false
  · rw [if_pos hm] at h
    obtain ⟨rfl, rfl⟩ := Prod.mk.inj (Option.some.inj h)
    exact encode_no a0 a1 a2 a3 a4 A5 c5 l5 a6 a7 a8 a9 a10 a11 a12 A13 c13 l13 A14 c14 l14 a15 w hr5 hc5 hr13 hc13 hr14 hc14 hm
  · rw [if_neg hm] at h
    by_cases ho : okL a0 a1 a2 a3 a4 l5 a6 a7 a8 a9 a10 a11 a12 l13 l14 a15 = true
    · rw [if_pos ho] at h
      obtain ⟨rfl, rfl⟩ := Prod.mk.inj (Option.some.inj h)
      exact encode_ok a0 a1 a2 a3 a4 A5 c5 l5 a6 a7 a8 a9 a10 a11 a12 A13 c13 l13 A14 c14 l14 a15 w hr5 hc5 hr13 hc13 hr14 hc14 (by simpa using hm) ho
    · rw [if_neg ho] at h; cases h
end Go.Proofs.Ytondgoabnmgcaaa.B
end
section
/- By hand: the reference's put, and joined strings. -/
namespace Go.Proofs.Ytondgoabnmgcaaa.B
open Go.RowKit Go.Proofs.YtondgoabnmgcaaaW.PrintWords Go.Proofs.YtondgoabnmgcaaaW.PrintLast Go.Proofs.YtondgoabnmgcaaaW.PrintMore
open Go.Proofs.YtondgoabnmgcaaaO.R (le le_zero rbits fits refStr refErr refnumber_at)
set_option linter.unusedSimpArgs false
set_option linter.unusedVariables false
theorem put_gen (n W : Int) (h0 : 0 ≤ n) (h1 : n < 18446744073709551616) (w : World) :
    Calls Try.prog 63 #[.int .u64 n, .int .i64 W] w fun e w' => e = .returned (.string (refStr n W)) ∧ Below w.heap.size w w' := by
  have HN := Aside0.mk (fun w => refnumber_at n W h0 h1 w)
  generalize refStr n W = r at HN ⊢
  generalize refErr n W = er at HN
  clear h0 h1
  go_enter Try.func63, Try.ntmps63
  go_wp2_with (first
    | (go_at_call 87; (with_reducible refine (HN.out _).mono ?_); rintro e w2 ⟨rfl, hb⟩; have B := Aside0.mk hb; clear hb))
  go_ret
  exact ⟨rfl, B.out⟩
theorem put1 (n : Int) (h0 : 0 ≤ n) (h1 : n < 256) (w : World) :
    Calls Try.prog 63 #[.int .u64 n, .int .i64 1] w fun e w' => e = .returned (.string (strOfNums (le 1 n))) ∧ Below w.heap.size w w' := by
  have h := put_gen n 1 h0 (by omega) w
  have hf : fits n 1 = true := by
    have e : (1 : Int).toNat = 1 := rfl
    have h2 : n / 256 ^ 1 = 0 := by omega
    simp only [fits, e, h2]
    rfl
  have e : refStr n 1 = strOfNums (le 1 n) := by unfold refStr; rw [hf]; rfl
  rwa [e] at h
theorem put8 (n : Int) (h0 : 0 ≤ n) (h1 : n < 18446744073709551616) (w : World) :
    Calls Try.prog 63 #[.int .u64 n, .int .i64 8] w fun e w' => e = .returned (.string (strOfNums (le 8 n))) ∧ Below w.heap.size w w' := by
  have h := put_gen n 8 h0 h1 w
  have hf : fits n 8 = true := by
    have e : (8 : Int).toNat = 8 := rfl
    have h2 : n / 256 ^ 8 = 0 := le_zero _ (by omega) h0
    simp only [fits, e, h2]
    rfl
  have e : refStr n 8 = strOfNums (le 8 n) := by unfold refStr; rw [hf]; rfl
  rwa [e] at h
theorem str_app (A B : List Int) : strOfNums A ++ strOfNums B = strOfNums (A ++ B) := by
  apply ByteArray.ext
  apply Array.toList_inj.1
  rw [ByteArray.data_append, Array.toList_append, strOfNums_data, strOfNums_data, strOfNums_data, List.map_append]
theorem cat_run {o : Oper} {a : Act} {w : World} {x y : Operand} {A B : List Int} (ho : o.op = .binOp .add 9 x y 9) (hx : a.eval x = .string (strOfNums A)) (hy : a.eval y = .string (strOfNums B)) (h : A.length + B.length ≤ 100000) :
    (execOp a.eval o).run Try.prog w = .ok (.value (.string (strOfNums (A ++ B)))) w := by
  have h1 : (strOfNums A).size + (strOfNums B).size ≤ 100000 := by rw [strOfNums_size, strOfNums_size]; exact h
  rw [← str_app]
  generalize strOfNums A = s at *
  generalize strOfNums B = t at *
  have h2 : ¬ 9223372036854775807 < s.size + t.size := by omega
  unfold execOp
  simp only [ho, hx, hy]
  go_simp
end Go.Proofs.Ytondgoabnmgcaaa.B
end
section
/- By hand: letter.Same (printed by same21.py). -/
namespace Go.Proofs.Ytondgoabnmgcaaa.B
open Go.RowKit Go.Proofs.YtondgoabnmgcaaaW.PrintWords Go.Proofs.YtondgoabnmgcaaaW.PrintLast Go.Proofs.YtondgoabnmgcaaaW.PrintMore
open List renaming setIfInBounds_toArray → zA, set_cons_zero → zB, set_cons_succ → zC
open Bool renaming true → tt, false → ff
set_option linter.unusedSimpArgs false
set_option linter.unusedVariables false
attribute [local go_sem high] eqA27
def lsame_T : Bool × List (List Nat × List Nat) := (true, [([], []), ([0], [0]), ([], []), ([2], [2]), ([1, 3], [1, 3]), ([4], [4]), ([5], [5]), ([6, 5], [5, 6]), ([5], [5]), ([8, 5], [5, 8]), ([7, 9, 5], [5, 7, 9]), ([5, 10], [5, 10]), ([11, 5], [11]), ([12], [12]), ([13, 12], [12, 13]), ([12], [12]), ([15, 12], [12, 15]), ([14, 16, 12], [12, 14, 16]), ([12, 17], [12, 17]), ([18, 12], [18]), ([19], [19]), ([20, 19], [19, 20]), ([19], [19]), ([22, 19], [19, 22]), ([21, 23, 19], [19, 21, 23]), ([19, 24], [19, 24]), ([25, 19], [25]), ([26], [26]), ([27, 26], [26, 27]), ([26], [26]), ([29, 26], [26, 29]), ([28, 30, 26], [26, 28, 30]), ([26, 31], [26, 31]), ([32, 26], [32]), ([33], [33]), ([34, 33], [33, 34]), ([33], [33]), ([36, 33], [33, 36]), ([35, 37, 33, 33], [33, 35, 37]), ([33, 38], [33, 38]), ([39, 38], [39]), ([40], [40]), ([41, 40], [40, 41]), ([40], [40]), ([43, 40], [40, 43]), ([42, 44, 40], [40, 42, 44]), ([40, 45], [40, 45]), ([46, 40], [46]), ([47], [47]), ([48, 47], [47, 48]), ([47], [47]), ([50, 47], [47, 50]), ([49, 51, 47], [47, 49, 51]), ([47, 52], [47, 52]), ([53, 47], [53]), ([54], [54]), ([55, 54], [54, 55]), ([54], [54]), ([57, 54], [54, 57]), ([56, 58, 54], [54, 56, 58]), ([54, 59], [54, 59]), ([60, 54], [60]), ([61], [61]), ([62, 61], [61, 62]), ([61], [61]), ([64, 61], [61, 64]), ([63, 65, 61], [61, 63, 65]), ([61, 66], [61, 66]), ([67, 61], [67]), ([68], [68]), ([69, 68], [68, 69]), ([68], [68]), ([71, 68], [68, 71]), ([70, 72, 68], [68, 70, 72]), ([68, 73], [68, 73]), ([74, 68], [74]), ([75], [75]), ([76, 75], [75, 76]), ([75], [75]), ([78, 75], [75, 78]), ([77, 79, 75, 75], [75, 77, 79]), ([75, 80], [75, 80]), ([81, 80], [81]), ([82], [82]), ([83, 82], [82, 83]), ([82], [82]), ([85, 82], [82, 85]), ([84, 86, 82, 82], [82, 84, 86]), ([82, 87], [82, 87]), ([88, 87], [88]), ([89], [89]), ([90, 89], [89, 90]), ([91, 89, 89], [89, 91]), ([89], [89]), ([93, 89], [89, 93]), ([94, 92, 89], [89, 94]), ([92, 95, 89], [89, 92, 95]), ([89, 96], [89, 96]), ([97, 95, 0, 1, 2, 3, 4, 5, 6, 7, 8, 9, 10, 11, 12, 13, 14, 15, 16, 17, 18, 19, 20, 21, 22, 23, 24, 25, 26, 27, 28, 29, 30, 31, 32, 33, 34, 35, 36, 37, 38, 39, 40, 41, 42, 43, 44, 45, 46, 47, 48, 49, 50, 51, 52, 53, 54, 55, 56, 57, 58, 59, 60, 61, 62, 63, 64, 65, 66, 67, 68, 69, 70, 71, 72, 73, 74, 75, 76, 77, 78, 79, 80, 81, 82, 83, 84, 85, 86, 87, 88, 89, 90, 91, 92, 93, 94, 95, 96, 97], [97])])
def lsame_B : List Nat := [0, 1, 0, 4, 15, 31, 63, 127, 63, 319, 1023, 2047, 4095, 8191, 16383, 8191, 40959, 131071, 262143, 524287, 1048575, 2097151, 1048575, 5242879, 16777215, 33554431, 67108863, 134217727, 268435455, 134217727, 671088639, 2147483647, 4294967295, 8589934591, 17179869183, 34359738367, 17179869183, 85899345919, 274877906943, 549755813887, 1099511627775, 2199023255551, 4398046511103, 2199023255551, 10995116277759, 35184372088831, 70368744177663, 140737488355327, 281474976710655, 562949953421311, 281474976710655, 1407374883553279, 4503599627370495, 9007199254740991, 18014398509481983, 36028797018963967, 72057594037927935, 36028797018963967, 180143985094819839, 576460752303423487, 1152921504606846975, 2305843009213693951, 4611686018427387903, 9223372036854775807, 4611686018427387903, 23058430092136939519, 73786976294838206463, 147573952589676412927, 295147905179352825855, 590295810358705651711, 1180591620717411303423, 590295810358705651711, 2951479051793528258559, 9444732965739290427391, 18889465931478580854783, 37778931862957161709567, 75557863725914323419135, 151115727451828646838271, 75557863725914323419135, 377789318629571617095679, 1208925819614629174706175, 2417851639229258349412351, 4835703278458516698824703, 9671406556917033397649407, 19342813113834066795298815, 9671406556917033397649407, 48357032784585166988247039, 154742504910672534362390527, 309485009821345068724781055, 618970019642690137449562111, 1237940039285380274899124223, 2475880078570760549798248447, 4951760157141521099596496895, 1237940039285380274899124223, 11141460353568422474092118015, 39614081257132168796771975167, 79228162514264337593543950335, 158456325028528675187087900671, 316912650057057350374175801343]
theorem lsame_tab : rtab .any (opsOf Try.f21 1) = lsame_T := by kernel_rfl
theorem lsame_bits : waitsOk lsame_T.2 lsame_B = true := by kernel_rfl
theorem both_ {P : Program} {ops : Array Oper} {Q : Exit → Act → World → Prop} {oi : Oper} {a : Act} {w : World} {K : Act → World → Prop} {N : Option Tmp} {v : Value} {b : Bool} {S : World → Prop}
  (hf : b = false → Region.wanted oi (yielded ops a.tmps) = false)
  (ht : b = true → ∀ K' : Act → World → Prop, (∀ w', S w' → K' (a.put N v) w') → if Region.wanted oi (yielded ops a.tmps) = true then Oper.wp P oi a w K' Q else K' (a.put N undef) w)
  (hS : S w) (h : ∀ w', S w' → K (a.put N (if b = true then v else undef)) w') : if Region.wanted oi (yielded ops a.tmps) = true then Oper.wp P oi a w K Q else K (a.put N undef) w := by
 cases b
 ·rw [hf rfl]
  exact h w hS
 ·exact ht rfl K (fun w' hw => h w' hw)
theorem done_abs {P : Program} {md : Region.Mode} {ops : Array Oper} {Q : Exit → Act → World → Prop} {S : World → Prop} {ds : List Nat} {l : Array Bool} {a : Act} {w : World} {n : Nat} (hr : (Region.ready md ops l == []) = true) (V : Value) (h4 : a.tmps.getD 4 undef = V) (hd : a.defers = [])
  (h : ∀ a' : Act, a'.tmps.getD 4 undef = V → a'.defers = [] → Q .normal a' w) : wpAnyLast P md ops Q S ds n l a w := done_ hr (h a h4 hd)
set_option maxRecDepth 100000 in
set_option maxHeartbeats 16000000 in
theorem lsame_at (a0 a1 a2 a3 a4 : Int) (Ax5 : Option Addr) (nx5 : Nat) (lx5 : List S70) (a6 a7 a8 a9 a10 a11 a12 : Int) (Ax13 : Option Addr) (nx13 : Nat) (lx13 : List S53) (Ax14 : Option Addr) (nx14 : Nat) (lx14 : List S77) (a15 : Nat) (c0 c1 c2 c3 c4 : Int) (Ay5 : Option Addr) (ny5 : Nat) (ly5 : List S70) (c6 c7 c8 c9 c10 c11 c12 : Int) (Ay13 : Option Addr) (ny13 : Nat) (ly13 : List S53) (Ay14 : Option Addr) (ny14 : Nat) (ly14 : List S77) (c15 : Nat) (w : World) (hx5 : Kd.C k70 w Ax5 lx5.length lx5) (mx5 : lx5.length ≤ nx5) (hx13 : Kd.C k53 w Ax13 lx13.length lx13) (mx13 : lx13.length ≤ nx13) (hx14 : Kd.C k77 w Ax14 lx14.length lx14) (mx14 : lx14.length ≤ nx14) (hy5 : Kd.C k70 w Ay5 ly5.length ly5) (my5 : ly5.length ≤ ny5) (hy13 : Kd.C k53 w Ay13 ly13.length ly13) (my13 : ly13.length ≤ ny13) (hy14 : Kd.C k77 w Ay14 ly14.length ly14) (my14 : ly14.length ≤ ny14) :
  Calls Try.prog 21 #[.agg #[.int .i64 a0, .int .i64 a1, .int .i64 a2, .int .u64 a3, .int .i64 a4, .slice Ax5 lx5.length nx5, .int .u64 a6, .int .u64 a7, .int .u64 a8, .int .u64 a9, .int .u64 a10, .int .u64 a11, .int .u64 a12, .slice Ax13 lx13.length nx13, .slice Ax14 lx14.length nx14, .float .f64 a15], .agg #[.int .i64 c0, .int .i64 c1, .int .i64 c2, .int .u64 c3, .int .i64 c4, .slice Ay5 ly5.length ny5, .int .u64 c6, .int .u64 c7, .int .u64 c8, .int .u64 c9, .int .u64 c10, .int .u64 c11, .int .u64 c12, .slice Ay13 ly13.length ny13, .slice Ay14 ly14.length ny14, .float .f64 c15]] w fun e w' => e = .returned (.bool (((((((((((((((a0 == c0) && (a1 == c1)) && (a2 == c2)) && (a3 == c3)) && (a4 == c4)) && eqL eqU lx5 ly5) && (a6 == c6 && (a7 == c7))) && (a8 == c8)) && (a9 == c9)) && (a10 == c10 && (a11 == c11))) && (a12 == c12)) && eqL eqP lx13 ly13) && eqL eqX lx14 ly14) && ((a15 : Int) == (c15 : Int))))) ∧ Below w.heap.size w w' := by
 have Hx5 := Aside0.mk hx5
 have Mx5 := Aside0.mk mx5
 have Hx13 := Aside0.mk hx13
 have Mx13 := Aside0.mk mx13
 have Hx14 := Aside0.mk hx14
 have Mx14 := Aside0.mk mx14
 have Hy5 := Aside0.mk hy5
 have My5 := Aside0.mk my5
 have Hy13 := Aside0.mk hy13
 have My13 := Aside0.mk my13
 have Hy14 := Aside0.mk hy14
 have My14 := Aside0.mk my14
 have f5 := api_Update_69_is lx5 ly5 (by have := hx5.2.1; omega)
 generalize eqL eqU lx5 ly5 = r5 at f5 ⊢
 have F5 := Aside0.mk f5
 have f13 := letter_Piece_70_is lx13 ly13 (by have := hx13.2.1; omega)
 generalize eqL eqP lx13 ly13 = r13 at f13 ⊢
 have F13 := Aside0.mk f13
 have f14 := api_Span_71_is lx14 ly14 (by have := hx14.2.1; omega)
 generalize eqL eqX lx14 ly14 = r14 at f14 ⊢
 have F14 := Aside0.mk f14
 clear hx5 mx5 hx13 mx13 hx14 mx14 hy5 my5 hy13 my13 hy14 my14 f5 f13 f14
 go_enter Try.func21, Try.ntmps21
 go_upto_region 1 with (first
  | ((with_reducible refine gate_dst (N := 2) rfl ?_); refine box_event ?hg (N := 2) ?hd (cs := #[.int .i64 a0, .int .i64 a1, .int .i64 a2, .int .u64 a3, .int .i64 a4, .slice Ax5 lx5.length nx5, .int .u64 a6, .int .u64 a7, .int .u64 a8, .int .u64 a9, .int .u64 a10, .int .u64 a11, .int .u64 a12, .slice Ax13 lx13.length nx13, .slice Ax14 lx14.length nx14, .float .f64 a15]) (t := 32) ?hr ?_; (case hd => rfl); (case hg => rfl); (case hr => first | (go_simp; done) | (go_simp; rfl)); intro g2 hg_ w1 hb_ hB_; have K2a := Aside0.mk hb_; have B1 := Aside0.mk hB_; clear hg_ hb_ hB_)
  | ((with_reducible refine gate_dst (N := 3) rfl ?_); refine box_event ?hg (N := 3) ?hd (cs := #[.int .i64 c0, .int .i64 c1, .int .i64 c2, .int .u64 c3, .int .i64 c4, .slice Ay5 ly5.length ny5, .int .u64 c6, .int .u64 c7, .int .u64 c8, .int .u64 c9, .int .u64 c10, .int .u64 c11, .int .u64 c12, .slice Ay13 ly13.length ny13, .slice Ay14 ly14.length ny14, .float .f64 c15]) (t := 32) ?hr ?_; (case hd => rfl); (case hg => rfl); (case hr => first | (go_simp; done) | (go_simp; rfl)); intro g3 hg_ w2 hb_ hB_; have K3a := Aside0.mk hb_; have K2b := Aside0.mk (blk_below K2a.out hB_); have B2 := Aside0.mk (below_step B1.out hB_); clear hg_ hb_ hB_ K2a B1))
 refine start_ (n := 99) (S := fun w' => Below w2.drew.heap.size w2.drew w') (ds := []) #[ff,ff,ff,ff,ff,ff,ff,ff,ff,ff,ff,ff,ff,ff,ff,ff,ff,ff,ff,ff,ff,ff,ff,ff,ff,ff,ff,ff,ff,ff,ff,ff,ff,ff,ff,ff,ff,ff,ff,ff,ff,ff,ff,ff,ff,ff,ff,ff,ff,ff,ff,ff,ff,ff,ff,ff,ff,ff,ff,ff,ff,ff,ff,ff,ff,ff,ff,ff,ff,ff,ff,ff,ff,ff,ff,ff,ff,ff,ff,ff,ff,ff,ff,ff,ff,ff,ff,ff,ff,ff,ff,ff,ff,ff,ff,ff,ff,ff,ff] (by kernel_rfl) rfl rfl (Below.refl _ _) (fun hHeld => ?_)
 have K2 := Aside0.mk (blk_drew K2b.out)
 have K3 := Aside0.mk (blk_drew K3a.out)
 have BD := Aside0.mk (below_drew1 B2.out)
 have hx5 := Aside0.mk (Kd.C_below Hx5.out BD.out)
 have hx13 := Aside0.mk (Kd.C_below Hx13.out BD.out)
 have hx14 := Aside0.mk (Kd.C_below Hx14.out BD.out)
 have hy5 := Aside0.mk (Kd.C_below Hy5.out BD.out)
 have hy13 := Aside0.mk (Kd.C_below Hy13.out BD.out)
 have hy14 := Aside0.mk (Kd.C_below Hy14.out BD.out)
 clear K2b K3a B2 Hx5 Hx13 Hx14 Hy5 Hy13 Hy14
 have Hx5 := hx5
 have Hx13 := hx13
 have Hx14 := hx14
 have Hy5 := hy5
 have Hy13 := hy13
 have Hy14 := hy14
 clear hx5 hx13 hx14 hy5 hy13 hy14
 generalize w2.drew = wd at K2 K3 BD hHeld Hx5 Hx13 Hx14 Hy5 Hy13 Hy14 ⊢
 refine with_tabW lsame_tab lsame_bits (fun HT_ HW_ => ?_)
 refine pure_ (i := 0) (N := some 5) (v := .pointer (some ⟨g2, 0, none⟩)) (a' := ?_) #[tt,ff,ff,ff,ff,ff,ff,ff,ff,ff,ff,ff,ff,ff,ff,ff,ff,ff,ff,ff,ff,ff,ff,ff,ff,ff,ff,ff,ff,ff,ff,ff,ff,ff,ff,ff,ff,ff,ff,ff,ff,ff,ff,ff,ff,ff,ff,ff,ff,ff,ff,ff,ff,ff,ff,ff,ff,ff,ff,ff,ff,ff,ff,ff,ff,ff,ff,ff,ff,ff,ff,ff,ff,ff,ff,ff,ff,ff,ff,ff,ff,ff,ff,ff,ff,ff,ff,ff,ff,ff,ff,ff,ff,ff,ff,ff,ff,ff,ff] rfl rfl (any_of HT_.out (by kernel_rfl)) (fun _ _ _ h => h) (Or.inl ⟨by rfl, ?_⟩) ?_ ?_
 ·(intro w'; go_simp; try rfl)
 rotate_left
 ·(simp only [Act.put,zA,zB,zC,i64_w,i32_w]; rfl)
 refine take_ (i := 1) (N := some 6) (v := .int .i64 a0) (a' := ?_) #[tt,tt,ff,ff,ff,ff,ff,ff,ff,ff,ff,ff,ff,ff,ff,ff,ff,ff,ff,ff,ff,ff,ff,ff,ff,ff,ff,ff,ff,ff,ff,ff,ff,ff,ff,ff,ff,ff,ff,ff,ff,ff,ff,ff,ff,ff,ff,ff,ff,ff,ff,ff,ff,ff,ff,ff,ff,ff,ff,ff,ff,ff,ff,ff,ff,ff,ff,ff,ff,ff,ff,ff,ff,ff,ff,ff,ff,ff,ff,ff,ff,ff,ff,ff,ff,ff,ff,ff,ff,ff,ff,ff,ff,ff,ff,ff,ff,ff,ff] rfl rfl (take_ofW HT_.out HW_.out (by kernel_rfl)) (fun _ _ _ h => h) (Or.inl ⟨by rfl, ?_⟩) hHeld ?_ ?_
 ·(intro w' s0; have xq := (blk_cell (blk_below K2.out s0) 0).trans rfl; go_simp; try rfl)
 rotate_left
 ·(simp only [Act.put,zA,zB,zC,i64_w,i32_w]; rfl)
 refine pure_ (i := 2) (N := some 7) (v := .pointer (some ⟨g3, 0, none⟩)) (a' := ?_) #[tt,tt,tt,ff,ff,ff,ff,ff,ff,ff,ff,ff,ff,ff,ff,ff,ff,ff,ff,ff,ff,ff,ff,ff,ff,ff,ff,ff,ff,ff,ff,ff,ff,ff,ff,ff,ff,ff,ff,ff,ff,ff,ff,ff,ff,ff,ff,ff,ff,ff,ff,ff,ff,ff,ff,ff,ff,ff,ff,ff,ff,ff,ff,ff,ff,ff,ff,ff,ff,ff,ff,ff,ff,ff,ff,ff,ff,ff,ff,ff,ff,ff,ff,ff,ff,ff,ff,ff,ff,ff,ff,ff,ff,ff,ff,ff,ff,ff,ff] rfl rfl (any_of HT_.out (by kernel_rfl)) (fun _ _ _ h => h) (Or.inl ⟨by rfl, ?_⟩) ?_ ?_
 ·(intro w'; go_simp; try rfl)
 rotate_left
 ·(simp only [Act.put,zA,zB,zC,i64_w,i32_w]; rfl)
 refine take_ (i := 3) (N := some 8) (v := .int .i64 c0) (a' := ?_) #[tt,tt,tt,tt,ff,ff,ff,ff,ff,ff,ff,ff,ff,ff,ff,ff,ff,ff,ff,ff,ff,ff,ff,ff,ff,ff,ff,ff,ff,ff,ff,ff,ff,ff,ff,ff,ff,ff,ff,ff,ff,ff,ff,ff,ff,ff,ff,ff,ff,ff,ff,ff,ff,ff,ff,ff,ff,ff,ff,ff,ff,ff,ff,ff,ff,ff,ff,ff,ff,ff,ff,ff,ff,ff,ff,ff,ff,ff,ff,ff,ff,ff,ff,ff,ff,ff,ff,ff,ff,ff,ff,ff,ff,ff,ff,ff,ff,ff,ff] rfl rfl (take_ofW HT_.out HW_.out (by kernel_rfl)) (fun _ _ _ h => h) (Or.inl ⟨by rfl, ?_⟩) hHeld ?_ ?_
 ·(intro w' s0; have xq := (blk_cell (blk_below K3.out s0) 0).trans rfl; go_simp; try rfl)
 rotate_left
 ·(simp only [Act.put,zA,zB,zC,i64_w,i32_w]; rfl)
 refine pure_ (i := 4) (N := some 9) (v := .bool (a0 == c0)) (a' := ?_) #[tt,tt,tt,tt,tt,ff,ff,ff,ff,ff,ff,ff,ff,ff,ff,ff,ff,ff,ff,ff,ff,ff,ff,ff,ff,ff,ff,ff,ff,ff,ff,ff,ff,ff,ff,ff,ff,ff,ff,ff,ff,ff,ff,ff,ff,ff,ff,ff,ff,ff,ff,ff,ff,ff,ff,ff,ff,ff,ff,ff,ff,ff,ff,ff,ff,ff,ff,ff,ff,ff,ff,ff,ff,ff,ff,ff,ff,ff,ff,ff,ff,ff,ff,ff,ff,ff,ff,ff,ff,ff,ff,ff,ff,ff,ff,ff,ff,ff,ff] rfl rfl (any_of HT_.out (by kernel_rfl)) (fun _ _ _ h => h) (Or.inl ⟨by rfl, ?_⟩) ?_ ?_
 ·(intro w'; go_simp; try rfl)
 rotate_left
 ·(simp only [Act.put,zA,zB,zC,i64_w,i32_w]; rfl)
 generalize hb0 : (a0 == c0) = b0
 have Hb0 := Aside0.mk hb0
 clear hb0
 refine pure_ (i := 5) (N := some 10) (v := .bool b0) (a' := ?_) #[tt,tt,tt,tt,tt,tt,ff,ff,ff,ff,ff,ff,ff,ff,ff,ff,ff,ff,ff,ff,ff,ff,ff,ff,ff,ff,ff,ff,ff,ff,ff,ff,ff,ff,ff,ff,ff,ff,ff,ff,ff,ff,ff,ff,ff,ff,ff,ff,ff,ff,ff,ff,ff,ff,ff,ff,ff,ff,ff,ff,ff,ff,ff,ff,ff,ff,ff,ff,ff,ff,ff,ff,ff,ff,ff,ff,ff,ff,ff,ff,ff,ff,ff,ff,ff,ff,ff,ff,ff,ff,ff,ff,ff,ff,ff,ff,ff,ff,ff] rfl rfl (any_of HT_.out (by kernel_rfl)) (fun _ _ _ h => h) (Or.inl ⟨by rfl, ?_⟩) ?_ ?_
 ·(intro w'; go_simp; try rfl)
 rotate_left
 ·(simp only [Act.put,zA,zB,zC,i64_w,i32_w]; rfl)
 refine pure_ (i := 6) (N := some 11) (v := if b0 = true then .pointer (some ⟨g2, 1, none⟩) else undef) (a' := ?_) #[tt,tt,tt,tt,tt,tt,tt,ff,ff,ff,ff,ff,ff,ff,ff,ff,ff,ff,ff,ff,ff,ff,ff,ff,ff,ff,ff,ff,ff,ff,ff,ff,ff,ff,ff,ff,ff,ff,ff,ff,ff,ff,ff,ff,ff,ff,ff,ff,ff,ff,ff,ff,ff,ff,ff,ff,ff,ff,ff,ff,ff,ff,ff,ff,ff,ff,ff,ff,ff,ff,ff,ff,ff,ff,ff,ff,ff,ff,ff,ff,ff,ff,ff,ff,ff,ff,ff,ff,ff,ff,ff,ff,ff,ff,ff,ff,ff,ff,ff] rfl rfl (any_of HT_.out (by kernel_rfl)) (fun _ _ _ h => h) ?_ ?_ ?_
 ·(cases b0; exact Or.inr ⟨by rfl, rfl⟩; refine Or.inl ⟨by rfl, ?_⟩; intro w'; go_simp; try rfl)
 rotate_left
 ·(simp only [Act.put,zA,zB,zC,i64_w,i32_w]; rfl)
 refine take_ (i := 7) (N := some 12) (v := if b0 = true then .int .i64 a1 else undef) (a' := ?_) #[tt,tt,tt,tt,tt,tt,tt,tt,ff,ff,ff,ff,ff,ff,ff,ff,ff,ff,ff,ff,ff,ff,ff,ff,ff,ff,ff,ff,ff,ff,ff,ff,ff,ff,ff,ff,ff,ff,ff,ff,ff,ff,ff,ff,ff,ff,ff,ff,ff,ff,ff,ff,ff,ff,ff,ff,ff,ff,ff,ff,ff,ff,ff,ff,ff,ff,ff,ff,ff,ff,ff,ff,ff,ff,ff,ff,ff,ff,ff,ff,ff,ff,ff,ff,ff,ff,ff,ff,ff,ff,ff,ff,ff,ff,ff,ff,ff,ff,ff] rfl rfl (take_ofW HT_.out HW_.out (by kernel_rfl)) (fun _ _ _ h => h) ?_ hHeld ?_ ?_
 ·(cases b0; exact Or.inr ⟨by rfl, rfl⟩; refine Or.inl ⟨by rfl, ?_⟩; intro w' s0; have xq := (blk_cell (blk_below K2.out s0) 1).trans rfl; go_simp; try rfl)
 rotate_left
 ·(simp only [Act.put,zA,zB,zC,i64_w,i32_w]; rfl)
 refine pure_ (i := 8) (N := some 13) (v := if b0 = true then .pointer (some ⟨g3, 1, none⟩) else undef) (a' := ?_) #[tt,tt,tt,tt,tt,tt,tt,tt,tt,ff,ff,ff,ff,ff,ff,ff,ff,ff,ff,ff,ff,ff,ff,ff,ff,ff,ff,ff,ff,ff,ff,ff,ff,ff,ff,ff,ff,ff,ff,ff,ff,ff,ff,ff,ff,ff,ff,ff,ff,ff,ff,ff,ff,ff,ff,ff,ff,ff,ff,ff,ff,ff,ff,ff,ff,ff,ff,ff,ff,ff,ff,ff,ff,ff,ff,ff,ff,ff,ff,ff,ff,ff,ff,ff,ff,ff,ff,ff,ff,ff,ff,ff,ff,ff,ff,ff,ff,ff,ff] rfl rfl (any_of HT_.out (by kernel_rfl)) (fun _ _ _ h => h) ?_ ?_ ?_
 ·(cases b0; exact Or.inr ⟨by rfl, rfl⟩; refine Or.inl ⟨by rfl, ?_⟩; intro w'; go_simp; try rfl)
 rotate_left
 ·(simp only [Act.put,zA,zB,zC,i64_w,i32_w]; rfl)
 refine take_ (i := 9) (N := some 14) (v := if b0 = true then .int .i64 c1 else undef) (a' := ?_) #[tt,tt,tt,tt,tt,tt,tt,tt,tt,tt,ff,ff,ff,ff,ff,ff,ff,ff,ff,ff,ff,ff,ff,ff,ff,ff,ff,ff,ff,ff,ff,ff,ff,ff,ff,ff,ff,ff,ff,ff,ff,ff,ff,ff,ff,ff,ff,ff,ff,ff,ff,ff,ff,ff,ff,ff,ff,ff,ff,ff,ff,ff,ff,ff,ff,ff,ff,ff,ff,ff,ff,ff,ff,ff,ff,ff,ff,ff,ff,ff,ff,ff,ff,ff,ff,ff,ff,ff,ff,ff,ff,ff,ff,ff,ff,ff,ff,ff,ff] rfl rfl (take_ofW HT_.out HW_.out (by kernel_rfl)) (fun _ _ _ h => h) ?_ hHeld ?_ ?_
 ·(cases b0; exact Or.inr ⟨by rfl, rfl⟩; refine Or.inl ⟨by rfl, ?_⟩; intro w' s0; have xq := (blk_cell (blk_below K3.out s0) 1).trans rfl; go_simp; try rfl)
 rotate_left
 ·(simp only [Act.put,zA,zB,zC,i64_w,i32_w]; rfl)
 refine pure_ (i := 10) (N := some 15) (v := if b0 = true then .bool (a1 == c1) else undef) (a' := ?_) #[tt,tt,tt,tt,tt,tt,tt,tt,tt,tt,tt,ff,ff,ff,ff,ff,ff,ff,ff,ff,ff,ff,ff,ff,ff,ff,ff,ff,ff,ff,ff,ff,ff,ff,ff,ff,ff,ff,ff,ff,ff,ff,ff,ff,ff,ff,ff,ff,ff,ff,ff,ff,ff,ff,ff,ff,ff,ff,ff,ff,ff,ff,ff,ff,ff,ff,ff,ff,ff,ff,ff,ff,ff,ff,ff,ff,ff,ff,ff,ff,ff,ff,ff,ff,ff,ff,ff,ff,ff,ff,ff,ff,ff,ff,ff,ff,ff,ff,ff] rfl rfl (any_of HT_.out (by kernel_rfl)) (fun _ _ _ h => h) ?_ ?_ ?_
 ·(cases b0; exact Or.inr ⟨by rfl, rfl⟩; refine Or.inl ⟨by rfl, ?_⟩; intro w'; go_simp; try rfl)
 rotate_left
 ·(simp only [Act.put,zA,zB,zC,i64_w,i32_w]; rfl)
 refine pure_ (i := 11) (N := some 16) (v := .bool (b0 && (a1 == c1))) (a' := ?_) #[tt,tt,tt,tt,tt,tt,tt,tt,tt,tt,tt,tt,ff,ff,ff,ff,ff,ff,ff,ff,ff,ff,ff,ff,ff,ff,ff,ff,ff,ff,ff,ff,ff,ff,ff,ff,ff,ff,ff,ff,ff,ff,ff,ff,ff,ff,ff,ff,ff,ff,ff,ff,ff,ff,ff,ff,ff,ff,ff,ff,ff,ff,ff,ff,ff,ff,ff,ff,ff,ff,ff,ff,ff,ff,ff,ff,ff,ff,ff,ff,ff,ff,ff,ff,ff,ff,ff,ff,ff,ff,ff,ff,ff,ff,ff,ff,ff,ff,ff] rfl rfl (any_of HT_.out (by kernel_rfl)) (fun _ _ _ h => h) (Or.inl ⟨by rfl, ?_⟩) ?_ ?_
 ·(intro w'; cases b0 <;> go_simp; try rfl)
 rotate_left
 ·(simp only [Act.put,zA,zB,zC,i64_w,i32_w]; rfl)
 generalize hb1 : (b0 && (a1 == c1)) = b1
 have Hb1 := Aside0.mk hb1
 clear hb1
 refine pure_ (i := 12) (N := some 17) (v := .bool b1) (a' := ?_) #[tt,tt,tt,tt,tt,tt,tt,tt,tt,tt,tt,tt,tt,ff,ff,ff,ff,ff,ff,ff,ff,ff,ff,ff,ff,ff,ff,ff,ff,ff,ff,ff,ff,ff,ff,ff,ff,ff,ff,ff,ff,ff,ff,ff,ff,ff,ff,ff,ff,ff,ff,ff,ff,ff,ff,ff,ff,ff,ff,ff,ff,ff,ff,ff,ff,ff,ff,ff,ff,ff,ff,ff,ff,ff,ff,ff,ff,ff,ff,ff,ff,ff,ff,ff,ff,ff,ff,ff,ff,ff,ff,ff,ff,ff,ff,ff,ff,ff,ff] rfl rfl (any_of HT_.out (by kernel_rfl)) (fun _ _ _ h => h) (Or.inl ⟨by rfl, ?_⟩) ?_ ?_
 ·(intro w'; go_simp; try rfl)
 rotate_left
 ·(simp only [Act.put,zA,zB,zC,i64_w,i32_w]; rfl)
 refine pure_ (i := 13) (N := some 18) (v := if b1 = true then .pointer (some ⟨g2, 2, none⟩) else undef) (a' := ?_) #[tt,tt,tt,tt,tt,tt,tt,tt,tt,tt,tt,tt,tt,tt,ff,ff,ff,ff,ff,ff,ff,ff,ff,ff,ff,ff,ff,ff,ff,ff,ff,ff,ff,ff,ff,ff,ff,ff,ff,ff,ff,ff,ff,ff,ff,ff,ff,ff,ff,ff,ff,ff,ff,ff,ff,ff,ff,ff,ff,ff,ff,ff,ff,ff,ff,ff,ff,ff,ff,ff,ff,ff,ff,ff,ff,ff,ff,ff,ff,ff,ff,ff,ff,ff,ff,ff,ff,ff,ff,ff,ff,ff,ff,ff,ff,ff,ff,ff,ff] rfl rfl (any_of HT_.out (by kernel_rfl)) (fun _ _ _ h => h) ?_ ?_ ?_
 ·(cases b1; exact Or.inr ⟨by rfl, rfl⟩; refine Or.inl ⟨by rfl, ?_⟩; intro w'; go_simp; try rfl)
 rotate_left
 ·(simp only [Act.put,zA,zB,zC,i64_w,i32_w]; rfl)
 refine take_ (i := 14) (N := some 19) (v := if b1 = true then .int .i64 a2 else undef) (a' := ?_) #[tt,tt,tt,tt,tt,tt,tt,tt,tt,tt,tt,tt,tt,tt,tt,ff,ff,ff,ff,ff,ff,ff,ff,ff,ff,ff,ff,ff,ff,ff,ff,ff,ff,ff,ff,ff,ff,ff,ff,ff,ff,ff,ff,ff,ff,ff,ff,ff,ff,ff,ff,ff,ff,ff,ff,ff,ff,ff,ff,ff,ff,ff,ff,ff,ff,ff,ff,ff,ff,ff,ff,ff,ff,ff,ff,ff,ff,ff,ff,ff,ff,ff,ff,ff,ff,ff,ff,ff,ff,ff,ff,ff,ff,ff,ff,ff,ff,ff,ff] rfl rfl (take_ofW HT_.out HW_.out (by kernel_rfl)) (fun _ _ _ h => h) ?_ hHeld ?_ ?_
 ·(cases b1; exact Or.inr ⟨by rfl, rfl⟩; refine Or.inl ⟨by rfl, ?_⟩; intro w' s0; have xq := (blk_cell (blk_below K2.out s0) 2).trans rfl; go_simp; try rfl)
 rotate_left
 ·(simp only [Act.put,zA,zB,zC,i64_w,i32_w]; rfl)
 refine pure_ (i := 15) (N := some 20) (v := if b1 = true then .pointer (some ⟨g3, 2, none⟩) else undef) (a' := ?_) #[tt,tt,tt,tt,tt,tt,tt,tt,tt,tt,tt,tt,tt,tt,tt,tt,ff,ff,ff,ff,ff,ff,ff,ff,ff,ff,ff,ff,ff,ff,ff,ff,ff,ff,ff,ff,ff,ff,ff,ff,ff,ff,ff,ff,ff,ff,ff,ff,ff,ff,ff,ff,ff,ff,ff,ff,ff,ff,ff,ff,ff,ff,ff,ff,ff,ff,ff,ff,ff,ff,ff,ff,ff,ff,ff,ff,ff,ff,ff,ff,ff,ff,ff,ff,ff,ff,ff,ff,ff,ff,ff,ff,ff,ff,ff,ff,ff,ff,ff] rfl rfl (any_of HT_.out (by kernel_rfl)) (fun _ _ _ h => h) ?_ ?_ ?_
 ·(cases b1; exact Or.inr ⟨by rfl, rfl⟩; refine Or.inl ⟨by rfl, ?_⟩; intro w'; go_simp; try rfl)
 rotate_left
 ·(simp only [Act.put,zA,zB,zC,i64_w,i32_w]; rfl)
 refine take_ (i := 16) (N := some 21) (v := if b1 = true then .int .i64 c2 else undef) (a' := ?_) #[tt,tt,tt,tt,tt,tt,tt,tt,tt,tt,tt,tt,tt,tt,tt,tt,tt,ff,ff,ff,ff,ff,ff,ff,ff,ff,ff,ff,ff,ff,ff,ff,ff,ff,ff,ff,ff,ff,ff,ff,ff,ff,ff,ff,ff,ff,ff,ff,ff,ff,ff,ff,ff,ff,ff,ff,ff,ff,ff,ff,ff,ff,ff,ff,ff,ff,ff,ff,ff,ff,ff,ff,ff,ff,ff,ff,ff,ff,ff,ff,ff,ff,ff,ff,ff,ff,ff,ff,ff,ff,ff,ff,ff,ff,ff,ff,ff,ff,ff] rfl rfl (take_ofW HT_.out HW_.out (by kernel_rfl)) (fun _ _ _ h => h) ?_ hHeld ?_ ?_
 ·(cases b1; exact Or.inr ⟨by rfl, rfl⟩; refine Or.inl ⟨by rfl, ?_⟩; intro w' s0; have xq := (blk_cell (blk_below K3.out s0) 2).trans rfl; go_simp; try rfl)
 rotate_left
 ·(simp only [Act.put,zA,zB,zC,i64_w,i32_w]; rfl)
 refine pure_ (i := 17) (N := some 22) (v := if b1 = true then .bool (a2 == c2) else undef) (a' := ?_) #[tt,tt,tt,tt,tt,tt,tt,tt,tt,tt,tt,tt,tt,tt,tt,tt,tt,tt,ff,ff,ff,ff,ff,ff,ff,ff,ff,ff,ff,ff,ff,ff,ff,ff,ff,ff,ff,ff,ff,ff,ff,ff,ff,ff,ff,ff,ff,ff,ff,ff,ff,ff,ff,ff,ff,ff,ff,ff,ff,ff,ff,ff,ff,ff,ff,ff,ff,ff,ff,ff,ff,ff,ff,ff,ff,ff,ff,ff,ff,ff,ff,ff,ff,ff,ff,ff,ff,ff,ff,ff,ff,ff,ff,ff,ff,ff,ff,ff,ff] rfl rfl (any_of HT_.out (by kernel_rfl)) (fun _ _ _ h => h) ?_ ?_ ?_
 ·(cases b1; exact Or.inr ⟨by rfl, rfl⟩; refine Or.inl ⟨by rfl, ?_⟩; intro w'; go_simp; try rfl)
 rotate_left
 ·(simp only [Act.put,zA,zB,zC,i64_w,i32_w]; rfl)
 refine pure_ (i := 18) (N := some 23) (v := .bool (b1 && (a2 == c2))) (a' := ?_) #[tt,tt,tt,tt,tt,tt,tt,tt,tt,tt,tt,tt,tt,tt,tt,tt,tt,tt,tt,ff,ff,ff,ff,ff,ff,ff,ff,ff,ff,ff,ff,ff,ff,ff,ff,ff,ff,ff,ff,ff,ff,ff,ff,ff,ff,ff,ff,ff,ff,ff,ff,ff,ff,ff,ff,ff,ff,ff,ff,ff,ff,ff,ff,ff,ff,ff,ff,ff,ff,ff,ff,ff,ff,ff,ff,ff,ff,ff,ff,ff,ff,ff,ff,ff,ff,ff,ff,ff,ff,ff,ff,ff,ff,ff,ff,ff,ff,ff,ff] rfl rfl (any_of HT_.out (by kernel_rfl)) (fun _ _ _ h => h) (Or.inl ⟨by rfl, ?_⟩) ?_ ?_
 ·(intro w'; cases b1 <;> go_simp; try rfl)
 rotate_left
 ·(simp only [Act.put,zA,zB,zC,i64_w,i32_w]; rfl)
 generalize hb2 : (b1 && (a2 == c2)) = b2
 have Hb2 := Aside0.mk hb2
 clear hb2
 refine pure_ (i := 19) (N := some 24) (v := .bool b2) (a' := ?_) #[tt,tt,tt,tt,tt,tt,tt,tt,tt,tt,tt,tt,tt,tt,tt,tt,tt,tt,tt,tt,ff,ff,ff,ff,ff,ff,ff,ff,ff,ff,ff,ff,ff,ff,ff,ff,ff,ff,ff,ff,ff,ff,ff,ff,ff,ff,ff,ff,ff,ff,ff,ff,ff,ff,ff,ff,ff,ff,ff,ff,ff,ff,ff,ff,ff,ff,ff,ff,ff,ff,ff,ff,ff,ff,ff,ff,ff,ff,ff,ff,ff,ff,ff,ff,ff,ff,ff,ff,ff,ff,ff,ff,ff,ff,ff,ff,ff,ff,ff] rfl rfl (any_of HT_.out (by kernel_rfl)) (fun _ _ _ h => h) (Or.inl ⟨by rfl, ?_⟩) ?_ ?_
 ·(intro w'; go_simp; try rfl)
 rotate_left
 ·(simp only [Act.put,zA,zB,zC,i64_w,i32_w]; rfl)
 refine pure_ (i := 20) (N := some 25) (v := if b2 = true then .pointer (some ⟨g2, 3, none⟩) else undef) (a' := ?_) #[tt,tt,tt,tt,tt,tt,tt,tt,tt,tt,tt,tt,tt,tt,tt,tt,tt,tt,tt,tt,tt,ff,ff,ff,ff,ff,ff,ff,ff,ff,ff,ff,ff,ff,ff,ff,ff,ff,ff,ff,ff,ff,ff,ff,ff,ff,ff,ff,ff,ff,ff,ff,ff,ff,ff,ff,ff,ff,ff,ff,ff,ff,ff,ff,ff,ff,ff,ff,ff,ff,ff,ff,ff,ff,ff,ff,ff,ff,ff,ff,ff,ff,ff,ff,ff,ff,ff,ff,ff,ff,ff,ff,ff,ff,ff,ff,ff,ff,ff] rfl rfl (any_of HT_.out (by kernel_rfl)) (fun _ _ _ h => h) ?_ ?_ ?_
 ·(cases b2; exact Or.inr ⟨by rfl, rfl⟩; refine Or.inl ⟨by rfl, ?_⟩; intro w'; go_simp; try rfl)
 rotate_left
 ·(simp only [Act.put,zA,zB,zC,i64_w,i32_w]; rfl)
 refine take_ (i := 21) (N := some 26) (v := if b2 = true then .int .u64 a3 else undef) (a' := ?_) #[tt,tt,tt,tt,tt,tt,tt,tt,tt,tt,tt,tt,tt,tt,tt,tt,tt,tt,tt,tt,tt,tt,ff,ff,ff,ff,ff,ff,ff,ff,ff,ff,ff,ff,ff,ff,ff,ff,ff,ff,ff,ff,ff,ff,ff,ff,ff,ff,ff,ff,ff,ff,ff,ff,ff,ff,ff,ff,ff,ff,ff,ff,ff,ff,ff,ff,ff,ff,ff,ff,ff,ff,ff,ff,ff,ff,ff,ff,ff,ff,ff,ff,ff,ff,ff,ff,ff,ff,ff,ff,ff,ff,ff,ff,ff,ff,ff,ff,ff] rfl rfl (take_ofW HT_.out HW_.out (by kernel_rfl)) (fun _ _ _ h => h) ?_ hHeld ?_ ?_
 ·(cases b2; exact Or.inr ⟨by rfl, rfl⟩; refine Or.inl ⟨by rfl, ?_⟩; intro w' s0; have xq := (blk_cell (blk_below K2.out s0) 3).trans rfl; go_simp; try rfl)
 rotate_left
 ·(simp only [Act.put,zA,zB,zC,i64_w,i32_w]; rfl)
 refine pure_ (i := 22) (N := some 27) (v := if b2 = true then .pointer (some ⟨g3, 3, none⟩) else undef) (a' := ?_) #[tt,tt,tt,tt,tt,tt,tt,tt,tt,tt,tt,tt,tt,tt,tt,tt,tt,tt,tt,tt,tt,tt,tt,ff,ff,ff,ff,ff,ff,ff,ff,ff,ff,ff,ff,ff,ff,ff,ff,ff,ff,ff,ff,ff,ff,ff,ff,ff,ff,ff,ff,ff,ff,ff,ff,ff,ff,ff,ff,ff,ff,ff,ff,ff,ff,ff,ff,ff,ff,ff,ff,ff,ff,ff,ff,ff,ff,ff,ff,ff,ff,ff,ff,ff,ff,ff,ff,ff,ff,ff,ff,ff,ff,ff,ff,ff,ff,ff,ff] rfl rfl (any_of HT_.out (by kernel_rfl)) (fun _ _ _ h => h) ?_ ?_ ?_
 ·(cases b2; exact Or.inr ⟨by rfl, rfl⟩; refine Or.inl ⟨by rfl, ?_⟩; intro w'; go_simp; try rfl)
 rotate_left
 ·(simp only [Act.put,zA,zB,zC,i64_w,i32_w]; rfl)
 refine take_ (i := 23) (N := some 28) (v := if b2 = true then .int .u64 c3 else undef) (a' := ?_) #[tt,tt,tt,tt,tt,tt,tt,tt,tt,tt,tt,tt,tt,tt,tt,tt,tt,tt,tt,tt,tt,tt,tt,tt,ff,ff,ff,ff,ff,ff,ff,ff,ff,ff,ff,ff,ff,ff,ff,ff,ff,ff,ff,ff,ff,ff,ff,ff,ff,ff,ff,ff,ff,ff,ff,ff,ff,ff,ff,ff,ff,ff,ff,ff,ff,ff,ff,ff,ff,ff,ff,ff,ff,ff,ff,ff,ff,ff,ff,ff,ff,ff,ff,ff,ff,ff,ff,ff,ff,ff,ff,ff,ff,ff,ff,ff,ff,ff,ff] rfl rfl (take_ofW HT_.out HW_.out (by kernel_rfl)) (fun _ _ _ h => h) ?_ hHeld ?_ ?_
 ·(cases b2; exact Or.inr ⟨by rfl, rfl⟩; refine Or.inl ⟨by rfl, ?_⟩; intro w' s0; have xq := (blk_cell (blk_below K3.out s0) 3).trans rfl; go_simp; try rfl)
 rotate_left
 ·(simp only [Act.put,zA,zB,zC,i64_w,i32_w]; rfl)
 refine pure_ (i := 24) (N := some 29) (v := if b2 = true then .bool (a3 == c3) else undef) (a' := ?_) #[tt,tt,tt,tt,tt,tt,tt,tt,tt,tt,tt,tt,tt,tt,tt,tt,tt,tt,tt,tt,tt,tt,tt,tt,tt,ff,ff,ff,ff,ff,ff,ff,ff,ff,ff,ff,ff,ff,ff,ff,ff,ff,ff,ff,ff,ff,ff,ff,ff,ff,ff,ff,ff,ff,ff,ff,ff,ff,ff,ff,ff,ff,ff,ff,ff,ff,ff,ff,ff,ff,ff,ff,ff,ff,ff,ff,ff,ff,ff,ff,ff,ff,ff,ff,ff,ff,ff,ff,ff,ff,ff,ff,ff,ff,ff,ff,ff,ff,ff] rfl rfl (any_of HT_.out (by kernel_rfl)) (fun _ _ _ h => h) ?_ ?_ ?_
 ·(cases b2; exact Or.inr ⟨by rfl, rfl⟩; refine Or.inl ⟨by rfl, ?_⟩; intro w'; go_simp; try rfl)
 rotate_left
 ·(simp only [Act.put,zA,zB,zC,i64_w,i32_w]; rfl)
 refine pure_ (i := 25) (N := some 30) (v := .bool (b2 && (a3 == c3))) (a' := ?_) #[tt,tt,tt,tt,tt,tt,tt,tt,tt,tt,tt,tt,tt,tt,tt,tt,tt,tt,tt,tt,tt,tt,tt,tt,tt,tt,ff,ff,ff,ff,ff,ff,ff,ff,ff,ff,ff,ff,ff,ff,ff,ff,ff,ff,ff,ff,ff,ff,ff,ff,ff,ff,ff,ff,ff,ff,ff,ff,ff,ff,ff,ff,ff,ff,ff,ff,ff,ff,ff,ff,ff,ff,ff,ff,ff,ff,ff,ff,ff,ff,ff,ff,ff,ff,ff,ff,ff,ff,ff,ff,ff,ff,ff,ff,ff,ff,ff,ff,ff] rfl rfl (any_of HT_.out (by kernel_rfl)) (fun _ _ _ h => h) (Or.inl ⟨by rfl, ?_⟩) ?_ ?_
 ·(intro w'; cases b2 <;> go_simp; try rfl)
 rotate_left
 ·(simp only [Act.put,zA,zB,zC,i64_w,i32_w]; rfl)
 generalize hb3 : (b2 && (a3 == c3)) = b3
 have Hb3 := Aside0.mk hb3
 clear hb3
 refine pure_ (i := 26) (N := some 31) (v := .bool b3) (a' := ?_) #[tt,tt,tt,tt,tt,tt,tt,tt,tt,tt,tt,tt,tt,tt,tt,tt,tt,tt,tt,tt,tt,tt,tt,tt,tt,tt,tt,ff,ff,ff,ff,ff,ff,ff,ff,ff,ff,ff,ff,ff,ff,ff,ff,ff,ff,ff,ff,ff,ff,ff,ff,ff,ff,ff,ff,ff,ff,ff,ff,ff,ff,ff,ff,ff,ff,ff,ff,ff,ff,ff,ff,ff,ff,ff,ff,ff,ff,ff,ff,ff,ff,ff,ff,ff,ff,ff,ff,ff,ff,ff,ff,ff,ff,ff,ff,ff,ff,ff,ff] rfl rfl (any_of HT_.out (by kernel_rfl)) (fun _ _ _ h => h) (Or.inl ⟨by rfl, ?_⟩) ?_ ?_
 ·(intro w'; go_simp; try rfl)
 rotate_left
 ·(simp only [Act.put,zA,zB,zC,i64_w,i32_w]; rfl)
 refine pure_ (i := 27) (N := some 32) (v := if b3 = true then .pointer (some ⟨g2, 4, none⟩) else undef) (a' := ?_) #[tt,tt,tt,tt,tt,tt,tt,tt,tt,tt,tt,tt,tt,tt,tt,tt,tt,tt,tt,tt,tt,tt,tt,tt,tt,tt,tt,tt,ff,ff,ff,ff,ff,ff,ff,ff,ff,ff,ff,ff,ff,ff,ff,ff,ff,ff,ff,ff,ff,ff,ff,ff,ff,ff,ff,ff,ff,ff,ff,ff,ff,ff,ff,ff,ff,ff,ff,ff,ff,ff,ff,ff,ff,ff,ff,ff,ff,ff,ff,ff,ff,ff,ff,ff,ff,ff,ff,ff,ff,ff,ff,ff,ff,ff,ff,ff,ff,ff,ff] rfl rfl (any_of HT_.out (by kernel_rfl)) (fun _ _ _ h => h) ?_ ?_ ?_
 ·(cases b3; exact Or.inr ⟨by rfl, rfl⟩; refine Or.inl ⟨by rfl, ?_⟩; intro w'; go_simp; try rfl)
 rotate_left
 ·(simp only [Act.put,zA,zB,zC,i64_w,i32_w]; rfl)
 refine take_ (i := 28) (N := some 33) (v := if b3 = true then .int .i64 a4 else undef) (a' := ?_) #[tt,tt,tt,tt,tt,tt,tt,tt,tt,tt,tt,tt,tt,tt,tt,tt,tt,tt,tt,tt,tt,tt,tt,tt,tt,tt,tt,tt,tt,ff,ff,ff,ff,ff,ff,ff,ff,ff,ff,ff,ff,ff,ff,ff,ff,ff,ff,ff,ff,ff,ff,ff,ff,ff,ff,ff,ff,ff,ff,ff,ff,ff,ff,ff,ff,ff,ff,ff,ff,ff,ff,ff,ff,ff,ff,ff,ff,ff,ff,ff,ff,ff,ff,ff,ff,ff,ff,ff,ff,ff,ff,ff,ff,ff,ff,ff,ff,ff,ff] rfl rfl (take_ofW HT_.out HW_.out (by kernel_rfl)) (fun _ _ _ h => h) ?_ hHeld ?_ ?_
 ·(cases b3; exact Or.inr ⟨by rfl, rfl⟩; refine Or.inl ⟨by rfl, ?_⟩; intro w' s0; have xq := (blk_cell (blk_below K2.out s0) 4).trans rfl; go_simp; try rfl)
 rotate_left
 ·(simp only [Act.put,zA,zB,zC,i64_w,i32_w]; rfl)
 refine pure_ (i := 29) (N := some 34) (v := if b3 = true then .pointer (some ⟨g3, 4, none⟩) else undef) (a' := ?_) #[tt,tt,tt,tt,tt,tt,tt,tt,tt,tt,tt,tt,tt,tt,tt,tt,tt,tt,tt,tt,tt,tt,tt,tt,tt,tt,tt,tt,tt,tt,ff,ff,ff,ff,ff,ff,ff,ff,ff,ff,ff,ff,ff,ff,ff,ff,ff,ff,ff,ff,ff,ff,ff,ff,ff,ff,ff,ff,ff,ff,ff,ff,ff,ff,ff,ff,ff,ff,ff,ff,ff,ff,ff,ff,ff,ff,ff,ff,ff,ff,ff,ff,ff,ff,ff,ff,ff,ff,ff,ff,ff,ff,ff,ff,ff,ff,ff,ff,ff] rfl rfl (any_of HT_.out (by kernel_rfl)) (fun _ _ _ h => h) ?_ ?_ ?_
 ·(cases b3; exact Or.inr ⟨by rfl, rfl⟩; refine Or.inl ⟨by rfl, ?_⟩; intro w'; go_simp; try rfl)
 rotate_left
 ·(simp only [Act.put,zA,zB,zC,i64_w,i32_w]; rfl)
 refine take_ (i := 30) (N := some 35) (v := if b3 = true then .int .i64 c4 else undef) (a' := ?_) #[tt,tt,tt,tt,tt,tt,tt,tt,tt,tt,tt,tt,tt,tt,tt,tt,tt,tt,tt,tt,tt,tt,tt,tt,tt,tt,tt,tt,tt,tt,tt,ff,ff,ff,ff,ff,ff,ff,ff,ff,ff,ff,ff,ff,ff,ff,ff,ff,ff,ff,ff,ff,ff,ff,ff,ff,ff,ff,ff,ff,ff,ff,ff,ff,ff,ff,ff,ff,ff,ff,ff,ff,ff,ff,ff,ff,ff,ff,ff,ff,ff,ff,ff,ff,ff,ff,ff,ff,ff,ff,ff,ff,ff,ff,ff,ff,ff,ff,ff] rfl rfl (take_ofW HT_.out HW_.out (by kernel_rfl)) (fun _ _ _ h => h) ?_ hHeld ?_ ?_
 ·(cases b3; exact Or.inr ⟨by rfl, rfl⟩; refine Or.inl ⟨by rfl, ?_⟩; intro w' s0; have xq := (blk_cell (blk_below K3.out s0) 4).trans rfl; go_simp; try rfl)
 rotate_left
 ·(simp only [Act.put,zA,zB,zC,i64_w,i32_w]; rfl)
 refine pure_ (i := 31) (N := some 36) (v := if b3 = true then .bool (a4 == c4) else undef) (a' := ?_) #[tt,tt,tt,tt,tt,tt,tt,tt,tt,tt,tt,tt,tt,tt,tt,tt,tt,tt,tt,tt,tt,tt,tt,tt,tt,tt,tt,tt,tt,tt,tt,tt,ff,ff,ff,ff,ff,ff,ff,ff,ff,ff,ff,ff,ff,ff,ff,ff,ff,ff,ff,ff,ff,ff,ff,ff,ff,ff,ff,ff,ff,ff,ff,ff,ff,ff,ff,ff,ff,ff,ff,ff,ff,ff,ff,ff,ff,ff,ff,ff,ff,ff,ff,ff,ff,ff,ff,ff,ff,ff,ff,ff,ff,ff,ff,ff,ff,ff,ff] rfl rfl (any_of HT_.out (by kernel_rfl)) (fun _ _ _ h => h) ?_ ?_ ?_
 ·(cases b3; exact Or.inr ⟨by rfl, rfl⟩; refine Or.inl ⟨by rfl, ?_⟩; intro w'; go_simp; try rfl)
 rotate_left
 ·(simp only [Act.put,zA,zB,zC,i64_w,i32_w]; rfl)
 refine pure_ (i := 32) (N := some 37) (v := .bool (b3 && (a4 == c4))) (a' := ?_) #[tt,tt,tt,tt,tt,tt,tt,tt,tt,tt,tt,tt,tt,tt,tt,tt,tt,tt,tt,tt,tt,tt,tt,tt,tt,tt,tt,tt,tt,tt,tt,tt,tt,ff,ff,ff,ff,ff,ff,ff,ff,ff,ff,ff,ff,ff,ff,ff,ff,ff,ff,ff,ff,ff,ff,ff,ff,ff,ff,ff,ff,ff,ff,ff,ff,ff,ff,ff,ff,ff,ff,ff,ff,ff,ff,ff,ff,ff,ff,ff,ff,ff,ff,ff,ff,ff,ff,ff,ff,ff,ff,ff,ff,ff,ff,ff,ff,ff,ff] rfl rfl (any_of HT_.out (by kernel_rfl)) (fun _ _ _ h => h) (Or.inl ⟨by rfl, ?_⟩) ?_ ?_
 ·(intro w'; cases b3 <;> go_simp; try rfl)
 rotate_left
 ·(simp only [Act.put,zA,zB,zC,i64_w,i32_w]; rfl)
 generalize hb4 : (b3 && (a4 == c4)) = b4
 have Hb4 := Aside0.mk hb4
 clear hb4
 refine pure_ (i := 33) (N := some 38) (v := .bool b4) (a' := ?_) #[tt,tt,tt,tt,tt,tt,tt,tt,tt,tt,tt,tt,tt,tt,tt,tt,tt,tt,tt,tt,tt,tt,tt,tt,tt,tt,tt,tt,tt,tt,tt,tt,tt,tt,ff,ff,ff,ff,ff,ff,ff,ff,ff,ff,ff,ff,ff,ff,ff,ff,ff,ff,ff,ff,ff,ff,ff,ff,ff,ff,ff,ff,ff,ff,ff,ff,ff,ff,ff,ff,ff,ff,ff,ff,ff,ff,ff,ff,ff,ff,ff,ff,ff,ff,ff,ff,ff,ff,ff,ff,ff,ff,ff,ff,ff,ff,ff,ff,ff] rfl rfl (any_of HT_.out (by kernel_rfl)) (fun _ _ _ h => h) (Or.inl ⟨by rfl, ?_⟩) ?_ ?_
 ·(intro w'; go_simp; try rfl)
 rotate_left
 ·(simp only [Act.put,zA,zB,zC,i64_w,i32_w]; rfl)
 refine pure_ (i := 34) (N := some 39) (v := if b4 = true then .pointer (some ⟨g2, 5, none⟩) else undef) (a' := ?_) #[tt,tt,tt,tt,tt,tt,tt,tt,tt,tt,tt,tt,tt,tt,tt,tt,tt,tt,tt,tt,tt,tt,tt,tt,tt,tt,tt,tt,tt,tt,tt,tt,tt,tt,tt,ff,ff,ff,ff,ff,ff,ff,ff,ff,ff,ff,ff,ff,ff,ff,ff,ff,ff,ff,ff,ff,ff,ff,ff,ff,ff,ff,ff,ff,ff,ff,ff,ff,ff,ff,ff,ff,ff,ff,ff,ff,ff,ff,ff,ff,ff,ff,ff,ff,ff,ff,ff,ff,ff,ff,ff,ff,ff,ff,ff,ff,ff,ff,ff] rfl rfl (any_of HT_.out (by kernel_rfl)) (fun _ _ _ h => h) ?_ ?_ ?_
 ·(cases b4; exact Or.inr ⟨by rfl, rfl⟩; refine Or.inl ⟨by rfl, ?_⟩; intro w'; go_simp; try rfl)
 rotate_left
 ·(simp only [Act.put,zA,zB,zC,i64_w,i32_w]; rfl)
 refine take_ (i := 35) (N := some 40) (v := if b4 = true then .slice Ax5 lx5.length nx5 else undef) (a' := ?_) #[tt,tt,tt,tt,tt,tt,tt,tt,tt,tt,tt,tt,tt,tt,tt,tt,tt,tt,tt,tt,tt,tt,tt,tt,tt,tt,tt,tt,tt,tt,tt,tt,tt,tt,tt,tt,ff,ff,ff,ff,ff,ff,ff,ff,ff,ff,ff,ff,ff,ff,ff,ff,ff,ff,ff,ff,ff,ff,ff,ff,ff,ff,ff,ff,ff,ff,ff,ff,ff,ff,ff,ff,ff,ff,ff,ff,ff,ff,ff,ff,ff,ff,ff,ff,ff,ff,ff,ff,ff,ff,ff,ff,ff,ff,ff,ff,ff,ff,ff] rfl rfl (take_ofW HT_.out HW_.out (by kernel_rfl)) (fun _ _ _ h => h) ?_ hHeld ?_ ?_
 ·(cases b4; exact Or.inr ⟨by rfl, rfl⟩; refine Or.inl ⟨by rfl, ?_⟩; intro w' s0; have xq := (blk_cell (blk_below K2.out s0) 5).trans rfl; go_simp; try rfl)
 rotate_left
 ·(simp only [Act.put,zA,zB,zC,i64_w,i32_w]; rfl)
 refine pure_ (i := 36) (N := some 41) (v := if b4 = true then .pointer (some ⟨g3, 5, none⟩) else undef) (a' := ?_) #[tt,tt,tt,tt,tt,tt,tt,tt,tt,tt,tt,tt,tt,tt,tt,tt,tt,tt,tt,tt,tt,tt,tt,tt,tt,tt,tt,tt,tt,tt,tt,tt,tt,tt,tt,tt,tt,ff,ff,ff,ff,ff,ff,ff,ff,ff,ff,ff,ff,ff,ff,ff,ff,ff,ff,ff,ff,ff,ff,ff,ff,ff,ff,ff,ff,ff,ff,ff,ff,ff,ff,ff,ff,ff,ff,ff,ff,ff,ff,ff,ff,ff,ff,ff,ff,ff,ff,ff,ff,ff,ff,ff,ff,ff,ff,ff,ff,ff,ff] rfl rfl (any_of HT_.out (by kernel_rfl)) (fun _ _ _ h => h) ?_ ?_ ?_
 ·(cases b4; exact Or.inr ⟨by rfl, rfl⟩; refine Or.inl ⟨by rfl, ?_⟩; intro w'; go_simp; try rfl)
 rotate_left
 ·(simp only [Act.put,zA,zB,zC,i64_w,i32_w]; rfl)
 refine take_ (i := 37) (N := some 42) (v := if b4 = true then .slice Ay5 ly5.length ny5 else undef) (a' := ?_) #[tt,tt,tt,tt,tt,tt,tt,tt,tt,tt,tt,tt,tt,tt,tt,tt,tt,tt,tt,tt,tt,tt,tt,tt,tt,tt,tt,tt,tt,tt,tt,tt,tt,tt,tt,tt,tt,tt,ff,ff,ff,ff,ff,ff,ff,ff,ff,ff,ff,ff,ff,ff,ff,ff,ff,ff,ff,ff,ff,ff,ff,ff,ff,ff,ff,ff,ff,ff,ff,ff,ff,ff,ff,ff,ff,ff,ff,ff,ff,ff,ff,ff,ff,ff,ff,ff,ff,ff,ff,ff,ff,ff,ff,ff,ff,ff,ff,ff,ff] rfl rfl (take_ofW HT_.out HW_.out (by kernel_rfl)) (fun _ _ _ h => h) ?_ hHeld ?_ ?_
 ·(cases b4; exact Or.inr ⟨by rfl, rfl⟩; refine Or.inl ⟨by rfl, ?_⟩; intro w' s0; have xq := (blk_cell (blk_below K3.out s0) 5).trans rfl; go_simp; try rfl)
 rotate_left
 ·(simp only [Act.put,zA,zB,zC,i64_w,i32_w]; rfl)
 refine one_ (i := 38) (N := some 43) #[tt,tt,tt,tt,tt,tt,tt,tt,tt,tt,tt,tt,tt,tt,tt,tt,tt,tt,tt,tt,tt,tt,tt,tt,tt,tt,tt,tt,tt,tt,tt,tt,tt,tt,tt,tt,tt,tt,tt,ff,ff,ff,ff,ff,ff,ff,ff,ff,ff,ff,ff,ff,ff,ff,ff,ff,ff,ff,ff,ff,ff,ff,ff,ff,ff,ff,ff,ff,ff,ff,ff,ff,ff,ff,ff,ff,ff,ff,ff,ff,ff,ff,ff,ff,ff,ff,ff,ff,ff,ff,ff,ff,ff,ff,ff,ff,ff,ff,ff] rfl rfl (one_of HT_.out (by kernel_rfl)) (by decide) (fun K hK => ?_)
 refine both_ (b := b4) (v := .bool r5) (S := fun w' => Below wd.heap.size wd w') (fun h => by subst h; rfl) (fun h K' hK' => ?_) hHeld ?_
 ·subst h
  refine goes_ Try.func69 (by kernel_rfl) rfl #[.slice Ax5 lx5.length nx5, .slice Ay5 ly5.length ny5] (by rfl) rfl rfl (by (try simp only [List.map_toArray, List.map_cons, List.map_nil]); first | done | rfl) ?_
  refine (api_Update_69.calls _ Ax5 nx5 lx5 Ay5 ny5 ly5 r5 _ (Kd.C_below Hx5.out hHeld) Mx5.out (Kd.C_below Hy5.out hHeld) My5.out F5.out).mono ?_
  rintro e w' ⟨rfl, hb⟩
  exact ⟨_, rfl, hK' _ (below_step hHeld (Drawn0.below hb))⟩
 intro wc5 hb_
 refine hK _ _ hb_ (fun hHeld => ?_)
 clear hK K
 refine norm_ (a' := ?_) ?_ ?_
 rotate_left
 ·(show Act.put _ (some 43) _ = _; simp only [Act.put,zA,zB,zC,i64_w,i32_w]; rfl)
 refine pure_ (i := 39) (N := some 44) (v := .bool (b4 && r5)) (a' := ?_) #[tt,tt,tt,tt,tt,tt,tt,tt,tt,tt,tt,tt,tt,tt,tt,tt,tt,tt,tt,tt,tt,tt,tt,tt,tt,tt,tt,tt,tt,tt,tt,tt,tt,tt,tt,tt,tt,tt,tt,tt,ff,ff,ff,ff,ff,ff,ff,ff,ff,ff,ff,ff,ff,ff,ff,ff,ff,ff,ff,ff,ff,ff,ff,ff,ff,ff,ff,ff,ff,ff,ff,ff,ff,ff,ff,ff,ff,ff,ff,ff,ff,ff,ff,ff,ff,ff,ff,ff,ff,ff,ff,ff,ff,ff,ff,ff,ff,ff,ff] rfl rfl (any_of HT_.out (by kernel_rfl)) (fun _ _ _ h => h) (Or.inl ⟨by rfl, ?_⟩) ?_ ?_
 ·(intro w'; cases b4 <;> go_simp; try rfl)
 rotate_left
 ·(simp only [Act.put,zA,zB,zC,i64_w,i32_w]; rfl)
 generalize hb5 : (b4 && r5) = b5
 have Hb5 := Aside0.mk hb5
 clear hb5
 refine pure_ (i := 40) (N := some 45) (v := .bool b5) (a' := ?_) #[tt,tt,tt,tt,tt,tt,tt,tt,tt,tt,tt,tt,tt,tt,tt,tt,tt,tt,tt,tt,tt,tt,tt,tt,tt,tt,tt,tt,tt,tt,tt,tt,tt,tt,tt,tt,tt,tt,tt,tt,tt,ff,ff,ff,ff,ff,ff,ff,ff,ff,ff,ff,ff,ff,ff,ff,ff,ff,ff,ff,ff,ff,ff,ff,ff,ff,ff,ff,ff,ff,ff,ff,ff,ff,ff,ff,ff,ff,ff,ff,ff,ff,ff,ff,ff,ff,ff,ff,ff,ff,ff,ff,ff,ff,ff,ff,ff,ff,ff] rfl rfl (any_of HT_.out (by kernel_rfl)) (fun _ _ _ h => h) (Or.inl ⟨by rfl, ?_⟩) ?_ ?_
 ·(intro w'; go_simp; try rfl)
 rotate_left
 ·(simp only [Act.put,zA,zB,zC,i64_w,i32_w]; rfl)
 refine pure_ (i := 41) (N := some 46) (v := if b5 = true then .pointer (some ⟨g2, 6, none⟩) else undef) (a' := ?_) #[tt,tt,tt,tt,tt,tt,tt,tt,tt,tt,tt,tt,tt,tt,tt,tt,tt,tt,tt,tt,tt,tt,tt,tt,tt,tt,tt,tt,tt,tt,tt,tt,tt,tt,tt,tt,tt,tt,tt,tt,tt,tt,ff,ff,ff,ff,ff,ff,ff,ff,ff,ff,ff,ff,ff,ff,ff,ff,ff,ff,ff,ff,ff,ff,ff,ff,ff,ff,ff,ff,ff,ff,ff,ff,ff,ff,ff,ff,ff,ff,ff,ff,ff,ff,ff,ff,ff,ff,ff,ff,ff,ff,ff,ff,ff,ff,ff,ff,ff] rfl rfl (any_of HT_.out (by kernel_rfl)) (fun _ _ _ h => h) ?_ ?_ ?_
 ·(cases b5; exact Or.inr ⟨by rfl, rfl⟩; refine Or.inl ⟨by rfl, ?_⟩; intro w'; go_simp; try rfl)
 rotate_left
 ·(simp only [Act.put,zA,zB,zC,i64_w,i32_w]; rfl)
 refine take_ (i := 42) (N := some 47) (v := if b5 = true then .agg #[.int .u64 a6, .int .u64 a7] else undef) (a' := ?_) #[tt,tt,tt,tt,tt,tt,tt,tt,tt,tt,tt,tt,tt,tt,tt,tt,tt,tt,tt,tt,tt,tt,tt,tt,tt,tt,tt,tt,tt,tt,tt,tt,tt,tt,tt,tt,tt,tt,tt,tt,tt,tt,tt,ff,ff,ff,ff,ff,ff,ff,ff,ff,ff,ff,ff,ff,ff,ff,ff,ff,ff,ff,ff,ff,ff,ff,ff,ff,ff,ff,ff,ff,ff,ff,ff,ff,ff,ff,ff,ff,ff,ff,ff,ff,ff,ff,ff,ff,ff,ff,ff,ff,ff,ff,ff,ff,ff,ff,ff] rfl rfl (take_ofW HT_.out HW_.out (by kernel_rfl)) (fun _ _ _ h => h) ?_ hHeld ?_ ?_
 ·(cases b5; exact Or.inr ⟨by rfl, rfl⟩; refine Or.inl ⟨by rfl, ?_⟩; intro w' s0; have xq := (blk_cell (blk_below K2.out s0) 6).trans rfl; have xr := (blk_cell (blk_below K2.out s0) 7).trans rfl; go_simp; try rfl)
 rotate_left
 ·(simp only [Act.put,zA,zB,zC,i64_w,i32_w]; rfl)
 refine pure_ (i := 43) (N := some 48) (v := if b5 = true then .pointer (some ⟨g3, 6, none⟩) else undef) (a' := ?_) #[tt,tt,tt,tt,tt,tt,tt,tt,tt,tt,tt,tt,tt,tt,tt,tt,tt,tt,tt,tt,tt,tt,tt,tt,tt,tt,tt,tt,tt,tt,tt,tt,tt,tt,tt,tt,tt,tt,tt,tt,tt,tt,tt,tt,ff,ff,ff,ff,ff,ff,ff,ff,ff,ff,ff,ff,ff,ff,ff,ff,ff,ff,ff,ff,ff,ff,ff,ff,ff,ff,ff,ff,ff,ff,ff,ff,ff,ff,ff,ff,ff,ff,ff,ff,ff,ff,ff,ff,ff,ff,ff,ff,ff,ff,ff,ff,ff,ff,ff] rfl rfl (any_of HT_.out (by kernel_rfl)) (fun _ _ _ h => h) ?_ ?_ ?_
 ·(cases b5; exact Or.inr ⟨by rfl, rfl⟩; refine Or.inl ⟨by rfl, ?_⟩; intro w'; go_simp; try rfl)
 rotate_left
 ·(simp only [Act.put,zA,zB,zC,i64_w,i32_w]; rfl)
 refine take_ (i := 44) (N := some 49) (v := if b5 = true then .agg #[.int .u64 c6, .int .u64 c7] else undef) (a' := ?_) #[tt,tt,tt,tt,tt,tt,tt,tt,tt,tt,tt,tt,tt,tt,tt,tt,tt,tt,tt,tt,tt,tt,tt,tt,tt,tt,tt,tt,tt,tt,tt,tt,tt,tt,tt,tt,tt,tt,tt,tt,tt,tt,tt,tt,tt,ff,ff,ff,ff,ff,ff,ff,ff,ff,ff,ff,ff,ff,ff,ff,ff,ff,ff,ff,ff,ff,ff,ff,ff,ff,ff,ff,ff,ff,ff,ff,ff,ff,ff,ff,ff,ff,ff,ff,ff,ff,ff,ff,ff,ff,ff,ff,ff,ff,ff,ff,ff,ff,ff] rfl rfl (take_ofW HT_.out HW_.out (by kernel_rfl)) (fun _ _ _ h => h) ?_ hHeld ?_ ?_
 ·(cases b5; exact Or.inr ⟨by rfl, rfl⟩; refine Or.inl ⟨by rfl, ?_⟩; intro w' s0; have xq := (blk_cell (blk_below K3.out s0) 6).trans rfl; have xr := (blk_cell (blk_below K3.out s0) 7).trans rfl; go_simp; try rfl)
 rotate_left
 ·(simp only [Act.put,zA,zB,zC,i64_w,i32_w]; rfl)
 refine pure_ (i := 45) (N := some 50) (v := if b5 = true then .bool (a6 == c6 && (a7 == c7)) else undef) (a' := ?_) #[tt,tt,tt,tt,tt,tt,tt,tt,tt,tt,tt,tt,tt,tt,tt,tt,tt,tt,tt,tt,tt,tt,tt,tt,tt,tt,tt,tt,tt,tt,tt,tt,tt,tt,tt,tt,tt,tt,tt,tt,tt,tt,tt,tt,tt,tt,ff,ff,ff,ff,ff,ff,ff,ff,ff,ff,ff,ff,ff,ff,ff,ff,ff,ff,ff,ff,ff,ff,ff,ff,ff,ff,ff,ff,ff,ff,ff,ff,ff,ff,ff,ff,ff,ff,ff,ff,ff,ff,ff,ff,ff,ff,ff,ff,ff,ff,ff,ff,ff] rfl rfl (any_of HT_.out (by kernel_rfl)) (fun _ _ _ h => h) ?_ ?_ ?_
 ·(cases b5; exact Or.inr ⟨by rfl, rfl⟩; refine Or.inl ⟨by rfl, ?_⟩; intro w'; go_simp; try rfl)
 rotate_left
 ·(simp only [Act.put,zA,zB,zC,i64_w,i32_w]; rfl)
 refine pure_ (i := 46) (N := some 51) (v := .bool (b5 && (a6 == c6 && (a7 == c7)))) (a' := ?_) #[tt,tt,tt,tt,tt,tt,tt,tt,tt,tt,tt,tt,tt,tt,tt,tt,tt,tt,tt,tt,tt,tt,tt,tt,tt,tt,tt,tt,tt,tt,tt,tt,tt,tt,tt,tt,tt,tt,tt,tt,tt,tt,tt,tt,tt,tt,tt,ff,ff,ff,ff,ff,ff,ff,ff,ff,ff,ff,ff,ff,ff,ff,ff,ff,ff,ff,ff,ff,ff,ff,ff,ff,ff,ff,ff,ff,ff,ff,ff,ff,ff,ff,ff,ff,ff,ff,ff,ff,ff,ff,ff,ff,ff,ff,ff,ff,ff,ff,ff] rfl rfl (any_of HT_.out (by kernel_rfl)) (fun _ _ _ h => h) (Or.inl ⟨by rfl, ?_⟩) ?_ ?_
 ·(intro w'; cases b5 <;> go_simp; try rfl)
 rotate_left
 ·(simp only [Act.put,zA,zB,zC,i64_w,i32_w]; rfl)
 generalize hb6 : (b5 && (a6 == c6 && (a7 == c7))) = b6
 have Hb6 := Aside0.mk hb6
 clear hb6
 refine pure_ (i := 47) (N := some 52) (v := .bool b6) (a' := ?_) #[tt,tt,tt,tt,tt,tt,tt,tt,tt,tt,tt,tt,tt,tt,tt,tt,tt,tt,tt,tt,tt,tt,tt,tt,tt,tt,tt,tt,tt,tt,tt,tt,tt,tt,tt,tt,tt,tt,tt,tt,tt,tt,tt,tt,tt,tt,tt,tt,ff,ff,ff,ff,ff,ff,ff,ff,ff,ff,ff,ff,ff,ff,ff,ff,ff,ff,ff,ff,ff,ff,ff,ff,ff,ff,ff,ff,ff,ff,ff,ff,ff,ff,ff,ff,ff,ff,ff,ff,ff,ff,ff,ff,ff,ff,ff,ff,ff,ff,ff] rfl rfl (any_of HT_.out (by kernel_rfl)) (fun _ _ _ h => h) (Or.inl ⟨by rfl, ?_⟩) ?_ ?_
 ·(intro w'; go_simp; try rfl)
 rotate_left
 ·(simp only [Act.put,zA,zB,zC,i64_w,i32_w]; rfl)
 refine pure_ (i := 48) (N := some 53) (v := if b6 = true then .pointer (some ⟨g2, 8, none⟩) else undef) (a' := ?_) #[tt,tt,tt,tt,tt,tt,tt,tt,tt,tt,tt,tt,tt,tt,tt,tt,tt,tt,tt,tt,tt,tt,tt,tt,tt,tt,tt,tt,tt,tt,tt,tt,tt,tt,tt,tt,tt,tt,tt,tt,tt,tt,tt,tt,tt,tt,tt,tt,tt,ff,ff,ff,ff,ff,ff,ff,ff,ff,ff,ff,ff,ff,ff,ff,ff,ff,ff,ff,ff,ff,ff,ff,ff,ff,ff,ff,ff,ff,ff,ff,ff,ff,ff,ff,ff,ff,ff,ff,ff,ff,ff,ff,ff,ff,ff,ff,ff,ff,ff] rfl rfl (any_of HT_.out (by kernel_rfl)) (fun _ _ _ h => h) ?_ ?_ ?_
 ·(cases b6; exact Or.inr ⟨by rfl, rfl⟩; refine Or.inl ⟨by rfl, ?_⟩; intro w'; go_simp; try rfl)
 rotate_left
 ·(simp only [Act.put,zA,zB,zC,i64_w,i32_w]; rfl)
 refine take_ (i := 49) (N := some 54) (v := if b6 = true then .int .u64 a8 else undef) (a' := ?_) #[tt,tt,tt,tt,tt,tt,tt,tt,tt,tt,tt,tt,tt,tt,tt,tt,tt,tt,tt,tt,tt,tt,tt,tt,tt,tt,tt,tt,tt,tt,tt,tt,tt,tt,tt,tt,tt,tt,tt,tt,tt,tt,tt,tt,tt,tt,tt,tt,tt,tt,ff,ff,ff,ff,ff,ff,ff,ff,ff,ff,ff,ff,ff,ff,ff,ff,ff,ff,ff,ff,ff,ff,ff,ff,ff,ff,ff,ff,ff,ff,ff,ff,ff,ff,ff,ff,ff,ff,ff,ff,ff,ff,ff,ff,ff,ff,ff,ff,ff] rfl rfl (take_ofW HT_.out HW_.out (by kernel_rfl)) (fun _ _ _ h => h) ?_ hHeld ?_ ?_
 ·(cases b6; exact Or.inr ⟨by rfl, rfl⟩; refine Or.inl ⟨by rfl, ?_⟩; intro w' s0; have xq := (blk_cell (blk_below K2.out s0) 8).trans rfl; go_simp; try rfl)
 rotate_left
 ·(simp only [Act.put,zA,zB,zC,i64_w,i32_w]; rfl)
 refine pure_ (i := 50) (N := some 55) (v := if b6 = true then .pointer (some ⟨g3, 8, none⟩) else undef) (a' := ?_) #[tt,tt,tt,tt,tt,tt,tt,tt,tt,tt,tt,tt,tt,tt,tt,tt,tt,tt,tt,tt,tt,tt,tt,tt,tt,tt,tt,tt,tt,tt,tt,tt,tt,tt,tt,tt,tt,tt,tt,tt,tt,tt,tt,tt,tt,tt,tt,tt,tt,tt,tt,ff,ff,ff,ff,ff,ff,ff,ff,ff,ff,ff,ff,ff,ff,ff,ff,ff,ff,ff,ff,ff,ff,ff,ff,ff,ff,ff,ff,ff,ff,ff,ff,ff,ff,ff,ff,ff,ff,ff,ff,ff,ff,ff,ff,ff,ff,ff,ff] rfl rfl (any_of HT_.out (by kernel_rfl)) (fun _ _ _ h => h) ?_ ?_ ?_
 ·(cases b6; exact Or.inr ⟨by rfl, rfl⟩; refine Or.inl ⟨by rfl, ?_⟩; intro w'; go_simp; try rfl)
 rotate_left
 ·(simp only [Act.put,zA,zB,zC,i64_w,i32_w]; rfl)
 refine take_ (i := 51) (N := some 56) (v := if b6 = true then .int .u64 c8 else undef) (a' := ?_) #[tt,tt,tt,tt,tt,tt,tt,tt,tt,tt,tt,tt,tt,tt,tt,tt,tt,tt,tt,tt,tt,tt,tt,tt,tt,tt,tt,tt,tt,tt,tt,tt,tt,tt,tt,tt,tt,tt,tt,tt,tt,tt,tt,tt,tt,tt,tt,tt,tt,tt,tt,tt,ff,ff,ff,ff,ff,ff,ff,ff,ff,ff,ff,ff,ff,ff,ff,ff,ff,ff,ff,ff,ff,ff,ff,ff,ff,ff,ff,ff,ff,ff,ff,ff,ff,ff,ff,ff,ff,ff,ff,ff,ff,ff,ff,ff,ff,ff,ff] rfl rfl (take_ofW HT_.out HW_.out (by kernel_rfl)) (fun _ _ _ h => h) ?_ hHeld ?_ ?_
 ·(cases b6; exact Or.inr ⟨by rfl, rfl⟩; refine Or.inl ⟨by rfl, ?_⟩; intro w' s0; have xq := (blk_cell (blk_below K3.out s0) 8).trans rfl; go_simp; try rfl)
 rotate_left
 ·(simp only [Act.put,zA,zB,zC,i64_w,i32_w]; rfl)
 refine pure_ (i := 52) (N := some 57) (v := if b6 = true then .bool (a8 == c8) else undef) (a' := ?_) #[tt,tt,tt,tt,tt,tt,tt,tt,tt,tt,tt,tt,tt,tt,tt,tt,tt,tt,tt,tt,tt,tt,tt,tt,tt,tt,tt,tt,tt,tt,tt,tt,tt,tt,tt,tt,tt,tt,tt,tt,tt,tt,tt,tt,tt,tt,tt,tt,tt,tt,tt,tt,tt,ff,ff,ff,ff,ff,ff,ff,ff,ff,ff,ff,ff,ff,ff,ff,ff,ff,ff,ff,ff,ff,ff,ff,ff,ff,ff,ff,ff,ff,ff,ff,ff,ff,ff,ff,ff,ff,ff,ff,ff,ff,ff,ff,ff,ff,ff] rfl rfl (any_of HT_.out (by kernel_rfl)) (fun _ _ _ h => h) ?_ ?_ ?_
 ·(cases b6; exact Or.inr ⟨by rfl, rfl⟩; refine Or.inl ⟨by rfl, ?_⟩; intro w'; go_simp; try rfl)
 rotate_left
 ·(simp only [Act.put,zA,zB,zC,i64_w,i32_w]; rfl)
 refine pure_ (i := 53) (N := some 58) (v := .bool (b6 && (a8 == c8))) (a' := ?_) #[tt,tt,tt,tt,tt,tt,tt,tt,tt,tt,tt,tt,tt,tt,tt,tt,tt,tt,tt,tt,tt,tt,tt,tt,tt,tt,tt,tt,tt,tt,tt,tt,tt,tt,tt,tt,tt,tt,tt,tt,tt,tt,tt,tt,tt,tt,tt,tt,tt,tt,tt,tt,tt,tt,ff,ff,ff,ff,ff,ff,ff,ff,ff,ff,ff,ff,ff,ff,ff,ff,ff,ff,ff,ff,ff,ff,ff,ff,ff,ff,ff,ff,ff,ff,ff,ff,ff,ff,ff,ff,ff,ff,ff,ff,ff,ff,ff,ff,ff] rfl rfl (any_of HT_.out (by kernel_rfl)) (fun _ _ _ h => h) (Or.inl ⟨by rfl, ?_⟩) ?_ ?_
 ·(intro w'; cases b6 <;> go_simp; try rfl)
 rotate_left
 ·(simp only [Act.put,zA,zB,zC,i64_w,i32_w]; rfl)
 generalize hb7 : (b6 && (a8 == c8)) = b7
 have Hb7 := Aside0.mk hb7
 clear hb7
 refine pure_ (i := 54) (N := some 59) (v := .bool b7) (a' := ?_) #[tt,tt,tt,tt,tt,tt,tt,tt,tt,tt,tt,tt,tt,tt,tt,tt,tt,tt,tt,tt,tt,tt,tt,tt,tt,tt,tt,tt,tt,tt,tt,tt,tt,tt,tt,tt,tt,tt,tt,tt,tt,tt,tt,tt,tt,tt,tt,tt,tt,tt,tt,tt,tt,tt,tt,ff,ff,ff,ff,ff,ff,ff,ff,ff,ff,ff,ff,ff,ff,ff,ff,ff,ff,ff,ff,ff,ff,ff,ff,ff,ff,ff,ff,ff,ff,ff,ff,ff,ff,ff,ff,ff,ff,ff,ff,ff,ff,ff,ff] rfl rfl (any_of HT_.out (by kernel_rfl)) (fun _ _ _ h => h) (Or.inl ⟨by rfl, ?_⟩) ?_ ?_
 ·(intro w'; go_simp; try rfl)
 rotate_left
 ·(simp only [Act.put,zA,zB,zC,i64_w,i32_w]; rfl)
 refine pure_ (i := 55) (N := some 60) (v := if b7 = true then .pointer (some ⟨g2, 9, none⟩) else undef) (a' := ?_) #[tt,tt,tt,tt,tt,tt,tt,tt,tt,tt,tt,tt,tt,tt,tt,tt,tt,tt,tt,tt,tt,tt,tt,tt,tt,tt,tt,tt,tt,tt,tt,tt,tt,tt,tt,tt,tt,tt,tt,tt,tt,tt,tt,tt,tt,tt,tt,tt,tt,tt,tt,tt,tt,tt,tt,tt,ff,ff,ff,ff,ff,ff,ff,ff,ff,ff,ff,ff,ff,ff,ff,ff,ff,ff,ff,ff,ff,ff,ff,ff,ff,ff,ff,ff,ff,ff,ff,ff,ff,ff,ff,ff,ff,ff,ff,ff,ff,ff,ff] rfl rfl (any_of HT_.out (by kernel_rfl)) (fun _ _ _ h => h) ?_ ?_ ?_
 ·(cases b7; exact Or.inr ⟨by rfl, rfl⟩; refine Or.inl ⟨by rfl, ?_⟩; intro w'; go_simp; try rfl)
 rotate_left
 ·(simp only [Act.put,zA,zB,zC,i64_w,i32_w]; rfl)
 refine take_ (i := 56) (N := some 61) (v := if b7 = true then .int .u64 a9 else undef) (a' := ?_) #[tt,tt,tt,tt,tt,tt,tt,tt,tt,tt,tt,tt,tt,tt,tt,tt,tt,tt,tt,tt,tt,tt,tt,tt,tt,tt,tt,tt,tt,tt,tt,tt,tt,tt,tt,tt,tt,tt,tt,tt,tt,tt,tt,tt,tt,tt,tt,tt,tt,tt,tt,tt,tt,tt,tt,tt,tt,ff,ff,ff,ff,ff,ff,ff,ff,ff,ff,ff,ff,ff,ff,ff,ff,ff,ff,ff,ff,ff,ff,ff,ff,ff,ff,ff,ff,ff,ff,ff,ff,ff,ff,ff,ff,ff,ff,ff,ff,ff,ff] rfl rfl (take_ofW HT_.out HW_.out (by kernel_rfl)) (fun _ _ _ h => h) ?_ hHeld ?_ ?_
 ·(cases b7; exact Or.inr ⟨by rfl, rfl⟩; refine Or.inl ⟨by rfl, ?_⟩; intro w' s0; have xq := (blk_cell (blk_below K2.out s0) 9).trans rfl; go_simp; try rfl)
 rotate_left
 ·(simp only [Act.put,zA,zB,zC,i64_w,i32_w]; rfl)
 refine pure_ (i := 57) (N := some 62) (v := if b7 = true then .pointer (some ⟨g3, 9, none⟩) else undef) (a' := ?_) #[tt,tt,tt,tt,tt,tt,tt,tt,tt,tt,tt,tt,tt,tt,tt,tt,tt,tt,tt,tt,tt,tt,tt,tt,tt,tt,tt,tt,tt,tt,tt,tt,tt,tt,tt,tt,tt,tt,tt,tt,tt,tt,tt,tt,tt,tt,tt,tt,tt,tt,tt,tt,tt,tt,tt,tt,tt,tt,ff,ff,ff,ff,ff,ff,ff,ff,ff,ff,ff,ff,ff,ff,ff,ff,ff,ff,ff,ff,ff,ff,ff,ff,ff,ff,ff,ff,ff,ff,ff,ff,ff,ff,ff,ff,ff,ff,ff,ff,ff] rfl rfl (any_of HT_.out (by kernel_rfl)) (fun _ _ _ h => h) ?_ ?_ ?_
 ·(cases b7; exact Or.inr ⟨by rfl, rfl⟩; refine Or.inl ⟨by rfl, ?_⟩; intro w'; go_simp; try rfl)
 rotate_left
 ·(simp only [Act.put,zA,zB,zC,i64_w,i32_w]; rfl)
 refine take_ (i := 58) (N := some 63) (v := if b7 = true then .int .u64 c9 else undef) (a' := ?_) #[tt,tt,tt,tt,tt,tt,tt,tt,tt,tt,tt,tt,tt,tt,tt,tt,tt,tt,tt,tt,tt,tt,tt,tt,tt,tt,tt,tt,tt,tt,tt,tt,tt,tt,tt,tt,tt,tt,tt,tt,tt,tt,tt,tt,tt,tt,tt,tt,tt,tt,tt,tt,tt,tt,tt,tt,tt,tt,tt,ff,ff,ff,ff,ff,ff,ff,ff,ff,ff,ff,ff,ff,ff,ff,ff,ff,ff,ff,ff,ff,ff,ff,ff,ff,ff,ff,ff,ff,ff,ff,ff,ff,ff,ff,ff,ff,ff,ff,ff] rfl rfl (take_ofW HT_.out HW_.out (by kernel_rfl)) (fun _ _ _ h => h) ?_ hHeld ?_ ?_
 ·(cases b7; exact Or.inr ⟨by rfl, rfl⟩; refine Or.inl ⟨by rfl, ?_⟩; intro w' s0; have xq := (blk_cell (blk_below K3.out s0) 9).trans rfl; go_simp; try rfl)
 rotate_left
 ·(simp only [Act.put,zA,zB,zC,i64_w,i32_w]; rfl)
 refine pure_ (i := 59) (N := some 64) (v := if b7 = true then .bool (a9 == c9) else undef) (a' := ?_) #[tt,tt,tt,tt,tt,tt,tt,tt,tt,tt,tt,tt,tt,tt,tt,tt,tt,tt,tt,tt,tt,tt,tt,tt,tt,tt,tt,tt,tt,tt,tt,tt,tt,tt,tt,tt,tt,tt,tt,tt,tt,tt,tt,tt,tt,tt,tt,tt,tt,tt,tt,tt,tt,tt,tt,tt,tt,tt,tt,tt,ff,ff,ff,ff,ff,ff,ff,ff,ff,ff,ff,ff,ff,ff,ff,ff,ff,ff,ff,ff,ff,ff,ff,ff,ff,ff,ff,ff,ff,ff,ff,ff,ff,ff,ff,ff,ff,ff,ff] rfl rfl (any_of HT_.out (by kernel_rfl)) (fun _ _ _ h => h) ?_ ?_ ?_
 ·(cases b7; exact Or.inr ⟨by rfl, rfl⟩; refine Or.inl ⟨by rfl, ?_⟩; intro w'; go_simp; try rfl)
 rotate_left
 ·(simp only [Act.put,zA,zB,zC,i64_w,i32_w]; rfl)
 refine pure_ (i := 60) (N := some 65) (v := .bool (b7 && (a9 == c9))) (a' := ?_) #[tt,tt,tt,tt,tt,tt,tt,tt,tt,tt,tt,tt,tt,tt,tt,tt,tt,tt,tt,tt,tt,tt,tt,tt,tt,tt,tt,tt,tt,tt,tt,tt,tt,tt,tt,tt,tt,tt,tt,tt,tt,tt,tt,tt,tt,tt,tt,tt,tt,tt,tt,tt,tt,tt,tt,tt,tt,tt,tt,tt,tt,ff,ff,ff,ff,ff,ff,ff,ff,ff,ff,ff,ff,ff,ff,ff,ff,ff,ff,ff,ff,ff,ff,ff,ff,ff,ff,ff,ff,ff,ff,ff,ff,ff,ff,ff,ff,ff,ff] rfl rfl (any_of HT_.out (by kernel_rfl)) (fun _ _ _ h => h) (Or.inl ⟨by rfl, ?_⟩) ?_ ?_
 ·(intro w'; cases b7 <;> go_simp; try rfl)
 rotate_left
 ·(simp only [Act.put,zA,zB,zC,i64_w,i32_w]; rfl)
 generalize hb8 : (b7 && (a9 == c9)) = b8
 have Hb8 := Aside0.mk hb8
 clear hb8
 refine pure_ (i := 61) (N := some 66) (v := .bool b8) (a' := ?_) #[tt,tt,tt,tt,tt,tt,tt,tt,tt,tt,tt,tt,tt,tt,tt,tt,tt,tt,tt,tt,tt,tt,tt,tt,tt,tt,tt,tt,tt,tt,tt,tt,tt,tt,tt,tt,tt,tt,tt,tt,tt,tt,tt,tt,tt,tt,tt,tt,tt,tt,tt,tt,tt,tt,tt,tt,tt,tt,tt,tt,tt,tt,ff,ff,ff,ff,ff,ff,ff,ff,ff,ff,ff,ff,ff,ff,ff,ff,ff,ff,ff,ff,ff,ff,ff,ff,ff,ff,ff,ff,ff,ff,ff,ff,ff,ff,ff,ff,ff] rfl rfl (any_of HT_.out (by kernel_rfl)) (fun _ _ _ h => h) (Or.inl ⟨by rfl, ?_⟩) ?_ ?_
 ·(intro w'; go_simp; try rfl)
 rotate_left
 ·(simp only [Act.put,zA,zB,zC,i64_w,i32_w]; rfl)
 refine pure_ (i := 62) (N := some 67) (v := if b8 = true then .pointer (some ⟨g2, 10, none⟩) else undef) (a' := ?_) #[tt,tt,tt,tt,tt,tt,tt,tt,tt,tt,tt,tt,tt,tt,tt,tt,tt,tt,tt,tt,tt,tt,tt,tt,tt,tt,tt,tt,tt,tt,tt,tt,tt,tt,tt,tt,tt,tt,tt,tt,tt,tt,tt,tt,tt,tt,tt,tt,tt,tt,tt,tt,tt,tt,tt,tt,tt,tt,tt,tt,tt,tt,tt,ff,ff,ff,ff,ff,ff,ff,ff,ff,ff,ff,ff,ff,ff,ff,ff,ff,ff,ff,ff,ff,ff,ff,ff,ff,ff,ff,ff,ff,ff,ff,ff,ff,ff,ff,ff] rfl rfl (any_of HT_.out (by kernel_rfl)) (fun _ _ _ h => h) ?_ ?_ ?_
 ·(cases b8; exact Or.inr ⟨by rfl, rfl⟩; refine Or.inl ⟨by rfl, ?_⟩; intro w'; go_simp; try rfl)
 rotate_left
 ·(simp only [Act.put,zA,zB,zC,i64_w,i32_w]; rfl)
 refine take_ (i := 63) (N := some 68) (v := if b8 = true then .agg #[.int .u64 a10, .int .u64 a11] else undef) (a' := ?_) #[tt,tt,tt,tt,tt,tt,tt,tt,tt,tt,tt,tt,tt,tt,tt,tt,tt,tt,tt,tt,tt,tt,tt,tt,tt,tt,tt,tt,tt,tt,tt,tt,tt,tt,tt,tt,tt,tt,tt,tt,tt,tt,tt,tt,tt,tt,tt,tt,tt,tt,tt,tt,tt,tt,tt,tt,tt,tt,tt,tt,tt,tt,tt,tt,ff,ff,ff,ff,ff,ff,ff,ff,ff,ff,ff,ff,ff,ff,ff,ff,ff,ff,ff,ff,ff,ff,ff,ff,ff,ff,ff,ff,ff,ff,ff,ff,ff,ff,ff] rfl rfl (take_ofW HT_.out HW_.out (by kernel_rfl)) (fun _ _ _ h => h) ?_ hHeld ?_ ?_
 ·(cases b8; exact Or.inr ⟨by rfl, rfl⟩; refine Or.inl ⟨by rfl, ?_⟩; intro w' s0; have xq := (blk_cell (blk_below K2.out s0) 10).trans rfl; have xr := (blk_cell (blk_below K2.out s0) 11).trans rfl; go_simp; try rfl)
 rotate_left
 ·(simp only [Act.put,zA,zB,zC,i64_w,i32_w]; rfl)
 refine pure_ (i := 64) (N := some 69) (v := if b8 = true then .pointer (some ⟨g3, 10, none⟩) else undef) (a' := ?_) #[tt,tt,tt,tt,tt,tt,tt,tt,tt,tt,tt,tt,tt,tt,tt,tt,tt,tt,tt,tt,tt,tt,tt,tt,tt,tt,tt,tt,tt,tt,tt,tt,tt,tt,tt,tt,tt,tt,tt,tt,tt,tt,tt,tt,tt,tt,tt,tt,tt,tt,tt,tt,tt,tt,tt,tt,tt,tt,tt,tt,tt,tt,tt,tt,tt,ff,ff,ff,ff,ff,ff,ff,ff,ff,ff,ff,ff,ff,ff,ff,ff,ff,ff,ff,ff,ff,ff,ff,ff,ff,ff,ff,ff,ff,ff,ff,ff,ff,ff] rfl rfl (any_of HT_.out (by kernel_rfl)) (fun _ _ _ h => h) ?_ ?_ ?_
 ·(cases b8; exact Or.inr ⟨by rfl, rfl⟩; refine Or.inl ⟨by rfl, ?_⟩; intro w'; go_simp; try rfl)
 rotate_left
 ·(simp only [Act.put,zA,zB,zC,i64_w,i32_w]; rfl)
 refine take_ (i := 65) (N := some 70) (v := if b8 = true then .agg #[.int .u64 c10, .int .u64 c11] else undef) (a' := ?_) #[tt,tt,tt,tt,tt,tt,tt,tt,tt,tt,tt,tt,tt,tt,tt,tt,tt,tt,tt,tt,tt,tt,tt,tt,tt,tt,tt,tt,tt,tt,tt,tt,tt,tt,tt,tt,tt,tt,tt,tt,tt,tt,tt,tt,tt,tt,tt,tt,tt,tt,tt,tt,tt,tt,tt,tt,tt,tt,tt,tt,tt,tt,tt,tt,tt,tt,ff,ff,ff,ff,ff,ff,ff,ff,ff,ff,ff,ff,ff,ff,ff,ff,ff,ff,ff,ff,ff,ff,ff,ff,ff,ff,ff,ff,ff,ff,ff,ff,ff] rfl rfl (take_ofW HT_.out HW_.out (by kernel_rfl)) (fun _ _ _ h => h) ?_ hHeld ?_ ?_
 ·(cases b8; exact Or.inr ⟨by rfl, rfl⟩; refine Or.inl ⟨by rfl, ?_⟩; intro w' s0; have xq := (blk_cell (blk_below K3.out s0) 10).trans rfl; have xr := (blk_cell (blk_below K3.out s0) 11).trans rfl; go_simp; try rfl)
 rotate_left
 ·(simp only [Act.put,zA,zB,zC,i64_w,i32_w]; rfl)
 refine pure_ (i := 66) (N := some 71) (v := if b8 = true then .bool (a10 == c10 && (a11 == c11)) else undef) (a' := ?_) #[tt,tt,tt,tt,tt,tt,tt,tt,tt,tt,tt,tt,tt,tt,tt,tt,tt,tt,tt,tt,tt,tt,tt,tt,tt,tt,tt,tt,tt,tt,tt,tt,tt,tt,tt,tt,tt,tt,tt,tt,tt,tt,tt,tt,tt,tt,tt,tt,tt,tt,tt,tt,tt,tt,tt,tt,tt,tt,tt,tt,tt,tt,tt,tt,tt,tt,tt,ff,ff,ff,ff,ff,ff,ff,ff,ff,ff,ff,ff,ff,ff,ff,ff,ff,ff,ff,ff,ff,ff,ff,ff,ff,ff,ff,ff,ff,ff,ff,ff] rfl rfl (any_of HT_.out (by kernel_rfl)) (fun _ _ _ h => h) ?_ ?_ ?_
 ·(cases b8; exact Or.inr ⟨by rfl, rfl⟩; refine Or.inl ⟨by rfl, ?_⟩; intro w'; go_simp; try rfl)
 rotate_left
 ·(simp only [Act.put,zA,zB,zC,i64_w,i32_w]; rfl)
 refine pure_ (i := 67) (N := some 72) (v := .bool (b8 && (a10 == c10 && (a11 == c11)))) (a' := ?_) #[tt,tt,tt,tt,tt,tt,tt,tt,tt,tt,tt,tt,tt,tt,tt,tt,tt,tt,tt,tt,tt,tt,tt,tt,tt,tt,tt,tt,tt,tt,tt,tt,tt,tt,tt,tt,tt,tt,tt,tt,tt,tt,tt,tt,tt,tt,tt,tt,tt,tt,tt,tt,tt,tt,tt,tt,tt,tt,tt,tt,tt,tt,tt,tt,tt,tt,tt,tt,ff,ff,ff,ff,ff,ff,ff,ff,ff,ff,ff,ff,ff,ff,ff,ff,ff,ff,ff,ff,ff,ff,ff,ff,ff,ff,ff,ff,ff,ff,ff] rfl rfl (any_of HT_.out (by kernel_rfl)) (fun _ _ _ h => h) (Or.inl ⟨by rfl, ?_⟩) ?_ ?_
 ·(intro w'; cases b8 <;> go_simp; try rfl)
 rotate_left
 ·(simp only [Act.put,zA,zB,zC,i64_w,i32_w]; rfl)
 generalize hb9 : (b8 && (a10 == c10 && (a11 == c11))) = b9
 have Hb9 := Aside0.mk hb9
 clear hb9
 refine pure_ (i := 68) (N := some 73) (v := .bool b9) (a' := ?_) #[tt,tt,tt,tt,tt,tt,tt,tt,tt,tt,tt,tt,tt,tt,tt,tt,tt,tt,tt,tt,tt,tt,tt,tt,tt,tt,tt,tt,tt,tt,tt,tt,tt,tt,tt,tt,tt,tt,tt,tt,tt,tt,tt,tt,tt,tt,tt,tt,tt,tt,tt,tt,tt,tt,tt,tt,tt,tt,tt,tt,tt,tt,tt,tt,tt,tt,tt,tt,tt,ff,ff,ff,ff,ff,ff,ff,ff,ff,ff,ff,ff,ff,ff,ff,ff,ff,ff,ff,ff,ff,ff,ff,ff,ff,ff,ff,ff,ff,ff] rfl rfl (any_of HT_.out (by kernel_rfl)) (fun _ _ _ h => h) (Or.inl ⟨by rfl, ?_⟩) ?_ ?_
 ·(intro w'; go_simp; try rfl)
 rotate_left
 ·(simp only [Act.put,zA,zB,zC,i64_w,i32_w]; rfl)
 refine pure_ (i := 69) (N := some 74) (v := if b9 = true then .pointer (some ⟨g2, 12, none⟩) else undef) (a' := ?_) #[tt,tt,tt,tt,tt,tt,tt,tt,tt,tt,tt,tt,tt,tt,tt,tt,tt,tt,tt,tt,tt,tt,tt,tt,tt,tt,tt,tt,tt,tt,tt,tt,tt,tt,tt,tt,tt,tt,tt,tt,tt,tt,tt,tt,tt,tt,tt,tt,tt,tt,tt,tt,tt,tt,tt,tt,tt,tt,tt,tt,tt,tt,tt,tt,tt,tt,tt,tt,tt,tt,ff,ff,ff,ff,ff,ff,ff,ff,ff,ff,ff,ff,ff,ff,ff,ff,ff,ff,ff,ff,ff,ff,ff,ff,ff,ff,ff,ff,ff] rfl rfl (any_of HT_.out (by kernel_rfl)) (fun _ _ _ h => h) ?_ ?_ ?_
 ·(cases b9; exact Or.inr ⟨by rfl, rfl⟩; refine Or.inl ⟨by rfl, ?_⟩; intro w'; go_simp; try rfl)
 rotate_left
 ·(simp only [Act.put,zA,zB,zC,i64_w,i32_w]; rfl)
 refine take_ (i := 70) (N := some 75) (v := if b9 = true then .int .u64 a12 else undef) (a' := ?_) #[tt,tt,tt,tt,tt,tt,tt,tt,tt,tt,tt,tt,tt,tt,tt,tt,tt,tt,tt,tt,tt,tt,tt,tt,tt,tt,tt,tt,tt,tt,tt,tt,tt,tt,tt,tt,tt,tt,tt,tt,tt,tt,tt,tt,tt,tt,tt,tt,tt,tt,tt,tt,tt,tt,tt,tt,tt,tt,tt,tt,tt,tt,tt,tt,tt,tt,tt,tt,tt,tt,tt,ff,ff,ff,ff,ff,ff,ff,ff,ff,ff,ff,ff,ff,ff,ff,ff,ff,ff,ff,ff,ff,ff,ff,ff,ff,ff,ff,ff] rfl rfl (take_ofW HT_.out HW_.out (by kernel_rfl)) (fun _ _ _ h => h) ?_ hHeld ?_ ?_
 ·(cases b9; exact Or.inr ⟨by rfl, rfl⟩; refine Or.inl ⟨by rfl, ?_⟩; intro w' s0; have xq := (blk_cell (blk_below K2.out s0) 12).trans rfl; go_simp; try rfl)
 rotate_left
 ·(simp only [Act.put,zA,zB,zC,i64_w,i32_w]; rfl)
 refine pure_ (i := 71) (N := some 76) (v := if b9 = true then .pointer (some ⟨g3, 12, none⟩) else undef) (a' := ?_) #[tt,tt,tt,tt,tt,tt,tt,tt,tt,tt,tt,tt,tt,tt,tt,tt,tt,tt,tt,tt,tt,tt,tt,tt,tt,tt,tt,tt,tt,tt,tt,tt,tt,tt,tt,tt,tt,tt,tt,tt,tt,tt,tt,tt,tt,tt,tt,tt,tt,tt,tt,tt,tt,tt,tt,tt,tt,tt,tt,tt,tt,tt,tt,tt,tt,tt,tt,tt,tt,tt,tt,tt,ff,ff,ff,ff,ff,ff,ff,ff,ff,ff,ff,ff,ff,ff,ff,ff,ff,ff,ff,ff,ff,ff,ff,ff,ff,ff,ff] rfl rfl (any_of HT_.out (by kernel_rfl)) (fun _ _ _ h => h) ?_ ?_ ?_
 ·(cases b9; exact Or.inr ⟨by rfl, rfl⟩; refine Or.inl ⟨by rfl, ?_⟩; intro w'; go_simp; try rfl)
 rotate_left
 ·(simp only [Act.put,zA,zB,zC,i64_w,i32_w]; rfl)
 refine take_ (i := 72) (N := some 77) (v := if b9 = true then .int .u64 c12 else undef) (a' := ?_) #[tt,tt,tt,tt,tt,tt,tt,tt,tt,tt,tt,tt,tt,tt,tt,tt,tt,tt,tt,tt,tt,tt,tt,tt,tt,tt,tt,tt,tt,tt,tt,tt,tt,tt,tt,tt,tt,tt,tt,tt,tt,tt,tt,tt,tt,tt,tt,tt,tt,tt,tt,tt,tt,tt,tt,tt,tt,tt,tt,tt,tt,tt,tt,tt,tt,tt,tt,tt,tt,tt,tt,tt,tt,ff,ff,ff,ff,ff,ff,ff,ff,ff,ff,ff,ff,ff,ff,ff,ff,ff,ff,ff,ff,ff,ff,ff,ff,ff,ff] rfl rfl (take_ofW HT_.out HW_.out (by kernel_rfl)) (fun _ _ _ h => h) ?_ hHeld ?_ ?_
 ·(cases b9; exact Or.inr ⟨by rfl, rfl⟩; refine Or.inl ⟨by rfl, ?_⟩; intro w' s0; have xq := (blk_cell (blk_below K3.out s0) 12).trans rfl; go_simp; try rfl)
 rotate_left
 ·(simp only [Act.put,zA,zB,zC,i64_w,i32_w]; rfl)
 refine pure_ (i := 73) (N := some 78) (v := if b9 = true then .bool (a12 == c12) else undef) (a' := ?_) #[tt,tt,tt,tt,tt,tt,tt,tt,tt,tt,tt,tt,tt,tt,tt,tt,tt,tt,tt,tt,tt,tt,tt,tt,tt,tt,tt,tt,tt,tt,tt,tt,tt,tt,tt,tt,tt,tt,tt,tt,tt,tt,tt,tt,tt,tt,tt,tt,tt,tt,tt,tt,tt,tt,tt,tt,tt,tt,tt,tt,tt,tt,tt,tt,tt,tt,tt,tt,tt,tt,tt,tt,tt,tt,ff,ff,ff,ff,ff,ff,ff,ff,ff,ff,ff,ff,ff,ff,ff,ff,ff,ff,ff,ff,ff,ff,ff,ff,ff] rfl rfl (any_of HT_.out (by kernel_rfl)) (fun _ _ _ h => h) ?_ ?_ ?_
 ·(cases b9; exact Or.inr ⟨by rfl, rfl⟩; refine Or.inl ⟨by rfl, ?_⟩; intro w'; go_simp; try rfl)
 rotate_left
 ·(simp only [Act.put,zA,zB,zC,i64_w,i32_w]; rfl)
 refine pure_ (i := 74) (N := some 79) (v := .bool (b9 && (a12 == c12))) (a' := ?_) #[tt,tt,tt,tt,tt,tt,tt,tt,tt,tt,tt,tt,tt,tt,tt,tt,tt,tt,tt,tt,tt,tt,tt,tt,tt,tt,tt,tt,tt,tt,tt,tt,tt,tt,tt,tt,tt,tt,tt,tt,tt,tt,tt,tt,tt,tt,tt,tt,tt,tt,tt,tt,tt,tt,tt,tt,tt,tt,tt,tt,tt,tt,tt,tt,tt,tt,tt,tt,tt,tt,tt,tt,tt,tt,tt,ff,ff,ff,ff,ff,ff,ff,ff,ff,ff,ff,ff,ff,ff,ff,ff,ff,ff,ff,ff,ff,ff,ff,ff] rfl rfl (any_of HT_.out (by kernel_rfl)) (fun _ _ _ h => h) (Or.inl ⟨by rfl, ?_⟩) ?_ ?_
 ·(intro w'; cases b9 <;> go_simp; try rfl)
 rotate_left
 ·(simp only [Act.put,zA,zB,zC,i64_w,i32_w]; rfl)
 generalize hb10 : (b9 && (a12 == c12)) = b10
 have Hb10 := Aside0.mk hb10
 clear hb10
 refine pure_ (i := 75) (N := some 80) (v := .bool b10) (a' := ?_) #[tt,tt,tt,tt,tt,tt,tt,tt,tt,tt,tt,tt,tt,tt,tt,tt,tt,tt,tt,tt,tt,tt,tt,tt,tt,tt,tt,tt,tt,tt,tt,tt,tt,tt,tt,tt,tt,tt,tt,tt,tt,tt,tt,tt,tt,tt,tt,tt,tt,tt,tt,tt,tt,tt,tt,tt,tt,tt,tt,tt,tt,tt,tt,tt,tt,tt,tt,tt,tt,tt,tt,tt,tt,tt,tt,tt,ff,ff,ff,ff,ff,ff,ff,ff,ff,ff,ff,ff,ff,ff,ff,ff,ff,ff,ff,ff,ff,ff,ff] rfl rfl (any_of HT_.out (by kernel_rfl)) (fun _ _ _ h => h) (Or.inl ⟨by rfl, ?_⟩) ?_ ?_
 ·(intro w'; go_simp; try rfl)
 rotate_left
 ·(simp only [Act.put,zA,zB,zC,i64_w,i32_w]; rfl)
 refine pure_ (i := 76) (N := some 81) (v := if b10 = true then .pointer (some ⟨g2, 13, none⟩) else undef) (a' := ?_) #[tt,tt,tt,tt,tt,tt,tt,tt,tt,tt,tt,tt,tt,tt,tt,tt,tt,tt,tt,tt,tt,tt,tt,tt,tt,tt,tt,tt,tt,tt,tt,tt,tt,tt,tt,tt,tt,tt,tt,tt,tt,tt,tt,tt,tt,tt,tt,tt,tt,tt,tt,tt,tt,tt,tt,tt,tt,tt,tt,tt,tt,tt,tt,tt,tt,tt,tt,tt,tt,tt,tt,tt,tt,tt,tt,tt,tt,ff,ff,ff,ff,ff,ff,ff,ff,ff,ff,ff,ff,ff,ff,ff,ff,ff,ff,ff,ff,ff,ff] rfl rfl (any_of HT_.out (by kernel_rfl)) (fun _ _ _ h => h) ?_ ?_ ?_
 ·(cases b10; exact Or.inr ⟨by rfl, rfl⟩; refine Or.inl ⟨by rfl, ?_⟩; intro w'; go_simp; try rfl)
 rotate_left
 ·(simp only [Act.put,zA,zB,zC,i64_w,i32_w]; rfl)
 refine take_ (i := 77) (N := some 82) (v := if b10 = true then .slice Ax13 lx13.length nx13 else undef) (a' := ?_) #[tt,tt,tt,tt,tt,tt,tt,tt,tt,tt,tt,tt,tt,tt,tt,tt,tt,tt,tt,tt,tt,tt,tt,tt,tt,tt,tt,tt,tt,tt,tt,tt,tt,tt,tt,tt,tt,tt,tt,tt,tt,tt,tt,tt,tt,tt,tt,tt,tt,tt,tt,tt,tt,tt,tt,tt,tt,tt,tt,tt,tt,tt,tt,tt,tt,tt,tt,tt,tt,tt,tt,tt,tt,tt,tt,tt,tt,tt,ff,ff,ff,ff,ff,ff,ff,ff,ff,ff,ff,ff,ff,ff,ff,ff,ff,ff,ff,ff,ff] rfl rfl (take_ofW HT_.out HW_.out (by kernel_rfl)) (fun _ _ _ h => h) ?_ hHeld ?_ ?_
 ·(cases b10; exact Or.inr ⟨by rfl, rfl⟩; refine Or.inl ⟨by rfl, ?_⟩; intro w' s0; have xq := (blk_cell (blk_below K2.out s0) 13).trans rfl; go_simp; try rfl)
 rotate_left
 ·(simp only [Act.put,zA,zB,zC,i64_w,i32_w]; rfl)
 refine pure_ (i := 78) (N := some 83) (v := if b10 = true then .pointer (some ⟨g3, 13, none⟩) else undef) (a' := ?_) #[tt,tt,tt,tt,tt,tt,tt,tt,tt,tt,tt,tt,tt,tt,tt,tt,tt,tt,tt,tt,tt,tt,tt,tt,tt,tt,tt,tt,tt,tt,tt,tt,tt,tt,tt,tt,tt,tt,tt,tt,tt,tt,tt,tt,tt,tt,tt,tt,tt,tt,tt,tt,tt,tt,tt,tt,tt,tt,tt,tt,tt,tt,tt,tt,tt,tt,tt,tt,tt,tt,tt,tt,tt,tt,tt,tt,tt,tt,tt,ff,ff,ff,ff,ff,ff,ff,ff,ff,ff,ff,ff,ff,ff,ff,ff,ff,ff,ff,ff] rfl rfl (any_of HT_.out (by kernel_rfl)) (fun _ _ _ h => h) ?_ ?_ ?_
 ·(cases b10; exact Or.inr ⟨by rfl, rfl⟩; refine Or.inl ⟨by rfl, ?_⟩; intro w'; go_simp; try rfl)
 rotate_left
 ·(simp only [Act.put,zA,zB,zC,i64_w,i32_w]; rfl)
 refine take_ (i := 79) (N := some 84) (v := if b10 = true then .slice Ay13 ly13.length ny13 else undef) (a' := ?_) #[tt,tt,tt,tt,tt,tt,tt,tt,tt,tt,tt,tt,tt,tt,tt,tt,tt,tt,tt,tt,tt,tt,tt,tt,tt,tt,tt,tt,tt,tt,tt,tt,tt,tt,tt,tt,tt,tt,tt,tt,tt,tt,tt,tt,tt,tt,tt,tt,tt,tt,tt,tt,tt,tt,tt,tt,tt,tt,tt,tt,tt,tt,tt,tt,tt,tt,tt,tt,tt,tt,tt,tt,tt,tt,tt,tt,tt,tt,tt,tt,ff,ff,ff,ff,ff,ff,ff,ff,ff,ff,ff,ff,ff,ff,ff,ff,ff,ff,ff] rfl rfl (take_ofW HT_.out HW_.out (by kernel_rfl)) (fun _ _ _ h => h) ?_ hHeld ?_ ?_
 ·(cases b10; exact Or.inr ⟨by rfl, rfl⟩; refine Or.inl ⟨by rfl, ?_⟩; intro w' s0; have xq := (blk_cell (blk_below K3.out s0) 13).trans rfl; go_simp; try rfl)
 rotate_left
 ·(simp only [Act.put,zA,zB,zC,i64_w,i32_w]; rfl)
 refine one_ (i := 80) (N := some 85) #[tt,tt,tt,tt,tt,tt,tt,tt,tt,tt,tt,tt,tt,tt,tt,tt,tt,tt,tt,tt,tt,tt,tt,tt,tt,tt,tt,tt,tt,tt,tt,tt,tt,tt,tt,tt,tt,tt,tt,tt,tt,tt,tt,tt,tt,tt,tt,tt,tt,tt,tt,tt,tt,tt,tt,tt,tt,tt,tt,tt,tt,tt,tt,tt,tt,tt,tt,tt,tt,tt,tt,tt,tt,tt,tt,tt,tt,tt,tt,tt,tt,ff,ff,ff,ff,ff,ff,ff,ff,ff,ff,ff,ff,ff,ff,ff,ff,ff,ff] rfl rfl (one_of HT_.out (by kernel_rfl)) (by decide) (fun K hK => ?_)
 refine both_ (b := b10) (v := .bool r13) (S := fun w' => Below wd.heap.size wd w') (fun h => by subst h; rfl) (fun h K' hK' => ?_) hHeld ?_
 ·subst h
  refine goes_ Try.func70 (by kernel_rfl) rfl #[.slice Ax13 lx13.length nx13, .slice Ay13 ly13.length ny13] (by rfl) rfl rfl (by (try simp only [List.map_toArray, List.map_cons, List.map_nil]); first | done | rfl) ?_
  refine (letter_Piece_70.calls _ Ax13 nx13 lx13 Ay13 ny13 ly13 r13 _ (Kd.C_below Hx13.out hHeld) Mx13.out (Kd.C_below Hy13.out hHeld) My13.out F13.out).mono ?_
  rintro e w' ⟨rfl, hb⟩
  exact ⟨_, rfl, hK' _ (below_step hHeld (Drawn0.below hb))⟩
 intro wc11 hb_
 refine hK _ _ hb_ (fun hHeld => ?_)
 clear hK K
 refine norm_ (a' := ?_) ?_ ?_
 rotate_left
 ·(show Act.put _ (some 85) _ = _; simp only [Act.put,zA,zB,zC,i64_w,i32_w]; rfl)
 refine pure_ (i := 81) (N := some 86) (v := .bool (b10 && r13)) (a' := ?_) #[tt,tt,tt,tt,tt,tt,tt,tt,tt,tt,tt,tt,tt,tt,tt,tt,tt,tt,tt,tt,tt,tt,tt,tt,tt,tt,tt,tt,tt,tt,tt,tt,tt,tt,tt,tt,tt,tt,tt,tt,tt,tt,tt,tt,tt,tt,tt,tt,tt,tt,tt,tt,tt,tt,tt,tt,tt,tt,tt,tt,tt,tt,tt,tt,tt,tt,tt,tt,tt,tt,tt,tt,tt,tt,tt,tt,tt,tt,tt,tt,tt,tt,ff,ff,ff,ff,ff,ff,ff,ff,ff,ff,ff,ff,ff,ff,ff,ff,ff] rfl rfl (any_of HT_.out (by kernel_rfl)) (fun _ _ _ h => h) (Or.inl ⟨by rfl, ?_⟩) ?_ ?_
 ·(intro w'; cases b10 <;> go_simp; try rfl)
 rotate_left
 ·(simp only [Act.put,zA,zB,zC,i64_w,i32_w]; rfl)
 generalize hb11 : (b10 && r13) = b11
 have Hb11 := Aside0.mk hb11
 clear hb11
 refine pure_ (i := 82) (N := some 87) (v := .bool b11) (a' := ?_) #[tt,tt,tt,tt,tt,tt,tt,tt,tt,tt,tt,tt,tt,tt,tt,tt,tt,tt,tt,tt,tt,tt,tt,tt,tt,tt,tt,tt,tt,tt,tt,tt,tt,tt,tt,tt,tt,tt,tt,tt,tt,tt,tt,tt,tt,tt,tt,tt,tt,tt,tt,tt,tt,tt,tt,tt,tt,tt,tt,tt,tt,tt,tt,tt,tt,tt,tt,tt,tt,tt,tt,tt,tt,tt,tt,tt,tt,tt,tt,tt,tt,tt,tt,ff,ff,ff,ff,ff,ff,ff,ff,ff,ff,ff,ff,ff,ff,ff,ff] rfl rfl (any_of HT_.out (by kernel_rfl)) (fun _ _ _ h => h) (Or.inl ⟨by rfl, ?_⟩) ?_ ?_
 ·(intro w'; go_simp; try rfl)
 rotate_left
 ·(simp only [Act.put,zA,zB,zC,i64_w,i32_w]; rfl)
 refine pure_ (i := 83) (N := some 88) (v := if b11 = true then .pointer (some ⟨g2, 14, none⟩) else undef) (a' := ?_) #[tt,tt,tt,tt,tt,tt,tt,tt,tt,tt,tt,tt,tt,tt,tt,tt,tt,tt,tt,tt,tt,tt,tt,tt,tt,tt,tt,tt,tt,tt,tt,tt,tt,tt,tt,tt,tt,tt,tt,tt,tt,tt,tt,tt,tt,tt,tt,tt,tt,tt,tt,tt,tt,tt,tt,tt,tt,tt,tt,tt,tt,tt,tt,tt,tt,tt,tt,tt,tt,tt,tt,tt,tt,tt,tt,tt,tt,tt,tt,tt,tt,tt,tt,tt,ff,ff,ff,ff,ff,ff,ff,ff,ff,ff,ff,ff,ff,ff,ff] rfl rfl (any_of HT_.out (by kernel_rfl)) (fun _ _ _ h => h) ?_ ?_ ?_
 ·(cases b11; exact Or.inr ⟨by rfl, rfl⟩; refine Or.inl ⟨by rfl, ?_⟩; intro w'; go_simp; try rfl)
 rotate_left
 ·(simp only [Act.put,zA,zB,zC,i64_w,i32_w]; rfl)
 refine take_ (i := 84) (N := some 89) (v := if b11 = true then .slice Ax14 lx14.length nx14 else undef) (a' := ?_) #[tt,tt,tt,tt,tt,tt,tt,tt,tt,tt,tt,tt,tt,tt,tt,tt,tt,tt,tt,tt,tt,tt,tt,tt,tt,tt,tt,tt,tt,tt,tt,tt,tt,tt,tt,tt,tt,tt,tt,tt,tt,tt,tt,tt,tt,tt,tt,tt,tt,tt,tt,tt,tt,tt,tt,tt,tt,tt,tt,tt,tt,tt,tt,tt,tt,tt,tt,tt,tt,tt,tt,tt,tt,tt,tt,tt,tt,tt,tt,tt,tt,tt,tt,tt,tt,ff,ff,ff,ff,ff,ff,ff,ff,ff,ff,ff,ff,ff,ff] rfl rfl (take_ofW HT_.out HW_.out (by kernel_rfl)) (fun _ _ _ h => h) ?_ hHeld ?_ ?_
 ·(cases b11; exact Or.inr ⟨by rfl, rfl⟩; refine Or.inl ⟨by rfl, ?_⟩; intro w' s0; have xq := (blk_cell (blk_below K2.out s0) 14).trans rfl; go_simp; try rfl)
 rotate_left
 ·(simp only [Act.put,zA,zB,zC,i64_w,i32_w]; rfl)
 refine pure_ (i := 85) (N := some 90) (v := if b11 = true then .pointer (some ⟨g3, 14, none⟩) else undef) (a' := ?_) #[tt,tt,tt,tt,tt,tt,tt,tt,tt,tt,tt,tt,tt,tt,tt,tt,tt,tt,tt,tt,tt,tt,tt,tt,tt,tt,tt,tt,tt,tt,tt,tt,tt,tt,tt,tt,tt,tt,tt,tt,tt,tt,tt,tt,tt,tt,tt,tt,tt,tt,tt,tt,tt,tt,tt,tt,tt,tt,tt,tt,tt,tt,tt,tt,tt,tt,tt,tt,tt,tt,tt,tt,tt,tt,tt,tt,tt,tt,tt,tt,tt,tt,tt,tt,tt,tt,ff,ff,ff,ff,ff,ff,ff,ff,ff,ff,ff,ff,ff] rfl rfl (any_of HT_.out (by kernel_rfl)) (fun _ _ _ h => h) ?_ ?_ ?_
 ·(cases b11; exact Or.inr ⟨by rfl, rfl⟩; refine Or.inl ⟨by rfl, ?_⟩; intro w'; go_simp; try rfl)
 rotate_left
 ·(simp only [Act.put,zA,zB,zC,i64_w,i32_w]; rfl)
 refine take_ (i := 86) (N := some 91) (v := if b11 = true then .slice Ay14 ly14.length ny14 else undef) (a' := ?_) #[tt,tt,tt,tt,tt,tt,tt,tt,tt,tt,tt,tt,tt,tt,tt,tt,tt,tt,tt,tt,tt,tt,tt,tt,tt,tt,tt,tt,tt,tt,tt,tt,tt,tt,tt,tt,tt,tt,tt,tt,tt,tt,tt,tt,tt,tt,tt,tt,tt,tt,tt,tt,tt,tt,tt,tt,tt,tt,tt,tt,tt,tt,tt,tt,tt,tt,tt,tt,tt,tt,tt,tt,tt,tt,tt,tt,tt,tt,tt,tt,tt,tt,tt,tt,tt,tt,tt,ff,ff,ff,ff,ff,ff,ff,ff,ff,ff,ff,ff] rfl rfl (take_ofW HT_.out HW_.out (by kernel_rfl)) (fun _ _ _ h => h) ?_ hHeld ?_ ?_
 ·(cases b11; exact Or.inr ⟨by rfl, rfl⟩; refine Or.inl ⟨by rfl, ?_⟩; intro w' s0; have xq := (blk_cell (blk_below K3.out s0) 14).trans rfl; go_simp; try rfl)
 rotate_left
 ·(simp only [Act.put,zA,zB,zC,i64_w,i32_w]; rfl)
 refine one_ (i := 87) (N := some 92) #[tt,tt,tt,tt,tt,tt,tt,tt,tt,tt,tt,tt,tt,tt,tt,tt,tt,tt,tt,tt,tt,tt,tt,tt,tt,tt,tt,tt,tt,tt,tt,tt,tt,tt,tt,tt,tt,tt,tt,tt,tt,tt,tt,tt,tt,tt,tt,tt,tt,tt,tt,tt,tt,tt,tt,tt,tt,tt,tt,tt,tt,tt,tt,tt,tt,tt,tt,tt,tt,tt,tt,tt,tt,tt,tt,tt,tt,tt,tt,tt,tt,tt,tt,tt,tt,tt,tt,tt,ff,ff,ff,ff,ff,ff,ff,ff,ff,ff,ff] rfl rfl (one_of HT_.out (by kernel_rfl)) (by decide) (fun K hK => ?_)
 refine both_ (b := b11) (v := .bool r14) (S := fun w' => Below wd.heap.size wd w') (fun h => by subst h; rfl) (fun h K' hK' => ?_) hHeld ?_
 ·subst h
  refine goes_ Try.func71 (by kernel_rfl) rfl #[.slice Ax14 lx14.length nx14, .slice Ay14 ly14.length ny14] (by rfl) rfl rfl (by (try simp only [List.map_toArray, List.map_cons, List.map_nil]); first | done | rfl) ?_
  refine (api_Span_71.calls _ Ax14 nx14 lx14 Ay14 ny14 ly14 r14 _ (Kd.C_below Hx14.out hHeld) Mx14.out (Kd.C_below Hy14.out hHeld) My14.out F14.out).mono ?_
  rintro e w' ⟨rfl, hb⟩
  exact ⟨_, rfl, hK' _ (below_step hHeld (Drawn0.below hb))⟩
 intro wc12 hb_
 refine hK _ _ hb_ (fun hHeld => ?_)
 clear hK K
 refine norm_ (a' := ?_) ?_ ?_
 rotate_left
 ·(show Act.put _ (some 92) _ = _; simp only [Act.put,zA,zB,zC,i64_w,i32_w]; rfl)
 refine pure_ (i := 88) (N := some 93) (v := .bool (b11 && r14)) (a' := ?_) #[tt,tt,tt,tt,tt,tt,tt,tt,tt,tt,tt,tt,tt,tt,tt,tt,tt,tt,tt,tt,tt,tt,tt,tt,tt,tt,tt,tt,tt,tt,tt,tt,tt,tt,tt,tt,tt,tt,tt,tt,tt,tt,tt,tt,tt,tt,tt,tt,tt,tt,tt,tt,tt,tt,tt,tt,tt,tt,tt,tt,tt,tt,tt,tt,tt,tt,tt,tt,tt,tt,tt,tt,tt,tt,tt,tt,tt,tt,tt,tt,tt,tt,tt,tt,tt,tt,tt,tt,tt,ff,ff,ff,ff,ff,ff,ff,ff,ff,ff] rfl rfl (any_of HT_.out (by kernel_rfl)) (fun _ _ _ h => h) (Or.inl ⟨by rfl, ?_⟩) ?_ ?_
 ·(intro w'; cases b11 <;> go_simp; try rfl)
 rotate_left
 ·(simp only [Act.put,zA,zB,zC,i64_w,i32_w]; rfl)
 generalize hb12 : (b11 && r14) = b12
 have Hb12 := Aside0.mk hb12
 clear hb12
 refine pure_ (i := 89) (N := some 94) (v := .bool b12) (a' := ?_) #[tt,tt,tt,tt,tt,tt,tt,tt,tt,tt,tt,tt,tt,tt,tt,tt,tt,tt,tt,tt,tt,tt,tt,tt,tt,tt,tt,tt,tt,tt,tt,tt,tt,tt,tt,tt,tt,tt,tt,tt,tt,tt,tt,tt,tt,tt,tt,tt,tt,tt,tt,tt,tt,tt,tt,tt,tt,tt,tt,tt,tt,tt,tt,tt,tt,tt,tt,tt,tt,tt,tt,tt,tt,tt,tt,tt,tt,tt,tt,tt,tt,tt,tt,tt,tt,tt,tt,tt,tt,tt,ff,ff,ff,ff,ff,ff,ff,ff,ff] rfl rfl (any_of HT_.out (by kernel_rfl)) (fun _ _ _ h => h) (Or.inl ⟨by rfl, ?_⟩) ?_ ?_
 ·(intro w'; go_simp; try rfl)
 rotate_left
 ·(simp only [Act.put,zA,zB,zC,i64_w,i32_w]; rfl)
 refine pure_ (i := 90) (N := some 95) (v := if b12 = true then .pointer (some ⟨g2, 15, none⟩) else undef) (a' := ?_) #[tt,tt,tt,tt,tt,tt,tt,tt,tt,tt,tt,tt,tt,tt,tt,tt,tt,tt,tt,tt,tt,tt,tt,tt,tt,tt,tt,tt,tt,tt,tt,tt,tt,tt,tt,tt,tt,tt,tt,tt,tt,tt,tt,tt,tt,tt,tt,tt,tt,tt,tt,tt,tt,tt,tt,tt,tt,tt,tt,tt,tt,tt,tt,tt,tt,tt,tt,tt,tt,tt,tt,tt,tt,tt,tt,tt,tt,tt,tt,tt,tt,tt,tt,tt,tt,tt,tt,tt,tt,tt,tt,ff,ff,ff,ff,ff,ff,ff,ff] rfl rfl (any_of HT_.out (by kernel_rfl)) (fun _ _ _ h => h) ?_ ?_ ?_
 ·(cases b12; exact Or.inr ⟨by rfl, rfl⟩; refine Or.inl ⟨by rfl, ?_⟩; intro w'; go_simp; try rfl)
 rotate_left
 ·(simp only [Act.put,zA,zB,zC,i64_w,i32_w]; rfl)
 refine pure_ (i := 93) (N := some 98) (v := if b12 = true then .pointer (some ⟨g3, 15, none⟩) else undef) (a' := ?_) #[tt,tt,tt,tt,tt,tt,tt,tt,tt,tt,tt,tt,tt,tt,tt,tt,tt,tt,tt,tt,tt,tt,tt,tt,tt,tt,tt,tt,tt,tt,tt,tt,tt,tt,tt,tt,tt,tt,tt,tt,tt,tt,tt,tt,tt,tt,tt,tt,tt,tt,tt,tt,tt,tt,tt,tt,tt,tt,tt,tt,tt,tt,tt,tt,tt,tt,tt,tt,tt,tt,tt,tt,tt,tt,tt,tt,tt,tt,tt,tt,tt,tt,tt,tt,tt,tt,tt,tt,tt,tt,tt,ff,ff,tt,ff,ff,ff,ff,ff] rfl rfl (any_of HT_.out (by kernel_rfl)) (fun _ _ _ h => h) ?_ ?_ ?_
 ·(cases b12; exact Or.inr ⟨by rfl, rfl⟩; refine Or.inl ⟨by rfl, ?_⟩; intro w'; go_simp; try rfl)
 rotate_left
 ·(simp only [Act.put,zA,zB,zC,i64_w,i32_w]; rfl)
 refine take_ (i := 91) (N := some 96) (v := if b12 = true then .float .f64 a15 else undef) (a' := ?_) #[tt,tt,tt,tt,tt,tt,tt,tt,tt,tt,tt,tt,tt,tt,tt,tt,tt,tt,tt,tt,tt,tt,tt,tt,tt,tt,tt,tt,tt,tt,tt,tt,tt,tt,tt,tt,tt,tt,tt,tt,tt,tt,tt,tt,tt,tt,tt,tt,tt,tt,tt,tt,tt,tt,tt,tt,tt,tt,tt,tt,tt,tt,tt,tt,tt,tt,tt,tt,tt,tt,tt,tt,tt,tt,tt,tt,tt,tt,tt,tt,tt,tt,tt,tt,tt,tt,tt,tt,tt,tt,tt,tt,ff,tt,ff,ff,ff,ff,ff] rfl rfl (take_ofW HT_.out HW_.out (by kernel_rfl)) (fun _ _ _ h => h) ?_ hHeld ?_ ?_
 ·(cases b12; exact Or.inr ⟨by rfl, rfl⟩; refine Or.inl ⟨by rfl, ?_⟩; intro w' s0; have xq := (blk_cell (blk_below K2.out s0) 15).trans rfl; go_simp; try rfl)
 rotate_left
 ·(simp only [Act.put,zA,zB,zC,i64_w,i32_w]; rfl)
 refine take_ (i := 94) (N := some 99) (v := if b12 = true then .float .f64 c15 else undef) (a' := ?_) #[tt,tt,tt,tt,tt,tt,tt,tt,tt,tt,tt,tt,tt,tt,tt,tt,tt,tt,tt,tt,tt,tt,tt,tt,tt,tt,tt,tt,tt,tt,tt,tt,tt,tt,tt,tt,tt,tt,tt,tt,tt,tt,tt,tt,tt,tt,tt,tt,tt,tt,tt,tt,tt,tt,tt,tt,tt,tt,tt,tt,tt,tt,tt,tt,tt,tt,tt,tt,tt,tt,tt,tt,tt,tt,tt,tt,tt,tt,tt,tt,tt,tt,tt,tt,tt,tt,tt,tt,tt,tt,tt,tt,ff,tt,tt,ff,ff,ff,ff] rfl rfl (take_ofW HT_.out HW_.out (by kernel_rfl)) (fun _ _ _ h => h) ?_ hHeld ?_ ?_
 ·(cases b12; exact Or.inr ⟨by rfl, rfl⟩; refine Or.inl ⟨by rfl, ?_⟩; intro w' s0; have xq := (blk_cell (blk_below K3.out s0) 15).trans rfl; go_simp; try rfl)
 rotate_left
 ·(simp only [Act.put,zA,zB,zC,i64_w,i32_w]; rfl)
 refine one_ (i := 92) (N := some 97) #[tt,tt,tt,tt,tt,tt,tt,tt,tt,tt,tt,tt,tt,tt,tt,tt,tt,tt,tt,tt,tt,tt,tt,tt,tt,tt,tt,tt,tt,tt,tt,tt,tt,tt,tt,tt,tt,tt,tt,tt,tt,tt,tt,tt,tt,tt,tt,tt,tt,tt,tt,tt,tt,tt,tt,tt,tt,tt,tt,tt,tt,tt,tt,tt,tt,tt,tt,tt,tt,tt,tt,tt,tt,tt,tt,tt,tt,tt,tt,tt,tt,tt,tt,tt,tt,tt,tt,tt,tt,tt,tt,tt,tt,tt,tt,ff,ff,ff,ff] rfl rfl (one_of HT_.out (by kernel_rfl)) (by decide) (fun K hK => ?_)
 refine both_ (b := b12) (v := .int .u64 (a15 : Int)) (S := fun w' => Below wd.heap.size wd w') (fun h => by subst h; rfl) (fun h K' hK' => ?_) hHeld ?_
 ·subst h
  refine goesX_ (f := 47) (v := .int .u64 (a15 : Int)) #[.float .f64 a15] (by rfl) rfl rfl (by (try simp only [List.map_toArray, List.map_cons, List.map_nil]); first | done | rfl) (fbits rfl _) ?_
  exact hK' _ hHeld
 intro wc13a hb_
 refine hK _ _ hb_ (fun hHeld => ?_)
 clear hK K
 refine norm_ (a' := ?_) ?_ ?_
 rotate_left
 ·(show Act.put _ (some 97) _ = _; simp only [Act.put,zA,zB,zC,i64_w,i32_w]; rfl)
 refine one_ (i := 95) (N := some 100) #[tt,tt,tt,tt,tt,tt,tt,tt,tt,tt,tt,tt,tt,tt,tt,tt,tt,tt,tt,tt,tt,tt,tt,tt,tt,tt,tt,tt,tt,tt,tt,tt,tt,tt,tt,tt,tt,tt,tt,tt,tt,tt,tt,tt,tt,tt,tt,tt,tt,tt,tt,tt,tt,tt,tt,tt,tt,tt,tt,tt,tt,tt,tt,tt,tt,tt,tt,tt,tt,tt,tt,tt,tt,tt,tt,tt,tt,tt,tt,tt,tt,tt,tt,tt,tt,tt,tt,tt,tt,tt,tt,tt,tt,tt,tt,tt,ff,ff,ff] rfl rfl (one_of HT_.out (by kernel_rfl)) (by decide) (fun K hK => ?_)
 refine both_ (b := b12) (v := .int .u64 (c15 : Int)) (S := fun w' => Below wd.heap.size wd w') (fun h => by subst h; rfl) (fun h K' hK' => ?_) hHeld ?_
 ·subst h
  refine goesX_ (f := 47) (v := .int .u64 (c15 : Int)) #[.float .f64 c15] (by rfl) rfl rfl (by (try simp only [List.map_toArray, List.map_cons, List.map_nil]); first | done | rfl) (fbits rfl _) ?_
  exact hK' _ hHeld
 intro wc13b hb_
 refine hK _ _ hb_ (fun hHeld => ?_)
 clear hK K
 refine norm_ (a' := ?_) ?_ ?_
 rotate_left
 ·(show Act.put _ (some 100) _ = _; simp only [Act.put,zA,zB,zC,i64_w,i32_w]; rfl)
 refine pure_ (i := 96) (N := some 101) (v := if b12 = true then .bool ((a15 : Int) == (c15 : Int)) else undef) (a' := ?_) #[tt,tt,tt,tt,tt,tt,tt,tt,tt,tt,tt,tt,tt,tt,tt,tt,tt,tt,tt,tt,tt,tt,tt,tt,tt,tt,tt,tt,tt,tt,tt,tt,tt,tt,tt,tt,tt,tt,tt,tt,tt,tt,tt,tt,tt,tt,tt,tt,tt,tt,tt,tt,tt,tt,tt,tt,tt,tt,tt,tt,tt,tt,tt,tt,tt,tt,tt,tt,tt,tt,tt,tt,tt,tt,tt,tt,tt,tt,tt,tt,tt,tt,tt,tt,tt,tt,tt,tt,tt,tt,tt,tt,tt,tt,tt,tt,tt,ff,ff] rfl rfl (any_of HT_.out (by kernel_rfl)) (fun _ _ _ h => h) ?_ ?_ ?_
 ·(cases b12; exact Or.inr ⟨by rfl, rfl⟩; refine Or.inl ⟨by rfl, ?_⟩; intro w'; go_simp; try rfl)
 rotate_left
 ·(simp only [Act.put,zA,zB,zC,i64_w,i32_w]; rfl)
 refine pure_ (i := 97) (N := some 102) (v := .bool (b12 && ((a15 : Int) == (c15 : Int)))) (a' := ?_) #[tt,tt,tt,tt,tt,tt,tt,tt,tt,tt,tt,tt,tt,tt,tt,tt,tt,tt,tt,tt,tt,tt,tt,tt,tt,tt,tt,tt,tt,tt,tt,tt,tt,tt,tt,tt,tt,tt,tt,tt,tt,tt,tt,tt,tt,tt,tt,tt,tt,tt,tt,tt,tt,tt,tt,tt,tt,tt,tt,tt,tt,tt,tt,tt,tt,tt,tt,tt,tt,tt,tt,tt,tt,tt,tt,tt,tt,tt,tt,tt,tt,tt,tt,tt,tt,tt,tt,tt,tt,tt,tt,tt,tt,tt,tt,tt,tt,tt,ff] rfl rfl (any_of HT_.out (by kernel_rfl)) (fun _ _ _ h => h) (Or.inl ⟨by rfl, ?_⟩) ?_ ?_
 ·(intro w'; cases b12 <;> go_simp; try rfl)
 rotate_left
 ·(simp only [Act.put,zA,zB,zC,i64_w,i32_w]; rfl)
 generalize hb13 : (b12 && ((a15 : Int) == (c15 : Int))) = b13
 have Hb13 := Aside0.mk hb13
 clear hb13
 refine pure_ (i := 98) (N := some 4) (v := .bool b13) (a' := ?_) #[tt,tt,tt,tt,tt,tt,tt,tt,tt,tt,tt,tt,tt,tt,tt,tt,tt,tt,tt,tt,tt,tt,tt,tt,tt,tt,tt,tt,tt,tt,tt,tt,tt,tt,tt,tt,tt,tt,tt,tt,tt,tt,tt,tt,tt,tt,tt,tt,tt,tt,tt,tt,tt,tt,tt,tt,tt,tt,tt,tt,tt,tt,tt,tt,tt,tt,tt,tt,tt,tt,tt,tt,tt,tt,tt,tt,tt,tt,tt,tt,tt,tt,tt,tt,tt,tt,tt,tt,tt,tt,tt,tt,tt,tt,tt,tt,tt,tt,tt] rfl rfl (any_of HT_.out (by kernel_rfl)) (fun _ _ _ h => h) (Or.inl ⟨by rfl, ?_⟩) ?_ ?_
 ·(intro w'; go_simp; try rfl)
 rotate_left
 ·(simp only [Act.put,zA,zB,zC,i64_w,i32_w]; rfl)
 refine done_abs (done_of HT_.out (by kernel_rfl)) (.bool b13) (by kernel_rfl) (by kernel_rfl) ?_
 intro a' e4 ed
 have BE := Aside0.mk (below_step BD.out hHeld)
 have HF : Aside0 (b13 = ((((((((((((((a0 == c0) && (a1 == c1)) && (a2 == c2)) && (a3 == c3)) && (a4 == c4)) && r5) && (a6 == c6 && (a7 == c7))) && (a8 == c8)) && (a9 == c9)) && (a10 == c10 && (a11 == c11))) && (a12 == c12)) && r13) && r14) && ((a15 : Int) == (c15 : Int)))) := ⟨by rw [← Hb13.out, ← Hb12.out, ← Hb11.out, ← Hb10.out, ← Hb9.out, ← Hb8.out, ← Hb7.out, ← Hb6.out, ← Hb5.out, ← Hb4.out, ← Hb3.out, ← Hb2.out, ← Hb1.out, ← Hb0.out]⟩
 rw [HF.out] at e4
 refine ‹∀ (a : Act) (w : World), Code.wp Try.prog Code.ret _ a w → _› a' _ ?_
 apply wp_ret
 show bodyPost Try.prog Try.f21 _ .ret a' _
 exact bodyPost_ret ((results_tmp (t := 4) (by kernel_rfl) _ _ _).trans (by rw [e4])) ed ⟨rfl, BE.out⟩
end Go.Proofs.Ytondgoabnmgcaaa.B
end
