/- By hand: the walk of BallotAgrees. -/
import Derived.Test.YtnlppniejeemlaaAgree1
import Derived.Test.YtnlppniejeemlaaShown
namespace Go.Proofs.Ytnlppniejeemlaa.B
open Go Go.RowKit Go.Proofs.Ytnlppniejeemlaa.Pure Go.Proofs.Ytnlppniejeemlaa.Band Go.Proofs.YtnlppniejeemlaaW.PrintWords Go.Proofs.YtnlppniejeemlaaW.PrintLast Go.Proofs.YtnlppniejeemlaaW.PrintMore
set_option linter.unusedVariables false
set_option linter.unusedSimpArgs false

def kA : Kd Acc := Kd.iso (Kd.pair (Kd.int .u64) k29) (fun x : Acc => (x.top, x.last))
theorem kA_open {w : World} {x : Acc} {cs : List Value} (h : kA.K w x cs) : cs = [.int .u64 x.top, .int .u64 x.last.f0, .int .u64 x.last.f1.f0, .int .u64 x.last.f1.f1] := by
  obtain ⟨_, _, rfl, rfl, s1⟩ := h
  obtain rfl := k29_open s1
  exact rfl
theorem kA_mkM (w : World) (base : Nat) (ok : Nat → Prop) (x : Acc) : kA.M w base ok x [.int .u64 x.top, .int .u64 x.last.f0, .int .u64 x.last.f1.f0, .int .u64 x.last.f1.f1] := ⟨[.int .u64 x.top], [.int .u64 x.last.f0, .int .u64 x.last.f1.f0, .int .u64 x.last.f1.f1], rfl, rfl, k29_mkM w base ok x.last⟩
theorem add0 (g n : Nat) : (⟨g, 0, none⟩ : Addr).add n = ⟨g, n, none⟩ := by
  unfold Addr.add
  by_cases h : n = 0
  · subst h; simp
  · simp [h]
theorem ARow.of_R {w : World} {b n : Nat} {v : Value} (h : Kd.R kA 31 w b (fun _ => True) v (List.replicate n (⟨0, z29⟩ : Acc))) (hn : 0 < n) : ∃ g c, v = .slice (some ⟨g, 0, none⟩) n c ∧ b ≤ g ∧ ARow w g n (fun _ => ⟨0, z29⟩) := by
  obtain ⟨g, cap, rfl, hb, hg, cells, hc⟩ := Kd.R_form h (by rw [List.length_replicate]; exact hn)
  have hr := Kd.R_reads' h
  rw [List.length_replicate] at hr ⊢
  refine ⟨g, cap, rfl, hb, cells, hc, fun j hj => ?_⟩
  obtain ⟨ad, c, e, _, hK, hcell⟩ := Kd.C_get hr.2.2 (⟨0, z29⟩ : Acc) (j : Int) (by omega) (by omega)
  simp only [Option.some.injEq] at e
  subst e
  have ez : (List.replicate n (⟨0, z29⟩ : Acc)).getD (j : Int).toNat ⟨0, z29⟩ = ⟨0, z29⟩ := by
    rw [Int.toNat_natCast, List.getD_eq_getElem?_getD, List.getElem?_replicate]
    split <;> rfl
  rw [ez] at hK
  obtain rfl := kA_open hK
  have hx : ∀ i u, [Value.int .u64 (⟨0, z29⟩ : Acc).top, .int .u64 (⟨0, z29⟩ : Acc).last.f0, .int .u64 (⟨0, z29⟩ : Acc).last.f1.f0, .int .u64 (⟨0, z29⟩ : Acc).last.f1.f1][i]? = some u → cells[j * 4 + i]? = some u := fun i u hu => by
    have := hcell i u hu
    rw [add0, blk_cell hc, Int.toNat_natCast] at this
    exact this
  exact ⟨hx 0 _ rfl, hx 1 _ rfl, hx 2 _ rfl, hx 3 _ rfl⟩
structure S57 where
  node : Int
  fr : Int
  to_ : Int
  skip : Int
  want : Int
def z57 : S57 := ⟨0, 0, 0, 0, 0⟩
def k57 : Kd S57 := Kd.iso (Kd.pair (Kd.int .u8) (Kd.pair (Kd.int .u8) (Kd.pair (Kd.int .u8) (Kd.pair (Kd.int .u8) (Kd.int .u16))))) (fun x : S57 => (x.node, x.fr, x.to_, x.skip, x.want))
theorem k57_open {w : World} {x : S57} {cs : List Value} (h : k57.K w x cs) : cs = [.int .u8 x.node, .int .u8 x.fr, .int .u8 x.to_, .int .u8 x.skip, .int .u16 x.want] := by
  obtain ⟨_, _, rfl, rfl, ⟨_, _, rfl, rfl, ⟨_, _, rfl, rfl, ⟨_, _, rfl, rfl, rfl⟩⟩⟩⟩ := h
  exact rfl
theorem at_T57 {w : World} {A : Option Addr} {n : Nat} {xs : List S57} (h : Kd.C k57 w A n xs) (i : Nat) (h1 : i < n) (hx : i < xs.length) : ∃ ad, A = some ad ∧ w.cell? (ad.add (i * 5)) = some (.int .u8 (xs[i]).node) ∧ w.cell? ⟨(ad.add (i * 5)).block, (ad.add (i * 5)).off + 1, none⟩ = some (.int .u8 (xs[i]).fr) ∧ w.cell? ⟨(ad.add (i * 5)).block, (ad.add (i * 5)).off + 2, none⟩ = some (.int .u8 (xs[i]).to_) ∧ w.cell? ⟨(ad.add (i * 5)).block, (ad.add (i * 5)).off + 3, none⟩ = some (.int .u8 (xs[i]).skip) ∧ w.cell? ⟨(ad.add (i * 5)).block, (ad.add (i * 5)).off + 4, none⟩ = some (.int .u16 (xs[i]).want) := by
  obtain ⟨ad, c, e, _, hK, hc0⟩ := Kd.C_get h z57 (i : Int) (by omega) (by omega)
  have ez : xs.getD (i : Int).toNat z57 = xs[i] := by rw [Int.toNat_natCast, List.getD_eq_getElem?_getD, List.getElem?_eq_getElem hx]; rfl
  rw [ez] at hK
  rw [Int.toNat_natCast] at hc0
  have hc : ∀ j u, c[j]? = some u → w.cell? (ad.add (i * 5 + j)) = some u := hc0
  obtain rfl := k57_open hK
  exact ⟨ad, e, hc 0 _ rfl, by rw [← add_field _ _ 1 (by omega)]; exact hc 1 _ rfl, by rw [← add_field _ _ 2 (by omega)]; exact hc 2 _ rfl, by rw [← add_field _ _ 3 (by omega)]; exact hc 3 _ rfl, by rw [← add_field _ _ 4 (by omega)]; exact hc 4 _ rfl⟩
/-- block g holds the rounds -/
def RRow (w : World) (g : Nat) (rd : Nat → Int) : Prop := ∃ cells : Array Value, w.heap[g]? = some (.cells cells 53 (0, 0)) ∧ ∀ j, j < 64 → cells[j]? = some (.int .u64 (rd j))
theorem KB_below {w0 w1 w2 : World} {g : Nat} (h : KeepBut w0 w1 g none) (hb : Below w0.heap.size w1 w2) : KeepBut w0 w2 g none := ⟨Nat.le_trans h.1 hb.size, fun i hi hg hr => (hb.block i hi).trans (h.2 i hi hg hr)⟩
theorem eqA27 (d : Nat) (w : World) (x0 y0 : Int) (x1 y1 : Int) :
    (Op.equalIn (d + 2) 27 (.agg #[.int .u64 x0, .int .u64 x1]) (.agg #[.int .u64 y0, .int .u64 y1])).run Try.prog w = .ok (x0 == y0 && (x1 == y1)) w := by
  refine eqA_of Try.underlying27 (by kernel_rfl) ?_
  refine eqf_cons (by rfl) (by go_simp; rfl) (by go_simp; rfl) (by go_simp) ?_
  exact eqf_last (by rfl) (by go_simp; rfl) (by go_simp; rfl) (by go_simp)
attribute [local go_sem high] eqA27
theorem prep_ok_is (w0 w : World) (g n : Nat) (T : Nat → Acc) (j : Nat) (b : Int) (a : Acc) (ha : T j = a) (hj : j < n) (hb0 : b ≠ 0) (hle : a.top ≤ b) (hA : ARow w g n T) (hg : w0.heap.size ≤ g) (hB : Below w0.heap.size w0 w) :
    Calls Try.prog 12 #[.pointer (some ⟨g, j * 4, none⟩), .int .u64 b] w fun e w' => e = .returned (.tuple #[.agg #[.int .u64 a.last.f0, .int .u64 a.last.f1.f0, .int .u64 a.last.f1.f1], .int .i64 0]) ∧ ARow w' g n (setA T j ⟨b, a.last⟩) ∧ Below w0.heap.size w0 w' ∧ KeepBut w w' g none := by
  subst ha
  exact prep_ok w0 w g n T j b hj hb0 hle hA hg hB
theorem prep_no_is (w0 w : World) (g n : Nat) (T : Nat → Acc) (j : Nat) (b : Int) (a : Acc) (ha : T j = a) (hj : j < n) (hb0 : b ≠ 0) (hle : b < a.top) (hA : ARow w g n T) :
    Calls Try.prog 12 #[.pointer (some ⟨g, j * 4, none⟩), .int .u64 b] w fun e w' => e = .returned (.tuple #[.agg #[.int .u64 0, .int .u64 0, .int .u64 0], .int .i64 160]) ∧ Below w.heap.size w w' := by
  subst ha
  exact prep_no w0 w g n T j b hj hb0 hle hA
theorem ARow.far {w : World} {g n : Nat} {T : Nat → Acc} (h : ARow w g n T) {p : Addr} (hp : g ≠ p.block) (u : Value) : ARow (w.setCell p u) g n T := by
  obtain ⟨cells, h1, hc⟩ := h
  exact ⟨cells, blk_far h1 hp u, hc⟩
theorem ARow.low {w W : World} {g n N : Nat} {T : Nat → Acc} (h : ARow w g n T) (hb : Below N w W) (hg : g < N) : ARow W g n T := by
  obtain ⟨cells, h1, hc⟩ := h
  exact ⟨cells, (hb.block g hg).trans h1, hc⟩
theorem acc_ok_is (w0 w : World) (g n : Nat) (T : Nat → Acc) (j : Nat) (b : Int) (v : S27) (a : Acc) (ha : T j = a) (hj : j < n) (hb0 : b ≠ 0) (hle : a.top ≤ b) (hA : ARow w g n T) (hg : w0.heap.size ≤ g) (hB : Below w0.heap.size w0 w) :
    Calls Try.prog 11 #[.pointer (some ⟨g, j * 4, none⟩), .int .u64 b, .agg #[.int .u64 v.f0, .int .u64 v.f1]] w fun e w' => e = .returned (.int .i64 0) ∧ ARow w' g n (setA T j ⟨b, ⟨b, v⟩⟩) ∧ Below w0.heap.size w0 w' ∧ KeepBut w w' g none := by
  subst ha
  exact acc_ok w0 w g n T j b hj hb0 v hle hA hg hB
theorem acc_no_is (w0 w : World) (g n : Nat) (T : Nat → Acc) (j : Nat) (b : Int) (v : S27) (a : Acc) (ha : T j = a) (hj : j < n) (hb0 : b ≠ 0) (hle : b < a.top) (hA : ARow w g n T) :
    Calls Try.prog 11 #[.pointer (some ⟨g, j * 4, none⟩), .int .u64 b, .agg #[.int .u64 v.f0, .int .u64 v.f1]] w fun e w' => e = .returned (.int .i64 160) ∧ Below w.heap.size w w' := by
  subst ha
  exact acc_no w0 w g n T j b hj hb0 v hle hA
theorem R_setlow {α : Type} {d : Kd α} {e base g : Nat} {w : World} {v : Value} {xs : List α} (h : d.R e w base (fun _ => True) v xs) (hg : g < base) (j : Nat) (u : Value) : d.R e (w.setCell ⟨g, j, none⟩ u) base (fun _ => True) v xs :=
  Kd.R_mono (Kd.R_far (p := ⟨g, j, none⟩) (Kd.R_mono (ok' := fun k => base ≤ k) (Kd.R_bound h) (fun k hk => hk.2.1)) (fun k (hk : base ≤ k) => by show k ≠ g; omega) u) (fun _ _ => trivial)
theorem R_keeplow {α : Type} {d : Kd α} {e base g : Nat} {w w1 : World} {v : Value} {xs : List α} (h : d.R e w base (fun _ => True) v xs) (hk : KeepBut w w1 g none) (hg : g < base) : d.R e w1 base (fun _ => True) v xs :=
  Kd.R_mono (Kd.R_keep (Kd.R_mono (ok' := fun k => base ≤ k) (Kd.R_bound h) (fun k hk => hk.2.1)) hk (fun k (hk : base ≤ k) => by omega)) (fun _ _ => trivial)
theorem prepT_at (T : Nat → Acc) (F : Nat → Bool) (b : Int) (m : Nat) : prepT T F b m m = T m := by unfold prepT; rw [if_neg (fun h => Nat.lt_irrefl m h.1)]
theorem prepT_ok (T : Nat → Acc) (F : Nat → Bool) (b : Int) (m : Nat) (h : ok1 T F b m = true) (i : Nat) : setA (prepT T F b m) m ⟨b, (T m).last⟩ i = prepT T F b (m + 1) i := by
  unfold setA prepT
  by_cases e : i = m
  · subst e; rw [if_pos rfl, if_pos ⟨Nat.lt_succ_self _, h⟩]
  · rw [if_neg e]
    by_cases hi : i < m ∧ ok1 T F b i = true
    · rw [if_pos hi, if_pos ⟨by omega, hi.2⟩]
    · rw [if_neg hi, if_neg (fun hc => hi ⟨by omega, hc.2⟩)]
theorem prepT_no (T : Nat → Acc) (F : Nat → Bool) (b : Int) (m : Nat) (h : ok1 T F b m = false) (i : Nat) : prepT T F b m i = prepT T F b (m + 1) i := by
  unfold prepT
  by_cases hi : i < m ∧ ok1 T F b i = true
  · rw [if_pos hi, if_pos ⟨by omega, hi.2⟩]
  · rw [if_neg hi, if_neg (fun hc => ?_)]
    by_cases e : i = m
    · subst e; rw [h] at hc; exact absurd hc.2 (by decide)
    · exact hi ⟨by omega, hc.2⟩
theorem accT_at (T : Nat → Acc) (F : Nat → Bool) (b : Int) (v : S27) (m : Nat) : accT T F b v m m = T m := by unfold accT; rw [if_neg (fun h => Nat.lt_irrefl m h.1)]
theorem accT_ok (T : Nat → Acc) (F : Nat → Bool) (b : Int) (v : S27) (m : Nat) (h : ok1 T F b m = true) (i : Nat) : setA (accT T F b v m) m ⟨b, ⟨b, v⟩⟩ i = accT T F b v (m + 1) i := by
  unfold setA accT
  by_cases e : i = m
  · subst e; rw [if_pos rfl, if_pos ⟨Nat.lt_succ_self _, h⟩]
  · rw [if_neg e]
    by_cases hi : i < m ∧ ok1 T F b i = true
    · rw [if_pos hi, if_pos ⟨by omega, hi.2⟩]
    · rw [if_neg hi, if_neg (fun hc => hi ⟨by omega, hc.2⟩)]
theorem accT_no (T : Nat → Acc) (F : Nat → Bool) (b : Int) (v : S27) (m : Nat) (h : ok1 T F b m = false) (i : Nat) : accT T F b v m i = accT T F b v (m + 1) i := by
  unfold accT
  by_cases hi : i < m ∧ ok1 T F b i = true
  · rw [if_pos hi, if_pos ⟨by omega, hi.2⟩]
  · rw [if_neg hi, if_neg (fun hc => ?_)]
    by_cases e : i = m
    · subst e; rw [h] at hc; exact absurd hc.2 (by decide)
    · exact hi ⟨by omega, hc.2⟩
theorem prepL_len (T : Nat → Acc) (F : Nat → Bool) (b : Int) : ∀ m, (prepL T F b m).length ≤ m
  | 0 => Nat.le_refl _
  | m + 1 => by
    have := prepL_len T F b m
    unfold prepL
    split
    · rw [List.length_append, List.length_singleton]; omega
    · omega
theorem tmod_at {s : Int} (h : 0 ≤ s ∧ s ≤ 255) {n : Nat} (hn : 0 < n) : ∃ x : Nat, Int.tmod (wrap64 s) (n : Int) = x ∧ x < n := by
  rw [show wrap64 s = s by unfold wrap64; omega, Int.tmod_eq_emod_of_nonneg h.1]
  have h1 := Int.emod_nonneg s (show (n : Int) ≠ 0 by omega)
  have h2 := Int.emod_lt_of_pos s (show (0 : Int) < n by omega)
  exact ⟨(s % n).toNat, by omega, by omega⟩
theorem row27_at {w : World} {b g n c : Nat} {ok : Nat → Prop} {xs : List S27} (h : Kd.R k27 27 w b ok (.slice (some ⟨g, 0, none⟩) n c) xs) (j : Nat) (p : S27) (hp : xs[j]? = some p) : w.cell? ⟨g, j * 2, none⟩ = some (.int .u64 p.f0) ∧ w.cell? ⟨g, j * 2 + 1, none⟩ = some (.int .u64 p.f1) := by
  have hjl : j < xs.length := (List.getElem?_eq_some_iff.1 hp).1
  have hn := (Kd.R_reads' h).1
  obtain ⟨ad, e2, h0, h1⟩ := at_T27 (Kd.R_reads' h).2.2 (j : Int) (by omega) (by omega)
  simp only [Option.some.injEq] at e2
  subst e2
  have ep : rd_T27 xs (j : Int) = p := by
    unfold rd_T27
    rw [Int.toNat_natCast, List.getD_eq_getElem?_getD, hp]; rfl
  rw [ep] at h0 h1
  simp only [Int.toNat_natCast, add0] at h0 h1
  exact ⟨h0, h1⟩
theorem zero64 (j : Nat) (hj : j < 64) : ((List.replicate 64 (Value.int .u64 0)).toArray)[j]? = some (.int .u64 0) := by rw [List.getElem?_toArray, List.getElem?_replicate, if_pos hj]
theorem RRow.at_ {w : World} {g : Nat} {rd : Nat → Int} (h : RRow w g rd) (k : Nat) (hk : k < 64) : w.cell? ⟨g, k, none⟩ = some (.int .u64 (rd k)) := by
  obtain ⟨cells, hb, hc⟩ := h
  exact (blk_cell hb _).trans (hc k hk)
theorem RRow.free {w : World} {g : Nat} {rd : Nat → Int} (h : RRow w g rd) (i : Nat) : w.frozen? ⟨g, i, none⟩ = false := by
  obtain ⟨cells, hb, hc⟩ := h
  exact blk_frozen hb i
theorem RRow.add {w : World} {g : Nat} {rd : Nat → Int} (h : RRow w g rd) (k : Nat) (hk : k < 64) (s : Int) : RRow (w.setCell ⟨g, k, none⟩ (.int .u64 (rd k + s))) g (upd rd k s) := by
  obtain ⟨cells, hb, hc⟩ := h
  refine ⟨_, blk_put hb _ _ rfl, fun j hj => ?_⟩
  have hs : k < cells.size := (Array.getElem?_eq_some_iff.1 (hc k hk)).1
  rw [Array.getElem?_setIfInBounds]
  unfold upd
  by_cases e : k = j
  · subst e; rw [if_pos rfl, if_pos hs, if_pos rfl]
  · rw [if_neg e, if_neg (Ne.symm e)]; exact hc j hj
theorem RRow.low {w W : World} {g N : Nat} {rd : Nat → Int} (h : RRow w g rd) (hb : Below N w W) (hg : g < N) : RRow W g rd := by
  obtain ⟨cells, h1, hc⟩ := h
  exact ⟨cells, (hb.block g hg).trans h1, hc⟩
theorem RRow.keep {w W : World} {g g' : Nat} {rd : Nat → Int} (h : RRow w g rd) (hk : KeepBut w W g' none) (hne : g ≠ g') : RRow W g rd := by
  obtain ⟨cells, h1, hc⟩ := h
  exact ⟨cells, (hk.2 g (blk_lt h1) hne (by simp)).trans h1, hc⟩
theorem RRow.below {w W : World} {g : Nat} {rd : Nat → Int} (h : RRow w g rd) (hb : Below w.heap.size w W) : RRow W g rd := by
  obtain ⟨cells, h1, hc⟩ := h
  exact ⟨cells, blk_below h1 hb, hc⟩
set_option maxRecDepth 100000 in
set_option maxHeartbeats 8000000 in
theorem agrees_walk (w : World) (A : Option Addr) (c : Nat) (l : List S57) (a0 : Int) (m : Nat) (hk : Int.tmod (wrap64 a0) 7 = m) (hm : m < 7) (hl : ∀ t ∈ l, (0 ≤ t.node ∧ t.node ≤ 255) ∧ (0 ≤ t.fr ∧ t.fr ≤ 255) ∧ (0 ≤ t.to_ ∧ t.to_ ≤ 255) ∧ (0 ≤ t.skip ∧ t.skip ≤ 255) ∧ (0 ≤ t.want ∧ t.want ≤ 65535)) (hr : Kd.C k57 w A l.length l) :
    Calls Try.prog 6 #[.int .u8 a0, .slice A l.length c] w fun e w' => e = .returned (.bool true) ∧ Below w.heap.size w w' := by
  have HL := Aside0.mk hr
  have HU := Aside0.mk hl
  have hllen : (l.length : Int) ≤ 9223372036854775807 := by have := hr.2.1; omega
  clear hr hl
  by_cases hc : 100 < l.length
  · have h1 : decide ((100 : Int) < (l.length : Int)) = true := decide_eq_true (by omega)
    have h2 : decide (100 < l.length) = true := decide_eq_true hc
    clear hc
    go_enter Try.func6, Try.ntmps6
    go_wp2_with (go_at_call 8; refine (conventiclelaw16_shown.calls true _ rfl).mono ?_; rintro e w1 ⟨rfl, hb⟩; have HB1 := Aside0.mk hb; clear hb)
    go_ret
    exact ⟨rfl, HB1.out⟩
  · have h1 : decide ((100 : Int) < (l.length : Int)) = false := decide_eq_false (by omega)
    have h2 : decide (100 < l.length) = false := decide_eq_false hc
    have hlen : l.length ≤ 100 := by omega
    obtain ⟨n, hn⟩ : ∃ n, m + 1 = n := ⟨_, rfl⟩
    have hnn : (1 : Int) + (m : Int) = (n : Int) := by omega
    have hn1 : 0 < n := by omega
    have hn7 : n ≤ 7 := by omega
    have pn : ((0 : Int) ≤ (n : Int)) = True := eq_true (by omega)
    have hwn : wrap64 (n : Int) = (n : Int) := by unfold wrap64; omega
    have hall : IntKind.u64.wrap (IntKind.u64.wrap (2 ^ n) - 1) = ((2 ^ n - 1 : Nat) : Int) := by
      have h2 : 2 ^ n < 18446744073709551616 := two_pow_lt n (by omega)
      have hp : 0 < 2 ^ n := Nat.two_pow_pos n
      have e : ((2 : Int) ^ n) = ((2 ^ n : Nat) : Int) := by rw [Int.natCast_pow]; rfl
      rw [e, u64_cast _ h2, show ((2 ^ n : Nat) : Int) - 1 = ((2 ^ n - 1 : Nat) : Int) by omega, u64_cast _ (by omega)]
    clear hc
    go_enter Try.func6, Try.ntmps6
    go_wp2_with (first
      | (go_at_call 8; refine (conventiclelaw16_shown.calls true _ rfl).mono ?_; rintro e w1 ⟨rfl, hb⟩; have HB1 := Aside0.mk hb; clear hb)
      | ((with_reducible refine gate_dst (N := 41) rfl ?_); refine Kd.R_make kA _ 31 rfl rfl 52 (.tmp 40) (.tmp 40) rfl (n : Int) rfl rfl Try.underlying52 (.agg #[.int .u64 0, .int .u64 0, .int .u64 0, .int .u64 0]) 32 (by kernel_rfl) rfl (by decide) (by decide) (⟨0, z29⟩ : Acc) (ok := fun _ => True) (okp := fun _ => False) (kA_mkM _ _ _ ⟨0, z29⟩) (fun _ h => h.elim) trivial (by omega) (by simp only [Int.toNat_natCast]; omega) (Below.refl _ _) (Nat.le_refl _) ?_; intro v7 w2 ho_ hb_ hg_ hn_; simp only [Int.toNat_natCast] at ho_; obtain ⟨ga, ca, rfl, hga, HA2'⟩ := ARow.of_R ho_ hn1; have HGa : Aside0 (w.heap.size ≤ ga) := ⟨Nat.le_trans HB1.out.size hga⟩; have HA2 := Aside0.mk HA2'; have HB2 := Aside0.mk (below_step HB1.out hb_); clear ho_ hb_ hg_ hn_ HA2' hga)
      | ((with_reducible refine gate_dst (N := 8) rfl ?_); refine box_event ?hg (N := 8) ?hd (cs := (List.replicate 64 (Value.int .u64 0)).toArray) (t := 53) ?hr ?_; (case hd => rfl); (case hg => rfl); (case hr => first | (go_simp; done) | (go_simp; rfl)); intro g8 hg_ w3 hb_ hB_; have K3 := Aside0.mk hb_; have HA3 := Aside0.mk (HA2.out.below hB_); have HB3' := Aside0.mk hB_; have HB3 := Aside0.mk (below_step HB2.out hB_); have HG8 : Aside0 (g8 = w2.heap.size) := ⟨hg_⟩; clear hg_ hb_ hB_)
      | (refine wpList_store_row rfl 53 (.tmp 8) (.tmp 42) rfl g8 (List.replicate 64 (Value.int .u64 0)).toArray rfl rfl 53 (List.replicate 64 (Value.int .u64 0)).toArray K3.out (by kernel_rfl) rfl (by kernel_rfl) ?_; have hK := Aside0.mk (setRow_heap w3 g8 _ (List.replicate 64 (Value.int .u64 0)).toArray 53 (0, 0) K3.out); have HB4 := Aside0.mk (below_setRow HB3.out (show w.heap.size ≤ g8 from (by rw [HG8.out]; exact HB2.out.size)) (List.replicate 64 (Value.int .u64 0)).toArray); have HA4 := Aside0.mk (HA2.out.below (below_setRow HB3'.out (show w2.heap.size ≤ g8 from (by rw [HG8.out]; exact Nat.le_refl _)) (List.replicate 64 (Value.int .u64 0)).toArray)); generalize w3.setRow g8 (List.replicate 64 (Value.int .u64 0)).toArray = w4 at hK HB4 HA4 ⊢)
      | ((with_reducible refine gate_dst (N := 43) rfl ?_); refine Kd.R_lit k27 _ 27 ?hg (N := 43) ?hd (xs := ([] : List S27)) (inner := []) (ok := fun _ => True) (okp := fun _ => True) ?hr ?hp (fun _ hk => hk) trivial (Below.refl _ _) (Nat.le_refl _) (by simp) ?_; (case hd => rfl); (case hg => rfl); (case hr => first | (go_simp; done) | (go_simp; rfl)); (case hp => exact (Reps.none _ _)); intro v9 w5 ho_ hb_ hg_ hnew_; have HO5 := Aside0.mk ho_; have HB5 := Aside0.mk hb_; clear ho_ hb_ hg_ hnew_))
    have HA5 := Aside0.mk (HA4.out.below HB5.out)
    have HR5 : Aside0 (RRow w5 g8 (fun _ => 0)) := ⟨⟨_, blk_below hK.out HB5.out, fun j hj => zero64 j hj⟩⟩
    have HB6 := Aside0.mk (below_step HB4.out HB5.out)
    have GA4 := Aside0.mk HA4.out.lt
    have G84 := Aside0.mk (blk_lt hK.out)
    have NG := Aside0.mk (show ga ≠ g8 from by have := HA2.out.lt; have := HG8.out; omega)
    have HG8w : Aside0 (w.heap.size ≤ g8) := ⟨by rw [HG8.out]; exact HB2.out.size⟩
    have HS4 := Aside0.mk HB4.out.size
    have HS45 := Aside0.mk HB5.out.size
    clear HA2 HA3 HA4 HB1 HB2 HB3 HB4 HB3' HB5 hK K3 HG8
    go_loopw [9, 10] (fun v i wr => ∃ (j : Nat) (T : Nat → Acc) (rd : Nat → Int) (ch : List S27) (B : Int), i = .int .i64 j ∧ Aside0 (j ≤ l.length) ∧ Aside0 (AInv n T rd ch B) ∧ Aside0 (∀ k, 0 ≤ rd k ∧ rd k ≤ 4 * j) ∧ Aside0 (ch.length ≤ j) ∧ Aside0 (ARow wr ga n T) ∧ Aside0 (RRow wr g8 rd) ∧ Aside0 (Kd.R k27 27 wr w4.heap.size (fun _ => True) v ch) ∧ Aside0 (Below w.heap.size w wr) ∧ Aside0 (w4.heap.size ≤ wr.heap.size))
      (fun _ i _ => l.length - (intOf i).toNat)
    case atStart => exact ⟨0, fun _ => ⟨0, z29⟩, fun _ => 0, [], 0, rfl, ⟨Nat.zero_le _⟩, ⟨AInv.start n⟩, ⟨fun _ => ⟨Int.le_refl _, Int.le_refl _⟩⟩, ⟨Nat.le_refl _⟩, HA5, HR5, HO5, HB6, HS45⟩
    case round =>
      obtain ⟨j, T, rd, ch, B, rfl, hj, HI, HRB, HCL, HA, HR, HO, HB, HSZ⟩ := hrel
      by_cases hlt : j < l.length
      · obtain ⟨ad, e, hx0, hx1, hx2, hx3, hx4⟩ := at_T57 HL.out j hlt hlt
        obtain rfl := e
        have hup := HU.out l[j] (List.getElem_mem hlt)
        obtain ⟨t, ht⟩ : ∃ t, t = l[j] := ⟨_, rfl⟩
        rw [← ht] at hx0 hx1 hx2 hx3 hx4 hup
        clear ht
        have HUP := Aside0.mk hup
        clear hup
        replace hx0 := (HB.out.cell (World.block_lt_of_cell? w _ hx0)).trans hx0
        replace hx1 := (HB.out.cell (World.block_lt_of_cell? w _ hx1)).trans hx1
        replace hx2 := (HB.out.cell (World.block_lt_of_cell? w _ hx2)).trans hx2
        replace hx3 := (HB.out.cell (World.block_lt_of_cell? w _ hx3)).trans hx3
        replace hx4 := (HB.out.cell (World.block_lt_of_cell? w _ hx4)).trans hx4
        obtain ⟨k, hk0, hkn⟩ : ∃ k : Nat, Int.tmod (wrap64 t.node) (n : Int) = k ∧ k < n := tmod_at HUP.out.1 hn1
        have hnz : ((n : Int) = 0) = False := eq_false (by omega)
        have HLE : Aside0 (j ≤ 100) := ⟨by omega⟩
        have HS5 : Aside0 (w4.heap.size ≤ wr.heap.size) := ⟨HSZ.out⟩
        go_upto_region 12 with ((with_reducible refine gate_dst (N := 11) rfl ?_); refine box_event ?hg (N := 11) ?hd (cs := #[.int .u8 0, .int .u8 0, .int .u8 0, .int .u8 0, .int .u16 0]) (t := 57) ?hr ?_; (case hd => rfl); (case hg => rfl); (case hr => first | (go_simp; done) | (go_simp; rfl)); intro g11 hg_ wc hb_ hB_; have K11 := Aside0.mk hb_; have L11 := Aside0.mk (show w.heap.size ≤ g11 from (by rw [hg_]; exact HB.out.size)); have N11 := Aside0.mk (show g11 = wr.heap.size from hg_); have HBc := Aside0.mk (below_step HB.out hB_); have HBw := Aside0.mk hB_; have z0 := (blk_cell hb_ 0).trans rfl; have z1 := (blk_cell hb_ 1).trans rfl; have z2 := (blk_cell hb_ 2).trans rfl; have z3 := (blk_cell hb_ 3).trans rfl; have z4 := (blk_cell hb_ 4).trans rfl; have zf := fun j => blk_frozen hb_ j; have hx0 := (hB_.cell (World.block_lt_of_cell? _ _ hx0)).trans hx0; have hx1 := (hB_.cell (World.block_lt_of_cell? _ _ hx1)).trans hx1; have hx2 := (hB_.cell (World.block_lt_of_cell? _ _ hx2)).trans hx2; have hx3 := (hB_.cell (World.block_lt_of_cell? _ _ hx3)).trans hx3; have hx4 := (hB_.cell (World.block_lt_of_cell? _ _ hx4)).trans hx4; clear hg_ hb_ hB_)
        have J11 : Aside0 ((((((wc.setCell ⟨g11, 0, none⟩ (.int .u8 t.node)).setCell ⟨g11, 1, none⟩ (.int .u8 t.fr)).setCell ⟨g11, 2, none⟩ (.int .u8 t.to_)).setCell ⟨g11, 3, none⟩ (.int .u8 t.skip)).setCell ⟨g11, 4, none⟩ (.int .u16 t.want)).heap[g11]? = some (.cells #[.int .u8 t.node, .int .u8 t.fr, .int .u8 t.to_, .int .u8 t.skip, .int .u16 t.want] 57 (0, 0))) := ⟨blk_put (cs := #[.int .u8 t.node, .int .u8 t.fr, .int .u8 t.to_, .int .u8 t.skip, .int .u16 0]) (blk_put (cs := #[.int .u8 t.node, .int .u8 t.fr, .int .u8 t.to_, .int .u8 0, .int .u16 0]) (blk_put (cs := #[.int .u8 t.node, .int .u8 t.fr, .int .u8 0, .int .u8 0, .int .u16 0]) (blk_put (cs := #[.int .u8 t.node, .int .u8 0, .int .u8 0, .int .u8 0, .int .u16 0]) (blk_put (cs := #[.int .u8 0, .int .u8 0, .int .u8 0, .int .u8 0, .int .u16 0]) (K11.out) 0 _ rfl) 1 _ rfl) 2 _ rfl) 3 _ rfl) 4 _ rfl⟩
        have HBd : Aside0 (Below w.heap.size w (((((wc.setCell ⟨g11, 0, none⟩ (.int .u8 t.node)).setCell ⟨g11, 1, none⟩ (.int .u8 t.fr)).setCell ⟨g11, 2, none⟩ (.int .u8 t.to_)).setCell ⟨g11, 3, none⟩ (.int .u8 t.skip)).setCell ⟨g11, 4, none⟩ (.int .u16 t.want))) := ⟨below_set (below_set (below_set (below_set (below_set (HBc.out) L11.out) L11.out) L11.out) L11.out) L11.out⟩
        have HWd : Aside0 (Below wr.heap.size wr (((((wc.setCell ⟨g11, 0, none⟩ (.int .u8 t.node)).setCell ⟨g11, 1, none⟩ (.int .u8 t.fr)).setCell ⟨g11, 2, none⟩ (.int .u8 t.to_)).setCell ⟨g11, 3, none⟩ (.int .u8 t.skip)).setCell ⟨g11, 4, none⟩ (.int .u16 t.want))) := ⟨below_set (below_set (below_set (below_set (below_set (HBw.out) (by rw [N11.out]; exact Nat.le_refl _)) (by rw [N11.out]; exact Nat.le_refl _)) (by rw [N11.out]; exact Nat.le_refl _)) (by rw [N11.out]; exact Nat.le_refl _)) (by rw [N11.out]; exact Nat.le_refl _)⟩
        clear z0 z1 z2 z3 z4 zf hx0 hx1 hx2 hx3 hx4 K11 HBc HBw
        generalize (((((wc.setCell ⟨g11, 0, none⟩ (.int .u8 t.node)).setCell ⟨g11, 1, none⟩ (.int .u8 t.fr)).setCell ⟨g11, 2, none⟩ (.int .u8 t.to_)).setCell ⟨g11, 3, none⟩ (.int .u8 t.skip)).setCell ⟨g11, 4, none⟩ (.int .u16 t.want)) = wd at J11 HBd HWd ⊢
        have t0 := (blk_cell J11.out 0).trans rfl
        obtain ⟨s, hs⟩ : ∃ s : Int, s = 1 + t.skip % 4 := ⟨_, rfl⟩
        have hs1 : 1 ≤ s ∧ s ≤ 4 := by omega
        have HV : Aside0 (IntKind.u64.wrap (rd k + IntKind.u64.wrap (1 + (IntKind.u64.wrap t.skip).tmod 4)) = rd k + s) := ⟨by
          have h1 := HUP.out.2.2.2.1
          have h2 := HRB.out k
          have h3 := HLE.out
          rw [IntKind.wrap_u64 t.skip, show t.skip % 18446744073709551616 = t.skip by omega, Int.tmod_eq_emod_of_nonneg h1.1, IntKind.wrap_u64, IntKind.wrap_u64]
          omega⟩
        have N118 : Aside0 (g11 ≠ g8) := ⟨by rw [N11.out]; have := G84.out; have := HS5.out; omega⟩
        have N11a : Aside0 (g11 ≠ ga) := ⟨by rw [N11.out]; exact Nat.ne_of_gt HA.out.lt⟩
        have pk0 : ((0 : Int) ≤ (k : Int)) = True := eq_true (by omega)
        have pk1 : ((k : Int) < 64) = True := eq_true (by omega)
        go_upto_region 13 with (fail)
        have HRx : Aside0 (RRow wd.drew g8 rd) := ⟨(HR.out.below HWd.out).below (below_drew1 (Below.refl wd.heap.size wd))⟩
        have HAx : Aside0 (ARow wd.drew ga n T) := ⟨(HA.out.below HWd.out).below (below_drew1 (Below.refl wd.heap.size wd))⟩
        have Jx : Aside0 (wd.drew.heap[g11]? = some (.cells #[.int .u8 t.node, .int .u8 t.fr, .int .u8 t.to_, .int .u8 t.skip, .int .u16 t.want] 57 (0, 0))) := ⟨blk_drew J11.out⟩
        have HBx := Aside0.mk (below_drew1 HBd.out)
        have HWx := Aside0.mk (below_drew1 HWd.out)
        clear t0
        refine start_ (n := 11) (S := fun w' => w'.cell? ⟨g8, k, none⟩ = some (.int .u64 (rd k)) ∧ w'.cell? ⟨g11, 3, none⟩ = some (.int .u8 t.skip)) (ds := [10]) #[false, false, false, false, false, false, false, false, false, false, false] (by kernel_rfl) rfl rfl ⟨HRx.out.at_ k (by omega), (blk_cell Jx.out 3).trans rfl⟩ (fun hHeld => ?_)
        generalize wd.drew = wx at HRx HAx Jx HBx HWx hHeld ⊢
        refine pure_ (i := 0) (N := some 59) (v := ?_) (a' := ?_) #[true, false, false, false, false, false, false, false, false, false, false] rfl rfl (by kernel_rfl) (fun _ _ _ h => h) (Or.inl ⟨by rfl, ?_⟩) ?_ ?_
        rotate_left
        · intro w'
          go_simp
          first | done | with_reducible rfl | rfl | (simp [Instr.field, go_sem]; rfl)
        rotate_left
        · simp only [Act.put, List.setIfInBounds_toArray, List.set_cons_zero, List.set_cons_succ, i64_w, i32_w]
          rfl
        refine pure_ (i := 1) (N := some 60) (v := ?_) (a' := ?_) #[true, true, false, false, false, false, false, false, false, false, false] rfl rfl (by kernel_rfl) (fun _ _ _ h => h) (Or.inl ⟨by rfl, ?_⟩) ?_ ?_
        rotate_left
        · intro w'
          go_simp
          first | done | with_reducible rfl | rfl | (simp [Instr.field, go_sem]; rfl)
        rotate_left
        · simp only [Act.put, List.setIfInBounds_toArray, List.set_cons_zero, List.set_cons_succ, i64_w, i32_w]
          rfl
        refine pure_ (i := 3) (N := some 62) (v := ?_) (a' := ?_) #[true, true, false, true, false, false, false, false, false, false, false] rfl rfl (by kernel_rfl) (fun _ _ _ h => h) (Or.inl ⟨by rfl, ?_⟩) ?_ ?_
        rotate_left
        · intro w'
          go_simp
          first | done | with_reducible rfl | rfl | (simp [Instr.field, go_sem]; rfl)
        rotate_left
        · simp only [Act.put, List.setIfInBounds_toArray, List.set_cons_zero, List.set_cons_succ, i64_w, i32_w]
          rfl
        refine take_ (i := 2) (N := some 61) (v := ?_) (a' := ?_) #[true, true, true, true, false, false, false, false, false, false, false] rfl rfl (by kernel_rfl) (fun _ _ _ h => h) (Or.inl ⟨by rfl, ?_⟩) hHeld ?_ ?_
        rotate_left
        · rintro w' ⟨s0, s1⟩
          go_simp
          first | done | with_reducible rfl | rfl | (simp [Instr.field, go_sem]; rfl)
        rotate_left
        · simp only [Act.put, List.setIfInBounds_toArray, List.set_cons_zero, List.set_cons_succ, i64_w, i32_w]
          rfl
        refine take_ (i := 4) (N := some 63) (v := ?_) (a' := ?_) #[true, true, true, true, true, false, false, false, false, false, false] rfl rfl (by kernel_rfl) (fun _ _ _ h => h) (Or.inl ⟨by rfl, ?_⟩) hHeld ?_ ?_
        rotate_left
        · rintro w' ⟨s0, s1⟩
          go_simp
          first | done | with_reducible rfl | rfl | (simp [Instr.field, go_sem]; rfl)
        rotate_left
        · simp only [Act.put, List.setIfInBounds_toArray, List.set_cons_zero, List.set_cons_succ, i64_w, i32_w]
          rfl
        refine pure_ (i := 5) (N := some 64) (v := ?_) (a' := ?_) #[true, true, true, true, true, true, false, false, false, false, false] rfl rfl (by kernel_rfl) (fun _ _ _ h => h) (Or.inl ⟨by rfl, ?_⟩) ?_ ?_
        rotate_left
        · intro w'
          go_simp
          first | done | with_reducible rfl | rfl | (simp [Instr.field, go_sem]; rfl)
        rotate_left
        · simp only [Act.put, List.setIfInBounds_toArray, List.set_cons_zero, List.set_cons_succ, i64_w, i32_w]
          rfl
        refine pure_ (i := 6) (N := some 65) (v := ?_) (a' := ?_) #[true, true, true, true, true, true, true, false, false, false, false] rfl rfl (by kernel_rfl) (fun _ _ _ h => h) (Or.inl ⟨by rfl, ?_⟩) ?_ ?_
        rotate_left
        · intro w'
          go_simp
          first | done | with_reducible rfl | rfl | (simp [Instr.field, go_sem]; rfl)
        rotate_left
        · simp only [Act.put, List.setIfInBounds_toArray, List.set_cons_zero, List.set_cons_succ, i64_w, i32_w]
          rfl
        refine pure_ (i := 7) (N := some 66) (v := ?_) (a' := ?_) #[true, true, true, true, true, true, true, true, false, false, false] rfl rfl (by kernel_rfl) (fun _ _ _ h => h) (Or.inl ⟨by rfl, ?_⟩) ?_ ?_
        rotate_left
        · intro w'
          go_simp
          first | done | with_reducible rfl | rfl | (simp [Instr.field, go_sem]; rfl)
        rotate_left
        · simp only [Act.put, List.setIfInBounds_toArray, List.set_cons_zero, List.set_cons_succ, i64_w, i32_w]
          rfl
        refine pure_ (i := 8) (N := some 67) (v := ?_) (a' := ?_) #[true, true, true, true, true, true, true, true, true, false, false] rfl rfl (by kernel_rfl) (fun _ _ _ h => h) (Or.inl ⟨by rfl, ?_⟩) ?_ ?_
        rotate_left
        · intro w'
          go_simp
          first | done | with_reducible rfl | rfl | (simp [Instr.field, go_sem]; rfl)
        rotate_left
        · simp only [Act.put, List.setIfInBounds_toArray, List.set_cons_zero, List.set_cons_succ, i64_w, i32_w]
          rfl
        refine pure_ (i := 9) (N := some 68) (v := ?_) (a' := ?_) #[true, true, true, true, true, true, true, true, true, true, false] rfl rfl (by kernel_rfl) (fun _ _ _ h => h) (Or.inl ⟨by rfl, ?_⟩) ?_ ?_
        rotate_left
        · intro w'
          go_simp
          first | done | with_reducible rfl | rfl | (simp [Instr.field, go_sem]; rfl)
        rotate_left
        · simp only [Act.put, List.setIfInBounds_toArray, List.set_cons_zero, List.set_cons_succ, i64_w, i32_w]
          rfl
        refine last_ (i := 10) (N := none) #[true, true, true, true, true, true, true, true, true, true, true] rfl rfl (by kernel_rfl) (by decide) (fun K hK => ?_)
        have fr := fun i => HRx.out.free i
        have c0 := HRx.out.at_ k (by omega)
        refine skip_ (w1 := ?_) (by rfl) rfl ?_ ?_
        rotate_left
        · go_simp
          rfl
        refine hK _ _ ?_
        clear hK K
        rw [HV.out]
        have HRo := Aside0.mk (HRx.out.add k (by omega) s)
        have HAo : Aside0 (ARow (wx.setCell ⟨g8, k, none⟩ (.int .u64 (rd k + s))) ga n T) := ⟨HAx.out.far (p := ⟨g8, k, none⟩) NG.out _⟩
        have Jo : Aside0 ((wx.setCell ⟨g8, k, none⟩ (.int .u64 (rd k + s))).heap[g11]? = some (.cells #[.int .u8 t.node, .int .u8 t.fr, .int .u8 t.to_, .int .u8 t.skip, .int .u16 t.want] 57 (0, 0))) := ⟨blk_far Jx.out N118.out _⟩
        have HBo : Aside0 (Below w.heap.size w (wx.setCell ⟨g8, k, none⟩ (.int .u64 (rd k + s)))) := ⟨below_set HBx.out HG8w.out⟩
        have HSy : Aside0 (w4.heap.size ≤ (wx.setCell ⟨g8, k, none⟩ (.int .u64 (rd k + s))).heap.size) := ⟨by have := HWx.out.size; have := HS5.out; simp only [World.setCell, Array.size_modify]; omega⟩
        have HOo : Aside0 (Kd.R k27 27 (wx.setCell ⟨g8, k, none⟩ (.int .u64 (rd k + s))) w4.heap.size (fun _ => True) u9 ch) := ⟨R_setlow (Kd.R_below HO.out HWx.out) G84.out k _⟩
        clear fr c0 HRx HAx Jx HBx HWx HO HA HR HB HBd HWd J11
        generalize wx.setCell ⟨g8, k, none⟩ (.int .u64 (rd k + s)) = wy at HRo HAo Jo HBo HOo HSy ⊢
        refine done_ (by kernel_rfl) ?_
        clear hHeld
        obtain ⟨b, hb⟩ : ∃ b : Int, b = (rd k + s) * 64 + k + 1 := ⟨_, rfl⟩
        have hrk := HRB.out k
        have HNUM : Aside0 (ballot_Number.f (rd k + s) (k : Int) = some (b, 0)) := ⟨by
          have h3 := HLE.out
          unfold ballot_Number.f
          rw [if_pos (by omega), if_neg (by omega), if_pos (by omega), hb]⟩
        have HBE := Aside0.mk hb
        have hb0 : b ≠ 0 := by omega
        have HB0 := Aside0.mk hb0
        obtain ⟨fr, hfr⟩ : ∃ fr : Nat, t.fr = fr := ⟨t.fr.toNat, by have := HUP.out.2.1.1; omega⟩
        obtain ⟨tt, htt⟩ : ∃ tt : Nat, t.to_ = tt := ⟨t.to_.toNat, by have := HUP.out.2.2.1.1; omega⟩
        have hfr2 : fr < 18446744073709551616 := by have := HUP.out.2.1; omega
        have htt2 : tt < 18446744073709551616 := by have := HUP.out.2.2.1; omega
        have HFR : Aside0 (IntKind.u64.wrap t.fr = (fr : Int)) := ⟨by rw [hfr]; exact u64_cast fr hfr2⟩
        have HTT : Aside0 (IntKind.u64.wrap t.to_ = (tt : Int)) := ⟨by rw [htt]; exact u64_cast tt htt2⟩
        have HHF : Aside0 (∀ i : Nat, i < 64 → conventicleref05_Has.f (fr : Int) (i : Int) = some (fr.testBit i)) := ⟨fun i hi => by rw [rhas_run fr hfr2]; unfold hasN; rw [decide_eq_true (by omega), Bool.true_and, Int.toNat_natCast]⟩
        have HHT : Aside0 (∀ i : Nat, i < 64 → conventicleref05_Has.f (tt : Int) (i : Int) = some (tt.testBit i)) := ⟨fun i hi => by rw [rhas_run tt htt2]; unfold hasN; rw [decide_eq_true (by omega), Bool.true_and, Int.toNat_natCast]⟩
        have c0 : wy.cell? ⟨g8, k, none⟩ = some (.int .u64 (rd k + s)) := by
          have := HRo.out.at_ k (by omega)
          unfold upd at this
          rw [if_pos rfl] at this
          exact this
        obtain ⟨F, hF⟩ : ∃ F : Nat → Bool, fr.testBit = F := ⟨_, rfl⟩
        obtain ⟨G, hG⟩ : ∃ G : Nat → Bool, tt.testBit = G := ⟨_, rfl⟩
        rw [hF] at HHF
        rw [hG] at HHT
        have HS1 := Aside0.mk hs1
        clear hb hb0 hfr htt hfr2 htt2 hF hG hrk hs hs1
        go_wp2_with (first
          | (go_at_call 14; refine (ballot_Number.calls (rd k + s) k b 0 _ HNUM.out).mono ?_; rintro e wn ⟨rfl, ⟨nd, rfl⟩⟩; have HBn := Aside0.mk (pw_below_drewN (Below.refl wy.heap.size wy) nd); have HRq := Aside0.mk (HRo.out.below HBn.out); have HAq := Aside0.mk (HAo.out.below HBn.out); have Jq := Aside0.mk (blk_below Jo.out HBn.out); have HBq := Aside0.mk (below_step HBo.out HBn.out); have HOq := Aside0.mk (Kd.R_below HOo.out HBn.out); have HSq := Aside0.mk (Nat.le_trans HSy.out HBn.out.size); generalize wy.drewN nd = wq at HRq HAq Jq HBq HOq HSq ⊢; clear HBn HRo HAo Jo HBo HOo c0 HSy)
          | ((with_reducible refine gate_dst (N := 79) rfl ?_); refine Kd.R_lit k29 _ 29 ?hg (N := 79) ?hd (xs := ([] : List S29)) (inner := []) (ok := fun _ => True) (okp := fun _ => True) ?hr ?hp (fun _ hk => hk) trivial (Below.refl _ _) (Nat.le_refl _) (by simp) ?_; (case hd => rfl); (case hg => rfl); (case hr => first | (go_simp; done) | (go_simp; rfl)); (case hp => exact (Reps.none _ _)); intro v15 wl ho_ hb_ hg_ hnew_; have HPl := Aside0.mk ho_; have HBl := Aside0.mk hb_; clear ho_ hb_ hg_ hnew_))
        have HKl := Aside0.mk (KeepBut.of_below HBl.out ga none)
        have HAl : Aside0 (ARow wl ga n (prepT T F b 0)) := ⟨(HAq.out.below HBl.out).ext (fun i _ => by unfold prepT; rw [if_neg (fun h => Nat.not_lt_zero i h.1)])⟩
        have HBlw := Aside0.mk (below_step HBq.out HBl.out)
        go_loopw [15, 16, 17] (fun v x i wr => ∃ q : Nat, i = .int .i64 q ∧ x = .int .u64 (bitsUp (ok1 T F b) q : Nat) ∧ Aside0 (q ≤ n) ∧ Aside0 (ARow wr ga n (prepT T F b q)) ∧ Aside0 (KeepBut wq wr ga none) ∧ Aside0 (Below w.heap.size w wr) ∧ Aside0 (Kd.R k29 29 wr wq.heap.size (fun _ => True) v (prepL T F b q)))
          (fun _ _ i _ => n - (intOf i).toNat)
        case atStart => exact ⟨0, rfl, rfl, ⟨Nat.zero_le _⟩, HAl, HKl, HBlw, HPl⟩
        case round =>
          obtain ⟨q, rfl, rfl, hq, HAr, HKr, HBr, HPr⟩ := hrel
          clear HKl HAl HBlw HPl HBl
          have Jr := Aside0.mk ((HKr.out.2 g11 (blk_lt Jq.out) N11a.out (by simp)).trans Jq.out)
          have t1 := (blk_cell Jr.out 1).trans rfl
          have hfw := HFR.out
          by_cases hqlt : q < n
          · have hh := HHF.out q (by omega)
            cases hFq : F q
            · rw [hFq] at hh
              have HH := Aside0.mk hh
              have HOK : Aside0 (ok1 T F b q = false) := ⟨by unfold ok1; rw [hFq]; rfl⟩
              have HA2 := Aside0.mk (HAr.out.ext (fun i _ => prepT_no T F b q HOK.out i))
              clear hh hFq
              go_wp2_with (go_at_call 16; refine (conventicleref05_Has.calls fr q false _ HH.out).mono ?_; rintro e wn ⟨rfl, ⟨nd, rfl⟩⟩)
              go_roundw
              case rel => exact ⟨q + 1, by go_num, by rw [up_same _ q HOK.out], ⟨hqlt⟩, ⟨HA2.out.below (pw_below_drewN (Below.refl _ _) nd)⟩, ⟨keep_drewN HKr.out nd⟩, ⟨pw_below_drewN HBr.out nd⟩, ⟨by rw [show prepL T F b (q + 1) = prepL T F b q by rw [prepL, if_neg (by rw [HOK.out]; decide)]]; exact Kd.R_drewN HPr.out nd⟩⟩
              case measure => simp [intOf]; omega
            · rw [hFq] at hh
              have HH := Aside0.mk hh
              have pq0 : ((0 : Int) ≤ (q : Int)) = True := eq_true (by omega)
              have pq1 : ((q : Int) < (n : Int)) = True := eq_true (by omega)
              have hpa := prepT_at T F b q
              obtain ⟨a, ha⟩ : ∃ a, T q = a := ⟨_, rfl⟩
              rw [ha] at hpa
              have HPA := Aside0.mk hpa
              have HTA := Aside0.mk ha
              have hHas : Aside0 (∀ w, Calls Try.prog 16 #[.int .u64 fr, .int .i64 q] w fun e w' => e = .returned (.bool true) ∧ Drawn0 w w') := ⟨fun w => conventicleref05_Has.calls fr q true w HH.out⟩
              by_cases hle : a.top ≤ b
              · have HOK : Aside0 (ok1 T F b q = true) := ⟨by unfold ok1; rw [hFq, ha, decide_eq_true hle]; rfl⟩
                have hwi := with_up (ok1 T F b) q (by omega) HOK.out
                have HWI := Aside0.mk hwi
                have hpl : prepL T F b (q + 1) = prepL T F b q ++ [a.last] := by rw [prepL, if_pos HOK.out, ha]
                have hle2 := prepL_len T F b q
                have HPL := Aside0.mk hpl
                have HLE2 := Aside0.mk hle
                clear hh hFq hpa ha hwi hpl hle
                go_upto_region 24 with (first | (go_at_call 16; refine (hHas.out _).mono ?_; rintro e wn_ ⟨rfl, ⟨nd, rfl⟩⟩; have HAn := Aside0.mk (HAr.out.below (pw_below_drewN (Below.refl wr.heap.size wr) nd)); have HKn := Aside0.mk (keep_drewN HKr.out nd); have HBn := Aside0.mk (pw_below_drewN HBr.out nd); have HPn := Aside0.mk (Kd.R_drewN HPr.out nd); generalize wr.drewN nd = wn at HAn HKn HBn HPn ⊢) | (go_at_call 12; refine (prep_ok_is w _ ga n (prepT T F b q) q b a HPA.out hqlt HB0.out HLE2.out HAn.out HGa.out HBn.out).mono ?_; rintro e wm ⟨rfl, hA_, hB_, hK_⟩; have HAm := Aside0.mk hA_; have HBm := Aside0.mk hB_; have HKm := Aside0.mk (KeepBut.trans HKn.out hK_ (.inl rfl)); have HPm := Aside0.mk (R_keeplow HPn.out hK_ HAq.out.lt); clear hA_ hB_ hK_) | ((with_reducible refine gate_dst (N := 18) rfl ?_); refine box_event ?hg (N := 18) ?hd (cs := #[.int .u64 0, .int .u64 0, .int .u64 0]) (t := 29) ?hr ?_; (case hd => rfl); (case hg => rfl); (case hr => first | (go_simp; done) | (go_simp; rfl)); intro g18 hg_ wc hb_ hB_; have K18 := Aside0.mk hb_; have L18 := Aside0.mk (show wm.heap.size ≤ g18 from (by rw [hg_]; exact Nat.le_refl _)); have HBc := Aside0.mk hB_; have z0 := (blk_cell hb_ 0).trans rfl; have z1 := (blk_cell hb_ 1).trans rfl; have z2 := (blk_cell hb_ 2).trans rfl; skip; have zf := fun j => blk_frozen hb_ j; clear hg_ hb_ hB_))
                have J18 : Aside0 ((((wc.setCell ⟨g18, 0, none⟩ (.int .u64 a.last.f0)).setCell ⟨g18, 1, none⟩ (.int .u64 a.last.f1.f0)).setCell ⟨g18, 2, none⟩ (.int .u64 a.last.f1.f1)).heap[g18]? = some (.cells #[.int .u64 a.last.f0, .int .u64 a.last.f1.f0, .int .u64 a.last.f1.f1] 29 (0, 0))) := ⟨blk_put (cs := #[.int .u64 a.last.f0, .int .u64 a.last.f1.f0, .int .u64 0]) (blk_put (cs := #[.int .u64 a.last.f0, .int .u64 0, .int .u64 0]) (blk_put (cs := #[.int .u64 0, .int .u64 0, .int .u64 0]) (K18.out) 0 _ rfl) 1 _ rfl) 2 _ rfl⟩
                have HBd : Aside0 (Below wm.heap.size wm (((wc.setCell ⟨g18, 0, none⟩ (.int .u64 a.last.f0)).setCell ⟨g18, 1, none⟩ (.int .u64 a.last.f1.f0)).setCell ⟨g18, 2, none⟩ (.int .u64 a.last.f1.f1))) := ⟨below_set (below_set (below_set (HBc.out) L18.out) L18.out) L18.out⟩
                clear z0 z1 z2 zf HBc K18 L18
                generalize (((wc.setCell ⟨g18, 0, none⟩ (.int .u64 a.last.f0)).setCell ⟨g18, 1, none⟩ (.int .u64 a.last.f1.f0)).setCell ⟨g18, 2, none⟩ (.int .u64 a.last.f1.f1)) = wd at J18 HBd ⊢
                have HAd := Aside0.mk (HAm.out.below HBd.out)
                have HKd := Aside0.mk (KeepBut.trans HKm.out (KeepBut.of_below HBd.out ga none) (.inl rfl))
                have HBe := Aside0.mk (below_step HBm.out HBd.out)
                have HPd := Aside0.mk (Kd.R_below HPm.out HBd.out)
                have y0 := (blk_cell J18.out 0).trans rfl
                have y1 := (blk_cell J18.out 1).trans rfl
                have y2 := (blk_cell J18.out 2).trans rfl
                clear t1
                go_wp2_with (first | ((with_reducible refine gate_builtin (b := .append) (xs := #[.tmp 101, .tmp 103]) rfl ?_); at_builtin; refine Kd.R_append k29 wq.heap.size rfl (.tmp 101) (.tmp 103) 41 29 (.agg #[.int .u64 0, .int .u64 0, .int .u64 0]) 24 rfl Try.underlying41 (by kernel_rfl) rfl (by decide) (by decide) _ (prepL T F b q) a.last [.int .u64 a.last.f0, .int .u64 a.last.f1.f0, .int .u64 a.last.f1.f1] (fun _ => True) (fun _ => False) rfl rfl ?aP (fun _ hk => hk.elim) ?aF ?aO (Below.refl _ _) ?aS ?aL ?_; (case aP => exact k29_mkM _ _ _ a.last); (case aF => exact fun _ _ => trivial); (case aO => exact HPd.out); (case aS => exact HKd.out.1); (case aL => omega); intro v1 w2_ ho_ hb_ hg_ hat_; rw [← HPL.out] at ho_; have HP2 := Aside0.mk ho_; have HB2 := Aside0.mk hb_; clear ho_ hb_ hg_ hat_) | (go_at_call 17; refine (conventicleref05_With.calls (bitsUp (ok1 T F b) q : Nat) (q : Int) _ _ HWI.out).mono ?_; rintro e wn2 ⟨rfl, ⟨nd2, rfl⟩⟩))
                go_roundw
                case rel => exact ⟨q + 1, by go_num, rfl, ⟨hqlt⟩, ⟨((HAd.out.low HB2.out HAq.out.lt).ext (fun i _ => by rw [← HTA.out]; exact prepT_ok T F b q HOK.out i)).below (pw_below_drewN (Below.refl _ _) nd2)⟩, ⟨keep_drewN (KB_below HKd.out HB2.out) nd2⟩, ⟨pw_below_drewN (Below.trans HBe.out (Below.mono HB2.out HBq.out.size)) nd2⟩, ⟨Kd.R_drewN HP2.out nd2⟩⟩
                case measure => simp [intOf]; omega
              · have HOK : Aside0 (ok1 T F b q = false) := ⟨by unfold ok1; rw [hFq, ha, decide_eq_false hle]; rfl⟩
                have HLE2 := Aside0.mk (show b < a.top by omega)
                have HA2 := Aside0.mk (HAr.out.ext (fun i _ => prepT_no T F b q HOK.out i))
                clear hh hFq hpa ha hle
                go_upto_region 24 with (first | (go_at_call 16; refine (hHas.out _).mono ?_; rintro e wn_ ⟨rfl, ⟨nd, rfl⟩⟩; have HAn := Aside0.mk (HAr.out.below (pw_below_drewN (Below.refl wr.heap.size wr) nd)); have HKn := Aside0.mk (keep_drewN HKr.out nd); have HBn := Aside0.mk (pw_below_drewN HBr.out nd); have HPn := Aside0.mk (Kd.R_drewN HPr.out nd); generalize wr.drewN nd = wn at HAn HKn HBn HPn ⊢) | (go_at_call 12; refine (prep_no_is w _ ga n (prepT T F b q) q b a HPA.out hqlt HB0.out HLE2.out HAn.out).mono ?_; rintro e wm ⟨rfl, hB_⟩; have HBm' := Aside0.mk hB_; clear hB_) | ((with_reducible refine gate_dst (N := 18) rfl ?_); refine box_event ?hg (N := 18) ?hd (cs := #[.int .u64 0, .int .u64 0, .int .u64 0]) (t := 29) ?hr ?_; (case hd => rfl); (case hg => rfl); (case hr => first | (go_simp; done) | (go_simp; rfl)); intro g18 hg_ wc hb_ hB_; have K18 := Aside0.mk hb_; have L18 := Aside0.mk (show wm.heap.size ≤ g18 from (by rw [hg_]; exact Nat.le_refl _)); have HBc := Aside0.mk hB_; have z0 := (blk_cell hb_ 0).trans rfl; have z1 := (blk_cell hb_ 1).trans rfl; have z2 := (blk_cell hb_ 2).trans rfl; skip; have zf := fun j => blk_frozen hb_ j; clear hg_ hb_ hB_))
                have J18 : Aside0 ((((wc.setCell ⟨g18, 0, none⟩ (.int .u64 0)).setCell ⟨g18, 1, none⟩ (.int .u64 0)).setCell ⟨g18, 2, none⟩ (.int .u64 0)).heap[g18]? = some (.cells #[.int .u64 0, .int .u64 0, .int .u64 0] 29 (0, 0))) := ⟨blk_put (cs := #[.int .u64 0, .int .u64 0, .int .u64 0]) (blk_put (cs := #[.int .u64 0, .int .u64 0, .int .u64 0]) (blk_put (cs := #[.int .u64 0, .int .u64 0, .int .u64 0]) (K18.out) 0 _ rfl) 1 _ rfl) 2 _ rfl⟩
                have HBd : Aside0 (Below wm.heap.size wm (((wc.setCell ⟨g18, 0, none⟩ (.int .u64 0)).setCell ⟨g18, 1, none⟩ (.int .u64 0)).setCell ⟨g18, 2, none⟩ (.int .u64 0))) := ⟨below_set (below_set (below_set (HBc.out) L18.out) L18.out) L18.out⟩
                clear z0 z1 z2 zf HBc K18 L18
                generalize (((wc.setCell ⟨g18, 0, none⟩ (.int .u64 0)).setCell ⟨g18, 1, none⟩ (.int .u64 0)).setCell ⟨g18, 2, none⟩ (.int .u64 0)) = wd at J18 HBd ⊢
                have HBe := Aside0.mk (below_step HBm'.out HBd.out)
                clear t1
                go_wp2
                go_roundw
                case rel => exact ⟨q + 1, by go_num, by rw [up_same _ q HOK.out], ⟨hqlt⟩, ⟨(HAn.out.ext (fun i _ => prepT_no T F b q HOK.out i)).below HBe.out⟩, ⟨KeepBut.trans HKn.out (KeepBut.of_below HBe.out ga none) (.inl rfl)⟩, ⟨below_step HBn.out HBe.out⟩, ⟨by rw [show prepL T F b (q + 1) = prepL T F b q by rw [prepL, if_neg (by rw [HOK.out]; decide)]]; exact Kd.R_below HPn.out HBe.out⟩⟩
                case measure => simp [intOf]; omega
          · have hqn : n = q := by have := hq.out; omega
            subst hqn
            obtain ⟨A15, c15, rfl⟩ := Kd.R_slice HPr.out
            have hmj := major_up (ok1 T F b) n (by omega)
            by_cases hmaj : n < 2 * cntB (ok1 T F b) n
            · rw [decide_eq_true hmaj] at hmj
              have HMJ := Aside0.mk hmj
              obtain ⟨be, hbe⟩ : ∃ be, bestOf (prepL T F b n) = be := ⟨_, rfl⟩
              obtain ⟨is, his⟩ : ∃ is : Bool, (!(be.f0 == 0) || ((!(be.f1.f0 == 0) || (!(be.f1.f1 == 0))))) = is := ⟨_, rfl⟩
              have HPK : Aside0 (ballot_Pick.f (prepL T F b n) = some (be.f1.f0, be.f1.f1, is)) := ⟨by unfold ballot_Pick.f; rw [hbe, his]⟩
              have HBEST := Aside0.mk hbe
              have HIS := Aside0.mk his
              clear hmj hbe his hqlt hq
              go_upto_region 29 with (first | (go_at_call 18; refine (conventicleref05_Major.calls 65 _ _ true _ HMJ.out).mono ?_; rintro e wM ⟨rfl, hb_⟩; have HBM := Aside0.mk hb_; clear hb_) | (go_at_call 13; refine (ballot_Pick.calls A15 c15 (prepL T F b n) be.f1.f0 be.f1.f1 is _ (Kd.C_below (Kd.R_reads' HPr.out).2.2 HBM.out) (Kd.R_reads' HPr.out).2.1 HPK.out).mono ?_; rintro e wP ⟨rfl, hb_⟩; have HBP := Aside0.mk (below_step HBM.out hb_); clear hb_) | ((with_reducible refine gate_dst (N := 20) rfl ?_); refine box_event ?hg (N := 20) ?hd (cs := #[.int .u64 0, .int .u64 0]) (t := 27) ?hr ?_; (case hd => rfl); (case hg => rfl); (case hr => first | (go_simp; done) | (go_simp; rfl)); intro g20 hg_ wc hb_ hB_; have K20 := Aside0.mk hb_; have N20L := Aside0.mk (show wr.heap.size ≤ g20 from (by rw [hg_]; exact HBP.out.size)); have N20' := Aside0.mk (show g20 ≠ ga from (by rw [hg_]; exact Nat.ne_of_gt (Nat.lt_of_lt_of_le HAr.out.lt HBP.out.size))); have L20 := Aside0.mk (show wP.heap.size ≤ g20 from (by rw [hg_]; exact Nat.le_refl _)); have HBc := Aside0.mk hB_; have z0 := (blk_cell hb_ 0).trans rfl; have z1 := (blk_cell hb_ 1).trans rfl; skip; have zf := fun j => blk_frozen hb_ j; clear hg_ hb_ hB_))
              have J20 : Aside0 (((wc.setCell ⟨g20, 0, none⟩ (.int .u64 be.f1.f0)).setCell ⟨g20, 1, none⟩ (.int .u64 be.f1.f1)).heap[g20]? = some (.cells #[.int .u64 be.f1.f0, .int .u64 be.f1.f1] 27 (0, 0))) := ⟨blk_put (cs := #[.int .u64 be.f1.f0, .int .u64 0]) (blk_put (cs := #[.int .u64 0, .int .u64 0]) (K20.out) 0 _ rfl) 1 _ rfl⟩
              have HBd : Aside0 (Below wP.heap.size wP ((wc.setCell ⟨g20, 0, none⟩ (.int .u64 be.f1.f0)).setCell ⟨g20, 1, none⟩ (.int .u64 be.f1.f1))) := ⟨below_set (below_set (HBc.out) L20.out) L20.out⟩
              clear z0 z1 zf HBc K20 L20
              generalize ((wc.setCell ⟨g20, 0, none⟩ (.int .u64 be.f1.f0)).setCell ⟨g20, 1, none⟩ (.int .u64 be.f1.f1)) = wd at J20 HBd ⊢
              have HBd2 := Aside0.mk (below_step HBP.out HBd.out)
              have HAe := Aside0.mk (HAr.out.below HBd2.out)
              have HKe := Aside0.mk (KeepBut.trans HKr.out (KeepBut.of_below HBd2.out ga none) (.inl rfl))
              have HBe := Aside0.mk (below_step HBr.out HBd2.out)
              have J11e := Aside0.mk (blk_below Jr.out HBd2.out)
              have N20 : Aside0 (g20 ≠ ga) := N20'
              have N1120 : Aside0 (g11 ≠ g20) := ⟨by have h1 := blk_lt Jr.out; have h2 := N20L.out; omega⟩
              have NQ20 : Aside0 (wq.heap.size ≤ g20) := ⟨Nat.le_trans HKr.out.1 N20L.out⟩
              clear t1 hfw HBd HBP HBM
              cases his : is
              · obtain ⟨v, hv⟩ : ∃ v : S27, v = ⟨t.want, j⟩ := ⟨_, rfl⟩
                have HVV : Aside0 (0 < (bestOf (prepL T F b n)).f0 → v = (bestOf (prepL T F b n)).f1) := ⟨fun h => absurd HIS.out (by rw [HBEST.out] at h; rw [his]; have : (be.f0 == 0) = false := beq_eq_false_iff_ne.2 (by omega); rw [this]; simp)⟩
                have t4 := (blk_cell J11e.out 4).trans rfl
                have c0 := (blk_cell J20.out 0).trans rfl
                have c1 := (blk_cell J20.out 1).trans rfl
                have cf := fun i => blk_frozen J20.out i
                have hwant : IntKind.u64.wrap t.want = t.want := by have := HUP.out.2.2.2.2; rw [IntKind.wrap_u64]; omega
                have hjw : IntKind.u64.wrap (j : Int) = (j : Int) := by rw [IntKind.wrap_u64]; have := HLE.out; omega
                go_upto_region 31 with (fail)
                have J20' : Aside0 ((((wd.setCell ⟨g20, 0, none⟩ (.int .u64 t.want)).setCell ⟨g20, 1, none⟩ (.int .u64 (j : Int)))).heap[g20]? = some (.cells #[.int .u64 v.f0, .int .u64 v.f1] 27 (0, 0))) := ⟨by rw [hv]; exact blk_put (cs := #[.int .u64 t.want, .int .u64 be.f1.f1]) (blk_put J20.out 0 _ rfl) 1 _ rfl⟩
                have HAe' : Aside0 (ARow (((wd.setCell ⟨g20, 0, none⟩ (.int .u64 t.want)).setCell ⟨g20, 1, none⟩ (.int .u64 (j : Int)))) ga n (prepT T F b n)) := ⟨(HAe.out.far (p := ⟨g20, 0, none⟩) (Ne.symm N20.out) _).far (p := ⟨g20, 1, none⟩) (Ne.symm N20.out) _⟩
                have J11' : Aside0 ((((wd.setCell ⟨g20, 0, none⟩ (.int .u64 t.want)).setCell ⟨g20, 1, none⟩ (.int .u64 (j : Int)))).heap[g11]? = some (.cells #[.int .u8 t.node, .int .u8 t.fr, .int .u8 t.to_, .int .u8 t.skip, .int .u16 t.want] 57 (0, 0))) := ⟨blk_far (blk_far J11e.out N1120.out _) N1120.out _⟩
                have HKe' : Aside0 (KeepBut wq (((wd.setCell ⟨g20, 0, none⟩ (.int .u64 t.want)).setCell ⟨g20, 1, none⟩ (.int .u64 (j : Int)))) ga none) := ⟨keep_far (keep_far HKe.out NQ20.out _) NQ20.out _⟩
                have HBe' : Aside0 (Below w.heap.size w (((wd.setCell ⟨g20, 0, none⟩ (.int .u64 t.want)).setCell ⟨g20, 1, none⟩ (.int .u64 (j : Int))))) := ⟨below_set (below_set HBe.out (Nat.le_trans HBq.out.size NQ20.out)) (Nat.le_trans HBq.out.size NQ20.out)⟩
                clear HAe HKe HBe J11e J20 t4 c0 c1 cf hwant hjw hv his
                generalize ((wd.setCell ⟨g20, 0, none⟩ (.int .u64 t.want)).setCell ⟨g20, 1, none⟩ (.int .u64 (j : Int))) = we at J20' HAe' J11' HKe' HBe' ⊢
                have HAe := HAe'
                have HKe := HKe'
                have HBe := HBe'
                have J11e := J11'
                have J20 := J20'
                clear HAe' HKe' HBe' J11' J20'
                obtain ⟨T1, hT1⟩ : ∃ T1, prepT T F b n = T1 := ⟨_, rfl⟩
                have HT1 := Aside0.mk hT1
                have HINV := Aside0.mk (AInv.turn HI.out hn7 k hkn s HS1.out.1 (HRB.out k).1 F G b HBE.out hmaj v HVV.out)
                rw [hT1] at HAe HINV
                have HAs : Aside0 (ARow we ga n (accT T1 G b v 0)) := ⟨HAe.out.ext (fun i _ => by unfold accT; rw [if_neg (fun h => Nat.not_lt_zero i h.1)])⟩
                have HK0 := Aside0.mk (KeepBut.refl we ga none)
                have N20a : Aside0 (g20 ≠ ga) := N20
                clear hT1 hmaj HAe
                go_wp2
                go_loopw [22, 23] (fun x i wr => ∃ q : Nat, i = .int .i64 q ∧ x = .int .u64 (bitsUp (ok1 T1 G b) q : Nat) ∧ Aside0 (q ≤ n) ∧ Aside0 (ARow wr ga n (accT T1 G b v q)) ∧ Aside0 (KeepBut we wr ga none) ∧ Aside0 (Below w.heap.size w wr))
                  (fun _ i _ => n - (intOf i).toNat)
                case atStart => exact ⟨0, rfl, rfl, ⟨Nat.zero_le _⟩, HAs, HK0, HBe⟩
                case round =>
                  clear HAs HK0
                  obtain ⟨q, rfl, rfl, hq, HAr, HKr, HBr⟩ := hrel
                  have J11r := Aside0.mk ((HKr.out.2 g11 (blk_lt J11e.out) N11a.out (by simp)).trans J11e.out)
                  have J20r := Aside0.mk ((HKr.out.2 g20 (blk_lt J20.out) N20a.out (by simp)).trans J20.out)
                  have htw := HTT.out
                  by_cases hqlt : q < n
                  · have hh := HHT.out q (by omega)
                    have pq0 : ((0 : Int) ≤ (q : Int)) = True := eq_true (by omega)
                    have pq1 : ((q : Int) < (n : Int)) = True := eq_true (by omega)
                    cases hGq : G q
                    · rw [hGq] at hh
                      have HH := Aside0.mk hh
                      have hHas : Aside0 (∀ w, Calls Try.prog 16 #[.int .u64 tt, .int .i64 q] w fun e w' => e = .returned (.bool false) ∧ Drawn0 w w') := ⟨fun w => conventicleref05_Has.calls tt q false w HH.out⟩
                      have HOK : Aside0 (ok1 T1 G b q = false) := ⟨by unfold ok1; rw [hGq]; rfl⟩
                      clear hh hGq
                      have HAx := Aside0.mk (HAr.out.below (below_drew1 (Below.refl wr.heap.size wr)))
                      have HKx := Aside0.mk (keep_drew HKr.out)
                      have HBx := Aside0.mk (below_drew1 HBr.out)
                      have J11x := Aside0.mk (blk_drew J11r.out)
                      have J20x := Aside0.mk (blk_drew J20r.out)
                      go_upto_region 35 with (fail)
                      refine start_ (n := 14) (S := fun w' => w'.cell? ⟨g11, 2, none⟩ = some (.int .u8 t.to_) ∧ w'.cell? ⟨g20, 0, none⟩ = some (.int .u64 v.f0) ∧ w'.cell? ⟨g20, 1, none⟩ = some (.int .u64 v.f1)) (ds := []) #[false, false, false, false, false, false, false, false, false, false, false, false, false, false] (by kernel_rfl) rfl rfl ⟨(blk_cell J11x.out 2).trans rfl, (blk_cell J20x.out 0).trans rfl, (blk_cell J20x.out 1).trans rfl⟩ (fun hHeld => ?_)
                      generalize wr.drew = wx at HAx HKx HBx J11x J20x hHeld ⊢
                      refine pure_ (i := 0) (N := some 130) (v := ?_) (a' := ?_) #[true, false, false, false, false, false, false, false, false, false, false, false, false, false] rfl rfl (by kernel_rfl) (fun _ _ _ h => h) (Or.inl ⟨by rfl, ?_⟩) ?_ ?_
                      rotate_left
                      · intro w'
                        go_simp
                        first | done | with_reducible rfl | rfl | (simp [Instr.field, go_sem]; rfl)
                      rotate_left
                      · simp only [Act.put, List.setIfInBounds_toArray, List.set_cons_zero, List.set_cons_succ, i64_w, i32_w]
                        rfl
                      refine pure_ (i := 3) (N := some 133) (v := ?_) (a' := ?_) #[true, false, false, true, false, false, false, false, false, false, false, false, false, false] rfl rfl (by kernel_rfl) (fun _ _ _ h => h) (Or.inl ⟨by rfl, ?_⟩) ?_ ?_
                      rotate_left
                      · intro w'
                        go_simp
                        first | done | with_reducible rfl | rfl | (simp [Instr.field, go_sem]; rfl)
                      rotate_left
                      · simp only [Act.put, List.setIfInBounds_toArray, List.set_cons_zero, List.set_cons_succ, i64_w, i32_w]
                        rfl
                      refine take_ (i := 1) (N := some 131) (v := ?_) (a' := ?_) #[true, true, false, true, false, false, false, false, false, false, false, false, false, false] rfl rfl (by kernel_rfl) (fun _ _ _ h => h) (Or.inl ⟨by rfl, ?_⟩) hHeld ?_ ?_
                      rotate_left
                      · rintro w' ⟨s0, s1, s2⟩
                        go_simp
                        first | done | with_reducible rfl | rfl | (simp [Instr.field, go_sem]; rfl)
                      rotate_left
                      · simp only [Act.put, List.setIfInBounds_toArray, List.set_cons_zero, List.set_cons_succ, i64_w, i32_w]
                        rfl
                      refine pure_ (i := 2) (N := some 132) (v := ?_) (a' := ?_) #[true, true, true, true, false, false, false, false, false, false, false, false, false, false] rfl rfl (by kernel_rfl) (fun _ _ _ h => h) (Or.inl ⟨by rfl, ?_⟩) ?_ ?_
                      rotate_left
                      · intro w'
                        go_simp
                        first | done | with_reducible rfl | rfl | (simp [Instr.field, go_sem]; rfl)
                      rotate_left
                      · simp only [Act.put, List.setIfInBounds_toArray, List.set_cons_zero, List.set_cons_succ, i64_w, i32_w]
                        rfl
                      refine one_ (i := 4) (N := some 134) #[true, true, true, true, true, false, false, false, false, false, false, false, false, false] rfl rfl (by kernel_rfl) (by decide) (fun K hK => ?_)
                      refine goes_ Try.func16 (by kernel_rfl) rfl #[.int .u64 tt, .int .i64 q] (by rfl) rfl rfl (by (try simp only [List.map_toArray, List.map_cons, List.map_nil]); first | done | rfl) ?_
                      refine (hHas.out _).mono ?_
                      rintro e w' ⟨rfl, ⟨nd, rfl⟩⟩
                      refine ⟨_, rfl, ?_⟩
                      have HAy := Aside0.mk (HAx.out.below (pw_below_drewN (Below.refl wx.heap.size wx) nd))
                      have HKy := Aside0.mk (keep_drewN HKx.out nd)
                      have HBy := Aside0.mk (pw_below_drewN HBx.out nd)
                      have J11y := Aside0.mk (blk_drewN J11x.out nd)
                      have J20y := Aside0.mk (blk_drewN J20x.out nd)
                      clear HAx HKx HBx J11x J20x hHeld
                      generalize wx.drewN nd = wx2 at HAy HKy HBy J11y J20y ⊢
                      have HAx := HAy
                      have HKx := HKy
                      have HBx := HBy
                      have J11x := J11y
                      have J20x := J20y
                      clear HAy HKy HBy J11y J20y
                      refine hK _ _ ⟨(blk_cell J11x.out 2).trans rfl, (blk_cell J20x.out 0).trans rfl, (blk_cell J20x.out 1).trans rfl⟩ (fun hHeld => ?_)
                      clear hK K
                      refine norm_ (a' := ?_) ?_ ?_
                      rotate_left
                      · show Act.put _ (some 134) _ = _
                        simp only [Act.put, List.setIfInBounds_toArray, List.set_cons_zero, List.set_cons_succ, i64_w, i32_w]
                        rfl
                      refine pure_ (i := 5) (N := some 135) (v := ?_) (a' := ?_) #[true, true, true, true, true, true, false, false, false, false, false, false, false, false] rfl rfl (by kernel_rfl) (fun _ _ _ h => h) (Or.inl ⟨by rfl, ?_⟩) ?_ ?_
                      rotate_left
                      · intro w'
                        go_simp
                        first | done | with_reducible rfl | rfl | (simp [Instr.field, go_sem]; rfl)
                      rotate_left
                      · simp only [Act.put, List.setIfInBounds_toArray, List.set_cons_zero, List.set_cons_succ, i64_w, i32_w]
                        rfl
                      refine pure_ (i := 6) (N := some 136) (v := undef) (a' := ?_) #[true, true, true, true, true, true, true, false, false, false, false, false, false, false] rfl rfl (by kernel_rfl) (fun _ _ _ h => h) (Or.inr ⟨by rfl, rfl⟩) ?_ ?_
                      rotate_left
                      · simp only [Act.put, List.setIfInBounds_toArray, List.set_cons_zero, List.set_cons_succ, i64_w, i32_w]
                        rfl
                      refine pure_ (i := 7) (N := some 137) (v := undef) (a' := ?_) #[true, true, true, true, true, true, true, true, false, false, false, false, false, false] rfl rfl (by kernel_rfl) (fun _ _ _ h => h) (Or.inr ⟨by rfl, rfl⟩) ?_ ?_
                      rotate_left
                      · simp only [Act.put, List.setIfInBounds_toArray, List.set_cons_zero, List.set_cons_succ, i64_w, i32_w]
                        rfl
                      refine pure_ (i := 8) (N := some 138) (v := undef) (a' := ?_) #[true, true, true, true, true, true, true, true, true, false, false, false, false, false] rfl rfl (by kernel_rfl) (fun _ _ _ h => h) (Or.inr ⟨by rfl, rfl⟩) ?_ ?_
                      rotate_left
                      · simp only [Act.put, List.setIfInBounds_toArray, List.set_cons_zero, List.set_cons_succ, i64_w, i32_w]
                        rfl
                      refine pure_ (i := 9) (N := some 139) (v := undef) (a' := ?_) #[true, true, true, true, true, true, true, true, true, true, false, false, false, false] rfl rfl (by kernel_rfl) (fun _ _ _ h => h) (Or.inr ⟨by rfl, rfl⟩) ?_ ?_
                      rotate_left
                      · simp only [Act.put, List.setIfInBounds_toArray, List.set_cons_zero, List.set_cons_succ, i64_w, i32_w]
                        rfl
                      refine pure_ (i := 10) (N := some 140) (v := undef) (a' := ?_) #[true, true, true, true, true, true, true, true, true, true, true, false, false, false] rfl rfl (by kernel_rfl) (fun _ _ _ h => h) (Or.inr ⟨by rfl, rfl⟩) ?_ ?_
                      rotate_left
                      · simp only [Act.put, List.setIfInBounds_toArray, List.set_cons_zero, List.set_cons_succ, i64_w, i32_w]
                        rfl
                      refine pure_ (i := 11) (N := some 141) (v := undef) (a' := ?_) #[true, true, true, true, true, true, true, true, true, true, true, true, false, false] rfl rfl (by kernel_rfl) (fun _ _ _ h => h) (Or.inr ⟨by rfl, rfl⟩) ?_ ?_
                      rotate_left
                      · simp only [Act.put, List.setIfInBounds_toArray, List.set_cons_zero, List.set_cons_succ, i64_w, i32_w]
                        rfl
                      refine pure_ (i := 12) (N := some 142) (v := undef) (a' := ?_) #[true, true, true, true, true, true, true, true, true, true, true, true, true, false] rfl rfl (by kernel_rfl) (fun _ _ _ h => h) (Or.inr ⟨by rfl, rfl⟩) ?_ ?_
                      rotate_left
                      · simp only [Act.put, List.setIfInBounds_toArray, List.set_cons_zero, List.set_cons_succ, i64_w, i32_w]
                        rfl
                      refine pure_ (i := 13) (N := some 143) (v := ?_) (a' := ?_) #[true, true, true, true, true, true, true, true, true, true, true, true, true, true] rfl rfl (by kernel_rfl) (fun _ _ _ h => h) (Or.inl ⟨by rfl, ?_⟩) ?_ ?_
                      rotate_left
                      · intro w'
                        go_simp
                        first | done | with_reducible rfl | rfl | (simp [Instr.field, go_sem]; rfl)
                      rotate_left
                      · simp only [Act.put, List.setIfInBounds_toArray, List.set_cons_zero, List.set_cons_succ, i64_w, i32_w]
                        rfl
                      refine done_ (by kernel_rfl) ?_
                      clear hHeld
                      go_wp2
                      go_roundw
                      case rel => exact ⟨q + 1, by go_num, by rw [up_same _ q HOK.out], ⟨hqlt⟩, ⟨HAx.out.ext (fun i _ => accT_no T1 G b v q HOK.out i)⟩, HKx, HBx⟩
                      case measure => simp [intOf]; omega
                    · rw [hGq] at hh
                      have HH := Aside0.mk hh
                      have hHas : Aside0 (∀ w, Calls Try.prog 16 #[.int .u64 tt, .int .i64 q] w fun e w' => e = .returned (.bool true) ∧ Drawn0 w w') := ⟨fun w => conventicleref05_Has.calls tt q true w HH.out⟩
                      have hpa := accT_at T1 G b v q
                      obtain ⟨a, ha⟩ : ∃ a, T1 q = a := ⟨_, rfl⟩
                      rw [ha] at hpa
                      have HPA := Aside0.mk hpa
                      by_cases hle : a.top ≤ b
                      · have HOK : Aside0 (ok1 T1 G b q = true) := ⟨by unfold ok1; rw [hGq, ha, decide_eq_true hle]; rfl⟩
                        have HWI := Aside0.mk (with_up (ok1 T1 G b) q (by omega) HOK.out)
                        have HLE2 := Aside0.mk hle
                        clear hh hGq hpa ha hle
                        have HAx := Aside0.mk (HAr.out.below (below_drew1 (Below.refl wr.heap.size wr)))
                        have HKx := Aside0.mk (keep_drew HKr.out)
                        have HBx := Aside0.mk (below_drew1 HBr.out)
                        have J11x := Aside0.mk (blk_drew J11r.out)
                        have J20x := Aside0.mk (blk_drew J20r.out)
                        go_upto_region 35 with (fail)
                        refine start_ (n := 14) (S := fun w' => w'.cell? ⟨g11, 2, none⟩ = some (.int .u8 t.to_) ∧ w'.cell? ⟨g20, 0, none⟩ = some (.int .u64 v.f0) ∧ w'.cell? ⟨g20, 1, none⟩ = some (.int .u64 v.f1)) (ds := []) #[false, false, false, false, false, false, false, false, false, false, false, false, false, false] (by kernel_rfl) rfl rfl ⟨(blk_cell J11x.out 2).trans rfl, (blk_cell J20x.out 0).trans rfl, (blk_cell J20x.out 1).trans rfl⟩ (fun hHeld => ?_)
                        generalize wr.drew = wx at HAx HKx HBx J11x J20x hHeld ⊢
                        refine pure_ (i := 0) (N := some 130) (v := ?_) (a' := ?_) #[true, false, false, false, false, false, false, false, false, false, false, false, false, false] rfl rfl (by kernel_rfl) (fun _ _ _ h => h) (Or.inl ⟨by rfl, ?_⟩) ?_ ?_
                        rotate_left
                        · intro w'
                          go_simp
                          first | done | with_reducible rfl | rfl | (simp [Instr.field, go_sem]; rfl)
                        rotate_left
                        · simp only [Act.put, List.setIfInBounds_toArray, List.set_cons_zero, List.set_cons_succ, i64_w, i32_w]
                          rfl
                        refine pure_ (i := 3) (N := some 133) (v := ?_) (a' := ?_) #[true, false, false, true, false, false, false, false, false, false, false, false, false, false] rfl rfl (by kernel_rfl) (fun _ _ _ h => h) (Or.inl ⟨by rfl, ?_⟩) ?_ ?_
                        rotate_left
                        · intro w'
                          go_simp
                          first | done | with_reducible rfl | rfl | (simp [Instr.field, go_sem]; rfl)
                        rotate_left
                        · simp only [Act.put, List.setIfInBounds_toArray, List.set_cons_zero, List.set_cons_succ, i64_w, i32_w]
                          rfl
                        refine take_ (i := 1) (N := some 131) (v := ?_) (a' := ?_) #[true, true, false, true, false, false, false, false, false, false, false, false, false, false] rfl rfl (by kernel_rfl) (fun _ _ _ h => h) (Or.inl ⟨by rfl, ?_⟩) hHeld ?_ ?_
                        rotate_left
                        · rintro w' ⟨s0, s1, s2⟩
                          go_simp
                          first | done | with_reducible rfl | rfl | (simp [Instr.field, go_sem]; rfl)
                        rotate_left
                        · simp only [Act.put, List.setIfInBounds_toArray, List.set_cons_zero, List.set_cons_succ, i64_w, i32_w]
                          rfl
                        refine pure_ (i := 2) (N := some 132) (v := ?_) (a' := ?_) #[true, true, true, true, false, false, false, false, false, false, false, false, false, false] rfl rfl (by kernel_rfl) (fun _ _ _ h => h) (Or.inl ⟨by rfl, ?_⟩) ?_ ?_
                        rotate_left
                        · intro w'
                          go_simp
                          first | done | with_reducible rfl | rfl | (simp [Instr.field, go_sem]; rfl)
                        rotate_left
                        · simp only [Act.put, List.setIfInBounds_toArray, List.set_cons_zero, List.set_cons_succ, i64_w, i32_w]
                          rfl
                        refine one_ (i := 4) (N := some 134) #[true, true, true, true, true, false, false, false, false, false, false, false, false, false] rfl rfl (by kernel_rfl) (by decide) (fun K hK => ?_)
                        refine goes_ Try.func16 (by kernel_rfl) rfl #[.int .u64 tt, .int .i64 q] (by rfl) rfl rfl (by (try simp only [List.map_toArray, List.map_cons, List.map_nil]); first | done | rfl) ?_
                        refine (hHas.out _).mono ?_
                        rintro e w' ⟨rfl, ⟨nd, rfl⟩⟩
                        refine ⟨_, rfl, ?_⟩
                        have HAy := Aside0.mk (HAx.out.below (pw_below_drewN (Below.refl wx.heap.size wx) nd))
                        have HKy := Aside0.mk (keep_drewN HKx.out nd)
                        have HBy := Aside0.mk (pw_below_drewN HBx.out nd)
                        have J11y := Aside0.mk (blk_drewN J11x.out nd)
                        have J20y := Aside0.mk (blk_drewN J20x.out nd)
                        clear HAx HKx HBx J11x J20x hHeld
                        generalize wx.drewN nd = wx2 at HAy HKy HBy J11y J20y ⊢
                        have HAx := HAy
                        have HKx := HKy
                        have HBx := HBy
                        have J11x := J11y
                        have J20x := J20y
                        clear HAy HKy HBy J11y J20y
                        refine hK _ _ ⟨(blk_cell J11x.out 2).trans rfl, (blk_cell J20x.out 0).trans rfl, (blk_cell J20x.out 1).trans rfl⟩ (fun hHeld => ?_)
                        clear hK K
                        refine norm_ (a' := ?_) ?_ ?_
                        rotate_left
                        · show Act.put _ (some 134) _ = _
                          simp only [Act.put, List.setIfInBounds_toArray, List.set_cons_zero, List.set_cons_succ, i64_w, i32_w]
                          rfl
                        refine pure_ (i := 5) (N := some 135) (v := ?_) (a' := ?_) #[true, true, true, true, true, true, false, false, false, false, false, false, false, false] rfl rfl (by kernel_rfl) (fun _ _ _ h => h) (Or.inl ⟨by rfl, ?_⟩) ?_ ?_
                        rotate_left
                        · intro w'
                          go_simp
                          first | done | with_reducible rfl | rfl | (simp [Instr.field, go_sem]; rfl)
                        rotate_left
                        · simp only [Act.put, List.setIfInBounds_toArray, List.set_cons_zero, List.set_cons_succ, i64_w, i32_w]
                          rfl
                        refine pure_ (i := 6) (N := some 136) (v := ?_) (a' := ?_) #[true, true, true, true, true, true, true, false, false, false, false, false, false, false] rfl rfl (by kernel_rfl) (fun _ _ _ h => h) (Or.inl ⟨by rfl, ?_⟩) ?_ ?_
                        rotate_left
                        · intro w'
                          go_simp
                          first | done | with_reducible rfl | rfl | (simp [Instr.field, go_sem]; rfl)
                        rotate_left
                        · simp only [Act.put, List.setIfInBounds_toArray, List.set_cons_zero, List.set_cons_succ, i64_w, i32_w]
                          rfl
                        refine pure_ (i := 7) (N := some 137) (v := ?_) (a' := ?_) #[true, true, true, true, true, true, true, true, false, false, false, false, false, false] rfl rfl (by kernel_rfl) (fun _ _ _ h => h) (Or.inl ⟨by rfl, ?_⟩) ?_ ?_
                        rotate_left
                        · intro w'
                          go_simp
                          first | done | with_reducible rfl | rfl | (simp [Instr.field, go_sem]; rfl)
                        rotate_left
                        · simp only [Act.put, List.setIfInBounds_toArray, List.set_cons_zero, List.set_cons_succ, i64_w, i32_w]
                          rfl
                        refine pure_ (i := 8) (N := some 138) (v := ?_) (a' := ?_) #[true, true, true, true, true, true, true, true, true, false, false, false, false, false] rfl rfl (by kernel_rfl) (fun _ _ _ h => h) (Or.inl ⟨by rfl, ?_⟩) ?_ ?_
                        rotate_left
                        · intro w'
                          go_simp
                          first | done | with_reducible rfl | rfl | (simp [Instr.field, go_sem]; rfl)
                        rotate_left
                        · simp only [Act.put, List.setIfInBounds_toArray, List.set_cons_zero, List.set_cons_succ, i64_w, i32_w]
                          rfl
                        refine pure_ (i := 9) (N := some 139) (v := ?_) (a' := ?_) #[true, true, true, true, true, true, true, true, true, true, false, false, false, false] rfl rfl (by kernel_rfl) (fun _ _ _ h => h) (Or.inl ⟨by rfl, ?_⟩) ?_ ?_
                        rotate_left
                        · intro w'
                          go_simp
                          first | done | with_reducible rfl | rfl | (simp [Instr.field, go_sem]; rfl)
                        rotate_left
                        · simp only [Act.put, List.setIfInBounds_toArray, List.set_cons_zero, List.set_cons_succ, i64_w, i32_w]
                          rfl
                        refine take_ (i := 10) (N := some 140) (v := ?_) (a' := ?_) #[true, true, true, true, true, true, true, true, true, true, true, false, false, false] rfl rfl (by kernel_rfl) (fun _ _ _ h => h) (Or.inl ⟨by rfl, ?_⟩) hHeld ?_ ?_
                        rotate_left
                        · rintro w' ⟨s0, s1, s2⟩
                          go_simp
                          first | done | with_reducible rfl | rfl | (simp [Instr.field, go_sem]; rfl)
                        rotate_left
                        · simp only [Act.put, List.setIfInBounds_toArray, List.set_cons_zero, List.set_cons_succ, i64_w, i32_w]
                          rfl
                        refine one_ (i := 11) (N := some 141) #[true, true, true, true, true, true, true, true, true, true, true, true, false, false] rfl rfl (by kernel_rfl) (by decide) (fun K hK => ?_)
                        refine goes_ Try.func11 (by kernel_rfl) rfl #[.pointer (some ⟨ga, q * 4, none⟩), .int .u64 b, .agg #[.int .u64 v.f0, .int .u64 v.f1]] (by rfl) rfl rfl (by (try simp only [List.map_toArray, List.map_cons, List.map_nil]); first | done | rfl) ?_
                        refine (acc_ok_is w _ ga n (accT T1 G b v q) q b v a HPA.out hqlt HB0.out HLE2.out HAx.out HGa.out HBx.out).mono ?_
                        rintro e wz ⟨rfl, hA_, hB_, hK_⟩
                        refine ⟨_, rfl, ?_⟩
                        have J11y := Aside0.mk ((hK_.2 g11 (blk_lt J11x.out) N11a.out (by simp)).trans J11x.out)
                        have J20y := Aside0.mk ((hK_.2 g20 (blk_lt J20x.out) N20a.out (by simp)).trans J20x.out)
                        have HKy := Aside0.mk (KeepBut.trans HKx.out hK_ (.inl rfl))
                        clear HAx HKx HBx J11x J20x hHeld
                        have HAx := Aside0.mk hA_
                        have HBx := Aside0.mk hB_
                        have HKx := HKy
                        have J11x := J11y
                        have J20x := J20y
                        clear HKy J11y J20y hA_ hB_ hK_
                        refine hK _ _ ⟨(blk_cell J11x.out 2).trans rfl, (blk_cell J20x.out 0).trans rfl, (blk_cell J20x.out 1).trans rfl⟩ (fun hHeld => ?_)
                        clear hK K
                        refine norm_ (a' := ?_) ?_ ?_
                        rotate_left
                        · show Act.put _ (some 141) _ = _
                          simp only [Act.put, List.setIfInBounds_toArray, List.set_cons_zero, List.set_cons_succ, i64_w, i32_w]
                          rfl
                        refine pure_ (i := 12) (N := some 142) (v := ?_) (a' := ?_) #[true, true, true, true, true, true, true, true, true, true, true, true, true, false] rfl rfl (by kernel_rfl) (fun _ _ _ h => h) (Or.inl ⟨by rfl, ?_⟩) ?_ ?_
                        rotate_left
                        · intro w'
                          go_simp
                          first | done | with_reducible rfl | rfl | (simp [Instr.field, go_sem]; rfl)
                        rotate_left
                        · simp only [Act.put, List.setIfInBounds_toArray, List.set_cons_zero, List.set_cons_succ, i64_w, i32_w]
                          rfl
                        refine pure_ (i := 13) (N := some 143) (v := ?_) (a' := ?_) #[true, true, true, true, true, true, true, true, true, true, true, true, true, true] rfl rfl (by kernel_rfl) (fun _ _ _ h => h) (Or.inl ⟨by rfl, ?_⟩) ?_ ?_
                        rotate_left
                        · intro w'
                          go_simp
                          first | done | with_reducible rfl | rfl | (simp [Instr.field, go_sem]; rfl)
                        rotate_left
                        · simp only [Act.put, List.setIfInBounds_toArray, List.set_cons_zero, List.set_cons_succ, i64_w, i32_w]
                          rfl
                        refine done_ (by kernel_rfl) ?_
                        clear hHeld
                        go_wp2_with (go_at_call 17; refine (conventicleref05_With.calls (bitsUp (ok1 T1 G b) q : Nat) (q : Int) _ _ HWI.out).mono ?_; rintro e wn2 ⟨rfl, ⟨nd2, rfl⟩⟩)
                        go_roundw
                        case rel => exact ⟨q + 1, by go_num, rfl, ⟨hqlt⟩, ⟨(HAx.out.ext (fun i _ => accT_ok T1 G b v q HOK.out i)).below (pw_below_drewN (Below.refl _ _) nd2)⟩, ⟨keep_drewN HKx.out nd2⟩, ⟨pw_below_drewN HBx.out nd2⟩⟩
                        case measure => simp [intOf]; omega
                      · have HOK : Aside0 (ok1 T1 G b q = false) := ⟨by unfold ok1; rw [hGq, ha, decide_eq_false hle]; rfl⟩
                        have HLE2 := Aside0.mk (show b < a.top by omega)
                        clear hh hGq hpa ha hle
                        have HAx := Aside0.mk (HAr.out.below (below_drew1 (Below.refl wr.heap.size wr)))
                        have HKx := Aside0.mk (keep_drew HKr.out)
                        have HBx := Aside0.mk (below_drew1 HBr.out)
                        have J11x := Aside0.mk (blk_drew J11r.out)
                        have J20x := Aside0.mk (blk_drew J20r.out)
                        go_upto_region 35 with (fail)
                        refine start_ (n := 14) (S := fun w' => w'.cell? ⟨g11, 2, none⟩ = some (.int .u8 t.to_) ∧ w'.cell? ⟨g20, 0, none⟩ = some (.int .u64 v.f0) ∧ w'.cell? ⟨g20, 1, none⟩ = some (.int .u64 v.f1)) (ds := []) #[false, false, false, false, false, false, false, false, false, false, false, false, false, false] (by kernel_rfl) rfl rfl ⟨(blk_cell J11x.out 2).trans rfl, (blk_cell J20x.out 0).trans rfl, (blk_cell J20x.out 1).trans rfl⟩ (fun hHeld => ?_)
                        generalize wr.drew = wx at HAx HKx HBx J11x J20x hHeld ⊢
                        refine pure_ (i := 0) (N := some 130) (v := ?_) (a' := ?_) #[true, false, false, false, false, false, false, false, false, false, false, false, false, false] rfl rfl (by kernel_rfl) (fun _ _ _ h => h) (Or.inl ⟨by rfl, ?_⟩) ?_ ?_
                        rotate_left
                        · intro w'
                          go_simp
                          first | done | with_reducible rfl | rfl | (simp [Instr.field, go_sem]; rfl)
                        rotate_left
                        · simp only [Act.put, List.setIfInBounds_toArray, List.set_cons_zero, List.set_cons_succ, i64_w, i32_w]
                          rfl
                        refine pure_ (i := 3) (N := some 133) (v := ?_) (a' := ?_) #[true, false, false, true, false, false, false, false, false, false, false, false, false, false] rfl rfl (by kernel_rfl) (fun _ _ _ h => h) (Or.inl ⟨by rfl, ?_⟩) ?_ ?_
                        rotate_left
                        · intro w'
                          go_simp
                          first | done | with_reducible rfl | rfl | (simp [Instr.field, go_sem]; rfl)
                        rotate_left
                        · simp only [Act.put, List.setIfInBounds_toArray, List.set_cons_zero, List.set_cons_succ, i64_w, i32_w]
                          rfl
                        refine take_ (i := 1) (N := some 131) (v := ?_) (a' := ?_) #[true, true, false, true, false, false, false, false, false, false, false, false, false, false] rfl rfl (by kernel_rfl) (fun _ _ _ h => h) (Or.inl ⟨by rfl, ?_⟩) hHeld ?_ ?_
                        rotate_left
                        · rintro w' ⟨s0, s1, s2⟩
                          go_simp
                          first | done | with_reducible rfl | rfl | (simp [Instr.field, go_sem]; rfl)
                        rotate_left
                        · simp only [Act.put, List.setIfInBounds_toArray, List.set_cons_zero, List.set_cons_succ, i64_w, i32_w]
                          rfl
                        refine pure_ (i := 2) (N := some 132) (v := ?_) (a' := ?_) #[true, true, true, true, false, false, false, false, false, false, false, false, false, false] rfl rfl (by kernel_rfl) (fun _ _ _ h => h) (Or.inl ⟨by rfl, ?_⟩) ?_ ?_
                        rotate_left
                        · intro w'
                          go_simp
                          first | done | with_reducible rfl | rfl | (simp [Instr.field, go_sem]; rfl)
                        rotate_left
                        · simp only [Act.put, List.setIfInBounds_toArray, List.set_cons_zero, List.set_cons_succ, i64_w, i32_w]
                          rfl
                        refine one_ (i := 4) (N := some 134) #[true, true, true, true, true, false, false, false, false, false, false, false, false, false] rfl rfl (by kernel_rfl) (by decide) (fun K hK => ?_)
                        refine goes_ Try.func16 (by kernel_rfl) rfl #[.int .u64 tt, .int .i64 q] (by rfl) rfl rfl (by (try simp only [List.map_toArray, List.map_cons, List.map_nil]); first | done | rfl) ?_
                        refine (hHas.out _).mono ?_
                        rintro e w' ⟨rfl, ⟨nd, rfl⟩⟩
                        refine ⟨_, rfl, ?_⟩
                        have HAy := Aside0.mk (HAx.out.below (pw_below_drewN (Below.refl wx.heap.size wx) nd))
                        have HKy := Aside0.mk (keep_drewN HKx.out nd)
                        have HBy := Aside0.mk (pw_below_drewN HBx.out nd)
                        have J11y := Aside0.mk (blk_drewN J11x.out nd)
                        have J20y := Aside0.mk (blk_drewN J20x.out nd)
                        clear HAx HKx HBx J11x J20x hHeld
                        generalize wx.drewN nd = wx2 at HAy HKy HBy J11y J20y ⊢
                        have HAx := HAy
                        have HKx := HKy
                        have HBx := HBy
                        have J11x := J11y
                        have J20x := J20y
                        clear HAy HKy HBy J11y J20y
                        refine hK _ _ ⟨(blk_cell J11x.out 2).trans rfl, (blk_cell J20x.out 0).trans rfl, (blk_cell J20x.out 1).trans rfl⟩ (fun hHeld => ?_)
                        clear hK K
                        refine norm_ (a' := ?_) ?_ ?_
                        rotate_left
                        · show Act.put _ (some 134) _ = _
                          simp only [Act.put, List.setIfInBounds_toArray, List.set_cons_zero, List.set_cons_succ, i64_w, i32_w]
                          rfl
                        refine pure_ (i := 5) (N := some 135) (v := ?_) (a' := ?_) #[true, true, true, true, true, true, false, false, false, false, false, false, false, false] rfl rfl (by kernel_rfl) (fun _ _ _ h => h) (Or.inl ⟨by rfl, ?_⟩) ?_ ?_
                        rotate_left
                        · intro w'
                          go_simp
                          first | done | with_reducible rfl | rfl | (simp [Instr.field, go_sem]; rfl)
                        rotate_left
                        · simp only [Act.put, List.setIfInBounds_toArray, List.set_cons_zero, List.set_cons_succ, i64_w, i32_w]
                          rfl
                        refine pure_ (i := 6) (N := some 136) (v := ?_) (a' := ?_) #[true, true, true, true, true, true, true, false, false, false, false, false, false, false] rfl rfl (by kernel_rfl) (fun _ _ _ h => h) (Or.inl ⟨by rfl, ?_⟩) ?_ ?_
                        rotate_left
                        · intro w'
                          go_simp
                          first | done | with_reducible rfl | rfl | (simp [Instr.field, go_sem]; rfl)
                        rotate_left
                        · simp only [Act.put, List.setIfInBounds_toArray, List.set_cons_zero, List.set_cons_succ, i64_w, i32_w]
                          rfl
                        refine pure_ (i := 7) (N := some 137) (v := ?_) (a' := ?_) #[true, true, true, true, true, true, true, true, false, false, false, false, false, false] rfl rfl (by kernel_rfl) (fun _ _ _ h => h) (Or.inl ⟨by rfl, ?_⟩) ?_ ?_
                        rotate_left
                        · intro w'
                          go_simp
                          first | done | with_reducible rfl | rfl | (simp [Instr.field, go_sem]; rfl)
                        rotate_left
                        · simp only [Act.put, List.setIfInBounds_toArray, List.set_cons_zero, List.set_cons_succ, i64_w, i32_w]
                          rfl
                        refine pure_ (i := 8) (N := some 138) (v := ?_) (a' := ?_) #[true, true, true, true, true, true, true, true, true, false, false, false, false, false] rfl rfl (by kernel_rfl) (fun _ _ _ h => h) (Or.inl ⟨by rfl, ?_⟩) ?_ ?_
                        rotate_left
                        · intro w'
                          go_simp
                          first | done | with_reducible rfl | rfl | (simp [Instr.field, go_sem]; rfl)
                        rotate_left
                        · simp only [Act.put, List.setIfInBounds_toArray, List.set_cons_zero, List.set_cons_succ, i64_w, i32_w]
                          rfl
                        refine pure_ (i := 9) (N := some 139) (v := ?_) (a' := ?_) #[true, true, true, true, true, true, true, true, true, true, false, false, false, false] rfl rfl (by kernel_rfl) (fun _ _ _ h => h) (Or.inl ⟨by rfl, ?_⟩) ?_ ?_
                        rotate_left
                        · intro w'
                          go_simp
                          first | done | with_reducible rfl | rfl | (simp [Instr.field, go_sem]; rfl)
                        rotate_left
                        · simp only [Act.put, List.setIfInBounds_toArray, List.set_cons_zero, List.set_cons_succ, i64_w, i32_w]
                          rfl
                        refine take_ (i := 10) (N := some 140) (v := ?_) (a' := ?_) #[true, true, true, true, true, true, true, true, true, true, true, false, false, false] rfl rfl (by kernel_rfl) (fun _ _ _ h => h) (Or.inl ⟨by rfl, ?_⟩) hHeld ?_ ?_
                        rotate_left
                        · rintro w' ⟨s0, s1, s2⟩
                          go_simp
                          first | done | with_reducible rfl | rfl | (simp [Instr.field, go_sem]; rfl)
                        rotate_left
                        · simp only [Act.put, List.setIfInBounds_toArray, List.set_cons_zero, List.set_cons_succ, i64_w, i32_w]
                          rfl
                        refine one_ (i := 11) (N := some 141) #[true, true, true, true, true, true, true, true, true, true, true, true, false, false] rfl rfl (by kernel_rfl) (by decide) (fun K hK => ?_)
                        refine goes_ Try.func11 (by kernel_rfl) rfl #[.pointer (some ⟨ga, q * 4, none⟩), .int .u64 b, .agg #[.int .u64 v.f0, .int .u64 v.f1]] (by rfl) rfl rfl (by (try simp only [List.map_toArray, List.map_cons, List.map_nil]); first | done | rfl) ?_
                        refine (acc_no_is w _ ga n (accT T1 G b v q) q b v a HPA.out hqlt HB0.out HLE2.out HAx.out).mono ?_
                        rintro e wz ⟨rfl, hb_⟩
                        refine ⟨_, rfl, ?_⟩
                        have HAy := Aside0.mk (HAx.out.below hb_)
                        have HKy := Aside0.mk (KeepBut.trans HKx.out (KeepBut.of_below hb_ ga none) (.inl rfl))
                        have HBy := Aside0.mk (below_step HBx.out hb_)
                        have J11y := Aside0.mk (blk_below J11x.out hb_)
                        have J20y := Aside0.mk (blk_below J20x.out hb_)
                        clear HAx HKx HBx J11x J20x hHeld hb_
                        have HAx := HAy
                        have HKx := HKy
                        have HBx := HBy
                        have J11x := J11y
                        have J20x := J20y
                        clear HAy HKy HBy J11y J20y
                        refine hK _ _ ⟨(blk_cell J11x.out 2).trans rfl, (blk_cell J20x.out 0).trans rfl, (blk_cell J20x.out 1).trans rfl⟩ (fun hHeld => ?_)
                        clear hK K
                        refine norm_ (a' := ?_) ?_ ?_
                        rotate_left
                        · show Act.put _ (some 141) _ = _
                          simp only [Act.put, List.setIfInBounds_toArray, List.set_cons_zero, List.set_cons_succ, i64_w, i32_w]
                          rfl
                        refine pure_ (i := 12) (N := some 142) (v := ?_) (a' := ?_) #[true, true, true, true, true, true, true, true, true, true, true, true, true, false] rfl rfl (by kernel_rfl) (fun _ _ _ h => h) (Or.inl ⟨by rfl, ?_⟩) ?_ ?_
                        rotate_left
                        · intro w'
                          go_simp
                          first | done | with_reducible rfl | rfl | (simp [Instr.field, go_sem]; rfl)
                        rotate_left
                        · simp only [Act.put, List.setIfInBounds_toArray, List.set_cons_zero, List.set_cons_succ, i64_w, i32_w]
                          rfl
                        refine pure_ (i := 13) (N := some 143) (v := ?_) (a' := ?_) #[true, true, true, true, true, true, true, true, true, true, true, true, true, true] rfl rfl (by kernel_rfl) (fun _ _ _ h => h) (Or.inl ⟨by rfl, ?_⟩) ?_ ?_
                        rotate_left
                        · intro w'
                          go_simp
                          first | done | with_reducible rfl | rfl | (simp [Instr.field, go_sem]; rfl)
                        rotate_left
                        · simp only [Act.put, List.setIfInBounds_toArray, List.set_cons_zero, List.set_cons_succ, i64_w, i32_w]
                          rfl
                        refine done_ (by kernel_rfl) ?_
                        clear hHeld
                        go_wp2
                        go_roundw
                        case rel => exact ⟨q + 1, by go_num, by rw [up_same _ q HOK.out], ⟨hqlt⟩, ⟨HAx.out.ext (fun i _ => accT_no T1 G b v q HOK.out i)⟩, HKx, HBx⟩
                        case measure => simp [intOf]; omega
                  · obtain rfl : q = n := by have := hq.out; omega
                    have hmj := major_up (ok1 T1 G b) q (by omega)
                    have HKf := Aside0.mk (KeepBut.trans HKe.out HKr.out (.inl rfl))
                    have HOr := Aside0.mk (R_keeplow HOq.out HKf.out GA4.out)
                    have z0 := (blk_cell J20r.out 0).trans rfl
                    have z1 := (blk_cell J20r.out 1).trans rfl
                    by_cases hm2 : q < 2 * cntB (ok1 T1 G b) q
                    · rw [decide_eq_true hm2] at hmj
                      have HMJ2 := Aside0.mk hmj
                      have HI2 := HINV.out
                      rw [if_pos hm2] at HI2
                      have HI3 := Aside0.mk HI2
                      have hcl := HCL.out
                      clear hmj hm2 HI2 hqlt hq
                      go_wp2_with (first | (go_at_call 18; refine (conventicleref05_Major.calls 65 _ _ true _ HMJ2.out).mono ?_; rintro e wM ⟨rfl, hb_⟩; have HBM := Aside0.mk hb_; have HOM := Aside0.mk (Kd.R_below HOr.out hb_); have J20M := Aside0.mk (blk_below J20r.out hb_); have zz0 := (blk_cell J20M.out 0).trans rfl; have zz1 := (blk_cell J20M.out 1).trans rfl; have HSM := Aside0.mk (Nat.le_trans HSq.out (Nat.le_trans HKf.out.1 hb_.size)); clear hb_) | ((with_reducible refine gate_builtin (b := .append) (xs := #[.tmp 150, .tmp 152]) rfl ?_); at_builtin; refine Kd.R_append k27 w4.heap.size rfl (.tmp 150) (.tmp 152) 54 27 (.agg #[.int .u64 0, .int .u64 0]) 16 rfl Try.underlying54 (by kernel_rfl) rfl (by decide) (by decide) _ (ch) v [.int .u64 v.f0, .int .u64 v.f1] (fun _ => True) (fun _ => False) rfl rfl ?aP (fun _ hk => hk.elim) ?aF ?aO (Below.refl _ _) ?aS ?aL ?_; (case aP => exact k27_mkM _ _ _ v); (case aF => exact fun _ _ => trivial); (case aO => exact HOM.out); (case aS => exact HSM.out); (case aL => omega); intro v1 w2_ ho_ hb_ hg_ hat_; have HOf := Aside0.mk ho_; have HB2 := Aside0.mk hb_; clear ho_ hb_ hg_ hat_))
                      go_roundw
                      case rel => exact ⟨j + 1, accT T1 G b v q, upd rd k s, ch ++ [v], b, by go_num, ⟨hlt⟩, ⟨HI3.out⟩, ⟨fun k' => by have h1 := HRB.out k'; have h2 := HRB.out k; have h3 := HS1.out; unfold upd; split <;> omega⟩, ⟨by rw [List.length_append, List.length_singleton]; omega⟩, ⟨(HAr.out.below HBM.out).low HB2.out GA4.out⟩, ⟨((HRq.out.keep HKf.out (Ne.symm NG.out)).below HBM.out).low HB2.out G84.out⟩, HOf, ⟨Below.trans (below_step HBr.out HBM.out) (Below.mono HB2.out HS4.out)⟩, ⟨Nat.le_trans HSM.out HB2.out.size⟩⟩
                      case measure => simp [intOf]; omega
                    · rw [decide_eq_false hm2] at hmj
                      have HMJ2 := Aside0.mk hmj
                      have HI2 := HINV.out
                      rw [if_neg hm2] at HI2
                      have HI3 := Aside0.mk HI2
                      have hcl := HCL.out
                      clear hmj hm2 HI2 hqlt hq
                      go_wp2_with (go_at_call 18; refine (conventicleref05_Major.calls 65 _ _ false _ HMJ2.out).mono ?_; rintro e wM ⟨rfl, hb_⟩; have HBM := Aside0.mk hb_; have HOf := Aside0.mk (Kd.R_below HOr.out hb_); have HKM := Aside0.mk (KeepBut.trans HKf.out (KeepBut.of_below hb_ ga none) (.inl rfl)); clear hb_)
                      go_roundw
                      case rel => exact ⟨j + 1, accT T1 G b v q, upd rd k s, ch, b, by go_num, ⟨hlt⟩, ⟨HI3.out⟩, ⟨fun k' => by have h1 := HRB.out k'; have h2 := HRB.out k; have h3 := HS1.out; unfold upd; split <;> omega⟩, ⟨by omega⟩, ⟨HAr.out.below HBM.out⟩, ⟨HRq.out.keep HKM.out (Ne.symm NG.out)⟩, HOf, ⟨below_step HBr.out HBM.out⟩, ⟨Nat.le_trans HSq.out (HKM.out).1⟩⟩
                      case measure => simp [intOf]; omega
              · obtain ⟨v, hv⟩ : ∃ v : S27, be.f1 = v := ⟨_, rfl⟩
                have HVV : Aside0 (0 < (bestOf (prepL T F b n)).f0 → v = (bestOf (prepL T F b n)).f1) := ⟨fun _ => by rw [HBEST.out, hv]⟩
                rw [hv] at J20
                clear hv his
                rename World => we
                obtain ⟨T1, hT1⟩ : ∃ T1, prepT T F b n = T1 := ⟨_, rfl⟩
                have HT1 := Aside0.mk hT1
                have HINV := Aside0.mk (AInv.turn HI.out hn7 k hkn s HS1.out.1 (HRB.out k).1 F G b HBE.out hmaj v HVV.out)
                rw [hT1] at HAe HINV
                have HAs : Aside0 (ARow we ga n (accT T1 G b v 0)) := ⟨HAe.out.ext (fun i _ => by unfold accT; rw [if_neg (fun h => Nat.not_lt_zero i h.1)])⟩
                have HK0 := Aside0.mk (KeepBut.refl we ga none)
                have N20a : Aside0 (g20 ≠ ga) := N20
                clear hT1 hmaj HAe
                go_wp2
                go_loopw [22, 23] (fun x i wr => ∃ q : Nat, i = .int .i64 q ∧ x = .int .u64 (bitsUp (ok1 T1 G b) q : Nat) ∧ Aside0 (q ≤ n) ∧ Aside0 (ARow wr ga n (accT T1 G b v q)) ∧ Aside0 (KeepBut we wr ga none) ∧ Aside0 (Below w.heap.size w wr))
                  (fun _ i _ => n - (intOf i).toNat)
                case atStart => exact ⟨0, rfl, rfl, ⟨Nat.zero_le _⟩, HAs, HK0, HBe⟩
                case round =>
                  clear HAs HK0
                  obtain ⟨q, rfl, rfl, hq, HAr, HKr, HBr⟩ := hrel
                  have J11r := Aside0.mk ((HKr.out.2 g11 (blk_lt J11e.out) N11a.out (by simp)).trans J11e.out)
                  have J20r := Aside0.mk ((HKr.out.2 g20 (blk_lt J20.out) N20a.out (by simp)).trans J20.out)
                  have htw := HTT.out
                  by_cases hqlt : q < n
                  · have hh := HHT.out q (by omega)
                    have pq0 : ((0 : Int) ≤ (q : Int)) = True := eq_true (by omega)
                    have pq1 : ((q : Int) < (n : Int)) = True := eq_true (by omega)
                    cases hGq : G q
                    · rw [hGq] at hh
                      have HH := Aside0.mk hh
                      have hHas : Aside0 (∀ w, Calls Try.prog 16 #[.int .u64 tt, .int .i64 q] w fun e w' => e = .returned (.bool false) ∧ Drawn0 w w') := ⟨fun w => conventicleref05_Has.calls tt q false w HH.out⟩
                      have HOK : Aside0 (ok1 T1 G b q = false) := ⟨by unfold ok1; rw [hGq]; rfl⟩
                      clear hh hGq
                      have HAx := Aside0.mk (HAr.out.below (below_drew1 (Below.refl wr.heap.size wr)))
                      have HKx := Aside0.mk (keep_drew HKr.out)
                      have HBx := Aside0.mk (below_drew1 HBr.out)
                      have J11x := Aside0.mk (blk_drew J11r.out)
                      have J20x := Aside0.mk (blk_drew J20r.out)
                      go_upto_region 35 with (fail)
                      refine start_ (n := 14) (S := fun w' => w'.cell? ⟨g11, 2, none⟩ = some (.int .u8 t.to_) ∧ w'.cell? ⟨g20, 0, none⟩ = some (.int .u64 v.f0) ∧ w'.cell? ⟨g20, 1, none⟩ = some (.int .u64 v.f1)) (ds := []) #[false, false, false, false, false, false, false, false, false, false, false, false, false, false] (by kernel_rfl) rfl rfl ⟨(blk_cell J11x.out 2).trans rfl, (blk_cell J20x.out 0).trans rfl, (blk_cell J20x.out 1).trans rfl⟩ (fun hHeld => ?_)
                      generalize wr.drew = wx at HAx HKx HBx J11x J20x hHeld ⊢
                      refine pure_ (i := 0) (N := some 130) (v := ?_) (a' := ?_) #[true, false, false, false, false, false, false, false, false, false, false, false, false, false] rfl rfl (by kernel_rfl) (fun _ _ _ h => h) (Or.inl ⟨by rfl, ?_⟩) ?_ ?_
                      rotate_left
                      · intro w'
                        go_simp
                        first | done | with_reducible rfl | rfl | (simp [Instr.field, go_sem]; rfl)
                      rotate_left
                      · simp only [Act.put, List.setIfInBounds_toArray, List.set_cons_zero, List.set_cons_succ, i64_w, i32_w]
                        rfl
                      refine pure_ (i := 3) (N := some 133) (v := ?_) (a' := ?_) #[true, false, false, true, false, false, false, false, false, false, false, false, false, false] rfl rfl (by kernel_rfl) (fun _ _ _ h => h) (Or.inl ⟨by rfl, ?_⟩) ?_ ?_
                      rotate_left
                      · intro w'
                        go_simp
                        first | done | with_reducible rfl | rfl | (simp [Instr.field, go_sem]; rfl)
                      rotate_left
                      · simp only [Act.put, List.setIfInBounds_toArray, List.set_cons_zero, List.set_cons_succ, i64_w, i32_w]
                        rfl
                      refine take_ (i := 1) (N := some 131) (v := ?_) (a' := ?_) #[true, true, false, true, false, false, false, false, false, false, false, false, false, false] rfl rfl (by kernel_rfl) (fun _ _ _ h => h) (Or.inl ⟨by rfl, ?_⟩) hHeld ?_ ?_
                      rotate_left
                      · rintro w' ⟨s0, s1, s2⟩
                        go_simp
                        first | done | with_reducible rfl | rfl | (simp [Instr.field, go_sem]; rfl)
                      rotate_left
                      · simp only [Act.put, List.setIfInBounds_toArray, List.set_cons_zero, List.set_cons_succ, i64_w, i32_w]
                        rfl
                      refine pure_ (i := 2) (N := some 132) (v := ?_) (a' := ?_) #[true, true, true, true, false, false, false, false, false, false, false, false, false, false] rfl rfl (by kernel_rfl) (fun _ _ _ h => h) (Or.inl ⟨by rfl, ?_⟩) ?_ ?_
                      rotate_left
                      · intro w'
                        go_simp
                        first | done | with_reducible rfl | rfl | (simp [Instr.field, go_sem]; rfl)
                      rotate_left
                      · simp only [Act.put, List.setIfInBounds_toArray, List.set_cons_zero, List.set_cons_succ, i64_w, i32_w]
                        rfl
                      refine one_ (i := 4) (N := some 134) #[true, true, true, true, true, false, false, false, false, false, false, false, false, false] rfl rfl (by kernel_rfl) (by decide) (fun K hK => ?_)
                      refine goes_ Try.func16 (by kernel_rfl) rfl #[.int .u64 tt, .int .i64 q] (by rfl) rfl rfl (by (try simp only [List.map_toArray, List.map_cons, List.map_nil]); first | done | rfl) ?_
                      refine (hHas.out _).mono ?_
                      rintro e w' ⟨rfl, ⟨nd, rfl⟩⟩
                      refine ⟨_, rfl, ?_⟩
                      have HAy := Aside0.mk (HAx.out.below (pw_below_drewN (Below.refl wx.heap.size wx) nd))
                      have HKy := Aside0.mk (keep_drewN HKx.out nd)
                      have HBy := Aside0.mk (pw_below_drewN HBx.out nd)
                      have J11y := Aside0.mk (blk_drewN J11x.out nd)
                      have J20y := Aside0.mk (blk_drewN J20x.out nd)
                      clear HAx HKx HBx J11x J20x hHeld
                      generalize wx.drewN nd = wx2 at HAy HKy HBy J11y J20y ⊢
                      have HAx := HAy
                      have HKx := HKy
                      have HBx := HBy
                      have J11x := J11y
                      have J20x := J20y
                      clear HAy HKy HBy J11y J20y
                      refine hK _ _ ⟨(blk_cell J11x.out 2).trans rfl, (blk_cell J20x.out 0).trans rfl, (blk_cell J20x.out 1).trans rfl⟩ (fun hHeld => ?_)
                      clear hK K
                      refine norm_ (a' := ?_) ?_ ?_
                      rotate_left
                      · show Act.put _ (some 134) _ = _
                        simp only [Act.put, List.setIfInBounds_toArray, List.set_cons_zero, List.set_cons_succ, i64_w, i32_w]
                        rfl
                      refine pure_ (i := 5) (N := some 135) (v := ?_) (a' := ?_) #[true, true, true, true, true, true, false, false, false, false, false, false, false, false] rfl rfl (by kernel_rfl) (fun _ _ _ h => h) (Or.inl ⟨by rfl, ?_⟩) ?_ ?_
                      rotate_left
                      · intro w'
                        go_simp
                        first | done | with_reducible rfl | rfl | (simp [Instr.field, go_sem]; rfl)
                      rotate_left
                      · simp only [Act.put, List.setIfInBounds_toArray, List.set_cons_zero, List.set_cons_succ, i64_w, i32_w]
                        rfl
                      refine pure_ (i := 6) (N := some 136) (v := undef) (a' := ?_) #[true, true, true, true, true, true, true, false, false, false, false, false, false, false] rfl rfl (by kernel_rfl) (fun _ _ _ h => h) (Or.inr ⟨by rfl, rfl⟩) ?_ ?_
                      rotate_left
                      · simp only [Act.put, List.setIfInBounds_toArray, List.set_cons_zero, List.set_cons_succ, i64_w, i32_w]
                        rfl
                      refine pure_ (i := 7) (N := some 137) (v := undef) (a' := ?_) #[true, true, true, true, true, true, true, true, false, false, false, false, false, false] rfl rfl (by kernel_rfl) (fun _ _ _ h => h) (Or.inr ⟨by rfl, rfl⟩) ?_ ?_
                      rotate_left
                      · simp only [Act.put, List.setIfInBounds_toArray, List.set_cons_zero, List.set_cons_succ, i64_w, i32_w]
                        rfl
                      refine pure_ (i := 8) (N := some 138) (v := undef) (a' := ?_) #[true, true, true, true, true, true, true, true, true, false, false, false, false, false] rfl rfl (by kernel_rfl) (fun _ _ _ h => h) (Or.inr ⟨by rfl, rfl⟩) ?_ ?_
                      rotate_left
                      · simp only [Act.put, List.setIfInBounds_toArray, List.set_cons_zero, List.set_cons_succ, i64_w, i32_w]
                        rfl
                      refine pure_ (i := 9) (N := some 139) (v := undef) (a' := ?_) #[true, true, true, true, true, true, true, true, true, true, false, false, false, false] rfl rfl (by kernel_rfl) (fun _ _ _ h => h) (Or.inr ⟨by rfl, rfl⟩) ?_ ?_
                      rotate_left
                      · simp only [Act.put, List.setIfInBounds_toArray, List.set_cons_zero, List.set_cons_succ, i64_w, i32_w]
                        rfl
                      refine pure_ (i := 10) (N := some 140) (v := undef) (a' := ?_) #[true, true, true, true, true, true, true, true, true, true, true, false, false, false] rfl rfl (by kernel_rfl) (fun _ _ _ h => h) (Or.inr ⟨by rfl, rfl⟩) ?_ ?_
                      rotate_left
                      · simp only [Act.put, List.setIfInBounds_toArray, List.set_cons_zero, List.set_cons_succ, i64_w, i32_w]
                        rfl
                      refine pure_ (i := 11) (N := some 141) (v := undef) (a' := ?_) #[true, true, true, true, true, true, true, true, true, true, true, true, false, false] rfl rfl (by kernel_rfl) (fun _ _ _ h => h) (Or.inr ⟨by rfl, rfl⟩) ?_ ?_
                      rotate_left
                      · simp only [Act.put, List.setIfInBounds_toArray, List.set_cons_zero, List.set_cons_succ, i64_w, i32_w]
                        rfl
                      refine pure_ (i := 12) (N := some 142) (v := undef) (a' := ?_) #[true, true, true, true, true, true, true, true, true, true, true, true, true, false] rfl rfl (by kernel_rfl) (fun _ _ _ h => h) (Or.inr ⟨by rfl, rfl⟩) ?_ ?_
                      rotate_left
                      · simp only [Act.put, List.setIfInBounds_toArray, List.set_cons_zero, List.set_cons_succ, i64_w, i32_w]
                        rfl
                      refine pure_ (i := 13) (N := some 143) (v := ?_) (a' := ?_) #[true, true, true, true, true, true, true, true, true, true, true, true, true, true] rfl rfl (by kernel_rfl) (fun _ _ _ h => h) (Or.inl ⟨by rfl, ?_⟩) ?_ ?_
                      rotate_left
                      · intro w'
                        go_simp
                        first | done | with_reducible rfl | rfl | (simp [Instr.field, go_sem]; rfl)
                      rotate_left
                      · simp only [Act.put, List.setIfInBounds_toArray, List.set_cons_zero, List.set_cons_succ, i64_w, i32_w]
                        rfl
                      refine done_ (by kernel_rfl) ?_
                      clear hHeld
                      go_wp2
                      go_roundw
                      case rel => exact ⟨q + 1, by go_num, by rw [up_same _ q HOK.out], ⟨hqlt⟩, ⟨HAx.out.ext (fun i _ => accT_no T1 G b v q HOK.out i)⟩, HKx, HBx⟩
                      case measure => simp [intOf]; omega
                    · rw [hGq] at hh
                      have HH := Aside0.mk hh
                      have hHas : Aside0 (∀ w, Calls Try.prog 16 #[.int .u64 tt, .int .i64 q] w fun e w' => e = .returned (.bool true) ∧ Drawn0 w w') := ⟨fun w => conventicleref05_Has.calls tt q true w HH.out⟩
                      have hpa := accT_at T1 G b v q
                      obtain ⟨a, ha⟩ : ∃ a, T1 q = a := ⟨_, rfl⟩
                      rw [ha] at hpa
                      have HPA := Aside0.mk hpa
                      by_cases hle : a.top ≤ b
                      · have HOK : Aside0 (ok1 T1 G b q = true) := ⟨by unfold ok1; rw [hGq, ha, decide_eq_true hle]; rfl⟩
                        have HWI := Aside0.mk (with_up (ok1 T1 G b) q (by omega) HOK.out)
                        have HLE2 := Aside0.mk hle
                        clear hh hGq hpa ha hle
                        have HAx := Aside0.mk (HAr.out.below (below_drew1 (Below.refl wr.heap.size wr)))
                        have HKx := Aside0.mk (keep_drew HKr.out)
                        have HBx := Aside0.mk (below_drew1 HBr.out)
                        have J11x := Aside0.mk (blk_drew J11r.out)
                        have J20x := Aside0.mk (blk_drew J20r.out)
                        go_upto_region 35 with (fail)
                        refine start_ (n := 14) (S := fun w' => w'.cell? ⟨g11, 2, none⟩ = some (.int .u8 t.to_) ∧ w'.cell? ⟨g20, 0, none⟩ = some (.int .u64 v.f0) ∧ w'.cell? ⟨g20, 1, none⟩ = some (.int .u64 v.f1)) (ds := []) #[false, false, false, false, false, false, false, false, false, false, false, false, false, false] (by kernel_rfl) rfl rfl ⟨(blk_cell J11x.out 2).trans rfl, (blk_cell J20x.out 0).trans rfl, (blk_cell J20x.out 1).trans rfl⟩ (fun hHeld => ?_)
                        generalize wr.drew = wx at HAx HKx HBx J11x J20x hHeld ⊢
                        refine pure_ (i := 0) (N := some 130) (v := ?_) (a' := ?_) #[true, false, false, false, false, false, false, false, false, false, false, false, false, false] rfl rfl (by kernel_rfl) (fun _ _ _ h => h) (Or.inl ⟨by rfl, ?_⟩) ?_ ?_
                        rotate_left
                        · intro w'
                          go_simp
                          first | done | with_reducible rfl | rfl | (simp [Instr.field, go_sem]; rfl)
                        rotate_left
                        · simp only [Act.put, List.setIfInBounds_toArray, List.set_cons_zero, List.set_cons_succ, i64_w, i32_w]
                          rfl
                        refine pure_ (i := 3) (N := some 133) (v := ?_) (a' := ?_) #[true, false, false, true, false, false, false, false, false, false, false, false, false, false] rfl rfl (by kernel_rfl) (fun _ _ _ h => h) (Or.inl ⟨by rfl, ?_⟩) ?_ ?_
                        rotate_left
                        · intro w'
                          go_simp
                          first | done | with_reducible rfl | rfl | (simp [Instr.field, go_sem]; rfl)
                        rotate_left
                        · simp only [Act.put, List.setIfInBounds_toArray, List.set_cons_zero, List.set_cons_succ, i64_w, i32_w]
                          rfl
                        refine take_ (i := 1) (N := some 131) (v := ?_) (a' := ?_) #[true, true, false, true, false, false, false, false, false, false, false, false, false, false] rfl rfl (by kernel_rfl) (fun _ _ _ h => h) (Or.inl ⟨by rfl, ?_⟩) hHeld ?_ ?_
                        rotate_left
                        · rintro w' ⟨s0, s1, s2⟩
                          go_simp
                          first | done | with_reducible rfl | rfl | (simp [Instr.field, go_sem]; rfl)
                        rotate_left
                        · simp only [Act.put, List.setIfInBounds_toArray, List.set_cons_zero, List.set_cons_succ, i64_w, i32_w]
                          rfl
                        refine pure_ (i := 2) (N := some 132) (v := ?_) (a' := ?_) #[true, true, true, true, false, false, false, false, false, false, false, false, false, false] rfl rfl (by kernel_rfl) (fun _ _ _ h => h) (Or.inl ⟨by rfl, ?_⟩) ?_ ?_
                        rotate_left
                        · intro w'
                          go_simp
                          first | done | with_reducible rfl | rfl | (simp [Instr.field, go_sem]; rfl)
                        rotate_left
                        · simp only [Act.put, List.setIfInBounds_toArray, List.set_cons_zero, List.set_cons_succ, i64_w, i32_w]
                          rfl
                        refine one_ (i := 4) (N := some 134) #[true, true, true, true, true, false, false, false, false, false, false, false, false, false] rfl rfl (by kernel_rfl) (by decide) (fun K hK => ?_)
                        refine goes_ Try.func16 (by kernel_rfl) rfl #[.int .u64 tt, .int .i64 q] (by rfl) rfl rfl (by (try simp only [List.map_toArray, List.map_cons, List.map_nil]); first | done | rfl) ?_
                        refine (hHas.out _).mono ?_
                        rintro e w' ⟨rfl, ⟨nd, rfl⟩⟩
                        refine ⟨_, rfl, ?_⟩
                        have HAy := Aside0.mk (HAx.out.below (pw_below_drewN (Below.refl wx.heap.size wx) nd))
                        have HKy := Aside0.mk (keep_drewN HKx.out nd)
                        have HBy := Aside0.mk (pw_below_drewN HBx.out nd)
                        have J11y := Aside0.mk (blk_drewN J11x.out nd)
                        have J20y := Aside0.mk (blk_drewN J20x.out nd)
                        clear HAx HKx HBx J11x J20x hHeld
                        generalize wx.drewN nd = wx2 at HAy HKy HBy J11y J20y ⊢
                        have HAx := HAy
                        have HKx := HKy
                        have HBx := HBy
                        have J11x := J11y
                        have J20x := J20y
                        clear HAy HKy HBy J11y J20y
                        refine hK _ _ ⟨(blk_cell J11x.out 2).trans rfl, (blk_cell J20x.out 0).trans rfl, (blk_cell J20x.out 1).trans rfl⟩ (fun hHeld => ?_)
                        clear hK K
                        refine norm_ (a' := ?_) ?_ ?_
                        rotate_left
                        · show Act.put _ (some 134) _ = _
                          simp only [Act.put, List.setIfInBounds_toArray, List.set_cons_zero, List.set_cons_succ, i64_w, i32_w]
                          rfl
                        refine pure_ (i := 5) (N := some 135) (v := ?_) (a' := ?_) #[true, true, true, true, true, true, false, false, false, false, false, false, false, false] rfl rfl (by kernel_rfl) (fun _ _ _ h => h) (Or.inl ⟨by rfl, ?_⟩) ?_ ?_
                        rotate_left
                        · intro w'
                          go_simp
                          first | done | with_reducible rfl | rfl | (simp [Instr.field, go_sem]; rfl)
                        rotate_left
                        · simp only [Act.put, List.setIfInBounds_toArray, List.set_cons_zero, List.set_cons_succ, i64_w, i32_w]
                          rfl
                        refine pure_ (i := 6) (N := some 136) (v := ?_) (a' := ?_) #[true, true, true, true, true, true, true, false, false, false, false, false, false, false] rfl rfl (by kernel_rfl) (fun _ _ _ h => h) (Or.inl ⟨by rfl, ?_⟩) ?_ ?_
                        rotate_left
                        · intro w'
                          go_simp
                          first | done | with_reducible rfl | rfl | (simp [Instr.field, go_sem]; rfl)
                        rotate_left
                        · simp only [Act.put, List.setIfInBounds_toArray, List.set_cons_zero, List.set_cons_succ, i64_w, i32_w]
                          rfl
                        refine pure_ (i := 7) (N := some 137) (v := ?_) (a' := ?_) #[true, true, true, true, true, true, true, true, false, false, false, false, false, false] rfl rfl (by kernel_rfl) (fun _ _ _ h => h) (Or.inl ⟨by rfl, ?_⟩) ?_ ?_
                        rotate_left
                        · intro w'
                          go_simp
                          first | done | with_reducible rfl | rfl | (simp [Instr.field, go_sem]; rfl)
                        rotate_left
                        · simp only [Act.put, List.setIfInBounds_toArray, List.set_cons_zero, List.set_cons_succ, i64_w, i32_w]
                          rfl
                        refine pure_ (i := 8) (N := some 138) (v := ?_) (a' := ?_) #[true, true, true, true, true, true, true, true, true, false, false, false, false, false] rfl rfl (by kernel_rfl) (fun _ _ _ h => h) (Or.inl ⟨by rfl, ?_⟩) ?_ ?_
                        rotate_left
                        · intro w'
                          go_simp
                          first | done | with_reducible rfl | rfl | (simp [Instr.field, go_sem]; rfl)
                        rotate_left
                        · simp only [Act.put, List.setIfInBounds_toArray, List.set_cons_zero, List.set_cons_succ, i64_w, i32_w]
                          rfl
                        refine pure_ (i := 9) (N := some 139) (v := ?_) (a' := ?_) #[true, true, true, true, true, true, true, true, true, true, false, false, false, false] rfl rfl (by kernel_rfl) (fun _ _ _ h => h) (Or.inl ⟨by rfl, ?_⟩) ?_ ?_
                        rotate_left
                        · intro w'
                          go_simp
                          first | done | with_reducible rfl | rfl | (simp [Instr.field, go_sem]; rfl)
                        rotate_left
                        · simp only [Act.put, List.setIfInBounds_toArray, List.set_cons_zero, List.set_cons_succ, i64_w, i32_w]
                          rfl
                        refine take_ (i := 10) (N := some 140) (v := ?_) (a' := ?_) #[true, true, true, true, true, true, true, true, true, true, true, false, false, false] rfl rfl (by kernel_rfl) (fun _ _ _ h => h) (Or.inl ⟨by rfl, ?_⟩) hHeld ?_ ?_
                        rotate_left
                        · rintro w' ⟨s0, s1, s2⟩
                          go_simp
                          first | done | with_reducible rfl | rfl | (simp [Instr.field, go_sem]; rfl)
                        rotate_left
                        · simp only [Act.put, List.setIfInBounds_toArray, List.set_cons_zero, List.set_cons_succ, i64_w, i32_w]
                          rfl
                        refine one_ (i := 11) (N := some 141) #[true, true, true, true, true, true, true, true, true, true, true, true, false, false] rfl rfl (by kernel_rfl) (by decide) (fun K hK => ?_)
                        refine goes_ Try.func11 (by kernel_rfl) rfl #[.pointer (some ⟨ga, q * 4, none⟩), .int .u64 b, .agg #[.int .u64 v.f0, .int .u64 v.f1]] (by rfl) rfl rfl (by (try simp only [List.map_toArray, List.map_cons, List.map_nil]); first | done | rfl) ?_
                        refine (acc_ok_is w _ ga n (accT T1 G b v q) q b v a HPA.out hqlt HB0.out HLE2.out HAx.out HGa.out HBx.out).mono ?_
                        rintro e wz ⟨rfl, hA_, hB_, hK_⟩
                        refine ⟨_, rfl, ?_⟩
                        have J11y := Aside0.mk ((hK_.2 g11 (blk_lt J11x.out) N11a.out (by simp)).trans J11x.out)
                        have J20y := Aside0.mk ((hK_.2 g20 (blk_lt J20x.out) N20a.out (by simp)).trans J20x.out)
                        have HKy := Aside0.mk (KeepBut.trans HKx.out hK_ (.inl rfl))
                        clear HAx HKx HBx J11x J20x hHeld
                        have HAx := Aside0.mk hA_
                        have HBx := Aside0.mk hB_
                        have HKx := HKy
                        have J11x := J11y
                        have J20x := J20y
                        clear HKy J11y J20y hA_ hB_ hK_
                        refine hK _ _ ⟨(blk_cell J11x.out 2).trans rfl, (blk_cell J20x.out 0).trans rfl, (blk_cell J20x.out 1).trans rfl⟩ (fun hHeld => ?_)
                        clear hK K
                        refine norm_ (a' := ?_) ?_ ?_
                        rotate_left
                        · show Act.put _ (some 141) _ = _
                          simp only [Act.put, List.setIfInBounds_toArray, List.set_cons_zero, List.set_cons_succ, i64_w, i32_w]
                          rfl
                        refine pure_ (i := 12) (N := some 142) (v := ?_) (a' := ?_) #[true, true, true, true, true, true, true, true, true, true, true, true, true, false] rfl rfl (by kernel_rfl) (fun _ _ _ h => h) (Or.inl ⟨by rfl, ?_⟩) ?_ ?_
                        rotate_left
                        · intro w'
                          go_simp
                          first | done | with_reducible rfl | rfl | (simp [Instr.field, go_sem]; rfl)
                        rotate_left
                        · simp only [Act.put, List.setIfInBounds_toArray, List.set_cons_zero, List.set_cons_succ, i64_w, i32_w]
                          rfl
                        refine pure_ (i := 13) (N := some 143) (v := ?_) (a' := ?_) #[true, true, true, true, true, true, true, true, true, true, true, true, true, true] rfl rfl (by kernel_rfl) (fun _ _ _ h => h) (Or.inl ⟨by rfl, ?_⟩) ?_ ?_
                        rotate_left
                        · intro w'
                          go_simp
                          first | done | with_reducible rfl | rfl | (simp [Instr.field, go_sem]; rfl)
                        rotate_left
                        · simp only [Act.put, List.setIfInBounds_toArray, List.set_cons_zero, List.set_cons_succ, i64_w, i32_w]
                          rfl
                        refine done_ (by kernel_rfl) ?_
                        clear hHeld
                        go_wp2_with (go_at_call 17; refine (conventicleref05_With.calls (bitsUp (ok1 T1 G b) q : Nat) (q : Int) _ _ HWI.out).mono ?_; rintro e wn2 ⟨rfl, ⟨nd2, rfl⟩⟩)
                        go_roundw
                        case rel => exact ⟨q + 1, by go_num, rfl, ⟨hqlt⟩, ⟨(HAx.out.ext (fun i _ => accT_ok T1 G b v q HOK.out i)).below (pw_below_drewN (Below.refl _ _) nd2)⟩, ⟨keep_drewN HKx.out nd2⟩, ⟨pw_below_drewN HBx.out nd2⟩⟩
                        case measure => simp [intOf]; omega
                      · have HOK : Aside0 (ok1 T1 G b q = false) := ⟨by unfold ok1; rw [hGq, ha, decide_eq_false hle]; rfl⟩
                        have HLE2 := Aside0.mk (show b < a.top by omega)
                        clear hh hGq hpa ha hle
                        have HAx := Aside0.mk (HAr.out.below (below_drew1 (Below.refl wr.heap.size wr)))
                        have HKx := Aside0.mk (keep_drew HKr.out)
                        have HBx := Aside0.mk (below_drew1 HBr.out)
                        have J11x := Aside0.mk (blk_drew J11r.out)
                        have J20x := Aside0.mk (blk_drew J20r.out)
                        go_upto_region 35 with (fail)
                        refine start_ (n := 14) (S := fun w' => w'.cell? ⟨g11, 2, none⟩ = some (.int .u8 t.to_) ∧ w'.cell? ⟨g20, 0, none⟩ = some (.int .u64 v.f0) ∧ w'.cell? ⟨g20, 1, none⟩ = some (.int .u64 v.f1)) (ds := []) #[false, false, false, false, false, false, false, false, false, false, false, false, false, false] (by kernel_rfl) rfl rfl ⟨(blk_cell J11x.out 2).trans rfl, (blk_cell J20x.out 0).trans rfl, (blk_cell J20x.out 1).trans rfl⟩ (fun hHeld => ?_)
                        generalize wr.drew = wx at HAx HKx HBx J11x J20x hHeld ⊢
                        refine pure_ (i := 0) (N := some 130) (v := ?_) (a' := ?_) #[true, false, false, false, false, false, false, false, false, false, false, false, false, false] rfl rfl (by kernel_rfl) (fun _ _ _ h => h) (Or.inl ⟨by rfl, ?_⟩) ?_ ?_
                        rotate_left
                        · intro w'
                          go_simp
                          first | done | with_reducible rfl | rfl | (simp [Instr.field, go_sem]; rfl)
                        rotate_left
                        · simp only [Act.put, List.setIfInBounds_toArray, List.set_cons_zero, List.set_cons_succ, i64_w, i32_w]
                          rfl
                        refine pure_ (i := 3) (N := some 133) (v := ?_) (a' := ?_) #[true, false, false, true, false, false, false, false, false, false, false, false, false, false] rfl rfl (by kernel_rfl) (fun _ _ _ h => h) (Or.inl ⟨by rfl, ?_⟩) ?_ ?_
                        rotate_left
                        · intro w'
                          go_simp
                          first | done | with_reducible rfl | rfl | (simp [Instr.field, go_sem]; rfl)
                        rotate_left
                        · simp only [Act.put, List.setIfInBounds_toArray, List.set_cons_zero, List.set_cons_succ, i64_w, i32_w]
                          rfl
                        refine take_ (i := 1) (N := some 131) (v := ?_) (a' := ?_) #[true, true, false, true, false, false, false, false, false, false, false, false, false, false] rfl rfl (by kernel_rfl) (fun _ _ _ h => h) (Or.inl ⟨by rfl, ?_⟩) hHeld ?_ ?_
                        rotate_left
                        · rintro w' ⟨s0, s1, s2⟩
                          go_simp
                          first | done | with_reducible rfl | rfl | (simp [Instr.field, go_sem]; rfl)
                        rotate_left
                        · simp only [Act.put, List.setIfInBounds_toArray, List.set_cons_zero, List.set_cons_succ, i64_w, i32_w]
                          rfl
                        refine pure_ (i := 2) (N := some 132) (v := ?_) (a' := ?_) #[true, true, true, true, false, false, false, false, false, false, false, false, false, false] rfl rfl (by kernel_rfl) (fun _ _ _ h => h) (Or.inl ⟨by rfl, ?_⟩) ?_ ?_
                        rotate_left
                        · intro w'
                          go_simp
                          first | done | with_reducible rfl | rfl | (simp [Instr.field, go_sem]; rfl)
                        rotate_left
                        · simp only [Act.put, List.setIfInBounds_toArray, List.set_cons_zero, List.set_cons_succ, i64_w, i32_w]
                          rfl
                        refine one_ (i := 4) (N := some 134) #[true, true, true, true, true, false, false, false, false, false, false, false, false, false] rfl rfl (by kernel_rfl) (by decide) (fun K hK => ?_)
                        refine goes_ Try.func16 (by kernel_rfl) rfl #[.int .u64 tt, .int .i64 q] (by rfl) rfl rfl (by (try simp only [List.map_toArray, List.map_cons, List.map_nil]); first | done | rfl) ?_
                        refine (hHas.out _).mono ?_
                        rintro e w' ⟨rfl, ⟨nd, rfl⟩⟩
                        refine ⟨_, rfl, ?_⟩
                        have HAy := Aside0.mk (HAx.out.below (pw_below_drewN (Below.refl wx.heap.size wx) nd))
                        have HKy := Aside0.mk (keep_drewN HKx.out nd)
                        have HBy := Aside0.mk (pw_below_drewN HBx.out nd)
                        have J11y := Aside0.mk (blk_drewN J11x.out nd)
                        have J20y := Aside0.mk (blk_drewN J20x.out nd)
                        clear HAx HKx HBx J11x J20x hHeld
                        generalize wx.drewN nd = wx2 at HAy HKy HBy J11y J20y ⊢
                        have HAx := HAy
                        have HKx := HKy
                        have HBx := HBy
                        have J11x := J11y
                        have J20x := J20y
                        clear HAy HKy HBy J11y J20y
                        refine hK _ _ ⟨(blk_cell J11x.out 2).trans rfl, (blk_cell J20x.out 0).trans rfl, (blk_cell J20x.out 1).trans rfl⟩ (fun hHeld => ?_)
                        clear hK K
                        refine norm_ (a' := ?_) ?_ ?_
                        rotate_left
                        · show Act.put _ (some 134) _ = _
                          simp only [Act.put, List.setIfInBounds_toArray, List.set_cons_zero, List.set_cons_succ, i64_w, i32_w]
                          rfl
                        refine pure_ (i := 5) (N := some 135) (v := ?_) (a' := ?_) #[true, true, true, true, true, true, false, false, false, false, false, false, false, false] rfl rfl (by kernel_rfl) (fun _ _ _ h => h) (Or.inl ⟨by rfl, ?_⟩) ?_ ?_
                        rotate_left
                        · intro w'
                          go_simp
                          first | done | with_reducible rfl | rfl | (simp [Instr.field, go_sem]; rfl)
                        rotate_left
                        · simp only [Act.put, List.setIfInBounds_toArray, List.set_cons_zero, List.set_cons_succ, i64_w, i32_w]
                          rfl
                        refine pure_ (i := 6) (N := some 136) (v := ?_) (a' := ?_) #[true, true, true, true, true, true, true, false, false, false, false, false, false, false] rfl rfl (by kernel_rfl) (fun _ _ _ h => h) (Or.inl ⟨by rfl, ?_⟩) ?_ ?_
                        rotate_left
                        · intro w'
                          go_simp
                          first | done | with_reducible rfl | rfl | (simp [Instr.field, go_sem]; rfl)
                        rotate_left
                        · simp only [Act.put, List.setIfInBounds_toArray, List.set_cons_zero, List.set_cons_succ, i64_w, i32_w]
                          rfl
                        refine pure_ (i := 7) (N := some 137) (v := ?_) (a' := ?_) #[true, true, true, true, true, true, true, true, false, false, false, false, false, false] rfl rfl (by kernel_rfl) (fun _ _ _ h => h) (Or.inl ⟨by rfl, ?_⟩) ?_ ?_
                        rotate_left
                        · intro w'
                          go_simp
                          first | done | with_reducible rfl | rfl | (simp [Instr.field, go_sem]; rfl)
                        rotate_left
                        · simp only [Act.put, List.setIfInBounds_toArray, List.set_cons_zero, List.set_cons_succ, i64_w, i32_w]
                          rfl
                        refine pure_ (i := 8) (N := some 138) (v := ?_) (a' := ?_) #[true, true, true, true, true, true, true, true, true, false, false, false, false, false] rfl rfl (by kernel_rfl) (fun _ _ _ h => h) (Or.inl ⟨by rfl, ?_⟩) ?_ ?_
                        rotate_left
                        · intro w'
                          go_simp
                          first | done | with_reducible rfl | rfl | (simp [Instr.field, go_sem]; rfl)
                        rotate_left
                        · simp only [Act.put, List.setIfInBounds_toArray, List.set_cons_zero, List.set_cons_succ, i64_w, i32_w]
                          rfl
                        refine pure_ (i := 9) (N := some 139) (v := ?_) (a' := ?_) #[true, true, true, true, true, true, true, true, true, true, false, false, false, false] rfl rfl (by kernel_rfl) (fun _ _ _ h => h) (Or.inl ⟨by rfl, ?_⟩) ?_ ?_
                        rotate_left
                        · intro w'
                          go_simp
                          first | done | with_reducible rfl | rfl | (simp [Instr.field, go_sem]; rfl)
                        rotate_left
                        · simp only [Act.put, List.setIfInBounds_toArray, List.set_cons_zero, List.set_cons_succ, i64_w, i32_w]
                          rfl
                        refine take_ (i := 10) (N := some 140) (v := ?_) (a' := ?_) #[true, true, true, true, true, true, true, true, true, true, true, false, false, false] rfl rfl (by kernel_rfl) (fun _ _ _ h => h) (Or.inl ⟨by rfl, ?_⟩) hHeld ?_ ?_
                        rotate_left
                        · rintro w' ⟨s0, s1, s2⟩
                          go_simp
                          first | done | with_reducible rfl | rfl | (simp [Instr.field, go_sem]; rfl)
                        rotate_left
                        · simp only [Act.put, List.setIfInBounds_toArray, List.set_cons_zero, List.set_cons_succ, i64_w, i32_w]
                          rfl
                        refine one_ (i := 11) (N := some 141) #[true, true, true, true, true, true, true, true, true, true, true, true, false, false] rfl rfl (by kernel_rfl) (by decide) (fun K hK => ?_)
                        refine goes_ Try.func11 (by kernel_rfl) rfl #[.pointer (some ⟨ga, q * 4, none⟩), .int .u64 b, .agg #[.int .u64 v.f0, .int .u64 v.f1]] (by rfl) rfl rfl (by (try simp only [List.map_toArray, List.map_cons, List.map_nil]); first | done | rfl) ?_
                        refine (acc_no_is w _ ga n (accT T1 G b v q) q b v a HPA.out hqlt HB0.out HLE2.out HAx.out).mono ?_
                        rintro e wz ⟨rfl, hb_⟩
                        refine ⟨_, rfl, ?_⟩
                        have HAy := Aside0.mk (HAx.out.below hb_)
                        have HKy := Aside0.mk (KeepBut.trans HKx.out (KeepBut.of_below hb_ ga none) (.inl rfl))
                        have HBy := Aside0.mk (below_step HBx.out hb_)
                        have J11y := Aside0.mk (blk_below J11x.out hb_)
                        have J20y := Aside0.mk (blk_below J20x.out hb_)
                        clear HAx HKx HBx J11x J20x hHeld hb_
                        have HAx := HAy
                        have HKx := HKy
                        have HBx := HBy
                        have J11x := J11y
                        have J20x := J20y
                        clear HAy HKy HBy J11y J20y
                        refine hK _ _ ⟨(blk_cell J11x.out 2).trans rfl, (blk_cell J20x.out 0).trans rfl, (blk_cell J20x.out 1).trans rfl⟩ (fun hHeld => ?_)
                        clear hK K
                        refine norm_ (a' := ?_) ?_ ?_
                        rotate_left
                        · show Act.put _ (some 141) _ = _
                          simp only [Act.put, List.setIfInBounds_toArray, List.set_cons_zero, List.set_cons_succ, i64_w, i32_w]
                          rfl
                        refine pure_ (i := 12) (N := some 142) (v := ?_) (a' := ?_) #[true, true, true, true, true, true, true, true, true, true, true, true, true, false] rfl rfl (by kernel_rfl) (fun _ _ _ h => h) (Or.inl ⟨by rfl, ?_⟩) ?_ ?_
                        rotate_left
                        · intro w'
                          go_simp
                          first | done | with_reducible rfl | rfl | (simp [Instr.field, go_sem]; rfl)
                        rotate_left
                        · simp only [Act.put, List.setIfInBounds_toArray, List.set_cons_zero, List.set_cons_succ, i64_w, i32_w]
                          rfl
                        refine pure_ (i := 13) (N := some 143) (v := ?_) (a' := ?_) #[true, true, true, true, true, true, true, true, true, true, true, true, true, true] rfl rfl (by kernel_rfl) (fun _ _ _ h => h) (Or.inl ⟨by rfl, ?_⟩) ?_ ?_
                        rotate_left
                        · intro w'
                          go_simp
                          first | done | with_reducible rfl | rfl | (simp [Instr.field, go_sem]; rfl)
                        rotate_left
                        · simp only [Act.put, List.setIfInBounds_toArray, List.set_cons_zero, List.set_cons_succ, i64_w, i32_w]
                          rfl
                        refine done_ (by kernel_rfl) ?_
                        clear hHeld
                        go_wp2
                        go_roundw
                        case rel => exact ⟨q + 1, by go_num, by rw [up_same _ q HOK.out], ⟨hqlt⟩, ⟨HAx.out.ext (fun i _ => accT_no T1 G b v q HOK.out i)⟩, HKx, HBx⟩
                        case measure => simp [intOf]; omega
                  · obtain rfl : q = n := by have := hq.out; omega
                    have hmj := major_up (ok1 T1 G b) q (by omega)
                    have HKf := Aside0.mk (KeepBut.trans HKe.out HKr.out (.inl rfl))
                    have HOr := Aside0.mk (R_keeplow HOq.out HKf.out GA4.out)
                    have z0 := (blk_cell J20r.out 0).trans rfl
                    have z1 := (blk_cell J20r.out 1).trans rfl
                    by_cases hm2 : q < 2 * cntB (ok1 T1 G b) q
                    · rw [decide_eq_true hm2] at hmj
                      have HMJ2 := Aside0.mk hmj
                      have HI2 := HINV.out
                      rw [if_pos hm2] at HI2
                      have HI3 := Aside0.mk HI2
                      have hcl := HCL.out
                      clear hmj hm2 HI2 hqlt hq
                      go_wp2_with (first | (go_at_call 18; refine (conventicleref05_Major.calls 65 _ _ true _ HMJ2.out).mono ?_; rintro e wM ⟨rfl, hb_⟩; have HBM := Aside0.mk hb_; have HOM := Aside0.mk (Kd.R_below HOr.out hb_); have J20M := Aside0.mk (blk_below J20r.out hb_); have zz0 := (blk_cell J20M.out 0).trans rfl; have zz1 := (blk_cell J20M.out 1).trans rfl; have HSM := Aside0.mk (Nat.le_trans HSq.out (Nat.le_trans HKf.out.1 hb_.size)); clear hb_) | ((with_reducible refine gate_builtin (b := .append) (xs := #[.tmp 150, .tmp 152]) rfl ?_); at_builtin; refine Kd.R_append k27 w4.heap.size rfl (.tmp 150) (.tmp 152) 54 27 (.agg #[.int .u64 0, .int .u64 0]) 16 rfl Try.underlying54 (by kernel_rfl) rfl (by decide) (by decide) _ (ch) v [.int .u64 v.f0, .int .u64 v.f1] (fun _ => True) (fun _ => False) rfl rfl ?aP (fun _ hk => hk.elim) ?aF ?aO (Below.refl _ _) ?aS ?aL ?_; (case aP => exact k27_mkM _ _ _ v); (case aF => exact fun _ _ => trivial); (case aO => exact HOM.out); (case aS => exact HSM.out); (case aL => omega); intro v1 w2_ ho_ hb_ hg_ hat_; have HOf := Aside0.mk ho_; have HB2 := Aside0.mk hb_; clear ho_ hb_ hg_ hat_))
                      go_roundw
                      case rel => exact ⟨j + 1, accT T1 G b v q, upd rd k s, ch ++ [v], b, by go_num, ⟨hlt⟩, ⟨HI3.out⟩, ⟨fun k' => by have h1 := HRB.out k'; have h2 := HRB.out k; have h3 := HS1.out; unfold upd; split <;> omega⟩, ⟨by rw [List.length_append, List.length_singleton]; omega⟩, ⟨(HAr.out.below HBM.out).low HB2.out GA4.out⟩, ⟨((HRq.out.keep HKf.out (Ne.symm NG.out)).below HBM.out).low HB2.out G84.out⟩, HOf, ⟨Below.trans (below_step HBr.out HBM.out) (Below.mono HB2.out HS4.out)⟩, ⟨Nat.le_trans HSM.out HB2.out.size⟩⟩
                      case measure => simp [intOf]; omega
                    · rw [decide_eq_false hm2] at hmj
                      have HMJ2 := Aside0.mk hmj
                      have HI2 := HINV.out
                      rw [if_neg hm2] at HI2
                      have HI3 := Aside0.mk HI2
                      have hcl := HCL.out
                      clear hmj hm2 HI2 hqlt hq
                      go_wp2_with (go_at_call 18; refine (conventicleref05_Major.calls 65 _ _ false _ HMJ2.out).mono ?_; rintro e wM ⟨rfl, hb_⟩; have HBM := Aside0.mk hb_; have HOf := Aside0.mk (Kd.R_below HOr.out hb_); have HKM := Aside0.mk (KeepBut.trans HKf.out (KeepBut.of_below hb_ ga none) (.inl rfl)); clear hb_)
                      go_roundw
                      case rel => exact ⟨j + 1, accT T1 G b v q, upd rd k s, ch, b, by go_num, ⟨hlt⟩, ⟨HI3.out⟩, ⟨fun k' => by have h1 := HRB.out k'; have h2 := HRB.out k; have h3 := HS1.out; unfold upd; split <;> omega⟩, ⟨by omega⟩, ⟨HAr.out.below HBM.out⟩, ⟨HRq.out.keep HKM.out (Ne.symm NG.out)⟩, HOf, ⟨below_step HBr.out HBM.out⟩, ⟨Nat.le_trans HSq.out (HKM.out).1⟩⟩
                      case measure => simp [intOf]; omega
            · rw [decide_eq_false hmaj] at hmj
              have HMJ := Aside0.mk hmj
              have hcl := HCL.out
              have HI3 := Aside0.mk (AInv.heard HI.out k s HS1.out.1 F b)
              clear hmj hmaj hqlt hq
              go_wp2_with (go_at_call 18; refine (conventicleref05_Major.calls 65 _ _ false _ HMJ.out).mono ?_; rintro e wM ⟨rfl, hb_⟩; have HBM := Aside0.mk hb_; have HOf := Aside0.mk (Kd.R_below (R_keeplow HOq.out HKr.out GA4.out) hb_); have HKM := Aside0.mk (KeepBut.trans HKr.out (KeepBut.of_below hb_ ga none) (.inl rfl)); clear hb_)
              go_roundw
              case rel => exact ⟨j + 1, prepT T F b n, upd rd k s, ch, B, by go_num, ⟨hlt⟩, ⟨HI3.out⟩, ⟨fun k' => by have h1 := HRB.out k'; have h2 := HRB.out k; have h3 := HS1.out; unfold upd; split <;> omega⟩, ⟨by omega⟩, ⟨HAr.out.below HBM.out⟩, ⟨HRq.out.keep HKM.out (Ne.symm NG.out)⟩, HOf, ⟨below_step HBr.out HBM.out⟩, ⟨Nat.le_trans HSq.out (HKM.out).1⟩⟩
              case measure => simp [intOf]; omega
      · obtain rfl : j = l.length := by have := hj.out; omega
        obtain ⟨A9, c9, rfl⟩ := Kd.R_slice HO.out
        have HALL := Aside0.mk HI.out.all
        have hcl : ch.length ≤ 100 := by have := HCL.out; omega
        clear hlt hj
        go_wp2
        rename World => wf
        go_loopw [24] (fun i wr => ∃ q : Nat, i = .int .i64 q ∧ Aside0 (1 ≤ q) ∧ Aside0 (q ≤ ch.length + 1) ∧ Aside0 (Below wf.heap.size wf wr))
          (fun i _ => ch.length + 1 - (intOf i).toNat)
        case atStart => exact ⟨1, rfl, ⟨Nat.le_refl _⟩, ⟨by omega⟩, ⟨Below.refl _ _⟩⟩
        case round =>
          obtain ⟨q, rfl, hq1, hq, HBr⟩ := hrel
          by_cases hqlt : q < ch.length
          · obtain ⟨g9, cap, e, -, -, -⟩ := Kd.R_form HO.out (by omega)
            simp only [Value.slice.injEq] at e
            obtain ⟨rfl, -, rfl⟩ := e
            obtain ⟨p, hp⟩ : ∃ p, ch[q]? = some p := ⟨_, List.getElem?_eq_getElem hqlt⟩
            have hp0 : ch[0]? = some p := by
              rw [List.getElem?_eq_getElem (by omega : 0 < ch.length)]
              exact congrArg some (HALL.out _ (List.getElem_mem _) _ (List.mem_of_getElem? hp))
            have HP := Aside0.mk hp
            have HP0 := Aside0.mk hp0
            have pq0 : ((0 : Int) ≤ (q : Int)) = True := eq_true (by omega)
            have pq1 : ((q : Int) < (ch.length : Int)) = True := eq_true (by omega)
            have p00 : ((0 : Int) < (ch.length : Int)) = True := eq_true (by omega)
            have p01 : (0 < ch.length) = True := eq_true (by omega)
            have p02 : (ch = []) = False := eq_false (by intro e; rw [e] at hqlt; simp at hqlt)
            have HBx := Aside0.mk (below_drew1 HBr.out)
            clear hp hp0
            go_upto_region 42 with (fail)
            refine start_ (n := 8) (S := fun w' => w'.cell? ⟨g9, q * 2, none⟩ = some (.int .u64 p.f0) ∧ w'.cell? ⟨g9, q * 2 + 1, none⟩ = some (.int .u64 p.f1) ∧ w'.cell? ⟨g9, 0, none⟩ = some (.int .u64 p.f0) ∧ w'.cell? ⟨g9, 1, none⟩ = some (.int .u64 p.f1)) (ds := []) #[false, false, false, false, false, false, false, false] (by kernel_rfl) rfl rfl ⟨(row27_at (Kd.R_below HO.out HBx.out) q p HP.out).1, (row27_at (Kd.R_below HO.out HBx.out) q p HP.out).2, by have := (row27_at (Kd.R_below HO.out HBx.out) 0 p HP0.out).1; simpa using this, by have := (row27_at (Kd.R_below HO.out HBx.out) 0 p HP0.out).2; simpa using this⟩ (fun hHeld => ?_)
            generalize wr.drew = wx at HBx hHeld ⊢
            refine pure_ (i := 0) (N := some 160) (v := ?_) (a' := ?_) #[true, false, false, false, false, false, false, false] rfl rfl (by kernel_rfl) (fun _ _ _ h => h) (Or.inl ⟨by rfl, ?_⟩) ?_ ?_
            rotate_left
            · intro w'
              go_simp
              first | done | with_reducible rfl | rfl | (simp [Instr.field, go_sem]; rfl)
            rotate_left
            · simp only [Act.put, List.setIfInBounds_toArray, List.set_cons_zero, List.set_cons_succ, i64_w, i32_w]
              rfl
            refine pure_ (i := 1) (N := some 161) (v := ?_) (a' := ?_) #[true, true, false, false, false, false, false, false] rfl rfl (by kernel_rfl) (fun _ _ _ h => h) (Or.inl ⟨by rfl, ?_⟩) ?_ ?_
            rotate_left
            · intro w'
              go_simp
              first | done | with_reducible rfl | rfl | (simp [Instr.field, go_sem]; rfl)
            rotate_left
            · simp only [Act.put, List.setIfInBounds_toArray, List.set_cons_zero, List.set_cons_succ, i64_w, i32_w]
              rfl
            refine pure_ (i := 2) (N := some 162) (v := ?_) (a' := ?_) #[true, true, true, false, false, false, false, false] rfl rfl (by kernel_rfl) (fun _ _ _ h => h) (Or.inl ⟨by rfl, ?_⟩) ?_ ?_
            rotate_left
            · intro w'
              go_simp
              first | done | with_reducible rfl | rfl | (simp [Instr.field, go_sem]; rfl)
            rotate_left
            · simp only [Act.put, List.setIfInBounds_toArray, List.set_cons_zero, List.set_cons_succ, i64_w, i32_w]
              rfl
            refine pure_ (i := 4) (N := some 164) (v := ?_) (a' := ?_) #[true, true, true, false, true, false, false, false] rfl rfl (by kernel_rfl) (fun _ _ _ h => h) (Or.inl ⟨by rfl, ?_⟩) ?_ ?_
            rotate_left
            · intro w'
              go_simp
              first | done | with_reducible rfl | rfl | (simp [Instr.field, go_sem]; rfl)
            rotate_left
            · simp only [Act.put, List.setIfInBounds_toArray, List.set_cons_zero, List.set_cons_succ, i64_w, i32_w]
              rfl
            refine pure_ (i := 5) (N := some 165) (v := ?_) (a' := ?_) #[true, true, true, false, true, true, false, false] rfl rfl (by kernel_rfl) (fun _ _ _ h => h) (Or.inl ⟨by rfl, ?_⟩) ?_ ?_
            rotate_left
            · intro w'
              go_simp
              first | done | with_reducible rfl | rfl | (simp [Instr.field, go_sem]; rfl)
            rotate_left
            · simp only [Act.put, List.setIfInBounds_toArray, List.set_cons_zero, List.set_cons_succ, i64_w, i32_w]
              rfl
            refine take_ (i := 3) (N := some 163) (v := ?_) (a' := ?_) #[true, true, true, true, true, true, false, false] rfl rfl (by kernel_rfl) (fun _ _ _ h => h) (Or.inl ⟨by rfl, ?_⟩) hHeld ?_ ?_
            rotate_left
            · rintro w' ⟨s0, s1, s2, s3⟩
              go_simp
              first | done | with_reducible rfl | rfl | (simp [Instr.field, go_sem]; rfl)
            rotate_left
            · simp only [Act.put, List.setIfInBounds_toArray, List.set_cons_zero, List.set_cons_succ, i64_w, i32_w]
              rfl
            refine take_ (i := 6) (N := some 166) (v := ?_) (a' := ?_) #[true, true, true, true, true, true, true, false] rfl rfl (by kernel_rfl) (fun _ _ _ h => h) (Or.inl ⟨by rfl, ?_⟩) hHeld ?_ ?_
            rotate_left
            · rintro w' ⟨s0, s1, s2, s3⟩
              go_simp
              first | done | with_reducible rfl | rfl | (simp [Instr.field, go_sem]; rfl)
            rotate_left
            · simp only [Act.put, List.setIfInBounds_toArray, List.set_cons_zero, List.set_cons_succ, i64_w, i32_w]
              rfl
            refine pure_ (i := 7) (N := some 167) (v := ?_) (a' := ?_) #[true, true, true, true, true, true, true, true] rfl rfl (by kernel_rfl) (fun _ _ _ h => h) (Or.inl ⟨by rfl, ?_⟩) ?_ ?_
            rotate_left
            · intro w'
              go_simp
              first | done | with_reducible rfl | rfl | (simp [Instr.field, go_sem]; rfl)
            rotate_left
            · simp only [Act.put, List.setIfInBounds_toArray, List.set_cons_zero, List.set_cons_succ, i64_w, i32_w]
              rfl
            refine done_ (by kernel_rfl) ?_
            clear hHeld
            go_wp2
            go_roundw
            case rel => exact ⟨q + 1, by go_num, ⟨by omega⟩, ⟨by omega⟩, HBx⟩
            case measure => simp [intOf]; omega
          · go_wp2
            go_ret
            exact ⟨rfl, below_step HB.out HBr.out⟩
theorem mod7 {a : Int} (h : 0 ≤ a ∧ a ≤ 255) : ∃ k : Nat, Int.tmod (wrap64 a) 7 = k ∧ k < 7 := by
  rw [show wrap64 a = a by unfold wrap64; omega, Int.tmod_eq_emod_of_nonneg h.1]
  exact ⟨(a % 7).toNat, by omega, by omega⟩
theorem wf_u16 {a : Int} (h : (Lit.int .u16 a).wf = true) : 0 ≤ a ∧ a ≤ 65535 := by
  simp [Lit.wf, IntKind.min, IntKind.max, IntKind.signed, IntKind.bits] at h; omega
theorem ballotAgrees_row (a0 : Int) (A : Option Addr) (c : Nat) (l : List S57) (w : World) (w0 : (Lit.int .u8 a0).wf = true) (hr : Kd.C k57 w A l.length l) (_ : l.length ≤ c) (hl : ∀ t ∈ l, (Lit.int .u8 t.node).wf = true ∧ (Lit.int .u8 t.fr).wf = true ∧ (Lit.int .u8 t.to_).wf = true ∧ (Lit.int .u8 t.skip).wf = true ∧ (Lit.int .u16 t.want).wf = true) :
    Calls Try.prog 6 #[.int .u8 a0, .slice A l.length c] w fun e w' => e = .returned (.bool true) ∧ Below w.heap.size w w' := by
  obtain ⟨k, hk, hk7⟩ := mod7 (wf_u8 w0)
  exact agrees_walk w A c l a0 k hk hk7 (fun t ht => ⟨wf_u8 (hl t ht).1, wf_u8 (hl t ht).2.1, wf_u8 (hl t ht).2.2.1, wf_u8 (hl t ht).2.2.2.1, wf_u16 (hl t ht).2.2.2.2⟩) hr
end Go.Proofs.Ytnlppniejeemlaa.B
