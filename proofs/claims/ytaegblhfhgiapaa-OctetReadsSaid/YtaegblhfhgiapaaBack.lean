/- By hand: a text is written; a real is read; what was written stands ahead of what is behind it. -/
import Derived.Test.YtaegblhfhgiapaaStaysLaw
namespace Go.Proofs.Ytaegblhfhgiapaa.R
open Go.RowKit Go.Proofs.YtaegblhfhgiapaaW.PrintWords Go.Proofs.YtaegblhfhgiapaaW.PrintLast Go.Proofs.YtaegblhfhgiapaaW.PrintMore Go.Proofs.Ytaegblhfhgiapaa.B

set_option maxHeartbeats 1000000 in
theorem wtext_at (base g : Nat) (A : Option Addr) (c : Nat) (l : List Int) (s : ByteArray) (w : World) (hl : l.length ≤ 100000) (hs : (s.size : Int) ≤ 65535) (h : Wr w base g A c l) :
    Calls Try.prog 20 #[.pointer (some ⟨g, 0, none⟩), .string s] w fun e w' => e = .returned (.int .i64 0) ∧ Below base w w' ∧ ∃ A' c', Wr w' base g A' c' ((l ++ le 2 s.size) ++ bytesOf s) := by
  have HP := Aside0.mk (put_is base g A c l s.size 2 2 rfl w (by omega) (by decide) (by omega) h)
  have H := Aside0.mk h
  have hs' : ¬ (65535 : Int) < s.size := by omega
  have hxl : (l ++ le 2 (s.size : Int)).length ≤ 100002 := by rw [List.length_append, le_length]; omega
  generalize l ++ le 2 (s.size : Int) = xs at HP hxl ⊢
  have HX := Aside0.mk hxl
  have HSZ := Aside0.mk hs
  clear h hl hs hxl
  go_enter Try.func20, Try.ntmps20
  go_wp2_with (first
    | (go_at_call 30; (with_reducible refine HP.out.mono ?_); rintro e w1 ⟨rfl, B, d, hW, hS⟩; have W1 := Aside0.mk hW; have B1 := Aside0.mk (H.out.below hS); have hc : w1.cell? ⟨g, 0, none⟩ = some (.slice B xs.length d) := blk_cell hW.cell 0; clear hW hS)
    | (at_builtin; refine print_append_str base rfl (.tmp 17) (.tmp 18) 24 9 5 rfl Try.underlying24 Try.underlying9 (by kernel_rfl) (.slice B xs.length d) xs s rfl rfl W1.out.own (Below.refl base w1) (by have := W1.out.far; have := W1.out.lt; omega) (by have := HX.out; have := HSZ.out; omega) ?_; intro v1 w2 hown hB hg; have HG := Aside0.mk hg; have B2 := Aside0.mk hB; obtain ⟨B3, d3, rfl⟩ := own_slice hown; have HO := Aside0.mk hown; have HC1 := Aside0.mk ((hg.block g W1.out.lt (by rw [ownBlock_map]; exact fun e => W1.out.ne e.symm)).trans W1.out.cell); have hc1 : w2.cell? ⟨g, 0, none⟩ = some (Value.slice B xs.length d) := blk_cell HC1.out 0; have hf1 := blk_frozen HC1.out 0; clear hown hg hB hc))
  go_ret
  refine ⟨rfl, ?_, B3, d3, blk_put HC1.out 0 _ (by rw [List.length_append]; rfl), own_move HO.out (fun k hk => Below.heap_setCell w2 _ _ k ?_), W1.out.far⟩
  · exact (B1.out.trans B2.out).setCell W1.out.far _
  · rintro rfl
    obtain ⟨cells, hc⟩ := own_typed HO.out _ hk
    rw [HC1.out] at hc
    injection hc with hc
    injection hc with _ ht
    exact absurd ht (by decide)
theorem rreal_at (w0 w : World) (g : Nat) (s : ByteArray) (p : Int) (x : Nat) (hI : IsS63 w0 w g s p) (hB : Below w0.heap.size w0 w) (hn : octet_Reader_Number.f 10 s p 8 = some (rbits x, 0, s, p + 8)) :
    Calls Try.prog 23 #[.pointer (some ⟨g, 0, none⟩)] w fun e w' => e = .returned (.tuple #[.float .f64 (rbits x).toNat, .int .i64 0]) ∧ IsS63 w0 w' g s (p + 8) ∧ Below w0.heap.size w0 w' := by
  have HN := Aside0.mk (octet_Reader_Number.calls 10 g s p 8 _ _ _ _ w0 w hI hB hn)
  have HF1 := frombits_run 9221120237041090561
  have HF2 := frombits_run (rbits x)
  have odd : Flt.nan 9221120237041090561 = true := by decide
  have HI1 := Aside0.mk (fun w => odd ▸ isnan_at 9221120237041090561 w)
  clear hI hB hn
  cases hx : Flt.nan x
  · have e : rbits x = (x : Int) := by unfold rbits; rw [hx]; rfl
    rw [e] at HN HF2 ⊢
    rw [Int.toNat_natCast] at HF2 ⊢
    have HI := Aside0.mk (fun w => hx ▸ isnan_at x w)
    clear e hx odd
    go_enter Try.func23, Try.ntmps23
    go_wp2_with (first
      | (go_at_call 15; (with_reducible refine HN.out.mono ?_); rintro e w1 ⟨rfl, hI, hb, _⟩; have I := Aside0.mk hI; have B := Aside0.mk hb; clear hI hb)
      | (go_at_call 31; (with_reducible refine (HI.out _).mono ?_); rintro e w2 ⟨rfl, rfl⟩))
    go_ret2
    exact ⟨rfl, I.out, B.out⟩
  · have e : rbits x = 9221120237041090561 := by unfold rbits; rw [hx]; rfl
    rw [e] at HN ⊢
    clear HF2 e hx odd
    go_enter Try.func23, Try.ntmps23
    go_wp2_with (first
      | (go_at_call 15; (with_reducible refine HN.out.mono ?_); rintro e w1 ⟨rfl, hI, hb, _⟩; have I := Aside0.mk hI; have B := Aside0.mk hb; clear hI hb)
      | (go_at_call 31; (with_reducible refine (HI1.out _).mono ?_); rintro e w2 ⟨rfl, rfl⟩))
    go_ret2
    exact ⟨rfl, I.out, B.out⟩
/-- the bytes of what was written, and what is behind it -/
theorem bt_front (L : List Int) (rest : ByteArray) (hL : ∀ x ∈ L, 0 ≤ x ∧ x < 256) (j : Nat) (x : Int) (h : L[j]? = some x) : bt (strOfNums L ++ rest) j = x := by
  have hj : j < L.length := (List.getElem?_eq_some_iff.1 h).1
  have hx := hL x (List.mem_of_getElem? h)
  have hs : j < (strOfNums L ++ rest).size := by rw [ByteArray.size_append, strOfNums_size]; omega
  have hb := bt_at (strOfNums L ++ rest) (j : Int) (by rw [Int.toNat_natCast]; exact hs)
  rw [← hb]
  have e : (strOfNums L ++ rest)[(j : Int).toNat]'(by rw [Int.toNat_natCast]; exact hs) = UInt8.ofNat x.toNat := by
    have h1 : (strOfNums L ++ rest).data.toList[j]? = some (UInt8.ofNat x.toNat) := by
      rw [ByteArray.data_append, Array.toList_append, strOfNums_data, List.getElem?_append_left (by rw [List.length_map]; exact hj), List.getElem?_map, h]
      rfl
    have h2 := (List.getElem?_eq_some_iff.1 h1).2
    rw [← h2]
    rfl
  rw [e, UInt8.toNat_ofNat']
  omega
theorem rdv_front (rest : ByteArray) : ∀ (i : Nat) (A C : List Int) (v : Int), (∀ x ∈ A ++ le i v ++ C, 0 ≤ x ∧ x < 256) → 0 ≤ v → v < 256 ^ i → rdv (strOfNums (A ++ le i v ++ C) ++ rest) A.length i = v
  | 0, A, C, v, _, h0, h1 => by simp at h1; rw [rdv]; omega
  | i + 1, A, C, v, hL, h0, h1 => by
    have e : A ++ le (i + 1) v ++ C = (A ++ [v % 256]) ++ le i (v / 256) ++ C := by rw [le]; simp
    have hp : (256 : Int) ^ (i + 1) = 256 * 256 ^ i := by rw [Int.pow_succ, Int.mul_comm]
    rw [hp] at h1
    have hb := bt_front (A ++ le (i + 1) v ++ C) rest hL A.length (v % 256) (by rw [le]; simp)
    have ih := rdv_front rest i (A ++ [v % 256]) C (v / 256) (by rw [← e]; exact hL) (by omega) (by omega)
    rw [← e, List.length_append, List.length_singleton] at ih
    rw [rdv, hb, ih]
    omega
theorem bytesOf_byte (s : ByteArray) : ∀ x ∈ bytesOf s, 0 ≤ x ∧ x < 256 := by
  intro x hx
  obtain ⟨b, _, rfl⟩ := List.mem_map.1 hx
  have := b.toNat_lt
  omega
theorem strOf_bytesOf (A : List Int) (s : ByteArray) : (strOfNums (A ++ bytesOf s)).data.toList = (strOfNums A).data.toList ++ s.data.toList := by
  rw [strOfNums_data, strOfNums_data, List.map_append]
  congr 1
  unfold bytesOf
  rw [List.map_map]
  have : ((fun n : Int => UInt8.ofNat n.toNat) ∘ fun b : UInt8 => (b.toNat : Int)) = id := by
    funext b
    simp
  rw [this, List.map_id]
theorem cut_back (A : List Int) (s rest : ByteArray) : (strOfNums (A ++ bytesOf s) ++ rest).extract A.length (A.length + s.size) = s := by
  apply ByteArray.ext
  apply Array.toList_inj.1
  rw [ByteArray.data_extract, Array.toList_extract, ByteArray.data_append, Array.toList_append, strOf_bytesOf]
  have hA : (strOfNums A).data.toList.length = A.length := by rw [strOfNums_data, List.length_map]
  have hs : s.data.toList.length = s.size := data_length s
  rw [List.extract_eq_take_drop]
  rw [List.append_assoc, List.drop_append_of_le_length (by omega), ← hA, List.drop_length, List.nil_append, Nat.add_sub_cancel_left, ← hs, List.take_append_of_le_length (Nat.le_refl _), List.take_length]
end Go.Proofs.Ytaegblhfhgiapaa.R
